/- Yh Ye Yl Ca: shortened and put together by squeeze.py. -/
import Derived.Test.YtlaafmiejkebgaaGreatQ06
set_option maxRecDepth 100000
set_option maxHeartbeats 4000000
set_option linter.unusedVariables false
set_option linter.unusedSectionVars false
set_option linter.unusedSimpArgs false
namespace Go.Proofs.YtlaafmiejkebgaaGreat
open Go.RowKit
structure GSource where
  made : Bool
  state : BitVec 64
deriving DecidableEq, Inhabited
abbrev GSource.enc (x : GSource) : List Value := [.bool x.made, U x.state]
theorem GSource.len (x : GSource) : (GSource.enc x).length = 2 := rfl
def zan (seed : Int) : Option GSource :=
  (some (GSource.mk true (BitVec.ofInt 64 seed)))
theorem zeA (F0 : Frz) (w : World) (hF0 : F0.At w) (seed : Int) : Calls Tryz.prog 42 #[.int .i64 seed] w fun e w' => (((zan seed)).isSome = true → ∃ (y : Nat) (G : Frz), (True) ∧ e = .returned (.pointer (some ⟨y, 0, none⟩)) ∧ FxM F0 w (fps []) G [.row y 122 [.bool (((zan seed).getD default).made), U (((zan seed).getD default).state)]] w') ∧ (((zan seed)).isSome = false → ∃ (y : Unit) (G : Frz), (True) ∧ e = .returned (.pointer none) ∧ FxM F0 w (fps []) G [] w') := by
  obtain ⟨r, hk⟩ : ∃ r, zan seed = r := ⟨_, rfl⟩; rw [hk]; unfold zan at hk; obtain ⟨S0, F1, rfl, hS0, hp0⟩ := zag hF0; rw [zhb]; refine zak Tryz.func42 rfl rfl rfl hp0 ?_; refine T.sr ?_; refine TL.run 1 rfl ?_; refine TL.nx ?_; refine TL.run 1 rfl ?_; refine TL.y (Yv.az (z := seed) rfl rfl) ?_; refine TL.y (Yv.build rfl rfl) ?_; refine TL.e (Ew.aw rfl rfl) ?_; rintro _ _ ⟨g6, rfl, rfl⟩; refine TL.run 1 rfl ?_; refine TL.ns (T.ret ?_); subst hk; exact K.ah rfl rfl (fun w' hw => ⟨fun _ => ⟨g6, F1.toFrz, trivial, rfl, FxM.of (hw.pick (idx := [0, 1]) rfl (by decide)) hS0 (Frz.Le.refl _)⟩, fun h => (by cases h)⟩)
def zaC (x0_ : GSource) : Bool :=
  x0_.made
theorem zbN (F0 : Frz) (w : World) (hF0 : F0.At w) (x0_ : GSource) (g0_ : Nat) (hO : Hp w (fps [.row g0_ 122 [.bool x0_.made, U x0_.state]]) [.row g0_ 122 [.bool x0_.made, U x0_.state]] w) (hA : ∀ g, fps [.row g0_ 122 [.bool x0_.made, U x0_.state]] g → ¬ F0.S g) : Calls Tryz.prog 68 #[.pointer (some ⟨g0_, 0, none⟩)] w fun e w' => ∃ (y : Unit), (True) ∧ e = .returned (.bool (zaC x0_)) ∧ FxM F0 w (fps [.row g0_ 122 [.bool x0_.made, U x0_.state]]) F0 [.row g0_ 122 [.bool x0_.made, U x0_.state]] w' := by
  obtain ⟨r, hk⟩ : ∃ r, zaC x0_ = r := ⟨_, rfl⟩; rw [hk]; unfold zaC at hk; obtain ⟨S0, F1, rfl, hS0, hp0⟩ := zbG hF0 hO hA; refine zak (hs := [.row g0_ 122 [.bool x0_.made, U x0_.state], .fr F1]) Tryz.func68 rfl rfl rfl hp0 ?_; refine T.sr ?_; refine TL.run 1 rfl ?_; refine TL.ns (T.seq ?_); refine T.ad (ι := Unit) (fun z => [(2, .bool x0_.made)]) (fun z => [.row g0_ 122 [.bool x0_.made, U x0_.state], .fr F1]) (fun z => True) ?_ ?_
  · refine T.region ?_; refine TL.run 1 rfl ?_; refine TL.y (Yv.ce (e := 122) (by kernel_rfl) rfl rfl rfl) ?_; refine TL.run 3 rfl ?_; refine TL.y (Yv.fieldAddr rfl rfl) ?_; refine TL.y (Yv.af 0 rfl rfl rfl rfl) ?_; refine TL.run 2 rfl ?_; refine TL.nil ?_; exact K.ab () trivial (.c .nil) (List.Sublist.refl _)
  · rintro _ _; refine T.ret ?_; subst hk; exact K.ah rfl rfl (fun w' hw => ⟨⟨⟩, trivial, rfl, FxM.of (hw.pick (idx := [0, 1]) rfl (by decide)) hS0 (Frz.Le.refl _)⟩)
def zah (x0_ : GSource) : BitVec 64 × BitVec 64 :=
  (bif !(zaC x0_) then
    (0#64, x0_.state)
    else
    (((((((x0_.state + (11400714819323198485#64)) ^^^ ((x0_.state + (11400714819323198485#64)) >>> 30)) * (13787848793156543929#64)) ^^^ ((((x0_.state + (11400714819323198485#64)) ^^^ ((x0_.state + (11400714819323198485#64)) >>> 30)) * (13787848793156543929#64)) >>> 27)) * (10723151780598845931#64)) ^^^ ((((((x0_.state + (11400714819323198485#64)) ^^^ ((x0_.state + (11400714819323198485#64)) >>> 30)) * (13787848793156543929#64)) ^^^ ((((x0_.state + (11400714819323198485#64)) ^^^ ((x0_.state + (11400714819323198485#64)) >>> 30)) * (13787848793156543929#64)) >>> 27)) * (10723151780598845931#64)) >>> 31)), (x0_.state + (11400714819323198485#64))))
theorem zbU (F0 : Frz) (w : World) (hF0 : F0.At w) (x0_ : GSource) (g0_ : Nat) (hO : Hp w (fps [.row g0_ 122 [.bool x0_.made, U x0_.state]]) [.row g0_ 122 [.bool x0_.made, U x0_.state]] w) (hA : ∀ g, fps [.row g0_ 122 [.bool x0_.made, U x0_.state]] g → ¬ F0.S g) : Calls Tryz.prog 69 #[.pointer (some ⟨g0_, 0, none⟩)] w fun e w' => ∃ (y : Unit), (True) ∧ e = .returned (U ((zah x0_).1)) ∧ FxM F0 w (fps [.row g0_ 122 [.bool x0_.made, U x0_.state]]) F0 [.row g0_ 122 [.bool x0_.made, U ((zah x0_).2)]] w' := by
  obtain ⟨r, hk⟩ : ∃ r, zah x0_ = r := ⟨_, rfl⟩; rw [hk]; unfold zah at hk; obtain ⟨S0, F1, rfl, hS0, hp0⟩ := zbG hF0 hO hA; refine zak (hs := [.row g0_ 122 [.bool x0_.made, U x0_.state], .fr F1]) Tryz.func69 rfl rfl rfl hp0 ?_; refine T.sr ?_; refine TL.run 1 rfl ?_; refine TL.ns (T.seq (T.sr ?_)); refine TL.run 1 rfl ?_; refine TL.e (Ew.aB [0, 1] [.row g0_ 122 [.bool x0_.made, U x0_.state]] [] rfl rfl rfl rfl (by decide) (fun w hw hw2 hF => zbN _ w hF x0_ g0_ hw2.takes.1 hw2.takes.2)) ?_; rintro _ _ ⟨⟨⟩, -, rfl, rfl⟩; dsimp only [List.cons_append, List.nil_append]; refine TL.run 1 rfl ?_; refine TL.ns ?_; refine T.cond rfl (fun h1 => ?_) (fun h1 => ?_)
  · replace hk := zaa hk h1; refine T.sr ?_; refine TL.run 1 rfl ?_; refine TL.ns (T.ret (K.a ?_)); subst hk; exact K.ah rfl rfl (fun w' hw => ⟨⟨⟩, trivial, rfl, FxM.of (hw.pick (idx := [0, 1]) rfl (by decide)) hS0 (Frz.Le.refl _)⟩)
  · replace hk := zab hk h1; refine T.skip (K.seq (T.sr ?_)); refine TL.run 2 rfl ?_; refine TL.y (Yv.fieldAddr rfl rfl) ?_; refine TL.y (Yv.af 0 rfl rfl rfl rfl) ?_; refine TL.y (Yv.bF (a := x0_.state) (b := 11400714819323198485#64) rfl rfl rfl) ?_; refine TL.run 1 rfl ?_; refine TL.y (Yv.fieldAddr rfl rfl) ?_; refine TL.e0 (Ew.aP 0 rfl rfl rfl rfl (by simp)) ?_; rintro _ _ ⟨rfl, rfl⟩; refine TL.nx ?_; refine TL.run 2 rfl ?_; refine TL.y (Yv.fieldAddr rfl rfl) ?_; refine TL.y (Yv.af 0 rfl rfl rfl rfl) ?_; refine TL.run 1 rfl ?_; refine TL.nx ?_; refine TL.run 2 rfl ?_; refine TL.y (Yv.aT (a := (x0_.state + (11400714819323198485#64))) 30 rfl rfl rfl (show (30 : Int) = ((30 : Nat) : Int) from rfl) (by omega)) ?_; refine TL.y (Yv.bJ (a := (x0_.state + (11400714819323198485#64))) (b := ((x0_.state + (11400714819323198485#64)) >>> 30)) rfl rfl rfl) ?_; refine TL.y (Yv.bV (a := ((x0_.state + (11400714819323198485#64)) ^^^ ((x0_.state + (11400714819323198485#64)) >>> 30))) (b := 13787848793156543929#64) rfl rfl rfl) ?_; refine TL.run 1 rfl ?_; refine TL.nx ?_; refine TL.run 2 rfl ?_; refine TL.y (Yv.aT (a := (((x0_.state + (11400714819323198485#64)) ^^^ ((x0_.state + (11400714819323198485#64)) >>> 30)) * (13787848793156543929#64))) 27 rfl rfl rfl (show (27 : Int) = ((27 : Nat) : Int) from rfl) (by omega)) ?_; refine TL.y (Yv.bJ (a := (((x0_.state + (11400714819323198485#64)) ^^^ ((x0_.state + (11400714819323198485#64)) >>> 30)) * (13787848793156543929#64))) (b := ((((x0_.state + (11400714819323198485#64)) ^^^ ((x0_.state + (11400714819323198485#64)) >>> 30)) * (13787848793156543929#64)) >>> 27)) rfl rfl rfl) ?_; refine TL.y (Yv.bV (a := ((((x0_.state + (11400714819323198485#64)) ^^^ ((x0_.state + (11400714819323198485#64)) >>> 30)) * (13787848793156543929#64)) ^^^ ((((x0_.state + (11400714819323198485#64)) ^^^ ((x0_.state + (11400714819323198485#64)) >>> 30)) * (13787848793156543929#64)) >>> 27))) (b := 10723151780598845931#64) rfl rfl rfl) ?_; refine TL.run 1 rfl ?_; refine TL.nx ?_; refine TL.run 2 rfl ?_; refine TL.y (Yv.aT (a := (((((x0_.state + (11400714819323198485#64)) ^^^ ((x0_.state + (11400714819323198485#64)) >>> 30)) * (13787848793156543929#64)) ^^^ ((((x0_.state + (11400714819323198485#64)) ^^^ ((x0_.state + (11400714819323198485#64)) >>> 30)) * (13787848793156543929#64)) >>> 27)) * (10723151780598845931#64))) 31 rfl rfl rfl (show (31 : Int) = ((31 : Nat) : Int) from rfl) (by omega)) ?_; refine TL.y (Yv.bJ (a := (((((x0_.state + (11400714819323198485#64)) ^^^ ((x0_.state + (11400714819323198485#64)) >>> 30)) * (13787848793156543929#64)) ^^^ ((((x0_.state + (11400714819323198485#64)) ^^^ ((x0_.state + (11400714819323198485#64)) >>> 30)) * (13787848793156543929#64)) >>> 27)) * (10723151780598845931#64))) (b := ((((((x0_.state + (11400714819323198485#64)) ^^^ ((x0_.state + (11400714819323198485#64)) >>> 30)) * (13787848793156543929#64)) ^^^ ((((x0_.state + (11400714819323198485#64)) ^^^ ((x0_.state + (11400714819323198485#64)) >>> 30)) * (13787848793156543929#64)) >>> 27)) * (10723151780598845931#64)) >>> 31)) rfl rfl rfl) ?_; refine TL.run 1 rfl ?_; refine TL.ns (T.ret ?_); subst hk; exact K.ah rfl rfl (fun w' hw => ⟨⟨⟩, trivial, rfl, FxM.of (hw.pick (idx := [0, 1]) rfl (by decide)) hS0 (Frz.Le.refl _)⟩)
def zao (fuel : Nat) (x0_ : GSource) (limit : Int) : Option (Int × Int × BitVec 64) :=
  (bif !(zaC x0_) then
    some (0, 1, x0_.state)
    else
    (bif ((decide (limit < 1)) || (decide (4611686018427387904 < limit))) then
      some (0, 2, x0_.state)
      else
      grd (¬ (BitVec.ofInt 64 limit) = 0#64) <|
      zap (fun (s6 : BitVec 64 × BitVec 64) =>
        grd (¬ (BitVec.ofInt 64 limit) = 0#64) <|
        some ((wI ((s6.1 % (BitVec.ofInt 64 limit)).toNat : Int)), 0, s6.2))
      (fun k6 =>
        zaI (fun (next9 : (BitVec 64 × BitVec 64) → Option (Int × Int × BitVec 64)) (s9 : BitVec 64 × BitVec 64) =>
          (bif ((decide (((0#64).toNat : Int) < (((-(BitVec.ofInt 64 limit)) % (BitVec.ofInt 64 limit)).toNat : Int))) && (decide (((-((-(BitVec.ofInt 64 limit)) % (BitVec.ofInt 64 limit))).toNat : Int) ≤ (s9.1.toNat : Int)))) then
            next9 ((zah (GSource.mk x0_.made s9.2)).1, (zah (GSource.mk x0_.made s9.2)).2)
            else
            k6 (s9.1, s9.2))) fuel ((zah x0_).1, (zah x0_).2))))
theorem zaV (F0 : Frz) (w : World) (hF0 : F0.At w) (x0_ : GSource) (g0_ : Nat) (limit : Int) (hO : Hp w (fps [.row g0_ 122 [.bool x0_.made, U x0_.state]]) [.row g0_ 122 [.bool x0_.made, U x0_.state]] w) (hA : ∀ g, fps [.row g0_ 122 [.bool x0_.made, U x0_.state]] g → ¬ F0.S g) (fuel : Nat) (r : Int × Int × BitVec 64) (hr : zao fuel x0_ limit = some r) : Calls Tryz.prog 43 #[.pointer (some ⟨g0_, 0, none⟩), .int .i64 limit] w fun e w' => ∃ (y : Unit), (True) ∧ e = .returned (.tuple #[.int .i64 r.1, .int .i64 r.2.1]) ∧ FxM F0 w (fps [.row g0_ 122 [.bool x0_.made, U x0_.state]]) F0 [.row g0_ 122 [.bool x0_.made, U r.2.2]] w' := by
  have hk := hr; unfold zao at hk; obtain ⟨S0, F1, rfl, hS0, hp0⟩ := zbG hF0 hO hA; refine zak (hs := [.row g0_ 122 [.bool x0_.made, U x0_.state], .fr F1]) Tryz.func43 rfl rfl rfl hp0 ?_; refine T.sr ?_; refine TL.run 2 rfl ?_; refine TL.ns (T.seq (T.sr ?_)); refine TL.run 1 rfl ?_; refine TL.e (Ew.aB [0, 1] [.row g0_ 122 [.bool x0_.made, U x0_.state]] [] rfl rfl rfl rfl (by decide) (fun w hw hw2 hF => zbN _ w hF x0_ g0_ hw2.takes.1 hw2.takes.2)) ?_; rintro _ _ ⟨⟨⟩, -, rfl, rfl⟩; dsimp only [List.cons_append, List.nil_append]; refine TL.run 1 rfl ?_; refine TL.ns ?_; refine T.cond rfl (fun h1 => ?_) (fun h1 => ?_)
  · replace hk := zaa hk h1; refine T.sr ?_; refine TL.run 2 rfl ?_; refine TL.ns (T.ret (K.a ?_)); obtain rfl := Option.some.inj hk; exact K.aG rfl rfl rfl (fun w' hw => ⟨⟨⟩, trivial, rfl, FxM.of (hw.pick (idx := [0, 1]) rfl (by decide)) hS0 (Frz.Le.refl _)⟩)
  · replace hk := zab hk h1; refine T.skip (K.seq (T.seq (T.seq ?_))); refine T.ad (ι := Unit) (fun z => [(0, .pointer (some ⟨g0_, 0, none⟩)), (1, .int .i64 limit), (17, .bool ((decide (limit < 1)) || (decide (4611686018427387904 < limit))))]) (fun z => [.row g0_ 122 [.bool x0_.made, U x0_.state], .fr F1]) (fun z => True) ?_ ?_
    · refine T.region ?_; refine TL.run 3 rfl ?_; refine TL.gs rfl rfl rfl (fun h2 => ?_) (fun h2 => ?_)
      · have p2 := of_decide_eq_true h2; refine TL.run 3 rfl ?_; refine TL.nil ?_; exact K.ab () trivial (.c (.c (.b (zas h2).symm .nil))) (List.Sublist.refl _)
      · have p2 := of_decide_eq_false h2; refine TL.run 3 rfl ?_; refine TL.nil ?_; exact K.ab () trivial (.c (.c (.b (or_f h2) .nil))) (List.Sublist.refl _)
    · rintro _ _; refine T.cond rfl (fun h3 => ?_) (fun h3 => ?_)
      · replace hk := zaa hk h3; refine T.sr ?_; refine TL.run 2 rfl ?_; refine TL.ns (T.ret (K.a ?_)); obtain rfl := Option.some.inj hk; exact K.aG rfl rfl rfl (fun w' hw => ⟨⟨⟩, trivial, rfl, FxM.of (hw.pick (idx := [0, 1]) rfl (by decide)) hS0 (Frz.Le.refl _)⟩)
      · have p3 := h3; (try simp only [nfB] at p3); replace hk := zab hk h3; refine T.skip (K.seq (T.sr ?_)); refine TL.run 1 rfl ?_; refine TL.y (Yv.az (z := limit) rfl rfl) ?_; refine TL.run 1 rfl ?_; refine TL.ns (T.seq ?_); have hq : (¬ (BitVec.ofInt 64 limit) = 0#64) ∧ _ := zaf hk; clear hk; obtain ⟨g23, hk⟩ := hq; (try dsimp only at hk); refine T.region ?_; refine TL.run 1 rfl ?_; refine TL.y (Yv.bG rfl rfl) ?_; refine TL.run 1 rfl ?_; refine TL.y (Yv.bv (a := (-(BitVec.ofInt 64 limit))) (b := (BitVec.ofInt 64 limit)) rfl rfl rfl g23) ?_; refine TL.run 1 rfl ?_; refine TL.nx ?_; refine TL.run 1 rfl ?_; refine TL.e (Ew.aB [0, 1] [.row g0_ 122 [.bool x0_.made, U x0_.state]] [] rfl rfl rfl rfl (by decide) (fun w hw hw2 hF => zbU _ w hF x0_ g0_ hw2.takes.1 hw2.takes.2)) ?_; rintro _ _ ⟨⟨⟩, -, rfl, rfl⟩; dsimp only [List.cons_append, List.nil_append]; refine TL.run 1 rfl ?_; refine TL.ns (T.seq ?_); have hq := zae hk; clear hk; obtain ⟨k6, hk6, hk⟩ := hq; (try dsimp only at hk); refine T.ad (ι := BitVec 64 × BitVec 64) (fun z => [(6, U (BitVec.ofInt 64 limit)), (8, U z.1)]) (fun z => [.row g0_ 122 [.bool x0_.made, U z.2], .fr F1]) (fun z => k6 (z.1, z.2) = some r) ?_ ?_
        · have hq := zbP hk; clear hk; obtain ⟨f9, hf9, hk⟩ := hq; refine T.block ?_; refine T.loop (ι := Nat × BitVec 64 × BitVec 64) (fun z => [(0, .pointer (some ⟨g0_, 0, none⟩)), (6, U (BitVec.ofInt 64 limit)), (7, U ((-(BitVec.ofInt 64 limit)) % (BitVec.ofInt 64 limit))), (8, U z.2.1)]) (fun z => [.row g0_ 122 [.bool x0_.made, U z.2.2], .fr F1]) (fun z => zaI f9 z.1 (z.2.1, z.2.2) = some r) (fun z => z.1) (fuel, (zah x0_).1, (zah x0_).2) ?_ ?_ ?_ ?_
          · exact hk
          · exact (.c (.c (.c (.c .nil))))
          · exact List.Sublist.refl _
          · rintro ⟨m_10, w_7, c_8⟩ hk; (try dsimp only at *); have hq := zcc hk; clear hk; obtain ⟨m_10', rfl, hk⟩ := hq; generalize hn9 : zaI f9 m_10' = next9 at hk; rw [← hf9] at hk; (try dsimp only at hk); refine T.seq (T.seq ?_); refine T.ad (ι := Unit) (fun z => [(0, .pointer (some ⟨g0_, 0, none⟩)), (6, U (BitVec.ofInt 64 limit)), (7, U ((-(BitVec.ofInt 64 limit)) % (BitVec.ofInt 64 limit))), (8, U w_7), (33, .bool ((decide (((0#64).toNat : Int) < (((-(BitVec.ofInt 64 limit)) % (BitVec.ofInt 64 limit)).toNat : Int))) && (decide (((-((-(BitVec.ofInt 64 limit)) % (BitVec.ofInt 64 limit))).toNat : Int) ≤ (w_7.toNat : Int)))))]) (fun z => [.row g0_ 122 [.bool x0_.made, U c_8], .fr F1]) (fun z => True) ?_ ?_
            · refine T.region ?_; refine TL.run 3 rfl ?_; refine TL.gs rfl rfl rfl (fun h11 => ?_) (fun h11 => ?_)
              · refine TL.run 2 rfl ?_; refine TL.y (Yv.bG rfl rfl) ?_; refine TL.run 2 rfl ?_; refine TL.nil ?_; exact K.ab () trivial (.c (.c (.c (.c (.b (zcY h11) .nil))))) (List.Sublist.refl _)
              · refine TL.run 5 rfl ?_; refine TL.nil ?_; exact K.ab () trivial (.c (.c (.c (.c (.b (za8 h11).symm .nil))))) (List.Sublist.refl _)
            · rintro _ _; refine T.cond rfl (fun h12 => ?_) (fun h12 => ?_)
              · replace hk := zaa hk h12; refine T.skip (K.seq (T.block (T.region ?_))); refine TL.run 1 rfl ?_; refine TL.e (Ew.aB [0, 1] [.row g0_ 122 [.bool x0_.made, U c_8]] [] rfl rfl rfl rfl (by decide) (fun w hw hw2 hF => zbU _ w hF (GSource.mk x0_.made c_8) g0_ hw2.takes.1 hw2.takes.2)) ?_; rintro _ _ ⟨⟨⟩, -, rfl, rfl⟩; dsimp only [List.cons_append, List.nil_append]; refine TL.run 1 rfl ?_; refine TL.nil (K.ac ?_); rw [← hn9] at hk; exact K.next (m_10', (zah (GSource.mk x0_.made c_8)).1, (zah (GSource.mk x0_.made c_8)).2) hk (by dsimp only; omega) (.c (.c (.c (.c .nil)))) (List.Sublist.refl _)
              · replace hk := zab hk h12; refine T.exit (K.aa (K.aa (K.ae ?_))); exact K.ab (w_7, c_8) hk (.c (.c .nil)) (List.Sublist.refl _)
        · rintro ⟨w_4, c_5⟩ hk; (try dsimp only at *); rw [← hk6] at hk; (try dsimp only at hk); refine T.seq ?_; have hq : (¬ (BitVec.ofInt 64 limit) = 0#64) ∧ _ := zaf hk; clear hk; obtain ⟨g38, hk⟩ := hq; (try dsimp only at hk); refine T.region ?_; refine TL.run 2 rfl ?_; refine TL.y (Yv.bv (a := w_4) (b := (BitVec.ofInt 64 limit)) rfl rfl rfl g38) ?_; refine TL.y (Yv.aF (z := ((w_4 % (BitVec.ofInt 64 limit)).toNat : Int)) rfl rfl) ?_; refine TL.run 2 rfl ?_; refine TL.ns (T.ret ?_); obtain rfl := Option.some.inj hk; exact K.aG rfl rfl rfl (fun w' hw => ⟨⟨⟩, trivial, rfl, FxM.of (hw.pick (idx := [0, 1]) rfl (by decide)) hS0 (Frz.Le.refl _)⟩)
def za7 (fuel : Nat) (seed : Int) (station : Int) (home : Int) (scale : Int) : Option (GStationPlan × Int) :=
  (bif ((!(zaA station home)) || (!(zat scale))) then
    some ((GStationPlan.mk 0 0 []), 2)
    else
    (bif ((zan seed)).isSome then
      grd (0 ≤ wI (home + 1)) <|
      grd (room ((wI (home + 1)).toNat) 8) <|
      (zao fuel ((zan seed).getD default) (wI (scale + 1))).bind fun r39 =>
      grd (0 ≤ home ∧ home < ((List.replicate ((wI (home + 1)).toNat) (0 : Int)).length : Int)) <|
      zap (fun (s6 : BitVec 64 × List Int) =>
        some ((GStationPlan.mk station home s6.2), 0))
      (fun k6 =>
        grd (home ≤ 9223372036854775807) <|
        zam (fun (o_10 : Nat) (next9 : (BitVec 64 × List Int) → Option (GStationPlan × Int)) (s9 : BitVec 64 × List Int) =>
          grd (0 ≤ home ∧ home < (s9.2.length : Int)) <|
          (zao fuel (GSource.mk (((zan seed).getD default).made) s9.1) (wI ((nth s9.2 home.toNat) + 1))).bind fun r59 =>
          next9 (r59.2.2, (s9.2.set o_10 r59.1)))
        (fun (s9 : BitVec 64 × List Int) =>
          k6 (s9.1, s9.2)) (home.toNat - 1) 1 (r39.2.2, ((List.replicate ((wI (home + 1)).toNat) (0 : Int)).set home.toNat r39.1)))
      else
      none))
theorem zdQ (F0 : Frz) (w : World) (hF0 : F0.At w) (seed : Int) (station : Int) (home : Int) (scale : Int) (fuel : Nat) (r : GStationPlan × Int) (hr : za7 fuel seed station home scale = some r) : Calls Tryz.prog 11 #[.int .i64 seed, .int .i64 station, .int .i64 home, .int .i64 scale] w fun e w' => ∃ (y : Value) (G : Frz), (SlC G y 1 (r.1.Values.map eI)) ∧ e = .returned (.tuple #[.agg [.int .i64 r.1.Station, .int .i64 r.1.Home, y].toArray, .int .i64 r.2]) ∧ Fx F0 w G w' := by
  have hk := hr; unfold za7 at hk; obtain ⟨S0, F1, rfl, hS0, hp0⟩ := zag hF0; refine zak Tryz.func11 rfl rfl rfl hp0 ?_; refine T.sr ?_; refine TL.e (Ew.alloc rfl) ?_; rintro _ _ ⟨g8, rfl, rfl⟩; refine TL.run 1 rfl ?_; refine TL.ns (T.seq (T.seq ?_)); refine T.ad (ι := Unit) (fun z => [(0, .int .i64 seed), (1, .int .i64 station), (2, .int .i64 home), (3, .int .i64 scale), (8, .pointer (some ⟨g8, 0, none⟩)), (21, .bool ((!(zaA station home)) || (!(zat scale))))]) (fun z => [.row g8 39 [.int .i64 0, .int .i64 0, (.slice none 0 0)], .fr F1]) (fun z => True) ?_ ?_
  · refine T.region ?_; refine TL.run 2 rfl ?_; refine TL.e (Ew.ai rfl rfl rfl (fun w hw => zdc _ w (hw.fr (i := 1) rfl) station home)) ?_; rintro _ _ ⟨rfl, rfl⟩; refine TL.run 2 rfl ?_; refine TL.gs rfl rfl rfl (fun h1 => ?_) (fun h1 => ?_)
    · refine TL.run 4 rfl ?_; refine TL.nil ?_; exact K.ab () trivial (.c (.c (.c (.c (.c (.b (zas h1).symm .nil)))))) (List.Sublist.refl _)
    · refine TL.run 1 rfl ?_; refine TL.e (Ew.ai rfl rfl rfl (fun w hw => zc5 _ w (hw.fr (i := 1) rfl) scale)) ?_; rintro _ _ ⟨rfl, rfl⟩; refine TL.run 2 rfl ?_; refine TL.nil ?_; exact K.ab () trivial (.c (.c (.c (.c (.c (.b (or_f h1) .nil)))))) (List.Sublist.refl _)
  · rintro _ _; refine T.cond rfl (fun h2 => ?_) (fun h2 => ?_)
    · replace hk := zaa hk h2; refine T.sr ?_; refine TL.y (Yv.build rfl rfl) ?_; refine TL.e0 (Ew.ag 0 rfl rfl rfl rfl rfl rfl) ?_; rintro _ _ ⟨rfl, rfl⟩; refine TL.run 1 rfl ?_; refine TL.ns (T.ret (K.a ?_)); obtain rfl := Option.some.inj hk; exact K.aE 0 rfl rfl rfl rfl rfl (fun w' hw => ⟨(.slice none 0 0), F1.toFrz, (SlC.nil _ 1), rfl, Fx.of hw (i := 1) rfl hS0 (Frz.Le.refl _)⟩)
    · replace hk := zab hk h2; refine T.skip (K.seq (T.seq ?_)); refine T.bs (((zan seed)).isSome) (fun h3 => ?_) (fun h3 => ?_)
      · replace hk := zaa hk h3; refine T.region ?_; refine TL.run 1 rfl ?_; refine TL.e (Ew.aW [1, 0] [] [.row g8 39 [.int .i64 0, .int .i64 0, (.slice none 0 0)]] rfl rfl rfl rfl (by decide) (fun w hw hw2 hF => (zeA _ w hF seed).mono (fun e w' hp => hp.1 h3))) ?_; rintro _ _ ⟨g24_n, F2, le1_2, -, rfl, rfl⟩; dsimp only [List.cons_append, List.nil_append]; refine TL.run 2 rfl ?_; refine TL.ns (T.seq ?_); have hq : (0 ≤ wI (home + 1)) ∧ _ := zaf hk; clear hk; obtain ⟨g30n, hk⟩ := hq; have hq : (room ((wI (home + 1)).toNat) 8) ∧ _ := zaf hk; clear hk; obtain ⟨g30, hk⟩ := hq; (try dsimp only at hk); refine T.region ?_; refine TL.run 3 rfl ?_; refine TL.y (Yv.as (v := .int .i64 (wI (home + 1))) rfl) ?_; refine TL.e (Ew.aM (n' := ((wI (home + 1)).toNat)) (enc := eI) (u := (0 : Int)) rfl rfl rfl (by omega) g30 (by decide) (by decide) (fun _ => rfl) rfl) ?_; rintro v30 _ ⟨hv30, rfl⟩; refine TL.aI 0 rfl ?_; intro iv30 hmv30; refine TL.y (Yv.build rfl rfl) ?_; refine TL.e (Ew.alloc rfl) ?_; rintro _ _ ⟨g11, rfl, rfl⟩; refine TL.e0 (Ew.ag 0 rfl rfl rfl rfl rfl rfl) ?_; rintro _ _ ⟨rfl, rfl⟩; refine TL.ns (T.seq ?_); have hq := zac hk; clear hk; obtain ⟨r39, hr39, hk⟩ := hq; have hq : (0 ≤ home ∧ home < ((List.replicate ((wI (home + 1)).toNat) (0 : Int)).length : Int)) ∧ _ := zaf hk; clear hk; obtain ⟨g42, hk⟩ := hq; (try dsimp only at hk); refine T.ax (.still 0 (.still 1 (.still 2 (.still 3 (.still 4 (.still 5 (.eff 6 (.still 7 (.still 8 (.still 9 (.eff 10 (.eff 11 .done)))))))))))) [.row g11 39 [.int .i64 station, .int .i64 home, v30], .fr F2, .row g8 39 [.int .i64 0, .int .i64 0, (.slice none 0 0)]] (by kernel_rfl) Sx ?_; refine TS.y rfl (Yv.fieldAddr rfl rfl) ?_; refine TS.y rfl (Yv.af 0 rfl rfl rfl rfl) ?_; refine TS.run 3 rfl ?_; refine TS.y rfl (Yv.as (v := .int .i64 (wI (scale + 1))) rfl) ?_; refine TS.eff ?_; refine TSo.aC rfl (Wt.none rfl) rfl rfl (Ew.aB [2, 3, 0, 1, 4] [.row g24_n 122 [.bool (((zan seed).getD default).made), U (((zan seed).getD default).state)]] [.row g11 39 [.int .i64 station, .int .i64 home, v30], .sl v30 3 1 (List.replicate ((wI (home + 1)).toNat) (0 : Int)).length ((List.replicate ((wI (home + 1)).toNat) (0 : Int)).flatMap eI), .row g8 39 [.int .i64 0, .int .i64 0, (.slice none 0 0)]] rfl rfl rfl rfl (by decide) (fun w hw hw2 hF => zaV _ w hF ((zan seed).getD default) g24_n (wI (scale + 1)) hw2.takes.1 hw2.takes.2 fuel r39 hr39)) ?_; rintro _ _ ⟨⟨⟩, -, rfl, rfl⟩; dsimp only [List.cons_append, List.nil_append]; refine ⟨(fun w hw => hw.pick (idx := [2, 1, 4]) rfl (by decide)), ?_⟩; refine TS.run 3 rfl ?_; refine TS.eff ?_; refine TSo.ay rfl (Wt.none rfl) rfl rfl (Yv.ar 3 (i := home.toNat) rfl rfl rfl rfl (by omega) (by omega)) (fun w hw => hw.pick (idx := [2, 1, 4]) rfl (by decide)) ?_; refine TS.eff ?_; refine TSo.ewG0 rfl (Wt.none rfl) rfl (Ew.aq 3 (k' := ((List.replicate ((wI (home + 1)).toNat) (0 : Int)).set home.toNat r39.1).length) (l' := ((List.replicate ((wI (home + 1)).toNat) (0 : Int)).set home.toNat r39.1).flatMap eI) rfl rfl rfl rfl (by omega) (zaB (enc := eI) (xs := (List.replicate ((wI (home + 1)).toNat) (0 : Int))) (i := home.toNat) (j := 0) (size := 1) (fun _ => rfl) (by omega) (by decide) (by first | omega | simp)) (zaK (enc := eI) (xs := (List.replicate ((wI (home + 1)).toNat) (0 : Int))) (i := home.toNat) (j := 0) (size := 1) (x := r39.1) (fun _ => rfl) (by omega) (by decide) (by first | omega | simp) rfl) (List.length_set ..)) ?_; rintro _ _ ⟨rfl, rfl⟩; refine ⟨(fun w hw => hw.pick (idx := [2, 1, 4]) rfl (by decide)), ?_⟩; refine TS.done ?_; refine K.seq (T.seq (T.sr ?_)); refine TL.run 1 rfl ?_; refine TL.ns ?_
        have hq := zae hk; clear hk; obtain ⟨k6, hk6, hk⟩ := hq; (try dsimp only at hk); refine T.ad (ι := BitVec 64 × List Int) (fun z => [(8, .pointer (some ⟨g8, 0, none⟩)), (11, .pointer (some ⟨g11, 0, none⟩))]) (fun z => [.row g24_n 122 [.bool (((zan seed).getD default).made), U z.1], .sl v30 3 1 z.2.length (z.2.flatMap eI), .row g11 39 [.int .i64 station, .int .i64 home, v30], .row g8 39 [.int .i64 0, .int .i64 0, (.slice none 0 0)], .fr F2]) (fun z => k6 (z.1, z.2) = some r) ?_ ?_
        · have hq : (home ≤ 9223372036854775807) ∧ _ := zaf hk; clear hk; obtain ⟨gl9, hk⟩ := hq; (try dsimp only at hk); have hq := zaw hk; clear hk; obtain ⟨f9, kk9, hf9, hkk9, hk⟩ := hq; refine T.block ?_; refine T.pick [0, 3, 2, 4, 1] rfl (by decide) ?_; refine T.loop (ι := Nat × BitVec 64 × List Int) (fun z => [(2, .int .i64 home), (8, .pointer (some ⟨g8, 0, none⟩)), (10, .func (.func 43) #[.pointer (some ⟨g24_n, 0, none⟩)] #[]), (11, .pointer (some ⟨g11, 0, none⟩)), (12, .int .i64 (z.1 : Int))]) (fun z => [.row g24_n 122 [.bool (((zan seed).getD default).made), U z.2.1], .sl v30 3 1 z.2.2.length (z.2.2.flatMap eI), .row g11 39 [.int .i64 station, .int .i64 home, v30], .row g8 39 [.int .i64 0, .int .i64 0, (.slice none 0 0)], .fr F2]) (fun z => zam f9 kk9 (home.toNat - z.1) z.1 (z.2.1, z.2.2) = some r) (fun z => home.toNat - z.1) (1, r39.2.2, ((List.replicate ((wI (home + 1)).toNat) (0 : Int)).set home.toNat r39.1)) ?_ ?_ ?_ ?_
          · exact hk
          · exact (.c (.c (.c (.c (.c .nil)))))
          · exact List.Sublist.refl _
          · rintro ⟨o_10, c_7, l_8⟩ hk; (try dsimp only at *); refine T.seq (T.sr ?_); refine TL.run 3 rfl ?_; refine TL.ns ?_; refine T.cond rfl (fun h11 => ?_) (fun h11 => ?_)
            · have p11 := of_decide_eq_true h11; rw [zaQ (by omega)] at hk; generalize hn9 : zam f9 kk9 (home.toNat - (o_10 + 1)) (o_10 + 1) = next9 at hk; rw [← hf9] at hk; (try dsimp only at hk); refine T.skip (K.seq (T.seq (T.block ?_))); have hq : (0 ≤ home ∧ home < (l_8.length : Int)) ∧ _ := zaf hk; clear hk; obtain ⟨g56, hk⟩ := hq; have hq := zac hk; clear hk; obtain ⟨r59, hr59, hk⟩ := hq; (try dsimp only at hk); refine T.ax (.still 0 (.still 1 (.still 2 (.still 3 (.still 4 (.still 5 (.still 6 (.eff 7 (.eff 8 (.still 9 (.eff 10 (.still 11 (.still 12 (.still 13 (.eff 14 (.eff 15 .done)))))))))))))))) [.row g11 39 [.int .i64 station, .int .i64 home, v30], .row g8 39 [.int .i64 0, .int .i64 0, (.slice none 0 0)], .fr F2] (by kernel_rfl) Sx ?_; refine TS.y rfl (Yv.fieldAddr rfl rfl) ?_; refine TS.y rfl (Yv.af 0 rfl rfl rfl rfl) ?_; refine TS.run 2 rfl ?_; refine TS.y rfl (Yv.fieldAddr rfl rfl) ?_; refine TS.y rfl (Yv.af 0 rfl rfl rfl rfl) ?_; refine TS.run 1 rfl ?_; refine TS.eff ?_; refine TSo.ay rfl (Wt.none rfl) rfl rfl (Yv.ar 1 (i := home.toNat) rfl rfl rfl rfl (by omega) (by omega)) (fun w hw => hw.sub Sx) ?_; refine TS.eff ?_; refine TSo.ay rfl (Wt.none rfl) rfl rfl (Yv.au 1 rfl rfl rfl (by omega) (za1 (enc := eI) (i := home.toNat) (j := 0) (fun _ => rfl) (by omega) (by decide) rfl)) (fun w hw => hw.sub Sx) ?_; refine TS.y rfl (Yv.as (v := .int .i64 (wI ((nth l_8 home.toNat) + 1))) rfl) ?_; refine TS.eff ?_; refine TSo.aC rfl (Wt.none rfl) rfl rfl (Ew.aB [0, 4, 1, 2, 3] [.row g24_n 122 [.bool (((zan seed).getD default).made), U c_7]] [.sl v30 3 1 l_8.length (l_8.flatMap eI), .row g11 39 [.int .i64 station, .int .i64 home, v30], .row g8 39 [.int .i64 0, .int .i64 0, (.slice none 0 0)]] rfl rfl rfl rfl (by decide) (fun w hw hw2 hF => zaV _ w hF (GSource.mk (((zan seed).getD default).made) c_7) g24_n (wI ((nth l_8 home.toNat) + 1)) hw2.takes.1 hw2.takes.2 fuel r59 hr59)) ?_; rintro _ _ ⟨⟨⟩, -, rfl, rfl⟩; dsimp only [List.cons_append, List.nil_append]; refine ⟨(fun w hw => hw.pick (idx := [3, 4, 1]) rfl (by decide)), ?_⟩; refine TS.run 3 rfl ?_; refine TS.eff ?_; refine TSo.ay rfl (Wt.none rfl) rfl rfl (Yv.ar 2 (i := o_10) rfl rfl rfl rfl rfl (by omega)) (fun w hw => hw.pick (idx := [3, 4, 1]) rfl (by decide)) ?_; refine TS.eff ?_; refine TSo.ewG0 rfl (Wt.none rfl) rfl (Ew.aq 2 (k' := (l_8.set o_10 r59.1).length) (l' := (l_8.set o_10 r59.1).flatMap eI) rfl rfl rfl rfl (by omega) (zaB (enc := eI) (xs := l_8) (i := o_10) (j := 0) (size := 1) (fun _ => rfl) (by omega) (by decide) (by omega)) (zaK (enc := eI) (xs := l_8) (i := o_10) (j := 0) (size := 1) (x := r59.1) (fun _ => rfl) (by omega) (by decide) (by omega) rfl) (List.length_set ..)) ?_; rintro _ _ ⟨rfl, rfl⟩; refine ⟨(fun w hw => hw.pick (idx := [3, 4, 1]) rfl (by decide)), ?_⟩; refine TS.done ?_; refine K.ac (K.seq (T.region ?_)); refine TL.run 1 rfl ?_; refine TL.y (Yv.av rfl rfl rfl (by omega)) ?_; refine TL.run 1 rfl ?_; refine TL.nil ?_; rw [← hn9] at hk; refine K.pick [0, 2, 3, 4, 1] rfl (by decide) ?_; exact K.next ((o_10 + 1), r59.2.2, (l_8.set o_10 r59.1)) hk (by dsimp only; omega) (.c (.c (.c (.c (.c .nil))))) (List.Sublist.refl _)
            · have p11 := of_decide_eq_false h11; rw [zaR (by omega), ← hkk9] at hk; (try dsimp only at hk); refine T.exit (K.aa (K.aa (K.ae ?_))); exact K.ab (c_7, l_8) hk (.c (.c .nil)) (List.Sublist.refl _)
        · rintro ⟨c_4, l_5⟩ hk; (try dsimp only at *); rw [← hk6] at hk; (try dsimp only at hk); refine T.sr ?_; refine TL.y (Yv.ak 2 rfl rfl rfl rfl) ?_; refine TL.e0 (Ew.ag 3 rfl rfl rfl rfl rfl rfl) ?_; rintro _ _ ⟨rfl, rfl⟩; refine TL.run 1 rfl ?_; refine TL.ns (T.ret ?_); refine K.aA (fun w hw => hw.freezeS (i := 4) (j := 1) (by decide) rfl rfl) ?_; rintro F3 ⟨le2_3, hz3⟩; dsimp only [List.set, List.eraseIdx]; have le1_3 := le1_2.trans le2_3; have hfF3 := hz3.toF rfl (fun _ => rfl); haveI := hfF3.oneC; obtain rfl := Option.some.inj hk; exact K.aE 2 rfl rfl rfl rfl rfl (fun w' hw => ⟨v30, F3.toFrz, hfF3, rfl, Fx.of hw (i := 3) rfl hS0 le1_3⟩)
      · replace hk := zab hk h3; cases hk
def zbl (fuel : Nat) (seed : Int) (bidder : Int) (l : List GProduct) (scale : Int) : Option (GBidderPlan × Int) :=
  zap (fun (x_1 : Bool) =>
    (bif x_1 then
      some ((GBidderPlan.mk 0 0 []), 2)
      else
      (bif ((zan seed)).isSome then
        zap (fun (s12 : BitVec 64 × Int × Int × List (List Int)) =>
          (zao fuel (GSource.mk (((zan seed).getD default).made) s12.1) (wI ((wI (scale * 10)) + 1))).bind fun r73 =>
          some ((GBidderPlan.mk s12.2.1 r73.1 s12.2.2.2), 0))
        (fun k12 =>
          zam (fun (i_18 : Nat) (next17 : (BitVec 64 × Int × Int × List (List Int)) → Option (GBidderPlan × Int)) (s17 : BitVec 64 × Int × Int × List (List Int)) =>
            zap (fun (s22 : List Int × BitVec 64) =>
              grd (room (s17.2.2.2 ++ [s22.1]).length 24) <|
              next17 (s22.2, s17.2.1, s17.2.2.1, (s17.2.2.2 ++ [s22.1])))
            (fun k22 =>
              grd ((nth l i_18).Supply ≤ 9223372036854775807) <|
              zam (fun (i_27 : Nat) (next26 : (Int × List Int × BitVec 64) → Option (GBidderPlan × Int)) (s26 : Int × List Int × BitVec 64) =>
                (zao fuel (GSource.mk (((zan seed).getD default).made) s26.2.2) (wI (s26.1 + 1))).bind fun r53 =>
                grd (room (s26.2.1 ++ [r53.1]).length 8) <|
                next26 (r53.1, (s26.2.1 ++ [r53.1]), r53.2.2))
              (fun (s26 : Int × List Int × BitVec 64) =>
                k22 (s26.2.1, s26.2.2)) ((((nth l i_18).Supply).toNat) - 0) 0 (scale, [], s17.1)))
          (fun (s17 : BitVec 64 × Int × Int × List (List Int)) =>
            k12 (s17.1, s17.2.1, s17.2.2.1, s17.2.2.2)) (l.length - 0) 0 (((zan seed).getD default).state, bidder, 0, []))
        else
        none)))
  (fun k2 =>
    (bif decide (bidder < 0) then
      k2 true
      else
      (bif decide (32 ≤ bidder) then
        k2 true
        else
        (zbE l).bind fun r24 =>
        (bif !r24 then
          k2 true
          else
          k2 (!(zat scale))))))
theorem zdV (F0 : Frz) (w : World) (hF0 : F0.At w) (seed : Int) (bidder : Int) (l : List GProduct) (vl : Value) (hl : SlC F0 vl 5 (l.map GProduct.enc)) (scale : Int) (fuel : Nat) (r : GBidderPlan × Int) (hr : zbl fuel seed bidder l scale = some r) : Calls Tryz.prog 13 #[.int .i64 seed, .int .i64 bidder, vl, .int .i64 scale] w fun e w' => ∃ (y : Value × List (List Value)) (G : Frz), (SlD R_List_Int.rep G y.1 1 y.2 r.1.Values) ∧ e = .returned (.tuple #[.agg [.int .i64 r.1.Bidder, .int .i64 r.1.Budget, y.1].toArray, .int .i64 r.2]) ∧ Fx F0 w G w' := by
  have hk := hr; unfold zbl at hk; haveI := hl.oneC; obtain ⟨S0, F1, rfl, hS0, hp0⟩ := zag hF0; refine zak Tryz.func13 rfl rfl rfl hp0 ?_; refine T.sr ?_; refine TL.e (Ew.alloc rfl) ?_; rintro _ _ ⟨g8, rfl, rfl⟩; refine TL.run 1 rfl ?_; refine TL.ns (T.seq (T.seq ?_)); (try dsimp only at hk); have hq := zae hk; clear hk; obtain ⟨k2, hk2, hk⟩ := hq; (try dsimp only at hk); refine T.ad (ι := Bool) (fun z => [(0, .int .i64 seed), (1, .int .i64 bidder), (2, vl), (3, .int .i64 scale), (8, .pointer (some ⟨g8, 0, none⟩)), (31, .bool z)]) (fun z => [.row g8 24 [.int .i64 0, .int .i64 0, (.slice none 0 0)], .fr F1]) (fun z => k2 z = some r) ?_ ?_
  · refine T.region ?_; refine TL.run 3 rfl ?_; refine TL.gs rfl rfl rfl (fun h3 => ?_) (fun h3 => ?_)
    · have p3 := of_decide_eq_true h3; replace hk := zaa hk h3; refine TL.run 13 rfl ?_; refine TL.nil ?_; exact K.ab true hk (.c (.c (.c (.c (.c (.c .nil)))))) (List.Sublist.refl _)
    · have p3 := of_decide_eq_false h3; replace hk := zab hk h3; refine TL.run 4 rfl ?_; refine TL.gs rfl rfl rfl (fun h4 => ?_) (fun h4 => ?_)
      · have p4 := of_decide_eq_true h4; replace hk := zaa hk h4; refine TL.run 9 rfl ?_; refine TL.nil ?_; exact K.ab true hk (.c (.c (.c (.c (.c (.c .nil)))))) (List.Sublist.refl _)
      · have p4 := of_decide_eq_false h4; replace hk := zab hk h4; refine TL.run 1 rfl ?_; have hq := zac hk; clear hk; obtain ⟨r24, hr24, hk⟩ := hq; refine TL.e (Ew.ai rfl rfl rfl (fun w hw => zc9 _ w (hw.fr (i := 1) rfl) l vl hl r24 hr24)) ?_; rintro _ _ ⟨rfl, rfl⟩; refine TL.run 3 rfl ?_; refine TL.gs rfl rfl rfl (fun h5 => ?_) (fun h5 => ?_)
        · replace hk := zaa hk h5; refine TL.run 4 rfl ?_; refine TL.nil ?_; exact K.ab true hk (.c (.c (.c (.c (.c (.c .nil)))))) (List.Sublist.refl _)
        · replace hk := zab hk h5; refine TL.run 1 rfl ?_; refine TL.e (Ew.ai rfl rfl rfl (fun w hw => zc5 _ w (hw.fr (i := 1) rfl) scale)) ?_; rintro _ _ ⟨rfl, rfl⟩; refine TL.run 2 rfl ?_; refine TL.nil ?_; exact K.ab (!(zat scale)) hk (.c (.c (.c (.c (.c (.c .nil)))))) (List.Sublist.refl _)
  · rintro x_1 hk; rw [← hk2] at hk; (try dsimp only at hk); refine T.cond rfl (fun h6 => ?_) (fun h6 => ?_)
    · replace hk := zaa hk h6; refine T.sr ?_; refine TL.y (Yv.build rfl rfl) ?_; refine TL.e0 (Ew.ag 0 rfl rfl rfl rfl rfl rfl) ?_; rintro _ _ ⟨rfl, rfl⟩; refine TL.run 1 rfl ?_; refine TL.ns (T.ret (K.a ?_)); obtain rfl := Option.some.inj hk; exact K.aE 0 rfl rfl rfl rfl rfl (fun w' hw => ⟨((.slice none 0 0), []), F1.toFrz, (SlD.nil _ _ 1), rfl, Fx.of hw (i := 1) rfl hS0 (Frz.Le.refl _)⟩)
    · replace hk := zab hk h6; refine T.skip (K.seq (T.seq ?_)); refine T.bs (((zan seed)).isSome) (fun h7 => ?_) (fun h7 => ?_)
      · replace hk := zaa hk h7; refine T.region ?_; refine TL.run 1 rfl ?_; refine TL.e (Ew.aW [1, 0] [] [.row g8 24 [.int .i64 0, .int .i64 0, (.slice none 0 0)]] rfl rfl rfl rfl (by decide) (fun w hw hw2 hF => (zeA _ w hF seed).mono (fun e w' hp => hp.1 h7))) ?_; rintro _ _ ⟨g34_n, F2, le1_2, -, rfl, rfl⟩; dsimp only [List.cons_append, List.nil_append]; refine TL.run 2 rfl ?_; refine TL.nx ?_; refine TL.run 1 rfl ?_; refine TL.y (Yv.build rfl rfl) ?_; refine TL.e (Ew.alloc rfl) ?_; rintro _ _ ⟨g11, rfl, rfl⟩; refine TL.slNil 26 1 ?_; refine TL.e0 (Ew.ag 1 rfl rfl rfl rfl rfl rfl) ?_; rintro _ _ ⟨rfl, rfl⟩; refine TL.slNil 26 1 ?_; refine TL.ns (T.seq (T.sr ?_)); refine TL.run 1 rfl ?_; refine TL.y (Yv.am rfl rfl (SlC.mono hl le1_2) (List.length_map _)) ?_; have hm39 : l.length ≤ 9223372036854775807 := (List.length_map _) ▸ (SlC.mono hl le1_2).max; refine TL.run 1 rfl ?_; refine TL.ns ?_; have hq := zae hk; clear hk; obtain ⟨k12, hk12, hk⟩ := hq; (try dsimp only at hk); refine T.ad (ι := BitVec 64 × Int × Int × List (List Int) × Value × List (List Value) × FzB w (fun _ => False) S0) (fun z => [(3, .int .i64 scale), (8, .pointer (some ⟨g8, 0, none⟩)), (10, .func (.func 43) #[.pointer (some ⟨g34_n, 0, none⟩)] #[]), (11, .pointer (some ⟨g11, 0, none⟩))]) (fun z => [.row g34_n 122 [.bool (((zan seed).getD default).made), U z.1], .sl z.2.2.2.2.1 26 1 z.2.2.2.1.length z.2.2.2.2.2.1.flatten, .row g11 24 [.int .i64 z.2.1, .int .i64 z.2.2.1, z.2.2.2.2.1], .row g8 24 [.int .i64 0, .int .i64 0, (.slice none 0 0)], .fr z.2.2.2.2.2.2]) (fun z => k12 (z.1, z.2.1, z.2.2.1, z.2.2.2.1) = some r ∧ OwnD R_List_Int.rep z.2.2.2.2.2.2.toFrz 1 z.2.2.2.2.2.1 z.2.2.2.1 ∧ OneC z.2.2.2.2.1 ∧ F2.toFrz.Le z.2.2.2.2.2.2.toFrz) ?_ ?_
        · have hq := zaw hk; clear hk; obtain ⟨f17, kk17, hf17, hkk17, hk⟩ := hq; refine T.block ?_; refine T.pick [3, 0, 2, 5, 4] rfl (by decide) ?_; refine T.loop (ι := Nat × BitVec 64 × Int × Int × List (List Int) × Value × List (List Value) × FzB w (fun _ => False) S0) (fun z => [(3, .int .i64 scale), (8, .pointer (some ⟨g8, 0, none⟩)), (10, .func (.func 43) #[.pointer (some ⟨g34_n, 0, none⟩)] #[]), (11, .pointer (some ⟨g11, 0, none⟩)), (38, vl), (39, .int .i64 (l.length : Int)), (40, .int .i64 (z.1 : Int))]) (fun z => [.row g34_n 122 [.bool (((zan seed).getD default).made), U z.2.1], .sl z.2.2.2.2.2.1 26 1 z.2.2.2.2.1.length z.2.2.2.2.2.2.1.flatten, .row g11 24 [.int .i64 z.2.2.1, .int .i64 z.2.2.2.1, z.2.2.2.2.2.1], .row g8 24 [.int .i64 0, .int .i64 0, (.slice none 0 0)], .fr z.2.2.2.2.2.2.2]) (fun z => zam f17 kk17 (l.length - z.1) z.1 (z.2.1, z.2.2.1, z.2.2.2.1, z.2.2.2.2.1) = some r ∧ OwnD R_List_Int.rep z.2.2.2.2.2.2.2.toFrz 1 z.2.2.2.2.2.2.1 z.2.2.2.2.1 ∧ OneC z.2.2.2.2.2.1 ∧ F2.toFrz.Le z.2.2.2.2.2.2.2.toFrz) (fun z => l.length - z.1) (0, ((zan seed).getD default).state, bidder, 0, [], (.slice none 0 0), [], F2) ?_ ?_ ?_ ?_
          · exact ⟨hk, (OwnD.nil _ _ 1), inferInstance, (Frz.Le.refl _)⟩
          · exact (.c (.c (.c (.c (.c (.c (.c .nil)))))))
          · exact List.Sublist.refl _
          · rintro ⟨i_18, c_13, c_14, c_15, c_16, vc_16, cc_16, F4⟩ ⟨hk, hc_16, oc_16, le2_4⟩; (try dsimp only at *); have le1_4 := le1_2.trans le2_4; refine T.sr ?_; refine TL.run 1 rfl ?_; refine TL.ns (T.seq ?_); refine T.cond rfl (fun h19 => ?_) (fun h19 => ?_)
            · have p19 := of_decide_eq_true h19; rw [zaQ (by omega)] at hk; generalize hn17 : zam f17 kk17 (l.length - (i_18 + 1)) (i_18 + 1) = next17 at hk; rw [← hf17] at hk; (try dsimp only at hk); refine T.skip (K.seq (T.seq (T.block (T.sr ?_)))); refine TL.y (Yv.an (i := i_18) rfl rfl rfl (SlC.mono hl le1_4) (List.length_map _) rfl (by omega)) ?_; refine TL.y (Yv.aO 4 (i := i_18) rfl rfl rfl (SlC.mono hl le1_4) (by omega) rfl rfl rfl) ?_; refine TL.e (Ew.alloc rfl) ?_; rintro _ _ ⟨g13, rfl, rfl⟩; refine TL.e0 (Ew.ag 0 rfl rfl rfl rfl rfl rfl) ?_; rintro _ _ ⟨rfl, rfl⟩; refine TL.nx ?_; refine TL.run 2 rfl ?_; refine TL.nx ?_; refine TL.run 1 rfl ?_; refine TL.slNil 3 1 ?_; refine TL.ns (T.seq (T.sr ?_)); refine TL.y (Yv.fieldAddr rfl rfl) ?_; refine TL.y (Yv.af 1 rfl rfl rfl rfl) ?_; refine TL.run 1 rfl ?_; refine TL.ns ?_; have hq := zae hk; clear hk; obtain ⟨k22, hk22, hk⟩ := hq; (try dsimp only at hk); refine T.ad (ι := List Int × Value × BitVec 64) (fun z => [(3, .int .i64 scale), (8, .pointer (some ⟨g8, 0, none⟩)), (10, .func (.func 43) #[.pointer (some ⟨g34_n, 0, none⟩)] #[]), (11, .pointer (some ⟨g11, 0, none⟩)), (15, z.2.1), (38, vl), (39, .int .i64 (l.length : Int)), (40, .int .i64 (i_18 : Int))]) (fun z => [.sl z.2.1 3 1 z.1.length (z.1.flatMap eI), .row g34_n 122 [.bool (((zan seed).getD default).made), U z.2.2], .sl vc_16 26 1 c_16.length cc_16.flatten, .row g11 24 [.int .i64 c_14, .int .i64 c_15, vc_16], .row g8 24 [.int .i64 0, .int .i64 0, (.slice none 0 0)], .fr F4]) (fun z => k22 (z.1, z.2.2) = some r ∧ OneC z.2.1) ?_ ?_
              · have hq : ((nth l i_18).Supply ≤ 9223372036854775807) ∧ _ := zaf hk; clear hk; obtain ⟨gl26, hk⟩ := hq; (try dsimp only at hk); have hq := zaw hk; clear hk; obtain ⟨f26, kk26, hf26, hkk26, hk⟩ := hq; refine T.block ?_; refine T.pick [0, 2, 3, 4, 5, 6] rfl (by decide) ?_; refine T.loop (ι := Nat × Int × List Int × Value × BitVec 64) (fun z => [(3, .int .i64 scale), (8, .pointer (some ⟨g8, 0, none⟩)), (10, .func (.func 43) #[.pointer (some ⟨g34_n, 0, none⟩)] #[]), (11, .pointer (some ⟨g11, 0, none⟩)), (14, .int .i64 z.2.1), (15, z.2.2.2.1), (38, vl), (39, .int .i64 (l.length : Int)), (40, .int .i64 (i_18 : Int)), (46, .int .i64 ((nth l i_18).Supply)), (47, .int .i64 (z.1 : Int))]) (fun z => [.sl z.2.2.2.1 3 1 z.2.2.1.length (z.2.2.1.flatMap eI), .row g34_n 122 [.bool (((zan seed).getD default).made), U z.2.2.2.2], .sl vc_16 26 1 c_16.length cc_16.flatten, .row g11 24 [.int .i64 c_14, .int .i64 c_15, vc_16], .row g8 24 [.int .i64 0, .int .i64 0, (.slice none 0 0)], .fr F4]) (fun z => zam f26 kk26 ((((nth l i_18).Supply).toNat) - z.1) z.1 (z.2.1, z.2.2.1, z.2.2.2.2) = some r ∧ OneC z.2.2.2.1) (fun z => (((nth l i_18).Supply).toNat) - z.1) (0, scale, [], (.slice none 0 0), c_13) ?_ ?_ ?_ ?_
                · exact ⟨hk, inferInstance⟩
                · exact (.c (.c (.c (.c (.c (.c (.c (.c (.c (.c (.c .nil)))))))))))
                · exact List.Sublist.refl _
                · rintro ⟨i_27, value_23, values_24, vvalues_24, c_25⟩ ⟨hk, ovalues_24⟩; (try dsimp only at *); refine T.sr ?_; refine TL.run 1 rfl ?_; refine TL.ns (T.seq ?_); refine T.cond rfl (fun h28 => ?_) (fun h28 => ?_)
                  · have p28 := of_decide_eq_true h28; rw [zaQ (by omega)] at hk; generalize hn26 : zam f26 kk26 ((((nth l i_18).Supply).toNat) - (i_27 + 1)) (i_27 + 1) = next26 at hk; rw [← hf26] at hk; (try dsimp only at hk); refine T.skip (K.seq (T.seq (T.block (T.seq ?_)))); have hq := zac hk; clear hk; obtain ⟨r53, hr53, hk⟩ := hq; (try dsimp only at hk); refine T.region ?_; refine TL.run 2 rfl ?_; refine TL.y (Yv.as (v := .int .i64 (wI (value_23 + 1))) rfl) ?_; refine TL.e (Ew.aB [1, 5, 0, 2, 3, 4] [.row g34_n 122 [.bool (((zan seed).getD default).made), U c_25]] [.sl vvalues_24 3 1 values_24.length (values_24.flatMap eI), .sl vc_16 26 1 c_16.length cc_16.flatten, .row g11 24 [.int .i64 c_14, .int .i64 c_15, vc_16], .row g8 24 [.int .i64 0, .int .i64 0, (.slice none 0 0)]] rfl rfl rfl rfl (by decide) (fun w hw hw2 hF => zaV _ w hF (GSource.mk (((zan seed).getD default).made) c_25) g34_n (wI (value_23 + 1)) hw2.takes.1 hw2.takes.2 fuel r53 hr53)) ?_; rintro _ _ ⟨⟨⟩, -, rfl, rfl⟩; dsimp only [List.cons_append, List.nil_append]; refine TL.run 4 rfl ?_; refine TL.ns ?_; have hq : (room (values_24 ++ [r53.1]).length 8) ∧ _ := zaf hk; clear hk; obtain ⟨g59, hk⟩ := hq; (try dsimp only at hk); refine T.region ?_; refine TL.run 2 rfl ?_; refine TL.e (Ew.buildSlice rfl rfl rfl (by decide)) ?_; rintro _ _ ⟨g58, rfl, rfl⟩; refine TL.e (Ew.aS 3 0 rfl rfl rfl rfl rfl rfl (zeI (ys := [r53.1]) rfl) (zfF (enc := eI) (xs := values_24) (ys := [r53.1])) g59 (by decide)) ?_; rintro v59 _ ⟨hv59, rfl⟩; refine TL.run 1 rfl ?_; refine TL.nil (K.ac (K.seq (T.region ?_))); refine TL.y (Yv.av rfl rfl rfl (by omega)) ?_; refine TL.run 1 rfl ?_; refine TL.nil ?_; rw [← hn26] at hk; refine K.pick [3, 1, 4, 5, 6, 2] rfl (by decide) ?_; exact K.next ((i_27 + 1), r53.1, (values_24 ++ [r53.1]), v59, r53.2.2) ⟨hk, inferInstance⟩ (by dsimp only; omega) (.c (.c (.c (.c (.c (.c (.c (.c (.c (.c (.c .nil))))))))))) (List.Sublist.refl _)
                  · have p28 := of_decide_eq_false h28; rw [zaR (by omega), ← hkk26] at hk; (try dsimp only at hk); refine T.exit (K.aa (K.aa (K.ae ?_))); exact K.ab (values_24, vvalues_24, c_25) ⟨hk, inferInstance⟩ (.c (.c (.c (.c (.c (.c (.c (.c .nil)))))))) (List.Sublist.refl _)
              · rintro ⟨values_20, vvalues_20, c_21⟩ ⟨hk, ovalues_20⟩; (try dsimp only at *); rw [← hk22] at hk; (try dsimp only at hk); refine T.aA (fun w hw => hw.freezeS (i := 5) (j := 0) (by decide) rfl rfl) ?_; rintro F5 ⟨le4_5, hz5⟩; dsimp only [List.set, List.eraseIdx]; have le2_5 := le2_4.trans le4_5; have hfF5 := hz5.toF rfl (fun _ => rfl); haveI := hfF5.oneC; have hq : (room (c_16 ++ [values_20]).length 24) ∧ _ := zaf hk; clear hk; obtain ⟨g65, hk⟩ := hq; (try dsimp only at hk); refine T.region ?_; refine TL.y (Yv.fieldAddr rfl rfl) ?_; refine TL.y (Yv.af 2 rfl rfl rfl rfl) ?_; refine TL.run 1 rfl ?_; refine TL.e (Ew.buildSlice rfl rfl rfl (by decide)) ?_; rintro _ _ ⟨g64, rfl, rfl⟩; have hl64 : OwnD R_List_Int.rep F5.toFrz 1 [[vvalues_20]] [values_20] := (OwnD.snoc (OwnD.nil _ _ 1) ⟨_, rfl, hfF5⟩ rfl); refine TL.e (Ew.aS 2 0 rfl rfl rfl rfl rfl rfl (zeI (ys := [values_20]) rfl) (zf0 (cs := cc_16) (ds := [[vvalues_20]])) g65 (by decide)) ?_; rintro v65 _ ⟨hv65, rfl⟩; have ho65 : OwnD R_List_Int.rep F5.toFrz 1 (cc_16 ++ [[vvalues_20]]) (c_16 ++ [values_20]) := (OwnD.snoc (OwnD.mono (rep := R_List_Int.rep) (fun _ _ _ _ => R_List_Int.mono) hc_16 le4_5) ⟨_, rfl, hfF5⟩ rfl); refine TL.y (Yv.fieldAddr rfl rfl) ?_; refine TL.e0 (Ew.aP 3 rfl rfl rfl rfl (by simp)) ?_; rintro _ _ ⟨rfl, rfl⟩; refine TL.nil (K.ac (K.seq (T.region ?_))); refine TL.y (Yv.av rfl rfl rfl (by omega)) ?_; refine TL.run 1 rfl ?_; refine TL.nil ?_; rw [← hn17] at hk; refine K.pick [1, 2, 3, 4, 5] rfl (by decide) ?_; exact K.next ((i_18 + 1), c_21, c_14, c_15, (c_16 ++ [values_20]), v65, (cc_16 ++ [[vvalues_20]]), F5) ⟨hk, ho65, inferInstance, le2_5⟩ (by dsimp only; omega) (.c (.c (.c (.c (.c (.c (.c .nil))))))) (List.Sublist.refl _)
            · have p19 := of_decide_eq_false h19; rw [zaR (by omega), ← hkk17] at hk; (try dsimp only at hk); refine T.exit (K.aa (K.aa (K.ae ?_))); exact K.ab (c_13, c_14, c_15, c_16, vc_16, cc_16, F4) ⟨hk, hc_16, inferInstance, le2_4⟩ (.c (.c (.c (.c .nil)))) (List.Sublist.refl _)
        · rintro ⟨c_8, c_9, c_10, c_11, vc_11, cc_11, F3⟩ ⟨hk, hc_11, oc_11, le2_3⟩; (try dsimp only at *); rw [← hk12] at hk; (try dsimp only at hk); have le1_3 := le1_2.trans le2_3; refine T.seq ?_; have hq := zac hk; clear hk; obtain ⟨r73, hr73, hk⟩ := hq; (try dsimp only at hk); refine T.region ?_; refine TL.run 2 rfl ?_; refine TL.y (Yv.as (v := .int .i64 (wI (scale * 10))) rfl) ?_; refine TL.y (Yv.as (v := .int .i64 (wI ((wI (scale * 10)) + 1))) rfl) ?_; refine TL.e (Ew.aB [0, 4, 1, 2, 3] [.row g34_n 122 [.bool (((zan seed).getD default).made), U c_8]] [.sl vc_11 26 1 c_11.length cc_11.flatten, .row g11 24 [.int .i64 c_9, .int .i64 c_10, vc_11], .row g8 24 [.int .i64 0, .int .i64 0, (.slice none 0 0)]] rfl rfl rfl rfl (by decide) (fun w hw hw2 hF => zaV _ w hF (GSource.mk (((zan seed).getD default).made) c_8) g34_n (wI ((wI (scale * 10)) + 1)) hw2.takes.1 hw2.takes.2 fuel r73 hr73)) ?_; rintro _ _ ⟨⟨⟩, -, rfl, rfl⟩; dsimp only [List.cons_append, List.nil_append]; refine TL.run 3 rfl ?_; refine TL.y (Yv.fieldAddr rfl rfl) ?_; refine TL.e0 (Ew.aP 3 rfl rfl rfl rfl (by simp)) ?_; rintro _ _ ⟨rfl, rfl⟩; refine TL.nx ?_; refine TL.y (Yv.ak 3 rfl rfl rfl rfl) ?_; refine TL.e0 (Ew.ag 4 rfl rfl rfl rfl rfl rfl) ?_; rintro _ _ ⟨rfl, rfl⟩; refine TL.run 1 rfl ?_; refine TL.ns (T.ret ?_); refine K.aA (fun w hw => hw.freezeS (i := 1) (j := 2) (by decide) rfl rfl) ?_; rintro F6 ⟨le3_6, hz6⟩; dsimp only [List.set, List.eraseIdx]; have le1_6 := le1_3.trans le3_6; have hfF6 := hz6.toD (OwnD.mono (rep := R_List_Int.rep) (fun _ _ _ _ => R_List_Int.mono) hc_11 le3_6) rfl; haveI := hfF6.1.oneC; obtain rfl := Option.some.inj hk; exact K.aE 3 rfl rfl rfl rfl rfl (fun w' hw => ⟨(vc_11, cc_11), F6.toFrz, hfF6, rfl, Fx.of hw (i := 1) rfl hS0 le1_6⟩)
      · replace hk := zab hk h7; cases hk
structure GRow where
  Product : Int
  Change : Int
  Point : Int
deriving DecidableEq, Inhabited
abbrev GRow.enc (x : GRow) : List Value := [.int .i64 x.Product, .int .i64 x.Change, .int .i64 x.Point]
theorem GRow.len (x : GRow) : (GRow.enc x).length = 3 := rfl
def zaq (l : List GProduct) : Bool :=
  zap (fun (_ : Unit) =>
    true)
  (fun k1 =>
    zam (fun (i_3 : Nat) (next2 : Unit → Bool) (_ : Unit) =>
      (bif ((((((((((decide ((nth l i_3).Area < 0)) || (decide (63 < (nth l i_3).Area))) || (decide ((nth l i_3).Category < 1))) || (decide (2 < (nth l i_3).Category))) || (decide ((nth l i_3).Supply < 1))) || (decide (12 < (nth l i_3).Supply))) || (decide ((nth l i_3).Units < 1))) || (decide (100000 < (nth l i_3).Units))) || (decide ((nth l i_3).Reserve < 0))) || (decide (549755813888 < (nth l i_3).Reserve))) then
        false
        else
        (bif decide (0 < (i_3 : Int)) then
          (bif ((decide ((nth l i_3).Area < (nth l (((i_3 : Int) - 1).toNat)).Area)) || ((decide ((nth l i_3).Area = (nth l (((i_3 : Int) - 1).toNat)).Area)) && ((decide ((nth l i_3).Category ≤ (nth l (((i_3 : Int) - 1).toNat)).Category)) || (decide (12 < wI (((nth l i_3).Supply) + ((nth l (((i_3 : Int) - 1).toNat)).Supply))))))) then
            false
            else
            next2 ())
          else
          next2 ())))
    (fun (_ : Unit) =>
      k1 ()) (l.length - 0) 0 ())
theorem zfm (F0 : Frz) (w : World) (hF0 : F0.At w) (l : List GProduct) (vl : Value) (hl : SlC F0 vl 5 (l.map GProduct.enc)) : Calls Tryz.prog 28 #[vl] w fun e w' => e = .returned (.bool (zaq l)) ∧ Below w.heap.size w w' := by
  obtain ⟨r, hk⟩ : ∃ r, zaq l = r := ⟨_, rfl⟩; rw [hk]; unfold zaq at hk; haveI := hl.oneC; obtain ⟨S0, F1, rfl, hS0, hp0⟩ := zag hF0; refine zak Tryz.func28 rfl rfl rfl hp0 ?_; refine T.sr ?_; refine TL.run 1 rfl ?_; refine TL.ns (T.seq (T.sr ?_)); refine TL.run 1 rfl ?_; refine TL.ns ?_; have hq := zae hk; clear hk; obtain ⟨k1, hk1, hk⟩ := hq; (try dsimp only at hk); refine T.ad (ι := Unit) (fun z => []) (fun z => [.fr F1]) (fun z => k1 () = r) ?_ ?_
  · have hq := zaw hk; clear hk; obtain ⟨f2, kk2, hf2, hkk2, hk⟩ := hq; refine T.block ?_; refine T.loop (ι := Nat) (fun z => [(0, vl), (3, .int .i64 (z : Int))]) (fun z => [.fr F1]) (fun z => zam f2 kk2 (l.length - z) z () = r) (fun z => l.length - z) 0 ?_ ?_ ?_ ?_
    · exact hk
    · exact (.c (.c .nil))
    · exact List.Sublist.refl _
    · rintro i_3 hk; refine T.seq (T.sr ?_); refine TL.run 2 rfl ?_; refine TL.y (Yv.am rfl rfl hl (List.length_map _)) ?_; have hm8 : l.length ≤ 9223372036854775807 := (List.length_map _) ▸ hl.max; refine TL.run 1 rfl ?_; refine TL.ns ?_; refine T.cond rfl (fun h4 => ?_) (fun h4 => ?_)
      · have p4 := of_decide_eq_true h4; rw [zaQ (by omega)] at hk; generalize hn2 : zam f2 kk2 (l.length - (i_3 + 1)) (i_3 + 1) = next2 at hk; rw [← hf2] at hk; (try dsimp only at hk); refine T.skip (K.seq (T.seq (T.block (T.sr ?_)))); refine TL.run 2 rfl ?_; refine TL.y (Yv.an (i := i_3) rfl rfl rfl hl (List.length_map _) rfl (by omega)) ?_; refine TL.y (Yv.aO 0 (i := i_3) rfl rfl rfl hl (by omega) rfl rfl rfl) ?_; refine TL.e (Ew.alloc rfl) ?_; rintro _ _ ⟨g4, rfl, rfl⟩; refine TL.e0 (Ew.ag 0 rfl rfl rfl rfl rfl rfl) ?_; rintro _ _ ⟨rfl, rfl⟩; refine TL.ns (T.seq (T.seq ?_)); refine T.ad (ι := Unit) (fun z => [(0, vl), (3, .int .i64 (i_3 : Int)), (4, .pointer (some ⟨g4, 0, none⟩)), (63, .bool ((((((((((decide ((nth l i_3).Area < 0)) || (decide (63 < (nth l i_3).Area))) || (decide ((nth l i_3).Category < 1))) || (decide (2 < (nth l i_3).Category))) || (decide ((nth l i_3).Supply < 1))) || (decide (12 < (nth l i_3).Supply))) || (decide ((nth l i_3).Units < 1))) || (decide (100000 < (nth l i_3).Units))) || (decide ((nth l i_3).Reserve < 0))) || (decide (549755813888 < (nth l i_3).Reserve))))]) (fun z => [.row g4 76 [.int .i64 ((nth l i_3).Area), .int .i64 ((nth l i_3).Category), .int .i64 ((nth l i_3).Supply), .int .i64 ((nth l i_3).Units), .int .i64 ((nth l i_3).Reserve)], .fr F1]) (fun z => True) ?_ ?_
        · refine T.region ?_; refine TL.y (Yv.fieldAddr rfl rfl) ?_; refine TL.y (Yv.af 0 rfl rfl rfl rfl) ?_; refine TL.run 2 rfl ?_; refine TL.gs rfl rfl rfl (fun h5 => ?_) (fun h5 => ?_)
          · have p5 := of_decide_eq_true h5; refine TL.run 44 rfl ?_; refine TL.nil ?_; exact K.ab () trivial (.c (.c (.c (.b (zas (zas (zas (zas (zas (zas (zas (zas (zas h5))))))))).symm .nil)))) (List.Sublist.refl _)
          · have p5 := of_decide_eq_false h5; refine TL.y (Yv.fieldAddr rfl rfl) ?_; refine TL.y (Yv.af 0 rfl rfl rfl rfl) ?_; refine TL.run 3 rfl ?_; refine TL.gs rfl rfl rfl (fun h6 => ?_) (fun h6 => ?_)
            · have p6 := of_decide_eq_true h6; refine TL.run 39 rfl ?_; refine TL.nil ?_; exact K.ab () trivial (.c (.c (.c (.b (zas (zas (zas (zas (zas (zas (zas (zas (zay h5 h6))))))))).symm .nil)))) (List.Sublist.refl _)
            · have p6 := of_decide_eq_false h6; refine TL.y (Yv.fieldAddr rfl rfl) ?_; refine TL.y (Yv.af 0 rfl rfl rfl rfl) ?_; refine TL.run 3 rfl ?_; refine TL.gs rfl rfl rfl (fun h7 => ?_) (fun h7 => ?_)
              · have p7 := of_decide_eq_true h7; refine TL.run 34 rfl ?_; refine TL.nil ?_; exact K.ab () trivial (.c (.c (.c (.b (zas (zas (zas (zas (zas (zas (zas (zay (zay h5 h6) h7)))))))).symm .nil)))) (List.Sublist.refl _)
              · have p7 := of_decide_eq_false h7; refine TL.y (Yv.fieldAddr rfl rfl) ?_; refine TL.y (Yv.af 0 rfl rfl rfl rfl) ?_; refine TL.run 3 rfl ?_; refine TL.gs rfl rfl rfl (fun h8 => ?_) (fun h8 => ?_)
                · have p8 := of_decide_eq_true h8; refine TL.run 29 rfl ?_; refine TL.nil ?_; exact K.ab () trivial (.c (.c (.c (.b (zas (zas (zas (zas (zas (zas (zay (zay (zay h5 h6) h7) h8))))))).symm .nil)))) (List.Sublist.refl _)
                · have p8 := of_decide_eq_false h8; refine TL.y (Yv.fieldAddr rfl rfl) ?_; refine TL.y (Yv.af 0 rfl rfl rfl rfl) ?_; refine TL.run 3 rfl ?_; refine TL.gs rfl rfl rfl (fun h9 => ?_) (fun h9 => ?_)
                  · have p9 := of_decide_eq_true h9; refine TL.run 24 rfl ?_; refine TL.nil ?_; exact K.ab () trivial (.c (.c (.c (.b (zas (zas (zas (zas (zas (zay (zay (zay (zay h5 h6) h7) h8) h9)))))).symm .nil)))) (List.Sublist.refl _)
                  · have p9 := of_decide_eq_false h9; refine TL.y (Yv.fieldAddr rfl rfl) ?_; refine TL.y (Yv.af 0 rfl rfl rfl rfl) ?_; refine TL.run 3 rfl ?_; refine TL.gs rfl rfl rfl (fun h10 => ?_) (fun h10 => ?_)
                    · have p10 := of_decide_eq_true h10; refine TL.run 19 rfl ?_; refine TL.nil ?_; exact K.ab () trivial (.c (.c (.c (.b (zas (zas (zas (zas (zay (zay (zay (zay (zay h5 h6) h7) h8) h9) h10))))).symm .nil)))) (List.Sublist.refl _)
                    · have p10 := of_decide_eq_false h10; refine TL.y (Yv.fieldAddr rfl rfl) ?_; refine TL.y (Yv.af 0 rfl rfl rfl rfl) ?_; refine TL.run 3 rfl ?_; refine TL.gs rfl rfl rfl (fun h11 => ?_) (fun h11 => ?_)
                      · have p11 := of_decide_eq_true h11; refine TL.run 14 rfl ?_; refine TL.nil ?_; exact K.ab () trivial (.c (.c (.c (.b (zas (zas (zas (zay (zay (zay (zay (zay (zay h5 h6) h7) h8) h9) h10) h11)))).symm .nil)))) (List.Sublist.refl _)
                      · have p11 := of_decide_eq_false h11; refine TL.y (Yv.fieldAddr rfl rfl) ?_; refine TL.y (Yv.af 0 rfl rfl rfl rfl) ?_; refine TL.run 3 rfl ?_; refine TL.gs rfl rfl rfl (fun h12 => ?_) (fun h12 => ?_)
                        · have p12 := of_decide_eq_true h12; refine TL.run 9 rfl ?_; refine TL.nil ?_; exact K.ab () trivial (.c (.c (.c (.b (zas (zas (zay (zay (zay (zay (zay (zay (zay h5 h6) h7) h8) h9) h10) h11) h12))).symm .nil)))) (List.Sublist.refl _)
                        · have p12 := of_decide_eq_false h12; refine TL.y (Yv.fieldAddr rfl rfl) ?_; refine TL.y (Yv.af 0 rfl rfl rfl rfl) ?_; refine TL.run 3 rfl ?_; refine TL.gs rfl rfl rfl (fun h13 => ?_) (fun h13 => ?_)
                          · have p13 := of_decide_eq_true h13; refine TL.run 4 rfl ?_; refine TL.nil ?_; exact K.ab () trivial (.c (.c (.c (.b (zas (zay (zay (zay (zay (zay (zay (zay (zay h5 h6) h7) h8) h9) h10) h11) h12) h13)).symm .nil)))) (List.Sublist.refl _)
                          · have p13 := of_decide_eq_false h13; refine TL.y (Yv.fieldAddr rfl rfl) ?_; refine TL.y (Yv.af 0 rfl rfl rfl rfl) ?_; refine TL.run 2 rfl ?_; refine TL.nil ?_; exact K.ab () trivial (.c (.c (.c (.b (or_f (zay (zay (zay (zay (zay (zay (zay (zay h5 h6) h7) h8) h9) h10) h11) h12) h13)) .nil)))) (List.Sublist.refl _)
        · rintro _ _; refine T.cond rfl (fun h14 => ?_) (fun h14 => ?_)
          · replace hk := zaa hk h14; refine T.sr ?_; refine TL.run 1 rfl ?_; refine TL.ns (T.ret (K.a (K.aj (K.a (K.a (K.aj (K.a ?_))))))); subst hk; exact K.ah rfl rfl (fun w' hw => ⟨rfl, hw.isBelow⟩)
          · have p14 := h14; (try simp only [nfB] at p14); replace hk := zab hk h14; refine T.skip (K.seq (T.sr ?_)); refine TL.run 2 rfl ?_; refine TL.ns ?_; refine T.cond rfl (fun h15 => ?_) (fun h15 => ?_)
            · have p15 := of_decide_eq_true h15; replace hk := zaa hk h15; refine T.sr ?_; refine TL.run 2 rfl ?_; refine TL.y (Yv.aK rfl rfl rfl (by omega)) ?_; refine TL.y (Yv.an (i := ((i_3 : Int) - 1).toNat) rfl rfl rfl hl (List.length_map _) (by omega) (by omega)) ?_; refine TL.y (Yv.aO 1 (i := ((i_3 : Int) - 1).toNat) rfl rfl rfl hl (by omega) rfl rfl rfl) ?_; refine TL.e (Ew.alloc rfl) ?_; rintro _ _ ⟨g5, rfl, rfl⟩; refine TL.e0 (Ew.ag 0 rfl rfl rfl rfl rfl rfl) ?_; rintro _ _ ⟨rfl, rfl⟩; refine TL.ns (T.seq ?_); refine T.ad (ι := Unit) (fun z => [(0, vl), (3, .int .i64 (i_3 : Int)), (97, .bool ((decide ((nth l i_3).Area < (nth l (((i_3 : Int) - 1).toNat)).Area)) || ((decide ((nth l i_3).Area = (nth l (((i_3 : Int) - 1).toNat)).Area)) && ((decide ((nth l i_3).Category ≤ (nth l (((i_3 : Int) - 1).toNat)).Category)) || (decide (12 < wI (((nth l i_3).Supply) + ((nth l (((i_3 : Int) - 1).toNat)).Supply))))))))]) (fun z => [.row g5 76 [.int .i64 ((nth l (((i_3 : Int) - 1).toNat)).Area), .int .i64 ((nth l (((i_3 : Int) - 1).toNat)).Category), .int .i64 ((nth l (((i_3 : Int) - 1).toNat)).Supply), .int .i64 ((nth l (((i_3 : Int) - 1).toNat)).Units), .int .i64 ((nth l (((i_3 : Int) - 1).toNat)).Reserve)], .row g4 76 [.int .i64 ((nth l i_3).Area), .int .i64 ((nth l i_3).Category), .int .i64 ((nth l i_3).Supply), .int .i64 ((nth l i_3).Units), .int .i64 ((nth l i_3).Reserve)], .fr F1]) (fun z => True) ?_ ?_
              · refine T.region ?_; refine TL.y (Yv.fieldAddr rfl rfl) ?_; refine TL.y (Yv.af 1 rfl rfl rfl rfl) ?_; refine TL.y (Yv.fieldAddr rfl rfl) ?_; refine TL.y (Yv.af 0 rfl rfl rfl rfl) ?_; refine TL.run 2 rfl ?_; refine TL.gs rfl rfl rfl (fun h16 => ?_) (fun h16 => ?_)
                · have p16 := of_decide_eq_true h16; refine TL.run 21 rfl ?_; refine TL.nil ?_; exact K.ab () trivial (.c (.c (.b (zas h16).symm .nil))) (List.Sublist.refl _)
                · have p16 := of_decide_eq_false h16; refine TL.y (Yv.fieldAddr rfl rfl) ?_; refine TL.y (Yv.af 1 rfl rfl rfl rfl) ?_; refine TL.y (Yv.fieldAddr rfl rfl) ?_; refine TL.y (Yv.af 0 rfl rfl rfl rfl) ?_; refine TL.run 2 rfl ?_; refine TL.gs rfl rfl rfl (fun h17 => ?_) (fun h17 => ?_)
                  · have p17 := of_decide_eq_true h17; refine TL.y (Yv.fieldAddr rfl rfl) ?_; refine TL.y (Yv.af 1 rfl rfl rfl rfl) ?_; refine TL.y (Yv.fieldAddr rfl rfl) ?_; refine TL.y (Yv.af 0 rfl rfl rfl rfl) ?_; refine TL.run 2 rfl ?_; refine TL.gs rfl rfl rfl (fun h18 => ?_) (fun h18 => ?_)
                    · have p18 := of_decide_eq_true h18; refine TL.run 9 rfl ?_; refine TL.nil ?_; exact K.ab () trivial (.c (.c (.b (zay h16 (zcD h17 (zas h18))).symm .nil))) (List.Sublist.refl _)
                    · have p18 := of_decide_eq_false h18; refine TL.y (Yv.fieldAddr rfl rfl) ?_; refine TL.y (Yv.af 1 rfl rfl rfl rfl) ?_; refine TL.y (Yv.fieldAddr rfl rfl) ?_; refine TL.y (Yv.af 0 rfl rfl rfl rfl) ?_; refine TL.y (Yv.as (v := .int .i64 (wI (((nth l i_3).Supply) + ((nth l (((i_3 : Int) - 1).toNat)).Supply)))) rfl) ?_; refine TL.run 4 rfl ?_; refine TL.nil ?_; exact K.ab () trivial (.c (.c (.b (Eq.trans (Eq.trans (or_f h18) (zcY h17)) (or_f h16)) .nil))) (List.Sublist.refl _)
                  · have p17 := of_decide_eq_false h17; refine TL.run 15 rfl ?_; refine TL.nil ?_; exact K.ab () trivial (.c (.c (.b (zay h16 (za8 h17)).symm .nil))) (List.Sublist.refl _)
              · rintro _ _; refine T.cond rfl (fun h19 => ?_) (fun h19 => ?_)
                · replace hk := zaa hk h19; refine T.sr ?_; refine TL.run 1 rfl ?_; refine TL.ns (T.ret (K.aj (K.a (K.a (K.aj (K.a ?_)))))); subst hk; exact K.ah rfl rfl (fun w' hw => ⟨rfl, hw.isBelow⟩)
                · have p19 := h19; (try simp only [nfB] at p19); replace hk := zab hk h19; refine T.skip (K.ac (K.seq (T.region ?_))); refine TL.run 1 rfl ?_; refine TL.y (Yv.av rfl rfl rfl (by omega)) ?_; refine TL.run 1 rfl ?_; refine TL.nil ?_; rw [← hn2] at hk; refine K.pick [2] rfl (by decide) ?_; exact K.next (i_3 + 1) hk (by omega) (.c (.c .nil)) (List.Sublist.refl _)
            · have p15 := of_decide_eq_false h15; replace hk := zab hk h15; refine T.skip (K.ac (K.seq (T.region ?_))); refine TL.run 1 rfl ?_; refine TL.y (Yv.av rfl rfl rfl (by omega)) ?_; refine TL.run 1 rfl ?_; refine TL.nil ?_; rw [← hn2] at hk; refine K.pick [1] rfl (by decide) ?_; exact K.next (i_3 + 1) hk (by omega) (.c (.c .nil)) (List.Sublist.refl _)
      · have p4 := of_decide_eq_false h4; rw [zaR (by omega), ← hkk2] at hk; (try dsimp only at hk); refine T.exit (K.aa (K.aa (K.ae ?_))); exact K.ab () hk .nil (List.Sublist.refl _)
  · rintro _ hk; rw [← hk1] at hk; (try dsimp only at hk); refine T.sr ?_; refine TL.run 1 rfl ?_; refine TL.ns (T.ret ?_); subst hk; exact K.ah rfl rfl (fun w' hw => ⟨rfl, hw.isBelow⟩)
def zbt (l : List Int) (most : Int) : Bool :=
  zap (fun (_ : Unit) =>
    true)
  (fun k1 =>
    zam (fun (i_3 : Nat) (next2 : Unit → Bool) (_ : Unit) =>
      (bif ((decide ((nth l i_3) < 0)) || (decide (most < (nth l i_3)))) then
        false
        else
        next2 ()))
    (fun (_ : Unit) =>
      k1 ()) (l.length - 0) 0 ())
def zaW (p : GBidderPlan) (l : List GProduct) : Option Bool :=
  (bif ((((((!(zaq l)) || (decide (¬ (p.Values.length : Int) = (l.length : Int)))) || (decide (p.Bidder < 0))) || (decide (31 < p.Bidder))) || (decide (p.Budget < 0))) || (decide (1125899906842624 < p.Budget))) then
    some false
    else
    zap (fun (_ : Unit) =>
      some true)
    (fun k7 =>
      zam (fun (i_9 : Nat) (next8 : Unit → Option Bool) (_ : Unit) =>
        (bif ((decide (12 < ((nth p.Values i_9).length : Int))) || (!(zbt (nth p.Values i_9) 549755813888))) then
          some false
          else
          zam (fun (k_14 : Nat) (next13 : Unit → Option Bool) (_ : Unit) =>
            grd (0 ≤ ((k_14 : Int) - 1) ∧ ((k_14 : Int) - 1) < ((nth p.Values i_9).length : Int)) <|
            (bif decide ((nth (nth p.Values i_9) (((k_14 : Int) - 1).toNat)) < (nth (nth p.Values i_9) k_14)) then
              some false
              else
              next13 ()))
          (fun (_ : Unit) =>
            next8 ()) (((nth p.Values i_9).length) - 1) 1 ()))
      (fun (_ : Unit) =>
        k7 ()) (p.Values.length - 0) 0 ()))
def zcu (fuel : Nat) (p : GBidderPlan) (l : List GProduct) (prices : List Int) : Option (List Int × Int) :=
  (zaW p l).bind fun r15 =>
  (bif (((!r15) || (decide (¬ (prices.length : Int) = (l.length : Int)))) || (!(zbt prices 549755813888))) then
    some ([], 2)
    else
    grd (room l.length 8) <|
    zap (fun (s6 : Int × List Int) =>
      zap (fun (l_21 : List Int) =>
        some (l_21, 0))
      (fun k22 =>
        iterD (fun (i_26 : Nat) (next25 : (Int × List Int) → Option (List Int × Int)) (s25 : Int × List Int) =>
          zaI (fun (next30 : (Int × List Int) → Option (List Int × Int)) (s30 : Int × List Int) =>
            grd (0 ≤ (i_26 : Int) ∧ (i_26 : Int) < (s30.2.length : Int)) <|
            (bif ((decide (0 < (nth s30.2 i_26))) && (decide (p.Budget < s30.1))) then
              grd (0 ≤ (i_26 : Int) ∧ (i_26 : Int) < (s30.2.length : Int)) <|
              next30 (wI (s30.1 - (nth prices i_26)), (s30.2.set i_26 (wI ((nth s30.2 i_26) - 1))))
              else
              next25 (s30.1, s30.2))) fuel (s25.1, s25.2))
        (fun (s25 : Int × List Int) =>
          k22 s25.2) l.length (s6.1, s6.2)))
    (fun k6 =>
      zam (fun (i_10 : Nat) (next9 : (Int × List Int) → Option (List Int × Int)) (s9 : Int × List Int) =>
        grd (0 ≤ (i_10 : Int) ∧ (i_10 : Int) < (p.Values.length : Int)) <|
        zam (fun (k_15 : Nat) (next14 : (Int × List Int) → Option (List Int × Int)) (s14 : Int × List Int) =>
          zap (fun (x_17 : Bool) =>
            (bif x_17 then
              grd (0 ≤ (i_10 : Int) ∧ (i_10 : Int) < (s14.2.length : Int)) <|
              next14 (wI (s14.1 + (nth prices i_10)), (s14.2.set i_10 (wI ((nth s14.2 i_10) + 1))))
              else
              next14 (s14.1, s14.2)))
          (fun k18 =>
            (bif decide ((nth prices i_10) ≤ (nth (nth p.Values i_10) k_15)) then
              grd (0 ≤ (i_10 : Int) ∧ (i_10 : Int) < (s14.2.length : Int)) <|
              k18 (decide ((nth s14.2 i_10) < (nth l i_10).Supply))
              else
              k18 false)))
        (fun (s14 : Int × List Int) =>
          next9 (s14.1, s14.2)) (((nth p.Values i_10).length) - 0) 0 (s9.1, s9.2))
      (fun (s9 : Int × List Int) =>
        k6 (s9.1, s9.2)) (l.length - 0) 0 (0, (List.replicate l.length (0 : Int)))))
def zbL (l : List GProduct) (blocks : List Int) : Bool :=
  (bif ((!(zaq l)) || (decide (¬ (blocks.length : Int) = (l.length : Int)))) then
    false
    else
    zap (fun (_ : Unit) =>
      true)
    (fun k3 =>
      zam (fun (i_5 : Nat) (next4 : Unit → Bool) (_ : Unit) =>
        (bif ((decide ((nth blocks i_5) < 0)) || (decide ((nth l i_5).Supply < (nth blocks i_5)))) then
          false
          else
          next4 ()))
      (fun (_ : Unit) =>
        k3 ()) (l.length - 0) 0 ()))
def zb6 (v_ : List Int) (n : Int) (start : Int) (clock : Int) : Option Int :=
  zap (fun (value_1 : Int) =>
    (bif ((decide (clock = start)) || (decide (clock ≤ value_1))) then
      some 1000
      else
      (bif decide (value_1 < start) then
        some 0
        else
        grd (0 ≤ wI ((wI (value_1 - start)) * 1000) ∧ wI ((wI (value_1 - start)) * 1000) ≤ 9223372036854775807 ∧ 1 ≤ wI (clock - start)) <|
        some ((wI ((wI (value_1 - start)) * 1000)) / (wI (clock - start))))))
  (fun k2 =>
    (bif decide (n < (v_.length : Int)) then
      grd (0 ≤ n ∧ n < (v_.length : Int)) <|
      k2 (nth v_ n.toNat)
      else
      k2 0))
def zdF (fuel : Nat) (p : GBidderPlan) (l : List GProduct) (blocks : List Int) (starts : List Int) (clocks : List Int) : Option (List GRow × Int) :=
  (zcu fuel p l clocks).bind fun r24 =>
  (bif ((((decide (¬ r24.2 = 0)) || (!(zbL l blocks))) || (decide (¬ (starts.length : Int) = (l.length : Int)))) || (!(zbt starts 549755813888))) then
    some ([], 2)
    else
    zap (fun (_ : Unit) =>
      zap (fun (out_10 : List GRow) =>
        some (out_10, 0))
      (fun k11 =>
        zam (fun (i_14 : Nat) (next13 : List GRow → Option (List GRow × Int)) (out_12 : List GRow) =>
          grd (0 ≤ (i_14 : Int) ∧ (i_14 : Int) < (r24.1.length : Int)) <|
          grd (0 ≤ (i_14 : Int) ∧ (i_14 : Int) < (blocks.length : Int)) <|
          zap (fun (out_16 : List GRow) =>
            zaI (fun (next21 : (List GRow × Int) → Option (List GRow × Int)) (s21 : List GRow × Int) =>
              (bif decide (s21.2 ≤ 1000) then
                zap (fun (n_24 : Int) =>
                  (bif decide (0 < n_24) then
                    grd (room (s21.1 ++ [(GRow.mk (i_14 : Int) (wI (0 - n_24)) s21.2)]).length 24) <|
                    next21 ((s21.1 ++ [(GRow.mk (i_14 : Int) (wI (0 - n_24)) s21.2)]), wI (s21.2 + 1))
                    else
                    next21 (s21.1, wI (s21.2 + 1))))
                (fun k25 =>
                  zaI (fun (next28 : (Int × Int) → Option (List GRow × Int)) (s28 : Int × Int) =>
                    (bif decide (s28.2 < (nth blocks i_14)) then
                      grd (0 ≤ (i_14 : Int) ∧ (i_14 : Int) < (p.Values.length : Int)) <|
                      grd (0 ≤ (i_14 : Int) ∧ (i_14 : Int) < (clocks.length : Int)) <|
                      (zb6 (nth p.Values i_14) s28.2 (nth starts i_14) (nth clocks i_14)).bind fun r121 =>
                      (bif decide (r121 = s21.2) then
                        next28 (wI (s28.1 + 1), wI (s28.2 + 1))
                        else
                        next28 (s28.1, wI (s28.2 + 1)))
                      else
                      k25 s28.1)) fuel (0, (nth r24.1 i_14)))
                else
                next13 s21.1)) fuel (out_16, 0))
          (fun k17 =>
            (bif decide ((nth blocks i_14) < (nth r24.1 i_14)) then
              grd (room (out_12 ++ [(GRow.mk (i_14 : Int) (wI ((nth r24.1 i_14) - (nth blocks i_14))) 1000)]).length 24) <|
              k17 (out_12 ++ [(GRow.mk (i_14 : Int) (wI ((nth r24.1 i_14) - (nth blocks i_14))) 1000)])
              else
              k17 out_12)))
        (fun (out_12 : List GRow) =>
          k11 out_12) (l.length - 0) 0 []))
    (fun k5 =>
      zam (fun (i_7 : Nat) (next6 : Unit → Option (List GRow × Int)) (_ : Unit) =>
        grd (0 ≤ (i_7 : Int) ∧ (i_7 : Int) < (clocks.length : Int)) <|
        (bif decide ((nth clocks i_7) < (nth starts i_7)) then
          some ([], 2)
          else
          next6 ()))
      (fun (_ : Unit) =>
        k5 ()) (l.length - 0) 0 ()))
def zb5 (state : BitVec 64) : BitVec 64 × BitVec 64 :=
  ((state + (11400714819323198485#64)), ((((((state + (11400714819323198485#64)) ^^^ ((state + (11400714819323198485#64)) >>> 30)) * (13787848793156543929#64)) ^^^ ((((state + (11400714819323198485#64)) ^^^ ((state + (11400714819323198485#64)) >>> 30)) * (13787848793156543929#64)) >>> 27)) * (10723151780598845931#64)) ^^^ ((((((state + (11400714819323198485#64)) ^^^ ((state + (11400714819323198485#64)) >>> 30)) * (13787848793156543929#64)) ^^^ ((((state + (11400714819323198485#64)) ^^^ ((state + (11400714819323198485#64)) >>> 30)) * (13787848793156543929#64)) >>> 27)) * (10723151780598845931#64)) >>> 31)))
def zbQ (fuel : Nat) (state : BitVec 64) (limit : Int) : Option (BitVec 64 × Int) :=
  grd (¬ (BitVec.ofInt 64 limit) = 0#64) <|
  grd (¬ (BitVec.ofInt 64 limit) = 0#64) <|
  zaI (fun (next2 : BitVec 64 → Option (BitVec 64 × Int)) (state_1 : BitVec 64) =>
    (bif decide ((((zb5 state_1).2).toNat : Int) ≤ (((18446744073709551615#64) - ((((18446744073709551615#64) % (BitVec.ofInt 64 limit)) + (1#64)) % (BitVec.ofInt 64 limit))).toNat : Int)) then
      grd (¬ (BitVec.ofInt 64 limit) = 0#64) <|
      some ((zb5 state_1).1, (wI ((((zb5 state_1).2) % (BitVec.ofInt 64 limit)).toNat : Int)))
      else
      next2 ((zb5 state_1).1))) fuel state
def zcA (fuel : Nat) (seed : Int) (station : Int) (home : Int) (scale : Int) : Option (GStationPlan × Int) :=
  (bif ((((((decide (station < 0)) || (decide (511 < station))) || (decide (home < 1))) || (decide (3 < home))) || (decide (scale < 0))) || (decide (68719476736 < scale))) then
    some ((GStationPlan.mk 0 0 []), 2)
    else
    grd (room ((home + 1).toNat) 8) <|
    (zbQ fuel (BitVec.ofInt 64 seed) (scale + 1)).bind fun r48 =>
    grd (0 ≤ home ∧ home < ((List.replicate ((home + 1).toNat) (0 : Int)).length : Int)) <|
    zap (fun (l_7 : List Int) =>
      some ((GStationPlan.mk station home l_7), 0))
    (fun k8 =>
      zam (fun (o_12 : Nat) (next11 : (BitVec 64 × List Int) → Option (GStationPlan × Int)) (s11 : BitVec 64 × List Int) =>
        grd (0 ≤ home ∧ home < (s11.2.length : Int)) <|
        (zbQ fuel s11.1 (wI ((nth s11.2 home.toNat) + 1))).bind fun r69 =>
        next11 (r69.1, (s11.2.set o_12 r69.2)))
      (fun (s11 : BitVec 64 × List Int) =>
        k8 s11.2) (home.toNat - 1) 1 (r48.1, ((List.replicate ((home + 1).toNat) (0 : Int)).set home.toNat r48.2))))
def zdb (fuel : Nat) (seed : Int) (bidder : Int) (l : List GProduct) (scale : Int) : Option (GBidderPlan × Int) :=
  (bif (((((decide (bidder < 0)) || (decide (31 < bidder))) || (!(zaq l))) || (decide (scale < 0))) || (decide (68719476736 < scale))) then
    some ((GBidderPlan.mk 0 0 []), 2)
    else
    zap (fun (s10 : BitVec 64 × Int × Int × List (List Int)) =>
      (zbQ fuel s10.1 (wI ((wI (10 * scale)) + 1))).bind fun r80 =>
      some ((GBidderPlan.mk s10.2.1 r80.2 s10.2.2.2), 0))
    (fun k10 =>
      zam (fun (i_16 : Nat) (next15 : (BitVec 64 × Int × Int × List (List Int)) → Option (GBidderPlan × Int)) (s15 : BitVec 64 × Int × Int × List (List Int)) =>
        zap (fun (s20 : BitVec 64 × List Int) =>
          grd (room (s15.2.2.2 ++ [s20.2]).length 24) <|
          next15 (s20.1, s15.2.1, s15.2.2.1, (s15.2.2.2 ++ [s20.2])))
        (fun k20 =>
          grd ((nth l i_16).Supply ≤ 9223372036854775807) <|
          zam (fun (k_25 : Nat) (next24 : (BitVec 64 × Int × List Int) → Option (GBidderPlan × Int)) (s24 : BitVec 64 × Int × List Int) =>
            (zbQ fuel s24.1 (wI (s24.2.1 + 1))).bind fun r61 =>
            grd (room (s24.2.2 ++ [r61.2]).length 8) <|
            next24 (r61.1, r61.2, (s24.2.2 ++ [r61.2])))
          (fun (s24 : BitVec 64 × Int × List Int) =>
            k20 (s24.1, s24.2.2)) ((((nth l i_16).Supply).toNat) - 0) 0 (s15.1, scale, [])))
      (fun (s15 : BitVec 64 × Int × Int × List (List Int)) =>
        k10 (s15.1, s15.2.1, s15.2.2.1, s15.2.2.2)) (l.length - 0) 0 ((BitVec.ofInt 64 seed), bidder, 0, [])))
def za2 (a : List Int) (b : List Int) : Bool :=
  (bif decide (¬ (a.length : Int) = (b.length : Int)) then
    false
    else
    zap (fun (_ : Unit) =>
      true)
    (fun k2 =>
      zam (fun (i_4 : Nat) (next3 : Unit → Bool) (_ : Unit) =>
        (bif decide (¬ (nth a i_4) = (nth b i_4)) then
          false
          else
          next3 ()))
      (fun (_ : Unit) =>
        k2 ()) (a.length - 0) 0 ()))
theorem zdh (F0 : Frz) (w : World) (hF0 : F0.At w) (a : List Int) (va : Value) (ha : SlC F0 va 1 (a.map eI)) (b : List Int) (vb : Value) (hb : SlC F0 vb 1 (b.map eI)) : Calls Tryz.prog 25 #[va, vb] w fun e w' => e = .returned (.bool (za2 a b)) ∧ Below w.heap.size w w' := by
  obtain ⟨r, hk⟩ : ∃ r, za2 a b = r := ⟨_, rfl⟩; rw [hk]; unfold za2 at hk; haveI := ha.oneC; haveI := hb.oneC; obtain ⟨S0, F1, rfl, hS0, hp0⟩ := zag hF0; refine zak Tryz.func25 rfl rfl rfl hp0 ?_; refine T.sr ?_; refine TL.run 1 rfl ?_; refine TL.ns (T.seq (T.sr ?_)); refine TL.run 1 rfl ?_; refine TL.y (Yv.am rfl rfl ha (List.length_map _)) ?_; have hm7 : a.length ≤ 9223372036854775807 := (List.length_map _) ▸ ha.max; refine TL.run 1 rfl ?_; refine TL.y (Yv.am rfl rfl hb (List.length_map _)) ?_; have hm9 : b.length ≤ 9223372036854775807 := (List.length_map _) ▸ hb.max; refine TL.run 1 rfl ?_; refine TL.ns ?_; refine T.cond rfl (fun h1 => ?_) (fun h1 => ?_)
  · have p1 := of_decide_eq_true h1; replace hk := zaa hk h1; refine T.sr ?_; refine TL.run 1 rfl ?_; refine TL.ns (T.ret (K.a ?_)); subst hk; exact K.ah rfl rfl (fun w' hw => ⟨rfl, hw.isBelow⟩)
  · have p1 := of_decide_eq_false h1; replace hk := zab hk h1; refine T.skip (K.seq (T.seq (T.sr ?_))); refine TL.run 1 rfl ?_; refine TL.ns ?_; have hq := zae hk; clear hk; obtain ⟨k2, hk2, hk⟩ := hq; (try dsimp only at hk); refine T.ad (ι := Unit) (fun z => []) (fun z => [.fr F1]) (fun z => k2 () = r) ?_ ?_
    · have hq := zaw hk; clear hk; obtain ⟨f3, kk3, hf3, hkk3, hk⟩ := hq; refine T.block ?_; refine T.loop (ι := Nat) (fun z => [(0, va), (1, vb), (5, .int .i64 (z : Int))]) (fun z => [.fr F1]) (fun z => zam f3 kk3 (a.length - z) z () = r) (fun z => a.length - z) 0 ?_ ?_ ?_ ?_
      · exact hk
      · exact (.c (.c (.c .nil)))
      · exact List.Sublist.refl _
      · rintro i_4 hk; refine T.seq (T.sr ?_); refine TL.run 2 rfl ?_; refine TL.y (Yv.am rfl rfl ha (List.length_map _)) ?_; refine TL.run 1 rfl ?_; refine TL.ns ?_; refine T.cond rfl (fun h5 => ?_) (fun h5 => ?_)
        · have p5 := of_decide_eq_true h5; rw [zaQ (by omega)] at hk; generalize hn3 : zam f3 kk3 (a.length - (i_4 + 1)) (i_4 + 1) = next3 at hk; rw [← hf3] at hk; (try dsimp only at hk); refine T.skip (K.seq (T.seq (T.block (T.seq ?_)))); refine T.ax (.still 0 (.still 1 (.still 2 (.still 3 (.still 4 (.still 5 (.still 6 (.still 7 (.still 8 .done))))))))) _ (by kernel_rfl) (List.Sublist.refl _) ?_; refine TS.run 2 rfl ?_; refine TS.y rfl (Yv.an (i := i_4) rfl rfl rfl ha (List.length_map _) rfl (by omega)) ?_; refine TS.y rfl (Yv.al 0 (i := i_4) (j := 0) rfl rfl rfl ha (by omega) rfl rfl) ?_; refine TS.run 2 rfl ?_; refine TS.y rfl (Yv.an (i := i_4) rfl rfl rfl hb (List.length_map _) rfl (by omega)) ?_; refine TS.y rfl (Yv.al 0 (i := i_4) (j := 0) rfl rfl rfl hb (by omega) rfl rfl) ?_; refine TS.run 1 rfl ?_; refine TS.done ?_; refine K.seq ?_; refine T.cond rfl (fun h6 => ?_) (fun h6 => ?_)
          · have p6 := of_decide_eq_true h6; replace hk := zaa hk h6; refine T.sr ?_; refine TL.run 1 rfl ?_; refine TL.ns (T.ret (K.aj (K.a (K.a (K.aj (K.a ?_)))))); subst hk; exact K.ah rfl rfl (fun w' hw => ⟨rfl, hw.isBelow⟩)
          · have p6 := of_decide_eq_false h6; replace hk := zab hk h6; refine T.skip (K.ac (K.seq (T.region ?_))); refine TL.run 1 rfl ?_; refine TL.y (Yv.av rfl rfl rfl (by omega)) ?_; refine TL.run 1 rfl ?_; refine TL.nil ?_; rw [← hn3] at hk; exact K.next (i_4 + 1) hk (by omega) (.c (.c (.c .nil))) (List.Sublist.refl _)
        · have p5 := of_decide_eq_false h5; rw [zaR (by omega), ← hkk3] at hk; (try dsimp only at hk); refine T.exit (K.aa (K.aa (K.ae ?_))); exact K.ab () hk .nil (List.Sublist.refl _)
    · rintro _ hk; rw [← hk2] at hk; (try dsimp only at hk); refine T.sr ?_; refine TL.run 1 rfl ?_; refine TL.ns (T.ret ?_); subst hk; exact K.ah rfl rfl (fun w' hw => ⟨rfl, hw.isBelow⟩)
def zci (p : GBidderPlan) (l : List GProduct) : Bool :=
  zap (fun (_ : Unit) =>
    ((decide ((p.Values.length : Int) ≤ 8)) && (decide ((l.length : Int) ≤ 8))))
  (fun k1 =>
    zam (fun (i_3 : Nat) (next2 : Unit → Bool) (_ : Unit) =>
      (bif decide (16 < ((nth p.Values i_3).length : Int)) then
        false
        else
        next2 ()))
    (fun (_ : Unit) =>
      k1 ()) (p.Values.length - 0) 0 ())
theorem zgf (F0 : Frz) (w : World) (hF0 : F0.At w) (p : GBidderPlan) (vp_2 : Value) (cp_2 : List (List Value)) (hp_2 : SlD R_List_Int.rep F0 vp_2 1 cp_2 p.Values) (l : List GProduct) (vl : Value) (hl : SlC F0 vl 5 (l.map GProduct.enc)) : Calls Tryz.prog 6 #[.agg [.int .i64 p.Bidder, .int .i64 p.Budget, vp_2].toArray, vl] w fun e w' => e = .returned (.bool (zci p l)) ∧ Below w.heap.size w w' := by
  obtain ⟨r, hk⟩ : ∃ r, zci p l = r := ⟨_, rfl⟩; rw [hk]; unfold zci at hk; haveI := hp_2.1.oneC; haveI := hl.oneC; obtain ⟨S0, F1, rfl, hS0, hp0⟩ := zag hF0; refine zak Tryz.func6 rfl rfl rfl hp0 ?_; refine T.sr ?_; refine TL.e (Ew.aw rfl rfl) ?_; rintro _ _ ⟨g2, rfl, rfl⟩; refine TL.run 1 rfl ?_; refine TL.ns (T.seq (T.sr ?_)); refine TL.run 1 rfl ?_; refine TL.ns ?_; have hq := zae hk; clear hk; obtain ⟨k1, hk1, hk⟩ := hq; (try dsimp only at hk); refine T.ad (ι := Unit) (fun z => [(1, vl), (2, .pointer (some ⟨g2, 0, none⟩))]) (fun z => [.row g2 24 [.int .i64 p.Bidder, .int .i64 p.Budget, vp_2], .fr F1]) (fun z => k1 () = r) ?_ ?_
  · have hq := zaw hk; clear hk; obtain ⟨f2, kk2, hf2, hkk2, hk⟩ := hq; refine T.block ?_; refine T.loop (ι := Nat) (fun z => [(1, vl), (2, .pointer (some ⟨g2, 0, none⟩)), (5, .int .i64 (z : Int))]) (fun z => [.row g2 24 [.int .i64 p.Bidder, .int .i64 p.Budget, vp_2], .fr F1]) (fun z => zam f2 kk2 (p.Values.length - z) z () = r) (fun z => p.Values.length - z) 0 ?_ ?_ ?_ ?_
    · exact hk
    · exact (.c (.c (.c .nil)))
    · exact List.Sublist.refl _
    · rintro i_3 hk; refine T.seq (T.sr ?_); refine TL.run 1 rfl ?_; refine TL.y (Yv.fieldAddr rfl rfl) ?_; refine TL.y (Yv.af 0 rfl rfl rfl rfl) ?_; refine TL.y (Yv.am rfl rfl hp_2.1 hp_2.2.1) ?_; have hm9 : p.Values.length ≤ 9223372036854775807 := hp_2.2.1 ▸ hp_2.1.max; refine TL.run 1 rfl ?_; refine TL.ns ?_; refine T.cond rfl (fun h4 => ?_) (fun h4 => ?_)
      · have p4 := of_decide_eq_true h4; rw [zaQ (by omega)] at hk; generalize hn2 : zam f2 kk2 (p.Values.length - (i_3 + 1)) (i_3 + 1) = next2 at hk; rw [← hf2] at hk; (try dsimp only at hk); refine T.skip (K.seq (T.seq (T.block (T.sr ?_)))); refine TL.y (Yv.fieldAddr rfl rfl) ?_; refine TL.y (Yv.af 0 rfl rfl rfl rfl) ?_; refine TL.run 1 rfl ?_; refine TL.y (Yv.an (i := i_3) rfl rfl rfl hp_2.1 hp_2.2.1 rfl (by omega)) ?_; refine TL.y (Yv.aJ 1 (i := i_3) (j := 0) rfl rfl rfl hp_2.1 hp_2.2.1 (by omega) rfl (R_List_Int.c0 (hp_2.2.2 i_3 (by omega))).1) ?_; have hd17_0 := (R_List_Int.c0 (hp_2.2.2 i_3 (by omega))).2; haveI := hd17_0.oneC; refine TL.y (Yv.am rfl rfl hd17_0 (List.length_map _)) ?_; have hm18 : (nth p.Values i_3).length ≤ 9223372036854775807 := (List.length_map _) ▸ hd17_0.max; refine TL.run 1 rfl ?_; refine TL.ns ?_; refine T.cond rfl (fun h5 => ?_) (fun h5 => ?_)
        · have p5 := of_decide_eq_true h5; replace hk := zaa hk h5; refine T.sr ?_; refine TL.run 1 rfl ?_; refine TL.ns (T.ret (K.aj (K.a (K.a (K.aj (K.a ?_)))))); subst hk; exact K.ah rfl rfl (fun w' hw => ⟨rfl, hw.isBelow⟩)
        · have p5 := of_decide_eq_false h5; replace hk := zab hk h5; refine T.skip (K.ac (K.seq (T.region ?_))); refine TL.run 1 rfl ?_; refine TL.y (Yv.av rfl rfl rfl (by omega)) ?_; refine TL.run 1 rfl ?_; refine TL.nil ?_; rw [← hn2] at hk; exact K.next (i_3 + 1) hk (by omega) (.c (.c (.c .nil))) (List.Sublist.refl _)
      · have p4 := of_decide_eq_false h4; rw [zaR (by omega), ← hkk2] at hk; (try dsimp only at hk); refine T.exit (K.aa (K.aa (K.ae ?_))); exact K.ab () hk (.c (.c .nil)) (List.Sublist.refl _)
  · rintro _ hk; rw [← hk1] at hk; (try dsimp only at hk); refine T.seq ?_; refine T.ad (ι := Unit) (fun z => [(4, .bool ((decide ((p.Values.length : Int) ≤ 8)) && (decide ((l.length : Int) ≤ 8))))]) (fun z => [.row g2 24 [.int .i64 p.Bidder, .int .i64 p.Budget, vp_2], .fr F1]) (fun z => True) ?_ ?_
    · refine T.region ?_; refine TL.y (Yv.fieldAddr rfl rfl) ?_; refine TL.y (Yv.af 0 rfl rfl rfl rfl) ?_; refine TL.y (Yv.am rfl rfl hp_2.1 hp_2.2.1) ?_; have hm22 : p.Values.length ≤ 9223372036854775807 := hp_2.2.1 ▸ hp_2.1.max; refine TL.run 2 rfl ?_; refine TL.gs rfl rfl rfl (fun h6 => ?_) (fun h6 => ?_)
      · have p6 := of_decide_eq_true h6; refine TL.run 1 rfl ?_; refine TL.y (Yv.am rfl rfl hl (List.length_map _)) ?_; have hm26 : l.length ≤ 9223372036854775807 := (List.length_map _) ▸ hl.max; refine TL.run 3 rfl ?_; refine TL.nil ?_; exact K.ab () trivial (.b (zcY h6) .nil) (List.Sublist.refl _)
      · have p6 := of_decide_eq_false h6; refine TL.run 5 rfl ?_; refine TL.nil ?_; exact K.ab () trivial (.b (za8 h6).symm .nil) (List.Sublist.refl _)
    · rintro _ _; have hm22 : p.Values.length ≤ 9223372036854775807 := hp_2.2.1 ▸ hp_2.1.max; have hm26 : l.length ≤ 9223372036854775807 := (List.length_map _) ▸ hl.max; refine T.ret ?_; subst hk; exact K.ah rfl rfl (fun w' hw => ⟨rfl, hw.isBelow⟩)
def zdG (fuel : Nat) (l : List GBid) (id : Int) (want : List GRow) : Option Bool :=
  (bif decide (¬ (l.length : Int) = (want.length : Int)) then
    some false
    else
    zap (fun (_ : Unit) =>
      some true)
    (fun k2 =>
      zam (fun (i_4 : Nat) (next3 : Unit → Option Bool) (_ : Unit) =>
        (zbV fuel ((nth want i_4).Point) 1000).bind fun r27 =>
        zap (fun (x_6 : Bool) =>
          (bif x_6 then
            some false
            else
            next3 ()))
        (fun k7 =>
          (bif decide (¬ r27.2 = 0) then
            k7 true
            else
            (bif decide (¬ (nth l i_4).Bidder = id) then
              k7 true
              else
              (bif decide (¬ (nth l i_4).Product = (nth want i_4).Product) then
                k7 true
                else
                (bif decide (¬ (nth l i_4).Change = (nth want i_4).Change) then
                  k7 true
                  else
                  (zbM fuel ((nth l i_4).Point)).bind fun r73 =>
                  (bif !r73 then
                    k7 true
                    else
                    (zb2 fuel ((nth l i_4).Point) r27.1).bind fun r83 =>
                    k7 (decide (¬ r83 = 0)))))))))
      (fun (_ : Unit) =>
        k2 ()) (l.length - 0) 0 ()))
theorem zfZ (F0 : Frz) (w : World) (hF0 : F0.At w) (l : List GBid) (vl : Value) (cl : List (List Value)) (hl : SlD GBid.rep F0 vl 7 cl l) (id : Int) (want : List GRow) (vwant : Value) (hwant : SlC F0 vwant 3 (want.map GRow.enc)) (fuel : Nat) (r : Bool) (hr : zdG fuel l id want = some r) : Calls Tryz.prog 10 #[vl, .int .i64 id, vwant] w fun e w' => e = .returned (.bool r) ∧ Below w.heap.size w w' := by
  have hk := hr; unfold zdG at hk; haveI := hl.1.oneC; haveI := hwant.oneC; obtain ⟨S0, F1, rfl, hS0, hp0⟩ := zag hF0; refine zak Tryz.func10 rfl rfl rfl hp0 ?_; refine T.sr ?_; refine TL.run 1 rfl ?_; refine TL.ns (T.seq (T.sr ?_)); refine TL.run 1 rfl ?_; refine TL.y (Yv.am rfl rfl hl.1 hl.2.1) ?_; have hm11 : l.length ≤ 9223372036854775807 := hl.2.1 ▸ hl.1.max; refine TL.run 1 rfl ?_; refine TL.y (Yv.am rfl rfl hwant (List.length_map _)) ?_; have hm13 : want.length ≤ 9223372036854775807 := (List.length_map _) ▸ hwant.max; refine TL.run 1 rfl ?_; refine TL.ns ?_; refine T.cond rfl (fun h1 => ?_) (fun h1 => ?_)
  · have p1 := of_decide_eq_true h1; replace hk := zaa hk h1; refine T.sr ?_; refine TL.run 1 rfl ?_; refine TL.ns (T.ret (K.a ?_)); obtain rfl := Option.some.inj hk; exact K.ah rfl rfl (fun w' hw => ⟨rfl, hw.isBelow⟩)
  · have p1 := of_decide_eq_false h1; replace hk := zab hk h1; refine T.skip (K.seq (T.seq (T.sr ?_))); refine TL.run 1 rfl ?_; refine TL.ns ?_; have hq := zae hk; clear hk; obtain ⟨k2, hk2, hk⟩ := hq; (try dsimp only at hk); refine T.ad (ι := FzB w (fun _ => False) S0) (fun z => []) (fun z => [.fr z]) (fun z => k2 () = some r ∧ F1.toFrz.Le z.toFrz) ?_ ?_
    · have hq := zaw hk; clear hk; obtain ⟨f3, kk3, hf3, hkk3, hk⟩ := hq; refine T.block ?_; refine T.loop (ι := Nat × FzB w (fun _ => False) S0) (fun z => [(0, vl), (1, .int .i64 id), (2, vwant), (7, .int .i64 (z.1 : Int))]) (fun z => [.fr z.2]) (fun z => zam f3 kk3 (l.length - z.1) z.1 () = some r ∧ F1.toFrz.Le z.2.toFrz) (fun z => l.length - z.1) (0, F1) ?_ ?_ ?_ ?_
      · exact ⟨hk, (Frz.Le.refl _)⟩
      · exact (.c (.c (.c (.c .nil))))
      · exact List.Sublist.refl _
      · rintro ⟨i_4, F3⟩ ⟨hk, le1_3⟩; (try dsimp only at *); refine T.seq (T.sr ?_); refine TL.run 2 rfl ?_; refine TL.y (Yv.am rfl rfl (SlD.mono (rep := GBid.rep) (fun _ _ _ _ => GBid.mono) hl le1_3).1 (SlD.mono (rep := GBid.rep) (fun _ _ _ _ => GBid.mono) hl le1_3).2.1) ?_; refine TL.run 1 rfl ?_; refine TL.ns ?_; refine T.cond rfl (fun h5 => ?_) (fun h5 => ?_)
        · have p5 := of_decide_eq_true h5; rw [zaQ (by omega)] at hk; generalize hn3 : zam f3 kk3 (l.length - (i_4 + 1)) (i_4 + 1) = next3 at hk; rw [← hf3] at hk; (try dsimp only at hk); refine T.skip (K.seq (T.seq (T.block (T.seq ?_)))); have hq := zac hk; clear hk; obtain ⟨r27, hr27, hk⟩ := hq; (try dsimp only at hk); refine T.region ?_; refine TL.run 2 rfl ?_; refine TL.y (Yv.an (i := i_4) rfl rfl rfl (SlC.mono hwant le1_3) (List.length_map _) rfl (by omega)) ?_; refine TL.y (Yv.aN rfl rfl (SlC.mono hwant le1_3) (List.length_map _) (by omega)) ?_; refine TL.y (Yv.al 0 (i := i_4) (j := 2) rfl rfl rfl (SlC.mono hwant le1_3) (by omega) rfl rfl) ?_; refine TL.e (Ew.ao 0 rfl rfl rfl rfl (fun w hw hF => ze8 _ w hF ((nth want i_4).Point) 1000 fuel r27 hr27)) ?_; rintro _ _ ⟨⟨v27_0_1, v27_0_3⟩, F4, le3_4, ⟨hf27_0_1, hf27_0_3⟩, rfl, rfl⟩; dsimp only at hf27_0_1 hf27_0_3 ⊢; have le1_4 := le1_3.trans le3_4; haveI := hf27_0_1.oneC; haveI := hf27_0_3.oneC; refine TL.run 3 rfl ?_; refine TL.e (Ew.alloc rfl) ?_; rintro _ _ ⟨g8, rfl, rfl⟩; refine TL.e0 (Ew.ag 0 rfl rfl rfl rfl rfl rfl) ?_; rintro _ _ ⟨rfl, rfl⟩; refine TL.run 1 rfl ?_; refine TL.ns (T.seq ?_); (try dsimp only at hk); have hq := zae hk; clear hk; obtain ⟨k7, hk7, hk⟩ := hq; (try dsimp only at hk); refine T.ad (ι := Bool) (fun z => [(0, vl), (1, .int .i64 id), (2, vwant), (7, .int .i64 (i_4 : Int)), (85, .bool z)]) (fun z => [.fr F4]) (fun z => k7 z = some r) ?_ ?_
          · refine T.ax (.still 0 (.still 1 (.still 2 (.still 3 (.still 4 (.still 5 (.still 6 (.still 7 (.still 8 (.still 9 (.still 10 (.still 11 (.still 12 (.still 13 (.still 14 (.still 15 (.still 16 (.still 17 (.still 18 (.still 19 (.still 20 (.still 21 (.still 22 (.still 23 (.still 24 (.still 25 (.still 26 (.still 27 (.still 28 (.still 29 (.still 30 (.still 31 (.still 32 (.still 33 (.still 34 (.still 35 (.still 36 (.still 37 (.still 38 (.still 39 (.still 40 (.still 41 (.still 42 (.eff 43 (.still 44 (.still 45 (.still 46 (.still 47 (.still 48 (.still 49 (.still 50 (.still 51 (.still 52 (.eff 53 (.still 54 (.still 55 .done)))))))))))))))))))))))))))))))))))))))))))))))))))))))) _ (by kernel_rfl) (List.Sublist.refl _) ?_; refine TS.run 3 rfl ?_; refine TS.gs rfl rfl rfl rfl (fun h8 => ?_) (fun h8 => ?_)
            · have p8 := of_decide_eq_true h8; replace hk := zaa hk h8; refine TS.run 40 rfl ?_; refine TS.eff ?_; refine TSo.off rfl (Wt.not rfl rfl rfl rfl) rfl rfl ?_; refine TS.run 9 rfl ?_; refine TS.eff ?_; refine TSo.off rfl (Wt.not rfl rfl rfl rfl) rfl rfl ?_; refine TS.run 2 rfl ?_; refine TS.done ?_; refine K.pick [1] rfl (by decide) ?_; exact K.ab true hk (.c (.c (.c (.c (.c .nil))))) (List.Sublist.refl _)
            · have p8 := of_decide_eq_false h8; replace hk := zab hk h8; refine TS.run 2 rfl ?_; refine TS.y rfl (Yv.an (i := i_4) rfl rfl rfl (SlD.mono (rep := GBid.rep) (fun _ _ _ _ => GBid.mono) hl le1_4).1 (SlD.mono (rep := GBid.rep) (fun _ _ _ _ => GBid.mono) hl le1_4).2.1 rfl (by omega)) ?_; refine TS.y rfl (Yv.aN rfl rfl (SlD.mono (rep := GBid.rep) (fun _ _ _ _ => GBid.mono) hl le1_4).1 (SlD.mono (rep := GBid.rep) (fun _ _ _ _ => GBid.mono) hl le1_4).2.1 (by omega)) ?_; refine TS.y rfl (Yv.aJ 1 (i := i_4) (j := 0) rfl rfl rfl (SlD.mono (rep := GBid.rep) (fun _ _ _ _ => GBid.mono) hl le1_4).1 (SlD.mono (rep := GBid.rep) (fun _ _ _ _ => GBid.mono) hl le1_4).2.1 (by omega) rfl (GBid.c0 ((SlD.mono (rep := GBid.rep) (fun _ _ _ _ => GBid.mono) hl le1_4).2.2 i_4 (by omega)))) ?_; refine TS.run 4 rfl ?_; refine TS.gs rfl rfl rfl rfl (fun h9 => ?_) (fun h9 => ?_)
              · have p9 := of_decide_eq_true h9; replace hk := zaa hk h9; refine TS.run 31 rfl ?_; refine TS.eff ?_; refine TSo.off rfl (Wt.not rfl rfl rfl rfl) rfl rfl ?_; refine TS.run 9 rfl ?_; refine TS.eff ?_; refine TSo.off rfl (Wt.not rfl rfl rfl rfl) rfl rfl ?_; refine TS.run 2 rfl ?_; refine TS.done ?_; refine K.pick [1] rfl (by decide) ?_; exact K.ab true hk (.c (.c (.c (.c (.c .nil))))) (List.Sublist.refl _)
              · have p9 := of_decide_eq_false h9; replace hk := zab hk h9; refine TS.run 2 rfl ?_; refine TS.y rfl (Yv.an (i := i_4) rfl rfl rfl (SlD.mono (rep := GBid.rep) (fun _ _ _ _ => GBid.mono) hl le1_4).1 (SlD.mono (rep := GBid.rep) (fun _ _ _ _ => GBid.mono) hl le1_4).2.1 rfl (by omega)) ?_; refine TS.y rfl (Yv.aN rfl rfl (SlD.mono (rep := GBid.rep) (fun _ _ _ _ => GBid.mono) hl le1_4).1 (SlD.mono (rep := GBid.rep) (fun _ _ _ _ => GBid.mono) hl le1_4).2.1 (by omega)) ?_; refine TS.y rfl (Yv.aJ 1 (i := i_4) (j := 1) rfl rfl rfl (SlD.mono (rep := GBid.rep) (fun _ _ _ _ => GBid.mono) hl le1_4).1 (SlD.mono (rep := GBid.rep) (fun _ _ _ _ => GBid.mono) hl le1_4).2.1 (by omega) rfl (GBid.c1 ((SlD.mono (rep := GBid.rep) (fun _ _ _ _ => GBid.mono) hl le1_4).2.2 i_4 (by omega)))) ?_; refine TS.run 2 rfl ?_; refine TS.y rfl (Yv.an (i := i_4) rfl rfl rfl (SlC.mono hwant le1_4) (List.length_map _) rfl (by omega)) ?_; refine TS.y rfl (Yv.aN rfl rfl (SlC.mono hwant le1_4) (List.length_map _) (by omega)) ?_; refine TS.y rfl (Yv.al 1 (i := i_4) (j := 0) rfl rfl rfl (SlC.mono hwant le1_4) (by omega) rfl rfl) ?_; refine TS.run 3 rfl ?_; refine TS.gs rfl rfl rfl rfl (fun h10 => ?_) (fun h10 => ?_)
                · have p10 := of_decide_eq_true h10; replace hk := zaa hk h10; refine TS.run 18 rfl ?_; refine TS.eff ?_; refine TSo.off rfl (Wt.not rfl rfl rfl rfl) rfl rfl ?_; refine TS.run 9 rfl ?_; refine TS.eff ?_; refine TSo.off rfl (Wt.not rfl rfl rfl rfl) rfl rfl ?_; refine TS.run 2 rfl ?_; refine TS.done ?_; refine K.pick [1] rfl (by decide) ?_; exact K.ab true hk (.c (.c (.c (.c (.c .nil))))) (List.Sublist.refl _)
                · have p10 := of_decide_eq_false h10; replace hk := zab hk h10; refine TS.run 2 rfl ?_; refine TS.y rfl (Yv.an (i := i_4) rfl rfl rfl (SlD.mono (rep := GBid.rep) (fun _ _ _ _ => GBid.mono) hl le1_4).1 (SlD.mono (rep := GBid.rep) (fun _ _ _ _ => GBid.mono) hl le1_4).2.1 rfl (by omega)) ?_; refine TS.y rfl (Yv.aN rfl rfl (SlD.mono (rep := GBid.rep) (fun _ _ _ _ => GBid.mono) hl le1_4).1 (SlD.mono (rep := GBid.rep) (fun _ _ _ _ => GBid.mono) hl le1_4).2.1 (by omega)) ?_; refine TS.y rfl (Yv.aJ 1 (i := i_4) (j := 2) rfl rfl rfl (SlD.mono (rep := GBid.rep) (fun _ _ _ _ => GBid.mono) hl le1_4).1 (SlD.mono (rep := GBid.rep) (fun _ _ _ _ => GBid.mono) hl le1_4).2.1 (by omega) rfl (GBid.c2 ((SlD.mono (rep := GBid.rep) (fun _ _ _ _ => GBid.mono) hl le1_4).2.2 i_4 (by omega)))) ?_; refine TS.run 2 rfl ?_; refine TS.y rfl (Yv.an (i := i_4) rfl rfl rfl (SlC.mono hwant le1_4) (List.length_map _) rfl (by omega)) ?_; refine TS.y rfl (Yv.aN rfl rfl (SlC.mono hwant le1_4) (List.length_map _) (by omega)) ?_; refine TS.y rfl (Yv.al 1 (i := i_4) (j := 1) rfl rfl rfl (SlC.mono hwant le1_4) (by omega) rfl rfl) ?_; refine TS.run 3 rfl ?_; refine TS.gs rfl rfl rfl rfl (fun h11 => ?_) (fun h11 => ?_)
                  · have p11 := of_decide_eq_true h11; replace hk := zaa hk h11; refine TS.run 5 rfl ?_; refine TS.eff ?_; refine TSo.off rfl (Wt.not rfl rfl rfl rfl) rfl rfl ?_; refine TS.run 9 rfl ?_; refine TS.eff ?_; refine TSo.off rfl (Wt.not rfl rfl rfl rfl) rfl rfl ?_; refine TS.run 2 rfl ?_; refine TS.done ?_; refine K.pick [1] rfl (by decide) ?_; exact K.ab true hk (.c (.c (.c (.c (.c .nil))))) (List.Sublist.refl _)
                  · have p11 := of_decide_eq_false h11; replace hk := zab hk h11; refine TS.run 2 rfl ?_; refine TS.y rfl (Yv.an (i := i_4) rfl rfl rfl (SlD.mono (rep := GBid.rep) (fun _ _ _ _ => GBid.mono) hl le1_4).1 (SlD.mono (rep := GBid.rep) (fun _ _ _ _ => GBid.mono) hl le1_4).2.1 rfl (by omega)) ?_; refine TS.y rfl (Yv.aN rfl rfl (SlD.mono (rep := GBid.rep) (fun _ _ _ _ => GBid.mono) hl le1_4).1 (SlD.mono (rep := GBid.rep) (fun _ _ _ _ => GBid.mono) hl le1_4).2.1 (by omega)) ?_; refine TS.y rfl (Yv.bh 1 (i := i_4) (j := 3) rfl rfl rfl (SlD.mono (rep := GBid.rep) (fun _ _ _ _ => GBid.mono) hl le1_4).1 (SlD.mono (rep := GBid.rep) (fun _ _ _ _ => GBid.mono) hl le1_4).2.1 (by omega) rfl ((zf2 (GBid.form ((SlD.mono (rep := GBid.rep) (fun _ _ _ _ => GBid.mono) hl le1_4).2.2 i_4 (by omega))) (j := 3) (q := 4) (by decide)).trans rfl) rfl) ?_; have hd72_4 := (GBid.c4 ((SlD.mono (rep := GBid.rep) (fun _ _ _ _ => GBid.mono) hl le1_4).2.2 i_4 (by omega))).2; haveI := hd72_4.oneC; have hd72_6 := (GBid.c6 ((SlD.mono (rep := GBid.rep) (fun _ _ _ _ => GBid.mono) hl le1_4).2.2 i_4 (by omega))).2; haveI := hd72_6.oneC; refine TS.eff ?_; have hq := zac hk; clear hk; obtain ⟨r73, hr73, hk⟩ := hq; refine TSo.aC rfl (Wt.some rfl rfl rfl rfl) rfl rfl (Ew.ai rfl rfl rfl (fun w hw => zdr _ w (hw.fr (i := 1) rfl) ((nth l i_4).Point) (nth (nth cl i_4) 4) hd72_4 (nth (nth cl i_4) 6) hd72_6 fuel r73 hr73)) ?_; rintro _ _ ⟨rfl, rfl⟩; refine ⟨(fun w hw => hw.sub Sx), ?_⟩; refine TS.run 3 rfl ?_; refine TS.gs rfl rfl rfl rfl (fun h12 => ?_) (fun h12 => ?_)
                    · replace hk := zaa hk h12; refine TS.run 6 rfl ?_; refine TS.eff ?_; refine TSo.off rfl (Wt.not rfl rfl rfl rfl) rfl rfl ?_; refine TS.run 2 rfl ?_; refine TS.done ?_; refine K.pick [1] rfl (by decide) ?_; exact K.ab true hk (.c (.c (.c (.c (.c .nil))))) (List.Sublist.refl _)
                    · replace hk := zab hk h12; refine TS.run 2 rfl ?_; refine TS.y rfl (Yv.an (i := i_4) rfl rfl rfl (SlD.mono (rep := GBid.rep) (fun _ _ _ _ => GBid.mono) hl le1_4).1 (SlD.mono (rep := GBid.rep) (fun _ _ _ _ => GBid.mono) hl le1_4).2.1 rfl (by omega)) ?_; refine TS.y rfl (Yv.aN rfl rfl (SlD.mono (rep := GBid.rep) (fun _ _ _ _ => GBid.mono) hl le1_4).1 (SlD.mono (rep := GBid.rep) (fun _ _ _ _ => GBid.mono) hl le1_4).2.1 (by omega)) ?_; refine TS.y rfl (Yv.bh 1 (i := i_4) (j := 3) rfl rfl rfl (SlD.mono (rep := GBid.rep) (fun _ _ _ _ => GBid.mono) hl le1_4).1 (SlD.mono (rep := GBid.rep) (fun _ _ _ _ => GBid.mono) hl le1_4).2.1 (by omega) rfl ((zf2 (GBid.form ((SlD.mono (rep := GBid.rep) (fun _ _ _ _ => GBid.mono) hl le1_4).2.2 i_4 (by omega))) (j := 3) (q := 4) (by decide)).trans rfl) rfl) ?_; refine TS.y rfl (Yv.ak 0 rfl rfl rfl rfl) ?_; refine TS.eff ?_; have hq := zac hk; clear hk; obtain ⟨r83, hr83, hk⟩ := hq; refine TSo.aC rfl (Wt.some rfl rfl rfl rfl) rfl rfl (Ew.ai rfl rfl rfl (fun w hw => zeZ _ w (hw.fr (i := 1) rfl) ((nth l i_4).Point) (nth (nth cl i_4) 4) hd72_4 (nth (nth cl i_4) 6) hd72_6 r27.1 v27_0_1 hf27_0_1 v27_0_3 hf27_0_3 fuel r83 hr83)) ?_; rintro _ _ ⟨rfl, rfl⟩; refine ⟨(fun w hw => hw.sub Sx), ?_⟩; refine TS.run 2 rfl ?_; refine TS.done ?_; refine K.pick [1] rfl (by decide) ?_; exact K.ab (decide (¬ r83 = 0)) hk (.c (.c (.c (.c (.c .nil))))) (List.Sublist.refl _)
          · rintro x_6 hk; rw [← hk7] at hk; (try dsimp only at hk); refine T.cond rfl (fun h13 => ?_) (fun h13 => ?_)
            · replace hk := zaa hk h13; refine T.sr ?_; refine TL.run 1 rfl ?_; refine TL.ns (T.ret (K.aj (K.a (K.a (K.aj (K.a ?_)))))); obtain rfl := Option.some.inj hk; exact K.ah rfl rfl (fun w' hw => ⟨rfl, hw.isBelow⟩)
            · replace hk := zab hk h13; refine T.skip (K.ac (K.seq (T.region ?_))); refine TL.run 1 rfl ?_; refine TL.y (Yv.av rfl rfl rfl (by omega)) ?_; refine TL.run 1 rfl ?_; refine TL.nil ?_; rw [← hn3] at hk; exact K.next ((i_4 + 1), F4) ⟨hk, le1_4⟩ (by dsimp only; omega) (.c (.c (.c (.c .nil)))) (List.Sublist.refl _)
        · have p5 := of_decide_eq_false h5; rw [zaR (by omega), ← hkk3] at hk; (try dsimp only at hk); refine T.exit (K.aa (K.aa (K.ae ?_))); exact K.ab F3 ⟨hk, le1_3⟩ .nil (List.Sublist.refl _)
    · rintro F2 ⟨hk, le1_2⟩; rw [← hk2] at hk; (try dsimp only at hk); refine T.sr ?_; refine TL.run 1 rfl ?_; refine TL.ns (T.ret ?_); obtain rfl := Option.some.inj hk; exact K.ah rfl rfl (fun w' hw => ⟨rfl, hw.isBelow⟩)
def zbO (fuel : Nat)  : Option Bool :=
  (zbb (GStationPlan.mk 7 3 [0, 10, 20, 100]) 0 [90, 70, 85, 0]).bind fun r23 =>
  (zaT fuel (GStationPlan.mk 7 3 [0, 10, 20, 100]) 0 [90, 70, 85, 0]).bind fun r29 =>
  (bif ((((((decide (¬ r23.1 = 90)) || (decide (¬ r23.2 = 0))) || (decide (¬ r29.2 = 0))) || (decide (¬ r29.1.Station = 7))) || (decide (¬ r29.1.Preferred = 2))) || (!(za2 r29.1.Fallbacks [3, 0, 1]))) then
    some false
    else
    zap (fun (_ : Unit) =>
      (za0 fuel (GBidderPlan.mk 2 1000 [[9, 7, 2]]) [(GProduct.mk 1 1 3 1 0)] [2] [5] [10]).bind fun r98 =>
      zap (fun (x_13 : Bool) =>
        (bif x_13 then
          some false
          else
          (zar fuel (GBidderPlan.mk 2 9 [[9, 7, 2]]) [(GProduct.mk 1 1 3 1 0)] [5]).bind fun r116 =>
          some ((decide (r116.2 = 0)) && (za2 r116.1 [1]))))
      (fun k14 =>
        (bif decide (¬ r98.2 = 0) then
          k14 true
          else
          (zdG fuel r98.1 2 [(GRow.mk 0 (-1) 400), (GRow.mk 0 (-1) 800)]).bind fun r108 =>
          k14 (!r108))))
    (fun k7 =>
      zam (fun (i_9 : Nat) (next8 : Unit → Option Bool) (_ : Unit) =>
        grd (0 ≤ (i_9 : Int) ∧ (i_9 : Int) < ([2, 2, 0].length : Int)) <|
        grd (0 ≤ (i_9 : Int) ∧ (i_9 : Int) < ([5, 7, 10].length : Int)) <|
        (zar fuel (GBidderPlan.mk 2 1000 [[9, 7, 2]]) [(GProduct.mk 1 1 3 1 0)] [(nth [5, 7, 10] i_9)]).bind fun r79 =>
        (bif ((decide (¬ r79.2 = 0)) || (!(za2 r79.1 [(nth [2, 2, 0] i_9)]))) then
          some false
          else
          next8 ()))
      (fun (_ : Unit) =>
        k7 ()) (3 - 0) 0 ()))
theorem zd4 (F0 : Frz) (w : World) (hF0 : F0.At w)  (fuel : Nat) (r : Bool) (hr : zbO fuel = some r) : Calls Tryz.prog 7 #[] w fun e w' => e = .returned (.bool r) ∧ Below w.heap.size w w' := by
  have hk := hr; unfold zbO at hk; obtain ⟨S0, F1, rfl, hS0, hp0⟩ := zag hF0; refine zak Tryz.func7 rfl rfl rfl hp0 ?_; refine T.sr ?_; refine TL.run 1 rfl ?_; refine TL.nx ?_; refine TL.e (Ew.buildSlice rfl rfl rfl (by decide)) ?_; rintro _ _ ⟨g17, rfl, rfl⟩; refine TL.y (Yv.build rfl rfl) ?_; refine TL.e (Ew.alloc rfl) ?_; rintro _ _ ⟨g1, rfl, rfl⟩; refine TL.e0 (Ew.ag 0 rfl rfl rfl rfl rfl rfl) ?_; rintro _ _ ⟨rfl, rfl⟩; refine TL.nx ?_; refine TL.e (Ew.buildSlice rfl rfl rfl (by decide)) ?_; rintro _ _ ⟨g19, rfl, rfl⟩; refine TL.run 1 rfl ?_; refine TL.ns (T.seq ?_); refine T.aA (fun w hw => hw.freezeR (i := 3) (j := 2) (by decide) rfl rfl) ?_; rintro F2 ⟨le1_2, hz2⟩; dsimp only [List.set, List.eraseIdx]; have hfF2 : SlC F2.toFrz (.slice (some ⟨g17, 0, none⟩) 4 4) 1 ([0, 10, 20, 100].map eI) := (SlK.lit hz2 rfl (Nat.le_refl _) (by decide)).toF (xs := [0, 10, 20, 100]) rfl (fun _ => rfl); refine T.aA (fun w hw => hw.freezeR (i := 2) (j := 0) (by decide) rfl rfl) ?_; rintro F3 ⟨le2_3, hz3⟩; dsimp only [List.set, List.eraseIdx]; have hfF3 : SlC F3.toFrz (.slice (some ⟨g19, 0, none⟩) 4 4) 1 ([90, 70, 85, 0].map eI) := (SlK.lit hz3 rfl (Nat.le_refl _) (by decide)).toF (xs := [90, 70, 85, 0]) rfl (fun _ => rfl); have hq := zac hk; clear hk; obtain ⟨r23, hr23, hk⟩ := hq; (try dsimp only at hk); refine T.region ?_; refine TL.y (Yv.ak 0 rfl rfl rfl rfl) ?_; refine TL.run 1 rfl ?_; refine TL.e (Ew.ai rfl rfl rfl (fun w hw => zc2 _ w (hw.fr (i := 1) rfl) (GStationPlan.mk 7 3 [0, 10, 20, 100]) (.slice (some ⟨g17, 0, none⟩) 4 4) (SlC.mono hfF2 le2_3) 0 [90, 70, 85, 0] (.slice (some ⟨g19, 0, none⟩) 4 4) hfF3 r23 hr23)) ?_; rintro _ _ ⟨rfl, rfl⟩; refine TL.run 5 rfl ?_; refine TL.ns (T.seq ?_); have hq := zac hk; clear hk; obtain ⟨r29, hr29, hk⟩ := hq; (try dsimp only at hk); refine T.region ?_; refine TL.y (Yv.ak 0 rfl rfl rfl rfl) ?_; refine TL.run 1 rfl ?_; refine TL.e (Ew.ao 1 rfl rfl rfl rfl (fun w hw hF => zc7 _ w hF (GStationPlan.mk 7 3 [0, 10, 20, 100]) (.slice (some ⟨g17, 0, none⟩) 4 4) (SlC.mono hfF2 le2_3) 0 [90, 70, 85, 0] (.slice (some ⟨g19, 0, none⟩) 4 4) hfF3 fuel r29 hr29)) ?_; rintro _ _ ⟨v29_0_2, F4, le3_4, hf29_0_2, rfl, rfl⟩; haveI := hf29_0_2.oneC; refine TL.run 3 rfl ?_; refine TL.e (Ew.alloc rfl) ?_; rintro _ _ ⟨g5, rfl, rfl⟩; refine TL.e0 (Ew.ag 0 rfl rfl rfl rfl rfl rfl) ?_; rintro _ _ ⟨rfl, rfl⟩; refine TL.run 1 rfl ?_; refine TL.ns (T.seq (T.seq ?_)); refine T.ad (ι := FzB w (fun _ => False) S0) (fun z => [(58, .bool ((((((decide (¬ r23.1 = 90)) || (decide (¬ r23.2 = 0))) || (decide (¬ r29.2 = 0))) || (decide (¬ r29.1.Station = 7))) || (decide (¬ r29.1.Preferred = 2))) || (!(za2 r29.1.Fallbacks [3, 0, 1]))))]) (fun z => [.row g5 52 [.int .i64 r29.1.Station, .int .i64 r29.1.Preferred, v29_0_2], .row g1 39 [.int .i64 7, .int .i64 3, (.slice (some ⟨g17, 0, none⟩) 4 4)], .fr z]) (fun z => F4.toFrz.Le z.toFrz) ?_ ?_
  · refine T.region ?_; refine TL.run 3 rfl ?_; refine TL.gs rfl rfl rfl (fun h1 => ?_) (fun h1 => ?_)
    · have p1 := of_decide_eq_true h1; refine TL.run 24 rfl ?_; refine TL.nil ?_; exact K.ab F4 (Frz.Le.refl _) (.b (zas (zas (zas (zas (zas h1))))).symm .nil) (List.Sublist.refl _)
    · have p1 := of_decide_eq_false h1; refine TL.run 4 rfl ?_; refine TL.gs rfl rfl rfl (fun h2 => ?_) (fun h2 => ?_)
      · have p2 := of_decide_eq_true h2; refine TL.run 20 rfl ?_; refine TL.nil ?_; exact K.ab F4 (Frz.Le.refl _) (.b (zas (zas (zas (zas (zay h1 h2))))).symm .nil) (List.Sublist.refl _)
      · have p2 := of_decide_eq_false h2; refine TL.run 4 rfl ?_; refine TL.gs rfl rfl rfl (fun h3 => ?_) (fun h3 => ?_)
        · have p3 := of_decide_eq_true h3; refine TL.run 16 rfl ?_; refine TL.nil ?_; exact K.ab F4 (Frz.Le.refl _) (.b (zas (zas (zas (zay (zay h1 h2) h3)))).symm .nil) (List.Sublist.refl _)
        · have p3 := of_decide_eq_false h3; refine TL.y (Yv.fieldAddr rfl rfl) ?_; refine TL.y (Yv.af 0 rfl rfl rfl rfl) ?_; refine TL.run 3 rfl ?_; refine TL.gs rfl rfl rfl (fun h4 => ?_) (fun h4 => ?_)
          · have p4 := of_decide_eq_true h4; refine TL.run 11 rfl ?_; refine TL.nil ?_; exact K.ab F4 (Frz.Le.refl _) (.b (zas (zas (zay (zay (zay h1 h2) h3) h4))).symm .nil) (List.Sublist.refl _)
          · have p4 := of_decide_eq_false h4; refine TL.y (Yv.fieldAddr rfl rfl) ?_; refine TL.y (Yv.af 0 rfl rfl rfl rfl) ?_; refine TL.run 3 rfl ?_; refine TL.gs rfl rfl rfl (fun h5 => ?_) (fun h5 => ?_)
            · have p5 := of_decide_eq_true h5; refine TL.run 6 rfl ?_; refine TL.nil ?_; exact K.ab F4 (Frz.Le.refl _) (.b (zas (zay (zay (zay (zay h1 h2) h3) h4) h5)).symm .nil) (List.Sublist.refl _)
            · have p5 := of_decide_eq_false h5; refine TL.y (Yv.fieldAddr rfl rfl) ?_; refine TL.y (Yv.af 0 rfl rfl rfl rfl) ?_; refine TL.e (Ew.buildSlice rfl rfl rfl (by decide)) ?_; rintro _ _ ⟨g55, rfl, rfl⟩; refine TL.aA (fun w hw => hw.freezeR (i := 3) (j := 0) (by decide) rfl rfl) ?_; rintro F6 ⟨le4_6, hz6⟩; dsimp only [List.set, List.eraseIdx]; have hfF6 : SlC F6.toFrz (.slice (some ⟨g55, 0, none⟩) 3 3) 1 ([3, 0, 1].map eI) := (SlK.lit hz6 rfl (Nat.le_refl _) (by decide)).toF (xs := [3, 0, 1]) rfl (fun _ => rfl); refine TL.e (Ew.ai rfl rfl rfl (fun w hw => zdh _ w (hw.fr (i := 2) rfl) r29.1.Fallbacks v29_0_2 (SlC.mono hf29_0_2 le4_6) [3, 0, 1] (.slice (some ⟨g55, 0, none⟩) 3 3) hfF6)) ?_; rintro _ _ ⟨rfl, rfl⟩; refine TL.run 2 rfl ?_; refine TL.nil ?_; exact K.ab F6 le4_6 (.b (or_f (zay (zay (zay (zay h1 h2) h3) h4) h5)) .nil) (List.Sublist.refl _)
  · rintro F5 le4_5; (try dsimp only at *); refine T.cond rfl (fun h6 => ?_) (fun h6 => ?_)
    · replace hk := zaa hk h6; refine T.sr ?_; refine TL.run 1 rfl ?_; refine TL.ns (T.ret (K.a ?_)); obtain rfl := Option.some.inj hk; exact K.ah rfl rfl (fun w' hw => ⟨rfl, hw.isBelow⟩)
    · have p6 := h6; (try simp only [nfB] at p6); replace hk := zab hk h6; refine T.skip (K.seq (T.sr ?_)); refine TL.y (Yv.build rfl rfl) ?_; refine TL.e (Ew.buildSlice rfl rfl rfl (by decide)) ?_; rintro _ _ ⟨g60, rfl, rfl⟩; refine TL.run 1 rfl ?_; refine TL.nx ?_; refine TL.e (Ew.buildSlice rfl rfl rfl (by decide)) ?_; rintro _ _ ⟨g61, rfl, rfl⟩; refine TL.aA (fun w hw => hw.freezeR (i := 4) (j := 0) (by decide) rfl rfl) ?_; rintro F7 ⟨le5_7, hz7⟩; dsimp only [List.set, List.eraseIdx]; have hfF7 : SlC F7.toFrz (.slice (some ⟨g61, 0, none⟩) 3 3) 1 ([9, 7, 2].map eI) := (SlK.lit hz7 rfl (Nat.le_refl _) (by decide)).toF (xs := [9, 7, 2]) rfl (fun _ => rfl); refine TL.e (Ew.buildSlice rfl rfl rfl (by decide)) ?_; rintro _ _ ⟨g62, rfl, rfl⟩; have hl62 : OwnD R_List_Int.rep F7.toFrz 1 [[(.slice (some ⟨g61, 0, none⟩) 3 3)]] [[9, 7, 2]] := (OwnD.snoc (OwnD.nil _ _ 1) ⟨_, rfl, hfF7⟩ rfl); refine TL.y (Yv.build rfl rfl) ?_; refine TL.e (Ew.alloc rfl) ?_; rintro _ _ ⟨g8, rfl, rfl⟩; refine TL.e0 (Ew.ag 0 rfl rfl rfl rfl rfl rfl) ?_; rintro _ _ ⟨rfl, rfl⟩; refine TL.ns (T.seq (T.sr ?_)); refine TL.e (Ew.buildSlice rfl rfl rfl (by decide)) ?_; rintro _ _ ⟨g64, rfl, rfl⟩; refine TL.y (Yv.bg rfl rfl) ?_; refine TL.run 1 rfl ?_; refine TL.ns ?_; refine T.aA (fun w hw => hw.freezeR (i := 6) (j := 3) (by decide) rfl rfl) ?_; rintro F8 ⟨le7_8, hz8⟩; dsimp only [List.set, List.eraseIdx]; have hfF8 : SlC F8.toFrz (.slice (some ⟨g60, 0, none⟩) 1 1) 5 ([(GProduct.mk 1 1 3 1 0)].map GProduct.enc) := (SlK.lit hz8 rfl (Nat.le_refl _) (by decide)).toF (xs := [(GProduct.mk 1 1 3 1 0)]) rfl GProduct.len; refine T.aA (fun w hw => hw.freezeR (i := 5) (j := 2) (by decide) rfl rfl) ?_; rintro F9 ⟨le8_9, hz9⟩; dsimp only [List.set, List.eraseIdx]; have le7_9 := le7_8.trans le8_9; have hfF9 : SlD R_List_Int.rep F9.toFrz (.slice (some ⟨g62, 0, none⟩) 1 1) 1 [[(.slice (some ⟨g61, 0, none⟩) 3 3)]] [[9, 7, 2]] := (SlK.lit hz9 rfl (Nat.le_refl _) (by decide)).toD (OwnD.mono (rep := R_List_Int.rep) (fun _ _ _ _ => R_List_Int.mono) hl62 le7_9) rfl; refine T.aA (fun w hw => hw.freezeR (i := 4) (j := 0) (by decide) rfl rfl) ?_; rintro F10 ⟨le9_10, hz10⟩; dsimp only [List.set, List.eraseIdx]; have le8_10 := le8_9.trans le9_10; have hfF10 : SlC F10.toFrz (.slice (some ⟨g64, 0, none⟩) 3 3) 1 ([2, 2, 0].map eI) := (SlK.lit hz10 rfl (Nat.le_refl _) (by decide)).toF (xs := [2, 2, 0]) rfl (fun _ => rfl); have hq := zae hk; clear hk; obtain ⟨k7, hk7, hk⟩ := hq; (try dsimp only at hk); refine T.ad (ι := FzB w (fun _ => False) S0) (fun z => [(7, (.slice (some ⟨g60, 0, none⟩) 1 1)), (8, .pointer (some ⟨g8, 0, none⟩))]) (fun z => [.row g8 24 [.int .i64 2, .int .i64 1000, (.slice (some ⟨g62, 0, none⟩) 1 1)], .fr z]) (fun z => k7 () = some r ∧ F10.toFrz.Le z.toFrz) ?_ ?_
      · have hq := zaw hk; clear hk; obtain ⟨f8, kk8, hf8, hkk8, hk⟩ := hq; refine T.block ?_; refine T.pick [0, 3] rfl (by decide) ?_; refine T.loop (ι := Nat × FzB w (fun _ => False) S0) (fun z => [(7, (.slice (some ⟨g60, 0, none⟩) 1 1)), (8, .pointer (some ⟨g8, 0, none⟩)), (64, (.slice (some ⟨g64, 0, none⟩) 3 3)), (65, .int .i64 3), (66, .int .i64 (z.1 : Int))]) (fun z => [.row g8 24 [.int .i64 2, .int .i64 1000, (.slice (some ⟨g62, 0, none⟩) 1 1)], .fr z.2]) (fun z => zam f8 kk8 (3 - z.1) z.1 () = some r ∧ F10.toFrz.Le z.2.toFrz) (fun z => 3 - z.1) (0, F10) ?_ ?_ ?_ ?_
        · exact ⟨hk, (Frz.Le.refl _)⟩
        · exact (.c (.c (.c (.c (.c .nil)))))
        · exact List.Sublist.refl _
        · rintro ⟨i_9, F12⟩ ⟨hk, le10_12⟩; (try dsimp only at *); have le8_12 := le8_10.trans le10_12; have le9_12 := le9_10.trans le10_12; refine T.sr ?_; refine TL.run 1 rfl ?_; refine TL.ns (T.seq ?_); refine T.cond rfl (fun h10 => ?_) (fun h10 => ?_)
          · have p10 := of_decide_eq_true h10; rw [zaQ (by omega)] at hk; generalize hn8 : zam f8 kk8 (3 - (i_9 + 1)) (i_9 + 1) = next8 at hk; rw [← hf8] at hk; (try dsimp only at hk); refine T.skip (K.seq (T.seq (T.block (T.seq ?_)))); have hq : (0 ≤ (i_9 : Int) ∧ (i_9 : Int) < ([2, 2, 0].length : Int)) ∧ _ := zaf hk; clear hk; obtain ⟨g69, hk⟩ := hq; (try dsimp only at hk); refine T.region ?_; refine TL.run 1 rfl ?_; refine TL.y (Yv.an (i := i_9) rfl rfl rfl (SlC.mono hfF10 le10_12) (List.length_map _) rfl (by omega)) ?_; refine TL.y (Yv.al 1 (i := i_9) (j := 0) rfl rfl rfl (SlC.mono hfF10 le10_12) (by omega) rfl rfl) ?_; refine TL.run 2 rfl ?_; refine TL.ns (T.seq ?_); have hq : (0 ≤ (i_9 : Int) ∧ (i_9 : Int) < ([5, 7, 10].length : Int)) ∧ _ := zaf hk; clear hk; obtain ⟨g76, hk⟩ := hq; have hq := zac hk; clear hk; obtain ⟨r79, hr79, hk⟩ := hq; (try dsimp only at hk); refine T.ax (.still 0 (.still 1 (.still 3 (.eff 2 (.still 4 (.eff 5 (.eff 6 (.eff 7 (.still 8 (.still 9 (.still 10 (.still 11 (.still 12 .done))))))))))))) _ (by kernel_rfl) (List.Sublist.refl _) ?_; refine TS.y rfl (Yv.ak 0 rfl rfl rfl rfl) ?_; refine TS.run 2 rfl ?_; refine TS.eff ?_; refine TSo.aC rfl (Wt.none rfl) rfl rfl (Ew.buildSlice rfl rfl rfl (by decide)) ?_; rintro _ _ ⟨g74, rfl, rfl⟩; refine ⟨(fun w hw => hw.sub Sx), ?_⟩; refine TS.aA (fun w hw => hw.freezeR (i := 2) (j := 0) (by decide) rfl rfl) ?_; rintro F13 ⟨le12_13, hz13⟩; dsimp only [List.set, List.eraseIdx]; have le8_13 := le8_12.trans le12_13; have le9_13 := le9_12.trans le12_13; have le10_13 := le10_12.trans le12_13; have hfF13 : SlC F13.toFrz (.slice (some ⟨g74, 0, none⟩) 3 3) 1 ([5, 7, 10].map eI) := (SlK.lit hz13 rfl (Nat.le_refl _) (by decide)).toF (xs := [5, 7, 10]) rfl (fun _ => rfl); refine TS.y rfl (Yv.an (i := i_9) rfl rfl rfl hfF13 (List.length_map _) rfl (by omega)) ?_; refine TS.eff ?_; refine TSo.ay rfl (Wt.none rfl) rfl rfl (Yv.al 1 (i := i_9) (j := 0) rfl rfl rfl hfF13 (by omega) rfl rfl) (fun w hw => (hw.frLe (i := 1) rfl le12_13).sub Sx) ?_; refine TS.eff ?_; refine TSo.aC rfl (Wt.none rfl) rfl rfl (Ew.buildSlice rfl rfl rfl (by decide)) ?_; rintro _ _ ⟨g78, rfl, rfl⟩; refine ⟨(fun w hw => (hw.frLe (i := 2) rfl le12_13).sub Sx), ?_⟩; refine TS.aA (fun w hw => hw.freezeR (i := 2) (j := 0) (by decide) rfl rfl) ?_; rintro F14 ⟨le13_14, hz14⟩; dsimp only [List.set, List.eraseIdx]; have le8_14 := le8_13.trans le13_14; have le9_14 := le9_13.trans le13_14; have le10_14 := le10_13.trans le13_14; have le12_14 := le12_13.trans le13_14; have hfF14 : SlC F14.toFrz (.slice (some ⟨g78, 0, none⟩) 1 1) 1 ([(nth [5, 7, 10] i_9)].map eI) := (SlK.lit hz14 rfl (Nat.le_refl _) (by decide)).toF (xs := [(nth [5, 7, 10] i_9)]) rfl (fun _ => rfl); refine TS.eff ?_; refine TSo.aC rfl (Wt.none rfl) rfl rfl (Ew.ao 1 rfl rfl rfl rfl (fun w hw hF => zcj _ w hF (GBidderPlan.mk 2 1000 [[9, 7, 2]]) (.slice (some ⟨g62, 0, none⟩) 1 1) [[(.slice (some ⟨g61, 0, none⟩) 3 3)]] (SlD.mono (rep := R_List_Int.rep) (fun _ _ _ _ => R_List_Int.mono) hfF9 le9_14) [(GProduct.mk 1 1 3 1 0)] (.slice (some ⟨g60, 0, none⟩) 1 1) (SlC.mono hfF8 le8_14) [(nth [5, 7, 10] i_9)] (.slice (some ⟨g78, 0, none⟩) 1 1) hfF14 fuel r79 hr79)) ?_; rintro _ _ ⟨v79_0_0, F15, le14_15, hf79_0_0, rfl, rfl⟩; have le10_15 := le10_14.trans le14_15; have le12_15 := le12_14.trans le14_15; haveI := hf79_0_0.oneC; refine ⟨(fun w hw => (hw.frLe (i := 1) rfl le12_15).sub Sx), ?_⟩; refine TS.run 5 rfl ?_; refine TS.done ?_; refine K.seq (T.seq ?_); refine T.ad (ι := FzB w (fun _ => False) S0) (fun z => [(7, (.slice (some ⟨g60, 0, none⟩) 1 1)), (8, .pointer (some ⟨g8, 0, none⟩)), (64, (.slice (some ⟨g64, 0, none⟩) 3 3)), (65, .int .i64 3), (66, .int .i64 (i_9 : Int)), (90, .bool ((decide (¬ r79.2 = 0)) || (!(za2 r79.1 [(nth [2, 2, 0] i_9)]))))]) (fun z => [.row g8 24 [.int .i64 2, .int .i64 1000, (.slice (some ⟨g62, 0, none⟩) 1 1)], .fr z]) (fun z => F15.toFrz.Le z.toFrz) ?_ ?_
            · refine T.region ?_; refine TL.run 3 rfl ?_; refine TL.gs rfl rfl rfl (fun h11 => ?_) (fun h11 => ?_)
              · have p11 := of_decide_eq_true h11; refine TL.run 6 rfl ?_; refine TL.nil ?_; exact K.ab F15 (Frz.Le.refl _) (.c (.c (.c (.c (.c (.b (zas h11).symm .nil)))))) (List.Sublist.refl _)
              · have p11 := of_decide_eq_false h11; refine TL.run 2 rfl ?_; refine TL.e (Ew.buildSlice rfl rfl rfl (by decide)) ?_; rintro _ _ ⟨g87, rfl, rfl⟩; refine TL.aA (fun w hw => hw.freezeR (i := 2) (j := 0) (by decide) rfl rfl) ?_; rintro F17 ⟨le15_17, hz17⟩; dsimp only [List.set, List.eraseIdx]; have hfF17 : SlC F17.toFrz (.slice (some ⟨g87, 0, none⟩) 1 1) 1 ([(nth [2, 2, 0] i_9)].map eI) := (SlK.lit hz17 rfl (Nat.le_refl _) (by decide)).toF (xs := [(nth [2, 2, 0] i_9)]) rfl (fun _ => rfl); refine TL.e (Ew.ai rfl rfl rfl (fun w hw => zdh _ w (hw.fr (i := 1) rfl) r79.1 v79_0_0 (SlC.mono hf79_0_0 le15_17) [(nth [2, 2, 0] i_9)] (.slice (some ⟨g87, 0, none⟩) 1 1) hfF17)) ?_; rintro _ _ ⟨rfl, rfl⟩; refine TL.run 2 rfl ?_; refine TL.nil ?_; exact K.ab F17 le15_17 (.c (.c (.c (.c (.c (.b (or_f h11) .nil)))))) (List.Sublist.refl _)
            · rintro F16 le15_16; (try dsimp only at *); have le10_16 := le10_15.trans le15_16; refine T.cond rfl (fun h12 => ?_) (fun h12 => ?_)
              · replace hk := zaa hk h12; refine T.sr ?_; refine TL.run 1 rfl ?_; refine TL.ns (T.ret (K.aj (K.a (K.a (K.aj (K.a ?_)))))); obtain rfl := Option.some.inj hk; exact K.ah rfl rfl (fun w' hw => ⟨rfl, hw.isBelow⟩)
              · have p12 := h12; (try simp only [nfB] at p12); replace hk := zab hk h12; refine T.skip (K.ac (K.seq (T.region ?_))); refine TL.y (Yv.av rfl rfl rfl (by omega)) ?_; refine TL.run 1 rfl ?_; refine TL.nil ?_; rw [← hn8] at hk; exact K.next ((i_9 + 1), F16) ⟨hk, le10_16⟩ (by dsimp only; omega) (.c (.c (.c (.c (.c .nil))))) (List.Sublist.refl _)
          · have p10 := of_decide_eq_false h10; rw [zaR (by omega), ← hkk8] at hk; (try dsimp only at hk); refine T.exit (K.aa (K.aa (K.ae ?_))); exact K.ab F12 ⟨hk, le10_12⟩ (.c (.c .nil)) (List.Sublist.refl _)
      · rintro F11 ⟨hk, le10_11⟩; rw [← hk7] at hk; (try dsimp only at hk); have le8_11 := le8_10.trans le10_11; have le9_11 := le9_10.trans le10_11; refine T.seq ?_; have hq := zac hk; clear hk; obtain ⟨r98, hr98, hk⟩ := hq; (try dsimp only at hk); refine T.region ?_; refine TL.y (Yv.ak 0 rfl rfl rfl rfl) ?_; refine TL.run 1 rfl ?_; refine TL.e (Ew.buildSlice rfl rfl rfl (by decide)) ?_; rintro _ _ ⟨g95, rfl, rfl⟩; refine TL.aA (fun w hw => hw.freezeR (i := 2) (j := 0) (by decide) rfl rfl) ?_; rintro F18 ⟨le11_18, hz18⟩; dsimp only [List.set, List.eraseIdx]; have le8_18 := le8_11.trans le11_18; have le9_18 := le9_11.trans le11_18; have hfF18 : SlC F18.toFrz (.slice (some ⟨g95, 0, none⟩) 1 1) 1 ([2].map eI) := (SlK.lit hz18 rfl (Nat.le_refl _) (by decide)).toF (xs := [2]) rfl (fun _ => rfl); refine TL.e (Ew.buildSlice rfl rfl rfl (by decide)) ?_; rintro _ _ ⟨g96, rfl, rfl⟩; refine TL.aA (fun w hw => hw.freezeR (i := 2) (j := 0) (by decide) rfl rfl) ?_; rintro F19 ⟨le18_19, hz19⟩; dsimp only [List.set, List.eraseIdx]; have le8_19 := le8_18.trans le18_19; have le9_19 := le9_18.trans le18_19; have hfF19 : SlC F19.toFrz (.slice (some ⟨g96, 0, none⟩) 1 1) 1 ([5].map eI) := (SlK.lit hz19 rfl (Nat.le_refl _) (by decide)).toF (xs := [5]) rfl (fun _ => rfl); refine TL.e (Ew.buildSlice rfl rfl rfl (by decide)) ?_; rintro _ _ ⟨g97, rfl, rfl⟩; refine TL.aA (fun w hw => hw.freezeR (i := 2) (j := 0) (by decide) rfl rfl) ?_; rintro F20 ⟨le19_20, hz20⟩; dsimp only [List.set, List.eraseIdx]; have le8_20 := le8_19.trans le19_20; have le9_20 := le9_19.trans le19_20; have le18_20 := le18_19.trans le19_20; have hfF20 : SlC F20.toFrz (.slice (some ⟨g97, 0, none⟩) 1 1) 1 ([10].map eI) := (SlK.lit hz20 rfl (Nat.le_refl _) (by decide)).toF (xs := [10]) rfl (fun _ => rfl); refine TL.e (Ew.ao 1 rfl rfl rfl rfl (fun w hw hF => zea _ w hF (GBidderPlan.mk 2 1000 [[9, 7, 2]]) (.slice (some ⟨g62, 0, none⟩) 1 1) [[(.slice (some ⟨g61, 0, none⟩) 3 3)]] (SlD.mono (rep := R_List_Int.rep) (fun _ _ _ _ => R_List_Int.mono) hfF9 le9_20) [(GProduct.mk 1 1 3 1 0)] (.slice (some ⟨g60, 0, none⟩) 1 1) (SlC.mono hfF8 le8_20) [2] (.slice (some ⟨g95, 0, none⟩) 1 1) (SlC.mono hfF18 le18_20) [5] (.slice (some ⟨g96, 0, none⟩) 1 1) (SlC.mono hfF19 le19_20) [10] (.slice (some ⟨g97, 0, none⟩) 1 1) hfF20 fuel r98 hr98)) ?_; rintro _ _ ⟨⟨v98_0_0, cs98_0_0⟩, F21, le20_21, hf98_0_0, rfl, rfl⟩; dsimp only at hf98_0_0 ⊢; have le8_21 := le8_20.trans le20_21; have le9_21 := le9_20.trans le20_21; haveI := hf98_0_0.1.oneC; refine TL.run 5 rfl ?_; refine TL.ns (T.seq (T.seq ?_)); (try dsimp only at hk); have hq := zae hk; clear hk; obtain ⟨k14, hk14, hk⟩ := hq; (try dsimp only at hk); refine T.ad (ι := Bool × FzB w (fun _ => False) S0) (fun z => [(7, (.slice (some ⟨g60, 0, none⟩) 1 1)), (8, .pointer (some ⟨g8, 0, none⟩)), (110, .bool z.1)]) (fun z => [.row g8 24 [.int .i64 2, .int .i64 1000, (.slice (some ⟨g62, 0, none⟩) 1 1)], .fr z.2]) (fun z => k14 z.1 = some r ∧ F21.toFrz.Le z.2.toFrz) ?_ ?_
        · refine T.region ?_; refine TL.run 3 rfl ?_; refine TL.gs rfl rfl rfl (fun h15 => ?_) (fun h15 => ?_)
          · have p15 := of_decide_eq_true h15; replace hk := zaa hk h15; refine TL.run 7 rfl ?_; refine TL.nil ?_; exact K.ab (true, F21) ⟨hk, (Frz.Le.refl _)⟩ (.c (.c (.c .nil))) (List.Sublist.refl _)
          · have p15 := of_decide_eq_false h15; replace hk := zab hk h15; refine TL.run 1 rfl ?_; refine TL.y (Yv.build rfl rfl) ?_; refine TL.y (Yv.build rfl rfl) ?_; refine TL.e (Ew.buildSlice rfl rfl rfl (by decide)) ?_; rintro _ _ ⟨g107, rfl, rfl⟩; refine TL.aA (fun w hw => hw.freezeR (i := 2) (j := 0) (by decide) rfl rfl) ?_; rintro F23 ⟨le21_23, hz23⟩; dsimp only [List.set, List.eraseIdx]; have hfF23 : SlC F23.toFrz (.slice (some ⟨g107, 0, none⟩) 2 2) 3 ([(GRow.mk 0 (-1) 400), (GRow.mk 0 (-1) 800)].map GRow.enc) := (SlK.lit hz23 rfl (Nat.le_refl _) (by decide)).toF (xs := [(GRow.mk 0 (-1) 400), (GRow.mk 0 (-1) 800)]) rfl GRow.len; have hq := zac hk; clear hk; obtain ⟨r108, hr108, hk⟩ := hq; refine TL.e (Ew.ai rfl rfl rfl (fun w hw => zfZ _ w (hw.fr (i := 1) rfl) r98.1 v98_0_0 cs98_0_0 (SlD.mono (rep := GBid.rep) (fun _ _ _ _ => GBid.mono) hf98_0_0 le21_23) 2 [(GRow.mk 0 (-1) 400), (GRow.mk 0 (-1) 800)] (.slice (some ⟨g107, 0, none⟩) 2 2) hfF23 fuel r108 hr108)) ?_; rintro _ _ ⟨rfl, rfl⟩; refine TL.run 2 rfl ?_; refine TL.nil ?_; exact K.ab (!r108, F23) ⟨hk, le21_23⟩ (.c (.c (.c .nil))) (List.Sublist.refl _)
        · rintro ⟨x_13, F22⟩ ⟨hk, le21_22⟩; (try dsimp only at *); rw [← hk14] at hk; (try dsimp only at hk); have le8_22 := le8_21.trans le21_22; have le9_22 := le9_21.trans le21_22; refine T.cond rfl (fun h16 => ?_) (fun h16 => ?_)
          · replace hk := zaa hk h16; refine T.sr ?_; refine TL.run 1 rfl ?_; refine TL.ns (T.ret (K.a ?_)); obtain rfl := Option.some.inj hk; exact K.ah rfl rfl (fun w' hw => ⟨rfl, hw.isBelow⟩)
          · replace hk := zab hk h16; refine T.skip (K.seq (T.sr ?_)); refine TL.y (Yv.fieldAddr rfl rfl) ?_; refine TL.e0 (Ew.aP 0 rfl rfl rfl rfl (by simp)) ?_; rintro _ _ ⟨rfl, rfl⟩; refine TL.ns (T.seq ?_); have hq := zac hk; clear hk; obtain ⟨r116, hr116, hk⟩ := hq; (try dsimp only at hk); refine T.region ?_; refine TL.y (Yv.ak 0 rfl rfl rfl rfl) ?_; refine TL.run 1 rfl ?_; refine TL.e (Ew.buildSlice rfl rfl rfl (by decide)) ?_; rintro _ _ ⟨g115, rfl, rfl⟩; refine TL.aA (fun w hw => hw.freezeR (i := 2) (j := 0) (by decide) rfl rfl) ?_; rintro F24 ⟨le22_24, hz24⟩; dsimp only [List.set, List.eraseIdx]; have le8_24 := le8_22.trans le22_24; have le9_24 := le9_22.trans le22_24; have hfF24 : SlC F24.toFrz (.slice (some ⟨g115, 0, none⟩) 1 1) 1 ([5].map eI) := (SlK.lit hz24 rfl (Nat.le_refl _) (by decide)).toF (xs := [5]) rfl (fun _ => rfl); refine TL.e (Ew.ao 1 rfl rfl rfl rfl (fun w hw hF => zcj _ w hF (GBidderPlan.mk 2 9 [[9, 7, 2]]) (.slice (some ⟨g62, 0, none⟩) 1 1) [[(.slice (some ⟨g61, 0, none⟩) 3 3)]] (SlD.mono (rep := R_List_Int.rep) (fun _ _ _ _ => R_List_Int.mono) hfF9 le9_24) [(GProduct.mk 1 1 3 1 0)] (.slice (some ⟨g60, 0, none⟩) 1 1) (SlC.mono hfF8 le8_24) [5] (.slice (some ⟨g115, 0, none⟩) 1 1) hfF24 fuel r116 hr116)) ?_; rintro _ _ ⟨v116_0_0, F25, le24_25, hf116_0_0, rfl, rfl⟩; haveI := hf116_0_0.oneC; refine TL.run 5 rfl ?_; refine TL.ns (T.seq ?_); refine T.ad (ι := FzB w (fun _ => False) S0) (fun z => [(0, .bool ((decide (r116.2 = 0)) && (za2 r116.1 [1])))]) (fun z => [.row g8 24 [.int .i64 2, .int .i64 9, (.slice (some ⟨g62, 0, none⟩) 1 1)], .fr z]) (fun z => F25.toFrz.Le z.toFrz) ?_ ?_
            · refine T.region ?_; refine TL.run 3 rfl ?_; refine TL.gs rfl rfl rfl (fun h17 => ?_) (fun h17 => ?_)
              · have p17 := of_decide_eq_true h17; refine TL.run 1 rfl ?_; refine TL.e (Ew.buildSlice rfl rfl rfl (by decide)) ?_; rintro _ _ ⟨g123, rfl, rfl⟩; refine TL.aA (fun w hw => hw.freezeR (i := 2) (j := 0) (by decide) rfl rfl) ?_; rintro F27 ⟨le25_27, hz27⟩; dsimp only [List.set, List.eraseIdx]; have hfF27 : SlC F27.toFrz (.slice (some ⟨g123, 0, none⟩) 1 1) 1 ([1].map eI) := (SlK.lit hz27 rfl (Nat.le_refl _) (by decide)).toF (xs := [1]) rfl (fun _ => rfl); refine TL.e (Ew.ai rfl rfl rfl (fun w hw => zdh _ w (hw.fr (i := 1) rfl) r116.1 v116_0_0 (SlC.mono hf116_0_0 le25_27) [1] (.slice (some ⟨g123, 0, none⟩) 1 1) hfF27)) ?_; rintro _ _ ⟨rfl, rfl⟩; refine TL.run 2 rfl ?_; refine TL.nil ?_; exact K.ab F27 le25_27 (.b (zcY h17) .nil) (List.Sublist.refl _)
              · have p17 := of_decide_eq_false h17; refine TL.run 5 rfl ?_; refine TL.nil ?_; exact K.ab F25 (Frz.Le.refl _) (.b (za8 h17).symm .nil) (List.Sublist.refl _)
            · rintro F26 le25_26; (try dsimp only at *); refine T.ret ?_; obtain rfl := Option.some.inj hk; exact K.ah rfl rfl (fun w' hw => ⟨rfl, hw.isBelow⟩)
def zcn (fuel : Nat) (q : GBidderPlan) (l : List GProduct) (clocks : List Int) (which : Int) (rise : Int) : Option Bool :=
  (bif decide ((l.length : Int) = 0) then
    some true
    else
    grd (¬ (BitVec.ofInt 64 (l.length : Int)) = 0#64) <|
    grd (room ([] ++ clocks).length 8) <|
    grd (0 ≤ (wI (((BitVec.ofInt 64 which) % (BitVec.ofInt 64 (l.length : Int))).toNat : Int)) ∧ (wI (((BitVec.ofInt 64 which) % (BitVec.ofInt 64 (l.length : Int))).toNat : Int)) < (([] ++ clocks).length : Int)) <|
    (zar fuel (GBidderPlan.mk q.Bidder 1125899906842624 q.Values) l clocks).bind fun r45 =>
    (zar fuel (GBidderPlan.mk q.Bidder 1125899906842624 q.Values) l (([] ++ clocks).set ((wI (((BitVec.ofInt 64 which) % (BitVec.ofInt 64 (l.length : Int))).toNat : Int)).toNat) (min 549755813888 (wI ((nth ([] ++ clocks) ((wI (((BitVec.ofInt 64 which) % (BitVec.ofInt 64 (l.length : Int))).toNat : Int)).toNat)) + rise))))).bind fun r52 =>
    (bif ((((decide (¬ r45.2 = 0)) || (decide (¬ r52.2 = 0))) || (decide (¬ (r45.1.length : Int) = (l.length : Int)))) || (decide (¬ (r52.1.length : Int) = (l.length : Int)))) then
      some false
      else
      zap (fun (_ : Unit) =>
        some true)
      (fun k6 =>
        zam (fun (k_8 : Nat) (next7 : Unit → Option Bool) (_ : Unit) =>
          (bif (((decide ((k_8 : Int) = (wI (((BitVec.ofInt 64 which) % (BitVec.ofInt 64 (l.length : Int))).toNat : Int)))) && (decide ((nth r45.1 k_8) < (nth r52.1 k_8)))) || ((decide (¬ (k_8 : Int) = (wI (((BitVec.ofInt 64 which) % (BitVec.ofInt 64 (l.length : Int))).toNat : Int)))) && (decide (¬ (nth r52.1 k_8) = (nth r45.1 k_8))))) then
            some false
            else
            next7 ()))
        (fun (_ : Unit) =>
          k6 ()) (l.length - 0) 0 ())))
theorem zfk (F0 : Frz) (w : World) (hF0 : F0.At w) (q : GBidderPlan) (vq_2 : Value) (cq_2 : List (List Value)) (hq_2 : SlD R_List_Int.rep F0 vq_2 1 cq_2 q.Values) (l : List GProduct) (vl : Value) (hl : SlC F0 vl 5 (l.map GProduct.enc)) (clocks : List Int) (vclocks : Value) (hclocks : SlC F0 vclocks 1 (clocks.map eI)) (which : Int) (rise : Int) (fuel : Nat) (r : Bool) (hr : zcn fuel q l clocks which rise = some r) : Calls Tryz.prog 24 #[.agg [.int .i64 q.Bidder, .int .i64 q.Budget, vq_2].toArray, vl, vclocks, .int .i64 which, .int .i64 rise] w fun e w' => e = .returned (.bool r) ∧ Below w.heap.size w w' := by
  have hk := hr; unfold zcn at hk; haveI := hq_2.1.oneC; haveI := hl.oneC; haveI := hclocks.oneC; obtain ⟨S0, F1, rfl, hS0, hp0⟩ := zag hF0; refine zak Tryz.func24 rfl rfl rfl hp0 ?_; refine T.sr ?_; refine TL.e (Ew.aw rfl rfl) ?_; rintro _ _ ⟨g5, rfl, rfl⟩; refine TL.run 1 rfl ?_; refine TL.ns (T.seq (T.sr ?_)); refine TL.run 1 rfl ?_; refine TL.y (Yv.am rfl rfl hl (List.length_map _)) ?_; have hm19 : l.length ≤ 9223372036854775807 := (List.length_map _) ▸ hl.max; refine TL.run 1 rfl ?_; refine TL.ns ?_; refine T.cond rfl (fun h1 => ?_) (fun h1 => ?_)
  · have p1 := of_decide_eq_true h1; replace hk := zaa hk h1; refine T.sr ?_; refine TL.run 1 rfl ?_; refine TL.ns (T.ret (K.a ?_)); obtain rfl := Option.some.inj hk; exact K.ah rfl rfl (fun w' hw => ⟨rfl, hw.isBelow⟩)
  · have p1 := of_decide_eq_false h1; replace hk := zab hk h1; refine T.skip (K.seq (T.seq ?_)); have hq : (¬ (BitVec.ofInt 64 (l.length : Int)) = 0#64) ∧ _ := zaf hk; clear hk; obtain ⟨g26, hk⟩ := hq; (try dsimp only at hk); refine T.region ?_; refine TL.run 1 rfl ?_; refine TL.y (Yv.az (z := which) rfl rfl) ?_; refine TL.run 1 rfl ?_; refine TL.y (Yv.am rfl rfl hl (List.length_map _)) ?_; refine TL.y (Yv.az (z := (l.length : Int)) rfl rfl) ?_; refine TL.y (Yv.bv (a := (BitVec.ofInt 64 which)) (b := (BitVec.ofInt 64 (l.length : Int))) rfl rfl rfl g26) ?_; refine TL.y (Yv.aF (z := (((BitVec.ofInt 64 which) % (BitVec.ofInt 64 (l.length : Int))).toNat : Int)) rfl rfl) ?_; refine TL.run 1 rfl ?_; refine TL.nx ?_; refine TL.y (Yv.fieldAddr rfl rfl) ?_; refine TL.e0 (Ew.aP 0 rfl rfl rfl rfl (by simp)) ?_; rintro _ _ ⟨rfl, rfl⟩; refine TL.ns (T.seq ?_); have hq : (room ([] ++ clocks).length 8) ∧ _ := zaf hk; clear hk; obtain ⟨g30, hk⟩ := hq; (try dsimp only at hk); refine T.region ?_; refine TL.run 1 rfl ?_; refine TL.slNil 3 1 ?_; refine TL.e (Ew.bc 0 2 (zgc (fun _ => inferInstance)) rfl rfl rfl rfl rfl hclocks (zgz (xs := ([] : List Int))) (zfN (xs := ([] : List Int))) g30 (by decide)) ?_; rintro v30 _ ⟨hv30, rfl⟩; refine TL.run 1 rfl ?_; refine TL.ns (T.seq ?_); have hq : (0 ≤ (wI (((BitVec.ofInt 64 which) % (BitVec.ofInt 64 (l.length : Int))).toNat : Int)) ∧ (wI (((BitVec.ofInt 64 which) % (BitVec.ofInt 64 (l.length : Int))).toNat : Int)) < (([] ++ clocks).length : Int)) ∧ _ := zaf hk; clear hk; obtain ⟨g35, hk⟩ := hq; (try dsimp only at hk); refine T.region ?_; refine TL.run 4 rfl ?_; refine TL.y (Yv.ar 0 (i := (wI (((BitVec.ofInt 64 which) % (BitVec.ofInt 64 (l.length : Int))).toNat : Int)).toNat) (z := (wI (((BitVec.ofInt 64 which) % (BitVec.ofInt 64 (l.length : Int))).toNat : Int))) rfl rfl rfl rfl (by omega) (by omega)) ?_; refine TL.y (Yv.au 0 rfl rfl rfl (by omega) (za1 (enc := eI) (i := (wI (((BitVec.ofInt 64 which) % (BitVec.ofInt 64 (l.length : Int))).toNat : Int)).toNat) (j := 0) (fun _ => rfl) (by omega) (by decide) rfl)) ?_; refine TL.run 1 rfl ?_; refine TL.y (Yv.as (v := .int .i64 (wI ((nth ([] ++ clocks) ((wI (((BitVec.ofInt 64 which) % (BitVec.ofInt 64 (l.length : Int))).toNat : Int)).toNat)) + rise))) rfl) ?_; refine TL.y (Yv.min2 rfl rfl rfl) ?_; refine TL.y (Yv.ar 0 (i := (wI (((BitVec.ofInt 64 which) % (BitVec.ofInt 64 (l.length : Int))).toNat : Int)).toNat) (z := (wI (((BitVec.ofInt 64 which) % (BitVec.ofInt 64 (l.length : Int))).toNat : Int))) rfl rfl rfl rfl (by omega) (by omega)) ?_; refine TL.e0 (Ew.aq 0 (k' := (([] ++ clocks).set ((wI (((BitVec.ofInt 64 which) % (BitVec.ofInt 64 (l.length : Int))).toNat : Int)).toNat) (min 549755813888 (wI ((nth ([] ++ clocks) ((wI (((BitVec.ofInt 64 which) % (BitVec.ofInt 64 (l.length : Int))).toNat : Int)).toNat)) + rise)))).length) (l' := (([] ++ clocks).set ((wI (((BitVec.ofInt 64 which) % (BitVec.ofInt 64 (l.length : Int))).toNat : Int)).toNat) (min 549755813888 (wI ((nth ([] ++ clocks) ((wI (((BitVec.ofInt 64 which) % (BitVec.ofInt 64 (l.length : Int))).toNat : Int)).toNat)) + rise)))).flatMap eI) rfl rfl rfl rfl (by omega) (zaB (enc := eI) (xs := ([] ++ clocks)) (i := (wI (((BitVec.ofInt 64 which) % (BitVec.ofInt 64 (l.length : Int))).toNat : Int)).toNat) (j := 0) (size := 1) (fun _ => rfl) (by omega) (by decide) (by first | omega | simp)) (zaK (enc := eI) (xs := ([] ++ clocks)) (i := (wI (((BitVec.ofInt 64 which) % (BitVec.ofInt 64 (l.length : Int))).toNat : Int)).toNat) (j := 0) (size := 1) (x := (min 549755813888 (wI ((nth ([] ++ clocks) ((wI (((BitVec.ofInt 64 which) % (BitVec.ofInt 64 (l.length : Int))).toNat : Int)).toNat)) + rise)))) (fun _ => rfl) (by omega) (by decide) (by first | omega | simp) rfl) (List.length_set ..)) ?_; rintro _ _ ⟨rfl, rfl⟩; refine TL.ns (T.seq ?_); have hq := zac hk; clear hk; obtain ⟨r45, hr45, hk⟩ := hq; (try dsimp only at hk); refine T.region ?_; refine TL.y (Yv.ak 1 rfl rfl rfl rfl) ?_; refine TL.run 2 rfl ?_; refine TL.e (Ew.ao 2 rfl rfl rfl rfl (fun w hw hF => zcj _ w hF (GBidderPlan.mk q.Bidder 1125899906842624 q.Values) vq_2 cq_2 hq_2 l vl hl clocks vclocks hclocks fuel r45 hr45)) ?_; rintro _ _ ⟨v45_0_0, F2, le1_2, hf45_0_0, rfl, rfl⟩; haveI := hf45_0_0.oneC; refine TL.run 5 rfl ?_; refine TL.ns (T.seq ?_); refine T.aA (fun w hw => hw.freezeS (i := 2) (j := 0) (by decide) rfl rfl) ?_; rintro F3 ⟨le2_3, hz3⟩; dsimp only [List.set, List.eraseIdx]; have le1_3 := le1_2.trans le2_3; have hfF3 := hz3.toF rfl (fun _ => rfl); haveI := hfF3.oneC; have hq := zac hk; clear hk; obtain ⟨r52, hr52, hk⟩ := hq; (try dsimp only at hk); refine T.region ?_; refine TL.y (Yv.ak 0 rfl rfl rfl rfl) ?_; refine TL.run 2 rfl ?_; refine TL.e (Ew.ao 1 rfl rfl rfl rfl (fun w hw hF => zcj _ w hF (GBidderPlan.mk q.Bidder 1125899906842624 q.Values) vq_2 cq_2 (SlD.mono (rep := R_List_Int.rep) (fun _ _ _ _ => R_List_Int.mono) hq_2 le1_3) l vl (SlC.mono hl le1_3) (([] ++ clocks).set ((wI (((BitVec.ofInt 64 which) % (BitVec.ofInt 64 (l.length : Int))).toNat : Int)).toNat) (min 549755813888 (wI ((nth ([] ++ clocks) ((wI (((BitVec.ofInt 64 which) % (BitVec.ofInt 64 (l.length : Int))).toNat : Int)).toNat)) + rise)))) v30 hfF3 fuel r52 hr52)) ?_; rintro _ _ ⟨v52_0_0, F4, le3_4, hf52_0_0, rfl, rfl⟩; have le1_4 := le1_3.trans le3_4; have le2_4 := le2_3.trans le3_4; haveI := hf52_0_0.oneC; refine TL.run 5 rfl ?_; refine TL.ns (T.seq (T.seq ?_)); refine T.ad (ι := Unit) (fun z => [(1, vl), (11, .int .i64 (wI (((BitVec.ofInt 64 which) % (BitVec.ofInt 64 (l.length : Int))).toNat : Int))), (13, v45_0_0), (15, v52_0_0), (74, .bool ((((decide (¬ r45.2 = 0)) || (decide (¬ r52.2 = 0))) || (decide (¬ (r45.1.length : Int) = (l.length : Int)))) || (decide (¬ (r52.1.length : Int) = (l.length : Int)))))]) (fun z => [.row g5 24 [.int .i64 q.Bidder, .int .i64 1125899906842624, vq_2], .fr F4]) (fun z => True) ?_ ?_
    · refine T.region ?_; refine TL.run 3 rfl ?_; refine TL.gs rfl rfl rfl (fun h2 => ?_) (fun h2 => ?_)
      · have p2 := of_decide_eq_true h2; refine TL.run 17 rfl ?_; refine TL.nil ?_; exact K.ab () trivial (.c (.c (.c (.c (.b (zas (zas (zas h2))).symm .nil))))) (List.Sublist.refl _)
      · have p2 := of_decide_eq_false h2; refine TL.run 4 rfl ?_; refine TL.gs rfl rfl rfl (fun h3 => ?_) (fun h3 => ?_)
        · have p3 := of_decide_eq_true h3; refine TL.run 13 rfl ?_; refine TL.nil ?_; exact K.ab () trivial (.c (.c (.c (.c (.b (zas (zas (zay h2 h3))).symm .nil))))) (List.Sublist.refl _)
        · have p3 := of_decide_eq_false h3; refine TL.run 1 rfl ?_; refine TL.y (Yv.am rfl rfl (SlC.mono hf45_0_0 le2_4) (List.length_map _)) ?_; have hm63 : r45.1.length ≤ 9223372036854775807 := (List.length_map _) ▸ (SlC.mono hf45_0_0 le2_4).max; refine TL.run 1 rfl ?_; refine TL.y (Yv.am rfl rfl (SlC.mono hl le1_4) (List.length_map _)) ?_; refine TL.run 3 rfl ?_; refine TL.gs rfl rfl rfl (fun h4 => ?_) (fun h4 => ?_)
          · have p4 := of_decide_eq_true h4; refine TL.run 6 rfl ?_; refine TL.nil ?_; exact K.ab () trivial (.c (.c (.c (.c (.b (zas (zay (zay h2 h3) h4)).symm .nil))))) (List.Sublist.refl _)
          · have p4 := of_decide_eq_false h4; refine TL.run 1 rfl ?_; refine TL.y (Yv.am rfl rfl hf52_0_0 (List.length_map _)) ?_; have hm70 : r52.1.length ≤ 9223372036854775807 := (List.length_map _) ▸ hf52_0_0.max; refine TL.run 1 rfl ?_; refine TL.y (Yv.am rfl rfl (SlC.mono hl le1_4) (List.length_map _)) ?_; refine TL.run 2 rfl ?_; refine TL.nil ?_; exact K.ab () trivial (.c (.c (.c (.c (.b (or_f (zay (zay h2 h3) h4)) .nil))))) (List.Sublist.refl _)
    · rintro _ _; have hm70 : r52.1.length ≤ 9223372036854775807 := (List.length_map _) ▸ hf52_0_0.max; refine T.cond rfl (fun h5 => ?_) (fun h5 => ?_)
      · replace hk := zaa hk h5; refine T.sr ?_; refine TL.run 1 rfl ?_; refine TL.ns (T.ret (K.a ?_)); obtain rfl := Option.some.inj hk; exact K.ah rfl rfl (fun w' hw => ⟨rfl, hw.isBelow⟩)
      · have p5 := h5; (try simp only [nfB] at p5); replace hk := zab hk h5; refine T.skip (K.seq (T.seq (T.sr ?_))); refine TL.run 1 rfl ?_; refine TL.ns ?_; have hq := zae hk; clear hk; obtain ⟨k6, hk6, hk⟩ := hq; (try dsimp only at hk); refine T.ad (ι := Unit) (fun z => []) (fun z => [.fr F4]) (fun z => k6 () = some r) ?_ ?_
        · have hq := zaw hk; clear hk; obtain ⟨f7, kk7, hf7, hkk7, hk⟩ := hq; refine T.block ?_; refine T.pick [1] rfl (by decide) ?_; refine T.loop (ι := Nat) (fun z => [(1, vl), (11, .int .i64 (wI (((BitVec.ofInt 64 which) % (BitVec.ofInt 64 (l.length : Int))).toNat : Int))), (13, v45_0_0), (15, v52_0_0), (17, .int .i64 (z : Int))]) (fun z => [.fr F4]) (fun z => zam f7 kk7 (l.length - z) z () = some r) (fun z => l.length - z) 0 ?_ ?_ ?_ ?_
          · exact hk
          · exact (.c (.c (.c (.c (.c .nil)))))
          · exact List.Sublist.refl _
          · rintro k_8 hk; refine T.seq (T.sr ?_); refine TL.run 2 rfl ?_; refine TL.y (Yv.am rfl rfl (SlC.mono hl le1_4) (List.length_map _)) ?_; refine TL.run 1 rfl ?_; refine TL.ns ?_; refine T.cond rfl (fun h9 => ?_) (fun h9 => ?_)
            · have p9 := of_decide_eq_true h9; rw [zaQ (by omega)] at hk; generalize hn7 : zam f7 kk7 (l.length - (k_8 + 1)) (k_8 + 1) = next7 at hk; rw [← hf7] at hk; (try dsimp only at hk); refine T.skip (K.seq (T.seq (T.block (T.seq ?_)))); refine T.ad (ι := Unit) (fun z => [(1, vl), (11, .int .i64 (wI (((BitVec.ofInt 64 which) % (BitVec.ofInt 64 (l.length : Int))).toNat : Int))), (13, v45_0_0), (15, v52_0_0), (17, .int .i64 (k_8 : Int)), (110, .bool (((decide ((k_8 : Int) = (wI (((BitVec.ofInt 64 which) % (BitVec.ofInt 64 (l.length : Int))).toNat : Int)))) && (decide ((nth r45.1 k_8) < (nth r52.1 k_8)))) || ((decide (¬ (k_8 : Int) = (wI (((BitVec.ofInt 64 which) % (BitVec.ofInt 64 (l.length : Int))).toNat : Int)))) && (decide (¬ (nth r52.1 k_8) = (nth r45.1 k_8))))))]) (fun z => [.fr F4]) (fun z => True) ?_ ?_
              · refine T.ax (.still 0 (.still 1 (.still 2 (.still 3 (.still 4 (.still 5 (.still 6 (.still 7 (.still 8 (.still 9 (.still 10 (.still 11 (.still 12 (.still 13 (.still 14 (.still 15 (.still 16 (.still 17 (.still 18 (.still 19 (.still 20 (.still 21 (.still 22 (.still 23 (.still 24 (.still 25 (.still 26 (.still 27 (.still 28 (.still 29 .done)))))))))))))))))))))))))))))) _ (by kernel_rfl) (List.Sublist.refl _) ?_; refine TS.run 4 rfl ?_; refine TS.gs rfl rfl rfl rfl (fun h10 => ?_) (fun h10 => ?_)
                · have p10 := of_decide_eq_true h10; refine TS.run 2 rfl ?_; refine TS.y rfl (Yv.an (i := k_8) rfl rfl rfl hf52_0_0 (List.length_map _) rfl (by omega)) ?_; refine TS.y rfl (Yv.al 0 (i := k_8) (j := 0) rfl rfl rfl hf52_0_0 (by omega) rfl rfl) ?_; refine TS.run 2 rfl ?_; refine TS.y rfl (Yv.an (i := k_8) rfl rfl rfl (SlC.mono hf45_0_0 le2_4) (List.length_map _) rfl (by omega)) ?_; refine TS.y rfl (Yv.al 0 (i := k_8) (j := 0) rfl rfl rfl (SlC.mono hf45_0_0 le2_4) (by omega) rfl rfl) ?_; refine TS.run 3 rfl ?_; refine TS.gs rfl rfl rfl rfl (fun h11 => ?_) (fun h11 => ?_)
                  · have p11 := of_decide_eq_true h11; refine TS.run 15 rfl ?_; refine TS.done ?_; exact K.ab () trivial (.c (.c (.c (.c (.c (.b (zas (zcD h10 h11)).symm .nil)))))) (List.Sublist.refl _)
                  · have p11 := of_decide_eq_false h11; refine TS.run 4 rfl ?_; refine TS.gs rfl rfl rfl rfl (fun h12 => ?_) (fun h12 => ?_)
                    · have p12 := of_decide_eq_true h12; refine TS.run 2 rfl ?_; refine TS.y rfl (Yv.an (i := k_8) rfl rfl rfl hf52_0_0 (List.length_map _) rfl (by omega)) ?_; refine TS.y rfl (Yv.al 0 (i := k_8) (j := 0) rfl rfl rfl hf52_0_0 (by omega) rfl rfl) ?_; refine TS.run 2 rfl ?_; refine TS.y rfl (Yv.an (i := k_8) rfl rfl rfl (SlC.mono hf45_0_0 le2_4) (List.length_map _) rfl (by omega)) ?_; refine TS.y rfl (Yv.al 0 (i := k_8) (j := 0) rfl rfl rfl (SlC.mono hf45_0_0 le2_4) (by omega) rfl rfl) ?_; refine TS.run 3 rfl ?_; refine TS.done ?_; exact K.ab () trivial (.c (.c (.c (.c (.c (.b (Eq.trans (zcY h12) (or_f (zcD h10 h11))) .nil)))))) (List.Sublist.refl _)
                    · have p12 := of_decide_eq_false h12; refine TS.run 11 rfl ?_; refine TS.done ?_; exact K.ab () trivial (.c (.c (.c (.c (.c (.b (zay (zcD h10 h11) (za8 h12)).symm .nil)))))) (List.Sublist.refl _)
                · have p10 := of_decide_eq_false h10; refine TS.run 15 rfl ?_; refine TS.gs rfl rfl rfl rfl (fun h13 => ?_) (fun h13 => ?_)
                  · have p13 := of_decide_eq_true h13; refine TS.run 2 rfl ?_; refine TS.y rfl (Yv.an (i := k_8) rfl rfl rfl hf52_0_0 (List.length_map _) rfl (by omega)) ?_; refine TS.y rfl (Yv.al 0 (i := k_8) (j := 0) rfl rfl rfl hf52_0_0 (by omega) rfl rfl) ?_; refine TS.run 2 rfl ?_; refine TS.y rfl (Yv.an (i := k_8) rfl rfl rfl (SlC.mono hf45_0_0 le2_4) (List.length_map _) rfl (by omega)) ?_; refine TS.y rfl (Yv.al 0 (i := k_8) (j := 0) rfl rfl rfl (SlC.mono hf45_0_0 le2_4) (by omega) rfl rfl) ?_; refine TS.run 3 rfl ?_; refine TS.done ?_; exact K.ab () trivial (.c (.c (.c (.c (.c (.b (Eq.trans (zcY h13) (or_f (za8 h10))) .nil)))))) (List.Sublist.refl _)
                  · have p13 := of_decide_eq_false h13; refine TS.run 11 rfl ?_; refine TS.done ?_; exact K.ab () trivial (.c (.c (.c (.c (.c (.b (zay (za8 h10) (za8 h13)).symm .nil)))))) (List.Sublist.refl _)
              · rintro _ _; refine T.cond rfl (fun h14 => ?_) (fun h14 => ?_)
                · replace hk := zaa hk h14; refine T.sr ?_; refine TL.run 1 rfl ?_; refine TL.ns (T.ret (K.aj (K.a (K.a (K.aj (K.a ?_)))))); obtain rfl := Option.some.inj hk; exact K.ah rfl rfl (fun w' hw => ⟨rfl, hw.isBelow⟩)
                · replace hk := zab hk h14; refine T.skip (K.ac (K.seq (T.region ?_))); refine TL.run 1 rfl ?_; refine TL.y (Yv.av rfl rfl rfl (by omega)) ?_; refine TL.run 1 rfl ?_; refine TL.nil ?_; rw [← hn7] at hk; exact K.next (k_8 + 1) hk (by omega) (.c (.c (.c (.c (.c .nil))))) (List.Sublist.refl _)
            · have p9 := of_decide_eq_false h9; rw [zaR (by omega), ← hkk7] at hk; (try dsimp only at hk); refine T.exit (K.aa (K.aa (K.ae ?_))); exact K.ab () hk .nil (List.Sublist.refl _)
        · rintro _ hk; rw [← hk6] at hk; (try dsimp only at hk); refine T.sr ?_; refine TL.run 1 rfl ?_; refine TL.ns (T.ret ?_); obtain rfl := Option.some.inj hk; exact K.ah rfl rfl (fun w' hw => ⟨rfl, hw.isBelow⟩)
section
variable {σ ρ α : Type}
theorem zd7 {f : Nat → (Unit → Bool) → Unit → Bool} {k : Unit → Bool} {n : Nat} (q : Nat → Bool) (hf : ∀ i next, i < n → f i next () = (q i && next ())) : zam f k n 0 () = ((List.range n).all q && k ()) := by
  have key : ∀ m i, i + m = n → zam f k m i () = ((List.range' i m).all q && k ()) := by
    intro m
    induction m with
    | zero => intro i _; simp [zam]
    | succ m ih =>
      intro i e
      show f i (zam f k m (i + 1)) () = _
      rw [hf i _ (by omega), ih (i + 1) (by omega), List.range'_succ, List.all_cons, Bool.and_assoc]
  rw [key n 0 (by omega), List.range_eq_range']
theorem zbx {x : Int} (h : -9223372036854775808 ≤ x ∧ x ≤ 9223372036854775807) : wI x = x := IntWalk.i64_in _ h
end
end Go.Proofs.YtlaafmiejkebgaaGreat
