/- Ye Ca Pa Pg Pi Pj: shortened and put together by squeeze.py. -/
import Derived.Test.YtipomhejoajjdaaGreatQ07
set_option maxRecDepth 100000
set_option maxHeartbeats 4000000
set_option linter.unusedVariables false
set_option linter.unusedSectionVars false
set_option linter.unusedSimpArgs false
namespace Go.Proofs.YtipomhejoajjdaaGreat
open Go.RowKit
def zak (x0_ : GReader) : Int :=
  (bif !(zaL x0_) then
    1
    else
    x0_.fault.first)
theorem zbx (F0 : Frz) (w : World) (hF0 : F0.At w) (x0_ : GReader) (g0_ : Nat) (v0_2 : Value) (hO : Hp w (fps [.row g0_ 160 [.int .i64 x0_.fault.first, .bool x0_.made, v0_2, .int .i64 x0_.at_], .sl v0_2 5 1 x0_.in_.length (x0_.in_.flatMap (eK .u8))]) [.row g0_ 160 [.int .i64 x0_.fault.first, .bool x0_.made, v0_2, .int .i64 x0_.at_], .sl v0_2 5 1 x0_.in_.length (x0_.in_.flatMap (eK .u8))] w) (hA : ∀ g, fps [.row g0_ 160 [.int .i64 x0_.fault.first, .bool x0_.made, v0_2, .int .i64 x0_.at_], .sl v0_2 5 1 x0_.in_.length (x0_.in_.flatMap (eK .u8))] g → ¬ F0.S g) : Calls Tryz.prog 119 #[.pointer (some ⟨g0_, 0, none⟩)] w fun e w' => ∃ (y : Unit), (True) ∧ e = .returned (.int .i64 (zak x0_)) ∧ FxM F0 w (fps [.row g0_ 160 [.int .i64 x0_.fault.first, .bool x0_.made, v0_2, .int .i64 x0_.at_], .sl v0_2 5 1 x0_.in_.length (x0_.in_.flatMap (eK .u8))]) F0 [.row g0_ 160 [.int .i64 x0_.fault.first, .bool x0_.made, v0_2, .int .i64 x0_.at_], .sl v0_2 5 1 x0_.in_.length (x0_.in_.flatMap (eK .u8))] w' := by
  obtain ⟨r, hk⟩ : ∃ r, zak x0_ = r := ⟨_, rfl⟩; rw [hk]; unfold zak at hk; haveI := zb2 (hO.own (.sl v0_2 5 1 x0_.in_.length (x0_.in_.flatMap (eK .u8))) (by simp)); have hmx0_2 := zch (hO.own (.sl v0_2 5 1 x0_.in_.length (x0_.in_.flatMap (eK .u8))) (by simp)); obtain ⟨S0, F1, rfl, hS0, hp0⟩ := zaM hF0 hO hA; refine zam (hs := [.row g0_ 160 [.int .i64 x0_.fault.first, .bool x0_.made, v0_2, .int .i64 x0_.at_], .sl v0_2 5 1 x0_.in_.length (x0_.in_.flatMap (eK .u8)), .fr F1]) Tryz.func119 rfl rfl rfl hp0 ?_; refine T.sr ?_; refine TL.run 1 rfl ?_; refine TL.ns (T.seq (T.sr ?_)); refine TL.run 1 rfl ?_; refine TL.e (Ew.ak [0, 1, 2] [.row g0_ 160 [.int .i64 x0_.fault.first, .bool x0_.made, v0_2, .int .i64 x0_.at_], .sl v0_2 5 1 x0_.in_.length (x0_.in_.flatMap (eK .u8))] [] rfl rfl rfl rfl (by decide) (fun w hw hw2 hF => zcm _ w hF x0_ g0_ v0_2 hw2.takes.1 hw2.takes.2)) ?_; rintro _ _ ⟨⟨⟩, -, rfl, rfl⟩; dsimp only [List.cons_append, List.nil_append]; refine TL.run 1 rfl ?_; refine TL.ns ?_; refine T.cond rfl (fun h1 => ?_) (fun h1 => ?_)
  · replace hk := zac hk h1; refine T.sr ?_; refine TL.run 1 rfl ?_; refine TL.ns (T.ret (K.then_ret ?_)); subst hk; exact K.aj rfl rfl (fun w' hw => ⟨⟨⟩, trivial, rfl, FxM.of (hw.pick (idx := [0, 1, 2]) rfl (by decide)) hS0 (Frz.Le.refl _)⟩)
  · replace hk := zab hk h1; refine T.skip (K.seq (T.sr ?_)); refine TL.run 2 rfl ?_; refine TL.y (Yv.fieldAddr rfl rfl) ?_; refine TL.y (Yv.fieldAddr rfl rfl) ?_; refine TL.y (Yv.aa 0 rfl rfl rfl rfl) ?_; refine TL.run 1 rfl ?_; refine TL.ns (T.ret ?_); subst hk; exact K.aj rfl rfl (fun w' hw => ⟨⟨⟩, trivial, rfl, FxM.of (hw.pick (idx := [0, 1, 2]) rfl (by decide)) hS0 (Frz.Le.refl _)⟩)
def zaT (x0_ : GReader) : Int :=
  (bif !(zaL x0_) then
    1
    else
    (bif ((decide (x0_.fault.first = 0)) && (decide (x0_.at_ < (x0_.in_.length : Int)))) then
      5
      else
      x0_.fault.first))
theorem zds (F0 : Frz) (w : World) (hF0 : F0.At w) (x0_ : GReader) (g0_ : Nat) (v0_2 : Value) (hO : Hp w (fps [.row g0_ 160 [.int .i64 x0_.fault.first, .bool x0_.made, v0_2, .int .i64 x0_.at_], .sl v0_2 5 1 x0_.in_.length (x0_.in_.flatMap (eK .u8))]) [.row g0_ 160 [.int .i64 x0_.fault.first, .bool x0_.made, v0_2, .int .i64 x0_.at_], .sl v0_2 5 1 x0_.in_.length (x0_.in_.flatMap (eK .u8))] w) (hA : ∀ g, fps [.row g0_ 160 [.int .i64 x0_.fault.first, .bool x0_.made, v0_2, .int .i64 x0_.at_], .sl v0_2 5 1 x0_.in_.length (x0_.in_.flatMap (eK .u8))] g → ¬ F0.S g) : Calls Tryz.prog 95 #[.pointer (some ⟨g0_, 0, none⟩)] w fun e w' => ∃ (y : Unit), (True) ∧ e = .returned (.int .i64 (zaT x0_)) ∧ FxM F0 w (fps [.row g0_ 160 [.int .i64 x0_.fault.first, .bool x0_.made, v0_2, .int .i64 x0_.at_], .sl v0_2 5 1 x0_.in_.length (x0_.in_.flatMap (eK .u8))]) F0 [.row g0_ 160 [.int .i64 x0_.fault.first, .bool x0_.made, v0_2, .int .i64 x0_.at_], .sl v0_2 5 1 x0_.in_.length (x0_.in_.flatMap (eK .u8))] w' := by
  obtain ⟨r, hk⟩ : ∃ r, zaT x0_ = r := ⟨_, rfl⟩; rw [hk]; unfold zaT at hk; haveI := zb2 (hO.own (.sl v0_2 5 1 x0_.in_.length (x0_.in_.flatMap (eK .u8))) (by simp)); have hmx0_2 := zch (hO.own (.sl v0_2 5 1 x0_.in_.length (x0_.in_.flatMap (eK .u8))) (by simp)); obtain ⟨S0, F1, rfl, hS0, hp0⟩ := zaM hF0 hO hA; refine zam (hs := [.row g0_ 160 [.int .i64 x0_.fault.first, .bool x0_.made, v0_2, .int .i64 x0_.at_], .sl v0_2 5 1 x0_.in_.length (x0_.in_.flatMap (eK .u8)), .fr F1]) Tryz.func95 rfl rfl rfl hp0 ?_; refine T.sr ?_; refine TL.run 1 rfl ?_; refine TL.ns (T.seq (T.sr ?_)); refine TL.run 1 rfl ?_; refine TL.e (Ew.ak [0, 1, 2] [.row g0_ 160 [.int .i64 x0_.fault.first, .bool x0_.made, v0_2, .int .i64 x0_.at_], .sl v0_2 5 1 x0_.in_.length (x0_.in_.flatMap (eK .u8))] [] rfl rfl rfl rfl (by decide) (fun w hw hw2 hF => zcm _ w hF x0_ g0_ v0_2 hw2.takes.1 hw2.takes.2)) ?_; rintro _ _ ⟨⟨⟩, -, rfl, rfl⟩; dsimp only [List.cons_append, List.nil_append]; refine TL.run 1 rfl ?_; refine TL.ns ?_; refine T.cond rfl (fun h1 => ?_) (fun h1 => ?_)
  · replace hk := zac hk h1; refine T.sr ?_; refine TL.run 1 rfl ?_; refine TL.ns (T.ret (K.then_ret ?_)); subst hk; exact K.aj rfl rfl (fun w' hw => ⟨⟨⟩, trivial, rfl, FxM.of (hw.pick (idx := [0, 1, 2]) rfl (by decide)) hS0 (Frz.Le.refl _)⟩)
  · replace hk := zab hk h1; refine T.skip (K.seq (T.seq (T.seq ?_))); refine T.af (ι := Unit) (fun z => [(0, .pointer (some ⟨g0_, 0, none⟩)), (23, .bool ((decide (x0_.fault.first = 0)) && (decide (x0_.at_ < (x0_.in_.length : Int)))))]) (fun z => [.row g0_ 160 [.int .i64 x0_.fault.first, .bool x0_.made, v0_2, .int .i64 x0_.at_], .sl v0_2 5 1 x0_.in_.length (x0_.in_.flatMap (eK .u8)), .fr F1]) (fun z => True) ?_ ?_
    · refine T.ax (.still 0 (.still 1 (.still 2 (.still 3 (.still 4 (.still 5 (.still 6 (.still 7 (.still 8 (.still 9 (.still 10 (.still 11 (.still 12 (.still 13 (.still 14 (.still 15 (.still 16 (.still 17 .done)))))))))))))))))) _ (by kernel_rfl) (List.Sublist.refl _) ?_; refine TS.run 2 rfl ?_; refine TS.y rfl (Yv.fieldAddr rfl rfl) ?_; refine TS.y rfl (Yv.fieldAddr rfl rfl) ?_; refine TS.y rfl (Yv.aa 0 rfl rfl rfl rfl) ?_; refine TS.run 2 rfl ?_; refine TS.gs rfl rfl rfl rfl (fun h2 => ?_) (fun h2 => ?_)
      · have p2 := of_decide_eq_true h2; refine TS.run 2 rfl ?_; refine TS.y rfl (Yv.fieldAddr rfl rfl) ?_; refine TS.y rfl (Yv.aa 0 rfl rfl rfl rfl) ?_; refine TS.run 2 rfl ?_; refine TS.y rfl (Yv.fieldAddr rfl rfl) ?_; refine TS.y rfl (Yv.aa 0 rfl rfl rfl rfl) ?_; refine TS.y rfl (Yv.bk 1 rfl rfl rfl) ?_; refine TS.run 2 rfl ?_; refine TS.done ?_; exact K.ai () trivial (.c (.b (zdE h2) .nil)) (List.Sublist.refl _)
      · have p2 := of_decide_eq_false h2; refine TS.run 11 rfl ?_; refine TS.done ?_; exact K.ai () trivial (.c (.b (zaG h2).symm .nil)) (List.Sublist.refl _)
    · rintro _ _; refine T.cond rfl (fun h3 => ?_) (fun h3 => ?_)
      · have p3 := h3; (try simp only [nfB] at p3); replace hk := zac hk h3; refine T.sr ?_; refine TL.run 1 rfl ?_; refine TL.ns (T.ret (K.then_ret ?_)); subst hk; exact K.aj rfl rfl (fun w' hw => ⟨⟨⟩, trivial, rfl, FxM.of (hw.pick (idx := [0, 1, 2]) rfl (by decide)) hS0 (Frz.Le.refl _)⟩)
      · replace hk := zab hk h3; refine T.skip (K.seq (T.sr ?_)); refine TL.run 2 rfl ?_; refine TL.y (Yv.fieldAddr rfl rfl) ?_; refine TL.y (Yv.fieldAddr rfl rfl) ?_; refine TL.y (Yv.aa 0 rfl rfl rfl rfl) ?_; refine TL.run 1 rfl ?_; refine TL.ns (T.ret ?_); subst hk; exact K.aj rfl rfl (fun w' hw => ⟨⟨⟩, trivial, rfl, FxM.of (hw.pick (idx := [0, 1, 2]) rfl (by decide)) hS0 (Frz.Le.refl _)⟩)
def zc2 (b : List Int) : Option (Option GReader) :=
  grd (room ([] ++ b).length 1) <|
  some (some (GReader.mk (Gfault.mk 0) true ([] ++ b) 0))
theorem zfr (F0 : Frz) (w : World) (hF0 : F0.At w) (b : List Int) (vb : Value) (hb : SlC F0 vb 1 (b.map (eK .u8))) (r : Option GReader) (hr : zc2 b = some r) : Calls Tryz.prog 86 #[vb] w fun e w' => ((r).isSome = true → ∃ (y : Nat × Value) (G : Frz), (True) ∧ e = .returned (.pointer (some ⟨y.1, 0, none⟩)) ∧ FxM F0 w (fps []) G [.row y.1 160 [.int .i64 ((r.getD default).fault.first), .bool ((r.getD default).made), y.2, .int .i64 ((r.getD default).at_)], .sl y.2 5 1 ((r.getD default).in_).length (((r.getD default).in_).flatMap (eK .u8))] w') ∧ ((r).isSome = false → ∃ (y : Unit) (G : Frz), (True) ∧ e = .returned (.pointer none) ∧ FxM F0 w (fps []) G [] w') := by
  have hk := hr; unfold zc2 at hk; haveI := hb.oneC; obtain ⟨S0, F1, rfl, hS0, hp0⟩ := zal hF0; rw [zfG]; refine zam Tryz.func86 rfl rfl rfl hp0 ?_; refine T.sr ?_; refine TL.run 1 rfl ?_; refine TL.ns (T.seq ?_); have hq : (room ([] ++ b).length 1) ∧ _ := zaj hk; clear hk; obtain ⟨g4, hk⟩ := hq; (try dsimp only at hk); refine T.region ?_; refine TL.run 1 rfl ?_; refine TL.slNil 5 1 ?_; refine TL.e (Ew.aC 0 1 (zc9 (fun _ => inferInstance)) rfl rfl rfl rfl rfl hb (zcS (xs := ([] : List Int))) (zcn (xs := ([] : List Int))) g4 (by decide)) ?_; rintro v4 _ ⟨hv4, rfl⟩; refine TL.y (Yv.build rfl rfl) ?_; refine TL.e (Ew.aA rfl rfl) ?_; rintro _ _ ⟨g6, rfl, rfl⟩; refine TL.run 1 rfl ?_; refine TL.ns (T.ret ?_); obtain rfl := Option.some.inj hk; exact K.aj rfl rfl (fun w' hw => ⟨fun _ => ⟨(g6, v4), F1.toFrz, trivial, rfl, FxM.of (hw.pick (idx := [0, 1, 2]) rfl (by decide)) hS0 (Frz.Le.refl _)⟩, fun h => (by cases h)⟩)
def zbH (x0_ : GReader) : Option (GPair × (Int × Int)) :=
  (zaa x0_).bind fun r5 =>
  (zaa (GReader.mk (Gfault.mk r5.2.1) x0_.made x0_.in_ r5.2.2)).bind fun r8 =>
  (zaJ (GReader.mk (Gfault.mk r8.2.1) x0_.made x0_.in_ r8.2.2)).bind fun r11 =>
  (zaa (GReader.mk (Gfault.mk r11.2.1) x0_.made x0_.in_ r11.2.2)).bind fun r14 =>
  (zaa (GReader.mk (Gfault.mk r14.2.1) x0_.made x0_.in_ r14.2.2)).bind fun r17 =>
  some ((GPair.mk r5.1 r8.1 r11.1 r14.1 r17.1), (r17.2.1, r17.2.2))
theorem zeR (F0 : Frz) (w : World) (hF0 : F0.At w) (x0_ : GReader) (g0_ : Nat) (v0_2 : Value) (hO : Hp w (fps [.row g0_ 160 [.int .i64 x0_.fault.first, .bool x0_.made, v0_2, .int .i64 x0_.at_], .sl v0_2 5 1 x0_.in_.length (x0_.in_.flatMap (eK .u8))]) [.row g0_ 160 [.int .i64 x0_.fault.first, .bool x0_.made, v0_2, .int .i64 x0_.at_], .sl v0_2 5 1 x0_.in_.length (x0_.in_.flatMap (eK .u8))] w) (hA : ∀ g, fps [.row g0_ 160 [.int .i64 x0_.fault.first, .bool x0_.made, v0_2, .int .i64 x0_.at_], .sl v0_2 5 1 x0_.in_.length (x0_.in_.flatMap (eK .u8))] g → ¬ F0.S g) (r : GPair × (Int × Int)) (hr : zbH x0_ = some r) : Calls Tryz.prog 90 #[.pointer (some ⟨g0_, 0, none⟩)] w fun e w' => ∃ (y : Unit), (True) ∧ e = .returned (.agg [.int .i64 r.1.A, .int .i64 r.1.B, .int .i64 r.1.Offset, .int .i64 r.1.Low, .int .i64 r.1.High].toArray) ∧ FxM F0 w (fps [.row g0_ 160 [.int .i64 x0_.fault.first, .bool x0_.made, v0_2, .int .i64 x0_.at_], .sl v0_2 5 1 x0_.in_.length (x0_.in_.flatMap (eK .u8))]) F0 [.row g0_ 160 [.int .i64 r.2.1, .bool x0_.made, v0_2, .int .i64 r.2.2], .sl v0_2 5 1 x0_.in_.length (x0_.in_.flatMap (eK .u8))] w' := by
  have hk := hr; unfold zbH at hk; haveI := zb2 (hO.own (.sl v0_2 5 1 x0_.in_.length (x0_.in_.flatMap (eK .u8))) (by simp)); have hmx0_2 := zch (hO.own (.sl v0_2 5 1 x0_.in_.length (x0_.in_.flatMap (eK .u8))) (by simp)); obtain ⟨S0, F1, rfl, hS0, hp0⟩ := zaM hF0 hO hA; refine zam (hs := [.row g0_ 160 [.int .i64 x0_.fault.first, .bool x0_.made, v0_2, .int .i64 x0_.at_], .sl v0_2 5 1 x0_.in_.length (x0_.in_.flatMap (eK .u8)), .fr F1]) Tryz.func90 rfl rfl rfl hp0 ?_; refine T.sr ?_; refine TL.e (Ew.alloc rfl) ?_; rintro _ _ ⟨g2, rfl, rfl⟩; refine TL.nx ?_; refine TL.e (Ew.alloc rfl) ?_; rintro _ _ ⟨g3, rfl, rfl⟩; refine TL.ns (T.seq ?_); have hq := zae hk; clear hk; obtain ⟨r5, hr5, hk⟩ := hq; (try dsimp only at hk); refine T.region ?_; refine TL.run 1 rfl ?_; refine TL.e (Ew.ak [2, 3, 4, 0, 1] [.row g0_ 160 [.int .i64 x0_.fault.first, .bool x0_.made, v0_2, .int .i64 x0_.at_], .sl v0_2 5 1 x0_.in_.length (x0_.in_.flatMap (eK .u8))] [.row g3 68 [.int .i64 0, .int .i64 0, .int .i64 0, .int .i64 0, .int .i64 0], .row g2 68 [.int .i64 0, .int .i64 0, .int .i64 0, .int .i64 0, .int .i64 0]] rfl rfl rfl rfl (by decide) (fun w hw hw2 hF => zan _ w hF x0_ g0_ v0_2 hw2.takes.1 hw2.takes.2 r5 hr5)) ?_; rintro _ _ ⟨⟨⟩, -, rfl, rfl⟩; dsimp only [List.cons_append, List.nil_append]; refine TL.y (Yv.fieldAddr rfl rfl) ?_; refine TL.e0 (Ew.ar 3 rfl rfl rfl rfl (by simp)) ?_; rintro _ _ ⟨rfl, rfl⟩; refine TL.ns (T.seq ?_); have hq := zae hk; clear hk; obtain ⟨r8, hr8, hk⟩ := hq; (try dsimp only at hk); refine T.region ?_; refine TL.run 1 rfl ?_; refine TL.e (Ew.ak [0, 1, 2, 3, 4] [.row g0_ 160 [.int .i64 r5.2.1, .bool x0_.made, v0_2, .int .i64 r5.2.2], .sl v0_2 5 1 x0_.in_.length (x0_.in_.flatMap (eK .u8))] [.row g3 68 [.int .i64 r5.1, .int .i64 0, .int .i64 0, .int .i64 0, .int .i64 0], .row g2 68 [.int .i64 0, .int .i64 0, .int .i64 0, .int .i64 0, .int .i64 0]] rfl rfl rfl rfl (by decide) (fun w hw hw2 hF => zan _ w hF (GReader.mk (Gfault.mk r5.2.1) x0_.made x0_.in_ r5.2.2) g0_ v0_2 hw2.takes.1 hw2.takes.2 r8 hr8)) ?_; rintro _ _ ⟨⟨⟩, -, rfl, rfl⟩; dsimp only [List.cons_append, List.nil_append]; refine TL.y (Yv.fieldAddr rfl rfl) ?_; refine TL.e0 (Ew.ar 3 rfl rfl rfl rfl (by simp)) ?_; rintro _ _ ⟨rfl, rfl⟩; refine TL.ns (T.seq ?_); have hq := zae hk; clear hk; obtain ⟨r11, hr11, hk⟩ := hq; (try dsimp only at hk); refine T.region ?_; refine TL.run 1 rfl ?_; refine TL.e (Ew.ak [0, 1, 2, 3, 4] [.row g0_ 160 [.int .i64 r8.2.1, .bool x0_.made, v0_2, .int .i64 r8.2.2], .sl v0_2 5 1 x0_.in_.length (x0_.in_.flatMap (eK .u8))] [.row g3 68 [.int .i64 r5.1, .int .i64 r8.1, .int .i64 0, .int .i64 0, .int .i64 0], .row g2 68 [.int .i64 0, .int .i64 0, .int .i64 0, .int .i64 0, .int .i64 0]] rfl rfl rfl rfl (by decide) (fun w hw hw2 hF => zdv _ w hF (GReader.mk (Gfault.mk r8.2.1) x0_.made x0_.in_ r8.2.2) g0_ v0_2 hw2.takes.1 hw2.takes.2 r11 hr11)) ?_; rintro _ _ ⟨⟨⟩, -, rfl, rfl⟩; dsimp only [List.cons_append, List.nil_append]; refine TL.y (Yv.fieldAddr rfl rfl) ?_; refine TL.e0 (Ew.ar 3 rfl rfl rfl rfl (by simp)) ?_; rintro _ _ ⟨rfl, rfl⟩; refine TL.ns (T.seq ?_); have hq := zae hk; clear hk; obtain ⟨r14, hr14, hk⟩ := hq; (try dsimp only at hk); refine T.region ?_; refine TL.run 1 rfl ?_; refine TL.e (Ew.ak [0, 1, 2, 3, 4] [.row g0_ 160 [.int .i64 r11.2.1, .bool x0_.made, v0_2, .int .i64 r11.2.2], .sl v0_2 5 1 x0_.in_.length (x0_.in_.flatMap (eK .u8))] [.row g3 68 [.int .i64 r5.1, .int .i64 r8.1, .int .i64 r11.1, .int .i64 0, .int .i64 0], .row g2 68 [.int .i64 0, .int .i64 0, .int .i64 0, .int .i64 0, .int .i64 0]] rfl rfl rfl rfl (by decide) (fun w hw hw2 hF => zan _ w hF (GReader.mk (Gfault.mk r11.2.1) x0_.made x0_.in_ r11.2.2) g0_ v0_2 hw2.takes.1 hw2.takes.2 r14 hr14)) ?_; rintro _ _ ⟨⟨⟩, -, rfl, rfl⟩; dsimp only [List.cons_append, List.nil_append]; refine TL.y (Yv.fieldAddr rfl rfl) ?_; refine TL.e0 (Ew.ar 3 rfl rfl rfl rfl (by simp)) ?_; rintro _ _ ⟨rfl, rfl⟩; refine TL.ns (T.seq ?_); have hq := zae hk; clear hk; obtain ⟨r17, hr17, hk⟩ := hq; (try dsimp only at hk); refine T.region ?_; refine TL.run 1 rfl ?_; refine TL.e (Ew.ak [0, 1, 2, 3, 4] [.row g0_ 160 [.int .i64 r14.2.1, .bool x0_.made, v0_2, .int .i64 r14.2.2], .sl v0_2 5 1 x0_.in_.length (x0_.in_.flatMap (eK .u8))] [.row g3 68 [.int .i64 r5.1, .int .i64 r8.1, .int .i64 r11.1, .int .i64 r14.1, .int .i64 0], .row g2 68 [.int .i64 0, .int .i64 0, .int .i64 0, .int .i64 0, .int .i64 0]] rfl rfl rfl rfl (by decide) (fun w hw hw2 hF => zan _ w hF (GReader.mk (Gfault.mk r14.2.1) x0_.made x0_.in_ r14.2.2) g0_ v0_2 hw2.takes.1 hw2.takes.2 r17 hr17)) ?_; rintro _ _ ⟨⟨⟩, -, rfl, rfl⟩; dsimp only [List.cons_append, List.nil_append]; refine TL.y (Yv.fieldAddr rfl rfl) ?_; refine TL.e0 (Ew.ar 3 rfl rfl rfl rfl (by simp)) ?_; rintro _ _ ⟨rfl, rfl⟩; refine TL.nx ?_; refine TL.y (Yv.am 3 rfl rfl rfl rfl) ?_; refine TL.e0 (Ew.ah 4 rfl rfl rfl rfl rfl rfl) ?_; rintro _ _ ⟨rfl, rfl⟩; refine TL.ns (T.ret ?_); obtain rfl := Option.some.inj hk; exact K.aO 4 rfl rfl rfl rfl (fun w' hw => ⟨⟨⟩, trivial, rfl, FxM.of (hw.pick (idx := [0, 1, 2]) rfl (by decide)) hS0 (Frz.Le.refl _)⟩)
def zbI (x0_ : GReader) : Option (GLoad × (Int × Int)) :=
  (zaa x0_).bind fun r5 =>
  (zaa (GReader.mk (Gfault.mk r5.2.1) x0_.made x0_.in_ r5.2.2)).bind fun r8 =>
  (zaa (GReader.mk (Gfault.mk r8.2.1) x0_.made x0_.in_ r8.2.2)).bind fun r11 =>
  (zaa (GReader.mk (Gfault.mk r11.2.1) x0_.made x0_.in_ r11.2.2)).bind fun r14 =>
  (zaa (GReader.mk (Gfault.mk r14.2.1) x0_.made x0_.in_ r14.2.2)).bind fun r17 =>
  some ((GLoad.mk r5.1 r8.1 r11.1 r14.1 r17.1), (r17.2.1, r17.2.2))
theorem zeV (F0 : Frz) (w : World) (hF0 : F0.At w) (x0_ : GReader) (g0_ : Nat) (v0_2 : Value) (hO : Hp w (fps [.row g0_ 160 [.int .i64 x0_.fault.first, .bool x0_.made, v0_2, .int .i64 x0_.at_], .sl v0_2 5 1 x0_.in_.length (x0_.in_.flatMap (eK .u8))]) [.row g0_ 160 [.int .i64 x0_.fault.first, .bool x0_.made, v0_2, .int .i64 x0_.at_], .sl v0_2 5 1 x0_.in_.length (x0_.in_.flatMap (eK .u8))] w) (hA : ∀ g, fps [.row g0_ 160 [.int .i64 x0_.fault.first, .bool x0_.made, v0_2, .int .i64 x0_.at_], .sl v0_2 5 1 x0_.in_.length (x0_.in_.flatMap (eK .u8))] g → ¬ F0.S g) (r : GLoad × (Int × Int)) (hr : zbI x0_ = some r) : Calls Tryz.prog 92 #[.pointer (some ⟨g0_, 0, none⟩)] w fun e w' => ∃ (y : Unit), (True) ∧ e = .returned (.agg [.int .i64 r.1.To, .int .i64 r.1.From, .int .i64 r.1.Weight, .int .i64 r.1.Low, .int .i64 r.1.High].toArray) ∧ FxM F0 w (fps [.row g0_ 160 [.int .i64 x0_.fault.first, .bool x0_.made, v0_2, .int .i64 x0_.at_], .sl v0_2 5 1 x0_.in_.length (x0_.in_.flatMap (eK .u8))]) F0 [.row g0_ 160 [.int .i64 r.2.1, .bool x0_.made, v0_2, .int .i64 r.2.2], .sl v0_2 5 1 x0_.in_.length (x0_.in_.flatMap (eK .u8))] w' := by
  have hk := hr; unfold zbI at hk; haveI := zb2 (hO.own (.sl v0_2 5 1 x0_.in_.length (x0_.in_.flatMap (eK .u8))) (by simp)); have hmx0_2 := zch (hO.own (.sl v0_2 5 1 x0_.in_.length (x0_.in_.flatMap (eK .u8))) (by simp)); obtain ⟨S0, F1, rfl, hS0, hp0⟩ := zaM hF0 hO hA; refine zam (hs := [.row g0_ 160 [.int .i64 x0_.fault.first, .bool x0_.made, v0_2, .int .i64 x0_.at_], .sl v0_2 5 1 x0_.in_.length (x0_.in_.flatMap (eK .u8)), .fr F1]) Tryz.func92 rfl rfl rfl hp0 ?_; refine T.sr ?_; refine TL.e (Ew.alloc rfl) ?_; rintro _ _ ⟨g2, rfl, rfl⟩; refine TL.nx ?_; refine TL.e (Ew.alloc rfl) ?_; rintro _ _ ⟨g3, rfl, rfl⟩; refine TL.ns (T.seq ?_); have hq := zae hk; clear hk; obtain ⟨r5, hr5, hk⟩ := hq; (try dsimp only at hk); refine T.region ?_; refine TL.run 1 rfl ?_; refine TL.e (Ew.ak [2, 3, 4, 0, 1] [.row g0_ 160 [.int .i64 x0_.fault.first, .bool x0_.made, v0_2, .int .i64 x0_.at_], .sl v0_2 5 1 x0_.in_.length (x0_.in_.flatMap (eK .u8))] [.row g3 70 [.int .i64 0, .int .i64 0, .int .i64 0, .int .i64 0, .int .i64 0], .row g2 70 [.int .i64 0, .int .i64 0, .int .i64 0, .int .i64 0, .int .i64 0]] rfl rfl rfl rfl (by decide) (fun w hw hw2 hF => zan _ w hF x0_ g0_ v0_2 hw2.takes.1 hw2.takes.2 r5 hr5)) ?_; rintro _ _ ⟨⟨⟩, -, rfl, rfl⟩; dsimp only [List.cons_append, List.nil_append]; refine TL.y (Yv.fieldAddr rfl rfl) ?_; refine TL.e0 (Ew.ar 3 rfl rfl rfl rfl (by simp)) ?_; rintro _ _ ⟨rfl, rfl⟩; refine TL.ns (T.seq ?_); have hq := zae hk; clear hk; obtain ⟨r8, hr8, hk⟩ := hq; (try dsimp only at hk); refine T.region ?_; refine TL.run 1 rfl ?_; refine TL.e (Ew.ak [0, 1, 2, 3, 4] [.row g0_ 160 [.int .i64 r5.2.1, .bool x0_.made, v0_2, .int .i64 r5.2.2], .sl v0_2 5 1 x0_.in_.length (x0_.in_.flatMap (eK .u8))] [.row g3 70 [.int .i64 r5.1, .int .i64 0, .int .i64 0, .int .i64 0, .int .i64 0], .row g2 70 [.int .i64 0, .int .i64 0, .int .i64 0, .int .i64 0, .int .i64 0]] rfl rfl rfl rfl (by decide) (fun w hw hw2 hF => zan _ w hF (GReader.mk (Gfault.mk r5.2.1) x0_.made x0_.in_ r5.2.2) g0_ v0_2 hw2.takes.1 hw2.takes.2 r8 hr8)) ?_; rintro _ _ ⟨⟨⟩, -, rfl, rfl⟩; dsimp only [List.cons_append, List.nil_append]; refine TL.y (Yv.fieldAddr rfl rfl) ?_; refine TL.e0 (Ew.ar 3 rfl rfl rfl rfl (by simp)) ?_; rintro _ _ ⟨rfl, rfl⟩; refine TL.ns (T.seq ?_); have hq := zae hk; clear hk; obtain ⟨r11, hr11, hk⟩ := hq; (try dsimp only at hk); refine T.region ?_; refine TL.run 1 rfl ?_; refine TL.e (Ew.ak [0, 1, 2, 3, 4] [.row g0_ 160 [.int .i64 r8.2.1, .bool x0_.made, v0_2, .int .i64 r8.2.2], .sl v0_2 5 1 x0_.in_.length (x0_.in_.flatMap (eK .u8))] [.row g3 70 [.int .i64 r5.1, .int .i64 r8.1, .int .i64 0, .int .i64 0, .int .i64 0], .row g2 70 [.int .i64 0, .int .i64 0, .int .i64 0, .int .i64 0, .int .i64 0]] rfl rfl rfl rfl (by decide) (fun w hw hw2 hF => zan _ w hF (GReader.mk (Gfault.mk r8.2.1) x0_.made x0_.in_ r8.2.2) g0_ v0_2 hw2.takes.1 hw2.takes.2 r11 hr11)) ?_; rintro _ _ ⟨⟨⟩, -, rfl, rfl⟩; dsimp only [List.cons_append, List.nil_append]; refine TL.y (Yv.fieldAddr rfl rfl) ?_; refine TL.e0 (Ew.ar 3 rfl rfl rfl rfl (by simp)) ?_; rintro _ _ ⟨rfl, rfl⟩; refine TL.ns (T.seq ?_); have hq := zae hk; clear hk; obtain ⟨r14, hr14, hk⟩ := hq; (try dsimp only at hk); refine T.region ?_; refine TL.run 1 rfl ?_; refine TL.e (Ew.ak [0, 1, 2, 3, 4] [.row g0_ 160 [.int .i64 r11.2.1, .bool x0_.made, v0_2, .int .i64 r11.2.2], .sl v0_2 5 1 x0_.in_.length (x0_.in_.flatMap (eK .u8))] [.row g3 70 [.int .i64 r5.1, .int .i64 r8.1, .int .i64 r11.1, .int .i64 0, .int .i64 0], .row g2 70 [.int .i64 0, .int .i64 0, .int .i64 0, .int .i64 0, .int .i64 0]] rfl rfl rfl rfl (by decide) (fun w hw hw2 hF => zan _ w hF (GReader.mk (Gfault.mk r11.2.1) x0_.made x0_.in_ r11.2.2) g0_ v0_2 hw2.takes.1 hw2.takes.2 r14 hr14)) ?_; rintro _ _ ⟨⟨⟩, -, rfl, rfl⟩; dsimp only [List.cons_append, List.nil_append]; refine TL.y (Yv.fieldAddr rfl rfl) ?_; refine TL.e0 (Ew.ar 3 rfl rfl rfl rfl (by simp)) ?_; rintro _ _ ⟨rfl, rfl⟩; refine TL.ns (T.seq ?_); have hq := zae hk; clear hk; obtain ⟨r17, hr17, hk⟩ := hq; (try dsimp only at hk); refine T.region ?_; refine TL.run 1 rfl ?_; refine TL.e (Ew.ak [0, 1, 2, 3, 4] [.row g0_ 160 [.int .i64 r14.2.1, .bool x0_.made, v0_2, .int .i64 r14.2.2], .sl v0_2 5 1 x0_.in_.length (x0_.in_.flatMap (eK .u8))] [.row g3 70 [.int .i64 r5.1, .int .i64 r8.1, .int .i64 r11.1, .int .i64 r14.1, .int .i64 0], .row g2 70 [.int .i64 0, .int .i64 0, .int .i64 0, .int .i64 0, .int .i64 0]] rfl rfl rfl rfl (by decide) (fun w hw hw2 hF => zan _ w hF (GReader.mk (Gfault.mk r14.2.1) x0_.made x0_.in_ r14.2.2) g0_ v0_2 hw2.takes.1 hw2.takes.2 r17 hr17)) ?_; rintro _ _ ⟨⟨⟩, -, rfl, rfl⟩; dsimp only [List.cons_append, List.nil_append]; refine TL.y (Yv.fieldAddr rfl rfl) ?_; refine TL.e0 (Ew.ar 3 rfl rfl rfl rfl (by simp)) ?_; rintro _ _ ⟨rfl, rfl⟩; refine TL.nx ?_; refine TL.y (Yv.am 3 rfl rfl rfl rfl) ?_; refine TL.e0 (Ew.ah 4 rfl rfl rfl rfl rfl rfl) ?_; rintro _ _ ⟨rfl, rfl⟩; refine TL.ns (T.ret ?_); obtain rfl := Option.some.inj hk; exact K.aO 4 rfl rfl rfl rfl (fun w' hw => ⟨⟨⟩, trivial, rfl, FxM.of (hw.pick (idx := [0, 1, 2]) rfl (by decide)) hS0 (Frz.Le.refl _)⟩)
def zbO (x0_ : GReader) : Option (GCap × (Int × Int)) :=
  (zaa x0_).bind fun r5 =>
  (zaa (GReader.mk (Gfault.mk r5.2.1) x0_.made x0_.in_ r5.2.2)).bind fun r8 =>
  (zaa (GReader.mk (Gfault.mk r8.2.1) x0_.made x0_.in_ r8.2.2)).bind fun r11 =>
  (zaa (GReader.mk (Gfault.mk r11.2.1) x0_.made x0_.in_ r11.2.2)).bind fun r14 =>
  some ((GCap.mk r5.1 r8.1 r11.1 r14.1), (r14.2.1, r14.2.2))
theorem ze8 (F0 : Frz) (w : World) (hF0 : F0.At w) (x0_ : GReader) (g0_ : Nat) (v0_2 : Value) (hO : Hp w (fps [.row g0_ 160 [.int .i64 x0_.fault.first, .bool x0_.made, v0_2, .int .i64 x0_.at_], .sl v0_2 5 1 x0_.in_.length (x0_.in_.flatMap (eK .u8))]) [.row g0_ 160 [.int .i64 x0_.fault.first, .bool x0_.made, v0_2, .int .i64 x0_.at_], .sl v0_2 5 1 x0_.in_.length (x0_.in_.flatMap (eK .u8))] w) (hA : ∀ g, fps [.row g0_ 160 [.int .i64 x0_.fault.first, .bool x0_.made, v0_2, .int .i64 x0_.at_], .sl v0_2 5 1 x0_.in_.length (x0_.in_.flatMap (eK .u8))] g → ¬ F0.S g) (r : GCap × (Int × Int)) (hr : zbO x0_ = some r) : Calls Tryz.prog 94 #[.pointer (some ⟨g0_, 0, none⟩)] w fun e w' => ∃ (y : Unit), (True) ∧ e = .returned (.agg [.int .i64 r.1.Station, .int .i64 r.1.Max, .int .i64 r.1.Low, .int .i64 r.1.High].toArray) ∧ FxM F0 w (fps [.row g0_ 160 [.int .i64 x0_.fault.first, .bool x0_.made, v0_2, .int .i64 x0_.at_], .sl v0_2 5 1 x0_.in_.length (x0_.in_.flatMap (eK .u8))]) F0 [.row g0_ 160 [.int .i64 r.2.1, .bool x0_.made, v0_2, .int .i64 r.2.2], .sl v0_2 5 1 x0_.in_.length (x0_.in_.flatMap (eK .u8))] w' := by
  have hk := hr; unfold zbO at hk; haveI := zb2 (hO.own (.sl v0_2 5 1 x0_.in_.length (x0_.in_.flatMap (eK .u8))) (by simp)); have hmx0_2 := zch (hO.own (.sl v0_2 5 1 x0_.in_.length (x0_.in_.flatMap (eK .u8))) (by simp)); obtain ⟨S0, F1, rfl, hS0, hp0⟩ := zaM hF0 hO hA; refine zam (hs := [.row g0_ 160 [.int .i64 x0_.fault.first, .bool x0_.made, v0_2, .int .i64 x0_.at_], .sl v0_2 5 1 x0_.in_.length (x0_.in_.flatMap (eK .u8)), .fr F1]) Tryz.func94 rfl rfl rfl hp0 ?_; refine T.sr ?_; refine TL.e (Ew.alloc rfl) ?_; rintro _ _ ⟨g2, rfl, rfl⟩; refine TL.nx ?_; refine TL.e (Ew.alloc rfl) ?_; rintro _ _ ⟨g3, rfl, rfl⟩; refine TL.ns (T.seq ?_); have hq := zae hk; clear hk; obtain ⟨r5, hr5, hk⟩ := hq; (try dsimp only at hk); refine T.region ?_; refine TL.run 1 rfl ?_; refine TL.e (Ew.ak [2, 3, 4, 0, 1] [.row g0_ 160 [.int .i64 x0_.fault.first, .bool x0_.made, v0_2, .int .i64 x0_.at_], .sl v0_2 5 1 x0_.in_.length (x0_.in_.flatMap (eK .u8))] [.row g3 72 [.int .i64 0, .int .i64 0, .int .i64 0, .int .i64 0], .row g2 72 [.int .i64 0, .int .i64 0, .int .i64 0, .int .i64 0]] rfl rfl rfl rfl (by decide) (fun w hw hw2 hF => zan _ w hF x0_ g0_ v0_2 hw2.takes.1 hw2.takes.2 r5 hr5)) ?_; rintro _ _ ⟨⟨⟩, -, rfl, rfl⟩; dsimp only [List.cons_append, List.nil_append]; refine TL.y (Yv.fieldAddr rfl rfl) ?_; refine TL.e0 (Ew.ar 3 rfl rfl rfl rfl (by simp)) ?_; rintro _ _ ⟨rfl, rfl⟩; refine TL.ns (T.seq ?_); have hq := zae hk; clear hk; obtain ⟨r8, hr8, hk⟩ := hq; (try dsimp only at hk); refine T.region ?_; refine TL.run 1 rfl ?_; refine TL.e (Ew.ak [0, 1, 2, 3, 4] [.row g0_ 160 [.int .i64 r5.2.1, .bool x0_.made, v0_2, .int .i64 r5.2.2], .sl v0_2 5 1 x0_.in_.length (x0_.in_.flatMap (eK .u8))] [.row g3 72 [.int .i64 r5.1, .int .i64 0, .int .i64 0, .int .i64 0], .row g2 72 [.int .i64 0, .int .i64 0, .int .i64 0, .int .i64 0]] rfl rfl rfl rfl (by decide) (fun w hw hw2 hF => zan _ w hF (GReader.mk (Gfault.mk r5.2.1) x0_.made x0_.in_ r5.2.2) g0_ v0_2 hw2.takes.1 hw2.takes.2 r8 hr8)) ?_; rintro _ _ ⟨⟨⟩, -, rfl, rfl⟩; dsimp only [List.cons_append, List.nil_append]; refine TL.y (Yv.fieldAddr rfl rfl) ?_; refine TL.e0 (Ew.ar 3 rfl rfl rfl rfl (by simp)) ?_; rintro _ _ ⟨rfl, rfl⟩; refine TL.ns (T.seq ?_); have hq := zae hk; clear hk; obtain ⟨r11, hr11, hk⟩ := hq; (try dsimp only at hk); refine T.region ?_; refine TL.run 1 rfl ?_; refine TL.e (Ew.ak [0, 1, 2, 3, 4] [.row g0_ 160 [.int .i64 r8.2.1, .bool x0_.made, v0_2, .int .i64 r8.2.2], .sl v0_2 5 1 x0_.in_.length (x0_.in_.flatMap (eK .u8))] [.row g3 72 [.int .i64 r5.1, .int .i64 r8.1, .int .i64 0, .int .i64 0], .row g2 72 [.int .i64 0, .int .i64 0, .int .i64 0, .int .i64 0]] rfl rfl rfl rfl (by decide) (fun w hw hw2 hF => zan _ w hF (GReader.mk (Gfault.mk r8.2.1) x0_.made x0_.in_ r8.2.2) g0_ v0_2 hw2.takes.1 hw2.takes.2 r11 hr11)) ?_; rintro _ _ ⟨⟨⟩, -, rfl, rfl⟩; dsimp only [List.cons_append, List.nil_append]; refine TL.y (Yv.fieldAddr rfl rfl) ?_; refine TL.e0 (Ew.ar 3 rfl rfl rfl rfl (by simp)) ?_; rintro _ _ ⟨rfl, rfl⟩; refine TL.ns (T.seq ?_); have hq := zae hk; clear hk; obtain ⟨r14, hr14, hk⟩ := hq; (try dsimp only at hk); refine T.region ?_; refine TL.run 1 rfl ?_; refine TL.e (Ew.ak [0, 1, 2, 3, 4] [.row g0_ 160 [.int .i64 r11.2.1, .bool x0_.made, v0_2, .int .i64 r11.2.2], .sl v0_2 5 1 x0_.in_.length (x0_.in_.flatMap (eK .u8))] [.row g3 72 [.int .i64 r5.1, .int .i64 r8.1, .int .i64 r11.1, .int .i64 0], .row g2 72 [.int .i64 0, .int .i64 0, .int .i64 0, .int .i64 0]] rfl rfl rfl rfl (by decide) (fun w hw hw2 hF => zan _ w hF (GReader.mk (Gfault.mk r11.2.1) x0_.made x0_.in_ r11.2.2) g0_ v0_2 hw2.takes.1 hw2.takes.2 r14 hr14)) ?_; rintro _ _ ⟨⟨⟩, -, rfl, rfl⟩; dsimp only [List.cons_append, List.nil_append]; refine TL.y (Yv.fieldAddr rfl rfl) ?_; refine TL.e0 (Ew.ar 3 rfl rfl rfl rfl (by simp)) ?_; rintro _ _ ⟨rfl, rfl⟩; refine TL.nx ?_; refine TL.y (Yv.am 3 rfl rfl rfl rfl) ?_; refine TL.e0 (Ew.ah 4 rfl rfl rfl rfl rfl rfl) ?_; rintro _ _ ⟨rfl, rfl⟩; refine TL.ns (T.ret ?_); obtain rfl := Option.some.inj hk; exact K.aO 4 rfl rfl rfl rfl (fun w' hw => ⟨⟨⟩, trivial, rfl, FxM.of (hw.pick (idx := [0, 1, 2]) rfl (by decide)) hS0 (Frz.Le.refl _)⟩)
def zbr (fuel : Nat) (x0_ : GReader) : Option (GDomain × (Int × Int)) :=
  (zaa x0_).bind fun r7 =>
  (zaa (GReader.mk (Gfault.mk r7.2.1) x0_.made x0_.in_ r7.2.2)).bind fun r10 =>
  zaH (fun (s3 : Int × Int) =>
    zaH (fun (s7 : Int × List Int) =>
      some ((GDomain.mk s7.1 s7.2), (s3.1, s3.2)))
    (fun k7 =>
      zcx (fun (next11 : (Int × Int × List Int) → Option (GDomain × (Int × Int))) (s11 : Int × Int × List Int) =>
        (bif decide (s11.1 ≤ 51) then
          grd (0 ≤ wI (s11.1 - 2)) <|
          (bif decide ((andK .i64 (shrK .i64 r10.1 (wI (s11.1 - 2))) 1) = 1) then
            grd (room (s11.2.2 ++ [s11.1]).length 8) <|
            next11 (wI (s11.1 + 1), s11.2.1, (s11.2.2 ++ [s11.1]))
            else
            next11 (wI (s11.1 + 1), s11.2.1, s11.2.2))
          else
          k7 (s11.2.1, s11.2.2))) fuel (2, r7.1, [])))
  (fun k3 =>
    (bif decide (1125899906842624 ≤ r10.1) then
      k3 ((za6 (GReader.mk (Gfault.mk r10.2.1) x0_.made x0_.in_ r10.2.2) 6), r10.2.2)
      else
      k3 (r10.2.1, r10.2.2)))
theorem zet (F0 : Frz) (w : World) (hF0 : F0.At w) (x0_ : GReader) (g0_ : Nat) (v0_2 : Value) (hO : Hp w (fps [.row g0_ 160 [.int .i64 x0_.fault.first, .bool x0_.made, v0_2, .int .i64 x0_.at_], .sl v0_2 5 1 x0_.in_.length (x0_.in_.flatMap (eK .u8))]) [.row g0_ 160 [.int .i64 x0_.fault.first, .bool x0_.made, v0_2, .int .i64 x0_.at_], .sl v0_2 5 1 x0_.in_.length (x0_.in_.flatMap (eK .u8))] w) (hA : ∀ g, fps [.row g0_ 160 [.int .i64 x0_.fault.first, .bool x0_.made, v0_2, .int .i64 x0_.at_], .sl v0_2 5 1 x0_.in_.length (x0_.in_.flatMap (eK .u8))] g → ¬ F0.S g) (fuel : Nat) (r : GDomain × (Int × Int)) (hr : zbr fuel x0_ = some r) : Calls Tryz.prog 88 #[.pointer (some ⟨g0_, 0, none⟩)] w fun e w' => ∃ (y : Value) (G : Frz), (SlC G y 1 (r.1.Channels.map eI)) ∧ e = .returned (.agg [.int .i64 r.1.Station, y].toArray) ∧ FxM F0 w (fps [.row g0_ 160 [.int .i64 x0_.fault.first, .bool x0_.made, v0_2, .int .i64 x0_.at_], .sl v0_2 5 1 x0_.in_.length (x0_.in_.flatMap (eK .u8))]) G [.row g0_ 160 [.int .i64 r.2.1, .bool x0_.made, v0_2, .int .i64 r.2.2], .sl v0_2 5 1 x0_.in_.length (x0_.in_.flatMap (eK .u8))] w' := by
  have hk := hr; unfold zbr at hk; haveI := zb2 (hO.own (.sl v0_2 5 1 x0_.in_.length (x0_.in_.flatMap (eK .u8))) (by simp)); have hmx0_2 := zch (hO.own (.sl v0_2 5 1 x0_.in_.length (x0_.in_.flatMap (eK .u8))) (by simp)); obtain ⟨S0, F1, rfl, hS0, hp0⟩ := zaM hF0 hO hA; refine zam (hs := [.row g0_ 160 [.int .i64 x0_.fault.first, .bool x0_.made, v0_2, .int .i64 x0_.at_], .sl v0_2 5 1 x0_.in_.length (x0_.in_.flatMap (eK .u8)), .fr F1]) Tryz.func88 rfl rfl rfl hp0 ?_; refine T.sr ?_; refine TL.e (Ew.alloc rfl) ?_; rintro _ _ ⟨g2, rfl, rfl⟩; refine TL.ns (T.seq ?_); have hq := zae hk; clear hk; obtain ⟨r7, hr7, hk⟩ := hq; (try dsimp only at hk); refine T.region ?_; refine TL.run 1 rfl ?_; refine TL.e (Ew.ak [1, 2, 3, 0] [.row g0_ 160 [.int .i64 x0_.fault.first, .bool x0_.made, v0_2, .int .i64 x0_.at_], .sl v0_2 5 1 x0_.in_.length (x0_.in_.flatMap (eK .u8))] [.row g2 66 [.int .i64 0, (.slice none 0 0)]] rfl rfl rfl rfl (by decide) (fun w hw hw2 hF => zan _ w hF x0_ g0_ v0_2 hw2.takes.1 hw2.takes.2 r7 hr7)) ?_; rintro _ _ ⟨⟨⟩, -, rfl, rfl⟩; dsimp only [List.cons_append, List.nil_append]; refine TL.y (Yv.build rfl rfl) ?_; refine TL.e (Ew.alloc rfl) ?_; rintro _ _ ⟨g3, rfl, rfl⟩; refine TL.slNil 3 1 ?_; refine TL.e0 (Ew.ah 1 rfl rfl rfl rfl rfl rfl) ?_; rintro _ _ ⟨rfl, rfl⟩; refine TL.slNil 3 1 ?_; refine TL.ns (T.seq ?_); have hq := zae hk; clear hk; obtain ⟨r10, hr10, hk⟩ := hq; (try dsimp only at hk); refine T.region ?_; refine TL.run 1 rfl ?_; refine TL.e (Ew.ak [3, 4, 5, 0, 1, 2, 6] [.row g0_ 160 [.int .i64 r7.2.1, .bool x0_.made, v0_2, .int .i64 r7.2.2], .sl v0_2 5 1 x0_.in_.length (x0_.in_.flatMap (eK .u8))] [.sl (.slice none 0 0) 3 1 ([] : List Int).length ([].flatMap eI), .sl (.slice none 0 0) 3 1 ([] : List Int).length ([].flatMap eI), .row g3 66 [.int .i64 r7.1, (.slice none 0 0)], .row g2 66 [.int .i64 0, (.slice none 0 0)]] rfl rfl rfl rfl (by decide) (fun w hw hw2 hF => zan _ w hF (GReader.mk (Gfault.mk r7.2.1) x0_.made x0_.in_ r7.2.2) g0_ v0_2 hw2.takes.1 hw2.takes.2 r10 hr10)) ?_; rintro _ _ ⟨⟨⟩, -, rfl, rfl⟩; dsimp only [List.cons_append, List.nil_append]; refine TL.run 1 rfl ?_; refine TL.ns (T.seq (T.sr ?_)); refine TL.run 2 rfl ?_; refine TL.ns ?_; have hq := zaf hk; clear hk; obtain ⟨k3, hk3, hk⟩ := hq; (try dsimp only at hk); refine T.af (ι := Int × Int) (fun z => [(2, .pointer (some ⟨g2, 0, none⟩)), (3, .pointer (some ⟨g3, 0, none⟩)), (4, .int .i64 r10.1)]) (fun z => [.row g0_ 160 [.int .i64 z.1, .bool x0_.made, v0_2, .int .i64 z.2], .sl v0_2 5 1 x0_.in_.length (x0_.in_.flatMap (eK .u8)), .sl (.slice none 0 0) 3 1 ([] : List Int).length ([].flatMap eI), .row g3 66 [.int .i64 r7.1, (.slice none 0 0)], .row g2 66 [.int .i64 0, (.slice none 0 0)], .fr F1]) (fun z => k3 (z.1, z.2) = some r) ?_ ?_
  · refine T.cond rfl (fun h4 => ?_) (fun h4 => ?_)
    · have p4 := of_decide_eq_true h4; replace hk := zac hk h4; refine T.region ?_; refine TL.run 1 rfl ?_; refine TL.e (Ew.ak [0, 1, 2, 3, 4, 5, 6] [.row g0_ 160 [.int .i64 r10.2.1, .bool x0_.made, v0_2, .int .i64 r10.2.2], .sl v0_2 5 1 x0_.in_.length (x0_.in_.flatMap (eK .u8))] [.sl (.slice none 0 0) 3 1 ([] : List Int).length ([].flatMap eI), .sl (.slice none 0 0) 3 1 ([] : List Int).length ([].flatMap eI), .row g3 66 [.int .i64 r7.1, (.slice none 0 0)], .row g2 66 [.int .i64 0, (.slice none 0 0)]] rfl rfl rfl rfl (by decide) (fun w hw hw2 hF => zdm _ w hF (GReader.mk (Gfault.mk r10.2.1) x0_.made x0_.in_ r10.2.2) g0_ v0_2 6 hw2.takes.1 hw2.takes.2)) ?_; rintro _ _ ⟨⟨⟩, -, rfl, rfl⟩; dsimp only [List.cons_append, List.nil_append]; refine TL.nil ?_; refine K.pick [0, 1, 3, 5, 6, 2] rfl (by decide) ?_; exact K.ai ((za6 (GReader.mk (Gfault.mk r10.2.1) x0_.made x0_.in_ r10.2.2) 6), r10.2.2) hk (.c (.c (.c .nil))) (List.Sublist.refl _)
    · have p4 := of_decide_eq_false h4; replace hk := zab hk h4; refine T.skip ?_; refine K.pick [0, 1, 3, 5, 6, 2] rfl (by decide) ?_; exact K.ai (r10.2.1, r10.2.2) hk (.c (.c (.c .nil))) (List.Sublist.refl _)
  · rintro ⟨c_1, c_2⟩ hk; (try dsimp only at *); rw [← hk3] at hk; (try dsimp only at hk); refine T.seq (T.sr ?_); refine TL.run 1 rfl ?_; refine TL.ns ?_; have hq := zaf hk; clear hk; obtain ⟨k7, hk7, hk⟩ := hq; (try dsimp only at hk); refine T.af (ι := Int × List Int × Value) (fun z => [(2, .pointer (some ⟨g2, 0, none⟩)), (3, .pointer (some ⟨g3, 0, none⟩))]) (fun z => [.sl z.2.2 3 1 z.2.1.length (z.2.1.flatMap eI), .row g3 66 [.int .i64 z.1, z.2.2], .row g0_ 160 [.int .i64 c_1, .bool x0_.made, v0_2, .int .i64 c_2], .sl v0_2 5 1 x0_.in_.length (x0_.in_.flatMap (eK .u8)), .row g2 66 [.int .i64 0, (.slice none 0 0)], .fr F1]) (fun z => k7 (z.1, z.2.1) = some r ∧ OneC z.2.2) ?_ ?_
    · have hq := zdf hk; clear hk; obtain ⟨f11, hf11, hk⟩ := hq; refine T.block ?_; refine T.pick [2, 3, 0, 1, 4, 5] rfl (by decide) ?_; refine T.loop (ι := Nat × Int × Int × List Int × Value) (fun z => [(2, .pointer (some ⟨g2, 0, none⟩)), (3, .pointer (some ⟨g3, 0, none⟩)), (4, .int .i64 r10.1), (5, .int .i64 z.2.1)]) (fun z => [.sl z.2.2.2.2 3 1 z.2.2.2.1.length (z.2.2.2.1.flatMap eI), .row g3 66 [.int .i64 z.2.2.1, z.2.2.2.2], .row g0_ 160 [.int .i64 c_1, .bool x0_.made, v0_2, .int .i64 c_2], .sl v0_2 5 1 x0_.in_.length (x0_.in_.flatMap (eK .u8)), .row g2 66 [.int .i64 0, (.slice none 0 0)], .fr F1]) (fun z => zcx f11 z.1 (z.2.1, z.2.2.1, z.2.2.2.1) = some r ∧ OneC z.2.2.2.2) (fun z => z.1) (fuel, 2, r7.1, [], (.slice none 0 0)) ?_ ?_ ?_ ?_
      · exact ⟨hk, inferInstance⟩
      · exact (.c (.c (.c (.c .nil))))
      · exact List.Sublist.refl _
      · rintro ⟨m_12, c_8, c_9, c_10, vc_10⟩ ⟨hk, oc_10⟩; (try dsimp only at *); have hq := zdz hk; clear hk; obtain ⟨m_12', rfl, hk⟩ := hq; generalize hn11 : zcx f11 m_12' = next11 at hk; rw [← hf11] at hk; (try dsimp only at hk); refine T.seq (T.sr ?_); refine TL.run 2 rfl ?_; refine TL.ns ?_; refine T.cond rfl (fun h13 => ?_) (fun h13 => ?_)
        · have p13 := of_decide_eq_true h13; replace hk := zac hk h13; refine T.skip (K.seq (T.seq (T.block (T.seq ?_)))); have hq : (0 ≤ wI (c_8 - 2)) ∧ _ := zaj hk; clear hk; obtain ⟨g22, hk⟩ := hq; (try dsimp only at hk); refine T.region ?_; refine TL.run 3 rfl ?_; refine TL.y (Yv.shrK (a := r10.1) (b := wI (c_8 - 2)) rfl rfl rfl g22) ?_; refine TL.y (Yv.andK (a := (shrK .i64 r10.1 (wI (c_8 - 2)))) (b := 1) rfl rfl rfl) ?_; refine TL.run 1 rfl ?_; refine TL.ns ?_; refine T.cond rfl (fun h14 => ?_) (fun h14 => ?_)
          · have p14 := of_decide_eq_true h14; replace hk := zac hk h14; have hq : (room (c_10 ++ [c_8]).length 8) ∧ _ := zaj hk; clear hk; obtain ⟨g29, hk⟩ := hq; (try dsimp only at hk); refine T.region ?_; refine TL.y (Yv.fieldAddr rfl rfl) ?_; refine TL.y (Yv.aa 1 rfl rfl rfl rfl) ?_; refine TL.run 1 rfl ?_; refine TL.e (Ew.buildSlice rfl rfl rfl (by decide)) ?_; rintro _ _ ⟨g28, rfl, rfl⟩; refine TL.e (Ew.av 1 0 rfl rfl rfl rfl rfl rfl (zbF (ys := [c_8]) rfl) (zbP (enc := eI) (xs := c_10) (ys := [c_8])) g29 (by decide)) ?_; rintro v29 _ ⟨hv29, rfl⟩; refine TL.y (Yv.fieldAddr rfl rfl) ?_; refine TL.e0 (Ew.ar 2 rfl rfl rfl rfl (by simp)) ?_; rintro _ _ ⟨rfl, rfl⟩; refine TL.nil (K.ac (K.seq (T.region ?_))); refine TL.run 3 rfl ?_; refine TL.nil ?_; rw [← hn11] at hk; refine K.pick [1, 2, 3, 4, 5, 6] rfl (by decide) ?_; exact K.next (m_12', wI (c_8 + 1), c_9, (c_10 ++ [c_8]), v29) ⟨hk, inferInstance⟩ (by dsimp only; omega) (.c (.c (.c (.c .nil)))) (List.Sublist.refl _)
          · have p14 := of_decide_eq_false h14; replace hk := zab hk h14; refine T.skip (K.ac (K.seq (T.region ?_))); refine TL.run 3 rfl ?_; refine TL.nil ?_; rw [← hn11] at hk; exact K.next (m_12', wI (c_8 + 1), c_9, c_10, vc_10) ⟨hk, inferInstance⟩ (by dsimp only; omega) (.c (.c (.c (.c .nil)))) (List.Sublist.refl _)
        · have p13 := of_decide_eq_false h13; replace hk := zab hk h13; refine T.exit (K.ab (K.ab (K.ad ?_))); exact K.ai (c_9, c_10, vc_10) ⟨hk, inferInstance⟩ (.c (.c .nil)) (List.Sublist.refl _)
    · rintro ⟨c_5, c_6, vc_6⟩ ⟨hk, oc_6⟩; (try dsimp only at *); rw [← hk7] at hk; (try dsimp only at hk); refine T.sr ?_; refine TL.y (Yv.am 1 rfl rfl rfl rfl) ?_; refine TL.e0 (Ew.ah 4 rfl rfl rfl rfl rfl rfl) ?_; rintro _ _ ⟨rfl, rfl⟩; refine TL.ns (T.ret ?_); refine K.ay (fun w hw => hw.freezeS (i := 5) (j := 0) (by decide) rfl rfl) ?_; rintro F2 ⟨le1_2, hz2⟩; dsimp only [List.set, List.eraseIdx]; have hf2 := hz2.toF rfl (fun _ => rfl); haveI := hf2.oneC; obtain rfl := Option.some.inj hk; exact K.aO 3 rfl rfl rfl rfl (fun w' hw => ⟨vc_6, F2.toFrz, hf2, rfl, FxM.of (hw.pick (idx := [1, 2, 4]) rfl (by decide)) hS0 le1_2⟩)
def zaB (fuel : Nat) (x0_ : GReader) (limit : Int) : Option (List GDomain × (Int × Int)) :=
  (zat x0_ limit).bind fun r11 =>
  zaH (fun (s4 : List GDomain × Int × Int) =>
    some (s4.1, (s4.2.1, s4.2.2)))
  (fun k4 =>
    grd (r11.1 ≤ 9223372036854775807) <|
    zag (fun (i_9 : Nat) (next8 : (List GDomain × Int × Int) → Option (List GDomain × (Int × Int))) (s8 : List GDomain × Int × Int) =>
      (zbr fuel (GReader.mk (Gfault.mk s8.2.1) x0_.made x0_.in_ s8.2.2)).bind fun r16 =>
      (bif decide (¬ (zak (GReader.mk (Gfault.mk r16.2.1) x0_.made x0_.in_ r16.2.2)) = 0) then
        some ([], (r16.2.1, r16.2.2))
        else
        grd (room (s8.1 ++ [r16.1]).length 32) <|
        next8 ((s8.1 ++ [r16.1]), r16.2.1, r16.2.2)))
    (fun (s8 : List GDomain × Int × Int) =>
      k4 (s8.1, s8.2.1, s8.2.2)) (r11.1.toNat - 0) 0 ([], r11.2.1, r11.2.2))
theorem zb8 (F0 : Frz) (w : World) (hF0 : F0.At w) (x0_ : GReader) (g0_ : Nat) (v0_2 : Value) (limit : Int) (hO : Hp w (fps [.row g0_ 160 [.int .i64 x0_.fault.first, .bool x0_.made, v0_2, .int .i64 x0_.at_], .sl v0_2 5 1 x0_.in_.length (x0_.in_.flatMap (eK .u8))]) [.row g0_ 160 [.int .i64 x0_.fault.first, .bool x0_.made, v0_2, .int .i64 x0_.at_], .sl v0_2 5 1 x0_.in_.length (x0_.in_.flatMap (eK .u8))] w) (hA : ∀ g, fps [.row g0_ 160 [.int .i64 x0_.fault.first, .bool x0_.made, v0_2, .int .i64 x0_.at_], .sl v0_2 5 1 x0_.in_.length (x0_.in_.flatMap (eK .u8))] g → ¬ F0.S g) (fuel : Nat) (r : List GDomain × (Int × Int)) (hr : zaB fuel x0_ limit = some r) : Calls Tryz.prog 87 #[.pointer (some ⟨g0_, 0, none⟩), .int .i64 limit, .func (.func 88) #[] #[]] w fun e w' => ∃ (y : Value × List (List Value)) (G : Frz), (SlD GDomain.rep G y.1 2 y.2 r.1) ∧ e = .returned (y.1) ∧ FxM F0 w (fps [.row g0_ 160 [.int .i64 x0_.fault.first, .bool x0_.made, v0_2, .int .i64 x0_.at_], .sl v0_2 5 1 x0_.in_.length (x0_.in_.flatMap (eK .u8))]) G [.row g0_ 160 [.int .i64 r.2.1, .bool x0_.made, v0_2, .int .i64 r.2.2], .sl v0_2 5 1 x0_.in_.length (x0_.in_.flatMap (eK .u8))] w' := by
  have hk := hr; unfold zaB at hk; haveI := zb2 (hO.own (.sl v0_2 5 1 x0_.in_.length (x0_.in_.flatMap (eK .u8))) (by simp)); have hmx0_2 := zch (hO.own (.sl v0_2 5 1 x0_.in_.length (x0_.in_.flatMap (eK .u8))) (by simp)); obtain ⟨S0, F1, rfl, hS0, hp0⟩ := zaM hF0 hO hA; refine zam (hs := [.row g0_ 160 [.int .i64 x0_.fault.first, .bool x0_.made, v0_2, .int .i64 x0_.at_], .sl v0_2 5 1 x0_.in_.length (x0_.in_.flatMap (eK .u8)), .fr F1]) Tryz.func87 rfl rfl rfl hp0 ?_; refine T.sr ?_; refine TL.run 1 rfl ?_; refine TL.nx ?_; refine TL.run 1 rfl ?_; refine TL.slNil 66 2 ?_; refine TL.ns (T.seq (T.seq ?_)); have hq := zae hk; clear hk; obtain ⟨r11, hr11, hk⟩ := hq; (try dsimp only at hk); refine T.region ?_; refine TL.run 2 rfl ?_; refine TL.e (Ew.ak [1, 2, 3, 0] [.row g0_ 160 [.int .i64 x0_.fault.first, .bool x0_.made, v0_2, .int .i64 x0_.at_], .sl v0_2 5 1 x0_.in_.length (x0_.in_.flatMap (eK .u8))] [.sl (.slice none 0 0) 66 2 ([] : List GDomain).length ([] : List (List Value)).flatten] rfl rfl rfl rfl (by decide) (fun w hw hw2 hF => zbo _ w hF x0_ g0_ v0_2 limit hw2.takes.1 hw2.takes.2 r11 hr11)) ?_; rintro _ _ ⟨⟨⟩, -, rfl, rfl⟩; dsimp only [List.cons_append, List.nil_append]; refine TL.run 1 rfl ?_; refine TL.ns ?_; have hq := zaf hk; clear hk; obtain ⟨k4, hk4, hk⟩ := hq; (try dsimp only at hk); refine T.af (ι := List GDomain × Value × List (List Value) × Int × Int × FzB w (fps [.row g0_ 160 [.int .i64 x0_.fault.first, .bool x0_.made, v0_2, .int .i64 x0_.at_], .sl v0_2 5 1 x0_.in_.length (x0_.in_.flatMap (eK .u8))]) S0) (fun z => [(7, z.2.1)]) (fun z => [.sl z.2.1 66 2 z.1.length z.2.2.1.flatten, .row g0_ 160 [.int .i64 z.2.2.2.1, .bool x0_.made, v0_2, .int .i64 z.2.2.2.2.1], .sl v0_2 5 1 x0_.in_.length (x0_.in_.flatMap (eK .u8)), .fr z.2.2.2.2.2]) (fun z => k4 (z.1, z.2.2.2.1, z.2.2.2.2.1) = some r ∧ OwnD GDomain.rep z.2.2.2.2.2.toFrz 2 z.2.2.1 z.1 ∧ OneC z.2.1 ∧ F1.toFrz.Le z.2.2.2.2.2.toFrz) ?_ ?_
  · have hq : (r11.1 ≤ 9223372036854775807) ∧ _ := zaj hk; clear hk; obtain ⟨gl8, hk⟩ := hq; (try dsimp only at hk); have hq := zah hk; clear hk; obtain ⟨f8, kk8, hf8, hkk8, hk⟩ := hq; refine T.block ?_; refine T.pick [3, 0, 1, 2] rfl (by decide) ?_; refine T.loop (ι := Nat × List GDomain × Value × List (List Value) × Int × Int × FzB w (fps [.row g0_ 160 [.int .i64 x0_.fault.first, .bool x0_.made, v0_2, .int .i64 x0_.at_], .sl v0_2 5 1 x0_.in_.length (x0_.in_.flatMap (eK .u8))]) S0) (fun z => [(0, .pointer (some ⟨g0_, 0, none⟩)), (2, .func (.func 88) #[] #[]), (7, z.2.2.1), (11, .int .i64 r11.1), (12, .int .i64 (z.1 : Int))]) (fun z => [.sl z.2.2.1 66 2 z.2.1.length z.2.2.2.1.flatten, .row g0_ 160 [.int .i64 z.2.2.2.2.1, .bool x0_.made, v0_2, .int .i64 z.2.2.2.2.2.1], .sl v0_2 5 1 x0_.in_.length (x0_.in_.flatMap (eK .u8)), .fr z.2.2.2.2.2.2]) (fun z => zag f8 kk8 (r11.1.toNat - z.1) z.1 (z.2.1, z.2.2.2.2.1, z.2.2.2.2.2.1) = some r ∧ OwnD GDomain.rep z.2.2.2.2.2.2.toFrz 2 z.2.2.2.1 z.2.1 ∧ OneC z.2.2.1 ∧ F1.toFrz.Le z.2.2.2.2.2.2.toFrz) (fun z => r11.1.toNat - z.1) (0, [], (.slice none 0 0), [], r11.2.1, r11.2.2, F1) ?_ ?_ ?_ ?_
    · exact ⟨hk, (OwnD.nil _ _ 2), inferInstance, (Frz.Le.refl _)⟩
    · exact (.c (.c (.c (.c (.c .nil)))))
    · exact List.Sublist.refl _
    · rintro ⟨i_9, l_5, vl_5, cl_5, c_6, c_7, F3⟩ ⟨hk, hl_5, ol_5, le1_3⟩; (try dsimp only at *); refine T.sr ?_; refine TL.run 1 rfl ?_; refine TL.ns (T.seq ?_); refine T.cond rfl (fun h10 => ?_) (fun h10 => ?_)
      · have p10 := of_decide_eq_true h10; rw [zas (by omega)] at hk; generalize hn8 : zag f8 kk8 (r11.1.toNat - (i_9 + 1)) (i_9 + 1) = next8 at hk; rw [← hf8] at hk; (try dsimp only at hk); refine T.skip (K.seq (T.seq (T.block (T.seq ?_)))); have hq := zae hk; clear hk; obtain ⟨r16, hr16, hk⟩ := hq; (try dsimp only at hk); refine T.region ?_; refine TL.run 2 rfl ?_; refine TL.e (Ew.aJ [1, 2, 3, 0] [.row g0_ 160 [.int .i64 c_6, .bool x0_.made, v0_2, .int .i64 c_7], .sl v0_2 5 1 x0_.in_.length (x0_.in_.flatMap (eK .u8))] [.sl vl_5 66 2 l_5.length cl_5.flatten] rfl rfl rfl rfl (by decide) (fun w hw hw2 hF => zet _ w hF (GReader.mk (Gfault.mk c_6) x0_.made x0_.in_ c_7) g0_ v0_2 hw2.takes.1 hw2.takes.2 fuel r16 hr16)) ?_; rintro _ _ ⟨v16_0_1, F4, le3_4, hf16_0_1, rfl, rfl⟩; dsimp only [List.cons_append, List.nil_append]; have le1_4 := le1_3.trans le3_4; haveI := hf16_0_1.oneC; refine TL.e (Ew.alloc rfl) ?_; rintro _ _ ⟨g8, rfl, rfl⟩; refine TL.e0 (Ew.ah 0 rfl rfl rfl rfl rfl rfl) ?_; rintro _ _ ⟨rfl, rfl⟩; refine TL.ns (T.seq (T.sr ?_)); refine TL.run 1 rfl ?_; refine TL.e (Ew.ak [1, 2, 3, 0, 4] [.row g0_ 160 [.int .i64 r16.2.1, .bool x0_.made, v0_2, .int .i64 r16.2.2], .sl v0_2 5 1 x0_.in_.length (x0_.in_.flatMap (eK .u8))] [.row g8 66 [.int .i64 r16.1.Station, v16_0_1], .sl vl_5 66 2 l_5.length cl_5.flatten] rfl rfl rfl rfl (by decide) (fun w hw hw2 hF => zbx _ w hF (GReader.mk (Gfault.mk r16.2.1) x0_.made x0_.in_ r16.2.2) g0_ v0_2 hw2.takes.1 hw2.takes.2)) ?_; rintro _ _ ⟨⟨⟩, -, rfl, rfl⟩; dsimp only [List.cons_append, List.nil_append]; refine TL.run 1 rfl ?_; refine TL.ns ?_; refine T.cond rfl (fun h11 => ?_) (fun h11 => ?_)
        · have p11 := of_decide_eq_true h11; replace hk := zac hk h11; refine T.sr ?_; refine TL.run 1 rfl ?_; refine TL.ns (T.ret (K.then_ret (K.ae (K.then_ret (K.then_ret (K.ae (K.then_ret ?_))))))); obtain rfl := Option.some.inj hk; exact K.aj rfl rfl (fun w' hw => ⟨((.slice none 0 0), []), F4.toFrz, (SlD.nil _ _ 2), rfl, FxM.of (hw.pick (idx := [0, 1, 2]) rfl (by decide)) hS0 le1_4⟩)
        · have p11 := of_decide_eq_false h11; replace hk := zab hk h11; refine T.skip (K.seq ?_); have hq : (room (l_5 ++ [r16.1]).length 32) ∧ _ := zaj hk; clear hk; obtain ⟨g23, hk⟩ := hq; (try dsimp only at hk); refine T.region ?_; refine TL.run 1 rfl ?_; refine TL.y (Yv.am 3 rfl rfl rfl rfl) ?_; refine TL.e (Ew.buildSlice rfl rfl rfl (by decide)) ?_; rintro _ _ ⟨g22, rfl, rfl⟩; have hl22 : OwnD GDomain.rep F4.toFrz 2 [[.int .i64 r16.1.Station, v16_0_1]] [r16.1] := (OwnD.snoc (OwnD.nil _ _ 2) ⟨_, rfl, hf16_0_1⟩ rfl); refine TL.e (Ew.av 5 0 rfl rfl rfl rfl rfl rfl (zbF (ys := [r16.1]) rfl) (zdo (cs := cl_5) (ds := [[.int .i64 r16.1.Station, v16_0_1]])) g23 (by decide)) ?_; rintro v23 _ ⟨hv23, rfl⟩; have ho23 : OwnD GDomain.rep F4.toFrz 2 (cl_5 ++ [[.int .i64 r16.1.Station, v16_0_1]]) (l_5 ++ [r16.1]) := (OwnD.snoc (OwnD.mono (rep := GDomain.rep) (fun _ _ _ _ => GDomain.mono) hl_5 le3_4) ⟨_, rfl, hf16_0_1⟩ rfl); refine TL.run 1 rfl ?_; refine TL.nil (K.ac (K.seq (T.region ?_))); refine TL.y (Yv.ao rfl rfl rfl (by omega)) ?_; refine TL.run 1 rfl ?_; refine TL.nil ?_; rw [← hn8] at hk; refine K.pick [5, 1, 2, 3] rfl (by decide) ?_; exact K.next ((i_9 + 1), (l_5 ++ [r16.1]), v23, (cl_5 ++ [[.int .i64 r16.1.Station, v16_0_1]]), r16.2.1, r16.2.2, F4) ⟨hk, ho23, inferInstance, le1_4⟩ (by dsimp only; omega) (.c (.c (.c (.c (.c .nil))))) (List.Sublist.refl _)
      · have p10 := of_decide_eq_false h10; rw [zar (by omega), ← hkk8] at hk; (try dsimp only at hk); refine T.exit (K.ab (K.ab (K.ad ?_))); exact K.ai (l_5, vl_5, cl_5, c_6, c_7, F3) ⟨hk, hl_5, inferInstance, le1_3⟩ (.c .nil) (List.Sublist.refl _)
  · rintro ⟨l_1, vl_1, cl_1, c_2, c_3, F2⟩ ⟨hk, hl_1, ol_1, le1_2⟩; (try dsimp only at *); rw [← hk4] at hk; (try dsimp only at hk); refine T.sr ?_; refine TL.run 2 rfl ?_; refine TL.ns (T.ret ?_); refine K.ay (fun w hw => hw.freezeS (i := 3) (j := 0) (by decide) rfl rfl) ?_; rintro F5 ⟨le2_5, hz5⟩; dsimp only [List.set, List.eraseIdx]; have le1_5 := le1_2.trans le2_5; have hf5 := hz5.toD (OwnD.mono (rep := GDomain.rep) (fun _ _ _ _ => GDomain.mono) hl_1 le2_5) rfl; haveI := hf5.1.oneC; obtain rfl := Option.some.inj hk; exact K.aj rfl rfl (fun w' hw => ⟨(vl_1, cl_1), F5.toFrz, hf5, rfl, FxM.of (hw.pick (idx := [0, 1, 2]) rfl (by decide)) hS0 le1_5⟩)
def zaz (x0_ : GReader) (limit : Int) : Option (List GPair × (Int × Int)) :=
  (zat x0_ limit).bind fun r11 =>
  zaH (fun (s4 : List GPair × Int × Int) =>
    some (s4.1, (s4.2.1, s4.2.2)))
  (fun k4 =>
    grd (r11.1 ≤ 9223372036854775807) <|
    zag (fun (i_9 : Nat) (next8 : (List GPair × Int × Int) → Option (List GPair × (Int × Int))) (s8 : List GPair × Int × Int) =>
      (zbH (GReader.mk (Gfault.mk s8.2.1) x0_.made x0_.in_ s8.2.2)).bind fun r16 =>
      (bif decide (¬ (zak (GReader.mk (Gfault.mk r16.2.1) x0_.made x0_.in_ r16.2.2)) = 0) then
        some ([], (r16.2.1, r16.2.2))
        else
        grd (room (s8.1 ++ [r16.1]).length 40) <|
        next8 ((s8.1 ++ [r16.1]), r16.2.1, r16.2.2)))
    (fun (s8 : List GPair × Int × Int) =>
      k4 (s8.1, s8.2.1, s8.2.2)) (r11.1.toNat - 0) 0 ([], r11.2.1, r11.2.2))
theorem zcr (F0 : Frz) (w : World) (hF0 : F0.At w) (x0_ : GReader) (g0_ : Nat) (v0_2 : Value) (limit : Int) (hO : Hp w (fps [.row g0_ 160 [.int .i64 x0_.fault.first, .bool x0_.made, v0_2, .int .i64 x0_.at_], .sl v0_2 5 1 x0_.in_.length (x0_.in_.flatMap (eK .u8))]) [.row g0_ 160 [.int .i64 x0_.fault.first, .bool x0_.made, v0_2, .int .i64 x0_.at_], .sl v0_2 5 1 x0_.in_.length (x0_.in_.flatMap (eK .u8))] w) (hA : ∀ g, fps [.row g0_ 160 [.int .i64 x0_.fault.first, .bool x0_.made, v0_2, .int .i64 x0_.at_], .sl v0_2 5 1 x0_.in_.length (x0_.in_.flatMap (eK .u8))] g → ¬ F0.S g) (r : List GPair × (Int × Int)) (hr : zaz x0_ limit = some r) : Calls Tryz.prog 89 #[.pointer (some ⟨g0_, 0, none⟩), .int .i64 limit, .func (.func 90) #[] #[]] w fun e w' => ∃ (y : Value) (G : Frz), (SlC G y 5 (r.1.map GPair.enc)) ∧ e = .returned (y) ∧ FxM F0 w (fps [.row g0_ 160 [.int .i64 x0_.fault.first, .bool x0_.made, v0_2, .int .i64 x0_.at_], .sl v0_2 5 1 x0_.in_.length (x0_.in_.flatMap (eK .u8))]) G [.row g0_ 160 [.int .i64 r.2.1, .bool x0_.made, v0_2, .int .i64 r.2.2], .sl v0_2 5 1 x0_.in_.length (x0_.in_.flatMap (eK .u8))] w' := by
  have hk := hr; unfold zaz at hk; haveI := zb2 (hO.own (.sl v0_2 5 1 x0_.in_.length (x0_.in_.flatMap (eK .u8))) (by simp)); have hmx0_2 := zch (hO.own (.sl v0_2 5 1 x0_.in_.length (x0_.in_.flatMap (eK .u8))) (by simp)); obtain ⟨S0, F1, rfl, hS0, hp0⟩ := zaM hF0 hO hA; refine zam (hs := [.row g0_ 160 [.int .i64 x0_.fault.first, .bool x0_.made, v0_2, .int .i64 x0_.at_], .sl v0_2 5 1 x0_.in_.length (x0_.in_.flatMap (eK .u8)), .fr F1]) Tryz.func89 rfl rfl rfl hp0 ?_; refine T.sr ?_; refine TL.run 1 rfl ?_; refine TL.nx ?_; refine TL.run 1 rfl ?_; refine TL.slNil 68 5 ?_; refine TL.ns (T.seq (T.seq ?_)); have hq := zae hk; clear hk; obtain ⟨r11, hr11, hk⟩ := hq; (try dsimp only at hk); refine T.region ?_; refine TL.run 2 rfl ?_; refine TL.e (Ew.ak [1, 2, 3, 0] [.row g0_ 160 [.int .i64 x0_.fault.first, .bool x0_.made, v0_2, .int .i64 x0_.at_], .sl v0_2 5 1 x0_.in_.length (x0_.in_.flatMap (eK .u8))] [.sl (.slice none 0 0) 68 5 ([] : List GPair).length ([].flatMap GPair.enc)] rfl rfl rfl rfl (by decide) (fun w hw hw2 hF => zbo _ w hF x0_ g0_ v0_2 limit hw2.takes.1 hw2.takes.2 r11 hr11)) ?_; rintro _ _ ⟨⟨⟩, -, rfl, rfl⟩; dsimp only [List.cons_append, List.nil_append]; refine TL.run 1 rfl ?_; refine TL.ns ?_; have hq := zaf hk; clear hk; obtain ⟨k4, hk4, hk⟩ := hq; (try dsimp only at hk); refine T.af (ι := List GPair × Value × Int × Int) (fun z => [(7, z.2.1)]) (fun z => [.sl z.2.1 68 5 z.1.length (z.1.flatMap GPair.enc), .row g0_ 160 [.int .i64 z.2.2.1, .bool x0_.made, v0_2, .int .i64 z.2.2.2], .sl v0_2 5 1 x0_.in_.length (x0_.in_.flatMap (eK .u8)), .fr F1]) (fun z => k4 (z.1, z.2.2.1, z.2.2.2) = some r ∧ OneC z.2.1) ?_ ?_
  · have hq : (r11.1 ≤ 9223372036854775807) ∧ _ := zaj hk; clear hk; obtain ⟨gl8, hk⟩ := hq; (try dsimp only at hk); have hq := zah hk; clear hk; obtain ⟨f8, kk8, hf8, hkk8, hk⟩ := hq; refine T.block ?_; refine T.pick [3, 0, 1, 2] rfl (by decide) ?_; refine T.loop (ι := Nat × List GPair × Value × Int × Int) (fun z => [(0, .pointer (some ⟨g0_, 0, none⟩)), (2, .func (.func 90) #[] #[]), (7, z.2.2.1), (11, .int .i64 r11.1), (12, .int .i64 (z.1 : Int))]) (fun z => [.sl z.2.2.1 68 5 z.2.1.length (z.2.1.flatMap GPair.enc), .row g0_ 160 [.int .i64 z.2.2.2.1, .bool x0_.made, v0_2, .int .i64 z.2.2.2.2], .sl v0_2 5 1 x0_.in_.length (x0_.in_.flatMap (eK .u8)), .fr F1]) (fun z => zag f8 kk8 (r11.1.toNat - z.1) z.1 (z.2.1, z.2.2.2.1, z.2.2.2.2) = some r ∧ OneC z.2.2.1) (fun z => r11.1.toNat - z.1) (0, [], (.slice none 0 0), r11.2.1, r11.2.2) ?_ ?_ ?_ ?_
    · exact ⟨hk, inferInstance⟩
    · exact (.c (.c (.c (.c (.c .nil)))))
    · exact List.Sublist.refl _
    · rintro ⟨i_9, l_5, vl_5, c_6, c_7⟩ ⟨hk, ol_5⟩; (try dsimp only at *); refine T.sr ?_; refine TL.run 1 rfl ?_; refine TL.ns (T.seq ?_); refine T.cond rfl (fun h10 => ?_) (fun h10 => ?_)
      · have p10 := of_decide_eq_true h10; rw [zas (by omega)] at hk; generalize hn8 : zag f8 kk8 (r11.1.toNat - (i_9 + 1)) (i_9 + 1) = next8 at hk; rw [← hf8] at hk; (try dsimp only at hk); refine T.skip (K.seq (T.seq (T.block (T.seq ?_)))); have hq := zae hk; clear hk; obtain ⟨r16, hr16, hk⟩ := hq; (try dsimp only at hk); refine T.region ?_; refine TL.run 2 rfl ?_; refine TL.e (Ew.ak [1, 2, 3, 0] [.row g0_ 160 [.int .i64 c_6, .bool x0_.made, v0_2, .int .i64 c_7], .sl v0_2 5 1 x0_.in_.length (x0_.in_.flatMap (eK .u8))] [.sl vl_5 68 5 l_5.length (l_5.flatMap GPair.enc)] rfl rfl rfl rfl (by decide) (fun w hw hw2 hF => zeR _ w hF (GReader.mk (Gfault.mk c_6) x0_.made x0_.in_ c_7) g0_ v0_2 hw2.takes.1 hw2.takes.2 r16 hr16)) ?_; rintro _ _ ⟨⟨⟩, -, rfl, rfl⟩; dsimp only [List.cons_append, List.nil_append]; refine TL.e (Ew.alloc rfl) ?_; rintro _ _ ⟨g8, rfl, rfl⟩; refine TL.e0 (Ew.ah 0 rfl rfl rfl rfl rfl rfl) ?_; rintro _ _ ⟨rfl, rfl⟩; refine TL.ns (T.seq (T.sr ?_)); refine TL.run 1 rfl ?_; refine TL.e (Ew.ak [1, 2, 3, 0, 4] [.row g0_ 160 [.int .i64 r16.2.1, .bool x0_.made, v0_2, .int .i64 r16.2.2], .sl v0_2 5 1 x0_.in_.length (x0_.in_.flatMap (eK .u8))] [.row g8 68 [.int .i64 r16.1.A, .int .i64 r16.1.B, .int .i64 r16.1.Offset, .int .i64 r16.1.Low, .int .i64 r16.1.High], .sl vl_5 68 5 l_5.length (l_5.flatMap GPair.enc)] rfl rfl rfl rfl (by decide) (fun w hw hw2 hF => zbx _ w hF (GReader.mk (Gfault.mk r16.2.1) x0_.made x0_.in_ r16.2.2) g0_ v0_2 hw2.takes.1 hw2.takes.2)) ?_; rintro _ _ ⟨⟨⟩, -, rfl, rfl⟩; dsimp only [List.cons_append, List.nil_append]; refine TL.run 1 rfl ?_; refine TL.ns ?_; refine T.cond rfl (fun h11 => ?_) (fun h11 => ?_)
        · have p11 := of_decide_eq_true h11; replace hk := zac hk h11; refine T.sr ?_; refine TL.run 1 rfl ?_; refine TL.ns (T.ret (K.then_ret (K.ae (K.then_ret (K.then_ret (K.ae (K.then_ret ?_))))))); obtain rfl := Option.some.inj hk; exact K.aj rfl rfl (fun w' hw => ⟨(.slice none 0 0), F1.toFrz, (SlC.nil _ 5), rfl, FxM.of (hw.pick (idx := [0, 1, 2]) rfl (by decide)) hS0 (Frz.Le.refl _)⟩)
        · have p11 := of_decide_eq_false h11; replace hk := zab hk h11; refine T.skip (K.seq ?_); have hq : (room (l_5 ++ [r16.1]).length 40) ∧ _ := zaj hk; clear hk; obtain ⟨g23, hk⟩ := hq; (try dsimp only at hk); refine T.region ?_; refine TL.run 1 rfl ?_; refine TL.y (Yv.am 3 rfl rfl rfl rfl) ?_; refine TL.e (Ew.buildSlice rfl rfl rfl (by decide)) ?_; rintro _ _ ⟨g22, rfl, rfl⟩; refine TL.e (Ew.av 5 0 rfl rfl rfl rfl rfl rfl (zbF (ys := [r16.1]) rfl) (zbP (enc := GPair.enc) (xs := l_5) (ys := [r16.1])) g23 (by decide)) ?_; rintro v23 _ ⟨hv23, rfl⟩; refine TL.run 1 rfl ?_; refine TL.nil (K.ac (K.seq (T.region ?_))); refine TL.y (Yv.ao rfl rfl rfl (by omega)) ?_; refine TL.run 1 rfl ?_; refine TL.nil ?_; rw [← hn8] at hk; refine K.pick [5, 1, 2, 3] rfl (by decide) ?_; exact K.next ((i_9 + 1), (l_5 ++ [r16.1]), v23, r16.2.1, r16.2.2) ⟨hk, inferInstance⟩ (by dsimp only; omega) (.c (.c (.c (.c (.c .nil))))) (List.Sublist.refl _)
      · have p10 := of_decide_eq_false h10; rw [zar (by omega), ← hkk8] at hk; (try dsimp only at hk); refine T.exit (K.ab (K.ab (K.ad ?_))); exact K.ai (l_5, vl_5, c_6, c_7) ⟨hk, inferInstance⟩ (.c .nil) (List.Sublist.refl _)
  · rintro ⟨l_1, vl_1, c_2, c_3⟩ ⟨hk, ol_1⟩; (try dsimp only at *); rw [← hk4] at hk; (try dsimp only at hk); refine T.sr ?_; refine TL.run 2 rfl ?_; refine TL.ns (T.ret ?_); refine K.ay (fun w hw => hw.freezeS (i := 3) (j := 0) (by decide) rfl rfl) ?_; rintro F2 ⟨le1_2, hz2⟩; dsimp only [List.set, List.eraseIdx]; have hf2 := hz2.toF rfl GPair.len; haveI := hf2.oneC; obtain rfl := Option.some.inj hk; exact K.aj rfl rfl (fun w' hw => ⟨vl_1, F2.toFrz, hf2, rfl, FxM.of (hw.pick (idx := [0, 1, 2]) rfl (by decide)) hS0 le1_2⟩)
def zay (x0_ : GReader) (limit : Int) : Option (List GLoad × (Int × Int)) :=
  (zat x0_ limit).bind fun r11 =>
  zaH (fun (s4 : List GLoad × Int × Int) =>
    some (s4.1, (s4.2.1, s4.2.2)))
  (fun k4 =>
    grd (r11.1 ≤ 9223372036854775807) <|
    zag (fun (i_9 : Nat) (next8 : (List GLoad × Int × Int) → Option (List GLoad × (Int × Int))) (s8 : List GLoad × Int × Int) =>
      (zbI (GReader.mk (Gfault.mk s8.2.1) x0_.made x0_.in_ s8.2.2)).bind fun r16 =>
      (bif decide (¬ (zak (GReader.mk (Gfault.mk r16.2.1) x0_.made x0_.in_ r16.2.2)) = 0) then
        some ([], (r16.2.1, r16.2.2))
        else
        grd (room (s8.1 ++ [r16.1]).length 40) <|
        next8 ((s8.1 ++ [r16.1]), r16.2.1, r16.2.2)))
    (fun (s8 : List GLoad × Int × Int) =>
      k4 (s8.1, s8.2.1, s8.2.2)) (r11.1.toNat - 0) 0 ([], r11.2.1, r11.2.2))
theorem zcq (F0 : Frz) (w : World) (hF0 : F0.At w) (x0_ : GReader) (g0_ : Nat) (v0_2 : Value) (limit : Int) (hO : Hp w (fps [.row g0_ 160 [.int .i64 x0_.fault.first, .bool x0_.made, v0_2, .int .i64 x0_.at_], .sl v0_2 5 1 x0_.in_.length (x0_.in_.flatMap (eK .u8))]) [.row g0_ 160 [.int .i64 x0_.fault.first, .bool x0_.made, v0_2, .int .i64 x0_.at_], .sl v0_2 5 1 x0_.in_.length (x0_.in_.flatMap (eK .u8))] w) (hA : ∀ g, fps [.row g0_ 160 [.int .i64 x0_.fault.first, .bool x0_.made, v0_2, .int .i64 x0_.at_], .sl v0_2 5 1 x0_.in_.length (x0_.in_.flatMap (eK .u8))] g → ¬ F0.S g) (r : List GLoad × (Int × Int)) (hr : zay x0_ limit = some r) : Calls Tryz.prog 91 #[.pointer (some ⟨g0_, 0, none⟩), .int .i64 limit, .func (.func 92) #[] #[]] w fun e w' => ∃ (y : Value) (G : Frz), (SlC G y 5 (r.1.map GLoad.enc)) ∧ e = .returned (y) ∧ FxM F0 w (fps [.row g0_ 160 [.int .i64 x0_.fault.first, .bool x0_.made, v0_2, .int .i64 x0_.at_], .sl v0_2 5 1 x0_.in_.length (x0_.in_.flatMap (eK .u8))]) G [.row g0_ 160 [.int .i64 r.2.1, .bool x0_.made, v0_2, .int .i64 r.2.2], .sl v0_2 5 1 x0_.in_.length (x0_.in_.flatMap (eK .u8))] w' := by
  have hk := hr; unfold zay at hk; haveI := zb2 (hO.own (.sl v0_2 5 1 x0_.in_.length (x0_.in_.flatMap (eK .u8))) (by simp)); have hmx0_2 := zch (hO.own (.sl v0_2 5 1 x0_.in_.length (x0_.in_.flatMap (eK .u8))) (by simp)); obtain ⟨S0, F1, rfl, hS0, hp0⟩ := zaM hF0 hO hA; refine zam (hs := [.row g0_ 160 [.int .i64 x0_.fault.first, .bool x0_.made, v0_2, .int .i64 x0_.at_], .sl v0_2 5 1 x0_.in_.length (x0_.in_.flatMap (eK .u8)), .fr F1]) Tryz.func91 rfl rfl rfl hp0 ?_; refine T.sr ?_; refine TL.run 1 rfl ?_; refine TL.nx ?_; refine TL.run 1 rfl ?_; refine TL.slNil 70 5 ?_; refine TL.ns (T.seq (T.seq ?_)); have hq := zae hk; clear hk; obtain ⟨r11, hr11, hk⟩ := hq; (try dsimp only at hk); refine T.region ?_; refine TL.run 2 rfl ?_; refine TL.e (Ew.ak [1, 2, 3, 0] [.row g0_ 160 [.int .i64 x0_.fault.first, .bool x0_.made, v0_2, .int .i64 x0_.at_], .sl v0_2 5 1 x0_.in_.length (x0_.in_.flatMap (eK .u8))] [.sl (.slice none 0 0) 70 5 ([] : List GLoad).length ([].flatMap GLoad.enc)] rfl rfl rfl rfl (by decide) (fun w hw hw2 hF => zbo _ w hF x0_ g0_ v0_2 limit hw2.takes.1 hw2.takes.2 r11 hr11)) ?_; rintro _ _ ⟨⟨⟩, -, rfl, rfl⟩; dsimp only [List.cons_append, List.nil_append]; refine TL.run 1 rfl ?_; refine TL.ns ?_; have hq := zaf hk; clear hk; obtain ⟨k4, hk4, hk⟩ := hq; (try dsimp only at hk); refine T.af (ι := List GLoad × Value × Int × Int) (fun z => [(7, z.2.1)]) (fun z => [.sl z.2.1 70 5 z.1.length (z.1.flatMap GLoad.enc), .row g0_ 160 [.int .i64 z.2.2.1, .bool x0_.made, v0_2, .int .i64 z.2.2.2], .sl v0_2 5 1 x0_.in_.length (x0_.in_.flatMap (eK .u8)), .fr F1]) (fun z => k4 (z.1, z.2.2.1, z.2.2.2) = some r ∧ OneC z.2.1) ?_ ?_
  · have hq : (r11.1 ≤ 9223372036854775807) ∧ _ := zaj hk; clear hk; obtain ⟨gl8, hk⟩ := hq; (try dsimp only at hk); have hq := zah hk; clear hk; obtain ⟨f8, kk8, hf8, hkk8, hk⟩ := hq; refine T.block ?_; refine T.pick [3, 0, 1, 2] rfl (by decide) ?_; refine T.loop (ι := Nat × List GLoad × Value × Int × Int) (fun z => [(0, .pointer (some ⟨g0_, 0, none⟩)), (2, .func (.func 92) #[] #[]), (7, z.2.2.1), (11, .int .i64 r11.1), (12, .int .i64 (z.1 : Int))]) (fun z => [.sl z.2.2.1 70 5 z.2.1.length (z.2.1.flatMap GLoad.enc), .row g0_ 160 [.int .i64 z.2.2.2.1, .bool x0_.made, v0_2, .int .i64 z.2.2.2.2], .sl v0_2 5 1 x0_.in_.length (x0_.in_.flatMap (eK .u8)), .fr F1]) (fun z => zag f8 kk8 (r11.1.toNat - z.1) z.1 (z.2.1, z.2.2.2.1, z.2.2.2.2) = some r ∧ OneC z.2.2.1) (fun z => r11.1.toNat - z.1) (0, [], (.slice none 0 0), r11.2.1, r11.2.2) ?_ ?_ ?_ ?_
    · exact ⟨hk, inferInstance⟩
    · exact (.c (.c (.c (.c (.c .nil)))))
    · exact List.Sublist.refl _
    · rintro ⟨i_9, l_5, vl_5, c_6, c_7⟩ ⟨hk, ol_5⟩; (try dsimp only at *); refine T.sr ?_; refine TL.run 1 rfl ?_; refine TL.ns (T.seq ?_); refine T.cond rfl (fun h10 => ?_) (fun h10 => ?_)
      · have p10 := of_decide_eq_true h10; rw [zas (by omega)] at hk; generalize hn8 : zag f8 kk8 (r11.1.toNat - (i_9 + 1)) (i_9 + 1) = next8 at hk; rw [← hf8] at hk; (try dsimp only at hk); refine T.skip (K.seq (T.seq (T.block (T.seq ?_)))); have hq := zae hk; clear hk; obtain ⟨r16, hr16, hk⟩ := hq; (try dsimp only at hk); refine T.region ?_; refine TL.run 2 rfl ?_; refine TL.e (Ew.ak [1, 2, 3, 0] [.row g0_ 160 [.int .i64 c_6, .bool x0_.made, v0_2, .int .i64 c_7], .sl v0_2 5 1 x0_.in_.length (x0_.in_.flatMap (eK .u8))] [.sl vl_5 70 5 l_5.length (l_5.flatMap GLoad.enc)] rfl rfl rfl rfl (by decide) (fun w hw hw2 hF => zeV _ w hF (GReader.mk (Gfault.mk c_6) x0_.made x0_.in_ c_7) g0_ v0_2 hw2.takes.1 hw2.takes.2 r16 hr16)) ?_; rintro _ _ ⟨⟨⟩, -, rfl, rfl⟩; dsimp only [List.cons_append, List.nil_append]; refine TL.e (Ew.alloc rfl) ?_; rintro _ _ ⟨g8, rfl, rfl⟩; refine TL.e0 (Ew.ah 0 rfl rfl rfl rfl rfl rfl) ?_; rintro _ _ ⟨rfl, rfl⟩; refine TL.ns (T.seq (T.sr ?_)); refine TL.run 1 rfl ?_; refine TL.e (Ew.ak [1, 2, 3, 0, 4] [.row g0_ 160 [.int .i64 r16.2.1, .bool x0_.made, v0_2, .int .i64 r16.2.2], .sl v0_2 5 1 x0_.in_.length (x0_.in_.flatMap (eK .u8))] [.row g8 70 [.int .i64 r16.1.To, .int .i64 r16.1.From, .int .i64 r16.1.Weight, .int .i64 r16.1.Low, .int .i64 r16.1.High], .sl vl_5 70 5 l_5.length (l_5.flatMap GLoad.enc)] rfl rfl rfl rfl (by decide) (fun w hw hw2 hF => zbx _ w hF (GReader.mk (Gfault.mk r16.2.1) x0_.made x0_.in_ r16.2.2) g0_ v0_2 hw2.takes.1 hw2.takes.2)) ?_; rintro _ _ ⟨⟨⟩, -, rfl, rfl⟩; dsimp only [List.cons_append, List.nil_append]; refine TL.run 1 rfl ?_; refine TL.ns ?_; refine T.cond rfl (fun h11 => ?_) (fun h11 => ?_)
        · have p11 := of_decide_eq_true h11; replace hk := zac hk h11; refine T.sr ?_; refine TL.run 1 rfl ?_; refine TL.ns (T.ret (K.then_ret (K.ae (K.then_ret (K.then_ret (K.ae (K.then_ret ?_))))))); obtain rfl := Option.some.inj hk; exact K.aj rfl rfl (fun w' hw => ⟨(.slice none 0 0), F1.toFrz, (SlC.nil _ 5), rfl, FxM.of (hw.pick (idx := [0, 1, 2]) rfl (by decide)) hS0 (Frz.Le.refl _)⟩)
        · have p11 := of_decide_eq_false h11; replace hk := zab hk h11; refine T.skip (K.seq ?_); have hq : (room (l_5 ++ [r16.1]).length 40) ∧ _ := zaj hk; clear hk; obtain ⟨g23, hk⟩ := hq; (try dsimp only at hk); refine T.region ?_; refine TL.run 1 rfl ?_; refine TL.y (Yv.am 3 rfl rfl rfl rfl) ?_; refine TL.e (Ew.buildSlice rfl rfl rfl (by decide)) ?_; rintro _ _ ⟨g22, rfl, rfl⟩; refine TL.e (Ew.av 5 0 rfl rfl rfl rfl rfl rfl (zbF (ys := [r16.1]) rfl) (zbP (enc := GLoad.enc) (xs := l_5) (ys := [r16.1])) g23 (by decide)) ?_; rintro v23 _ ⟨hv23, rfl⟩; refine TL.run 1 rfl ?_; refine TL.nil (K.ac (K.seq (T.region ?_))); refine TL.y (Yv.ao rfl rfl rfl (by omega)) ?_; refine TL.run 1 rfl ?_; refine TL.nil ?_; rw [← hn8] at hk; refine K.pick [5, 1, 2, 3] rfl (by decide) ?_; exact K.next ((i_9 + 1), (l_5 ++ [r16.1]), v23, r16.2.1, r16.2.2) ⟨hk, inferInstance⟩ (by dsimp only; omega) (.c (.c (.c (.c (.c .nil))))) (List.Sublist.refl _)
      · have p10 := of_decide_eq_false h10; rw [zar (by omega), ← hkk8] at hk; (try dsimp only at hk); refine T.exit (K.ab (K.ab (K.ad ?_))); exact K.ai (l_5, vl_5, c_6, c_7) ⟨hk, inferInstance⟩ (.c .nil) (List.Sublist.refl _)
  · rintro ⟨l_1, vl_1, c_2, c_3⟩ ⟨hk, ol_1⟩; (try dsimp only at *); rw [← hk4] at hk; (try dsimp only at hk); refine T.sr ?_; refine TL.run 2 rfl ?_; refine TL.ns (T.ret ?_); refine K.ay (fun w hw => hw.freezeS (i := 3) (j := 0) (by decide) rfl rfl) ?_; rintro F2 ⟨le1_2, hz2⟩; dsimp only [List.set, List.eraseIdx]; have hf2 := hz2.toF rfl GLoad.len; haveI := hf2.oneC; obtain rfl := Option.some.inj hk; exact K.aj rfl rfl (fun w' hw => ⟨vl_1, F2.toFrz, hf2, rfl, FxM.of (hw.pick (idx := [0, 1, 2]) rfl (by decide)) hS0 le1_2⟩)
def zaC (x0_ : GReader) (limit : Int) : Option (List GCap × (Int × Int)) :=
  (zat x0_ limit).bind fun r11 =>
  zaH (fun (s4 : List GCap × Int × Int) =>
    some (s4.1, (s4.2.1, s4.2.2)))
  (fun k4 =>
    grd (r11.1 ≤ 9223372036854775807) <|
    zag (fun (i_9 : Nat) (next8 : (List GCap × Int × Int) → Option (List GCap × (Int × Int))) (s8 : List GCap × Int × Int) =>
      (zbO (GReader.mk (Gfault.mk s8.2.1) x0_.made x0_.in_ s8.2.2)).bind fun r16 =>
      (bif decide (¬ (zak (GReader.mk (Gfault.mk r16.2.1) x0_.made x0_.in_ r16.2.2)) = 0) then
        some ([], (r16.2.1, r16.2.2))
        else
        grd (room (s8.1 ++ [r16.1]).length 32) <|
        next8 ((s8.1 ++ [r16.1]), r16.2.1, r16.2.2)))
    (fun (s8 : List GCap × Int × Int) =>
      k4 (s8.1, s8.2.1, s8.2.2)) (r11.1.toNat - 0) 0 ([], r11.2.1, r11.2.2))
theorem zcG (F0 : Frz) (w : World) (hF0 : F0.At w) (x0_ : GReader) (g0_ : Nat) (v0_2 : Value) (limit : Int) (hO : Hp w (fps [.row g0_ 160 [.int .i64 x0_.fault.first, .bool x0_.made, v0_2, .int .i64 x0_.at_], .sl v0_2 5 1 x0_.in_.length (x0_.in_.flatMap (eK .u8))]) [.row g0_ 160 [.int .i64 x0_.fault.first, .bool x0_.made, v0_2, .int .i64 x0_.at_], .sl v0_2 5 1 x0_.in_.length (x0_.in_.flatMap (eK .u8))] w) (hA : ∀ g, fps [.row g0_ 160 [.int .i64 x0_.fault.first, .bool x0_.made, v0_2, .int .i64 x0_.at_], .sl v0_2 5 1 x0_.in_.length (x0_.in_.flatMap (eK .u8))] g → ¬ F0.S g) (r : List GCap × (Int × Int)) (hr : zaC x0_ limit = some r) : Calls Tryz.prog 93 #[.pointer (some ⟨g0_, 0, none⟩), .int .i64 limit, .func (.func 94) #[] #[]] w fun e w' => ∃ (y : Value) (G : Frz), (SlC G y 4 (r.1.map GCap.enc)) ∧ e = .returned (y) ∧ FxM F0 w (fps [.row g0_ 160 [.int .i64 x0_.fault.first, .bool x0_.made, v0_2, .int .i64 x0_.at_], .sl v0_2 5 1 x0_.in_.length (x0_.in_.flatMap (eK .u8))]) G [.row g0_ 160 [.int .i64 r.2.1, .bool x0_.made, v0_2, .int .i64 r.2.2], .sl v0_2 5 1 x0_.in_.length (x0_.in_.flatMap (eK .u8))] w' := by
  have hk := hr; unfold zaC at hk; haveI := zb2 (hO.own (.sl v0_2 5 1 x0_.in_.length (x0_.in_.flatMap (eK .u8))) (by simp)); have hmx0_2 := zch (hO.own (.sl v0_2 5 1 x0_.in_.length (x0_.in_.flatMap (eK .u8))) (by simp)); obtain ⟨S0, F1, rfl, hS0, hp0⟩ := zaM hF0 hO hA; refine zam (hs := [.row g0_ 160 [.int .i64 x0_.fault.first, .bool x0_.made, v0_2, .int .i64 x0_.at_], .sl v0_2 5 1 x0_.in_.length (x0_.in_.flatMap (eK .u8)), .fr F1]) Tryz.func93 rfl rfl rfl hp0 ?_; refine T.sr ?_; refine TL.run 1 rfl ?_; refine TL.nx ?_; refine TL.run 1 rfl ?_; refine TL.slNil 72 4 ?_; refine TL.ns (T.seq (T.seq ?_)); have hq := zae hk; clear hk; obtain ⟨r11, hr11, hk⟩ := hq; (try dsimp only at hk); refine T.region ?_; refine TL.run 2 rfl ?_; refine TL.e (Ew.ak [1, 2, 3, 0] [.row g0_ 160 [.int .i64 x0_.fault.first, .bool x0_.made, v0_2, .int .i64 x0_.at_], .sl v0_2 5 1 x0_.in_.length (x0_.in_.flatMap (eK .u8))] [.sl (.slice none 0 0) 72 4 ([] : List GCap).length ([].flatMap GCap.enc)] rfl rfl rfl rfl (by decide) (fun w hw hw2 hF => zbo _ w hF x0_ g0_ v0_2 limit hw2.takes.1 hw2.takes.2 r11 hr11)) ?_; rintro _ _ ⟨⟨⟩, -, rfl, rfl⟩; dsimp only [List.cons_append, List.nil_append]; refine TL.run 1 rfl ?_; refine TL.ns ?_; have hq := zaf hk; clear hk; obtain ⟨k4, hk4, hk⟩ := hq; (try dsimp only at hk); refine T.af (ι := List GCap × Value × Int × Int) (fun z => [(7, z.2.1)]) (fun z => [.sl z.2.1 72 4 z.1.length (z.1.flatMap GCap.enc), .row g0_ 160 [.int .i64 z.2.2.1, .bool x0_.made, v0_2, .int .i64 z.2.2.2], .sl v0_2 5 1 x0_.in_.length (x0_.in_.flatMap (eK .u8)), .fr F1]) (fun z => k4 (z.1, z.2.2.1, z.2.2.2) = some r ∧ OneC z.2.1) ?_ ?_
  · have hq : (r11.1 ≤ 9223372036854775807) ∧ _ := zaj hk; clear hk; obtain ⟨gl8, hk⟩ := hq; (try dsimp only at hk); have hq := zah hk; clear hk; obtain ⟨f8, kk8, hf8, hkk8, hk⟩ := hq; refine T.block ?_; refine T.pick [3, 0, 1, 2] rfl (by decide) ?_; refine T.loop (ι := Nat × List GCap × Value × Int × Int) (fun z => [(0, .pointer (some ⟨g0_, 0, none⟩)), (2, .func (.func 94) #[] #[]), (7, z.2.2.1), (11, .int .i64 r11.1), (12, .int .i64 (z.1 : Int))]) (fun z => [.sl z.2.2.1 72 4 z.2.1.length (z.2.1.flatMap GCap.enc), .row g0_ 160 [.int .i64 z.2.2.2.1, .bool x0_.made, v0_2, .int .i64 z.2.2.2.2], .sl v0_2 5 1 x0_.in_.length (x0_.in_.flatMap (eK .u8)), .fr F1]) (fun z => zag f8 kk8 (r11.1.toNat - z.1) z.1 (z.2.1, z.2.2.2.1, z.2.2.2.2) = some r ∧ OneC z.2.2.1) (fun z => r11.1.toNat - z.1) (0, [], (.slice none 0 0), r11.2.1, r11.2.2) ?_ ?_ ?_ ?_
    · exact ⟨hk, inferInstance⟩
    · exact (.c (.c (.c (.c (.c .nil)))))
    · exact List.Sublist.refl _
    · rintro ⟨i_9, l_5, vl_5, c_6, c_7⟩ ⟨hk, ol_5⟩; (try dsimp only at *); refine T.sr ?_; refine TL.run 1 rfl ?_; refine TL.ns (T.seq ?_); refine T.cond rfl (fun h10 => ?_) (fun h10 => ?_)
      · have p10 := of_decide_eq_true h10; rw [zas (by omega)] at hk; generalize hn8 : zag f8 kk8 (r11.1.toNat - (i_9 + 1)) (i_9 + 1) = next8 at hk; rw [← hf8] at hk; (try dsimp only at hk); refine T.skip (K.seq (T.seq (T.block (T.seq ?_)))); have hq := zae hk; clear hk; obtain ⟨r16, hr16, hk⟩ := hq; (try dsimp only at hk); refine T.region ?_; refine TL.run 2 rfl ?_; refine TL.e (Ew.ak [1, 2, 3, 0] [.row g0_ 160 [.int .i64 c_6, .bool x0_.made, v0_2, .int .i64 c_7], .sl v0_2 5 1 x0_.in_.length (x0_.in_.flatMap (eK .u8))] [.sl vl_5 72 4 l_5.length (l_5.flatMap GCap.enc)] rfl rfl rfl rfl (by decide) (fun w hw hw2 hF => ze8 _ w hF (GReader.mk (Gfault.mk c_6) x0_.made x0_.in_ c_7) g0_ v0_2 hw2.takes.1 hw2.takes.2 r16 hr16)) ?_; rintro _ _ ⟨⟨⟩, -, rfl, rfl⟩; dsimp only [List.cons_append, List.nil_append]; refine TL.e (Ew.alloc rfl) ?_; rintro _ _ ⟨g8, rfl, rfl⟩; refine TL.e0 (Ew.ah 0 rfl rfl rfl rfl rfl rfl) ?_; rintro _ _ ⟨rfl, rfl⟩; refine TL.ns (T.seq (T.sr ?_)); refine TL.run 1 rfl ?_; refine TL.e (Ew.ak [1, 2, 3, 0, 4] [.row g0_ 160 [.int .i64 r16.2.1, .bool x0_.made, v0_2, .int .i64 r16.2.2], .sl v0_2 5 1 x0_.in_.length (x0_.in_.flatMap (eK .u8))] [.row g8 72 [.int .i64 r16.1.Station, .int .i64 r16.1.Max, .int .i64 r16.1.Low, .int .i64 r16.1.High], .sl vl_5 72 4 l_5.length (l_5.flatMap GCap.enc)] rfl rfl rfl rfl (by decide) (fun w hw hw2 hF => zbx _ w hF (GReader.mk (Gfault.mk r16.2.1) x0_.made x0_.in_ r16.2.2) g0_ v0_2 hw2.takes.1 hw2.takes.2)) ?_; rintro _ _ ⟨⟨⟩, -, rfl, rfl⟩; dsimp only [List.cons_append, List.nil_append]; refine TL.run 1 rfl ?_; refine TL.ns ?_; refine T.cond rfl (fun h11 => ?_) (fun h11 => ?_)
        · have p11 := of_decide_eq_true h11; replace hk := zac hk h11; refine T.sr ?_; refine TL.run 1 rfl ?_; refine TL.ns (T.ret (K.then_ret (K.ae (K.then_ret (K.then_ret (K.ae (K.then_ret ?_))))))); obtain rfl := Option.some.inj hk; exact K.aj rfl rfl (fun w' hw => ⟨(.slice none 0 0), F1.toFrz, (SlC.nil _ 4), rfl, FxM.of (hw.pick (idx := [0, 1, 2]) rfl (by decide)) hS0 (Frz.Le.refl _)⟩)
        · have p11 := of_decide_eq_false h11; replace hk := zab hk h11; refine T.skip (K.seq ?_); have hq : (room (l_5 ++ [r16.1]).length 32) ∧ _ := zaj hk; clear hk; obtain ⟨g23, hk⟩ := hq; (try dsimp only at hk); refine T.region ?_; refine TL.run 1 rfl ?_; refine TL.y (Yv.am 3 rfl rfl rfl rfl) ?_; refine TL.e (Ew.buildSlice rfl rfl rfl (by decide)) ?_; rintro _ _ ⟨g22, rfl, rfl⟩; refine TL.e (Ew.av 5 0 rfl rfl rfl rfl rfl rfl (zbF (ys := [r16.1]) rfl) (zbP (enc := GCap.enc) (xs := l_5) (ys := [r16.1])) g23 (by decide)) ?_; rintro v23 _ ⟨hv23, rfl⟩; refine TL.run 1 rfl ?_; refine TL.nil (K.ac (K.seq (T.region ?_))); refine TL.y (Yv.ao rfl rfl rfl (by omega)) ?_; refine TL.run 1 rfl ?_; refine TL.nil ?_; rw [← hn8] at hk; refine K.pick [5, 1, 2, 3] rfl (by decide) ?_; exact K.next ((i_9 + 1), (l_5 ++ [r16.1]), v23, r16.2.1, r16.2.2) ⟨hk, inferInstance⟩ (by dsimp only; omega) (.c (.c (.c (.c (.c .nil))))) (List.Sublist.refl _)
      · have p10 := of_decide_eq_false h10; rw [zar (by omega), ← hkk8] at hk; (try dsimp only at hk); refine T.exit (K.ab (K.ab (K.ad ?_))); exact K.ai (l_5, vl_5, c_6, c_7) ⟨hk, inferInstance⟩ (.c .nil) (List.Sublist.refl _)
  · rintro ⟨l_1, vl_1, c_2, c_3⟩ ⟨hk, ol_1⟩; (try dsimp only at *); rw [← hk4] at hk; (try dsimp only at hk); refine T.sr ?_; refine TL.run 2 rfl ?_; refine TL.ns (T.ret ?_); refine K.ay (fun w hw => hw.freezeS (i := 3) (j := 0) (by decide) rfl rfl) ?_; rintro F2 ⟨le1_2, hz2⟩; dsimp only [List.set, List.eraseIdx]; have hf2 := hz2.toF rfl GCap.len; haveI := hf2.oneC; obtain rfl := Option.some.inj hk; exact K.aj rfl rfl (fun w' hw => ⟨vl_1, F2.toFrz, hf2, rfl, FxM.of (hw.pick (idx := [0, 1, 2]) rfl (by decide)) hS0 le1_2⟩)
def zbJ (fuel : Nat) (b : List Int) : Option (GProblem × Int) :=
  (bif decide (65536 < (b.length : Int)) then
    some ((GProblem.mk [] (GRules.mk [] [] [])), 5)
    else
    (zc2 b).bind fun r11 =>
    (bif (r11).isSome then
      (zaB fuel (r11.getD default) 512).bind fun r13 =>
      (zaz (GReader.mk (Gfault.mk r13.2.1) ((r11.getD default).made) ((r11.getD default).in_) r13.2.2) 4096).bind fun r16 =>
      (zay (GReader.mk (Gfault.mk r16.2.1) ((r11.getD default).made) ((r11.getD default).in_) r16.2.2) 1024).bind fun r20 =>
      (zaC (GReader.mk (Gfault.mk r20.2.1) ((r11.getD default).made) ((r11.getD default).in_) r20.2.2) 1024).bind fun r24 =>
      zaH (fun (x_3 : Bool) =>
        (bif x_3 then
          some ((GProblem.mk [] (GRules.mk [] [] [])), 6)
          else
          some ((GProblem.mk r13.1 (GRules.mk r16.1 r20.1 r24.1)), 0)))
      (fun k4 =>
        (bif decide (¬ (zaT (GReader.mk (Gfault.mk r24.2.1) ((r11.getD default).made) ((r11.getD default).in_) r24.2.2)) = 0) then
          k4 true
          else
          (zbm (GProblem.mk r13.1 (GRules.mk r16.1 r20.1 r24.1))).bind fun r32 =>
          k4 (!r32)))
      else
      none))
theorem zfi (F0 : Frz) (w : World) (hF0 : F0.At w) (b : List Int) (vb : Value) (hb : SlC F0 vb 1 (b.map (eK .u8))) (fuel : Nat) (r : GProblem × Int) (hr : zbJ fuel b = some r) : Calls Tryz.prog 29 #[vb] w fun e w' => ∃ (y : Value × List (List Value) × Value × Value × Value) (G : Frz), (SlD GDomain.rep G y.1 2 y.2.1 r.1.Domains ∧ SlC G y.2.2.1 5 (r.1.Rules.Pairs.map GPair.enc) ∧ SlC G y.2.2.2.1 5 (r.1.Rules.Loads.map GLoad.enc) ∧ SlC G y.2.2.2.2 4 (r.1.Rules.Caps.map GCap.enc)) ∧ e = .returned (.tuple #[.agg [y.1, y.2.2.1, y.2.2.2.1, y.2.2.2.2].toArray, .int .i64 r.2]) ∧ Fx F0 w G w' := by
  have hk := hr; unfold zbJ at hk; haveI := hb.oneC; obtain ⟨S0, F1, rfl, hS0, hp0⟩ := zal hF0; refine zam Tryz.func29 rfl rfl rfl hp0 ?_; refine T.sr ?_; refine TL.e (Ew.alloc rfl) ?_; rintro _ _ ⟨g2, rfl, rfl⟩; refine TL.run 1 rfl ?_; refine TL.ns (T.seq (T.sr ?_)); refine TL.run 1 rfl ?_; refine TL.y (Yv.an rfl rfl hb (List.length_map _)) ?_; have hm7 : b.length ≤ 9223372036854775807 := (List.length_map _) ▸ hb.max; refine TL.run 1 rfl ?_; refine TL.ns ?_; refine T.cond rfl (fun h1 => ?_) (fun h1 => ?_)
  · have p1 := of_decide_eq_true h1; replace hk := zac hk h1; refine T.sr ?_; refine TL.y (Yv.build rfl rfl) ?_; refine TL.e0 (Ew.ah 0 rfl rfl rfl rfl rfl rfl) ?_; rintro _ _ ⟨rfl, rfl⟩; refine TL.run 1 rfl ?_; refine TL.ns (T.ret (K.then_ret ?_)); obtain rfl := Option.some.inj hk; exact K.aD 0 rfl rfl rfl rfl rfl (fun w' hw => ⟨((.slice none 0 0), [], (.slice none 0 0), (.slice none 0 0), (.slice none 0 0)), F1.toFrz, ⟨(SlD.nil _ _ 2), (SlC.nil _ 5), (SlC.nil _ 5), (SlC.nil _ 4)⟩, rfl, Fx.of hw (i := 1) rfl hS0 (Frz.Le.refl _)⟩)
  · have p1 := of_decide_eq_false h1; replace hk := zab hk h1; refine T.skip (K.seq (T.seq ?_)); have hq := zae hk; clear hk; obtain ⟨r11, hr11, hk⟩ := hq; (try dsimp only at hk); refine T.aK ((r11).isSome) (fun h2 => ?_) (fun h2 => ?_)
    · replace hk := zac hk h2; refine T.region ?_; refine TL.run 1 rfl ?_; refine TL.e (Ew.aJ [1, 0] [] [.row g2 29 [(.slice none 0 0), (.slice none 0 0), (.slice none 0 0), (.slice none 0 0)]] rfl rfl rfl rfl (by decide) (fun w hw hw2 hF => (zfr _ w hF b vb hb r11 hr11).mono (fun e w' hp => hp.1 h2))) ?_; rintro _ _ ⟨⟨g11_n, v11_n_2⟩, F2, le1_2, -, rfl, rfl⟩; dsimp only [List.cons_append, List.nil_append]; refine TL.az 1 rfl ?_; intro iv11_n_2 hmv11_n_2; refine TL.run 1 rfl ?_; refine TL.nx ?_; refine TL.e (Ew.alloc rfl) ?_; rintro _ _ ⟨g5, rfl, rfl⟩; refine TL.ns (T.seq ?_); have hq := zae hk; clear hk; obtain ⟨r13, hr13, hk⟩ := hq; (try dsimp only at hk); refine T.region ?_; refine TL.run 1 rfl ?_; refine TL.e (Ew.aJ [1, 2, 3, 0, 4] [.row g11_n 160 [.int .i64 ((r11.getD default).fault.first), .bool ((r11.getD default).made), v11_n_2, .int .i64 ((r11.getD default).at_)], .sl v11_n_2 5 1 ((r11.getD default).in_).length (((r11.getD default).in_).flatMap (eK .u8))] [.row g5 29 [(.slice none 0 0), (.slice none 0 0), (.slice none 0 0), (.slice none 0 0)], .row g2 29 [(.slice none 0 0), (.slice none 0 0), (.slice none 0 0), (.slice none 0 0)]] rfl rfl rfl rfl (by decide) (fun w hw hw2 hF => zb8 _ w hF (r11.getD default) g11_n v11_n_2 512 hw2.takes.1 hw2.takes.2 fuel r13 hr13)) ?_; rintro _ _ ⟨⟨v13_0_0, cs13_0_0⟩, F3, le2_3, hf13_0_0, hq, rfl⟩; obtain rfl := hq.symm; dsimp only [List.cons_append, List.nil_append]; (try dsimp only at hf13_0_0); have le1_3 := le1_2.trans le2_3; haveI := hf13_0_0.1.oneC; refine TL.y (Yv.fieldAddr rfl rfl) ?_; refine TL.e0 (Ew.ar 3 rfl rfl rfl rfl (by simp)) ?_; rintro _ _ ⟨rfl, rfl⟩; refine TL.ns (T.seq ?_); have hq := zae hk; clear hk; obtain ⟨r16, hr16, hk⟩ := hq; (try dsimp only at hk); refine T.region ?_; refine TL.run 1 rfl ?_; refine TL.e (Ew.aJ [0, 1, 2, 3, 4] [.row g11_n 160 [.int .i64 r13.2.1, .bool ((r11.getD default).made), v11_n_2, .int .i64 r13.2.2], .sl v11_n_2 5 1 ((r11.getD default).in_).length (((r11.getD default).in_).flatMap (eK .u8))] [.row g5 29 [v13_0_0, (.slice none 0 0), (.slice none 0 0), (.slice none 0 0)], .row g2 29 [(.slice none 0 0), (.slice none 0 0), (.slice none 0 0), (.slice none 0 0)]] rfl rfl rfl rfl (by decide) (fun w hw hw2 hF => zcr _ w hF (GReader.mk (Gfault.mk r13.2.1) ((r11.getD default).made) ((r11.getD default).in_) r13.2.2) g11_n v11_n_2 4096 hw2.takes.1 hw2.takes.2 r16 hr16)) ?_; rintro _ _ ⟨v16_0_0, F4, le3_4, hf16_0_0, hq, rfl⟩; obtain rfl := hq.symm; dsimp only [List.cons_append, List.nil_append]; have le1_4 := le1_3.trans le3_4; haveI := hf16_0_0.oneC; refine TL.y (Yv.fieldAddr rfl rfl) ?_; refine TL.y (Yv.fieldAddr rfl rfl) ?_; refine TL.e0 (Ew.ar 3 rfl rfl rfl rfl (by simp)) ?_; rintro _ _ ⟨rfl, rfl⟩; refine TL.ns (T.seq ?_); have hq := zae hk; clear hk; obtain ⟨r20, hr20, hk⟩ := hq; (try dsimp only at hk); refine T.region ?_; refine TL.run 1 rfl ?_; refine TL.e (Ew.aJ [0, 1, 2, 3, 4] [.row g11_n 160 [.int .i64 r16.2.1, .bool ((r11.getD default).made), v11_n_2, .int .i64 r16.2.2], .sl v11_n_2 5 1 ((r11.getD default).in_).length (((r11.getD default).in_).flatMap (eK .u8))] [.row g5 29 [v13_0_0, v16_0_0, (.slice none 0 0), (.slice none 0 0)], .row g2 29 [(.slice none 0 0), (.slice none 0 0), (.slice none 0 0), (.slice none 0 0)]] rfl rfl rfl rfl (by decide) (fun w hw hw2 hF => zcq _ w hF (GReader.mk (Gfault.mk r16.2.1) ((r11.getD default).made) ((r11.getD default).in_) r16.2.2) g11_n v11_n_2 1024 hw2.takes.1 hw2.takes.2 r20 hr20)) ?_; rintro _ _ ⟨v20_0_0, F5, le4_5, hf20_0_0, hq, rfl⟩; obtain rfl := hq.symm; dsimp only [List.cons_append, List.nil_append]; have le1_5 := le1_4.trans le4_5; have le3_5 := le3_4.trans le4_5; haveI := hf20_0_0.oneC
      refine TL.y (Yv.fieldAddr rfl rfl) ?_; refine TL.y (Yv.fieldAddr rfl rfl) ?_; refine TL.e0 (Ew.ar 3 rfl rfl rfl rfl (by simp)) ?_; rintro _ _ ⟨rfl, rfl⟩; refine TL.ns (T.seq ?_); have hq := zae hk; clear hk; obtain ⟨r24, hr24, hk⟩ := hq; (try dsimp only at hk); refine T.region ?_; refine TL.run 1 rfl ?_; refine TL.e (Ew.aJ [0, 1, 2, 3, 4] [.row g11_n 160 [.int .i64 r20.2.1, .bool ((r11.getD default).made), v11_n_2, .int .i64 r20.2.2], .sl v11_n_2 5 1 ((r11.getD default).in_).length (((r11.getD default).in_).flatMap (eK .u8))] [.row g5 29 [v13_0_0, v16_0_0, v20_0_0, (.slice none 0 0)], .row g2 29 [(.slice none 0 0), (.slice none 0 0), (.slice none 0 0), (.slice none 0 0)]] rfl rfl rfl rfl (by decide) (fun w hw hw2 hF => zcG _ w hF (GReader.mk (Gfault.mk r20.2.1) ((r11.getD default).made) ((r11.getD default).in_) r20.2.2) g11_n v11_n_2 1024 hw2.takes.1 hw2.takes.2 r24 hr24)) ?_; rintro _ _ ⟨v24_0_0, F6, le5_6, hf24_0_0, hq, rfl⟩; obtain rfl := hq.symm; dsimp only [List.cons_append, List.nil_append]; have le1_6 := le1_5.trans le5_6; have le3_6 := le3_5.trans le5_6; have le4_6 := le4_5.trans le5_6; haveI := hf24_0_0.oneC; refine TL.y (Yv.fieldAddr rfl rfl) ?_; refine TL.y (Yv.fieldAddr rfl rfl) ?_; refine TL.e0 (Ew.ar 3 rfl rfl rfl rfl (by simp)) ?_; rintro _ _ ⟨rfl, rfl⟩; refine TL.ns (T.seq (T.seq ?_)); (try dsimp only at hk); have hq := zaf hk; clear hk; obtain ⟨k4, hk4, hk⟩ := hq; (try dsimp only at hk); refine T.af (ι := Bool) (fun z => [(2, .pointer (some ⟨g2, 0, none⟩)), (5, .pointer (some ⟨g5, 0, none⟩)), (34, .bool z)]) (fun z => [.row g5 29 [v13_0_0, v16_0_0, v20_0_0, v24_0_0], .row g2 29 [(.slice none 0 0), (.slice none 0 0), (.slice none 0 0), (.slice none 0 0)], .fr F6]) (fun z => k4 z = some r) ?_ ?_
      · refine T.region ?_; refine TL.run 1 rfl ?_; refine TL.e (Ew.ak [0, 1, 2, 3, 4] [.row g11_n 160 [.int .i64 r24.2.1, .bool ((r11.getD default).made), v11_n_2, .int .i64 r24.2.2], .sl v11_n_2 5 1 ((r11.getD default).in_).length (((r11.getD default).in_).flatMap (eK .u8))] [.row g5 29 [v13_0_0, v16_0_0, v20_0_0, v24_0_0], .row g2 29 [(.slice none 0 0), (.slice none 0 0), (.slice none 0 0), (.slice none 0 0)]] rfl rfl rfl rfl (by decide) (fun w hw hw2 hF => zds _ w hF (GReader.mk (Gfault.mk r24.2.1) ((r11.getD default).made) ((r11.getD default).in_) r24.2.2) g11_n v11_n_2 hw2.takes.1 hw2.takes.2)) ?_; rintro _ _ ⟨⟨⟩, -, rfl, rfl⟩; dsimp only [List.cons_append, List.nil_append]; refine TL.run 2 rfl ?_; refine TL.gs rfl rfl rfl (fun h5 => ?_) (fun h5 => ?_)
        · have p5 := of_decide_eq_true h5; replace hk := zac hk h5; refine TL.run 4 rfl ?_; refine TL.nil ?_; refine K.pick [3, 4, 2] rfl (by decide) ?_; exact K.ai true hk (.c (.c (.c .nil))) (List.Sublist.refl _)
        · have p5 := of_decide_eq_false h5; replace hk := zab hk h5; refine TL.y (Yv.am 3 rfl rfl rfl rfl) ?_; have hq := zae hk; clear hk; obtain ⟨r32, hr32, hk⟩ := hq; refine TL.e (Ew.ag rfl rfl rfl (fun w hw => zcf _ w (hw.fr (i := 2) rfl) (GProblem.mk r13.1 (GRules.mk r16.1 r20.1 r24.1)) v13_0_0 cs13_0_0 (SlD.mono (rep := GDomain.rep) (fun _ _ _ _ => GDomain.mono) hf13_0_0 le3_6) v16_0_0 (SlC.mono hf16_0_0 le4_6) v20_0_0 (SlC.mono hf20_0_0 le5_6) v24_0_0 hf24_0_0 r32 hr32)) ?_; rintro _ _ ⟨rfl, rfl⟩; refine TL.run 2 rfl ?_; refine TL.nil ?_; refine K.pick [3, 4, 2] rfl (by decide) ?_; exact K.ai (!r32) hk (.c (.c (.c .nil))) (List.Sublist.refl _)
      · rintro x_3 hk; rw [← hk4] at hk; (try dsimp only at hk); refine T.cond rfl (fun h6 => ?_) (fun h6 => ?_)
        · replace hk := zac hk h6; refine T.sr ?_; refine TL.y (Yv.build rfl rfl) ?_; refine TL.e0 (Ew.ah 1 rfl rfl rfl rfl rfl rfl) ?_; rintro _ _ ⟨rfl, rfl⟩; refine TL.run 1 rfl ?_; refine TL.ns (T.ret (K.then_ret ?_)); obtain rfl := Option.some.inj hk; exact K.aD 1 rfl rfl rfl rfl rfl (fun w' hw => ⟨((.slice none 0 0), [], (.slice none 0 0), (.slice none 0 0), (.slice none 0 0)), F6.toFrz, ⟨(SlD.nil _ _ 2), (SlC.nil _ 5), (SlC.nil _ 5), (SlC.nil _ 4)⟩, rfl, Fx.of hw (i := 2) rfl hS0 le1_6⟩)
        · replace hk := zab hk h6; refine T.skip (K.seq (T.sr ?_)); refine TL.y (Yv.am 0 rfl rfl rfl rfl) ?_; refine TL.e0 (Ew.ah 1 rfl rfl rfl rfl rfl rfl) ?_; rintro _ _ ⟨rfl, rfl⟩; refine TL.run 1 rfl ?_; refine TL.ns (T.ret ?_); obtain rfl := Option.some.inj hk; exact K.aD 1 rfl rfl rfl rfl rfl (fun w' hw => ⟨(v13_0_0, cs13_0_0, v16_0_0, v20_0_0, v24_0_0), F6.toFrz, ⟨(SlD.mono (rep := GDomain.rep) (fun _ _ _ _ => GDomain.mono) hf13_0_0 le3_6), (SlC.mono hf16_0_0 le4_6), (SlC.mono hf20_0_0 le5_6), hf24_0_0⟩, rfl, Fx.of hw (i := 2) rfl hS0 le1_6⟩)
    · replace hk := zab hk h2; refine T.region ?_; refine TL.run 1 rfl ?_; refine TL.e (Ew.aJ [1, 0] [] [.row g2 29 [(.slice none 0 0), (.slice none 0 0), (.slice none 0 0), (.slice none 0 0)]] rfl rfl rfl rfl (by decide) (fun w hw hw2 hF => (zfr _ w hF b vb hb r11 hr11).mono (fun e w' hp => hp.2 h2))) ?_; rintro _ _ ⟨⟨⟩, F7, le1_7, -, rfl, rfl⟩; dsimp only [List.cons_append, List.nil_append]; refine TL.run 1 rfl ?_; refine TL.nx ?_; refine TL.e (Ew.alloc rfl) ?_; rintro _ _ ⟨g5, rfl, rfl⟩; refine TL.ns (T.seq ?_); cases hk
section
variable {σ ρ α : Type}
theorem zgC {f : Nat → (Unit → Bool) → Unit → Bool} {k : Unit → Bool} {n : Nat} (q : Nat → Bool) (hf : ∀ i next, i < n → f i next () = (q i && next ())) : zag f k n 0 () = ((List.range n).all q && k ()) := by
  have key : ∀ m i, i + m = n → zag f k m i () = ((List.range' i m).all q && k ()) := by
    intro m
    induction m with
    | zero => intro i _; simp [zag]
    | succ m ih =>
      intro i e
      show f i (zag f k m (i + 1)) () = _
      rw [hf i _ (by omega), ih (i + 1) (by omega), List.range'_succ, List.all_cons, Bool.and_assoc]
  rw [key n 0 (by omega), List.range_eq_range']
theorem zfD {f : Nat → (σ → ρ) → σ → ρ} {k : σ → ρ} {n : Nat} {s : σ} (I : Nat → σ → Prop) (g : Nat → σ → σ) (h0 : I 0 s) (hI : ∀ i s, i < n → I i s → I (i + 1) (g i s)) (hf : ∀ i next s, i < n → I i s → f i next s = next (g i s)) : zag f k n 0 s = k ((List.range n).foldl (fun s i => g i s) s) ∧ I n ((List.range n).foldl (fun s i => g i s) s) := by
  have key : ∀ m i s, i + m = n → I i s → zag f k m i s = k ((List.range' i m).foldl (fun s i => g i s) s) ∧ I n ((List.range' i m).foldl (fun s i => g i s) s) := by
    intro m
    induction m with
    | zero => intro i s e hs; rw [show i = n by omega] at hs; exact ⟨rfl, hs⟩
    | succ m ih =>
      intro i s e hs; have := ih (i + 1) (g i s) (by omega) (hI i s (by omega) hs); rw [List.range'_succ, List.foldl_cons]; refine ⟨?_, this.2⟩; rw [← this.1]; exact hf i _ s (by omega) hs
  rw [List.range_eq_range']; exact key n 0 s (by omega) h0
theorem zhO {l : List α} [Inhabited α] {q : α → Bool} : ((List.range l.length).any fun i => q (nth l i)) = l.any q := by
  rw [Bool.eq_iff_iff, List.any_eq_true, List.any_eq_true]; constructor
  · rintro ⟨i, hi, h⟩; exact ⟨nth l i, by rw [za8 (List.mem_range.1 hi)]; exact List.getElem_mem _, h⟩
  · rintro ⟨x, hx, h⟩; obtain ⟨i, hi, rfl⟩ := List.mem_iff_getElem.1 hx; exact ⟨i, List.mem_range.2 hi, by rw [za8 hi]; exact h⟩
theorem zdN {l : List α} [Inhabited α] {q : α → Bool} : ((List.range l.length).all fun i => q (nth l i)) = l.all q := by
  have h := zhO (l := l) (q := fun x => !q x); rw [Bool.eq_iff_iff, List.all_eq_true, List.all_eq_true]; constructor
  · intro h x hx; obtain ⟨i, hi, rfl⟩ := List.mem_iff_getElem.1 hx; have := h i (List.mem_range.2 hi)
    rwa [za8 hi] at this
  · intro h i hi; have hi := List.mem_range.1 hi; rw [za8 hi]; exact h _ (List.getElem_mem _)
theorem zdq {x : Int} (h : -9223372036854775808 ≤ x ∧ x ≤ 9223372036854775807) : wI x = x := IntWalk.i64_in _ h
end
theorem zcI {ρ : Type} {f : Nat → (Unit → ρ) → Unit → ρ} {k : Unit → ρ} {z : ρ} (q : Nat → Bool) {n s : Nat} (hf : ∀ i next, s ≤ i → i < s + n → f i next () = bif q i then next () else z) : zag f k n s () = bif (List.range' s n).all q then k () else z := by
  induction n generalizing s with
  | zero => rfl
  | succ m ih =>
    show f s (zag f k m (s + 1)) () = _
    rw [hf s _ (Nat.le_refl _) (by omega), ih (fun i next h1 h2 => hf i next (by omega) (by omega)), List.range'_succ, List.all_cons]
    cases q s <;> rfl
theorem ziZ (n : Nat) (g t : Nat → Bool) : (List.range' 0 n).all (fun i => g i && (bif decide (0 < (i : Int)) then t i else true)) = ((List.range' 0 n).all g && (List.range' 1 (n - 1)).all t) := by
  rw [Bool.eq_iff_iff, Bool.and_eq_true, List.all_eq_true, List.all_eq_true, List.all_eq_true]; constructor
  · intro h; refine ⟨fun i hi => ((Bool.and_eq_true _ _).mp (h i hi)).1, fun i hi => ?_⟩; have hi' := List.mem_range'_1.1 hi; have h2 := ((Bool.and_eq_true _ _).mp (h i (List.mem_range'_1.2 ⟨by omega, by omega⟩))).2
    rwa [decide_eq_true (by omega), cond_true] at h2
  · rintro ⟨h1, h2⟩ i hi; have hi' := List.mem_range'_1.1 hi; rw [Bool.and_eq_true]; refine ⟨h1 i hi, ?_⟩; by_cases h0 : 0 < (i : Int)
    · rw [decide_eq_true h0, cond_true]; exact h2 i (List.mem_range'_1.2 ⟨by omega, by omega⟩)
    · rw [decide_eq_false h0]; rfl
def lexL : List Int → List Int → Bool
  | a :: x, b :: y => bif decide (a = b) then lexL x y else decide (a < b)
  | _, _ => false
theorem zhV {a b : List Int} {i : Nat} (h1 : i < a.length) (h2 : i < b.length) : lexL (a.drop i) (b.drop i) = bif decide (nth a i = nth b i) then lexL (a.drop (i + 1)) (b.drop (i + 1)) else decide (nth a i < nth b i) := by
  rw [List.drop_eq_getElem_cons h1, List.drop_eq_getElem_cons h2, ← za8 h1, ← za8 h2]; rfl
theorem zhG {a b : List Int} (h : a.length = b.length) : zb7 a b = some (lexL a b) := by
  have key : ∀ m i, i + m = a.length → zag (fun (i : Nat) (next : Unit → Option Bool) (_ : Unit) => grd (0 ≤ (i : Int) ∧ (i : Int) < (b.length : Int)) (bif decide (¬ nth a i = nth b i) then some (decide (nth a i < nth b i)) else next ())) (fun _ => some false) m i () = some (lexL (a.drop i) (b.drop i)) := by
    intro m
    induction m with
    | zero => intro i e; rw [List.drop_eq_nil_of_le (show a.length ≤ i by omega)]; rfl
    | succ m ih =>
      intro i e; have h2 := ih (i + 1) (by omega)
      show grd _ _ = _
      rw [zav ⟨by omega, by omega⟩, zhV (by omega) (by omega)]; by_cases e2 : nth a i = nth b i
      · rw [decide_eq_true e2, decide_eq_false (fun hn => hn e2), cond_false]; exact h2
      · rw [decide_eq_false e2, decide_eq_true e2, cond_true]; rfl
  have := key a.length 0 (by omega); rw [List.drop_zero, List.drop_zero] at this; exact this
def cmpc (a b : Int) : Int := bif decide (a < b) then -1 else bif decide (b < a) then 1 else 0
theorem ziL (a b : Int) : zad a b = cmpc a b := by
  unfold zad zbT; rw [decide_eq_false (fun h => h rfl), decide_eq_false (fun h => h rfl)]; rfl
def orL : List Int → Int
  | [] => 0
  | v :: r => bif decide (¬ v = 0) then v else orL r
theorem or_x (l : List Int) : zcz l = orL l := by
  have key : ∀ m i, i + m = l.length → zag (fun (i : Nat) (next : Unit → Int) (_ : Unit) => bif decide (¬ nth l i = 0) then nth l i else next ()) (fun _ => (0 : Int)) m i () = orL (l.drop i) := by
    intro m
    induction m with
    | zero => intro i e; rw [List.drop_eq_nil_of_le (show l.length ≤ i by omega)]; rfl
    | succ m ih =>
      intro i e; have h2 := ih (i + 1) (by omega); rw [List.drop_eq_getElem_cons (show i < l.length by omega), ← za8 (show i < l.length by omega)]
      show (bif decide (¬ nth l i = 0) then nth l i else _) = bif decide (¬ nth l i = 0) then nth l i else _
      rw [← h2]
  have := key l.length 0 (by omega); rw [List.drop_zero] at this; exact this
theorem zg5 : ∀ a b : List Int, decide (0 ≤ orL (List.zipWith cmpc a b)) = !lexL a b
  | [], b => by cases b <;> rfl
  | a :: x, [] => rfl
  | a :: x, b :: y => by
    have ih := zg5 x y
    show decide (0 ≤ bif decide (¬ cmpc a b = 0) then cmpc a b else orL (List.zipWith cmpc x y)) = !(bif decide (a = b) then lexL x y else decide (a < b))
    unfold cmpc at *; rcases Int.lt_trichotomy a b with h | h | h
    · rw [decide_eq_true h, decide_eq_false (show ¬ a = b by omega)]; rfl
    · subst h; rw [decide_eq_false (Int.lt_irrefl a), decide_eq_true rfl]; exact ih
    · rw [decide_eq_false (show ¬ a < b by omega), decide_eq_true h, decide_eq_false (show ¬ a = b by omega)]; rfl
def zdp (x : GPair) : List Int := [x.A, x.B, x.Offset, x.Low, x.High]
def zdk (x : GLoad) : List Int := [x.To, x.From, x.Weight, x.Low, x.High]
def capL (x : GCap) : List Int := [x.Station, x.Max, x.Low, x.High]
theorem zh0 (a b : GPair) : decide (0 ≤ zbt a b) = !lexL (zdp a) (zdp b) := by
  unfold zbt; rw [or_x]; simp only [ziL]; exact zg5 (zdp a) (zdp b)
theorem zhP (a b : GLoad) : decide (0 ≤ zbu a b) = !lexL (zdk a) (zdk b) := by
  unfold zbu; rw [or_x]; simp only [ziL]; exact zg5 (zdk a) (zdk b)
theorem ziE (a b : GCap) : decide (0 ≤ zbB a b) = !lexL (capL a) (capL b) := by
  unfold zbB; rw [or_x]; simp only [ziL]; exact zg5 (capL a) (capL b)
def adjB {α : Type} [Inhabited α] (lt : α → α → Bool) (l : List α) : Bool := (List.range' 1 (l.length - 1)).all fun i => lt (nth l (i - 1)) (nth l i)
theorem zhr {α : Type} [Inhabited α] {l : List α} {cmp : α → α → Int} {lt : α → α → Bool} (hc : ∀ a b, decide (0 ≤ cmp a b) = !lt a b) :
    zag (fun (i : Nat) (next : Unit → Option Bool) (_ : Unit) => grd (0 ≤ ((i : Int) - 1) ∧ ((i : Int) - 1) < (l.length : Int)) (bif decide (0 ≤ cmp (nth l (((i : Int) - 1).toNat)) (nth l i)) then some false else next ())) (fun _ => some true) (l.length - 1) 1 () = some (adjB lt l) := by
  rw [zcI (fun i => lt (nth l (i - 1)) (nth l i)) (z := some false) (fun i next h1 h2 => ?_)]
  · unfold adjB; cases (List.range' 1 (l.length - 1)).all fun i => lt (nth l (i - 1)) (nth l i) <;> rfl
  · rw [zav ⟨by omega, by omega⟩, hc, show ((i : Int) - 1).toNat = i - 1 by omega]
    cases lt (nth l (i - 1)) (nth l i) <;> rfl
theorem zf6 {α : Type} [Inhabited α] {l : List α} {q : α → Bool} : zag (fun (i : Nat) (next : Unit → Bool) (_ : Unit) => bif !(q (nth l i)) then false else next ()) (fun _ => true) (l.length - 0) 0 () = l.all q := by
  rw [Nat.sub_zero, zgC (fun i => q (nth l i)) (fun i next hi => by cases q (nth l i) <;> rfl), zdN, Bool.and_true]
def zdG (r : GRules) : Bool :=
  decide ((r.Pairs.length : Int) ≤ 4096) && (r.Pairs.all zaZ && (adjB (fun a b => lexL (zdp a) (zdp b)) r.Pairs && (decide ((r.Loads.length : Int) ≤ 1024) && (r.Loads.all zaY && (adjB (fun a b => lexL (zdk a) (zdk b)) r.Loads && (decide ((r.Caps.length : Int) ≤ 1024) && (r.Caps.all za4 && adjB (fun a b => lexL (capL a) (capL b)) r.Caps)))))))
theorem zgt (r : GRules) : zbV r = some (zdG r) := by
  have e1 : zaP r.Pairs = r.Pairs.all zaZ := zf6; have e2 : zaQ r.Loads = r.Loads.all zaY := zf6; have e3 : zaU r.Caps = r.Caps.all za4 := zf6; have i1 : zaN r.Pairs = some (adjB (fun a b => lexL (zdp a) (zdp b)) r.Pairs) := zhr zh0; have i2 : zaO r.Loads = some (adjB (fun a b => lexL (zdk a) (zdk b)) r.Loads) := zhr zhP; have i3 : zaS r.Caps = some (adjB (fun a b => lexL (capL a) (capL b)) r.Caps) := zhr ziE; unfold zbV zdG; rw [e1, e2, e3, i1, i2, i3]; simp only [zaH, Option.bind_some]
  cases decide ((r.Pairs.length : Int) ≤ 4096) <;> cases r.Pairs.all zaZ <;> cases adjB (fun a b => lexL (zdp a) (zdp b)) r.Pairs <;> try rfl
  cases decide ((r.Loads.length : Int) ≤ 1024) <;> cases r.Loads.all zaY <;> cases adjB (fun a b => lexL (zdk a) (zdk b)) r.Loads <;> try rfl
  cases decide ((r.Caps.length : Int) ≤ 1024) <;> cases r.Caps.all za4 <;> rfl
theorem zd2 (a b : Int) : decide (a < b) = !decide (b ≤ a) := by
  by_cases h : a < b
  · rw [decide_eq_true h, decide_eq_false (by omega)]; rfl
  · rw [decide_eq_false h, decide_eq_true (by omega)]; rfl
theorem zh1 (a b : Int) : decide (a ≤ b) = !decide (b < a) := by
  by_cases h : a ≤ b
  · rw [decide_eq_true h, decide_eq_false (by omega)]; rfl
  · rw [decide_eq_false h, decide_eq_true (by omega)]; rfl
theorem zjt (a b : Int) : decide (a = b) = !decide (¬ a = b) := by
  by_cases h : a = b
  · rw [decide_eq_true h, decide_eq_false (by omega)]; rfl
  · rw [decide_eq_false h, decide_eq_true h]; rfl
theorem zjl {ρ : Type} (a b c d e f g t : Bool) (n z : Option ρ) : zaH (fun x => bif x then z else n) (fun (k : Bool → Option ρ) => bif !a then k true else bif !b then k true else bif !c then k true else bif !d then k true else bif !e then k true else bif !f then k true else bif g then (some t).bind fun r => k (!r) else k false) = bif (((((a && b) && c) && (d && e)) && f) && (bif g then t else true)) then n else z := by
  cases a <;> cases b <;> cases c <;> try rfl
  cases d <;> cases e <;> cases f <;> try rfl
  cases g <;> cases t <;> rfl
theorem body4 {ρ : Type} (a d e f g t : Bool) (n z : Option ρ) : zaH (fun x => bif x then z else n) (fun (k : Bool → Option ρ) => bif !a then k true else bif !d then k true else bif !e then k true else bif !f then k true else bif g then (some t).bind fun r => k (!r) else k false) = bif (((a && (d && e)) && f) && (bif g then t else true)) then n else z := by
  cases a <;> cases d <;> cases e <;> cases f <;> try rfl
  cases g <;> cases t <;> rfl
theorem zeP {α : Type} [Inhabited α] (l : List α) (g : α → Bool) (lt : α → α → Bool) : ((List.range' 0 (l.length - 0)).all fun i => g (nth l i) && (bif decide (0 < (i : Int)) then lt (nth l (i - 1)) (nth l i) else true)) = (l.all g && adjB lt l) := by
  rw [Nat.sub_zero, ziZ l.length (fun i => g (nth l i)) (fun i => lt (nth l (i - 1)) (nth l i)), ← List.range_eq_range', zdN]; rfl
theorem lessP (x y : GPair) : zb7 (zbQ x) (zbQ y) = some (lexL (zdp x) (zdp y)) := zhG rfl
theorem lessL (x y : GLoad) : zb7 (za0 x) (za0 y) = some (lexL (zdk x) (zdk y)) := zhG rfl
theorem lessC (x y : GCap) : zb7 (za5 x) (za5 y) = some (lexL (capL x) (capL y)) := zhG rfl
theorem zhe (r : GRules) : zbS r = some (zdG r) := by
  unfold zbS
  show (bif _ then some false else zag _ (fun _ => zag _ (fun _ => zag _ (fun _ => some true) (r.Caps.length - 0) 0 ()) (r.Loads.length - 0) 0 ()) (r.Pairs.length - 0) 0 ()) = _
  rw [zcI (n := r.Pairs.length - 0) (fun i => zaZ (nth r.Pairs i) && (bif decide (0 < (i : Int)) then lexL (zdp (nth r.Pairs (i - 1))) (zdp (nth r.Pairs i)) else true)) (z := some false) (fun i next h1 h2 => ?_)]; rw [zcI (n := r.Loads.length - 0) (fun i => zaY (nth r.Loads i) && (bif decide (0 < (i : Int)) then lexL (zdk (nth r.Loads (i - 1))) (zdk (nth r.Loads i)) else true)) (z := some false) (fun i next h1 h2 => ?_)]; rw [zcI (n := r.Caps.length - 0) (fun i => za4 (nth r.Caps i) && (bif decide (0 < (i : Int)) then lexL (capL (nth r.Caps (i - 1))) (capL (nth r.Caps i)) else true)) (z := some false) (fun i next h1 h2 => ?_)]
  · rw [zeP r.Pairs zaZ (fun a b => lexL (zdp a) (zdp b)), zeP r.Loads zaY (fun a b => lexL (zdk a) (zdk b)), zeP r.Caps za4 (fun a b => lexL (capL a) (capL b))]; unfold zdG; rw [zd2 4096, zd2 1024, zd2 1024]
    cases decide ((r.Pairs.length : Int) ≤ 4096) <;> cases decide ((r.Loads.length : Int) ≤ 1024) <;> cases decide ((r.Caps.length : Int) ≤ 1024) <;> cases r.Pairs.all zaZ <;> try rfl
    all_goals (cases adjB (fun a b => lexL (zdp a) (zdp b)) r.Pairs <;> cases r.Loads.all zaY <;> cases adjB (fun a b => lexL (zdk a) (zdk b)) r.Loads <;> cases r.Caps.all za4 <;> cases adjB (fun a b => lexL (capL a) (capL b)) r.Caps <;> rfl)
  · skip; rw [show ((i : Int) - 1).toNat = i - 1 by omega, lessC, zd2 _ 0, zd2 1099511627776]; exact body4 ..
  · skip; rw [show ((i : Int) - 1).toNat = i - 1 by omega, lessL, zjt (nth r.Loads i).To, zd2 _ 1, zd2 1073741824]; exact zjl ..
  · skip; rw [show ((i : Int) - 1).toNat = i - 1 by omega, lessP, zh1 (nth r.Pairs i).B, zd2 _ (-1), zd2 1]; exact zjl ..
theorem zbg {α : Type} [Inhabited α] {l : List α} {i : Nat} (h : i < l.length) : nth l i ∈ l := by rw [za8 h]; exact List.getElem_mem h
theorem zi6 {c b : Nat} (hc : c < 64) : ((1#64) <<< c).getLsbD b = decide (b = c) := by
  rw [BitVec.getLsbD_shiftLeft]; by_cases h : b = c
  · subst h; simp [hc, BitVec.getLsbD_one]
  · rw [decide_eq_false h]; by_cases h2 : b < c
    · simp [h2]
    · have e : (1#64).getLsbD (b - c) = false := by
        rw [BitVec.getLsbD_one]; simp; omega
      rw [e, Bool.and_false]
theorem zi8 {x : BitVec 64} {c : Nat} : decide ((((x >>> c) &&& (1#64)).toNat : Int) = ((1#64).toNat : Int)) = x.getLsbD c := by
  have e : ((x >>> c) &&& (1#64)) = bif x.getLsbD c then 1#64 else 0#64 := by
    refine BitVec.eq_of_getLsbD_eq fun b hb => ?_; rw [BitVec.getLsbD_and, BitVec.getLsbD_ushiftRight, BitVec.getLsbD_one]; by_cases h0 : b = 0
    · subst h0; cases x.getLsbD c <;> simp
    · cases x.getLsbD c <;> simp [h0]
  rw [e]
  cases x.getLsbD c <;> decide
def inS (s : GSet) (i : Int) : Bool := (decide (0 ≤ i) && decide (i < 512)) && (Vec.get s.words (i / 64).toNat).getLsbD (i % 64).toNat
theorem zhN (s : GSet) (i : Int) : zao s i = some (inS s i) := by
  unfold zao inS zbz; by_cases h : 0 ≤ i ∧ i < 512
  · simp only [zaH]; rw [decide_eq_true h.1, decide_eq_true h.2]; simp only [Bool.and_self, cond_true]; rw [zav ⟨h.1, by omega, by omega⟩, zav ⟨by omega, by omega⟩, zav ⟨h.1, by omega⟩, zav ⟨by omega, by omega⟩, zi8, Bool.true_and]
  · have e : (decide (0 ≤ i) && decide (i < 512)) = false := by
      rw [Bool.and_eq_false_iff, decide_eq_false_iff_not, decide_eq_false_iff_not]; omega
    simp only [zaH]; rw [e]; rfl
def wS (v : Vec 8 (BitVec 64)) (n : Nat) : Bool := (Vec.get v (n / 64)).getLsbD (n % 64)
theorem zjo {v : Vec 8 (BitVec 64)} {j n : Nat} (hj : j < 512) : wS (Vec.put v (j / 64) (Vec.get v (j / 64) ||| ((1#64) <<< (j % 64)))) n = (wS v n || decide (n = j)) := by
  unfold wS; rw [Vec.get_put (by omega)]; by_cases h : n / 64 = j / 64
  · rw [if_pos h, BitVec.getLsbD_or, zi6 (by omega), h]
    congr 1
    by_cases h2 : n % 64 = j % 64
    · rw [decide_eq_true h2, decide_eq_true (by omega)]
    · rw [decide_eq_false h2, decide_eq_false (by omega)]
  · rw [if_neg h, decide_eq_false (by omega), Bool.or_false]
theorem ziD {l : List Int} {i : Nat} (hi : i < l.length) (q : Int → Bool) : (l.take (i + 1)).any q = ((l.take i).any q || q (nth l i)) := by
  rw [List.take_add_one, List.getElem?_eq_getElem hi, List.any_append, za8 hi]; simp
theorem of_x {l : List Int} (h : ∀ x ∈ l, 0 ≤ x ∧ x < 512) : ∃ s, zc3 l = some (s, 0) ∧ ∀ i : Int, inS s i = ((decide (0 ≤ i) && decide (i < 512)) && l.any fun x => decide (x = i)) := by
  have hn : ∀ i, i < l.length → 0 ≤ nth l i ∧ nth l i < 512 := fun i hi => h _ (zbg hi); unfold zc3
  obtain ⟨h1, h2⟩ := zfD (k := fun s : Vec 8 (BitVec 64) × Vec 8 (BitVec 64) => (some (GSet.mk s.2, 0) : Option (GSet × Int))) (n := l.length) (s := (Vec.fill 8 (0#64), Vec.fill 8 (0#64)))
    (f := fun (i_7 : Nat) (next6 : (Vec 8 (BitVec 64) × Vec 8 (BitVec 64)) → Option (GSet × Int)) (s6 : Vec 8 (BitVec 64) × Vec 8 (BitVec 64)) =>
      (bif !(zbz (nth l i_7)) then
        some ((GSet.mk (Vec.fill 8 (0#64))), 2)
        else
        grd (0 ≤ (nth l i_7) ∧ (nth l i_7) ≤ 9223372036854775807 ∧ 1 ≤ (64 : Int)) <|
        grd (0 ≤ ((nth l i_7) / 64) ∧ ((nth l i_7) / 64) < (8 : Int)) <|
        grd (0 ≤ (nth l i_7) ∧ 1 ≤ (64 : Int)) <|
        grd (0 ≤ ((nth l i_7) % 64) ∧ ((nth l i_7) % 64) < (64 : Int)) <|
        next6 (s6.1, (Vec.put s6.2 (((nth l i_7) / 64).toNat) ((Vec.get s6.2 (((nth l i_7) / 64).toNat)) ||| ((1#64) <<< (((nth l i_7) % 64).toNat)))))))
    (fun i s => ∀ n, n < 512 → wS s.2 n = (l.take i).any fun x => decide (x = (n : Int)))
    (fun i s => (s.1, Vec.put s.2 ((nth l i).toNat / 64) (Vec.get s.2 ((nth l i).toNat / 64) ||| ((1#64) <<< ((nth l i).toNat % 64)))))
    (fun n hn => by
      unfold wS
      rw [Vec.get_fill (by omega)]; simp)
    (fun i s hi hs n hn2 => by
      have := hn i hi; rw [zjo (by omega), hs n hn2, ziD hi]
      congr 1
      by_cases e : nth l i = (n : Int)
      · rw [decide_eq_true e, decide_eq_true (by omega)]
      · rw [decide_eq_false e, decide_eq_false (by omega)])
    (fun i next s hi hs => by
      have := hn i hi
      have e : zbz (nth l i) = true := by
        unfold zbz; rw [decide_eq_true this.1, decide_eq_true this.2]; rfl
      rw [e, Bool.not_true, cond_false, zav ⟨this.1, by omega, by omega⟩, zav ⟨by omega, by omega⟩, zav ⟨this.1, by omega⟩, zav ⟨by omega, by omega⟩, show (nth l i / 64).toNat = (nth l i).toNat / 64 by omega, show (nth l i % 64).toNat = (nth l i).toNat % 64 by omega])
  refine ⟨_, h1, fun i => ?_⟩; unfold inS; by_cases hi : 0 ≤ i ∧ i < 512
  · rw [decide_eq_true hi.1, decide_eq_true hi.2, Bool.and_self, Bool.true_and, Bool.true_and]; have h3 := h2 i.toNat (by omega); rw [List.take_length] at h3; unfold wS at h3; rw [show (i / 64).toNat = i.toNat / 64 by omega, show (i % 64).toNat = i.toNat % 64 by omega]; refine h3.trans ?_; rw [show ((i.toNat : Nat) : Int) = i by omega]
  · have e : (decide (0 ≤ i) && decide (i < 512)) = false := by
      rw [Bool.and_eq_false_iff, decide_eq_false_iff_not, decide_eq_false_iff_not]; omega
    rw [e]; rfl
theorem zhz {p : GProblem} (hr : room p.Domains.length 8) (h : ∀ d ∈ p.Domains, 0 ≤ d.Station ∧ d.Station < 512) : ∃ s, zbC p = some s ∧ ∀ i : Int, inS s i = ((decide (0 ≤ i) && decide (i < 512)) && p.Domains.any fun d => decide (d.Station = i)) := by
  obtain ⟨s, h1, h2⟩ := of_x (l := p.Domains.map (·.Station)) (fun x hx => by obtain ⟨d, hd, rfl⟩ := List.mem_map.1 hx; exact h d hd); refine ⟨s, ?_, fun i => by rw [h2 i, List.any_map]; rfl⟩; unfold zbC; rw [zav hr]
  have h3 := zfD (k := fun l : List Int => (zc3 l).bind fun r28 => some r28.1) (n := p.Domains.length - 0) (s := List.replicate p.Domains.length (0 : Int))
    (f := fun (i_5 : Nat) (next4 : List Int → Option GSet) (l_3 : List Int) => grd (0 ≤ (i_5 : Int) ∧ (i_5 : Int) < (l_3.length : Int)) <| next4 (l_3.set i_5 ((nth p.Domains i_5).Station)))
    (fun i s => s.length = p.Domains.length ∧ ∀ k, k < i → nth s k = (nth p.Domains k).Station)
    (fun i s => s.set i (nth p.Domains i).Station)
    ⟨List.length_replicate .., fun k hk => by omega⟩
    (fun i s hi hs => ⟨by rw [List.length_set]; exact hs.1, fun k hk => by
      (have h4 : k < s.length := by have := hs.1; omega); rw [za8 (show k < (s.set i _).length by rw [List.length_set]; exact h4), List.getElem_set]; by_cases e : i = k
      · rw [if_pos e, e]
      · rw [if_neg e, ← za8 h4]; exact hs.2 k (by omega)⟩)
    (fun i next s hi hs => by rw [zav ⟨by omega, by have := hs.1; omega⟩])
  refine h3.1.trans ?_
  have e : (List.range (p.Domains.length - 0)).foldl (fun s i => s.set i (nth p.Domains i).Station) (List.replicate p.Domains.length (0 : Int)) = p.Domains.map (·.Station) := by
    refine List.ext_getElem (by rw [h3.2.1, List.length_map]) fun k hk1 hk2 => ?_; (have hk : k < p.Domains.length := by rwa [List.length_map] at hk2); have h5 := h3.2.2 k (by omega); rw [za8 hk1, za8 hk] at h5; rw [h5, List.getElem_map]
  rw [e, h1]; rfl
theorem ziU (a b : Int) : decide (0 ≤ zad a b) = !decide (a < b) := by
  rw [ziL]; unfold cmpc; rcases Int.lt_trichotomy a b with h | h | h
  · rw [decide_eq_true h]; rfl
  · subst h; rw [decide_eq_false (Int.lt_irrefl a)]; rfl
  · rw [decide_eq_false (show ¬ a < b by omega), decide_eq_true h]; rfl
theorem zfl {α : Type} [Inhabited α] {l : List α} {q : α → Option Bool} {p : α → Bool} (h : ∀ x, q x = some (p x)) : zag (fun (i : Nat) (next : Unit → Option Bool) (_ : Unit) => (q (nth l i)).bind fun r => bif !r then some false else next ()) (fun _ => some true) (l.length - 0) 0 () = some (l.all p) := by
  rw [Nat.sub_zero, zcI (fun i => p (nth l i)) (z := some false) (fun i next h1 h2 => by rw [h]; show (bif !p (nth l i) then _ else _) = _; cases p (nth l i) <;> rfl), ← List.range_eq_range', zdN]
  cases l.all p <;> rfl
def okD (d : GDomain) : Bool := zai d.Station && (d.Channels.all zau && adjB (fun a b => decide (a < b)) d.Channels)
def hasD (p : GProblem) (i : Int) : Bool := (decide (0 ≤ i) && decide (i < 512)) && p.Domains.any fun d => decide (d.Station = i)
def zgE (p : GProblem) : Bool := p.Rules.Pairs.all (fun c => hasD p c.A && hasD p c.B) && (p.Rules.Loads.all (fun c => hasD p c.To && hasD p c.From) && p.Rules.Caps.all (fun c => hasD p c.Station))
def incD (p : GProblem) : Bool := adjB (fun a b : GDomain => decide (a.Station < b.Station)) p.Domains
def okP (p : GProblem) : Bool := p.Domains.all okD && (zdG p.Rules && (incD p && zgE p))
theorem zgx (d : GDomain) : zbU d = some (okD d) := by
  unfold zbU okD; have e1 : zbE d.Channels = d.Channels.all zau := zf6; have e2 : zbn d.Channels = some (adjB (fun a b => decide (a < b)) d.Channels) := zhr ziU; rw [e1, e2]; simp only [zaH, Option.bind_some]
  cases zai d.Station <;> cases d.Channels.all zau <;> rfl
theorem zc5 {n : Int} (h : zai n = true) : 0 ≤ n ∧ n ≤ 511 := by
  unfold zai zaD at h; rw [Bool.and_eq_true, decide_eq_true_eq, decide_eq_true_eq] at h; exact h
theorem zhu {p : GProblem} (h : p.Domains.all okD = true) {d : GDomain} (hd : d ∈ p.Domains) : 0 ≤ d.Station ∧ d.Station < 512 := by
  have h1 := List.all_eq_true.1 h d hd; unfold okD at h1; have := zc5 ((Bool.and_eq_true _ _).mp h1).1; omega
theorem zhH {p : GProblem} (h : p.Domains.all okD = true) (hi : incD p = true) : ∀ k, k < p.Domains.length → (k : Int) ≤ (nth p.Domains k).Station
  | 0, hk => (zhu h (zbg hk)).1
  | k + 1, hk => by
    have h1 := zhH h hi k (by omega); have h2 := List.all_eq_true.1 hi (k + 1) (List.mem_range'_1.2 ⟨by omega, by omega⟩); have h3 := of_decide_eq_true h2; rw [show k + 1 - 1 = k from rfl] at h3; omega
theorem zeE {p : GProblem} (h : p.Domains.all okD = true) (hi : incD p = true) : p.Domains.length ≤ 512 := by
  rcases Nat.eq_zero_or_pos p.Domains.length with h0 | h0
  · omega
  · have h1 := zhH h hi (p.Domains.length - 1) (by omega); have h2 := zhu h (zbg (show p.Domains.length - 1 < p.Domains.length by omega)); omega
theorem zgn (p : GProblem) : zbm p = some (okP p) := by
  have e1 : zaV p.Domains = some (p.Domains.all okD) := zfl zgx; have e2 : za2 p.Domains = some (incD p) := zhr (cmp := zck) (fun a b => ziU a.Station b.Station); unfold zbm okP; rw [e1, e2, zgt]; simp only [zaH, Option.bind_some]
  cases h1 : p.Domains.all okD
  · rfl
  cases zdG p.Rules
  · rfl
  cases h2 : incD p
  · rfl
  obtain ⟨s, h3, h4⟩ := zhz (p := p) (by have := zeE h1 h2; unfold room; omega) (fun d hd => zhu h1 hd)
  have e3 : za9 p.Rules.Pairs s = some (p.Rules.Pairs.all fun c => hasD p c.A && hasD p c.B) := zfl (q := fun c => zci c s) (fun c => by
    unfold zci; rw [zhN, zhN, h4, h4]
    show (bif hasD p c.A then some (hasD p c.B) else some false) = _
    cases hasD p c.A <;> rfl)
  have e4 : zba p.Rules.Loads s = some (p.Rules.Loads.all fun c => hasD p c.To && hasD p c.From) := zfl (q := fun c => zco c s) (fun c => by
    unfold zco; rw [zhN, zhN, h4, h4]
    show (bif hasD p c.To then some (hasD p c.From) else some false) = _
    cases hasD p c.To <;> rfl)
  have e5 : zbd p.Rules.Caps s = some (p.Rules.Caps.all fun c => hasD p c.Station) := zfl (q := fun c => zcp c s) (fun c => by
    unfold zcp
    rw [zhN, h4]; rfl)
  simp only [cond_false, Bool.not_true, h3, Option.bind_some, e3, e4, e5, Bool.true_and, cond_true]; unfold zgE
  cases p.Rules.Pairs.all fun c => hasD p c.A && hasD p c.B
  · rfl
  cases p.Rules.Loads.all fun c => hasD p c.To && hasD p c.From
  · rfl
  rfl
theorem zfn {α : Type} {l : List α} {f g : α → Bool} (h : ∀ x ∈ l, f x = g x) : l.all f = l.all g := by
  induction l with
  | nil => rfl
  | cons x r ih => rw [List.all_cons, List.all_cons, h x (List.mem_cons_self ..), ih fun y hy => h y (List.mem_cons_of_mem _ hy)]
def anyD (p : GProblem) (s : Int) : Bool := p.Domains.any fun d => decide (d.Station = s)
theorem zgu {p : GProblem} {s : Int} : decide (zbD p s < 0) = !anyD p s := by
  have key : ∀ m i, i + m = p.Domains.length → (decide (zag (fun (i : Nat) (next : Unit → Int) (_ : Unit) => bif decide ((nth p.Domains i).Station = s) then (i : Int) else next ()) (fun _ => (-1)) m i () < 0) = !((p.Domains.drop i).any fun d => decide (d.Station = s))) := by
    intro m
    induction m with
    | zero => intro i e; rw [List.drop_eq_nil_of_le (show p.Domains.length ≤ i by omega)]; rfl
    | succ m ih =>
      intro i e; have h2 := ih (i + 1) (by omega); rw [List.drop_eq_getElem_cons (show i < p.Domains.length by omega), List.any_cons, ← za8 (show i < p.Domains.length by omega)]
      show decide ((bif decide ((nth p.Domains i).Station = s) then (i : Int) else _) < 0) = _
      cases decide ((nth p.Domains i).Station = s) with
      | true => rw [cond_true, decide_eq_false (by omega)]; rfl
      | false => rw [cond_false, Bool.false_or]; exact h2
  have := key p.Domains.length 0 (by omega); rw [List.drop_zero] at this; exact this
def zgK (p : GProblem) : Bool := p.Rules.Pairs.all (fun c => anyD p c.A && anyD p c.B) && (p.Rules.Loads.all (fun c => anyD p c.To && anyD p c.From) && p.Rules.Caps.all (fun c => anyD p c.Station))
theorem zeQ {p : GProblem} {s : Int} (h : zai s = true) : anyD p s = hasD p s := by
  have := zc5 h; unfold anyD hasD; rw [decide_eq_true this.1, decide_eq_true (show s < 512 by omega)]; rfl
theorem zcK {a b : Bool} (h : (a && b) = true) : a = true := ((Bool.and_eq_true _ _).mp h).1
theorem zcF {a b : Bool} (h : (a && b) = true) : b = true := ((Bool.and_eq_true _ _).mp h).2
theorem zd1 {c : GPair} (h : zaZ c = true) : zai c.A = true ∧ zai c.B = true :=
  ⟨zcK (zcK (zcK (zcK h))), zcF (zcK (zcK (zcK h)))⟩
theorem zd0 {c : GLoad} (h : zaY c = true) : zai c.To = true ∧ zai c.From = true :=
  ⟨zcK (zcK (zcK (zcK h))), zcF (zcK (zcK (zcK h)))⟩
theorem zfS {c : GCap} (h : za4 c = true) : zai c.Station = true := zcK (zcK h)
structure RulesGood (r : GRules) : Prop where
  np : r.Pairs.length ≤ 4096
  nl : r.Loads.length ≤ 1024
  nc : r.Caps.length ≤ 1024
  p : ∀ c ∈ r.Pairs, zaZ c = true
  l : ∀ c ∈ r.Loads, zaY c = true
  c : ∀ c ∈ r.Caps, za4 c = true
theorem zfx {r : GRules} (h : zdG r = true) : RulesGood r := by
  unfold zdG at h; have h1 := zcF h; have h2 := zcF h1; have h3 := zcF h2; have h4 := zcF h3; have h5 := zcF h4; have h6 := zcF h5; have h7 := zcF h6; have a1 := of_decide_eq_true (zcK h); have a2 := of_decide_eq_true (zcK h3); have a3 := of_decide_eq_true (zcK h6); exact ⟨by omega, by omega, by omega, List.all_eq_true.1 (zcK h1), List.all_eq_true.1 (zcK h4), List.all_eq_true.1 (zcK h7)⟩
theorem zit {p : GProblem} (h : zdG p.Rules = true) : zgK p = zgE p := by
  have hg := zfx h; (have e1 : (p.Rules.Pairs.all fun c => anyD p c.A && anyD p c.B) = p.Rules.Pairs.all fun c => hasD p c.A && hasD p c.B := zfn fun c hc => by rw [zeQ (zd1 (hg.p c hc)).1, zeQ (zd1 (hg.p c hc)).2]); (have e2 : (p.Rules.Loads.all fun c => anyD p c.To && anyD p c.From) = p.Rules.Loads.all fun c => hasD p c.To && hasD p c.From := zfn fun c hc => by rw [zeQ (zd0 (hg.l c hc)).1, zeQ (zd0 (hg.l c hc)).2]); have e3 : (p.Rules.Caps.all fun c => anyD p c.Station) = p.Rules.Caps.all fun c => hasD p c.Station := zfn fun c hc => zeQ (zfS (hg.c c hc)); unfold zgK zgE; rw [e1, e2, e3]
def okD2 (d : GDomain) : Bool := zai d.Station && (decide ((d.Channels.length : Int) ≤ 50) && (d.Channels.all zau && adjB (fun a b => decide (a < b)) d.Channels))
theorem zje {n : Int} (h : zau n = true) : 2 ≤ n ∧ n ≤ 51 := by
  unfold zau zaD at h; rw [Bool.and_eq_true, decide_eq_true_eq, decide_eq_true_eq] at h; exact h
theorem ziO {l : List Int} (h : l.all zau = true) (hi : adjB (fun a b => decide (a < b)) l = true) : ∀ k, k < l.length → (k : Int) + 2 ≤ nth l k
  | 0, hk => by have := zje (List.all_eq_true.1 h _ (zbg hk)); omega
  | k + 1, hk => by
    have h1 := ziO h hi k (by omega); have h2 := List.all_eq_true.1 hi (k + 1) (List.mem_range'_1.2 ⟨by omega, by omega⟩); have h3 := of_decide_eq_true h2; rw [show k + 1 - 1 = k from rfl] at h3; omega
theorem zh8 (d : GDomain) : okD2 d = okD d := by
  unfold okD2 okD
  cases h1 : d.Channels.all zau
  · rw [Bool.false_and, Bool.and_false]
  cases h2 : adjB (fun a b => decide (a < b)) d.Channels
  · rw [Bool.and_false, Bool.and_false]
  have : d.Channels.length ≤ 50 := by
    rcases Nat.eq_zero_or_pos d.Channels.length with h0 | h0
    · omega
    · have a := ziO h1 h2 (d.Channels.length - 1) (by omega); have b := zje (List.all_eq_true.1 h1 _ (zbg (show d.Channels.length - 1 < d.Channels.length by omega))); omega
  rw [decide_eq_true (by omega)]; rfl
theorem chs_x {ρ : Type} {l : List Int} {n z : ρ} : zag (fun (k : Nat) (next : Unit → ρ) (_ : Unit) => bif (((decide (nth l k < 2)) || (decide (51 < nth l k))) || ((decide (0 < (k : Int))) && (decide (nth l k ≤ nth l (((k : Int) - 1).toNat))))) then z else next ()) (fun _ => n) (l.length - 0) 0 () = bif l.all zau && adjB (fun a b => decide (a < b)) l then n else z := by
  rw [zcI (fun k => zau (nth l k) && (bif decide (0 < (k : Int)) then decide (nth l (k - 1) < nth l k) else true)) (z := z) (fun i next h1 h2 => ?_), zeP l zau (fun a b => decide (a < b))]; rw [show ((i : Int) - 1).toNat = i - 1 by omega, zd2 _ 2, zh1 (nth l i) (nth l (i - 1)), zd2 51]; unfold zau zaD
  cases decide (2 ≤ nth l i) <;> cases decide (nth l i ≤ 51) <;> cases decide (0 < (i : Int)) <;> cases decide (nth l (i - 1) < nth l i) <;> rfl
theorem zep (p : GProblem) : zcy p = some (okP p) := by
  unfold zcy
  show (bif decide (512 < (p.Domains.length : Int)) then some false else (zbS p.Rules).bind fun r => bif !r then some false else zag _ (fun _ => zag _ (fun _ => zag _ (fun _ => zag _ (fun _ => some true) (p.Rules.Caps.length - 0) 0 ()) (p.Rules.Loads.length - 0) 0 ()) (p.Rules.Pairs.length - 0) 0 ()) (p.Domains.length - 0) 0 ()) = _
  rw [zhe, Option.bind_some]; rw [zcI (n := p.Domains.length - 0) (fun i => okD2 (nth p.Domains i) && (bif decide (0 < (i : Int)) then decide ((nth p.Domains (i - 1)).Station < (nth p.Domains i).Station) else true)) (z := some false) (fun i next h1 h2 => ?_)]; rw [zcI (n := p.Rules.Pairs.length - 0) (fun i => anyD p (nth p.Rules.Pairs i).A && anyD p (nth p.Rules.Pairs i).B) (z := some false) (fun i next h1 h2 => ?_)]; rw [zcI (n := p.Rules.Loads.length - 0) (fun i => anyD p (nth p.Rules.Loads i).To && anyD p (nth p.Rules.Loads i).From) (z := some false) (fun i next h1 h2 => ?_)]; rw [zcI (n := p.Rules.Caps.length - 0) (fun i => anyD p (nth p.Rules.Caps i).Station) (z := some false) (fun i next h1 h2 => ?_)]
  · rw [zeP p.Domains okD2 (fun a b => decide (a.Station < b.Station)), Nat.sub_zero, Nat.sub_zero, Nat.sub_zero, ← List.range_eq_range', ← List.range_eq_range', ← List.range_eq_range',
      zdN (q := fun c : GPair => anyD p c.A && anyD p c.B), zdN (q := fun c : GLoad => anyD p c.To && anyD p c.From), zdN (q := fun c : GCap => anyD p c.Station), zfn (fun d _ => zh8 d)]
    have hl : ∀ x : Option Bool, (bif p.Rules.Pairs.all (fun c => anyD p c.A && anyD p c.B) then bif p.Rules.Loads.all (fun c => anyD p c.To && anyD p c.From) then bif p.Rules.Caps.all (fun c => anyD p c.Station) then some true else some false else some false else some false) = some (zgK p) := fun _ => by
      unfold zgK
      cases p.Rules.Pairs.all (fun c => anyD p c.A && anyD p c.B) <;> cases p.Rules.Loads.all (fun c => anyD p c.To && anyD p c.From) <;> cases p.Rules.Caps.all (fun c => anyD p c.Station) <;> rfl
    rw [hl none]; unfold okP
    show (bif decide (512 < (p.Domains.length : Int)) then some false else bif !zdG p.Rules then some false else bif p.Domains.all okD && incD p then some (zgK p) else some false) = _
    cases h1 : zdG p.Rules
    · cases p.Domains.all okD <;> cases decide (512 < (p.Domains.length : Int)) <;> rfl
    cases h2 : p.Domains.all okD
    · cases decide (512 < (p.Domains.length : Int)) <;> rfl
    cases h3 : incD p
    · cases decide (512 < (p.Domains.length : Int)) <;> rfl
    have := zeE h2 h3; rw [decide_eq_false (show ¬ 512 < (p.Domains.length : Int) by omega), zit h1]; rfl
  · rw [zgu]; cases anyD p (nth p.Rules.Caps i).Station <;> rfl
  · rw [zgu, zgu]; cases anyD p (nth p.Rules.Loads i).To <;> cases anyD p (nth p.Rules.Loads i).From <;> rfl
  · rw [zgu, zgu]; cases anyD p (nth p.Rules.Pairs i).A <;> cases anyD p (nth p.Rules.Pairs i).B <;> rfl
  · rw [chs_x, show ((i : Int) - 1).toNat = i - 1 by omega, zd2 50, zh1 (nth p.Domains i).Station]; unfold okD2
    show (bif ((!zai (nth p.Domains i).Station || _) || _) then _ else _) = _
    cases zai (nth p.Domains i).Station <;> cases decide (0 < (i : Int)) <;> cases decide ((nth p.Domains (i - 1)).Station < (nth p.Domains i).Station) <;> cases decide (((nth p.Domains i).Channels.length : Int) ≤ 50) <;> cases ((nth p.Domains i).Channels.all zau && adjB (fun a b => decide (a < b)) (nth p.Domains i).Channels) <;> rfl
end Go.Proofs.YtipomhejoajjdaaGreat
