/- Yt Vl Of: shortened and put together by squeeze.py. -/
import Derived.Test.YtipomhejoajjdaaGreatQ08
import Derived.Deep.Slices
import Derived.ChangeArms
set_option maxRecDepth 100000
set_option maxHeartbeats 4000000
set_option linter.unusedVariables false
set_option linter.unusedSectionVars false
set_option linter.unusedSimpArgs false
namespace Go.Proofs.YtipomhejoajjdaaGreat
open Go.RowKit
def zdj (l0_ : List Int) : Option (Option GReader) :=
  grd (room ([] ++ l0_).length 1) <|
  some (some (GReader.mk (Gfault.mk 0) true ([] ++ l0_) 0))
theorem zdS (F0 : Frz) (w : World) (hF0 : F0.At w) (l0_ : List Int) (v0_ : Value) (hO : Hp w (fps [.sl v0_ 5 1 l0_.length (l0_.flatMap (eK .u8))]) [.sl v0_ 5 1 l0_.length (l0_.flatMap (eK .u8))] w) (hA : ∀ g, fps [.sl v0_ 5 1 l0_.length (l0_.flatMap (eK .u8))] g → ¬ F0.S g) (r : Option GReader) (hr : zdj l0_ = some r) : Calls Tryz.prog 86 #[v0_] w fun e w' => ((r).isSome = true → ∃ (y : Nat × Value) (G : Frz), (True) ∧ e = .returned (.pointer (some ⟨y.1, 0, none⟩)) ∧ FxM F0 w (fps [.sl v0_ 5 1 l0_.length (l0_.flatMap (eK .u8))]) G [.sl v0_ 5 1 l0_.length (l0_.flatMap (eK .u8)), .row y.1 160 [.int .i64 ((r.getD default).fault.first), .bool ((r.getD default).made), y.2, .int .i64 ((r.getD default).at_)], .sl y.2 5 1 ((r.getD default).in_).length (((r.getD default).in_).flatMap (eK .u8))] w') ∧ ((r).isSome = false → ∃ (y : Unit) (G : Frz), (True) ∧ e = .returned (.pointer none) ∧ FxM F0 w (fps [.sl v0_ 5 1 l0_.length (l0_.flatMap (eK .u8))]) G [.sl v0_ 5 1 l0_.length (l0_.flatMap (eK .u8))] w') := by
  have hk := hr; unfold zdj at hk; haveI := zbK (hO.own (.sl v0_ 5 1 l0_.length (l0_.flatMap (eK .u8))) (by simp)); have hmx0_ := zbW (hO.own (.sl v0_ 5 1 l0_.length (l0_.flatMap (eK .u8))) (by simp)); obtain ⟨S0, F1, rfl, hS0, hp0⟩ := zaB hF0 hO hA; refine zao (hs := [.sl v0_ 5 1 l0_.length (l0_.flatMap (eK .u8)), .fr F1]) Tryz.func86 rfl rfl rfl hp0 ?_; refine T.sr ?_; refine TL.run 1 rfl ?_; refine TL.ns (T.seq ?_); have hq : (room ([] ++ l0_).length 1) ∧ _ := zax hk; clear hk; obtain ⟨g4, hk⟩ := hq; (try dsimp only at hk); refine T.region ?_; refine TL.run 1 rfl ?_; refine TL.slNil 5 1 ?_; refine TL.e (Ew.bb 0 1 (zf2 (fun _ => inferInstance)) rfl rfl rfl rfl rfl (zga ([] : List Int) l0_) (zfw (enc := (eK .u8)) ([] : List Int) l0_) g4 (by decide)) ?_; rintro v4 _ ⟨hv4, rfl⟩; refine TL.y (Yv.build rfl rfl) ?_; refine TL.e (Ew.av rfl rfl) ?_; rintro _ _ ⟨g6, rfl, rfl⟩; refine TL.run 1 rfl ?_; refine TL.ns (T.ret ?_); obtain rfl := Option.some.inj hk; exact K.ak rfl rfl (fun w' hw => ⟨fun _ => ⟨(g6, v4), F1.toFrz, trivial, rfl, FxM.of (hw.pick (idx := [2, 0, 1, 3]) rfl (by decide)) hS0 (Frz.Le.refl _)⟩, fun h => (by cases h)⟩)
def zbF (fuel : Nat) (l0_ : List Int) : Option (GProblem × Int) :=
  (bif decide (65536 < (l0_.length : Int)) then
    some ((GProblem.mk [] (GRules.mk [] [] [])), 5)
    else
    (zdj l0_).bind fun r11 =>
    (bif (r11).isSome then
      (zak fuel (r11.getD default) 512).bind fun r13 =>
      (zam (GReader.mk (Gfault.mk r13.2.1) ((r11.getD default).made) ((r11.getD default).in_) r13.2.2) 4096).bind fun r16 =>
      (zan (GReader.mk (Gfault.mk r16.2.1) ((r11.getD default).made) ((r11.getD default).in_) r16.2.2) 1024).bind fun r20 =>
      (zaq (GReader.mk (Gfault.mk r20.2.1) ((r11.getD default).made) ((r11.getD default).in_) r20.2.2) 1024).bind fun r24 =>
      zaY (fun (x_3 : Bool) =>
        (bif x_3 then
          some ((GProblem.mk [] (GRules.mk [] [] [])), 6)
          else
          some ((GProblem.mk r13.1 (GRules.mk r16.1 r20.1 r24.1)), 0)))
      (fun k4 =>
        (bif decide (¬ (zaw (GReader.mk (Gfault.mk r24.2.1) ((r11.getD default).made) ((r11.getD default).in_) r24.2.2)) = 0) then
          k4 true
          else
          (za6 (GProblem.mk r13.1 (GRules.mk r16.1 r20.1 r24.1))).bind fun r32 =>
          k4 (!r32)))
      else
      none))
theorem zd5 (F0 : Frz) (w : World) (hF0 : F0.At w) (l0_ : List Int) (v0_ : Value) (hO : Hp w (fps [.sl v0_ 5 1 l0_.length (l0_.flatMap (eK .u8))]) [.sl v0_ 5 1 l0_.length (l0_.flatMap (eK .u8))] w) (hA : ∀ g, fps [.sl v0_ 5 1 l0_.length (l0_.flatMap (eK .u8))] g → ¬ F0.S g) (fuel : Nat) (r : GProblem × Int) (hr : zbF fuel l0_ = some r) : Calls Tryz.prog 29 #[v0_] w fun e w' => ∃ (y : Value × List (List Value) × Value × Value × Value) (G : Frz), (SlD GDomain.rep G y.1 2 y.2.1 r.1.Domains ∧ SlC G y.2.2.1 5 (r.1.Rules.Pairs.map GPair.enc) ∧ SlC G y.2.2.2.1 5 (r.1.Rules.Loads.map GLoad.enc) ∧ SlC G y.2.2.2.2 4 (r.1.Rules.Caps.map GCap.enc)) ∧ e = .returned (.tuple #[.agg [y.1, y.2.2.1, y.2.2.2.1, y.2.2.2.2].toArray, .int .i64 r.2]) ∧ FxM F0 w (fps [.sl v0_ 5 1 l0_.length (l0_.flatMap (eK .u8))]) G [.sl v0_ 5 1 l0_.length (l0_.flatMap (eK .u8))] w' := by
  have hk := hr; unfold zbF at hk; haveI := zbK (hO.own (.sl v0_ 5 1 l0_.length (l0_.flatMap (eK .u8))) (by simp)); have hmx0_ := zbW (hO.own (.sl v0_ 5 1 l0_.length (l0_.flatMap (eK .u8))) (by simp)); obtain ⟨S0, F1, rfl, hS0, hp0⟩ := zaB hF0 hO hA; refine zao (hs := [.sl v0_ 5 1 l0_.length (l0_.flatMap (eK .u8)), .fr F1]) Tryz.func29 rfl rfl rfl hp0 ?_; refine T.sr ?_; refine TL.e (Ew.alloc rfl) ?_; rintro _ _ ⟨g2, rfl, rfl⟩; refine TL.run 1 rfl ?_; refine TL.ns (T.seq (T.sr ?_)); refine TL.run 1 rfl ?_; refine TL.y (Yv.aQ 1 rfl rfl rfl) ?_; refine TL.run 1 rfl ?_; refine TL.ns ?_; refine T.cond rfl (fun h1 => ?_) (fun h1 => ?_)
  · have p1 := of_decide_eq_true h1; replace hk := zab hk h1; refine T.sr ?_; refine TL.y (Yv.build rfl rfl) ?_; refine TL.e0 (Ew.ae 0 rfl rfl rfl rfl rfl rfl) ?_; rintro _ _ ⟨rfl, rfl⟩; refine TL.run 1 rfl ?_; refine TL.ns (T.ret (K.then_ret ?_)); obtain rfl := Option.some.inj hk; exact K.aD 0 rfl rfl rfl rfl rfl (fun w' hw => ⟨((.slice none 0 0), [], (.slice none 0 0), (.slice none 0 0), (.slice none 0 0)), F1.toFrz, ⟨(SlD.nil _ _ 2), (SlC.nil _ 5), (SlC.nil _ 5), (SlC.nil _ 4)⟩, rfl, FxM.of (hw.pick (idx := [1, 2]) rfl (by decide)) hS0 (Frz.Le.refl _)⟩)
  · have p1 := of_decide_eq_false h1; replace hk := zac hk h1; refine T.skip (K.seq (T.seq ?_)); have hq := zae hk; clear hk; obtain ⟨r11, hr11, hk⟩ := hq; (try dsimp only at hk); refine T.aH ((r11).isSome) (fun h2 => ?_) (fun h2 => ?_)
    · replace hk := zab hk h2; refine T.region ?_; refine TL.run 1 rfl ?_; refine TL.e (Ew.aB [1, 2, 0] [.sl v0_ 5 1 l0_.length (l0_.flatMap (eK .u8))] [.row g2 29 [(.slice none 0 0), (.slice none 0 0), (.slice none 0 0), (.slice none 0 0)]] rfl rfl rfl rfl (by decide) (fun w hw hw2 hF => (zdS _ w hF l0_ v0_ hw2.takes.1 hw2.takes.2 r11 hr11).mono (fun e w' hp => hp.1 h2))) ?_; rintro _ _ ⟨⟨g11_n, v11_n_2⟩, F2, le1_2, -, rfl, rfl⟩; dsimp only [List.cons_append, List.nil_append]; refine TL.ax 2 rfl ?_; intro iv11_n_2 hmv11_n_2; refine TL.run 1 rfl ?_; refine TL.nx ?_; refine TL.e (Ew.alloc rfl) ?_; rintro _ _ ⟨g5, rfl, rfl⟩; refine TL.ns (T.seq ?_); have hq := zae hk; clear hk; obtain ⟨r13, hr13, hk⟩ := hq; (try dsimp only at hk); refine T.region ?_; refine TL.run 1 rfl ?_; refine TL.e (Ew.aB [2, 3, 4, 0, 1, 5] [.row g11_n 160 [.int .i64 ((r11.getD default).fault.first), .bool ((r11.getD default).made), v11_n_2, .int .i64 ((r11.getD default).at_)], .sl v11_n_2 5 1 ((r11.getD default).in_).length (((r11.getD default).in_).flatMap (eK .u8))] [.row g5 29 [(.slice none 0 0), (.slice none 0 0), (.slice none 0 0), (.slice none 0 0)], .sl v0_ 5 1 l0_.length (l0_.flatMap (eK .u8)), .row g2 29 [(.slice none 0 0), (.slice none 0 0), (.slice none 0 0), (.slice none 0 0)]] rfl rfl rfl rfl (by decide) (fun w hw hw2 hF => zbl _ w hF (r11.getD default) g11_n v11_n_2 512 hw2.takes.1 hw2.takes.2 fuel r13 hr13)) ?_; rintro _ _ ⟨⟨v13_0_0, cs13_0_0⟩, F3, le2_3, hf13_0_0, hq, rfl⟩; obtain rfl := hq.symm; dsimp only [List.cons_append, List.nil_append]; (try dsimp only at hf13_0_0); have le1_3 := le1_2.trans le2_3; haveI := hf13_0_0.1.oneC; refine TL.y (Yv.fieldAddr rfl rfl) ?_; refine TL.e0 (Ew.am 3 rfl rfl rfl rfl (by simp)) ?_; rintro _ _ ⟨rfl, rfl⟩; refine TL.ns (T.seq ?_); have hq := zae hk; clear hk; obtain ⟨r16, hr16, hk⟩ := hq; (try dsimp only at hk); refine T.region ?_; refine TL.run 1 rfl ?_; refine TL.e (Ew.aB [0, 1, 2, 3, 4, 5] [.row g11_n 160 [.int .i64 r13.2.1, .bool ((r11.getD default).made), v11_n_2, .int .i64 r13.2.2], .sl v11_n_2 5 1 ((r11.getD default).in_).length (((r11.getD default).in_).flatMap (eK .u8))] [.row g5 29 [v13_0_0, (.slice none 0 0), (.slice none 0 0), (.slice none 0 0)], .sl v0_ 5 1 l0_.length (l0_.flatMap (eK .u8)), .row g2 29 [(.slice none 0 0), (.slice none 0 0), (.slice none 0 0), (.slice none 0 0)]] rfl rfl rfl rfl (by decide) (fun w hw hw2 hF => zby _ w hF (GReader.mk (Gfault.mk r13.2.1) ((r11.getD default).made) ((r11.getD default).in_) r13.2.2) g11_n v11_n_2 4096 hw2.takes.1 hw2.takes.2 r16 hr16)) ?_; rintro _ _ ⟨v16_0_0, F4, le3_4, hf16_0_0, hq, rfl⟩; obtain rfl := hq.symm; dsimp only [List.cons_append, List.nil_append]; have le1_4 := le1_3.trans le3_4; haveI := hf16_0_0.oneC; refine TL.y (Yv.fieldAddr rfl rfl) ?_; refine TL.y (Yv.fieldAddr rfl rfl) ?_; refine TL.e0 (Ew.am 3 rfl rfl rfl rfl (by simp)) ?_; rintro _ _ ⟨rfl, rfl⟩; refine TL.ns (T.seq ?_); have hq := zae hk; clear hk; obtain ⟨r20, hr20, hk⟩ := hq; (try dsimp only at hk); refine T.region ?_; refine TL.run 1 rfl ?_; refine TL.e (Ew.aB [0, 1, 2, 3, 4, 5] [.row g11_n 160 [.int .i64 r16.2.1, .bool ((r11.getD default).made), v11_n_2, .int .i64 r16.2.2], .sl v11_n_2 5 1 ((r11.getD default).in_).length (((r11.getD default).in_).flatMap (eK .u8))] [.row g5 29 [v13_0_0, v16_0_0, (.slice none 0 0), (.slice none 0 0)], .sl v0_ 5 1 l0_.length (l0_.flatMap (eK .u8)), .row g2 29 [(.slice none 0 0), (.slice none 0 0), (.slice none 0 0), (.slice none 0 0)]] rfl rfl rfl rfl (by decide) (fun w hw hw2 hF => zbz _ w hF (GReader.mk (Gfault.mk r16.2.1) ((r11.getD default).made) ((r11.getD default).in_) r16.2.2) g11_n v11_n_2 1024 hw2.takes.1 hw2.takes.2 r20 hr20)) ?_
      rintro _ _ ⟨v20_0_0, F5, le4_5, hf20_0_0, hq, rfl⟩; obtain rfl := hq.symm; dsimp only [List.cons_append, List.nil_append]; have le1_5 := le1_4.trans le4_5; have le3_5 := le3_4.trans le4_5; haveI := hf20_0_0.oneC; refine TL.y (Yv.fieldAddr rfl rfl) ?_; refine TL.y (Yv.fieldAddr rfl rfl) ?_; refine TL.e0 (Ew.am 3 rfl rfl rfl rfl (by simp)) ?_; rintro _ _ ⟨rfl, rfl⟩; refine TL.ns (T.seq ?_); have hq := zae hk; clear hk; obtain ⟨r24, hr24, hk⟩ := hq; (try dsimp only at hk); refine T.region ?_; refine TL.run 1 rfl ?_; refine TL.e (Ew.aB [0, 1, 2, 3, 4, 5] [.row g11_n 160 [.int .i64 r20.2.1, .bool ((r11.getD default).made), v11_n_2, .int .i64 r20.2.2], .sl v11_n_2 5 1 ((r11.getD default).in_).length (((r11.getD default).in_).flatMap (eK .u8))] [.row g5 29 [v13_0_0, v16_0_0, v20_0_0, (.slice none 0 0)], .sl v0_ 5 1 l0_.length (l0_.flatMap (eK .u8)), .row g2 29 [(.slice none 0 0), (.slice none 0 0), (.slice none 0 0), (.slice none 0 0)]] rfl rfl rfl rfl (by decide) (fun w hw hw2 hF => zbB _ w hF (GReader.mk (Gfault.mk r20.2.1) ((r11.getD default).made) ((r11.getD default).in_) r20.2.2) g11_n v11_n_2 1024 hw2.takes.1 hw2.takes.2 r24 hr24)) ?_; rintro _ _ ⟨v24_0_0, F6, le5_6, hf24_0_0, hq, rfl⟩; obtain rfl := hq.symm; dsimp only [List.cons_append, List.nil_append]; have le1_6 := le1_5.trans le5_6; have le3_6 := le3_5.trans le5_6; have le4_6 := le4_5.trans le5_6; haveI := hf24_0_0.oneC; refine TL.y (Yv.fieldAddr rfl rfl) ?_; refine TL.y (Yv.fieldAddr rfl rfl) ?_; refine TL.e0 (Ew.am 3 rfl rfl rfl rfl (by simp)) ?_; rintro _ _ ⟨rfl, rfl⟩; refine TL.ns (T.seq (T.seq ?_)); (try dsimp only at hk); have hq := zaf hk; clear hk; obtain ⟨k4, hk4, hk⟩ := hq; (try dsimp only at hk); refine T.ag (ι := Bool) (fun z => [(2, .pointer (some ⟨g2, 0, none⟩)), (5, .pointer (some ⟨g5, 0, none⟩)), (34, .bool z)]) (fun z => [.row g5 29 [v13_0_0, v16_0_0, v20_0_0, v24_0_0], .sl v0_ 5 1 l0_.length (l0_.flatMap (eK .u8)), .row g2 29 [(.slice none 0 0), (.slice none 0 0), (.slice none 0 0), (.slice none 0 0)], .fr F6]) (fun z => k4 z = some r) ?_ ?_
      · refine T.region ?_; refine TL.run 1 rfl ?_; refine TL.e (Ew.aj [0, 1, 2, 3, 4, 5] [.row g11_n 160 [.int .i64 r24.2.1, .bool ((r11.getD default).made), v11_n_2, .int .i64 r24.2.2], .sl v11_n_2 5 1 ((r11.getD default).in_).length (((r11.getD default).in_).flatMap (eK .u8))] [.row g5 29 [v13_0_0, v16_0_0, v20_0_0, v24_0_0], .sl v0_ 5 1 l0_.length (l0_.flatMap (eK .u8)), .row g2 29 [(.slice none 0 0), (.slice none 0 0), (.slice none 0 0), (.slice none 0 0)]] rfl rfl rfl rfl (by decide) (fun w hw hw2 hF => zcl _ w hF (GReader.mk (Gfault.mk r24.2.1) ((r11.getD default).made) ((r11.getD default).in_) r24.2.2) g11_n v11_n_2 hw2.takes.1 hw2.takes.2)) ?_; rintro _ _ ⟨⟨⟩, -, rfl, rfl⟩; dsimp only [List.cons_append, List.nil_append]; refine TL.run 2 rfl ?_; refine TL.gs rfl rfl rfl (fun h5 => ?_) (fun h5 => ?_)
        · have p5 := of_decide_eq_true h5; replace hk := zab hk h5; refine TL.run 4 rfl ?_; refine TL.nil ?_; refine K.pick [3, 4, 5, 2] rfl (by decide) ?_; exact K.ai true hk (.c (.c (.c .nil))) (List.Sublist.refl _)
        · have p5 := of_decide_eq_false h5; replace hk := zac hk h5; refine TL.y (Yv.al 3 rfl rfl rfl rfl) ?_; have hq := zae hk; clear hk; obtain ⟨r32, hr32, hk⟩ := hq; refine TL.e (Ew.af rfl rfl rfl (fun w hw => zbP _ w (hw.fr (i := 2) rfl) (GProblem.mk r13.1 (GRules.mk r16.1 r20.1 r24.1)) v13_0_0 cs13_0_0 (SlD.mono (rep := GDomain.rep) (fun _ _ _ _ => GDomain.mono) hf13_0_0 le3_6) v16_0_0 (SlC.mono hf16_0_0 le4_6) v20_0_0 (SlC.mono hf20_0_0 le5_6) v24_0_0 hf24_0_0 r32 hr32)) ?_; rintro _ _ ⟨rfl, rfl⟩; refine TL.run 2 rfl ?_; refine TL.nil ?_; refine K.pick [3, 4, 5, 2] rfl (by decide) ?_; exact K.ai (!r32) hk (.c (.c (.c .nil))) (List.Sublist.refl _)
      · rintro x_3 hk; rw [← hk4] at hk; (try dsimp only at hk); refine T.cond rfl (fun h6 => ?_) (fun h6 => ?_)
        · replace hk := zab hk h6; refine T.sr ?_; refine TL.y (Yv.build rfl rfl) ?_; refine TL.e0 (Ew.ae 2 rfl rfl rfl rfl rfl rfl) ?_; rintro _ _ ⟨rfl, rfl⟩; refine TL.run 1 rfl ?_; refine TL.ns (T.ret (K.then_ret ?_)); obtain rfl := Option.some.inj hk; exact K.aD 2 rfl rfl rfl rfl rfl (fun w' hw => ⟨((.slice none 0 0), [], (.slice none 0 0), (.slice none 0 0), (.slice none 0 0)), F6.toFrz, ⟨(SlD.nil _ _ 2), (SlC.nil _ 5), (SlC.nil _ 5), (SlC.nil _ 4)⟩, rfl, FxM.of (hw.pick (idx := [1, 3]) rfl (by decide)) hS0 le1_6⟩)
        · replace hk := zac hk h6; refine T.skip (K.seq (T.sr ?_)); refine TL.y (Yv.al 0 rfl rfl rfl rfl) ?_; refine TL.e0 (Ew.ae 2 rfl rfl rfl rfl rfl rfl) ?_; rintro _ _ ⟨rfl, rfl⟩; refine TL.run 1 rfl ?_; refine TL.ns (T.ret ?_); obtain rfl := Option.some.inj hk; exact K.aD 2 rfl rfl rfl rfl rfl (fun w' hw => ⟨(v13_0_0, cs13_0_0, v16_0_0, v20_0_0, v24_0_0), F6.toFrz, ⟨(SlD.mono (rep := GDomain.rep) (fun _ _ _ _ => GDomain.mono) hf13_0_0 le3_6), (SlC.mono hf16_0_0 le4_6), (SlC.mono hf20_0_0 le5_6), hf24_0_0⟩, rfl, FxM.of (hw.pick (idx := [1, 3]) rfl (by decide)) hS0 le1_6⟩)
    · replace hk := zac hk h2; refine T.region ?_; refine TL.run 1 rfl ?_; refine TL.e (Ew.aB [1, 2, 0] [.sl v0_ 5 1 l0_.length (l0_.flatMap (eK .u8))] [.row g2 29 [(.slice none 0 0), (.slice none 0 0), (.slice none 0 0), (.slice none 0 0)]] rfl rfl rfl rfl (by decide) (fun w hw hw2 hF => (zdS _ w hF l0_ v0_ hw2.takes.1 hw2.takes.2 r11 hr11).mono (fun e w' hp => hp.2 h2))) ?_; rintro _ _ ⟨⟨⟩, F7, le1_7, -, rfl, rfl⟩; dsimp only [List.cons_append, List.nil_append]; refine TL.run 1 rfl ?_; refine TL.nx ?_; refine TL.e (Ew.alloc rfl) ?_; rintro _ _ ⟨g5, rfl, rfl⟩; refine TL.ns (T.seq ?_); cases hk
def zbT (fuel : Nat)  : Option Bool :=
  zaY (fun (s5 : List GDomain × List GPair × List GLoad × List GCap) =>
    zaY (fun (s17 : List GDomain × List GPair × List GLoad × List GCap) =>
      (zbH fuel (GProblem.mk s17.1 (GRules.mk s17.2.1 s17.2.2.1 s17.2.2.2))).bind fun r104 =>
      (zbF fuel r104.1).bind fun r109 =>
      (bif ((((decide (¬ r104.2 = 0)) || (decide (¬ r109.2 = 0))) || (decide (65536 < (r104.1.length : Int)))) || (!(zbS (GProblem.mk s17.1 (GRules.mk s17.2.1 s17.2.2.1 s17.2.2.2)) r109.1))) then
        some false
        else
        grd (room (r104.1 ++ [0]).length 1) <|
        (za0 fuel (r104.1 ++ [0])).bind fun r133 =>
        grd (room 65537 1) <|
        (za0 fuel (List.replicate 65537 0)).bind fun r138 =>
        grd (room ([] ++ s17.2.2.2).length 32) <|
        grd (room (([] ++ s17.2.2.2) ++ [(GCap.mk 99 0 2 2)]).length 32) <|
        (zaV (GRules.mk s17.2.1 s17.2.2.1 s17.2.2.2)).bind fun r153 =>
        zaY (fun (x_67 : Bool) =>
          some x_67)
        (fun k68 =>
          (bif r153 then
            (zaV (GRules.mk s17.2.1 s17.2.2.1 (([] ++ s17.2.2.2) ++ [(GCap.mk 99 0 2 2)]))).bind fun r156 =>
            (bif !r156 then
              (bif decide (r133.2 = 6) then
                (bif decide (r138.2 = 5) then
                  (zct fuel).bind fun r168 =>
                  k68 r168
                  else
                  k68 false)
                else
                k68 false)
              else
              k68 false)
            else
            k68 false))))
    (fun k17 =>
      zal (fun (a_23 : Nat) (next22 : (List GDomain × List GPair × List GLoad × List GCap) → Option Bool) (s22 : List GDomain × List GPair × List GLoad × List GCap) =>
        zaY (fun (s29 : List GDomain × List GPair × List GLoad × List GCap) =>
          zaY (fun (s43 : List GDomain × List GPair × List GLoad × List GCap) =>
            zcm (fun (next59 : (Int × List GDomain × List GPair × List GLoad × List GCap) → Option Bool) (s59 : Int × List GDomain × List GPair × List GLoad × List GCap) =>
              (bif ((decide (s59.1 < 50)) && (decide ((s59.2.2.2.2.length : Int) < 1024))) then
                grd (room (s59.2.2.2.2 ++ [(GCap.mk (a_23 : Int) 1099511627776 (wI (s59.1 + 2)) 51)]).length 32) <|
                next59 (wI (s59.1 + 1), s59.2.1, s59.2.2.1, s59.2.2.2.1, (s59.2.2.2.2 ++ [(GCap.mk (a_23 : Int) 1099511627776 (wI (s59.1 + 2)) 51)]))
                else
                next22 (s59.2.1, s59.2.2.1, s59.2.2.2.1, s59.2.2.2.2))) fuel (0, s43.1, s43.2.1, s43.2.2.1, s43.2.2.2))
          (fun k43 =>
            zcm (fun (next49 : (Int × List GDomain × List GPair × List GLoad × List GCap) → Option Bool) (s49 : Int × List GDomain × List GPair × List GLoad × List GCap) =>
              (bif ((decide (s49.1 < 100)) && (decide ((s49.2.2.2.1.length : Int) < 1024))) then
                (bif decide (¬ (a_23 : Int) = s49.1) then
                  grd (room (s49.2.2.2.1 ++ [(GLoad.mk (a_23 : Int) s49.1 1073741824 2 51)]).length 40) <|
                  next49 (wI (s49.1 + 1), s49.2.1, s49.2.2.1, (s49.2.2.2.1 ++ [(GLoad.mk (a_23 : Int) s49.1 1073741824 2 51)]), s49.2.2.2.2)
                  else
                  next49 ((s49.1 + 1), s49.2.1, s49.2.2.1, s49.2.2.2.1, s49.2.2.2.2))
                else
                k43 (s49.2.1, s49.2.2.1, s49.2.2.2.1, s49.2.2.2.2))) fuel (0, s29.1, s29.2.1, s29.2.2.1, s29.2.2.2)))
        (fun k29 =>
          zcm (fun (next35 : (Int × List GDomain × List GPair × List GLoad × List GCap) → Option Bool) (s35 : Int × List GDomain × List GPair × List GLoad × List GCap) =>
            (bif ((decide (s35.1 < 100)) && (decide ((s35.2.2.1.length : Int) < 4096))) then
              grd (room (s35.2.2.1 ++ [(GPair.mk (a_23 : Int) s35.1 0 2 51)]).length 40) <|
              next35 (wI (s35.1 + 1), s35.2.1, (s35.2.2.1 ++ [(GPair.mk (a_23 : Int) s35.1 0 2 51)]), s35.2.2.2.1, s35.2.2.2.2)
              else
              k29 (s35.2.1, s35.2.2.1, s35.2.2.2.1, s35.2.2.2.2))) fuel (((a_23 : Int) + 1), s22.1, s22.2.1, s22.2.2.1, s22.2.2.2)))
      (fun (s22 : List GDomain × List GPair × List GLoad × List GCap) =>
        k17 (s22.1, s22.2.1, s22.2.2.1, s22.2.2.2)) (99 - 0) 0 (s5.1, s5.2.1, s5.2.2.1, s5.2.2.2)))
  (fun k5 =>
    zal (fun (i_11 : Nat) (next10 : (List GDomain × List GPair × List GLoad × List GCap) → Option Bool) (s10 : List GDomain × List GPair × List GLoad × List GCap) =>
      grd (room (s10.1 ++ [(GDomain.mk (i_11 : Int) [2, 51])]).length 32) <|
      next10 ((s10.1 ++ [(GDomain.mk (i_11 : Int) [2, 51])]), s10.2.1, s10.2.2.1, s10.2.2.2))
    (fun (s10 : List GDomain × List GPair × List GLoad × List GCap) =>
      k5 (s10.1, s10.2.1, s10.2.2.1, s10.2.2.2)) (100 - 0) 0 ([], [], [], []))
theorem zdF (F0 : Frz) (w : World) (hF0 : F0.At w)  (fuel : Nat) (r : Bool) (hr : zbT fuel = some r) : Calls Tryz.prog 7 #[] w fun e w' => e = .returned (.bool r) ∧ Below w.heap.size w w' := by
  have hk := hr; unfold zbT at hk; obtain ⟨S0, F1, rfl, hS0, hp0⟩ := zas hF0; refine zao Tryz.func7 rfl rfl rfl hp0 ?_; refine T.sr ?_; refine TL.run 1 rfl ?_; refine TL.nx ?_; refine TL.e (Ew.alloc rfl) ?_; rintro _ _ ⟨g1, rfl, rfl⟩; refine TL.slNil 66 2 ?_; refine TL.slNil 68 5 ?_; refine TL.slNil 70 5 ?_; refine TL.slNil 72 4 ?_; refine TL.ns (T.seq (T.sr ?_)); refine TL.run 1 rfl ?_; refine TL.ns ?_; have hq := zaf hk; clear hk; obtain ⟨k5, hk5, hk⟩ := hq; (try dsimp only at hk); refine T.ag (ι := List GDomain × Value × List (List Value) × List GPair × Value × List GLoad × Value × List GCap × Value × FzB w (fun _ => False) S0) (fun z => [(1, .pointer (some ⟨g1, 0, none⟩))]) (fun z => [.sl z.2.1 66 2 z.1.length z.2.2.1.flatten, .sl z.2.2.2.2.1 68 5 z.2.2.2.1.length (z.2.2.2.1.flatMap GPair.enc), .sl z.2.2.2.2.2.2.1 70 5 z.2.2.2.2.2.1.length (z.2.2.2.2.2.1.flatMap GLoad.enc), .sl z.2.2.2.2.2.2.2.2.1 72 4 z.2.2.2.2.2.2.2.1.length (z.2.2.2.2.2.2.2.1.flatMap GCap.enc), .row g1 29 [z.2.1, z.2.2.2.2.1, z.2.2.2.2.2.2.1, z.2.2.2.2.2.2.2.2.1], .fr z.2.2.2.2.2.2.2.2.2]) (fun z => k5 (z.1, z.2.2.2.1, z.2.2.2.2.2.1, z.2.2.2.2.2.2.2.1) = some r ∧ OwnD GDomain.rep z.2.2.2.2.2.2.2.2.2.toFrz 2 z.2.2.1 z.1 ∧ OneC z.2.1 ∧ OneC z.2.2.2.2.1 ∧ OneC z.2.2.2.2.2.2.1 ∧ OneC z.2.2.2.2.2.2.2.2.1 ∧ F1.toFrz.Le z.2.2.2.2.2.2.2.2.2.toFrz) ?_ ?_
  · have hq := zap hk; clear hk; obtain ⟨f10, kk10, hf10, hkk10, hk⟩ := hq; refine T.block ?_; refine T.pick [3, 2, 1, 0, 4, 5] rfl (by decide) ?_; refine T.loop (ι := Nat × List GDomain × Value × List (List Value) × List GPair × Value × List GLoad × Value × List GCap × Value × FzB w (fun _ => False) S0) (fun z => [(1, .pointer (some ⟨g1, 0, none⟩)), (2, .int .i64 (z.1 : Int))]) (fun z => [.sl z.2.2.1 66 2 z.2.1.length z.2.2.2.1.flatten, .sl z.2.2.2.2.2.1 68 5 z.2.2.2.2.1.length (z.2.2.2.2.1.flatMap GPair.enc), .sl z.2.2.2.2.2.2.2.1 70 5 z.2.2.2.2.2.2.1.length (z.2.2.2.2.2.2.1.flatMap GLoad.enc), .sl z.2.2.2.2.2.2.2.2.2.1 72 4 z.2.2.2.2.2.2.2.2.1.length (z.2.2.2.2.2.2.2.2.1.flatMap GCap.enc), .row g1 29 [z.2.2.1, z.2.2.2.2.2.1, z.2.2.2.2.2.2.2.1, z.2.2.2.2.2.2.2.2.2.1], .fr z.2.2.2.2.2.2.2.2.2.2]) (fun z => zal f10 kk10 (100 - z.1) z.1 (z.2.1, z.2.2.2.2.1, z.2.2.2.2.2.2.1, z.2.2.2.2.2.2.2.2.1) = some r ∧ OwnD GDomain.rep z.2.2.2.2.2.2.2.2.2.2.toFrz 2 z.2.2.2.1 z.2.1 ∧ OneC z.2.2.1 ∧ OneC z.2.2.2.2.2.1 ∧ OneC z.2.2.2.2.2.2.2.1 ∧ OneC z.2.2.2.2.2.2.2.2.2.1 ∧ F1.toFrz.Le z.2.2.2.2.2.2.2.2.2.2.toFrz) (fun z => 100 - z.1) (0, [], (.slice none 0 0), [], [], (.slice none 0 0), [], (.slice none 0 0), [], (.slice none 0 0), F1) ?_ ?_ ?_ ?_
    · exact ⟨hk, (OwnD.nil _ _ 2), inferInstance, inferInstance, inferInstance, inferInstance, (Frz.Le.refl _)⟩
    · exact (.c (.c .nil))
    · exact List.Sublist.refl _
    · rintro ⟨i_11, c_6, vc_6, cc_6, c_7, vc_7, c_8, vc_8, c_9, vc_9, F3⟩ ⟨hk, hc_6, oc_6, oc_7, oc_8, oc_9, le1_3⟩; (try dsimp only at *); refine T.seq (T.sr ?_); refine TL.run 2 rfl ?_; refine TL.ns ?_; refine T.cond rfl (fun h12 => ?_) (fun h12 => ?_)
      · have p12 := of_decide_eq_true h12; rw [zaF (by omega)] at hk; generalize hn10 : zal f10 kk10 (100 - (i_11 + 1)) (i_11 + 1) = next10 at hk; rw [← hf10] at hk; (try dsimp only at hk); refine T.skip (K.seq (T.seq (T.block ?_))); have hq : (room (c_6 ++ [(GDomain.mk (i_11 : Int) [2, 51])]).length 32) ∧ _ := zax hk; clear hk; obtain ⟨g27, hk⟩ := hq; (try dsimp only at hk); refine T.region ?_; refine TL.y (Yv.fieldAddr rfl rfl) ?_; refine TL.y (Yv.aa 4 rfl rfl rfl rfl) ?_; refine TL.run 1 rfl ?_; refine TL.e (Ew.buildSlice rfl rfl rfl (by decide)) ?_; rintro _ _ ⟨g24, rfl, rfl⟩; refine TL.au (fun w hw => hw.freezeR (i := 6) (j := 0) (by decide) rfl rfl) ?_; rintro F4 ⟨le3_4, hz4⟩; dsimp only [List.set, List.eraseIdx]; have le1_4 := le1_3.trans le3_4; have hf4 : SlC F4.toFrz (.slice (some ⟨g24, 0, none⟩) 2 2) 1 ([2, 51].map eI) := (SlK.lit hz4 rfl (Nat.le_refl _) (by decide)).toF (xs := [2, 51]) rfl (fun _ => rfl); refine TL.y (Yv.build rfl rfl) ?_; refine TL.e (Ew.buildSlice rfl rfl rfl (by decide)) ?_; rintro _ _ ⟨g26, rfl, rfl⟩; have hl26 : OwnD GDomain.rep F4.toFrz 2 [[.int .i64 (i_11 : Int), (.slice (some ⟨g24, 0, none⟩) 2 2)]] [(GDomain.mk (i_11 : Int) [2, 51])] := (OwnD.snoc (OwnD.nil _ _ 2) ⟨_, rfl, hf4⟩ rfl); refine TL.e (Ew.as 1 0 rfl rfl rfl rfl rfl rfl (zbX (ys := [(GDomain.mk (i_11 : Int) [2, 51])]) rfl) (zdv (cs := cc_6) (ds := [[.int .i64 (i_11 : Int), (.slice (some ⟨g24, 0, none⟩) 2 2)]])) g27 (by decide)) ?_; rintro v27 _ ⟨hv27, rfl⟩; have ho27 : OwnD GDomain.rep F4.toFrz 2 (cc_6 ++ [[.int .i64 (i_11 : Int), (.slice (some ⟨g24, 0, none⟩) 2 2)]]) (c_6 ++ [(GDomain.mk (i_11 : Int) [2, 51])]) := (OwnD.snoc (OwnD.mono (rep := GDomain.rep) (fun _ _ _ _ => GDomain.mono) hc_6 le3_4) ⟨_, rfl, hf4⟩ rfl); refine TL.y (Yv.fieldAddr rfl rfl) ?_; refine TL.e0 (Ew.am 5 rfl rfl rfl rfl (by simp)) ?_; rintro _ _ ⟨rfl, rfl⟩; refine TL.nil (K.ac (K.seq (T.region ?_))); refine TL.run 1 rfl ?_; refine TL.y (Yv.aq rfl rfl rfl (by omega)) ?_; refine TL.run 1 rfl ?_; refine TL.nil ?_; rw [← hn10] at hk; refine K.pick [1, 2, 3, 4, 5, 6] rfl (by decide) ?_; exact K.next ((i_11 + 1), (c_6 ++ [(GDomain.mk (i_11 : Int) [2, 51])]), v27, (cc_6 ++ [[.int .i64 (i_11 : Int), (.slice (some ⟨g24, 0, none⟩) 2 2)]]), c_7, vc_7, c_8, vc_8, c_9, vc_9, F4) ⟨hk, ho27, inferInstance, inferInstance, inferInstance, inferInstance, le1_4⟩ (by dsimp only; omega) (.c (.c .nil)) (List.Sublist.refl _)
      · have p12 := of_decide_eq_false h12; rw [zaD (by omega), ← hkk10] at hk; (try dsimp only at hk); refine T.exit (K.ab (K.ab (K.ad ?_))); exact K.ai (c_6, vc_6, cc_6, c_7, vc_7, c_8, vc_8, c_9, vc_9, F3) ⟨hk, hc_6, inferInstance, inferInstance, inferInstance, inferInstance, le1_3⟩ (.c .nil) (List.Sublist.refl _)
  · rintro ⟨c_1, vc_1, cc_1, c_2, vc_2, c_3, vc_3, c_4, vc_4, F2⟩ ⟨hk, hc_1, oc_1, oc_2, oc_3, oc_4, le1_2⟩; (try dsimp only at *); rw [← hk5] at hk; (try dsimp only at hk); refine T.seq (T.sr ?_); refine TL.run 1 rfl ?_; refine TL.ns ?_; have hq := zaf hk; clear hk; obtain ⟨k17, hk17, hk⟩ := hq; (try dsimp only at hk); refine T.ag (ι := List GDomain × Value × List (List Value) × List GPair × Value × List GLoad × Value × List GCap × Value) (fun z => [(1, .pointer (some ⟨g1, 0, none⟩))]) (fun z => [.sl z.2.1 66 2 z.1.length z.2.2.1.flatten, .sl z.2.2.2.2.1 68 5 z.2.2.2.1.length (z.2.2.2.1.flatMap GPair.enc), .sl z.2.2.2.2.2.2.1 70 5 z.2.2.2.2.2.1.length (z.2.2.2.2.2.1.flatMap GLoad.enc), .sl z.2.2.2.2.2.2.2.2 72 4 z.2.2.2.2.2.2.2.1.length (z.2.2.2.2.2.2.2.1.flatMap GCap.enc), .row g1 29 [z.2.1, z.2.2.2.2.1, z.2.2.2.2.2.2.1, z.2.2.2.2.2.2.2.2], .fr F2]) (fun z => k17 (z.1, z.2.2.2.1, z.2.2.2.2.2.1, z.2.2.2.2.2.2.2.1) = some r ∧ OwnD GDomain.rep F2.toFrz 2 z.2.2.1 z.1 ∧ OneC z.2.1 ∧ OneC z.2.2.2.2.1 ∧ OneC z.2.2.2.2.2.2.1 ∧ OneC z.2.2.2.2.2.2.2.2) ?_ ?_
    · have hq := zap hk; clear hk; obtain ⟨f22, kk22, hf22, hkk22, hk⟩ := hq; refine T.block ?_; refine T.loop (ι := Nat × List GDomain × Value × List (List Value) × List GPair × Value × List GLoad × Value × List GCap × Value) (fun z => [(1, .pointer (some ⟨g1, 0, none⟩)), (3, .int .i64 (z.1 : Int))]) (fun z => [.sl z.2.2.1 66 2 z.2.1.length z.2.2.2.1.flatten, .sl z.2.2.2.2.2.1 68 5 z.2.2.2.2.1.length (z.2.2.2.2.1.flatMap GPair.enc), .sl z.2.2.2.2.2.2.2.1 70 5 z.2.2.2.2.2.2.1.length (z.2.2.2.2.2.2.1.flatMap GLoad.enc), .sl z.2.2.2.2.2.2.2.2.2 72 4 z.2.2.2.2.2.2.2.2.1.length (z.2.2.2.2.2.2.2.2.1.flatMap GCap.enc), .row g1 29 [z.2.2.1, z.2.2.2.2.2.1, z.2.2.2.2.2.2.2.1, z.2.2.2.2.2.2.2.2.2], .fr F2]) (fun z => zal f22 kk22 (99 - z.1) z.1 (z.2.1, z.2.2.2.2.1, z.2.2.2.2.2.2.1, z.2.2.2.2.2.2.2.2.1) = some r ∧ OwnD GDomain.rep F2.toFrz 2 z.2.2.2.1 z.2.1 ∧ OneC z.2.2.1 ∧ OneC z.2.2.2.2.2.1 ∧ OneC z.2.2.2.2.2.2.2.1 ∧ OneC z.2.2.2.2.2.2.2.2.2) (fun z => 99 - z.1) (0, c_1, vc_1, cc_1, c_2, vc_2, c_3, vc_3, c_4, vc_4) ?_ ?_ ?_ ?_
      · exact ⟨hk, hc_1, inferInstance, inferInstance, inferInstance, inferInstance⟩
      · exact (.c (.c .nil))
      · exact List.Sublist.refl _
      · rintro ⟨a_23, c_18, vc_18, cc_18, c_19, vc_19, c_20, vc_20, c_21, vc_21⟩ ⟨hk, hc_18, oc_18, oc_19, oc_20, oc_21⟩; (try dsimp only at *); refine T.seq (T.sr ?_); refine TL.run 2 rfl ?_; refine TL.ns ?_; refine T.cond rfl (fun h24 => ?_) (fun h24 => ?_)
        · have p24 := of_decide_eq_true h24; rw [zaF (by omega)] at hk; generalize hn22 : zal f22 kk22 (99 - (a_23 + 1)) (a_23 + 1) = next22 at hk; rw [← hf22] at hk; (try dsimp only at hk); refine T.skip (K.seq (T.seq (T.block (T.seq (T.sr ?_))))); refine TL.run 1 rfl ?_; refine TL.y (Yv.aq rfl rfl rfl (by omega)) ?_; refine TL.run 1 rfl ?_; refine TL.ns ?_; have hq := zaf hk; clear hk; obtain ⟨k29, hk29, hk⟩ := hq; (try dsimp only at hk); refine T.ag (ι := List GDomain × Value × List (List Value) × List GPair × Value × List GLoad × Value × List GCap × Value) (fun z => [(1, .pointer (some ⟨g1, 0, none⟩)), (3, .int .i64 (a_23 : Int))]) (fun z => [.sl z.2.1 66 2 z.1.length z.2.2.1.flatten, .sl z.2.2.2.2.1 68 5 z.2.2.2.1.length (z.2.2.2.1.flatMap GPair.enc), .sl z.2.2.2.2.2.2.1 70 5 z.2.2.2.2.2.1.length (z.2.2.2.2.2.1.flatMap GLoad.enc), .sl z.2.2.2.2.2.2.2.2 72 4 z.2.2.2.2.2.2.2.1.length (z.2.2.2.2.2.2.2.1.flatMap GCap.enc), .row g1 29 [z.2.1, z.2.2.2.2.1, z.2.2.2.2.2.2.1, z.2.2.2.2.2.2.2.2], .fr F2]) (fun z => k29 (z.1, z.2.2.2.1, z.2.2.2.2.2.1, z.2.2.2.2.2.2.2.1) = some r ∧ OwnD GDomain.rep F2.toFrz 2 z.2.2.1 z.1 ∧ OneC z.2.1 ∧ OneC z.2.2.2.2.1 ∧ OneC z.2.2.2.2.2.2.1 ∧ OneC z.2.2.2.2.2.2.2.2) ?_ ?_
          · have hq := zc0 hk; clear hk; obtain ⟨f35, hf35, hk⟩ := hq; refine T.block ?_; refine T.loop (ι := Nat × Int × List GDomain × Value × List (List Value) × List GPair × Value × List GLoad × Value × List GCap × Value) (fun z => [(1, .pointer (some ⟨g1, 0, none⟩)), (3, .int .i64 (a_23 : Int)), (4, .int .i64 z.2.1)]) (fun z => [.sl z.2.2.2.1 66 2 z.2.2.1.length z.2.2.2.2.1.flatten, .sl z.2.2.2.2.2.2.1 68 5 z.2.2.2.2.2.1.length (z.2.2.2.2.2.1.flatMap GPair.enc), .sl z.2.2.2.2.2.2.2.2.1 70 5 z.2.2.2.2.2.2.2.1.length (z.2.2.2.2.2.2.2.1.flatMap GLoad.enc), .sl z.2.2.2.2.2.2.2.2.2.2 72 4 z.2.2.2.2.2.2.2.2.2.1.length (z.2.2.2.2.2.2.2.2.2.1.flatMap GCap.enc), .row g1 29 [z.2.2.2.1, z.2.2.2.2.2.2.1, z.2.2.2.2.2.2.2.2.1, z.2.2.2.2.2.2.2.2.2.2], .fr F2]) (fun z => zcm f35 z.1 (z.2.1, z.2.2.1, z.2.2.2.2.2.1, z.2.2.2.2.2.2.2.1, z.2.2.2.2.2.2.2.2.2.1) = some r ∧ OwnD GDomain.rep F2.toFrz 2 z.2.2.2.2.1 z.2.2.1 ∧ OneC z.2.2.2.1 ∧ OneC z.2.2.2.2.2.2.1 ∧ OneC z.2.2.2.2.2.2.2.2.1 ∧ OneC z.2.2.2.2.2.2.2.2.2.2) (fun z => z.1) (fuel, ((a_23 : Int) + 1), c_18, vc_18, cc_18, c_19, vc_19, c_20, vc_20, c_21, vc_21) ?_ ?_ ?_ ?_
            · exact ⟨hk, hc_18, inferInstance, inferInstance, inferInstance, inferInstance⟩
            · exact (.c (.c (.c .nil)))
            · exact List.Sublist.refl _
            · rintro ⟨m_36, b_30, c_31, vc_31, cc_31, c_32, vc_32, c_33, vc_33, c_34, vc_34⟩ ⟨hk, hc_31, oc_31, oc_32, oc_33, oc_34⟩; (try dsimp only at *); have hq := zda hk; clear hk; obtain ⟨m_36', rfl, hk⟩ := hq; generalize hn35 : zcm f35 m_36' = next35 at hk; rw [← hf35] at hk; (try dsimp only at hk); refine T.seq (T.seq ?_); refine T.ag (ι := Unit) (fun z => [(1, .pointer (some ⟨g1, 0, none⟩)), (3, .int .i64 (a_23 : Int)), (4, .int .i64 b_30), (43, .bool ((decide (b_30 < 100)) && (decide ((c_32.length : Int) < 4096))))]) (fun z => [.sl vc_31 66 2 c_31.length cc_31.flatten, .sl vc_32 68 5 c_32.length (c_32.flatMap GPair.enc), .sl vc_33 70 5 c_33.length (c_33.flatMap GLoad.enc), .sl vc_34 72 4 c_34.length (c_34.flatMap GCap.enc), .row g1 29 [vc_31, vc_32, vc_33, vc_34], .fr F2]) (fun z => True) ?_ ?_
              · refine T.region ?_; refine TL.run 3 rfl ?_; refine TL.gs rfl rfl rfl (fun h37 => ?_) (fun h37 => ?_)
                · have p37 := of_decide_eq_true h37; refine TL.y (Yv.fieldAddr rfl rfl) ?_; refine TL.y (Yv.fieldAddr rfl rfl) ?_; refine TL.y (Yv.aa 4 rfl rfl rfl rfl) ?_; refine TL.y (Yv.aQ 1 rfl rfl rfl) ?_; refine TL.run 2 rfl ?_; refine TL.nil ?_; exact K.ai () trivial (.c (.c (.c (.b (zdf h37) .nil)))) (List.Sublist.refl _)
                · have p37 := of_decide_eq_false h37; refine TL.run 6 rfl ?_; refine TL.nil ?_; exact K.ai () trivial (.c (.c (.c (.b (zaL h37).symm .nil)))) (List.Sublist.refl _)
              · rintro _ _; refine T.cond rfl (fun h38 => ?_) (fun h38 => ?_)
                · have p38 := h38; (try simp only [nfB] at p38); replace hk := zab hk h38; refine T.skip (K.seq (T.seq (T.block ?_))); have hq : (room (c_32 ++ [(GPair.mk (a_23 : Int) b_30 0 2 51)]).length 40) ∧ _ := zax hk; clear hk; obtain ⟨g53, hk⟩ := hq; (try dsimp only at hk); refine T.region ?_; refine TL.y (Yv.fieldAddr rfl rfl) ?_; refine TL.y (Yv.fieldAddr rfl rfl) ?_; refine TL.y (Yv.aa 4 rfl rfl rfl rfl) ?_; refine TL.run 2 rfl ?_; refine TL.y (Yv.build rfl rfl) ?_; refine TL.e (Ew.buildSlice rfl rfl rfl (by decide)) ?_; rintro _ _ ⟨g52, rfl, rfl⟩; refine TL.e (Ew.as 2 0 rfl rfl rfl rfl rfl rfl (zbX (ys := [(GPair.mk (a_23 : Int) b_30 0 2 51)]) rfl) (zb2 (enc := GPair.enc) (xs := c_32) (ys := [(GPair.mk (a_23 : Int) b_30 0 2 51)])) g53 (by decide)) ?_; rintro v53 _ ⟨hv53, rfl⟩; refine TL.y (Yv.fieldAddr rfl rfl) ?_; refine TL.y (Yv.fieldAddr rfl rfl) ?_; refine TL.e0 (Ew.am 5 rfl rfl rfl rfl (by simp)) ?_; rintro _ _ ⟨rfl, rfl⟩; refine TL.nil (K.ac (K.seq (T.region ?_))); refine TL.run 3 rfl ?_; refine TL.nil ?_; rw [← hn35] at hk; refine K.pick [1, 2, 3, 4, 5, 6] rfl (by decide) ?_; exact K.next (m_36', wI (b_30 + 1), c_31, vc_31, cc_31, (c_32 ++ [(GPair.mk (a_23 : Int) b_30 0 2 51)]), v53, c_33, vc_33, c_34, vc_34) ⟨hk, hc_31, inferInstance, inferInstance, inferInstance, inferInstance⟩ (by dsimp only; omega) (.c (.c (.c .nil))) (List.Sublist.refl _)
                · replace hk := zac hk h38; refine T.exit (K.ab (K.ab (K.ad ?_))); exact K.ai (c_31, vc_31, cc_31, c_32, vc_32, c_33, vc_33, c_34, vc_34) ⟨hk, hc_31, inferInstance, inferInstance, inferInstance, inferInstance⟩ (.c (.c .nil)) (List.Sublist.refl _)
          · rintro ⟨c_25, vc_25, cc_25, c_26, vc_26, c_27, vc_27, c_28, vc_28⟩ ⟨hk, hc_25, oc_25, oc_26, oc_27, oc_28⟩; (try dsimp only at *); rw [← hk29] at hk; (try dsimp only at hk); refine T.seq (T.sr ?_); refine TL.run 1 rfl ?_; refine TL.ns ?_; have hq := zaf hk; clear hk; obtain ⟨k43, hk43, hk⟩ := hq; (try dsimp only at hk); refine T.ag (ι := List GDomain × Value × List (List Value) × List GPair × Value × List GLoad × Value × List GCap × Value) (fun z => [(1, .pointer (some ⟨g1, 0, none⟩)), (3, .int .i64 (a_23 : Int))]) (fun z => [.sl z.2.1 66 2 z.1.length z.2.2.1.flatten, .sl z.2.2.2.2.1 68 5 z.2.2.2.1.length (z.2.2.2.1.flatMap GPair.enc), .sl z.2.2.2.2.2.2.1 70 5 z.2.2.2.2.2.1.length (z.2.2.2.2.2.1.flatMap GLoad.enc), .sl z.2.2.2.2.2.2.2.2 72 4 z.2.2.2.2.2.2.2.1.length (z.2.2.2.2.2.2.2.1.flatMap GCap.enc), .row g1 29 [z.2.1, z.2.2.2.2.1, z.2.2.2.2.2.2.1, z.2.2.2.2.2.2.2.2], .fr F2]) (fun z => k43 (z.1, z.2.2.2.1, z.2.2.2.2.2.1, z.2.2.2.2.2.2.2.1) = some r ∧ OwnD GDomain.rep F2.toFrz 2 z.2.2.1 z.1 ∧ OneC z.2.1 ∧ OneC z.2.2.2.2.1 ∧ OneC z.2.2.2.2.2.2.1 ∧ OneC z.2.2.2.2.2.2.2.2) ?_ ?_
            · have hq := zc0 hk; clear hk; obtain ⟨f49, hf49, hk⟩ := hq; refine T.block ?_; refine T.loop (ι := Nat × Int × List GDomain × Value × List (List Value) × List GPair × Value × List GLoad × Value × List GCap × Value) (fun z => [(1, .pointer (some ⟨g1, 0, none⟩)), (3, .int .i64 (a_23 : Int)), (5, .int .i64 z.2.1)]) (fun z => [.sl z.2.2.2.1 66 2 z.2.2.1.length z.2.2.2.2.1.flatten, .sl z.2.2.2.2.2.2.1 68 5 z.2.2.2.2.2.1.length (z.2.2.2.2.2.1.flatMap GPair.enc), .sl z.2.2.2.2.2.2.2.2.1 70 5 z.2.2.2.2.2.2.2.1.length (z.2.2.2.2.2.2.2.1.flatMap GLoad.enc), .sl z.2.2.2.2.2.2.2.2.2.2 72 4 z.2.2.2.2.2.2.2.2.2.1.length (z.2.2.2.2.2.2.2.2.2.1.flatMap GCap.enc), .row g1 29 [z.2.2.2.1, z.2.2.2.2.2.2.1, z.2.2.2.2.2.2.2.2.1, z.2.2.2.2.2.2.2.2.2.2], .fr F2]) (fun z => zcm f49 z.1 (z.2.1, z.2.2.1, z.2.2.2.2.2.1, z.2.2.2.2.2.2.2.1, z.2.2.2.2.2.2.2.2.2.1) = some r ∧ OwnD GDomain.rep F2.toFrz 2 z.2.2.2.2.1 z.2.2.1 ∧ OneC z.2.2.2.1 ∧ OneC z.2.2.2.2.2.2.1 ∧ OneC z.2.2.2.2.2.2.2.2.1 ∧ OneC z.2.2.2.2.2.2.2.2.2.2) (fun z => z.1) (fuel, 0, c_25, vc_25, cc_25, c_26, vc_26, c_27, vc_27, c_28, vc_28) ?_ ?_ ?_ ?_
              · exact ⟨hk, hc_25, inferInstance, inferInstance, inferInstance, inferInstance⟩
              · exact (.c (.c (.c .nil)))
              · exact List.Sublist.refl _
              · rintro ⟨m_50, b_44, c_45, vc_45, cc_45, c_46, vc_46, c_47, vc_47, c_48, vc_48⟩ ⟨hk, hc_45, oc_45, oc_46, oc_47, oc_48⟩; (try dsimp only at *); have hq := zda hk; clear hk; obtain ⟨m_50', rfl, hk⟩ := hq; generalize hn49 : zcm f49 m_50' = next49 at hk; rw [← hf49] at hk; (try dsimp only at hk); refine T.seq (T.seq ?_); refine T.ag (ι := Unit) (fun z => [(1, .pointer (some ⟨g1, 0, none⟩)), (3, .int .i64 (a_23 : Int)), (5, .int .i64 b_44), (64, .bool ((decide (b_44 < 100)) && (decide ((c_47.length : Int) < 1024))))]) (fun z => [.sl vc_45 66 2 c_45.length cc_45.flatten, .sl vc_46 68 5 c_46.length (c_46.flatMap GPair.enc), .sl vc_47 70 5 c_47.length (c_47.flatMap GLoad.enc), .sl vc_48 72 4 c_48.length (c_48.flatMap GCap.enc), .row g1 29 [vc_45, vc_46, vc_47, vc_48], .fr F2]) (fun z => True) ?_ ?_
                · refine T.region ?_; refine TL.run 3 rfl ?_; refine TL.gs rfl rfl rfl (fun h51 => ?_) (fun h51 => ?_)
                  · have p51 := of_decide_eq_true h51; refine TL.y (Yv.fieldAddr rfl rfl) ?_; refine TL.y (Yv.fieldAddr rfl rfl) ?_; refine TL.y (Yv.aa 4 rfl rfl rfl rfl) ?_; refine TL.y (Yv.aQ 2 rfl rfl rfl) ?_; refine TL.run 2 rfl ?_; refine TL.nil ?_; exact K.ai () trivial (.c (.c (.c (.b (zdf h51) .nil)))) (List.Sublist.refl _)
                  · have p51 := of_decide_eq_false h51; refine TL.run 6 rfl ?_; refine TL.nil ?_; exact K.ai () trivial (.c (.c (.c (.b (zaL h51).symm .nil)))) (List.Sublist.refl _)
                · rintro _ _; refine T.cond rfl (fun h52 => ?_) (fun h52 => ?_)
                  · have p52 := h52; (try simp only [nfB] at p52); replace hk := zab hk h52; refine T.skip (K.seq (T.seq (T.block (T.sr ?_)))); refine TL.run 3 rfl ?_; refine TL.ns ?_; refine T.cond rfl (fun h53 => ?_) (fun h53 => ?_)
                    · have p53 := of_decide_eq_true h53; replace hk := zab hk h53; have hq : (room (c_47 ++ [(GLoad.mk (a_23 : Int) b_44 1073741824 2 51)]).length 40) ∧ _ := zax hk; clear hk; obtain ⟨g77, hk⟩ := hq; (try dsimp only at hk); refine T.region ?_; refine TL.y (Yv.fieldAddr rfl rfl) ?_; refine TL.y (Yv.fieldAddr rfl rfl) ?_; refine TL.y (Yv.aa 4 rfl rfl rfl rfl) ?_; refine TL.run 2 rfl ?_; refine TL.y (Yv.build rfl rfl) ?_; refine TL.e (Ew.buildSlice rfl rfl rfl (by decide)) ?_; rintro _ _ ⟨g76, rfl, rfl⟩; refine TL.e (Ew.as 3 0 rfl rfl rfl rfl rfl rfl (zbX (ys := [(GLoad.mk (a_23 : Int) b_44 1073741824 2 51)]) rfl) (zb2 (enc := GLoad.enc) (xs := c_47) (ys := [(GLoad.mk (a_23 : Int) b_44 1073741824 2 51)])) g77 (by decide)) ?_; rintro v77 _ ⟨hv77, rfl⟩; refine TL.y (Yv.fieldAddr rfl rfl) ?_; refine TL.y (Yv.fieldAddr rfl rfl) ?_; refine TL.e0 (Ew.am 5 rfl rfl rfl rfl (by simp)) ?_; rintro _ _ ⟨rfl, rfl⟩; refine TL.nil (K.ac (K.seq (T.region ?_))); refine TL.run 3 rfl ?_; refine TL.nil ?_; rw [← hn49] at hk; refine K.pick [1, 2, 3, 4, 5, 6] rfl (by decide) ?_; exact K.next (m_50', wI (b_44 + 1), c_45, vc_45, cc_45, c_46, vc_46, (c_47 ++ [(GLoad.mk (a_23 : Int) b_44 1073741824 2 51)]), v77, c_48, vc_48) ⟨hk, hc_45, inferInstance, inferInstance, inferInstance, inferInstance⟩ (by dsimp only; omega) (.c (.c (.c .nil))) (List.Sublist.refl _)
                    · have p53 := of_decide_eq_false h53; replace hk := zac hk h53; refine T.skip (K.ac (K.seq (T.region ?_))); refine TL.run 1 rfl ?_; refine TL.y (Yv.aq rfl rfl rfl (by omega)) ?_; refine TL.run 1 rfl ?_; refine TL.nil ?_; rw [← hn49] at hk; exact K.next (m_50', (b_44 + 1), c_45, vc_45, cc_45, c_46, vc_46, c_47, vc_47, c_48, vc_48) ⟨hk, hc_45, inferInstance, inferInstance, inferInstance, inferInstance⟩ (by dsimp only; omega) (.c (.c (.c .nil))) (List.Sublist.refl _)
                  · replace hk := zac hk h52; refine T.exit (K.ab (K.ab (K.ad ?_))); exact K.ai (c_45, vc_45, cc_45, c_46, vc_46, c_47, vc_47, c_48, vc_48) ⟨hk, hc_45, inferInstance, inferInstance, inferInstance, inferInstance⟩ (.c (.c .nil)) (List.Sublist.refl _)
            · rintro ⟨c_39, vc_39, cc_39, c_40, vc_40, c_41, vc_41, c_42, vc_42⟩ ⟨hk, hc_39, oc_39, oc_40, oc_41, oc_42⟩; (try dsimp only at *); rw [← hk43] at hk; (try dsimp only at hk); refine T.sr ?_; refine TL.run 1 rfl ?_; refine TL.ns ?_; have hq := zc0 hk; clear hk; obtain ⟨f59, hf59, hk⟩ := hq; refine T.block ?_; refine T.loop (ι := Nat × Int × List GDomain × Value × List (List Value) × List GPair × Value × List GLoad × Value × List GCap × Value) (fun z => [(1, .pointer (some ⟨g1, 0, none⟩)), (3, .int .i64 (a_23 : Int)), (6, .int .i64 z.2.1)]) (fun z => [.sl z.2.2.2.1 66 2 z.2.2.1.length z.2.2.2.2.1.flatten, .sl z.2.2.2.2.2.2.1 68 5 z.2.2.2.2.2.1.length (z.2.2.2.2.2.1.flatMap GPair.enc), .sl z.2.2.2.2.2.2.2.2.1 70 5 z.2.2.2.2.2.2.2.1.length (z.2.2.2.2.2.2.2.1.flatMap GLoad.enc), .sl z.2.2.2.2.2.2.2.2.2.2 72 4 z.2.2.2.2.2.2.2.2.2.1.length (z.2.2.2.2.2.2.2.2.2.1.flatMap GCap.enc), .row g1 29 [z.2.2.2.1, z.2.2.2.2.2.2.1, z.2.2.2.2.2.2.2.2.1, z.2.2.2.2.2.2.2.2.2.2], .fr F2]) (fun z => zcm f59 z.1 (z.2.1, z.2.2.1, z.2.2.2.2.2.1, z.2.2.2.2.2.2.2.1, z.2.2.2.2.2.2.2.2.2.1) = some r ∧ OwnD GDomain.rep F2.toFrz 2 z.2.2.2.2.1 z.2.2.1 ∧ OneC z.2.2.2.1 ∧ OneC z.2.2.2.2.2.2.1 ∧ OneC z.2.2.2.2.2.2.2.2.1 ∧ OneC z.2.2.2.2.2.2.2.2.2.2) (fun z => z.1) (fuel, 0, c_39, vc_39, cc_39, c_40, vc_40, c_41, vc_41, c_42, vc_42) ?_ ?_ ?_ ?_
              · exact ⟨hk, hc_39, inferInstance, inferInstance, inferInstance, inferInstance⟩
              · exact (.c (.c (.c .nil)))
              · exact List.Sublist.refl _
              · rintro ⟨m_60, c_54, c_55, vc_55, cc_55, c_56, vc_56, c_57, vc_57, c_58, vc_58⟩ ⟨hk, hc_55, oc_55, oc_56, oc_57, oc_58⟩; (try dsimp only at *); have hq := zda hk; clear hk; obtain ⟨m_60', rfl, hk⟩ := hq; generalize hn59 : zcm f59 m_60' = next59 at hk; rw [← hf59] at hk; (try dsimp only at hk); refine T.seq (T.seq ?_); refine T.ag (ι := Unit) (fun z => [(1, .pointer (some ⟨g1, 0, none⟩)), (3, .int .i64 (a_23 : Int)), (6, .int .i64 c_54), (88, .bool ((decide (c_54 < 50)) && (decide ((c_58.length : Int) < 1024))))]) (fun z => [.sl vc_55 66 2 c_55.length cc_55.flatten, .sl vc_56 68 5 c_56.length (c_56.flatMap GPair.enc), .sl vc_57 70 5 c_57.length (c_57.flatMap GLoad.enc), .sl vc_58 72 4 c_58.length (c_58.flatMap GCap.enc), .row g1 29 [vc_55, vc_56, vc_57, vc_58], .fr F2]) (fun z => True) ?_ ?_
                · refine T.region ?_; refine TL.run 3 rfl ?_; refine TL.gs rfl rfl rfl (fun h61 => ?_) (fun h61 => ?_)
                  · have p61 := of_decide_eq_true h61; refine TL.y (Yv.fieldAddr rfl rfl) ?_; refine TL.y (Yv.fieldAddr rfl rfl) ?_; refine TL.y (Yv.aa 4 rfl rfl rfl rfl) ?_; refine TL.y (Yv.aQ 3 rfl rfl rfl) ?_; refine TL.run 2 rfl ?_; refine TL.nil ?_; exact K.ai () trivial (.c (.c (.c (.b (zdf h61) .nil)))) (List.Sublist.refl _)
                  · have p61 := of_decide_eq_false h61; refine TL.run 6 rfl ?_; refine TL.nil ?_; exact K.ai () trivial (.c (.c (.c (.b (zaL h61).symm .nil)))) (List.Sublist.refl _)
                · rintro _ _; refine T.cond rfl (fun h62 => ?_) (fun h62 => ?_)
                  · have p62 := h62; (try simp only [nfB] at p62); replace hk := zab hk h62; refine T.skip (K.seq (T.seq (T.block ?_))); have hq : (room (c_58 ++ [(GCap.mk (a_23 : Int) 1099511627776 (wI (c_54 + 2)) 51)]).length 32) ∧ _ := zax hk; clear hk; obtain ⟨g99, hk⟩ := hq; (try dsimp only at hk); refine T.region ?_; refine TL.y (Yv.fieldAddr rfl rfl) ?_; refine TL.y (Yv.fieldAddr rfl rfl) ?_; refine TL.y (Yv.aa 4 rfl rfl rfl rfl) ?_; refine TL.run 3 rfl ?_; refine TL.y (Yv.build rfl rfl) ?_; refine TL.e (Ew.buildSlice rfl rfl rfl (by decide)) ?_; rintro _ _ ⟨g98, rfl, rfl⟩; refine TL.e (Ew.as 4 0 rfl rfl rfl rfl rfl rfl (zbX (ys := [(GCap.mk (a_23 : Int) 1099511627776 (wI (c_54 + 2)) 51)]) rfl) (zb2 (enc := GCap.enc) (xs := c_58) (ys := [(GCap.mk (a_23 : Int) 1099511627776 (wI (c_54 + 2)) 51)])) g99 (by decide)) ?_; rintro v99 _ ⟨hv99, rfl⟩; refine TL.y (Yv.fieldAddr rfl rfl) ?_; refine TL.y (Yv.fieldAddr rfl rfl) ?_; refine TL.e0 (Ew.am 5 rfl rfl rfl rfl (by simp)) ?_; rintro _ _ ⟨rfl, rfl⟩; refine TL.nil (K.ac (K.seq (T.region ?_))); refine TL.run 3 rfl ?_; refine TL.nil ?_; rw [← hn59] at hk; refine K.pick [1, 2, 3, 4, 5, 6] rfl (by decide) ?_; exact K.next (m_60', wI (c_54 + 1), c_55, vc_55, cc_55, c_56, vc_56, c_57, vc_57, (c_58 ++ [(GCap.mk (a_23 : Int) 1099511627776 (wI (c_54 + 2)) 51)]), v99) ⟨hk, hc_55, inferInstance, inferInstance, inferInstance, inferInstance⟩ (by dsimp only; omega) (.c (.c (.c .nil))) (List.Sublist.refl _)
                  · replace hk := zac hk h62; refine T.exit (K.ab (K.ab (K.ad (K.ac (K.seq (T.region ?_)))))); refine TL.run 1 rfl ?_; refine TL.y (Yv.aq rfl rfl rfl (by omega)) ?_; refine TL.run 1 rfl ?_; refine TL.nil ?_; rw [← hn22] at hk; exact K.next ((a_23 + 1), c_55, vc_55, cc_55, c_56, vc_56, c_57, vc_57, c_58, vc_58) ⟨hk, hc_55, inferInstance, inferInstance, inferInstance, inferInstance⟩ (by dsimp only; omega) (.c (.c .nil)) (List.Sublist.refl _)
        · have p24 := of_decide_eq_false h24; rw [zaD (by omega), ← hkk22] at hk; (try dsimp only at hk); refine T.exit (K.ab (K.ab (K.ad ?_))); exact K.ai (c_18, vc_18, cc_18, c_19, vc_19, c_20, vc_20, c_21, vc_21) ⟨hk, hc_18, inferInstance, inferInstance, inferInstance, inferInstance⟩ (.c .nil) (List.Sublist.refl _)
    · rintro ⟨c_13, vc_13, cc_13, c_14, vc_14, c_15, vc_15, c_16, vc_16⟩ ⟨hk, hc_13, oc_13, oc_14, oc_15, oc_16⟩; (try dsimp only at *); rw [← hk17] at hk; (try dsimp only at hk); refine T.seq ?_; refine T.au (fun w hw => hw.freezeS (i := 5) (j := 0) (by decide) rfl rfl) ?_; rintro F5 ⟨le2_5, hz5⟩; dsimp only [List.set, List.eraseIdx]; have hf5 := hz5.toD (OwnD.mono (rep := GDomain.rep) (fun _ _ _ _ => GDomain.mono) hc_13 le2_5) rfl; haveI := hf5.1.oneC; refine T.au (fun w hw => hw.freezeS (i := 4) (j := 0) (by decide) rfl rfl) ?_; rintro F6 ⟨le5_6, hz6⟩; dsimp only [List.set, List.eraseIdx]; have hf6 := hz6.toF rfl GPair.len; haveI := hf6.oneC; refine T.au (fun w hw => hw.freezeS (i := 3) (j := 0) (by decide) rfl rfl) ?_; rintro F7 ⟨le6_7, hz7⟩; dsimp only [List.set, List.eraseIdx]; have le5_7 := le5_6.trans le6_7; have hf7 := hz7.toF rfl GLoad.len; haveI := hf7.oneC; refine T.au (fun w hw => hw.freezeS (i := 2) (j := 0) (by decide) rfl rfl) ?_; rintro F8 ⟨le7_8, hz8⟩; dsimp only [List.set, List.eraseIdx]; have le5_8 := le5_7.trans le7_8; have le6_8 := le6_7.trans le7_8; have hf8 := hz8.toF rfl GCap.len; haveI := hf8.oneC; have hq := zae hk; clear hk; obtain ⟨r104, hr104, hk⟩ := hq; (try dsimp only at hk); refine T.region ?_; refine TL.y (Yv.al 0 rfl rfl rfl rfl) ?_; refine TL.e (Ew.aB [1, 0] [] [.row g1 29 [vc_13, vc_14, vc_15, vc_16]] rfl rfl rfl rfl (by decide) (fun w hw hw2 hF => zdp _ w hF (GProblem.mk c_13 (GRules.mk c_14 c_15 c_16)) vc_13 cc_13 (SlD.mono (rep := GDomain.rep) (fun _ _ _ _ => GDomain.mono) hf5 le5_8) vc_14 (SlC.mono hf6 le6_8) vc_15 (SlC.mono hf7 le7_8) vc_16 hf8 fuel r104 hr104)) ?_; rintro _ _ ⟨v104_0_0, F9, le8_9, -, rfl, rfl⟩; dsimp only [List.cons_append, List.nil_append]; have le5_9 := le5_8.trans le8_9; have le6_9 := le6_8.trans le8_9; have le7_9 := le7_8.trans le8_9; refine TL.ax 0 rfl ?_; intro iv104_0_0 hmv104_0_0; refine TL.run 5 rfl ?_; refine TL.ns (T.seq ?_); have hq := zae hk; clear hk; obtain ⟨r109, hr109, hk⟩ := hq; (try dsimp only at hk); refine T.region ?_; refine TL.run 1 rfl ?_; refine TL.e (Ew.aB [0, 1, 2] [.sl v104_0_0 5 1 r104.1.length (r104.1.flatMap (eK .u8))] [.row g1 29 [vc_13, vc_14, vc_15, vc_16]] rfl rfl rfl rfl (by decide) (fun w hw hw2 hF => zd5 _ w hF r104.1 v104_0_0 hw2.takes.1 hw2.takes.2 fuel r109 hr109)) ?_; rintro _ _ ⟨⟨v109_0_0, cs109_0_0, v109_0_1, v109_0_2, v109_0_3⟩, F10, le9_10, ⟨hf109_0_0, hf109_0_1, hf109_0_2, hf109_0_3⟩, rfl, rfl⟩; dsimp only [List.cons_append, List.nil_append]; (try dsimp only at hf109_0_0 hf109_0_1 hf109_0_2 hf109_0_3); have le5_10 := le5_9.trans le9_10; have le6_10 := le6_9.trans le9_10; have le7_10 := le7_9.trans le9_10; have le8_10 := le8_9.trans le9_10; haveI := hf109_0_0.1.oneC; haveI := hf109_0_1.oneC; haveI := hf109_0_2.oneC; haveI := hf109_0_3.oneC; refine TL.run 3 rfl ?_; refine TL.e (Ew.alloc rfl) ?_; rintro _ _ ⟨g9, rfl, rfl⟩; refine TL.e0 (Ew.ae 0 rfl rfl rfl rfl rfl rfl) ?_; rintro _ _ ⟨rfl, rfl⟩; refine TL.run 1 rfl ?_; refine TL.ns (T.seq (T.seq ?_)); refine T.ag (ι := Unit) (fun z => [(1, .pointer (some ⟨g1, 0, none⟩)), (7, v104_0_0), (128, .bool ((((decide (¬ r104.2 = 0)) || (decide (¬ r109.2 = 0))) || (decide (65536 < (r104.1.length : Int)))) || (!(zbS (GProblem.mk c_13 (GRules.mk c_14 c_15 c_16)) r109.1))))]) (fun z => [.row g9 29 [v109_0_0, v109_0_1, v109_0_2, v109_0_3], .sl v104_0_0 5 1 r104.1.length (r104.1.flatMap (eK .u8)), .row g1 29 [vc_13, vc_14, vc_15, vc_16], .fr F10]) (fun z => True) ?_ ?_
      · refine T.region ?_; refine TL.run 3 rfl ?_; refine TL.gs rfl rfl rfl (fun h63 => ?_) (fun h63 => ?_)
        · have p63 := of_decide_eq_true h63; refine TL.run 14 rfl ?_; refine TL.nil ?_; refine K.pick [0, 1, 3, 2] rfl (by decide) ?_; exact K.ai () trivial (.c (.c (.b (zb1 (zb1 (zb1 h63))).symm .nil))) (List.Sublist.refl _)
        · have p63 := of_decide_eq_false h63; refine TL.run 4 rfl ?_; refine TL.gs rfl rfl rfl (fun h64 => ?_) (fun h64 => ?_)
          · have p64 := of_decide_eq_true h64; refine TL.run 10 rfl ?_; refine TL.nil ?_; refine K.pick [0, 1, 3, 2] rfl (by decide) ?_; exact K.ai () trivial (.c (.c (.b (zb1 (zb1 (zcq h63 h64))).symm .nil))) (List.Sublist.refl _)
          · have p64 := of_decide_eq_false h64; refine TL.run 1 rfl ?_; refine TL.y (Yv.aQ 1 rfl rfl rfl) ?_; refine TL.run 3 rfl ?_; refine TL.gs rfl rfl rfl (fun h65 => ?_) (fun h65 => ?_)
            · have p65 := of_decide_eq_true h65; refine TL.run 5 rfl ?_; refine TL.nil ?_; refine K.pick [0, 1, 3, 2] rfl (by decide) ?_; exact K.ai () trivial (.c (.c (.b (zb1 (zcq (zcq h63 h64) h65)).symm .nil))) (List.Sublist.refl _)
            · have p65 := of_decide_eq_false h65; refine TL.y (Yv.al 3 rfl rfl rfl rfl) ?_; refine TL.y (Yv.al 0 rfl rfl rfl rfl) ?_; refine TL.e (Ew.af rfl rfl rfl (fun w hw => zfy _ w (hw.fr (i := 2) rfl) (GProblem.mk c_13 (GRules.mk c_14 c_15 c_16)) vc_13 cc_13 (SlD.mono (rep := GDomain.rep) (fun _ _ _ _ => GDomain.mono) hf5 le5_10) vc_14 (SlC.mono hf6 le6_10) vc_15 (SlC.mono hf7 le7_10) vc_16 (SlC.mono hf8 le8_10) r109.1 v109_0_0 cs109_0_0 hf109_0_0 v109_0_1 hf109_0_1 v109_0_2 hf109_0_2 v109_0_3 hf109_0_3)) ?_; rintro _ _ ⟨rfl, rfl⟩; refine TL.run 2 rfl ?_; refine TL.nil ?_; refine K.pick [0, 1, 3, 2] rfl (by decide) ?_; exact K.ai () trivial (.c (.c (.b (or_f (zcq (zcq h63 h64) h65)) .nil))) (List.Sublist.refl _)
      · rintro _ _; refine T.cond rfl (fun h66 => ?_) (fun h66 => ?_)
        · replace hk := zab hk h66; refine T.sr ?_; refine TL.run 1 rfl ?_; refine TL.ns (T.ret (K.then_ret ?_)); obtain rfl := Option.some.inj hk; exact K.ak rfl rfl (fun w' hw => ⟨rfl, hw.isBelow⟩)
        · have p66 := h66; (try simp only [nfB] at p66); replace hk := zac hk h66; refine T.skip (K.seq (T.seq ?_)); have hq : (room (r104.1 ++ [0]).length 1) ∧ _ := zax hk; clear hk; obtain ⟨g132, hk⟩ := hq; have hq := zae hk; clear hk; obtain ⟨r133, hr133, hk⟩ := hq; (try dsimp only at hk); refine T.region ?_; refine TL.run 1 rfl ?_; refine TL.e (Ew.buildSlice rfl rfl rfl (by decide)) ?_; rintro _ _ ⟨g131, rfl, rfl⟩; refine TL.e (Ew.as 2 0 rfl rfl rfl rfl rfl rfl (zbX (ys := [0]) rfl) (zb2 (enc := (eK .u8)) (xs := r104.1) (ys := [0])) g132 (by decide)) ?_; rintro v132 _ ⟨hv132, rfl⟩; refine TL.au (fun w hw => hw.freezeS (i := 4) (j := 2) (by decide) rfl rfl) ?_; rintro F11 ⟨le10_11, hz11⟩; dsimp only [List.set, List.eraseIdx]; have le6_11 := le6_10.trans le10_11; have le7_11 := le7_10.trans le10_11; have le8_11 := le8_10.trans le10_11; have hf11 := hz11.toF rfl (fun _ => rfl); haveI := hf11.oneC; refine TL.e (Ew.aA 3 rfl rfl rfl rfl (fun w hw hF => zdq _ w hF (r104.1 ++ [0]) v132 hf11 fuel r133 hr133)) ?_; rintro _ _ ⟨⟨v133_0_0, cs133_0_0, v133_0_1, v133_0_2, v133_0_3⟩, F12, le11_12, ⟨hf133_0_0, hf133_0_1, hf133_0_2, hf133_0_3⟩, rfl, rfl⟩; dsimp only at hf133_0_0 hf133_0_1 hf133_0_2 hf133_0_3 ⊢; have le6_12 := le6_11.trans le11_12; have le7_12 := le7_11.trans le11_12; have le8_12 := le8_11.trans le11_12; haveI := hf133_0_0.1.oneC; haveI := hf133_0_1.oneC; haveI := hf133_0_2.oneC; haveI := hf133_0_3.oneC; refine TL.run 3 rfl ?_; refine TL.e (Ew.alloc rfl) ?_; rintro _ _ ⟨g11, rfl, rfl⟩; refine TL.e0 (Ew.ae 0 rfl rfl rfl rfl rfl rfl) ?_; rintro _ _ ⟨rfl, rfl⟩; refine TL.run 1 rfl ?_; refine TL.ns (T.seq ?_); have hq : (room 65537 1) ∧ _ := zax hk; clear hk; obtain ⟨g137, hk⟩ := hq; have hq := zae hk; clear hk; obtain ⟨r138, hr138, hk⟩ := hq; (try dsimp only at hk); refine T.region ?_; refine TL.e (Ew.bu (n' := 65537) (enc := (eK .u8)) (u := 0) rfl rfl rfl (show (65537 : Int) = ((65537 : Nat) : Int) from rfl) g137 (by decide) (by decide) (fun _ => rfl) rfl) ?_; rintro v137 _ ⟨hv137, rfl⟩; refine TL.ax 0 rfl ?_; intro iv137 hmv137; refine TL.au (fun w hw => hw.freezeS (i := 5) (j := 0) (by decide) rfl rfl) ?_; rintro F13 ⟨le12_13, hz13⟩; dsimp only [List.set, List.eraseIdx]; have le6_13 := le6_12.trans le12_13; have le7_13 := le7_12.trans le12_13; have le8_13 := le8_12.trans le12_13; have hf13 := hz13.toF rfl (fun _ => rfl); haveI := hf13.oneC; refine TL.e (Ew.aA 4 rfl rfl rfl rfl (fun w hw hF => zdq _ w hF (List.replicate 65537 0) v137 hf13 fuel r138 hr138)) ?_; rintro _ _ ⟨⟨v138_0_0, cs138_0_0, v138_0_1, v138_0_2, v138_0_3⟩, F14, le13_14, ⟨hf138_0_0, hf138_0_1, hf138_0_2, hf138_0_3⟩, rfl, rfl⟩; dsimp only at hf138_0_0 hf138_0_1 hf138_0_2 hf138_0_3 ⊢; have le6_14 := le6_13.trans le13_14; have le7_14 := le7_13.trans le13_14; have le8_14 := le8_13.trans le13_14; haveI := hf138_0_0.1.oneC; haveI := hf138_0_1.oneC; haveI := hf138_0_2.oneC; haveI := hf138_0_3.oneC; refine TL.run 3 rfl ?_; refine TL.e (Ew.alloc rfl) ?_; rintro _ _ ⟨g13, rfl, rfl⟩; refine TL.e0 (Ew.ae 0 rfl rfl rfl rfl rfl rfl) ?_; rintro _ _ ⟨rfl, rfl⟩; refine TL.run 1 rfl ?_; refine TL.nx ?_; refine TL.y (Yv.fieldAddr rfl rfl) ?_; refine TL.y (Yv.aM 4 (m := [vc_14, vc_15, vc_16]) rfl rfl rfl rfl rfl) ?_; refine TL.e (Ew.alloc rfl) ?_; rintro _ _ ⟨g15, rfl, rfl⟩; refine TL.e0 (Ew.ae 0 rfl rfl rfl rfl rfl rfl) ?_; rintro _ _ ⟨rfl, rfl⟩; refine TL.ns (T.seq ?_); have hq : (room ([] ++ c_16).length 32) ∧ _ := zax hk; clear hk; obtain ⟨g145, hk⟩ := hq; (try dsimp only at hk); refine T.region ?_; refine TL.y (Yv.fieldAddr rfl rfl) ?_; refine TL.y (Yv.aa 0 rfl rfl rfl rfl) ?_; refine TL.slNil 72 4 ?_; refine TL.e (Ew.aU 0 7 (zfV (fun _ => inferInstance)) rfl rfl rfl rfl rfl (SlC.mono hf8 le8_14) (zgi (xs := ([] : List GCap))) (zfE (xs := ([] : List GCap))) g145 (by decide)) ?_; rintro v145 _ ⟨hv145, rfl⟩; refine TL.run 1 rfl ?_; refine TL.ns (T.seq ?_); have hq : (room (([] ++ c_16) ++ [(GCap.mk 99 0 2 2)]).length 32) ∧ _ := zax hk; clear hk; obtain ⟨g149, hk⟩ := hq; (try dsimp only at hk); refine T.region ?_; refine TL.run 1 rfl ?_; refine TL.y (Yv.build rfl rfl) ?_; refine TL.e (Ew.buildSlice rfl rfl rfl (by decide)) ?_; rintro _ _ ⟨g148, rfl, rfl⟩; refine TL.e (Ew.as 1 0 rfl rfl rfl rfl rfl rfl (zbX (ys := [(GCap.mk 99 0 2 2)]) rfl) (zb2 (enc := GCap.enc) (xs := ([] ++ c_16)) (ys := [(GCap.mk 99 0 2 2)])) g149 (by decide)) ?_; rintro v149 _ ⟨hv149, rfl⟩; refine TL.y (Yv.fieldAddr rfl rfl) ?_; refine TL.e0 (Ew.am 2 rfl rfl rfl rfl (by simp)) ?_; rintro _ _ ⟨rfl, rfl⟩; refine TL.ns (T.seq ?_); refine T.au (fun w hw => hw.freezeS (i := 8) (j := 1) (by decide) rfl rfl) ?_; rintro F15 ⟨le14_15, hz15⟩; dsimp only [List.set, List.eraseIdx]; have le6_15 := le6_14.trans le14_15; have le7_15 := le7_14.trans le14_15; have le8_15 := le8_14.trans le14_15; have hf15 := hz15.toF rfl GCap.len; haveI := hf15.oneC; have hq := zae hk; clear hk; obtain ⟨r153, hr153, hk⟩ := hq; (try dsimp only at hk); have hq := zaf hk; clear hk; obtain ⟨k68, hk68, hk⟩ := hq; (try dsimp only at hk); refine T.ag (ι := Bool) (fun z => [(0, .bool z)]) (fun z => [.fr F15]) (fun z => k68 z = some r) ?_ ?_
          · refine T.region ?_; refine TL.y (Yv.fieldAddr rfl rfl) ?_; refine TL.y (Yv.aM 6 (m := [vc_14, vc_15, vc_16]) rfl rfl rfl rfl rfl) ?_; refine TL.e (Ew.af rfl rfl rfl (fun w hw => zcA _ w (hw.fr (i := 7) rfl) (GRules.mk c_14 c_15 c_16) vc_14 (SlC.mono hf6 le6_15) vc_15 (SlC.mono hf7 le7_15) vc_16 (SlC.mono hf8 le8_15) r153 hr153)) ?_; rintro _ _ ⟨rfl, rfl⟩; refine TL.run 1 rfl ?_; refine TL.gs rfl rfl rfl (fun h69 => ?_) (fun h69 => ?_)
            · replace hk := zab hk h69; refine TL.y (Yv.al 1 rfl rfl rfl rfl) ?_; have hq := zae hk; clear hk; obtain ⟨r156, hr156, hk⟩ := hq; refine TL.e (Ew.af rfl rfl rfl (fun w hw => zcA _ w (hw.fr (i := 7) rfl) (GRules.mk c_14 c_15 (([] ++ c_16) ++ [(GCap.mk 99 0 2 2)])) vc_14 (SlC.mono hf6 le6_15) vc_15 (SlC.mono hf7 le7_15) v149 hf15 r156 hr156)) ?_; rintro _ _ ⟨rfl, rfl⟩; refine TL.run 3 rfl ?_; refine TL.gs rfl rfl rfl (fun h70 => ?_) (fun h70 => ?_)
              · replace hk := zab hk h70; refine TL.run 4 rfl ?_; refine TL.gs rfl rfl rfl (fun h71 => ?_) (fun h71 => ?_)
                · have p71 := of_decide_eq_true h71; replace hk := zab hk h71; refine TL.run 4 rfl ?_; refine TL.gs rfl rfl rfl (fun h72 => ?_) (fun h72 => ?_)
                  · have p72 := of_decide_eq_true h72; replace hk := zab hk h72; have hq := zae hk; clear hk; obtain ⟨r168, hr168, hk⟩ := hq; refine TL.e (Ew.af rfl rfl rfl (fun w hw => zfd _ w (hw.fr (i := 7) rfl)  fuel r168 hr168)) ?_; rintro _ _ ⟨rfl, rfl⟩; refine TL.run 2 rfl ?_; refine TL.nil ?_; refine K.pick [7] rfl (by decide) ?_; exact K.ai r168 hk (.c .nil) (List.Sublist.refl _)
                  · have p72 := of_decide_eq_false h72; replace hk := zac hk h72; refine TL.run 3 rfl ?_; refine TL.nil ?_; refine K.pick [7] rfl (by decide) ?_; exact K.ai false hk (.c .nil) (List.Sublist.refl _)
                · have p71 := of_decide_eq_false h71; replace hk := zac hk h71; refine TL.run 7 rfl ?_; refine TL.nil ?_; refine K.pick [7] rfl (by decide) ?_; exact K.ai false hk (.c .nil) (List.Sublist.refl _)
              · replace hk := zac hk h70; refine TL.run 11 rfl ?_; refine TL.nil ?_; refine K.pick [7] rfl (by decide) ?_; exact K.ai false hk (.c .nil) (List.Sublist.refl _)
            · replace hk := zac hk h69; refine TL.run 16 rfl ?_; refine TL.nil ?_; refine K.pick [7] rfl (by decide) ?_; exact K.ai false hk (.c .nil) (List.Sublist.refl _)
          · rintro x_67 hk; rw [← hk68] at hk; (try dsimp only at hk); refine T.ret ?_; obtain rfl := Option.some.inj hk; exact K.ak rfl rfl (fun w' hw => ⟨rfl, hw.isBelow⟩)
theorem zhs {α : Type} (x y : List α) (M : Nat) : (x.take M ++ y).take M = (x ++ y).take M := by
  rw [List.take_append, List.take_append, List.take_take, Nat.min_self, List.length_take, show M - min M x.length = M - x.length by omega]
theorem zf8 {σ ρ α : Type} {f : (σ → Option ρ) → σ → Option ρ} {K : List α → Option ρ} {E : Nat → List α → σ} {g : Nat → List α} {e M : Nat} (hg : ∀ j, (g j).length ≤ 1)
    (h1 : ∀ next j l, j < e → l.length < M → f next (E j l) = next (E (j + 1) (l ++ g j))) (h2 : ∀ next j l, e ≤ j ∨ M ≤ l.length → f next (E j l) = K l) : ∀ (d j : Nat) (l : List α) (fuel : Nat), j + d = e → d < fuel → l.length ≤ M → zcm f fuel (E j l) = K ((l ++ (List.range' j d).flatMap g).take M)
  | 0, j, l, fuel, he, hf, hl => by
    obtain ⟨m, rfl⟩ : ∃ m, fuel = m + 1 := ⟨fuel - 1, by omega⟩; rw [List.range'_zero, List.flatMap_nil, List.append_nil, List.take_of_length_le hl]; exact h2 _ j l (.inl (by omega))
  | d + 1, j, l, fuel, he, hf, hl => by
    obtain ⟨m, rfl⟩ : ∃ m, fuel = m + 1 := ⟨fuel - 1, by omega⟩; rcases Nat.lt_or_ge l.length M with h | h
    · have ih := zf8 hg h1 h2 d (j + 1) (l ++ g j) m (by omega) (by omega) (by have := hg j; rw [List.length_append]; omega); rw [List.range'_succ, List.flatMap_cons, ← List.append_assoc, ← ih]; exact h1 _ j l (by omega) h
    · rw [List.take_append_of_le_length h, List.take_of_length_le (show l.length ≤ M by omega)]; exact h2 _ j l (.inr h)
def gPr (a b : Nat) : List GPair := [⟨(a : Int), (b : Int), 0, 2, 51⟩]
def gLd (a b : Nat) : List GLoad := bif decide (¬ (a : Int) = (b : Int)) then [⟨(a : Int), (b : Int), 1073741824, 2, 51⟩] else []
def gCp (a c : Nat) : List GCap := [⟨(a : Int), 1099511627776, (c : Int) + 2, 51⟩]
def fP (a : Nat) : List GPair := (List.range' (a + 1) (99 - a)).flatMap (gPr a)
def fL (a : Nat) : List GLoad := (List.range' 0 100).flatMap (gLd a)
def fC (a : Nat) : List GCap := (List.range' 0 50).flatMap (gCp a)
def dsL (n : Nat) : List GDomain := (List.range n).map fun (i : Nat) => ⟨(i : Int), [2, 51]⟩
def limP : GProblem := ⟨dsL 100, ⟨((List.range 99).flatMap fP).take 4096, ((List.range 99).flatMap fL).take 1024, ((List.range 99).flatMap fC).take 1024⟩⟩
theorem zfW {a b : Nat} {c : GPair} (h : c ∈ gPr a b) : c = ⟨(a : Int), (b : Int), 0, 2, 51⟩ := by unfold gPr at h; exact List.mem_singleton.1 h
theorem zfp {a b : Nat} {c : GLoad} (h : c ∈ gLd a b) : a ≠ b ∧ c = ⟨(a : Int), (b : Int), 1073741824, 2, 51⟩ := by
  unfold gLd at h; by_cases e : a = b
  · rw [decide_eq_false (by omega), cond_false] at h; cases h
  · rw [decide_eq_true (by omega), cond_true] at h; exact ⟨e, List.mem_singleton.1 h⟩
theorem zfM {a b : Nat} {c : GCap} (h : c ∈ gCp a b) : c = ⟨(a : Int), 1099511627776, (b : Int) + 2, 51⟩ := by unfold gCp at h; exact List.mem_singleton.1 h
theorem zgk {a : Nat} {c : GPair} (h : c ∈ fP a) : ∃ b : Nat, a < b ∧ b < 100 ∧ c = ⟨(a : Int), (b : Int), 0, 2, 51⟩ := by
  obtain ⟨b, hb, hc⟩ := List.mem_flatMap.1 h; have := List.mem_range'_1.1 hb; exact ⟨b, by omega, by omega, zfW hc⟩
theorem zf0 {a : Nat} {c : GLoad} (h : c ∈ fL a) : ∃ b : Nat, a ≠ b ∧ b < 100 ∧ c = ⟨(a : Int), (b : Int), 1073741824, 2, 51⟩ := by
  obtain ⟨b, hb, hc⟩ := List.mem_flatMap.1 h; have := List.mem_range'_1.1 hb; exact ⟨b, (zfp hc).1, by omega, (zfp hc).2⟩
theorem zgf {a : Nat} {c : GCap} (h : c ∈ fC a) : ∃ b : Nat, b < 50 ∧ c = ⟨(a : Int), 1099511627776, (b : Int) + 2, 51⟩ := by
  obtain ⟨b, hb, hc⟩ := List.mem_flatMap.1 h; have := List.mem_range'_1.1 hb; exact ⟨b, by omega, zfM hc⟩
theorem zeg {α : Type} {g : Nat → List α} {R : α → α → Prop} {s n : Nat} (h0 : ∀ a, (g a).Pairwise R) (h : ∀ a b, a < b → ∀ x ∈ g a, ∀ y ∈ g b, R x y) : ((List.range' s n).flatMap g).Pairwise R :=
  List.pairwise_flatMap.2 ⟨fun a _ => h0 a, List.Pairwise.imp (fun hab => h _ _ hab) List.pairwise_lt_range'⟩
theorem zgN {α : Type} {R : α → α → Prop} {l : List α} (h : l.length ≤ 1) : l.Pairwise R := by
  match l, h with
  | [], _ => exact List.Pairwise.nil
  | [x], _ => exact List.pairwise_singleton _ _
theorem zfN {a b : Int} {x y : List Int} (h : a < b) : lexL (a :: x) (b :: y) = true := lexL_cons.2 (.inl h)
theorem zfQ {a b c : Int} {x y : List Int} (h : b < c) : lexL (a :: b :: x) (a :: c :: y) = true := lexL_cons.2 (.inr ⟨rfl, lexL_cons.2 (.inl h)⟩)
theorem lex_3 {a d b c : Int} {x y : List Int} (h : b < c) : lexL (a :: d :: b :: x) (a :: d :: c :: y) = true := lexL_cons.2 (.inr ⟨rfl, zfQ h⟩)
theorem pw_P : ((List.range 99).flatMap fP).Pairwise fun a b => lexL (zc8 a) (zc8 b) = true := by
  rw [List.range_eq_range']; refine zeg (fun a => zeg (fun b => zgN (by unfold gPr; simp)) fun b c hbc x hx y hy => ?_) fun a b hab x hx y hy => ?_
  · rw [zfW hx, zfW hy]; exact zfQ (by dsimp only; omega)
  · obtain ⟨_, _, _, rfl⟩ := zgk hx; obtain ⟨_, _, _, rfl⟩ := zgk hy; exact zfN (by dsimp only; omega)
theorem pw_L : ((List.range 99).flatMap fL).Pairwise fun a b => lexL (zc7 a) (zc7 b) = true := by
  rw [List.range_eq_range']; refine zeg (fun a => zeg (fun b => zgN (by unfold gLd; cases decide (¬ (a : Int) = (b : Int)) <;> simp)) fun b c hbc x hx y hy => ?_) fun a b hab x hx y hy => ?_
  · rw [(zfp hx).2, (zfp hy).2]; exact zfQ (by dsimp only; omega)
  · obtain ⟨_, _, _, rfl⟩ := zf0 hx; obtain ⟨_, _, _, rfl⟩ := zf0 hy; exact zfN (by dsimp only; omega)
theorem pw_C : ((List.range 99).flatMap fC).Pairwise fun a b => lexL (capL a) (capL b) = true := by
  rw [List.range_eq_range']; refine zeg (fun a => zeg (fun b => zgN (by unfold gCp; simp)) fun b c hbc x hx y hy => ?_) fun a b hab x hx y hy => ?_
  · rw [zfM hx, zfM hy]; exact lex_3 (by dsimp only; omega)
  · obtain ⟨_, _, rfl⟩ := zgf hx; obtain ⟨_, _, rfl⟩ := zgf hy; exact zfN (by dsimp only; omega)
theorem zgt {n : Nat} (h : n < 100) : zag (n : Int) = true := by
  unfold zag zar; exact zcH (decide_eq_true (by omega)) (decide_eq_true (by omega))
theorem zeS {n : Nat} (h : n < 100) : hasD limP (n : Int) = true :=
  zcH (zcH (decide_eq_true (by omega)) (decide_eq_true (by omega))) (List.any_eq_true.2 ⟨⟨(n : Int), [2, 51]⟩, List.mem_map.2 ⟨n, List.mem_range.2 h, rfl⟩, decide_eq_true rfl⟩)
theorem zdG {α : Type} {f : Nat → List α} {M : Nat} {c : α} (h : c ∈ ((List.range 99).flatMap f).take M) : ∃ a, a < 99 ∧ c ∈ f a := by
  obtain ⟨a, ha, hc⟩ := List.mem_flatMap.1 (List.mem_of_mem_take h); exact ⟨a, List.mem_range.1 ha, hc⟩
theorem zh2 : okP limP = true := by
  refine zhi (p := limP) ?_ ⟨⟨?_, ?_, ?_, fun c hc => ?_, fun c hc => ?_, fun c hc => ?_⟩, ?_, ?_, ?_⟩ ?_ (zcH (List.all_eq_true.2 fun c hc => ?_) (zcH (List.all_eq_true.2 fun c hc => ?_) (List.all_eq_true.2 fun c hc => ?_)))
  · refine List.all_eq_true.2 fun d hd => ?_; obtain ⟨i, hi, rfl⟩ := List.mem_map.1 hd; have hi := List.mem_range.1 hi; exact zcH (zgt hi) (show ([2, 51].all zaA && adjB (fun a b => decide (a < b)) [2, 51]) = true by decide)
  · exact List.length_take_le _ _
  · exact List.length_take_le _ _
  · exact List.length_take_le _ _
  · obtain ⟨a, ha, h⟩ := zdG hc; obtain ⟨b, h1, h2, rfl⟩ := zgk h; exact zcH (zcH (zcH (zcH (zgt (by omega)) (zgt h2)) (decide_eq_true (by dsimp only; omega))) (show zar 0 (-1) 1 = true by decide)) (show zaZ 2 51 = true by decide)
  · obtain ⟨a, ha, h⟩ := zdG hc; obtain ⟨b, h1, h2, rfl⟩ := zf0 h; exact zcH (zcH (zcH (zcH (zgt (by omega)) (zgt h2)) (decide_eq_true (by dsimp only; omega))) (show zar 1073741824 1 1073741824 = true by decide)) (show zaZ 2 51 = true by decide)
  · obtain ⟨a, ha, h⟩ := zdG hc; obtain ⟨b, h2, rfl⟩ := zgf h; exact zcH (zcH (zgt (by omega)) (show zar 1099511627776 0 1099511627776 = true by decide)) (zcH (zcH (decide_eq_true (by dsimp only; omega)) (decide_eq_true (by dsimp only; omega))) (decide_eq_true (by dsimp only; omega)))
  · exact (zdQ zgZ).2 (pw_P.sublist (List.take_sublist _ _))
  · exact (zdQ zgC).2 (pw_L.sublist (List.take_sublist _ _))
  · exact (zdQ zhy).2 (pw_C.sublist (List.take_sublist _ _))
  · refine (zdQ (fun a b c x y => by rw [decide_eq_true_eq] at *; omega)).2 (List.pairwise_map.2 ?_); rw [List.range_eq_range']; exact List.Pairwise.imp (fun h => decide_eq_true (by dsimp only; omega)) List.pairwise_lt_range'
  · obtain ⟨a, ha, h⟩ := zdG hc; obtain ⟨b, h1, h2, rfl⟩ := zgk h; exact zcH (zeS (by omega)) (zeS h2)
  · obtain ⟨a, ha, h⟩ := zdG hc; obtain ⟨b, h1, h2, rfl⟩ := zf0 h; exact zcH (zeS (by omega)) (zeS h2)
  · obtain ⟨a, ha, h⟩ := zdG hc; obtain ⟨b, h2, rfl⟩ := zgf h; exact zeS (by omega)
theorem zhm : limP.Rules.Caps.length = 1024 := by
  show (((List.range 99).flatMap fC).take 1024).length = 1024
  rw [List.length_take]
  have h : ∀ n, ((List.range n).flatMap fC).length = 50 * n := by
    intro n
    induction n with
    | zero => rfl
    | succ n ih =>
      rw [List.range_succ, List.flatMap_append, List.length_append, ih, List.flatMap_singleton]
      have : (fC n).length = 50 := by
        unfold fC; rw [List.length_flatMap]
        show ((List.range' 0 50).map fun _ => 1).sum = 50
        decide
      omega
  rw [h]; rfl
theorem zfR {fuel : Nat} {p : GProblem} {z : Int} {rest : List Int} (hf : 100 ≤ fuel) (hp : okP p = true) (hlen : (encP p ++ z :: rest).length ≤ 65536) : za0 fuel (encP p ++ z :: rest) = some (⟨[], ⟨[], [], []⟩⟩, 6) := by
  obtain ⟨hD, hR, hi, _⟩ := zc6 hp; have hl := zef hD hi; have g := hR.g; have n1 := g.np; have n2 := g.nl; have n3 := g.nc; unfold za0; rw [decide_eq_false (by omega), cond_false]
  have hr : zcG (encP p ++ z :: rest) = some (some ⟨⟨0⟩, true, encP p ++ z :: rest, 0⟩) := by
    unfold zcG; rw [List.nil_append, zbp (by unfold room; omega)]
  rw [hr]; simp only [Option.bind_some, Option.isSome_some, cond_true, Option.getD_some]; have h0 : RdS ⟨⟨0⟩, true, encP p ++ z :: rest, 0⟩ (encU p.Domains.length ++ (p.Domains.flatMap encD ++ (encU p.Rules.Pairs.length ++ (p.Rules.Pairs.flatMap zcJ ++ (encU p.Rules.Loads.length ++ (p.Rules.Loads.flatMap encL ++ (encU p.Rules.Caps.length ++ (p.Rules.Caps.flatMap encC ++ z :: rest)))))))) := ⟨rfl, rfl, Int.le_refl _, by show encP p ++ z :: rest = _; unfold encP; simp only [List.append_assoc], by show 0 + _ = (encP p ++ z :: rest).length; rw [Nat.zero_add]; unfold encP; simp only [List.append_assoc]⟩; have h1 := h0; rw [← List.append_assoc] at h1; have h1 := h1.adv; have h2 := h1; rw [← List.append_assoc] at h2; have h2 := h2.adv; have h3 := h2; rw [← List.append_assoc] at h3; have h3 := h3.adv; have h4 := h3; have h5 := h3; rw [← List.append_assoc] at h5; have h5 := h5.adv
  show (zak fuel ⟨⟨0⟩, true, encP p ++ z :: rest, 0⟩ 512).bind _ = _
  rw [show zak fuel ⟨⟨0⟩, true, encP p ++ z :: rest, 0⟩ 512 = _ from zdz (enc := encD) (by decide) (fun v hv x rest h => zhZ hf (List.all_eq_true.1 hD v hv) h) (by omega) (by decide) h0]; rw [Option.bind_some]
  show (zam (adv ⟨⟨0⟩, true, encP p ++ z :: rest, 0⟩ (encU p.Domains.length ++ p.Domains.flatMap encD).length) 4096).bind _ = _
  rw [show zam (adv ⟨⟨0⟩, true, encP p ++ z :: rest, 0⟩ (encU p.Domains.length ++ p.Domains.flatMap encD).length) 4096 = _ from zdz (enc := zcJ) (by decide) (fun v hv x rest h => zhB (zgw (g.p v hv)) h) (by omega) (by decide) h1]; rw [Option.bind_some]
  show (zan (adv (adv ⟨⟨0⟩, true, encP p ++ z :: rest, 0⟩ (encU p.Domains.length ++ p.Domains.flatMap encD).length) (encU p.Rules.Pairs.length ++ p.Rules.Pairs.flatMap zcJ).length) 1024).bind _ = _
  rw [show zan (adv (adv ⟨⟨0⟩, true, encP p ++ z :: rest, 0⟩ (encU p.Domains.length ++ p.Domains.flatMap encD).length) (encU p.Rules.Pairs.length ++ p.Rules.Pairs.flatMap zcJ).length) 1024 = _ from zdz (enc := encL) (by decide) (fun v hv x rest h => zhx (loadR (g.l v hv)) h) (by omega) (by decide) h2]; rw [Option.bind_some]
  show (zaq (adv (adv (adv ⟨⟨0⟩, true, encP p ++ z :: rest, 0⟩ (encU p.Domains.length ++ p.Domains.flatMap encD).length) (encU p.Rules.Pairs.length ++ p.Rules.Pairs.flatMap zcJ).length) (encU p.Rules.Loads.length ++ p.Rules.Loads.flatMap encL).length) 1024).bind _ = _
  rw [show zaq (adv (adv (adv ⟨⟨0⟩, true, encP p ++ z :: rest, 0⟩ (encU p.Domains.length ++ p.Domains.flatMap encD).length) (encU p.Rules.Pairs.length ++ p.Rules.Pairs.flatMap zcJ).length) (encU p.Rules.Loads.length ++ p.Rules.Loads.flatMap encL).length) 1024 = _ from zdz (enc := encC) (by decide) (fun v hv x rest h => zh5 (capR (g.c v hv)) h) (by omega) (by decide) h4]
  have he : zaw (adv (adv (adv (adv ⟨⟨0⟩, true, encP p ++ z :: rest, 0⟩ (encU p.Domains.length ++ p.Domains.flatMap encD).length) (encU p.Rules.Pairs.length ++ p.Rules.Pairs.flatMap zcJ).length) (encU p.Rules.Loads.length ++ p.Rules.Loads.flatMap encL).length) (encU p.Rules.Caps.length ++ p.Rules.Caps.flatMap encC).length) = 5 := by
    have k1 := h5.len; have k2 := h5.pos; unfold zaw; rw [show zaG (adv (adv (adv (adv ⟨⟨0⟩, true, encP p ++ z :: rest, 0⟩ (encU p.Domains.length ++ p.Domains.flatMap encD).length) (encU p.Rules.Pairs.length ++ p.Rules.Pairs.flatMap zcJ).length) (encU p.Rules.Loads.length ++ p.Rules.Loads.flatMap encL).length) (encU p.Rules.Caps.length ++ p.Rules.Caps.flatMap encC).length) = true from rfl]; rw [decide_eq_true (p := _ < _) (by rw [List.length_cons] at k1; omega)]; rfl
  show zaY _ (fun k4 => bif decide (¬ zaw (adv (adv (adv (adv ⟨⟨0⟩, true, encP p ++ z :: rest, 0⟩ _) _) _) _) = 0) then _ else (za6 p).bind _) = _
  rw [he]; rfl
theorem zgU {p : GProblem} (hp : okP p = true) : (encP p).length ≤ 60000 := by
  obtain ⟨hD, hR, hi, _⟩ := zc6 hp; have hl := zef hD hi; have g := hR.g; have h1 := zdD (l := p.Domains) (g := encD) (k := 10) fun d hd => zf6 (List.all_eq_true.1 hD d hd); have h2 := zdD (l := p.Rules.Pairs) (g := zcJ) (k := 7) fun c hc => zfG (zgw (g.p c hc)); have h3 := zdD (l := p.Rules.Loads) (g := encL) (k := 11) fun c hc => zf4 (loadR (g.l c hc)); have h4 := zdD (l := p.Rules.Caps) (g := encC) (k := 10) fun c hc => zf9 (capR (g.c c hc)); have n1 := g.np; have n2 := g.nl; have n3 := g.nc; have k1 := zcF 1 p.Domains.length (by omega); have k2 := zcF 1 p.Rules.Pairs.length (by omega); have k3 := zcF 1 p.Rules.Loads.length (by omega); have k4 := zcF 1 p.Rules.Caps.length (by omega); unfold encP; simp only [List.length_append]; omega
theorem zhA {σ ρ : Type} (I : Nat → σ → Prop) (Q : ρ → Prop) {f : Nat → (σ → ρ) → σ → ρ} {k : σ → ρ} {n : Nat} {s : σ} (h0 : I 0 s) (hf : ∀ i next s, i < n → I i s → ∃ s', I (i + 1) s' ∧ f i next s = next s') (hk : ∀ s, I n s → Q (k s)) : Q (zal f k n 0 s) := by
  have key : ∀ m i s, i + m = n → I i s → Q (zal f k m i s) := by
    intro m
    induction m with
    | zero => intro i s e h; exact hk s (by rw [← e]; exact h)
    | succ m ih =>
      intro i s e h; obtain ⟨s1, h1, e1⟩ := hf i (zal f k m (i + 1)) s (by omega) h
      show Q (f i (zal f k m (i + 1)) s)
      rw [e1]; exact ih (i + 1) s1 (by omega) h1
  exact key n 0 s (by omega) h0
abbrev LS := List GDomain × List GPair × List GLoad × List GCap
theorem rm {α : Type} {l : List α} {x : α} {M k : Nat} (h : l.length < M) (hM : M ≤ 5000) (hk : k ≤ 100) : room (l ++ [x]).length k := by
  unfold room; rw [List.length_append, List.length_singleton]; have : (l.length + 1) * k ≤ 5000 * 100 := Nat.mul_le_mul (by omega) hk; omega
def limK (fuel : Nat) (p : GProblem) : Option Bool :=
      (zbH fuel p).bind fun r104 =>
      (zbF fuel r104.1).bind fun r109 =>
      (bif ((((decide (¬ r104.2 = 0)) || (decide (¬ r109.2 = 0))) || (decide (65536 < (r104.1.length : Int)))) || (!(zbS p r109.1))) then
        some false
        else
        grd (room (r104.1 ++ [0]).length 1) <|
        (za0 fuel (r104.1 ++ [0])).bind fun r133 =>
        grd (room 65537 1) <|
        (za0 fuel (List.replicate 65537 0)).bind fun r138 =>
        grd (room ([] ++ p.Rules.Caps).length 32) <|
        grd (room (([] ++ p.Rules.Caps) ++ [(GCap.mk 99 0 2 2)]).length 32) <|
        (zaV p.Rules).bind fun r153 =>
        zaY (fun (x_67 : Bool) =>
          some x_67)
        (fun k68 =>
          (bif r153 then
            (zaV (GRules.mk p.Rules.Pairs p.Rules.Loads (([] ++ p.Rules.Caps) ++ [(GCap.mk 99 0 2 2)]))).bind fun r156 =>
            (bif !r156 then
              (bif decide (r133.2 = 6) then
                (bif decide (r138.2 = 5) then
                  (zct fuel).bind fun r168 =>
                  k68 r168
                  else
                  k68 false)
                else
                k68 false)
              else
              k68 false)
            else
            k68 false)))
theorem zg5 {n : Nat} {p : GProblem} (h : 100000 ≤ n) (hp : okP p = true) (hc : p.Rules.Caps.length = 1024) : limK n p = some true := by
  have hd := zho (fuel := n) (by omega) hp; have hdb : zbF n (encP p) = some (p, 0) := hd; have hl := zgU hp; unfold limK; simp only [zaY]; rw [zhn (by omega) hp]
  show (zbF n (encP p)).bind _ = _
  rw [hdb]
  show (bif ((((decide (¬ (0 : Int) = 0)) || (decide (¬ (0 : Int) = 0))) || (decide (65536 < ((encP p).length : Int)))) || (!(zbS p p))) then _ else _) = _
  rw [zh9, zhj, decide_eq_false (show ¬ 65536 < ((encP p).length : Int) by omega), decide_eq_false (show ¬ ¬ (0 : Int) = 0 by simp)]
  show grd (room (encP p ++ [0]).length 1) _ = _
  rw [zbp (by unfold room; rw [List.length_append, List.length_singleton]; omega)]
  show (za0 n (encP p ++ [0])).bind _ = _
  rw [zfR (by omega) hp (by rw [List.length_append, List.length_singleton]; omega)]; rw [Option.bind_some, zbp (c := room 65537 1) (by unfold room; omega)]
  have hz : za0 n (List.replicate 65537 0) = some (⟨[], ⟨[], [], []⟩⟩, 5) := by
    unfold za0; rw [List.length_replicate, decide_eq_true (by decide), cond_true]
  rw [hz, Option.bind_some]; (have g1 : room (([] : List GCap) ++ p.Rules.Caps).length 32 := by rw [List.nil_append]; unfold room; omega); (have g2 : room ((([] : List GCap) ++ p.Rules.Caps) ++ [(GCap.mk 99 0 2 2)]).length 32 := by rw [List.nil_append, List.length_append, List.length_singleton]; unfold room; omega); refine (zbp g1).trans ((zbp g2).trans ?_); rw [List.nil_append]
  --rw [zbp (by unfold room; rw [List.length_append, List.length_singleton]; omega)]
  show (zaV p.Rules).bind _ = _
  rw [zdw, (zc6 hp).2.1.b]
  show (zaV ⟨p.Rules.Pairs, p.Rules.Loads, p.Rules.Caps ++ [(GCap.mk 99 0 2 2)]⟩).bind _ = _
  have hb : zdC ⟨p.Rules.Pairs, p.Rules.Loads, p.Rules.Caps ++ [(GCap.mk 99 0 2 2)]⟩ = false := by
    cases hx : zdC ⟨p.Rules.Pairs, p.Rules.Loads, p.Rules.Caps ++ [(GCap.mk 99 0 2 2)]⟩
    · rfl
    · have := (zeI hx).nc; dsimp only at this; rw [List.length_append, List.length_singleton] at this; omega
  rw [zdw, hb]
  show (zct n).bind _ = _
  rw [zgF h]; rfl
theorem zfl {n : Nat} (h : 100000 ≤ n) : zbT n = some true := by
  unfold zbT; simp only [zaY]; refine zhA (σ := LS) (fun i s => s = (dsL i, [], [], [])) (fun o => o = some true) rfl (fun i next s hi hI => ?_) (fun s hs => ?_)
  · subst hI; refine ⟨_, rfl, ?_⟩; (have e : dsL (i + 1) = dsL i ++ [⟨(i : Int), [2, 51]⟩] := by unfold dsL; rw [List.range_succ, List.map_append]; rfl); rw [zbp (rm (M := 100) (by unfold dsL; simpa using hi) (by decide) (by decide)), e]
  subst hs; refine zhA (σ := LS) (fun a s => s = (dsL 100, ((List.range a).flatMap fP).take 4096, ((List.range a).flatMap fL).take 1024, ((List.range a).flatMap fC).take 1024)) (fun o => o = some true) (by simp) (fun a next s ha hI => ?_) (fun s hs => ?_)
  · subst hI; refine ⟨_, rfl, ?_⟩
    have eT : ∀ {α : Type} (f : Nat → List α) (M : Nat), ((List.range (a + 1)).flatMap f).take M = (((List.range a).flatMap f).take M ++ f a).take M := fun f M => by
      rw [zhs, List.range_succ, List.flatMap_append, List.flatMap_singleton]
    rw [eT fP, eT fL, eT fC]; have hP : (((List.range a).flatMap fP).take 4096).length ≤ 4096 := List.length_take_le _ _; have hL : (((List.range a).flatMap fL).take 1024).length ≤ 1024 := List.length_take_le _ _; have hC : (((List.range a).flatMap fC).take 1024).length ≤ 1024 := List.length_take_le _ _; generalize ((List.range a).flatMap fP).take 4096 = P at *; generalize ((List.range a).flatMap fL).take 1024 = L at *; generalize ((List.range a).flatMap fC).take 1024 = C at *
    refine Eq.trans (zf8 (E := fun b P' => (((b : Nat) : Int), dsL 100, P', L, C)) (g := gPr a) (e := 100) (M := 4096) (K := fun P' => zcm (fun (next49 : (Int × List GDomain × List GPair × List GLoad × List GCap) → Option Bool) (s49 : Int × List GDomain × List GPair × List GLoad × List GCap) =>
              (bif ((decide (s49.1 < 100)) && (decide ((s49.2.2.2.1.length : Int) < 1024))) then
                (bif decide (¬ (a : Int) = s49.1) then
                  grd (room (s49.2.2.2.1 ++ [(GLoad.mk (a : Int) s49.1 1073741824 2 51)]).length 40) <|
                  next49 (wI (s49.1 + 1), s49.2.1, s49.2.2.1, (s49.2.2.2.1 ++ [(GLoad.mk (a : Int) s49.1 1073741824 2 51)]), s49.2.2.2.2)
                  else
                  next49 ((s49.1 + 1), s49.2.1, s49.2.2.1, s49.2.2.2.1, s49.2.2.2.2))
                else
                zcm (fun (next59 : (Int × List GDomain × List GPair × List GLoad × List GCap) → Option Bool) (s59 : Int × List GDomain × List GPair × List GLoad × List GCap) =>
                  (bif ((decide (s59.1 < 50)) && (decide ((s59.2.2.2.2.length : Int) < 1024))) then
                    grd (room (s59.2.2.2.2 ++ [(GCap.mk (a : Int) 1099511627776 (wI (s59.1 + 2)) 51)]).length 32) <|
                    next59 (wI (s59.1 + 1), s59.2.1, s59.2.2.1, s59.2.2.2.1, (s59.2.2.2.2 ++ [(GCap.mk (a : Int) 1099511627776 (wI (s59.1 + 2)) 51)]))
                    else
                    next (s59.2.1, s59.2.2.1, s59.2.2.2.1, s59.2.2.2.2))) n (0, s49.2.1, s49.2.2.1, s49.2.2.2.1, s49.2.2.2.2))) n (0, dsL 100, P', L, C)) (fun j => by unfold gPr; simp) (fun next j l hj hl => ?_) (fun next j l hj => ?_) (99 - a) (a + 1) P n (by omega) (by omega) hP) ?_
    · dsimp only; rw [decide_eq_true (show (j : Int) < 100 by omega), decide_eq_true (show (l.length : Int) < 4096 by omega), Bool.and_self, cond_true, zbp (rm hl (by decide) (by decide)), zes (by omega)]
      rfl
    · dsimp only
      have e : (decide ((j : Int) < 100) && decide ((l.length : Int) < 4096)) = false := by
        rw [Bool.and_eq_false_iff, decide_eq_false_iff_not, decide_eq_false_iff_not]; omega
      rw [e, cond_false]
    refine Eq.trans (zf8 (E := fun b L' => (((b : Nat) : Int), dsL 100, (P ++ (List.range' (a + 1) (99 - a)).flatMap (gPr a)).take 4096, L', C)) (g := gLd a) (e := 100) (M := 1024) (K := fun L' => zcm (fun (next59 : (Int × List GDomain × List GPair × List GLoad × List GCap) → Option Bool) (s59 : Int × List GDomain × List GPair × List GLoad × List GCap) =>
                  (bif ((decide (s59.1 < 50)) && (decide ((s59.2.2.2.2.length : Int) < 1024))) then
                    grd (room (s59.2.2.2.2 ++ [(GCap.mk (a : Int) 1099511627776 (wI (s59.1 + 2)) 51)]).length 32) <|
                    next59 (wI (s59.1 + 1), s59.2.1, s59.2.2.1, s59.2.2.2.1, (s59.2.2.2.2 ++ [(GCap.mk (a : Int) 1099511627776 (wI (s59.1 + 2)) 51)]))
                    else
                    next (s59.2.1, s59.2.2.1, s59.2.2.2.1, s59.2.2.2.2))) n (0, dsL 100, (P ++ (List.range' (a + 1) (99 - a)).flatMap (gPr a)).take 4096, L', C)) (fun j => by unfold gLd; cases decide (¬ (a : Int) = (j : Int)) <;> simp) (fun next j l hj hl => ?_) (fun next j l hj => ?_) 100 0 L n (by omega) (by omega) hL) ?_
    · dsimp only; rw [decide_eq_true (show (j : Int) < 100 by omega), decide_eq_true (show (l.length : Int) < 1024 by omega), Bool.and_self, cond_true]; unfold gLd
      cases decide (¬ (a : Int) = (j : Int))
      · rw [cond_false, cond_false, List.append_nil]; rfl
      · rw [cond_true, cond_true, zbp (rm hl (by decide) (by decide)), zes (by omega)]; rfl
    · dsimp only
      have e : (decide ((j : Int) < 100) && decide ((l.length : Int) < 1024)) = false := by
        rw [Bool.and_eq_false_iff, decide_eq_false_iff_not, decide_eq_false_iff_not]; omega
      rw [e, cond_false]
    refine Eq.trans (zf8 (E := fun b C' => (((b : Nat) : Int), dsL 100, (P ++ (List.range' (a + 1) (99 - a)).flatMap (gPr a)).take 4096, (L ++ (List.range' 0 100).flatMap (gLd a)).take 1024, C')) (g := gCp a) (e := 50) (M := 1024) (K := fun C' => next (dsL 100, (P ++ (List.range' (a + 1) (99 - a)).flatMap (gPr a)).take 4096, (L ++ (List.range' 0 100).flatMap (gLd a)).take 1024, C')) (fun j => by unfold gCp; simp) (fun next j l hj hl => ?_) (fun next j l hj => ?_) 50 0 C n (by omega) (by omega) hC) ?_
    · dsimp only; rw [decide_eq_true (show (j : Int) < 50 by omega), decide_eq_true (show (l.length : Int) < 1024 by omega), Bool.and_self, cond_true, zbp (rm hl (by decide) (by decide)), zes (by omega), zes (by omega)]
      rfl
    · dsimp only
      have e : (decide ((j : Int) < 50) && decide ((l.length : Int) < 1024)) = false := by
        rw [Bool.and_eq_false_iff, decide_eq_false_iff_not, decide_eq_false_iff_not]; omega
      rw [e, cond_false]
    unfold fP fL fC
    rfl
  subst hs; exact zg5 h zh2 zhm
end Go.Proofs.YtipomhejoajjdaaGreat
namespace Go.Proofs.YtipomhejoajjdaaGreat
open Go.RowKit Go.ChangeShapes Go.WideShapes Go.Deep
def Opens {H : Type} (enc : TypeId × Value → H) (w : World) (base : Nat) (spare : Nat → Bool) (held : Bool) (t : TypeId) {α : Type} (R : List Value → α → Prop) : Prop :=
  ∀ fuel cs y, DataW.trod enc Tryz.prog w base spare held fuel t cs = some y → ∃ x, R cs x
section
variable {H : Type} {enc : TypeId × Value → H} {w : World} {base : Nat} {spare : Nat → Bool} {held : Bool}
theorem Opens.int {t : TypeId} (ht : Tryz.prog.underlying t = some (.int .i64)) : Opens enc w base spare held t (fun cs (x : Int) => cs = [.int .i64 x]) := fun fuel cs y h => by
  obtain ⟨k, hk, _⟩ := DataW.trod_int ht h; exact ⟨k, hk⟩
theorem zhR {a : Addr} {v : Value} (h : w.cell? a = some v) : Cb w a.block := by
  unfold World.cell? at h
  split at h
  all_goals (first | exact ⟨_, _, _, by assumption⟩ | simp at h | skip)
theorem Opens.any {t e : TypeId} {k : Nat} {α : Type} [Inhabited α] {R : List Value → α → Prop} (ht : Tryz.prog.underlying t = some (.slice e)) (hk : Tryz.prog.cellsOf e = k) (hpos : 0 < k) (ho : Opens enc w base spare held e R) :
    Opens enc w base spare held t (fun cs (l : List α) => ∃ v c, cs = [v] ∧ SlC (Frz.all w) v k c ∧ c.length = l.length ∧ ∀ i, i < l.length → R (nth c i) (nth l i)) := fun fuel cs y h => by
  rcases open_slice ht h with ⟨h0, _⟩ | ⟨a, len, cap, m, n, D, Pl, hcs, hb, hl, hm, hmm, _, hx⟩
  · exact ⟨[], _, [], h0, SlC.nil _ _, rfl, fun i hi => absurd hi (Nat.not_lt_zero i)⟩
  · subst hcs; (have hlm : len ≤ m := by rw [hmm]; split <;> omega)
    have each : ∀ i, i < m → ∃ x : List Value × α, x.1.length = k ∧ R x.1 x.2 ∧ ∀ j, j < k → w.cell? (a.add (i * k + j)) = x.1[j]? := fun i hi => by
      obtain ⟨cs', h1, h2⟩ := hx i hi; rw [hk] at h1; obtain ⟨_, hlen, hcell⟩ := World.cells?_some h1; obtain ⟨x, hR⟩ := ho _ _ _ h2; exact ⟨(cs', x), hlen, hR, fun j hj => by rw [← hcell j hj, add_add]⟩
    obtain ⟨X, hX⟩ := choose_lt each
    have hn : ∀ i, i < len → nth ((List.range len).map fun i => (X i).1) i = (X i).1 := fun i hi => by
      rw [zbu (by simpa using hi)]; simp
    have hn2 : ∀ i, i < len → nth ((List.range len).map fun i => (X i).2) i = (X i).2 := fun i hi => by
      rw [zbu (by simpa using hi)]; simp
    refine ⟨(List.range len).map fun i => (X i).2, _, (List.range len).map fun i => (X i).1, rfl, ⟨some a, cap, by simp, by simpa using hl, by unfold maxLen at hm; omega, fun c hc => ?_, fun hp => ?_⟩, by simp, fun i hi => ?_⟩
    · simp at hc; obtain ⟨i, hi, rfl⟩ := hc; exact (hX i (by omega)).1
    · (have hp' : 0 < len := by simpa using hp); have c0 := (hX 0 (by omega)).2.2 0 hpos; have hx0 := (hX 0 (by omega)).1; rw [List.getElem?_eq_getElem (by omega)] at c0; have hcb := zhR c0; have hs := World.cell?_spot c0; simp [Addr.add] at hs hcb; obtain ⟨b, off, sp⟩ := a; simp at hs hcb; subst hs; refine ⟨b, off, rfl, hcb, fun i hi j hj => ?_⟩; simp at hi; rw [hn i hi] at hj ⊢; have hxi := hX i (by omega); have := hxi.2.2 j (by omega); refine Eq.trans ?_ this
      show w.cell? _ = _
      rw [zde, Nat.add_assoc]
    · simp at hi; rw [hn i hi, hn2 i hi]; exact (hX i (by omega)).2.1
end
end Go.Proofs.YtipomhejoajjdaaGreat
