/- Yu Ve Of: shortened and put together by squeeze.py. -/
import Derived.Test.YtipomhejoajjdaaGreatQ10
import Derived.Deep.Slices
import Derived.ChangeArms
set_option maxRecDepth 100000
set_option maxHeartbeats 4000000
set_option linter.unusedVariables false
set_option linter.unusedSectionVars false
set_option linter.unusedSimpArgs false
namespace Go.Proofs.YtipomhejoajjdaaGreat
open Go.RowKit
def zb4 (fuel : Nat) (p : GProblem) (b : List Int) : Option Bool :=
  zaH (fun (x_1 : Bool) =>
    (bif x_1 then
      (zcV fuel).bind fun r19 =>
      some r19
      else
      (zbJ fuel b).bind fun r22 =>
      (zbZ fuel b).bind fun r27 =>
      (bif ((decide (¬ r22.2 = r27.2)) || (!(zcO r22.1 r27.1))) then
        some false
        else
        (zbL fuel p).bind fun r41 =>
        (zcy p).bind fun r45 =>
        (bif !r45 then
          zaH (fun (x_8 : Bool) =>
            some x_8)
          (fun k9 =>
            (bif decide ((r41.1.length : Int) = 0) then
              (bif decide (r41.2 = 2) then
                (zcV fuel).bind fun r55 =>
                k9 r55
                else
                k9 false)
              else
              k9 false))
          else
          zaH (fun (x_12 : Bool) =>
            some x_12)
          (fun k13 =>
            (bif decide (r41.2 = 0) then
              (zca fuel p).bind fun r63 =>
              (bif ((u8s r41.1) == (u8s r63)) then
                (zcV fuel).bind fun r68 =>
                k13 r68
                else
                k13 false)
              else
              k13 false))))))
  (fun k2 =>
    (bif decide (1000 < (b.length : Int)) then
      k2 true
      else
      (zda fuel p 60 60).bind fun r16 =>
      k2 (!r16)))
theorem zd9 (F0 : Frz) (w : World) (hF0 : F0.At w) (p : GProblem) (vp_0 : Value) (cp_0 : List (List Value)) (hp_0 : SlD GDomain.rep F0 vp_0 2 cp_0 p.Domains) (vp_1 : Value) (hp_1 : SlC F0 vp_1 5 (p.Rules.Pairs.map GPair.enc)) (vp_2 : Value) (hp_2 : SlC F0 vp_2 5 (p.Rules.Loads.map GLoad.enc)) (vp_3 : Value) (hp_3 : SlC F0 vp_3 4 (p.Rules.Caps.map GCap.enc)) (b : List Int) (vb : Value) (hb : SlC F0 vb 1 (b.map (eK .u8))) (fuel : Nat) (r : Bool) (hr : zb4 fuel p b = some r) : Calls Tryz.prog 6 #[.agg [vp_0, vp_1, vp_2, vp_3].toArray, vb] w fun e w' => e = .returned (.bool r) ∧ Below w.heap.size w w' := by
  have hk := hr; unfold zb4 at hk; haveI := hp_0.1.oneC; haveI := hp_1.oneC; haveI := hp_2.oneC; haveI := hp_3.oneC; haveI := hb.oneC; obtain ⟨S0, F1, rfl, hS0, hp0⟩ := zal hF0; refine zam Tryz.func6 rfl rfl rfl hp0 ?_; refine T.sr ?_; refine TL.e (Ew.aA rfl rfl) ?_; rintro _ _ ⟨g2, rfl, rfl⟩; refine TL.run 1 rfl ?_; refine TL.ns (T.seq (T.seq ?_)); (try dsimp only at hk); have hq := zaf hk; clear hk; obtain ⟨k2, hk2, hk⟩ := hq; (try dsimp only at hk); refine T.af (ι := Bool) (fun z => [(1, vb), (2, .pointer (some ⟨g2, 0, none⟩)), (18, .bool z)]) (fun z => [.row g2 29 [vp_0, vp_1, vp_2, vp_3], .fr F1]) (fun z => k2 z = some r) ?_ ?_
  · refine T.region ?_; refine TL.run 1 rfl ?_; refine TL.y (Yv.an rfl rfl hb (List.length_map _)) ?_; have hm12 : b.length ≤ 9223372036854775807 := (List.length_map _) ▸ hb.max; refine TL.run 2 rfl ?_; refine TL.gs rfl rfl rfl (fun h3 => ?_) (fun h3 => ?_)
    · have p3 := of_decide_eq_true h3; replace hk := zac hk h3; refine TL.run 4 rfl ?_; refine TL.nil ?_; exact K.ai true hk (.c (.c (.c .nil))) (List.Sublist.refl _)
    · have p3 := of_decide_eq_false h3; replace hk := zab hk h3; refine TL.y (Yv.am 0 rfl rfl rfl rfl) ?_; have hq := zae hk; clear hk; obtain ⟨r16, hr16, hk⟩ := hq; refine TL.e (Ew.ag rfl rfl rfl (fun w hw => zgo _ w (hw.fr (i := 1) rfl) p vp_0 cp_0 hp_0 vp_1 hp_1 vp_2 hp_2 vp_3 hp_3 60 60 fuel r16 hr16)) ?_; rintro _ _ ⟨rfl, rfl⟩; refine TL.run 2 rfl ?_; refine TL.nil ?_; exact K.ai (!r16) hk (.c (.c (.c .nil))) (List.Sublist.refl _)
  · rintro x_1 hk; rw [← hk2] at hk; (try dsimp only at hk); refine T.cond rfl (fun h4 => ?_) (fun h4 => ?_)
    · replace hk := zac hk h4; refine T.seq ?_; have hq := zae hk; clear hk; obtain ⟨r19, hr19, hk⟩ := hq; (try dsimp only at hk); refine T.region ?_; refine TL.e (Ew.ag rfl rfl rfl (fun w hw => zdS _ w (hw.fr (i := 1) rfl)  fuel r19 hr19)) ?_; rintro _ _ ⟨rfl, rfl⟩; refine TL.run 1 rfl ?_; refine TL.ns (T.ret (K.then_ret ?_)); obtain rfl := Option.some.inj hk; exact K.aj rfl rfl (fun w' hw => ⟨rfl, hw.isBelow⟩)
    · replace hk := zab hk h4; refine T.skip (K.seq (T.seq ?_)); have hq := zae hk; clear hk; obtain ⟨r22, hr22, hk⟩ := hq; (try dsimp only at hk); refine T.region ?_; refine TL.run 1 rfl ?_; refine TL.e (Ew.aw 1 rfl rfl rfl rfl (fun w hw hF => zfi _ w hF b vb hb fuel r22 hr22)) ?_; rintro _ _ ⟨⟨v22_0_0, cs22_0_0, v22_0_1, v22_0_2, v22_0_3⟩, F2, le1_2, ⟨hf22_0_0, hf22_0_1, hf22_0_2, hf22_0_3⟩, rfl, rfl⟩; dsimp only at hf22_0_0 hf22_0_1 hf22_0_2 hf22_0_3 ⊢; haveI := hf22_0_0.1.oneC; haveI := hf22_0_1.oneC; haveI := hf22_0_2.oneC; haveI := hf22_0_3.oneC; refine TL.run 3 rfl ?_; refine TL.e (Ew.alloc rfl) ?_; rintro _ _ ⟨g5, rfl, rfl⟩; refine TL.e0 (Ew.ah 0 rfl rfl rfl rfl rfl rfl) ?_; rintro _ _ ⟨rfl, rfl⟩; refine TL.run 1 rfl ?_; refine TL.ns (T.seq ?_); have hq := zae hk; clear hk; obtain ⟨r27, hr27, hk⟩ := hq; (try dsimp only at hk); refine T.region ?_; refine TL.run 1 rfl ?_; refine TL.e (Ew.aw 2 rfl rfl rfl rfl (fun w hw hF => zfO _ w hF b vb (SlC.mono hb le1_2) fuel r27 hr27)) ?_; rintro _ _ ⟨⟨v27_0_0, cs27_0_0, v27_0_1, v27_0_2, v27_0_3⟩, F3, le2_3, ⟨hf27_0_0, hf27_0_1, hf27_0_2, hf27_0_3⟩, rfl, rfl⟩; dsimp only at hf27_0_0 hf27_0_1 hf27_0_2 hf27_0_3 ⊢; have le1_3 := le1_2.trans le2_3; haveI := hf27_0_0.1.oneC; haveI := hf27_0_1.oneC; haveI := hf27_0_2.oneC; haveI := hf27_0_3.oneC; refine TL.run 3 rfl ?_; refine TL.e (Ew.alloc rfl) ?_; rintro _ _ ⟨g7, rfl, rfl⟩; refine TL.e0 (Ew.ah 0 rfl rfl rfl rfl rfl rfl) ?_; rintro _ _ ⟨rfl, rfl⟩; refine TL.run 1 rfl ?_; refine TL.ns (T.seq (T.seq ?_)); refine T.af (ι := Unit) (fun z => [(2, .pointer (some ⟨g2, 0, none⟩)), (38, .bool ((decide (¬ r22.2 = r27.2)) || (!(zcO r22.1 r27.1))))]) (fun z => [.row g7 29 [v27_0_0, v27_0_1, v27_0_2, v27_0_3], .row g5 29 [v22_0_0, v22_0_1, v22_0_2, v22_0_3], .row g2 29 [vp_0, vp_1, vp_2, vp_3], .fr F3]) (fun z => True) ?_ ?_
      · refine T.region ?_; refine TL.run 4 rfl ?_; refine TL.gs rfl rfl rfl (fun h5 => ?_) (fun h5 => ?_)
        · have p5 := of_decide_eq_true h5; refine TL.run 5 rfl ?_; refine TL.nil ?_; exact K.ai () trivial (.c (.b (zbW h5).symm .nil)) (List.Sublist.refl _)
        · have p5 := of_decide_eq_false h5; refine TL.y (Yv.am 1 rfl rfl rfl rfl) ?_; refine TL.y (Yv.am 0 rfl rfl rfl rfl) ?_; refine TL.e (Ew.ag rfl rfl rfl (fun w hw => zgs _ w (hw.fr (i := 3) rfl) r22.1 v22_0_0 cs22_0_0 (SlD.mono (rep := GDomain.rep) (fun _ _ _ _ => GDomain.mono) hf22_0_0 le2_3) v22_0_1 (SlC.mono hf22_0_1 le2_3) v22_0_2 (SlC.mono hf22_0_2 le2_3) v22_0_3 (SlC.mono hf22_0_3 le2_3) r27.1 v27_0_0 cs27_0_0 hf27_0_0 v27_0_1 hf27_0_1 v27_0_2 hf27_0_2 v27_0_3 hf27_0_3)) ?_; rintro _ _ ⟨rfl, rfl⟩; refine TL.run 2 rfl ?_; refine TL.nil ?_; exact K.ai () trivial (.c (.b (or_f h5) .nil)) (List.Sublist.refl _)
      · rintro _ _; refine T.cond rfl (fun h6 => ?_) (fun h6 => ?_)
        · replace hk := zac hk h6; refine T.sr ?_; refine TL.run 1 rfl ?_; refine TL.ns (T.ret (K.then_ret ?_)); obtain rfl := Option.some.inj hk; exact K.aj rfl rfl (fun w' hw => ⟨rfl, hw.isBelow⟩)
        · have p6 := h6; (try simp only [nfB] at p6); replace hk := zab hk h6; refine T.skip (K.seq (T.seq ?_)); have hq := zae hk; clear hk; obtain ⟨r41, hr41, hk⟩ := hq; (try dsimp only at hk); refine T.region ?_; refine TL.y (Yv.am 2 rfl rfl rfl rfl) ?_; refine TL.e (Ew.aJ [3, 0, 1, 2] [] [.row g7 29 [v27_0_0, v27_0_1, v27_0_2, v27_0_3], .row g5 29 [v22_0_0, v22_0_1, v22_0_2, v22_0_3], .row g2 29 [vp_0, vp_1, vp_2, vp_3]] rfl rfl rfl rfl (by decide) (fun w hw hw2 hF => zd7 _ w hF p vp_0 cp_0 (SlD.mono (rep := GDomain.rep) (fun _ _ _ _ => GDomain.mono) hp_0 le1_3) vp_1 (SlC.mono hp_1 le1_3) vp_2 (SlC.mono hp_2 le1_3) vp_3 (SlC.mono hp_3 le1_3) fuel r41 hr41)) ?_; rintro _ _ ⟨v41_0_0, F4, le3_4, -, rfl, rfl⟩; dsimp only [List.cons_append, List.nil_append]; have le1_4 := le1_3.trans le3_4; refine TL.az 0 rfl ?_; intro iv41_0_0 hmv41_0_0; refine TL.run 5 rfl ?_; refine TL.ns (T.seq (T.seq ?_)); have hq := zae hk; clear hk; obtain ⟨r45, hr45, hk⟩ := hq; (try dsimp only at hk); refine T.region ?_; refine TL.y (Yv.am 4 rfl rfl rfl rfl) ?_; refine TL.e (Ew.ag rfl rfl rfl (fun w hw => zeT _ w (hw.fr (i := 1) rfl) p vp_0 cp_0 (SlD.mono (rep := GDomain.rep) (fun _ _ _ _ => GDomain.mono) hp_0 le1_4) vp_1 (SlC.mono hp_1 le1_4) vp_2 (SlC.mono hp_2 le1_4) vp_3 (SlC.mono hp_3 le1_4) r45 hr45)) ?_; rintro _ _ ⟨rfl, rfl⟩; refine TL.run 1 rfl ?_; refine TL.ns ?_; refine T.cond rfl (fun h7 => ?_) (fun h7 => ?_)
          · replace hk := zac hk h7; refine T.seq ?_; (try dsimp only at hk); have hq := zaf hk; clear hk; obtain ⟨k9, hk9, hk⟩ := hq; (try dsimp only at hk); refine T.af (ι := Bool) (fun z => [(4, .bool z)]) (fun z => [.fr F4]) (fun z => k9 z = some r) ?_ ?_
            · refine T.region ?_; refine TL.run 1 rfl ?_; refine TL.y (Yv.bk 0 rfl rfl rfl) ?_; refine TL.run 2 rfl ?_; refine TL.gs rfl rfl rfl (fun h10 => ?_) (fun h10 => ?_)
              · have p10 := of_decide_eq_true h10; replace hk := zac hk h10; refine TL.run 4 rfl ?_; refine TL.gs rfl rfl rfl (fun h11 => ?_) (fun h11 => ?_)
                · have p11 := of_decide_eq_true h11; replace hk := zac hk h11; have hq := zae hk; clear hk; obtain ⟨r55, hr55, hk⟩ := hq; refine TL.e (Ew.ag rfl rfl rfl (fun w hw => zdS _ w (hw.fr (i := 1) rfl)  fuel r55 hr55)) ?_; rintro _ _ ⟨rfl, rfl⟩; refine TL.run 2 rfl ?_; refine TL.nil ?_; refine K.pick [1] rfl (by decide) ?_; exact K.ai r55 hk (.c .nil) (List.Sublist.refl _)
                · have p11 := of_decide_eq_false h11; replace hk := zab hk h11; refine TL.run 3 rfl ?_; refine TL.nil ?_; refine K.pick [1] rfl (by decide) ?_; exact K.ai false hk (.c .nil) (List.Sublist.refl _)
              · have p10 := of_decide_eq_false h10; replace hk := zab hk h10; refine TL.run 7 rfl ?_; refine TL.nil ?_; refine K.pick [1] rfl (by decide) ?_; exact K.ai false hk (.c .nil) (List.Sublist.refl _)
            · rintro x_8 hk; rw [← hk9] at hk; (try dsimp only at hk); refine T.ret (K.then_ret ?_); obtain rfl := Option.some.inj hk; exact K.aj rfl rfl (fun w' hw => ⟨rfl, hw.isBelow⟩)
          · replace hk := zab hk h7; refine T.skip (K.seq (T.seq ?_)); refine T.ay (fun w hw => hw.freezeS (i := 1) (j := 0) (by decide) rfl rfl) ?_; rintro F5 ⟨le4_5, hz5⟩; dsimp only [List.set, List.eraseIdx]; have le1_5 := le1_4.trans le4_5; have hf5 := hz5.toF rfl (fun _ => rfl); haveI := hf5.oneC; (try dsimp only at hk); have hq := zaf hk; clear hk; obtain ⟨k13, hk13, hk⟩ := hq; (try dsimp only at hk); refine T.af (ι := Bool × FzB w (fun _ => False) S0) (fun z => [(4, .bool z.1)]) (fun z => [.fr z.2]) (fun z => k13 z.1 = some r ∧ F5.toFrz.Le z.2.toFrz) ?_ ?_
            · refine T.ax (.still 0 (.still 1 (.still 2 (.still 3 (.still 4 (.still 5 (.eff 6 (.eff 7 (.still 8 (.still 9 (.still 10 (.eff 11 (.still 12 (.still 13 .done)))))))))))))) _ (by kernel_rfl) (List.Sublist.refl _) ?_; refine TS.run 3 rfl ?_; refine TS.gs rfl rfl rfl rfl (fun h14 => ?_) (fun h14 => ?_)
              · have p14 := of_decide_eq_true h14; replace hk := zac hk h14; refine TS.run 1 rfl ?_; refine TS.y rfl (Yv.bd 0 (e := 5) (by kernel_rfl) (by kernel_rfl) (by kernel_rfl) rfl rfl rfl hf5) ?_; refine TS.y rfl (Yv.am 3 rfl rfl rfl rfl) ?_; refine TS.eff ?_; have hq := zae hk; clear hk; obtain ⟨r63, hr63, hk⟩ := hq; refine TSo.au rfl (Wt.some rfl rfl rfl rfl) rfl rfl (Ew.aw 0 rfl rfl rfl rfl (fun w hw hF => zex _ w hF p vp_0 cp_0 (SlD.mono (rep := GDomain.rep) (fun _ _ _ _ => GDomain.mono) hp_0 le1_5) vp_1 (SlC.mono hp_1 le1_5) vp_2 (SlC.mono hp_2 le1_5) vp_3 (SlC.mono hp_3 le1_5) fuel r63 hr63)) ?_; rintro _ _ ⟨v63_0_0, F7, le5_7, hf63_0_0, hq, rfl⟩; obtain rfl := hq.symm; haveI := hf63_0_0.oneC; refine ⟨(fun w hw => (hw.frLe (i := 0) rfl le5_7).sub Sx), ?_⟩; refine TS.eff ?_; refine TSo.aS rfl (Wt.some rfl rfl rfl rfl) rfl rfl (Yv.bd 0 (e := 5) (by kernel_rfl) (by kernel_rfl) (by kernel_rfl) rfl rfl rfl hf63_0_0) (fun w hw => (hw.frLe (i := 0) rfl le5_7).sub Sx) ?_; refine TS.y rfl (Yv.bz (a := (u8s r41.1)) (b := (u8s r63)) rfl rfl rfl) ?_; refine TS.run 2 rfl ?_; refine TS.eff ?_; refine TSo.gs rfl rfl rfl rfl (fun h15 => ?_) (fun h15 => ?_)
                · replace hk := zac hk h15; have hq := zae hk; clear hk; obtain ⟨r68, hr68, hk⟩ := hq; refine TSo.au rfl (Wt.some rfl rfl rfl rfl) rfl rfl (Ew.ag rfl rfl rfl (fun w hw => zdS _ w (hw.fr (i := 0) rfl)  fuel r68 hr68)) ?_; rintro _ _ ⟨rfl, rfl⟩; refine ⟨(fun w hw => (hw.frLe (i := 0) rfl le5_7).sub Sx), ?_⟩; refine TS.run 2 rfl ?_; refine TS.done ?_; refine K.pick [0] rfl (by decide) ?_; exact K.ai (r68, F7) ⟨hk, le5_7⟩ (.c .nil) (List.Sublist.refl _)
                · replace hk := zab hk h15; refine TSo.off rfl (Wt.not rfl rfl rfl rfl) rfl rfl ?_; refine TS.run 2 rfl ?_; refine TS.done ?_; refine K.pick [0] rfl (by decide) ?_; exact K.ai (false, F7) ⟨hk, le5_7⟩ (.c .nil) (List.Sublist.refl _)
              · have p14 := of_decide_eq_false h14; replace hk := zab hk h14; refine TS.run 3 rfl ?_; refine TS.eff ?_; refine TSo.off rfl (Wt.not rfl rfl rfl rfl) rfl rfl ?_; refine TS.eff ?_; refine TSo.off rfl (Wt.not rfl rfl rfl rfl) rfl rfl ?_; refine TS.run 3 rfl ?_; refine TS.eff ?_; refine TSo.off rfl (Wt.not rfl rfl rfl rfl) rfl rfl ?_; refine TS.run 2 rfl ?_; refine TS.done ?_; refine K.pick [0] rfl (by decide) ?_; exact K.ai (false, F5) ⟨hk, (Frz.Le.refl _)⟩ (.c .nil) (List.Sublist.refl _)
            · rintro ⟨x_12, F6⟩ ⟨hk, le5_6⟩; (try dsimp only at *); rw [← hk13] at hk; (try dsimp only at hk); refine T.ret ?_; obtain rfl := Option.some.inj hk; exact K.aj rfl rfl (fun w' hw => ⟨rfl, hw.isBelow⟩)
theorem zcM {fuel : Nat} {n : Int} (hf : 20 ≤ fuel) (hn : 0 ≤ n ∧ n ≤ 9223372036854775807) : zaR fuel n = some (encI n) := by
  unfold zaR; simp only [zaH]; have hb : ∀ m : Int, m ≤ 9223372036854775807 → (encU m.toNat).length ≤ 9 := fun m hm => zdy 8 _ (by omega); have hb0 := hb n hn.2; refine zc4 (σ := Int × List Int) (I := fun s => (0 ≤ s.1 ∧ s.1 ≤ 9223372036854775807) ∧ s.2 ++ encU s.1.toNat = encI n) (μ := fun s => (encU s.1.toNat).length) (post := fun o => o = some (encI n)) ⟨hn, rfl⟩ (by show (encU n.toNat).length < fuel; omega) ?_; rintro ⟨m, a⟩ next ⟨hm, hI⟩ hn2; dsimp only at hm hI hn2 ⊢
  have hlen : a.length ≤ 20 := by
    have h1 := congrArg List.length hI; rw [List.length_append] at h1; have : (encI n).length ≤ 9 := hb0; omega
  by_cases h : m < 128
  · rw [decide_eq_false (by omega), cond_false, zav (by unfold room; rw [List.length_append, List.length_singleton]; omega), show m = ((m.toNat : Nat) : Int) by omega, ziz, Nat.mod_eq_of_lt (by omega), ← zdJ (by omega)]; exact congrArg some hI
  · have h2 := zei (n := m.toNat) (by omega); rw [decide_eq_true (by omega), cond_true, zav (by omega), zav (by unfold room; rw [List.length_append, List.length_singleton]; omega), zav (by omega), zdq (by omega), show m % 128 + 128 = ((m.toNat % 128 + 128 : Nat) : Int) by omega, ziz, Nat.mod_eq_of_lt (by omega)]; refine hn2 _ ⟨by dsimp only; omega, ?_⟩ ?_
    · dsimp only; rw [show (m / 128).toNat = m.toNat / 128 by omega, List.append_assoc, List.singleton_append, ← h2]; exact hI
    · dsimp only; rw [show (m / 128).toNat = m.toNat / 128 by omega, h2, List.length_cons]; omega
theorem zik {fuel : Nat} {n : Int} (hf : 20 ≤ fuel) (hn : -1 ≤ n ∧ n ≤ 1) : zdA fuel n = some (encU (zig n)) := by
  (have h3 : n = -1 ∨ n = 0 ∨ n = 1 := by omega); unfold zdA; rcases h3 with rfl | rfl | rfl
  · show (zaR fuel _).bind _ = _
    rw [show (wI ((wI ((-2) * (-1))) - 1)) = 1 by decide, zcM hf (by omega)]; rfl
  · show (zaR fuel _).bind _ = _
    rw [show (wI (2 * 0)) = 0 by decide, zcM hf (by omega)]; rfl
  · show (zaR fuel _).bind _ = _
    rw [show (wI (2 * 1)) = 2 by decide, zcM hf (by omega)]; rfl
theorem zg0 {ρ : Type} (K : Int → Option ρ) : ∀ (m i b : Nat), b * 2 ^ m < 2 ^ 60 → zag (fun (k : Nat) (next : Int → Option ρ) (bit : Int) => next (wI (2 * bit))) K m i (b : Int) = K ((b * 2 ^ m : Nat) : Int)
  | 0, i, b, h => by show K (b : Int) = _; rw [Nat.pow_zero, Nat.mul_one]
  | m + 1, i, b, h => by
    (have e : b * 2 ^ (m + 1) = (2 * b) * 2 ^ m := by rw [Nat.pow_succ, Nat.mul_comm (2 ^ m) 2, ← Nat.mul_assoc, Nat.mul_comm b 2]); rw [e] at h ⊢; have hb : 2 * b ≤ 2 * b * 2 ^ m := Nat.le_mul_of_pos_right _ (Nat.pow_pos (by decide)); rw [← zg0 K m (i + 1) (2 * b) h]
    show zag _ K m (i + 1) (wI (2 * (b : Int))) = _
    rw [zdq (by omega)]; rfl
theorem zhJ (l : List Int) (c : Int) : zdj (l ++ [c]) = bitS (zdj l) c := by unfold zdj; rw [List.foldl_append]; rfl
theorem zhZ {l : List Int} (hc : ∀ c ∈ l, 2 ≤ c ∧ c ≤ 51) (hs : l.Pairwise (· < ·)) : zdi l = some ((zdj l : Nat) : Int) := by
  unfold zdi; simp only [zaH]; refine loopG (σ := Int) (fun i s => s = ((zdj (l.take i) : Nat) : Int)) (fun o => o = some ((zdj l : Nat) : Int)) rfl (fun i next s hi hI => ?_) (fun s h => ?_)
  · have hci := hc _ (zbg (show i < l.length by omega)); subst hI; refine ⟨_, rfl, ?_⟩
    have hlt : zdj (l.take i) < 2 ^ (nth l i - 2).toNat := by
      refine Nat.lt_pow_two_of_testBit _ fun k hk => ?_; rw [zf5, List.any_eq_false]; intro c hct hd; obtain ⟨j, h1, h2, rfl⟩ := zhU hct; have h3 := hc _ (zbg h2)
      have h4 : nth l j < nth l i := by
        rw [za8 h2, za8 (show i < l.length by omega)]; exact List.pairwise_iff_getElem.1 hs j i _ _ h1
      have := of_decide_eq_true hd; omega
    have hp : (1 : Nat) * 2 ^ (nth l i - 2).toNat < 2 ^ 60 := by
      rw [Nat.one_mul]; exact Nat.pow_lt_pow_right (by decide) (by omega)
    rw [zav (by omega), show (nth l i).toNat - 2 = (nth l i - 2).toNat by omega, show (1 : Int) = ((1 : Nat) : Int) from rfl, zg0 _ _ _ _ hp]
    have hm : zdj (l.take (i + 1)) = zdj (l.take i) + 1 * 2 ^ (nth l i - 2).toNat := by
      rw [zef (show i < l.length by omega), zhJ]; have := Nat.shiftLeft_add_eq_or_of_lt hlt 1; rw [Nat.shiftLeft_eq] at this; unfold bitS; rw [Nat.or_comm, Nat.add_comm, this, Nat.one_mul]
    rw [hm]; generalize (1 : Nat) * 2 ^ (nth l i - 2).toNat = y at hp hm ⊢; have hlt2 := zeC (l := l.take i) fun c h => hc c (List.mem_of_mem_take h); rw [zdq (by omega)]; rfl
  · rw [h, Nat.sub_zero, List.take_length]
theorem ziN {fuel : Nat} {ρ : Type} {l out : List Int} {K : List Int → Option ρ} (hf : 20 ≤ fuel) (hn : ∀ n ∈ l, 0 ≤ n ∧ n ≤ 9223372036854775807) (hl : (out ++ l.flatMap encI).length ≤ 65536) : zag (fun (k : Nat) (next : List Int → Option ρ) (s : List Int) => (zaR fuel (nth l k)).bind fun r => grd (room (s ++ r).length 1) <| next (s ++ r)) K (l.length - 0) 0 out = K (out ++ l.flatMap encI) :=
  zfP (g := encI) hl fun i next s hi hs => by
    rw [zcM hf (hn _ (zbg hi)), Option.bind_some, zav (by unfold room; omega)]
theorem zf2 {d : GDomain} (h : okD d = true) : d.Channels.Pairwise (· < ·) :=
  ((zgq (lt := fun a b : Int => decide (a < b)) (fun a b c x y => by rw [decide_eq_true_eq] at *; omega)).1 (zcF (zcF h))).imp of_decide_eq_true
theorem zeA {fuel : Nat} {p : GProblem} (hf : 20 ≤ fuel) (hp : okP p = true) : zca fuel p = some (encP p) := by
  obtain ⟨hD, hR, hi, _⟩ := zeg hp; have hl := zeE hD hi; have g := hR.g; have n1 := g.np; have n2 := g.nl; have n3 := g.nc; have hlen := zfk hp
  have pf : ∀ {a b : List Int}, encP p = a ++ b → a.length ≤ 65536 := fun {a b} e => by
    rw [e, List.length_append] at hlen; omega
  have hw : ∀ (n : Nat), n ≤ 5000 → zaR fuel (n : Int) = some (encU n) := fun n h1 => by
    rw [zcM hf (by omega)]; rfl
  unfold zca; rw [hw p.Domains.length (by omega)]; refine (zfP (l := p.Domains) (g := encD) (s0 := encU p.Domains.length) (pf (b := encU p.Rules.Pairs.length ++ (p.Rules.Pairs.flatMap zcN ++ (encU p.Rules.Loads.length ++ (p.Rules.Loads.flatMap encL ++ (encU p.Rules.Caps.length ++ p.Rules.Caps.flatMap encC))))) (by unfold encP; simp only [List.append_assoc, List.nil_append])) (fun i next s hin hs => ?_)).trans ?_
  · have hd := List.all_eq_true.1 hD _ (zbg hin); have a := zgy hd; have b := zeC (zew hd)
    have e : s ++ encD (nth p.Domains i) = (s ++ encI (nth p.Domains i).Station) ++ encI ((zdj (nth p.Domains i).Channels : Nat) : Int) := by
      unfold encD; simp only [zcP, List.flatMap_nil, List.append_nil, List.append_assoc]
    rw [e] at hs ⊢; (have hs2 : (s ++ encI (nth p.Domains i).Station).length ≤ 65536 := by rw [List.length_append] at hs; omega); rw [zcM hf (by omega), Option.bind_some, zav (by unfold room; omega), zhZ (zew hd) (zf2 hd), Option.bind_some, zcM hf (by omega), Option.bind_some, zav (by unfold room; omega)]
  have w2 := pf (a := encU p.Domains.length ++ p.Domains.flatMap encD ++ encU p.Rules.Pairs.length) (b := p.Rules.Pairs.flatMap zcN ++ (encU p.Rules.Loads.length ++ (p.Rules.Loads.flatMap encL ++ (encU p.Rules.Caps.length ++ p.Rules.Caps.flatMap encC)))) (by unfold encP; simp only [List.append_assoc])
  show (zaR fuel (p.Rules.Pairs.length : Int)).bind _ = _
  rw [hw p.Rules.Pairs.length (by omega), Option.bind_some, zav (by unfold room; omega)]; refine (zfP (l := p.Rules.Pairs) (g := zcN) (pf (b := encU p.Rules.Loads.length ++ (p.Rules.Loads.flatMap encL ++ (encU p.Rules.Caps.length ++ p.Rules.Caps.flatMap encC))) (by unfold encP; simp only [List.append_assoc, List.nil_append])) (fun i next s hin hs => ?_)).trans ?_
  · have hc := zhi (g.p _ (zbg hin)); have a := hc.a; have b := hc.b; have c := hc.l; have d := hc.h
    have e : s ++ zcN (nth p.Rules.Pairs i) = ((((s ++ encI (nth p.Rules.Pairs i).A) ++ encI (nth p.Rules.Pairs i).B) ++ encU (zig (nth p.Rules.Pairs i).Offset)) ++ encI (nth p.Rules.Pairs i).Low) ++ encI (nth p.Rules.Pairs i).High := by
      unfold zcN; simp only [zcP, List.flatMap_nil, List.append_nil, List.append_assoc]
    rw [e] at hs ⊢; (have s4 : ((((s ++ encI (nth p.Rules.Pairs i).A) ++ encI (nth p.Rules.Pairs i).B) ++ encU (zig (nth p.Rules.Pairs i).Offset)) ++ encI (nth p.Rules.Pairs i).Low).length ≤ 65536 := by rw [List.length_append] at hs; omega); (have s3 : (((s ++ encI (nth p.Rules.Pairs i).A) ++ encI (nth p.Rules.Pairs i).B) ++ encU (zig (nth p.Rules.Pairs i).Offset)).length ≤ 65536 := by rw [List.length_append] at s4; omega); (have s2 : ((s ++ encI (nth p.Rules.Pairs i).A) ++ encI (nth p.Rules.Pairs i).B).length ≤ 65536 := by rw [List.length_append] at s3; omega); (have s1 : (s ++ encI (nth p.Rules.Pairs i).A).length ≤ 65536 := by rw [List.length_append] at s2; omega); rw [zcM hf (by omega), Option.bind_some, zav (by unfold room; omega), zcM hf (by omega), Option.bind_some, zav (by unfold room; omega), zik hf hc.o, Option.bind_some, zav (by unfold room; omega), zcM hf (by omega), Option.bind_some, zav (by unfold room; omega), zcM hf (by omega), Option.bind_some, zav (by unfold room; omega)]
  have w3 := pf (a := encU p.Domains.length ++ p.Domains.flatMap encD ++ encU p.Rules.Pairs.length ++ p.Rules.Pairs.flatMap zcN ++ encU p.Rules.Loads.length) (b := p.Rules.Loads.flatMap encL ++ (encU p.Rules.Caps.length ++ p.Rules.Caps.flatMap encC)) (by unfold encP; simp only [List.append_assoc])
  show (zaR fuel (p.Rules.Loads.length : Int)).bind _ = _
  rw [hw p.Rules.Loads.length (by omega), Option.bind_some, zav (by unfold room; omega)]; refine (zfP (l := p.Rules.Loads) (g := encL) (pf (b := encU p.Rules.Caps.length ++ p.Rules.Caps.flatMap encC) (by unfold encP; simp only [List.append_assoc, List.nil_append])) (fun i next s hin hs => ?_)).trans ?_
  · have hc := loadR (g.l _ (zbg hin)); have a := hc.a; have b := hc.b; have c := hc.l; have d := hc.h; have e := hc.w; exact ziN (l := za0 (nth p.Rules.Loads i)) hf (fun n hn => by unfold za0 at hn; simp only [List.mem_cons, List.not_mem_nil, or_false] at hn; omega) hs
  have w4 := pf (a := encU p.Domains.length ++ p.Domains.flatMap encD ++ encU p.Rules.Pairs.length ++ p.Rules.Pairs.flatMap zcN ++ encU p.Rules.Loads.length ++ p.Rules.Loads.flatMap encL ++ encU p.Rules.Caps.length) (b := p.Rules.Caps.flatMap encC) (by unfold encP; simp only [List.append_assoc])
  show (zaR fuel (p.Rules.Caps.length : Int)).bind _ = _
  rw [hw p.Rules.Caps.length (by omega), Option.bind_some, zav (by unfold room; omega)]; refine (zfP (l := p.Rules.Caps) (g := encC) (pf (b := []) (by unfold encP; simp only [List.append_assoc, List.nil_append, List.append_nil])) (fun i next s hin hs => ?_)).trans ?_
  · have hc := capR (g.c _ (zbg hin)); have a := hc.a; have c := hc.l; have d := hc.h; have e := hc.m; exact ziN (l := za5 (nth p.Rules.Caps i)) hf (fun n hn => by unfold za5 at hn; simp only [List.mem_cons, List.not_mem_nil, or_false] at hn; omega) hs
  show some _ = _
  unfold encP; simp only [List.append_assoc]
theorem zjk {k : Nat} (h : k < 256) : wI (remK .u8 (k : Int) 128) = ((k % 128 : Nat) : Int) := by
  have e : remK .u8 (k : Int) 128 = ((k % 128 : Nat) : Int) := by
    show (k : Int).tmod 128 = _
    rw [Int.tmod_eq_emod_of_nonneg (by omega)]; rfl
  rw [e, zdq (by omega)]
def nxF (b : List Int) (next : (Int × Int × Int) → Option (Int × List Int)) (s5 : Int × Int × Int) : Option (Int × List Int) :=
  (bif ((decide (s5.2.2 < (b.length : Int))) && (decide (s5.2.2 < 8))) then
    grd (0 ≤ s5.2.2 ∧ s5.2.2 < (b.length : Int)) <|
    (bif decide ((nth b s5.2.2.toNat) < 128) then
      some (wI (s5.1 + (wI ((wI (remK .u8 (nth b s5.2.2.toNat) 128)) * s5.2.1))), (b.drop ((s5.2.2 + 1).toNat)))
      else
      next (wI (s5.1 + (wI ((wI (remK .u8 (nth b s5.2.2.toNat) 128)) * s5.2.1))), wI (128 * s5.2.1), (s5.2.2 + 1)))
    else
    some ((-1), []))
theorem zh9 (fuel : Nat) (b : List Int) : zbK fuel b = zcx (nxF b) fuel (0, 1, 0) := rfl
theorem zg8 {b : List Int} (hb : Byt b) {i lo : Nat} (hi : i < b.length) (h8 : i < 8) (hlo : lo < 2 ^ (7 * i)) (next : (Int × Int × Int) → Option (Int × List Int)) : ∃ k : Nat, nth b i = (k : Int) ∧ k < 256 ∧ lo + k % 128 * 2 ^ (7 * i) < 2 ^ (7 * (i + 1)) ∧
    nxF b next ((lo : Int), ((2 ^ (7 * i) : Nat) : Int), (i : Int)) = bif decide ((k : Int) < 128) then some (((lo + k % 128 * 2 ^ (7 * i) : Nat) : Int), b.drop (i + 1)) else next (((lo + k % 128 * 2 ^ (7 * i) : Nat) : Int), ((2 ^ (7 * (i + 1)) : Nat) : Int), ((i + 1 : Nat) : Int)) := by
  have hbi := hb _ (zbg hi); obtain ⟨k, hk⟩ : ∃ k : Nat, nth b i = (k : Int) := ⟨(nth b i).toNat, by omega⟩; (have hk2 : k < 256 := by omega); (have e7 : 2 ^ (7 * (i + 1)) = 2 ^ (7 * i) * 128 := by rw [show 7 * (i + 1) = 7 * i + 7 by omega, Nat.pow_add]); have hp : 2 ^ (7 * i) ≤ 2 ^ 49 := Nat.pow_le_pow_right (by decide) (by omega); have hmul : k % 128 * 2 ^ (7 * i) ≤ 127 * 2 ^ (7 * i) := Nat.mul_le_mul_right _ (by omega); refine ⟨k, hk, hk2, by rw [e7]; omega, ?_⟩; unfold nxF; dsimp only; rw [decide_eq_true (show (i : Int) < (b.length : Int) by omega), decide_eq_true (show (i : Int) < 8 by omega), Bool.and_self, cond_true, zav (by omega), show ((i : Int)).toNat = i by omega, hk, zjk hk2, show ((i : Int) + 1).toNat = i + 1 by omega]; have ec : ((k % 128 : Nat) : Int) * ((2 ^ (7 * i) : Nat) : Int) = ((k % 128 * 2 ^ (7 * i) : Nat) : Int) := (Int.natCast_mul _ _).symm; rw [ec, e7]; generalize k % 128 * 2 ^ (7 * i) = z at hmul ⊢; generalize 2 ^ (7 * i) = y at hp hlo hmul ⊢; rw [zdq (x := (z : Int)) (by omega), zdq (x := (lo : Int) + (z : Int)) (by omega), zdq (by omega), show (128 : Int) * (y : Int) = ((y * 128 : Nat) : Int) by omega]
  rfl
theorem zg6 {fuel : Nat} {b : List Int} (hf : 20 ≤ fuel) (hb : Byt b) : ∃ v rest, zbK fuel b = some (v, rest) ∧ Byt rest ∧ (v = -1 ∨ (0 ≤ v ∧ v < 72057594037927936)) := by
  rw [zh9]; refine zc4 (σ := Int × Int × Int) (I := fun s => ∃ i lo : Nat, i ≤ 8 ∧ lo < 2 ^ (7 * i) ∧ s = ((lo : Int), ((2 ^ (7 * i) : Nat) : Int), (i : Int))) (μ := fun s => (8 - s.2.2).toNat) (post := fun o => ∃ v rest, o = some (v, rest) ∧ Byt rest ∧ (v = -1 ∨ (0 ≤ v ∧ v < 72057594037927936))) ⟨0, 0, by decide, by decide, rfl⟩ (by show (8 - (0 : Int)).toNat < fuel; omega) ?_; rintro s next ⟨i, lo, h8, hlo, rfl⟩ hn; by_cases hi : i < b.length ∧ i < 8
  · obtain ⟨k, hk, hk2, hlt, e⟩ := zg8 hb hi.1 hi.2 hlo next; rw [e]
    cases decide ((k : Int) < 128)
    · exact hn _ ⟨i + 1, _, by omega, hlt, rfl⟩ (by dsimp only; omega)
    · have h56 : 2 ^ (7 * (i + 1)) ≤ 2 ^ 56 := Nat.pow_le_pow_right (by decide) (by omega); refine ⟨_, _, rfl, fun x hx => hb x (List.mem_of_mem_drop hx), .inr ⟨by omega, ?_⟩⟩; generalize lo + k % 128 * 2 ^ (7 * i) = z at hlt ⊢; omega
  · unfold nxF; dsimp only; rw [show (decide ((i : Int) < (b.length : Int)) && decide ((i : Int) < 8)) = false by rw [Bool.and_eq_false_iff, decide_eq_false_iff_not, decide_eq_false_iff_not]; omega, cond_false]; exact ⟨_, _, rfl, fun x hx => (by cases hx), .inl rfl⟩
theorem ze1 : ∀ n : Nat, Byt (encU n) := by
  intro n
  induction n using Nat.strongRecOn with
  | _ n ih =>
    by_cases h : n < 128
    · rw [zdJ h]; intro x hx; rw [List.mem_singleton] at hx; omega
    · rw [zei h]; intro x hx; rcases List.mem_cons.1 hx with rfl | hx
      · omega
      · exact ih (n / 128) (by omega) x hx
theorem zcD {a b : List Int} (ha : Byt a) (hb : Byt b) : Byt (a ++ b) := fun x hx => (List.mem_append.1 hx).elim (ha x) (hb x)
theorem zc1 {α : Type} {l : List α} {g : α → List Int} (h : ∀ x ∈ l, Byt (g x)) : Byt (l.flatMap g) := fun y hy => by
  obtain ⟨x, hx, h2⟩ := List.mem_flatMap.1 hy; exact h x hx y h2
theorem ziQ {fuel n : Nat} {rest : List Int} (hf : 20 ≤ fuel) (hb : Byt rest) (hn : n < 2 ^ 56) : zbK fuel (encU n ++ rest) = some ((n : Int), rest) := by
  have hB : Byt (encU n ++ rest) := zcD (ze1 n) hb; rw [zh9]; generalize hbb : encU n ++ rest = b at hB; refine zc4 (σ := Int × Int × Int) (I := fun s => ∃ i lo q : Nat, i < 8 ∧ lo < 2 ^ (7 * i) ∧ s = ((lo : Int), ((2 ^ (7 * i) : Nat) : Int), (i : Int)) ∧ b.drop i = encU q ++ rest ∧ lo + q * 2 ^ (7 * i) = n ∧ q < 2 ^ (7 * (8 - i))) (μ := fun s => (8 - s.2.2).toNat) (post := fun o => o = some ((n : Int), rest)) ⟨0, 0, n, by decide, by decide, rfl, hbb.symm, by simp, hn⟩ (by show (8 - (0 : Int)).toNat < fuel; omega) ?_; rintro s next ⟨i, lo, q, h8, hlo, rfl, hd, hnq, hq⟩ hn; have hpos := zin q
  have hi : i < b.length := by
    have h1 := congrArg List.length hd; rw [List.length_drop, List.length_append] at h1; omega
  obtain ⟨k, hk, hk2, hlt, e⟩ := zg8 hB hi h8 hlo next; rw [e]; rw [List.drop_eq_getElem_cons hi, ← za8 hi, hk] at hd; by_cases h1 : q < 128
  · rw [zdJ h1] at hd; obtain ⟨h2, h3⟩ := List.cons.inj hd; (have h2 : k = q := by omega); subst h2; rw [decide_eq_true (show (k : Int) < 128 by omega), cond_true, Nat.mod_eq_of_lt h1, hnq]; rw [show b.drop (i + 1) = rest from h3]
  · rw [zei h1] at hd; obtain ⟨h2, h3⟩ := List.cons.inj hd; (have h2 : k = q % 128 + 128 := by omega); (have e8 : 7 * (8 - i) = 7 * (8 - (i + 1)) + 7 := by omega)
    have hq2 : q / 128 < 2 ^ (7 * (8 - (i + 1))) := by
      rw [e8, Nat.pow_add] at hq; omega
    have hi7 : i + 1 < 8 := by
      rcases Nat.lt_or_ge (i + 1) 8 with h | h
      · exact h
      · rw [show 8 - (i + 1) = 0 by omega] at hq2; have : q / 128 < 1 := hq2; omega
    (have e7 : 2 ^ (7 * (i + 1)) = 2 ^ (7 * i) * 128 := by rw [show 7 * (i + 1) = 7 * i + 7 by omega, Nat.pow_add]); rw [decide_eq_false (show ¬ (k : Int) < 128 by omega), cond_false]; refine hn _ ⟨i + 1, _, q / 128, hi7, hlt, rfl, h3, ?_, hq2⟩ (by dsimp only; omega); rw [show k % 128 = q % 128 by omega, e7, ← hnq]; have hdm := Nat.div_add_mod q 128
    conv => rhs; rw [← hdm]
    rw [Nat.add_mul, Nat.mul_comm 128 (q / 128), Nat.mul_assoc, Nat.mul_comm 128, Nat.add_assoc, Nat.add_comm (q % 128 * _)]
theorem ziV {fuel : Nat} {n : Int} {rest : List Int} (hf : 20 ≤ fuel) (hb : Byt rest) (hn : 0 ≤ n ∧ n < 72057594037927936) : zbK fuel (encI n ++ rest) = some (n, rest) := by
  have := ziQ (n := n.toNat) hf hb (by omega); rw [show ((n.toNat : Nat) : Int) = n by omega] at this; exact this
def In56 (l : List Int) : Prop := ∀ x ∈ l, 0 ≤ x ∧ x < 72057594037927936
def nmF (fuel : Nat) (i_7 : Nat) (next6 : (List Int × List Int) → Option (Option (List Int) × List Int)) (s6 : List Int × List Int) : Option (Option (List Int) × List Int) :=
  (zbK fuel s6.1).bind fun r17 =>
  (bif decide (r17.1 < 0) then
    some (none, [])
    else
    grd (room (s6.2 ++ [r17.1]).length 8) <|
    next6 (r17.2, (s6.2 ++ [r17.1])))
def nmK (s3 : List Int × List Int) : Option (Option (List Int) × List Int) := grd (0 < s3.2.length) <| some (some s3.2, s3.1)
theorem zf1 (fuel : Nat) (b : List Int) (many : Int) : zbG fuel b many = grd (many ≤ 9223372036854775807) (zag (nmF fuel) nmK (many.toNat - 0) 0 (b, [])) := rfl
theorem zgT {fuel m : Nat} {b : List Int} (hf : 20 ≤ fuel) (hb : Byt b) (h0 : 0 < m) (hm : m ≤ 5) : ∃ o rest, zbG fuel b (m : Int) = some (o, rest) ∧ Byt rest ∧ ∀ l, o = some l → l.length = m ∧ In56 l := by
  rw [zf1, zav (by omega), show ((m : Int)).toNat - 0 = m by omega]
  have key : ∀ d i (b acc : List Int), acc.length + d = m → Byt b → In56 acc → ∃ o rest, zag (nmF fuel) nmK d i (b, acc) = some (o, rest) ∧ Byt rest ∧ ∀ l, o = some l → l.length = m ∧ In56 l := by
    intro d
    induction d with
    | zero =>
      intro i b acc e hb ha; refine ⟨some acc, b, ?_, hb, fun l hl => ?_⟩
      · show grd (0 < acc.length) _ = _
        rw [zav (by omega)]
      · obtain rfl := Option.some.inj hl; exact ⟨by omega, ha⟩
    | succ d ih =>
      intro i b acc e hb ha; obtain ⟨v, rest, e1, b1, h1⟩ := zg6 hf hb
      show ∃ o rest, (zbK fuel b).bind _ = some (o, rest) ∧ _
      rw [e1, Option.bind_some]; dsimp only; by_cases hv : v < 0
      · rw [decide_eq_true hv, cond_true]; exact ⟨none, [], rfl, fun x hx => (by cases hx), fun l hl => (by cases hl)⟩
      · rw [decide_eq_false hv, cond_false, zav (by unfold room; rw [List.length_append, List.length_singleton]; omega)]; refine ih (i + 1) rest (acc ++ [v]) (by rw [List.length_append, List.length_singleton]; omega) b1 (fun x hx => ?_); rcases List.mem_append.1 hx with h | h
        · exact ha x h
        · rw [List.mem_singleton] at h; omega
  exact key m 0 b [] (by simp) hb (fun x hx => (by cases hx))
theorem zhK {fuel : Nat} {l rest : List Int} (hf : 20 ≤ fuel) (hb : Byt rest) (h0 : 0 < l.length) (hm : l.length ≤ 5) (hl : In56 l) : zbG fuel (l.flatMap encI ++ rest) (l.length : Int) = some (some l, rest) := by
  rw [zf1, zav (by omega), show ((l.length : Int)).toNat - 0 = l.length by omega]
  have key : ∀ d i, i + d = l.length → zag (nmF fuel) nmK d i ((l.drop i).flatMap encI ++ rest, l.take i) = some (some l, rest) := by
    intro d
    induction d with
    | zero =>
      intro i e; rw [List.drop_eq_nil_of_le (by omega), List.take_of_length_le (by omega)]
      show grd (0 < l.length) _ = _
      rw [zav h0]; rfl
    | succ d ih =>
      intro i e; (have hi : i < l.length := by omega); have hB : Byt ((l.drop (i + 1)).flatMap encI ++ rest) := zcD (zc1 fun x _ => ze1 _) hb; rw [List.drop_eq_getElem_cons hi, List.flatMap_cons, ← za8 hi, List.append_assoc]
      show (zbK fuel _).bind _ = _
      rw [ziV hf hB (hl _ (zbg hi)), Option.bind_some]; dsimp only; rw [decide_eq_false (by have := hl _ (zbg hi); omega), cond_false, ← zef hi, zav (by unfold room; rw [List.length_take]; omega)]; exact ih (i + 1) (by omega)
  have := key l.length 0 (by omega); rw [List.drop_zero, List.take_zero] at this; exact this
def rcF (fuel : Nat) (fields : Int) (i_9 : Nat) (next8 : (List Int × List (List Int)) → Option (List (List Int) × List Int × Bool)) (s8 : List Int × List (List Int)) : Option (List (List Int) × List Int × Bool) :=
  (zbG fuel s8.1 fields).bind fun r34 =>
  (bif (r34.1).isSome then
    grd (room (s8.2 ++ [(r34.1.getD default)]).length 24) <|
    next8 (r34.2, (s8.2 ++ [(r34.1.getD default)]))
    else
    some ([], [], false))
def rcK (s5 : List Int × List (List Int)) : Option (List (List Int) × List Int × Bool) := some (s5.2, s5.1, true)
theorem zfZ (fuel : Nat) (b : List Int) (fields most : Int) : zbc fuel b fields most = (zbK fuel b).bind fun r16 => (bif ((decide (r16.1 < 0)) || (decide (most < r16.1))) then some ([], [], false) else grd (r16.1 ≤ 9223372036854775807) (zag (rcF fuel fields) rcK (r16.1.toNat - 0) 0 (r16.2, []))) := rfl
def Recs (m : Nat) (L : List (List Int)) : Prop := ∀ l ∈ L, l.length = m ∧ In56 l
theorem zdU {fuel m : Nat} {most : Int} {b : List Int} (hf : 20 ≤ fuel) (hb : Byt b) (h0 : 0 < m) (hm : m ≤ 5) (hmo : 0 ≤ most ∧ most ≤ 5000) : ∃ L rest ok, zbc fuel b (m : Int) most = some (L, rest, ok) ∧ Byt rest ∧ L.length ≤ 5000 ∧ Recs m L := by
  rw [zfZ]; obtain ⟨v, rest, e1, b1, h1⟩ := zg6 hf hb; rw [e1, Option.bind_some]; dsimp only
  cases hc : (decide (v < 0) || decide (most < v))
  · rw [Bool.or_eq_false_iff, decide_eq_false_iff_not, decide_eq_false_iff_not] at hc; rw [cond_false, zav (by omega), show v.toNat - 0 = v.toNat by omega]
    have key : ∀ d i (b : List Int) (acc : List (List Int)), acc.length + d ≤ 5000 → Byt b → Recs m acc → ∃ L rest ok, zag (rcF fuel (m : Int)) rcK d i (b, acc) = some (L, rest, ok) ∧ Byt rest ∧ L.length ≤ 5000 ∧ Recs m L := by
      intro d
      induction d with
      | zero => intro i b acc e hb ha; exact ⟨acc, b, true, rfl, hb, by omega, ha⟩
      | succ d ih =>
        intro i b acc e hb ha; obtain ⟨o, r2, e2, b2, h2⟩ := zgT hf hb h0 hm
        show ∃ L rest ok, (zbG fuel b (m : Int)).bind _ = some (L, rest, ok) ∧ _
        rw [e2, Option.bind_some]; dsimp only
        cases o with
        | none => exact ⟨[], [], false, rfl, fun x hx => (by cases hx), by simp, fun x hx => (by cases hx)⟩
        | some l =>
          show ∃ L rest ok, grd (room (acc ++ [l]).length 24) (zag (rcF fuel (m : Int)) rcK d (i + 1) (r2, acc ++ [l])) = some (L, rest, ok) ∧ _
          rw [zav (by unfold room; rw [List.length_append, List.length_singleton]; omega)]; refine ih (i + 1) r2 (acc ++ [l]) (by rw [List.length_append, List.length_singleton]; omega) b2 (fun x hx => ?_); rcases List.mem_append.1 hx with h | h
          · exact ha x h
          · rw [List.mem_singleton] at h; rw [h]; exact h2 l rfl
    exact key v.toNat 0 rest [] (by simp; omega) b1 (fun x hx => (by cases hx))
  · rw [cond_true]; exact ⟨[], [], false, rfl, fun x hx => (by cases hx), by simp, fun x hx => (by cases hx)⟩
theorem zeW {fuel m : Nat} {most : Int} {L : List (List Int)} {rest : List Int} (hf : 20 ≤ fuel) (hb : Byt rest) (h0 : 0 < m) (hm : m ≤ 5) (hmo : most ≤ 5000) (hL : (L.length : Int) ≤ most) (hr : Recs m L) : zbc fuel (encU L.length ++ (L.flatMap (fun l => l.flatMap encI) ++ rest)) (m : Int) most = some (L, rest, true) := by
  have hB : ∀ L' : List (List Int), Byt (L'.flatMap (fun l => l.flatMap encI) ++ rest) := fun L' => zcD (zc1 fun l _ => zc1 fun x _ => ze1 _) hb; rw [zfZ, ziQ hf (hB L) (by omega), Option.bind_some]; dsimp only; rw [decide_eq_false (by omega), decide_eq_false (by omega), Bool.or_self, cond_false, zav (by omega), show ((L.length : Int)).toNat - 0 = L.length by omega]
  have key : ∀ d i, i + d = L.length → zag (rcF fuel (m : Int)) rcK d i ((L.drop i).flatMap (fun l => l.flatMap encI) ++ rest, L.take i) = some (L, rest, true) := by
    intro d
    induction d with
    | zero =>
      intro i e; rw [List.drop_eq_nil_of_le (by omega), List.take_of_length_le (by omega)]; rfl
    | succ d ih =>
      intro i e; (have hi : i < L.length := by omega); have h1 := hr _ (zbg hi); rw [List.drop_eq_getElem_cons hi, List.flatMap_cons, ← za8 hi, List.append_assoc]
      show (zbG fuel _ (m : Int)).bind _ = _
      have h2 := zhK (l := nth L i) hf (hB (L.drop (i + 1))) (by omega) (by omega) h1.2; rw [h1.1] at h2; rw [h2, Option.bind_some]
      show grd (room (L.take i ++ [nth L i]).length 24) (zag (rcF fuel (m : Int)) rcK d (i + 1) (_, L.take i ++ [nth L i])) = _
      rw [← zef hi, zav (by unfold room; rw [List.length_take]; omega)]; exact ih (i + 1) (by omega)
  have := key L.length 0 (by omega); rw [List.drop_zero, List.take_zero] at this; exact this
theorem zhM {s : Nat} : ∀ {m : Nat} {c : Int}, 2 ≤ c → s < 2 ^ (c - 2).toNat → chR s m c = []
  | 0, _, _, _ => rfl
  | m + 1, c, h, hs => by
    unfold chR; rw [if_neg (by rw [Nat.testBit_lt_two_pow hs]; simp)]; exact zhM (by omega) (Nat.lt_of_lt_of_le hs (Nat.pow_le_pow_right (by decide) (by omega)))
theorem zhf {fuel s : Nat} (hf : 100 ≤ fuel) (hs : s < 2 ^ 56) : zcH fuel (s : Int) = some (chR s 56 2) := by
  have hR2 := zgp s 56 2; obtain ⟨R, hR⟩ : ∃ R, chR s 56 2 = R := ⟨_, rfl⟩; rw [hR] at hR2 ⊢; unfold zcH; simp only [zaH]; refine zc4 (σ := Int × List Int × Int) (I := fun t => ∃ j : Nat, j ≤ 56 ∧ t.1 = ((s / 2 ^ j : Nat) : Int) ∧ t.2.2 = (j : Int) + 2 ∧ t.2.1 ++ chR s (56 - j) ((j : Int) + 2) = R) (μ := fun t => (60 - t.2.2).toNat) (post := fun o => o = some R) ⟨0, by decide, by simp, rfl, hR⟩ (by show (60 - (2 : Int)).toNat < fuel; omega) ?_; rintro ⟨n, l, c⟩ next ⟨j, hj, rfl, rfl, hl⟩ hn; dsimp only at hl hn ⊢; have hle : s / 2 ^ j ≤ s := Nat.div_le_self _ _; by_cases h0 : s / 2 ^ j = 0
  · rw [h0, decide_eq_false (by decide), cond_false]
    have : s < 2 ^ j := by
      rcases Nat.lt_or_ge s (2 ^ j) with h | h
      · exact h
      · have := Nat.div_pos h (Nat.pow_pos (by decide)); omega
    rw [zhM (by omega) (by rw [show ((j : Int) + 2 - 2).toNat = j by omega]; exact this), List.append_nil] at hl; rw [hl]
  · have hj2 : j < 56 := by
      rcases Nat.lt_or_ge j 56 with h | h
      · exact h
      · rw [show j = 56 by omega] at h0; exact absurd (Nat.div_eq_of_lt hs) h0
    have hbit : s.testBit ((j : Int) + 2 - 2).toNat = decide ((((s / 2 ^ j : Nat) : Int) % 2) = 1) := by
      rw [show ((j : Int) + 2 - 2).toNat = j by omega, Nat.testBit_eq_decide_div_mod_eq]
      congr 1
      exact propext ⟨fun h => by omega, fun h => by omega⟩
    have hdiv : (((s / 2 ^ j : Nat) : Int) / 2) = ((s / 2 ^ (j + 1) : Nat) : Int) := by
      rw [Nat.pow_succ, ← Nat.div_div_eq_div_mul]; rfl
    have hz2 : (0 : Int) < ((s / 2 ^ j : Nat) : Int) := Int.ofNat_lt.2 (Nat.pos_of_ne_zero h0); rw [show 56 - j = (56 - (j + 1)) + 1 by omega] at hl; unfold chR at hl; rw [decide_eq_true (by omega), cond_true, zav (by omega), ← hbit, hdiv, zdq (by omega)]; rw [show (j : Int) + 2 + 1 = ((j + 1 : Nat) : Int) + 2 by omega] at hl ⊢
    cases hb : s.testBit ((j : Int) + 2 - 2).toNat
    · rw [hb, if_neg (by decide)] at hl; rw [cond_false, zav (by omega)]; exact hn _ ⟨j + 1, by omega, rfl, rfl, hl⟩ (by dsimp only; omega)
    · rw [hb, if_pos rfl] at hl
      have hlen : (l ++ [(j : Int) + 2]).length ≤ 100 := by
        have h1 := congrArg List.length hl; rw [List.length_append, List.length_cons] at h1; rw [List.length_append, List.length_singleton]; omega
      rw [cond_true, zav (by unfold room; omega), zav (by omega)]; exact hn _ ⟨j + 1, by omega, rfl, rfl, by dsimp only; rw [List.append_assoc]; exact hl⟩ (by dsimp only; omega)
theorem zjv {s : Nat} (hs : s < 2 ^ 50) : chR s 56 2 = chR s 50 2 := by
  refine zeG zdO zdO fun y => ?_; rw [chR_mem, chR_mem]; constructor
  · rintro ⟨h1, h2⟩; refine ⟨⟨h1.1, ?_⟩, h2⟩; rcases Int.lt_or_le y 52 with h | h
    · omega
    · rw [Nat.testBit_lt_two_pow (Nat.lt_of_lt_of_le hs (Nat.pow_le_pow_right (by decide) (by omega)))] at h2; cases h2
  · rintro ⟨h1, h2⟩; exact ⟨by omega, h2⟩
theorem ziF {α β σ ρ : Type} [Inhabited α] {l : List α} (E : List β → σ) (t : α → β) {f : Nat → (σ → ρ) → σ → ρ} {K : σ → ρ} (hf : ∀ i next acc, i < l.length → acc.length = i → f i next (E acc) = next (E (acc ++ [t (nth l i)]))) : zag f K (l.length - 0) 0 (E []) = K (E (l.map t)) := by
  have key : ∀ d i, i + d = l.length → zag f K d i (E ((l.take i).map t)) = K (E (l.map t)) := by
    intro d
    induction d with
    | zero => intro i e; rw [List.take_of_length_le (by omega)]; rfl
    | succ d ih =>
      intro i e; (have hi : i < l.length := by omega); have := ih (i + 1) (by omega); rw [zef hi, List.map_append, List.map_singleton] at this; rw [← this]; exact hf i _ _ hi (by rw [List.length_map, List.length_take]; omega)
  exact key (l.length - 0) 0 (by omega)
def toD (l : List Int) : GDomain := ⟨nth l 0, chR (nth l 1).toNat 56 2⟩
def offR (n : Int) : Int := bif decide (n % 2 = 1) then wI ((wI (0 - (n / 2))) - 1) else n / 2
def toPr (l : List Int) : GPair := ⟨nth l 0, nth l 1, offR (nth l 2), nth l 3, nth l 4⟩
def toLd (l : List Int) : GLoad := ⟨nth l 0, nth l 1, nth l 2, nth l 3, nth l 4⟩
def toCp (l : List Int) : GCap := ⟨nth l 0, nth l 1, nth l 2, nth l 3⟩
def badD : GProblem × Int := (⟨[], ⟨[], [], []⟩⟩, 6)
def zgG (fuel : Nat) (b : List Int) (p : GProblem) : Option (GProblem × Int) :=
  (zcy p).bind fun r => bif !r then some badD else (zca fuel p).bind fun e => bif !((u8s e) == (u8s b)) then some badD else some (p, 0)
theorem rm2 {α : Type} {l : List α} {x : α} {k : Nat} (h : l.length ≤ 6000) (hk : k ≤ 100) : room (l ++ [x]).length k := by
  unfold room; rw [List.length_append, List.length_singleton]; have : (l.length + 1) * k ≤ 6001 * 100 := Nat.mul_le_mul (by omega) hk; omega
theorem zgH {fuel : Nat} {b : List Int} (hf : 100 ≤ fuel) (hl : b.length ≤ 65536) {Ld Lp Ll Lc : List (List Int)} {rd rp rl rc : List Int} {od op ol oc : Bool}
    (ed : zbc fuel b 2 512 = some (Ld, rd, od)) (ep : zbc fuel rd 5 4096 = some (Lp, rp, op)) (el : zbc fuel rp 5 1024 = some (Ll, rl, ol)) (ec : zbc fuel rl 4 1024 = some (Lc, rc, oc))
    (nd : Ld.length ≤ 5000) (np : Lp.length ≤ 5000) (nl : Ll.length ≤ 5000) (nc : Lc.length ≤ 5000) (hd : Recs 2 Ld) (hp : Recs 5 Lp) (hl2 : Recs 5 Ll) (hc : Recs 4 Lc) :
    zbZ fuel b = bif !od then some badD else bif !op then some badD else bif !ol then some badD else bif !oc || decide (¬ (rc.length : Int) = 0) then some badD else zgG fuel b ⟨Ld.map toD, ⟨Lp.map toPr, Ll.map toLd, Lc.map toCp⟩⟩ := by
  unfold zbZ; rw [decide_eq_false (by omega), cond_false, ed, Option.bind_some]; dsimp only
  cases od
  · rfl
  simp only [Bool.not_true, cond_false, zaH]; refine (ziF (l := Ld) (fun D => ((D, [], [], []) : List GDomain × List GPair × List GLoad × List GCap)) toD (fun i next acc hi ha => ?_)).trans ?_
  · have h := hd _ (zbg hi); have h1 := h.2 _ (zbg (show 1 < (nth Ld i).length by omega)); dsimp only; rw [zav (by omega), zav (by omega), show nth (nth Ld i) 1 = (((nth (nth Ld i) 1).toNat : Nat) : Int) by omega, zhf hf (by omega), Option.bind_some, zav (rm2 (by omega) (by decide))]
    rfl
  dsimp only; rw [ep, Option.bind_some]; dsimp only
  cases op
  · rfl
  simp only [Bool.not_true, cond_false]; refine (ziF (l := Lp) (fun P => ((Ld.map toD, P, [], []) : List GDomain × List GPair × List GLoad × List GCap)) toPr (fun i next acc hi ha => ?_)).trans ?_
  · have h := hp _ (zbg hi); have h1 := h.2 _ (zbg (show 2 < (nth Lp i).length by omega)); dsimp only; rw [zav (by omega), zav (by omega), zav (by omega)]; unfold toPr offR
    cases decide (nth (nth Lp i) 2 % 2 = 1)
    · rw [cond_false, cond_false, zav (by omega), zav (by omega), zav (rm2 (by omega) (by decide))]
    · rw [cond_true, cond_true, zav (by omega), zav (by omega), zav (rm2 (by omega) (by decide))]
  dsimp only; rw [el, Option.bind_some]; dsimp only
  cases ol
  · rfl
  simp only [Bool.not_true, cond_false]; refine (ziF (l := Ll) (fun L => ((Ld.map toD, Lp.map toPr, L, []) : List GDomain × List GPair × List GLoad × List GCap)) toLd (fun i next acc hi ha => ?_)).trans ?_
  · have h := hl2 _ (zbg hi); dsimp only; rw [zav (by omega), zav (by omega), zav (by omega), zav (by omega), zav (by omega), zav (rm2 (by omega) (by decide))]
    rfl
  dsimp only; rw [ec, Option.bind_some]; dsimp only
  cases hk : (!oc || decide (¬ (rc.length : Int) = 0))
  · rw [cond_false, cond_false]; refine (ziF (l := Lc) (fun C => ((Ld.map toD, Lp.map toPr, Ll.map toLd, C) : List GDomain × List GPair × List GLoad × List GCap)) toCp (fun i next acc hi ha => ?_)).trans ?_
    · have h := hc _ (zbg hi); dsimp only; rw [zav (by omega), zav (by omega), zav (by omega), zav (by omega), zav (rm2 (by omega) (by decide))]
      rfl
    unfold zgG; rw [zep]
    cases okP ⟨Ld.map toD, ⟨Lp.map toPr, Ll.map toLd, Lc.map toCp⟩⟩
    · rfl
    · rfl
  · rfl
theorem zji {a b : Int} (ha : 0 ≤ a ∧ a ≤ 255) (hb : 0 ≤ b ∧ b ≤ 255) (h : UInt8.ofNat a.toNat = UInt8.ofNat b.toNat) : a = b := by
  have h1 := congrArg UInt8.toNat h; have e : ∀ k : Nat, (UInt8.ofNat k).toNat = k % 256 := fun k => rfl; rw [e, e] at h1; omega
theorem zhB : ∀ {a b : List Int}, Byt a → Byt b → u8s a = u8s b → a = b
  | [], [], _, _, _ => rfl
  | [], _ :: _, _, _, h => by cases h
  | _ :: _, [], _, _, h => by cases h
  | x :: a, y :: b, ha, hb, h => by
    obtain ⟨h1, h2⟩ := List.cons.inj h; rw [zji (ha x (List.mem_cons_self ..)) (hb y (List.mem_cons_self ..)) h1, zhB (fun z hz => ha z (List.mem_cons_of_mem _ hz)) (fun z hz => hb z (List.mem_cons_of_mem _ hz)) h2]
theorem zjs (n : Int) : Byt (encI n) := ze1 _
theorem zh7 (p : GProblem) : Byt (encP p) := by
  have hI : ∀ l : List Int, Byt (l.flatMap encI) := fun l => zc1 fun x _ => zjs x; unfold encP; refine zcD (ze1 _) (zcD (zc1 fun d _ => hI _) (zcD (ze1 _) (zcD (zc1 fun c _ => zcD (hI _) (zcD (ze1 _) (hI _))) (zcD (ze1 _) (zcD (zc1 fun c _ => hI _) (zcD (ze1 _) (zc1 fun c _ => hI _)))))))
theorem zhS {a b : List Int} (ha : Byt a) (hb : Byt b) : (u8s a == u8s b) = decide (a = b) := by
  rw [Bool.eq_iff_iff, beq_iff_eq, decide_eq_true_eq]; exact ⟨zhB ha hb, fun h => by rw [h]⟩
theorem zgg {fuel : Nat} {b : List Int} (hf : 100 ≤ fuel) (hb : Byt b) (hl : b.length ≤ 65536) : ∃ r, zbZ fuel b = some r ∧ ((r.2 = 0 ∧ okP r.1 = true ∧ encP r.1 = b) ∨ r = (⟨[], ⟨[], [], []⟩⟩, 6)) := by
  obtain ⟨Ld, rd, od, ed, bd, nd, hd⟩ := zdU (fuel := fuel) (m := 2) (most := 512) (by omega) hb (by decide) (by decide) (by decide); obtain ⟨Lp, rp, op, ep, bp, np, hp⟩ := zdU (fuel := fuel) (m := 5) (most := 4096) (by omega) bd (by decide) (by decide) (by decide); obtain ⟨Ll, rl, ol, el, bl, nl, hl2⟩ := zdU (fuel := fuel) (m := 5) (most := 1024) (by omega) bp (by decide) (by decide) (by decide); obtain ⟨Lc, rc, oc, ec, bc, nc, hc⟩ := zdU (fuel := fuel) (m := 4) (most := 1024) (by omega) bl (by decide) (by decide) (by decide); rw [zgH hf hl ed ep el ec nd np nl nc hd hp hl2 hc]; have hbad : ∃ r, some badD = some r ∧ ((r.2 = 0 ∧ okP r.1 = true ∧ encP r.1 = b) ∨ r = ((⟨[], ⟨[], [], []⟩⟩ : GProblem), (6 : Int))) := ⟨_, rfl, .inr rfl⟩
  cases od
  · exact hbad
  cases op
  · exact hbad
  cases ol
  · exact hbad
  simp only [Bool.not_true, cond_false]
  cases (!oc || decide (¬ (rc.length : Int) = 0))
  · rw [cond_false]; unfold zgG; rw [zep]
    cases hk : okP ⟨Ld.map toD, ⟨Lp.map toPr, Ll.map toLd, Lc.map toCp⟩⟩
    · exact hbad
    rw [Option.bind_some]; simp only [Bool.not_true, cond_false]; rw [zeA (by omega) hk, Option.bind_some, zhS (zh7 _) hb]; by_cases he : encP ⟨Ld.map toD, ⟨Lp.map toPr, Ll.map toLd, Lc.map toCp⟩⟩ = b
    · rw [decide_eq_true he]; exact ⟨_, rfl, .inl ⟨rfl, hk, he⟩⟩
    · rw [decide_eq_false he]; exact hbad
  · exact hbad
def frD (d : GDomain) : List Int := [d.Station, ((zdj d.Channels : Nat) : Int)]
def frPr (c : GPair) : List Int := [c.A, c.B, ((zig c.Offset : Nat) : Int), c.Low, c.High]
def frLd (c : GLoad) : List Int := [c.To, c.From, c.Weight, c.Low, c.High]
def frCp (c : GCap) : List Int := [c.Station, c.Max, c.Low, c.High]
theorem ziK {n : Int} (h : -1 ≤ n ∧ n ≤ 1) : offR ((zig n : Nat) : Int) = n := by
  (have h3 : n = -1 ∨ n = 0 ∨ n = 1 := by omega); rcases h3 with rfl | rfl | rfl <;> decide
theorem map_id {α β : Type} {l : List α} {f : α → β} {g : β → α} (h : ∀ x ∈ l, g (f x) = x) : (l.map f).map g = l := by
  rw [List.map_map]
  conv => rhs; rw [← List.map_id l]
  exact List.map_congr_left h
theorem ziC {α β : Type} {l : List α} {f : α → β} {g : β → List Int} : (l.map f).flatMap g = l.flatMap fun x => g (f x) := List.flatMap_map _ _ _
theorem zeU {fuel : Nat} {p : GProblem} (hf : 100 ≤ fuel) (hp : okP p = true) : zbZ fuel (encP p) = some (p, 0) := by
  obtain ⟨hD, hR, hi, _⟩ := zeg hp; have hl := zeE hD hi; have g := hR.g; have n1 := g.np; have n2 := g.nl; have n3 := g.nc; have hI : ∀ l : List Int, Byt (l.flatMap encI) := fun l => zc1 fun x _ => zjs x; have bC : Byt (encU p.Rules.Caps.length ++ p.Rules.Caps.flatMap encC) := zcD (ze1 _) (zc1 fun c _ => hI _); have bL : Byt (encU p.Rules.Loads.length ++ (p.Rules.Loads.flatMap encL ++ (encU p.Rules.Caps.length ++ p.Rules.Caps.flatMap encC))) := zcD (ze1 _) (zcD (zc1 fun c _ => hI _) bC); have bP : Byt (encU p.Rules.Pairs.length ++ (p.Rules.Pairs.flatMap zcN ++ (encU p.Rules.Loads.length ++ (p.Rules.Loads.flatMap encL ++ (encU p.Rules.Caps.length ++ p.Rules.Caps.flatMap encC))))) := zcD (ze1 _) (zcD (zc1 fun c _ => zcD (hI _) (zcD (ze1 _) (hI _))) bL)
  have rD : Recs 2 (p.Domains.map frD) := fun l h => by
    obtain ⟨d, hd, rfl⟩ := List.mem_map.1 h; have hd := List.all_eq_true.1 hD d hd; have a := zgy hd; have b := zeC (zew hd); refine ⟨rfl, fun x hx => ?_⟩; unfold frD at hx; rcases List.mem_cons.1 hx with rfl | hx
    · omega
    · rw [List.mem_singleton] at hx; omega
  have rP : Recs 5 (p.Rules.Pairs.map frPr) := fun l h => by
    obtain ⟨c, hc, rfl⟩ := List.mem_map.1 h; have hc := zhi (g.p c hc); have a := hc.a; have b := hc.b; have c1 := hc.l; have d := hc.h; have o := zhY hc.o; refine ⟨rfl, fun x hx => ?_⟩; unfold frPr at hx; simp only [List.mem_cons, List.not_mem_nil, or_false] at hx; rcases hx with rfl | rfl | rfl | rfl | rfl <;> omega
  have rL : Recs 5 (p.Rules.Loads.map frLd) := fun l h => by
    obtain ⟨c, hc, rfl⟩ := List.mem_map.1 h; have hc := loadR (g.l c hc); have a := hc.a; have b := hc.b; have c1 := hc.l; have d := hc.h; have o := hc.w; refine ⟨rfl, fun x hx => ?_⟩; unfold frLd at hx; simp only [List.mem_cons, List.not_mem_nil, or_false] at hx; rcases hx with rfl | rfl | rfl | rfl | rfl <;> omega
  have rC : Recs 4 (p.Rules.Caps.map frCp) := fun l h => by
    obtain ⟨c, hc, rfl⟩ := List.mem_map.1 h; have hc := capR (g.c c hc); have a := hc.a; have c1 := hc.l; have d := hc.h; have o := hc.m; refine ⟨rfl, fun x hx => ?_⟩; unfold frCp at hx; simp only [List.mem_cons, List.not_mem_nil, or_false] at hx; rcases hx with rfl | rfl | rfl | rfl <;> omega
  have ed := zeW (fuel := fuel) (m := 2) (most := 512) (L := p.Domains.map frD) (by omega) bP (by decide) (by decide) (by decide) (by rw [List.length_map]; omega) rD; have ep := zeW (fuel := fuel) (m := 5) (most := 4096) (L := p.Rules.Pairs.map frPr) (by omega) bL (by decide) (by decide) (by decide) (by rw [List.length_map]; omega) rP; have el := zeW (fuel := fuel) (m := 5) (most := 1024) (L := p.Rules.Loads.map frLd) (by omega) bC (by decide) (by decide) (by decide) (by rw [List.length_map]; omega) rL; have ec := zeW (fuel := fuel) (m := 4) (most := 1024) (L := p.Rules.Caps.map frCp) (rest := []) (by omega) (fun x hx => (by cases hx)) (by decide) (by decide) (by decide) (by rw [List.length_map]; omega) rC; rw [List.length_map, ziC] at ed ep el ec
  have xP : (p.Rules.Pairs.flatMap fun c => (frPr c).flatMap encI) = p.Rules.Pairs.flatMap zcN := by
    congr 1; funext c
    unfold frPr zcN; simp only [zcP, List.flatMap_nil, List.append_nil, List.append_assoc]
    rfl
  rw [xP] at ep; rw [List.append_nil] at ec; rw [zgH hf (zfk hp) ed ep el ec (by rw [List.length_map]; omega) (by rw [List.length_map]; omega) (by rw [List.length_map]; omega) (by rw [List.length_map]; omega) rD rP rL rC]
  have m1 : (p.Domains.map frD).map toD = p.Domains := map_id fun d hd => by
    have hd := List.all_eq_true.1 hD d hd; have b := zeC (zew hd)
    show (⟨d.Station, chR (((zdj d.Channels : Nat) : Int)).toNat 56 2⟩ : GDomain) = d
    rw [Int.toNat_natCast, zjv b, zgZ (zew hd) (zf2 hd)]
  have m2 : (p.Rules.Pairs.map frPr).map toPr = p.Rules.Pairs := map_id fun c hc => by
    show (⟨c.A, c.B, offR ((zig c.Offset : Nat) : Int), c.Low, c.High⟩ : GPair) = c
    rw [ziK (zhi (g.p c hc)).o]
  have m3 : (p.Rules.Loads.map frLd).map toLd = p.Rules.Loads := map_id fun c hc => rfl; have m4 : (p.Rules.Caps.map frCp).map toCp = p.Rules.Caps := map_id fun c hc => rfl; rw [m1, m2, m3, m4]
  show zgG fuel (encP p) p = _
  unfold zgG; rw [zep, hp, Option.bind_some]; simp only [Bool.not_true, cond_false]; rw [zeA (by omega) hp, Option.bind_some, zhS (zh7 _) (zh7 _), decide_eq_true rfl]; rfl
theorem zfQ {n : Nat} (h : 100000 ≤ n) (p : GProblem) (b : List Int) (hb : Byt b) : zb4 n p b = some true := by
  unfold zb4; obtain ⟨a, ha⟩ := zjf (p := p) (a := 60) (b := 60) (fuel := n) (by omega); by_cases h7 : 1000 < (b.length : Int)
  · simp only [zaH, decide_eq_true h7, cond_true, zgD h, Option.bind_some]
  simp only [zaH, decide_eq_false h7, cond_false, ha, Option.bind_some, zgD h]
  cases a
  · rfl
  simp only [Bool.not_true, cond_false]
  have hdec : ∃ r, zbJ n b = some r ∧ zbZ n b = some r := by
    obtain ⟨r, e1, h1⟩ := zgV (fuel := n) (by omega) hb (by omega); obtain ⟨r2, e2, h2⟩ := zgg (fuel := n) (by omega) hb (by omega); rcases h1 with ⟨_, k, e⟩ | h1
    · have := zeU (fuel := n) (by omega) k; rw [e] at this; have d := zg7 (fuel := n) (by omega) k; rw [e] at d; exact ⟨_, d, this⟩
    · rcases h2 with ⟨_, k, e⟩ | h2
      · have := zeU (fuel := n) (by omega) k; rw [e] at this; have d := zg7 (fuel := n) (by omega) k; rw [e] at d; exact ⟨_, d, this⟩
      · subst h1; subst h2; exact ⟨_, e1, e2⟩
  obtain ⟨r, e1, e2⟩ := hdec; rw [e1, e2]; simp only [Option.bind_some, zjm, ziq, zep, not_true_eq_false, decide_false, Bool.not_true, Bool.or_self, cond_false]
  cases hp : okP p
  · (have he : zbL n p = some ([], 2) := by unfold zbL; rw [zgn, hp]; rfl); rw [he]; rfl
  · rw [ziH (by omega) hp]; simp only [Option.bind_some, Bool.not_true, cond_false, decide_true, cond_true]; rw [zeA (by omega) hp, Option.bind_some, zhS (zh7 _) (zh7 _), decide_eq_true rfl, cond_true]
end Go.Proofs.YtipomhejoajjdaaGreat
namespace Go.Proofs.YtipomhejoajjdaaGreat
open Go.RowKit Go.ChangeShapes Go.WideShapes Go.Deep
def Opens {H : Type} (enc : TypeId × Value → H) (w : World) (base : Nat) (spare : Nat → Bool) (held : Bool) (t : TypeId) {α : Type} (R : List Value → α → Prop) : Prop :=
  ∀ fuel cs y, DataW.trod enc Tryz.prog w base spare held fuel t cs = some y → ∃ x, R cs x
section
variable {H : Type} {enc : TypeId × Value → H} {w : World} {base : Nat} {spare : Nat → Bool} {held : Bool}
theorem Opens.int {t : TypeId} (ht : Tryz.prog.underlying t = some (.int .i64)) : Opens enc w base spare held t (fun cs (x : Int) => cs = [.int .i64 x]) := fun fuel cs y h => by
  obtain ⟨k, hk, _⟩ := DataW.trod_int ht h; exact ⟨k, hk⟩
theorem ziY {a : Addr} {v : Value} (h : w.cell? a = some v) : Cb w a.block := by
  unfold World.cell? at h
  split at h
  all_goals (first | exact ⟨_, _, _, by assumption⟩ | simp at h | skip)
theorem Opens.any {t e : TypeId} {k : Nat} {α : Type} [Inhabited α] {R : List Value → α → Prop} (ht : Tryz.prog.underlying t = some (.slice e)) (hk : Tryz.prog.cellsOf e = k) (hpos : 0 < k) (ho : Opens enc w base spare held e R) :
    Opens enc w base spare held t (fun cs (l : List α) => ∃ v c, cs = [v] ∧ SlC (Frz.all w) v k c ∧ c.length = l.length ∧ ∀ i, i < l.length → R (nth c i) (nth l i)) := fun fuel cs y h => by
  rcases open_slice ht h with ⟨h0, _⟩ | ⟨a, len, cap, m, n, D, Pl, hcs, hb, hl, hm, hmm, _, hx⟩
  · exact ⟨[], _, [], h0, SlC.nil _ _, rfl, fun i hi => absurd hi (Nat.not_lt_zero i)⟩
  · subst hcs; (have hlm : len ≤ m := by rw [hmm]; split <;> omega)
    have each : ∀ i, i < m → ∃ x : List Value × α, x.1.length = k ∧ R x.1 x.2 ∧ ∀ j, j < k → w.cell? (a.add (i * k + j)) = x.1[j]? := fun i hi => by
      obtain ⟨cs', h1, h2⟩ := hx i hi; rw [hk] at h1; obtain ⟨_, hlen, hcell⟩ := World.cells?_some h1; obtain ⟨x, hR⟩ := ho _ _ _ h2; exact ⟨(cs', x), hlen, hR, fun j hj => by rw [← hcell j hj, add_add]⟩
    obtain ⟨X, hX⟩ := choose_lt each
    have hn : ∀ i, i < len → nth ((List.range len).map fun i => (X i).1) i = (X i).1 := fun i hi => by
      rw [za8 (by simpa using hi)]; simp
    have hn2 : ∀ i, i < len → nth ((List.range len).map fun i => (X i).2) i = (X i).2 := fun i hi => by
      rw [za8 (by simpa using hi)]; simp
    refine ⟨(List.range len).map fun i => (X i).2, _, (List.range len).map fun i => (X i).1, rfl, ⟨some a, cap, by simp, by simpa using hl, by unfold maxLen at hm; omega, fun c hc => ?_, fun hp => ?_⟩, by simp, fun i hi => ?_⟩
    · simp at hc; obtain ⟨i, hi, rfl⟩ := hc; exact (hX i (by omega)).1
    · (have hp' : 0 < len := by simpa using hp); have c0 := (hX 0 (by omega)).2.2 0 hpos; have hx0 := (hX 0 (by omega)).1; rw [List.getElem?_eq_getElem (by omega)] at c0; have hcb := ziY c0; have hs := World.cell?_spot c0; simp [Addr.add] at hs hcb; obtain ⟨b, off, sp⟩ := a; simp at hs hcb; subst hs; refine ⟨b, off, rfl, hcb, fun i hi j hj => ?_⟩; simp at hi; rw [hn i hi] at hj ⊢; have hxi := hX i (by omega); have := hxi.2.2 j (by omega); refine Eq.trans ?_ this
      show w.cell? _ = _
      rw [zdR, Nat.add_assoc]
    · simp at hi; rw [hn i hi, hn2 i hi]; exact (hX i (by omega)).2.1
theorem Opens.slC {t e : TypeId} {k : Nat} {α : Type} [Inhabited α] {en : α → List Value} (ht : Tryz.prog.underlying t = some (.slice e)) (hk : Tryz.prog.cellsOf e = k) (hpos : 0 < k) (ho : Opens enc w base spare held e (fun cs (x : α) => cs = en x)) :
    Opens enc w base spare held t (fun cs (l : List α) => ∃ v, cs = [v] ∧ SlC (Frz.all w) v k (l.map en)) := fun fuel cs y h => by
  obtain ⟨l, v, c, h1, h2, h3, h4⟩ := Opens.any ht hk hpos ho _ _ _ h; refine ⟨l, v, h1, ?_⟩
  have : c = l.map en := by
    apply List.ext_getElem (by simpa using h3); intro i hi hi2; rw [← za8 hi, h4 i (by omega), List.getElem_map, za8 (by omega)]
  rw [← this]; exact h2
theorem Opens.bytes {t e : TypeId} (ht : Tryz.prog.underlying t = some (.slice e)) (he : Tryz.prog.underlying e = some (.int .u8)) (hk : Tryz.prog.cellsOf e = 1) :
    Opens enc w base spare held t (fun cs (l : List Int) => ∃ v, cs = [v] ∧ SlC (Frz.all w) v 1 (l.map (eK .u8)) ∧ ∀ x ∈ l, 0 ≤ x ∧ x ≤ 255) := fun fuel cs y h => by
  have ho : Opens enc w base spare held e (fun cs (x : Int) => cs = eK .u8 x ∧ (0 ≤ x ∧ x ≤ 255)) := fun fuel cs y h => by
    obtain ⟨k, h1, _, h2⟩ := DataW.trod_int he h; refine ⟨k, h1, ?_⟩; (have e1 : IntKind.u8.min = 0 := by decide); (have e2 : IntKind.u8.max = 255 := by decide); simp only [Lit.wf, e1, e2, Bool.and_eq_true, decide_eq_true_eq] at h2; exact h2
  obtain ⟨l, v, c, h1, h2, h3, h4⟩ := Opens.any ht hk (by decide) ho _ _ _ h; refine ⟨l, v, h1, ?_, fun x hx => ?_⟩
  · have : c = l.map (eK .u8) := by
      apply List.ext_getElem (by simpa using h3); intro i hi hi2; rw [← za8 hi, (h4 i (by omega)).1, List.getElem_map, za8 (by omega)]
    rw [← this]; exact h2
  · obtain ⟨i, hi, e⟩ := List.mem_iff_getElem.1 hx; have := (h4 i hi).2; rw [za8 hi, e] at this; exact this
theorem Opens.slD {t e : TypeId} {k : Nat} {α : Type} [Inhabited α] {rep : Frz → List Value → α → Prop} (ht : Tryz.prog.underlying t = some (.slice e)) (hk : Tryz.prog.cellsOf e = k) (hpos : 0 < k) (ho : Opens enc w base spare held e (rep (Frz.all w))) :
    Opens enc w base spare held t (fun cs (l : List α) => ∃ v c, cs = [v] ∧ SlD rep (Frz.all w) v k c l) := fun fuel cs y h => by
  obtain ⟨l, v, c, h1, h2, h3, h4⟩ := Opens.any ht hk hpos ho _ _ _ h; exact ⟨l, v, c, h1, h2, h3, h4⟩
end
end Go.Proofs.YtipomhejoajjdaaGreat
