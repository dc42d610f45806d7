/- Yu Lh Of: shortened and put together by squeeze.py. -/
import Derived.Test.YtljgejbmimapdaaDoorQ09
import Derived.Deep.Slices
import Derived.ChangeArms
set_option maxRecDepth 100000
set_option maxHeartbeats 4000000
set_option linter.unusedVariables false
set_option linter.unusedSectionVars false
set_option linter.unusedSimpArgs false
namespace Go.Proofs.YtljgejbmimapdaaDoor
open Go.RowKit
def law18_PropagateHolds_x (fuel : Nat) (p : GProblem) (calls : List GAct) (l : List GChoice) : Option Bool :=
  (ref17_Small_x fuel p 10 40).bind fun r12 =>
  joinK (fun (x_1 : Bool) =>
    (bif x_1 then
      some true
      else
      (bif okG p then
        (ref18_Propagate_x fuel p p.Domains).bind fun r32 =>
        (law18_perform_x fuel p r32 calls).bind fun rq38 =>
        (bif (((!(!rq38.2)) && (decide (((stFix rq38).length : Int) = (p.Domains.length : Int)))) && (!(ref17_Fine_x p (stFix rq38)))) then
          some false
          else
          (bif ((!(ref17_Fine_x p l)) || (!(law18_agrees_x l calls))) then
            some true
            else
            joinK (fun (_ : Unit) =>
              some ((!(!rq38.2)) || false))
            (fun k13 =>
              iterK (fun (i_15 : Nat) (next14 : Unit → Option Bool) (_ : Unit) =>
                (bif !(stHas rq38 (nth l i_15)) then
                  some false
                  else
                  next14 ()))
              (fun (_ : Unit) =>
                k13 ()) (l.length - 0) 0 ())))
        else
        some false)))
  (fun k2 =>
    (bif !r12 then
      k2 true
      else
      (bif decide (10 < (calls.length : Int)) then
        k2 true
        else
        (bif decide (20 < (l.length : Int)) then
          k2 true
          else
          (ref17_Valid_x p).bind fun r26 =>
          k2 (!r26)))))
theorem law18_PropagateHolds_c (F0 : Frz) (w : World) (hF0 : F0.At w) (p : GProblem) (vp_0 : Value) (cp_0 : List (List Value)) (hp_0 : SlD GDomain.rep F0 vp_0 2 cp_0 p.Domains) (vp_1 : Value) (hp_1 : SlC F0 vp_1 5 (p.Rules.Pairs.map GPair.enc)) (vp_2 : Value) (hp_2 : SlC F0 vp_2 5 (p.Rules.Loads.map GLoad.enc)) (vp_3 : Value) (hp_3 : SlC F0 vp_3 4 (p.Rules.Caps.map GCap.enc)) (calls : List GAct) (vcalls : Value) (hcalls : SlC F0 vcalls 3 (calls.map GAct.enc)) (l : List GChoice) (vl : Value) (hl : SlC F0 vl 2 (l.map GChoice.enc)) (htab : Tab w) (fuel : Nat) (hfu : 100000 ≤ fuel) (r : Bool) (hr : law18_PropagateHolds_x fuel p calls l = some r) : Calls Tryd.prog 6 #[.agg [vp_0, vp_1, vp_2, vp_3].toArray, vcalls, vl] w fun e w' => e = .returned (.bool r) ∧ Below w.heap.size w w' := by
  have hk := hr; unfold law18_PropagateHolds_x at hk; haveI := hp_0.1.oneC; haveI := hp_1.oneC; haveI := hp_2.oneC; haveI := hp_3.oneC; haveI := hcalls.oneC; haveI := hl.oneC; obtain ⟨S0, F1, rfl, hS0, hp0⟩ := startF_ex hF0; refine calls_T (M := fun _ => False) (hs := [.fr F1]) Tryd.func6 rfl rfl rfl hp0 ?_; refine T.seq (T.region ?_); refine TL.e (Ew.boxA rfl rfl) ?_; rintro _ _ ⟨g3, rfl, rfl⟩; refine TL.run 1 rfl ?_; refine TL.nil (K.seq (T.seq (T.seq ?_))); have hq := bind_open hk; clear hk; obtain ⟨r12, hr12, hk⟩ := hq; (try dsimp only at hk); have hq := joinK_open hk; clear hk; obtain ⟨k2, hk2, hk⟩ := hq; (try dsimp only at hk); refine T.cutXK (ι := Bool) (fun z => [(1, vcalls), (2, vl), (3, .pointer (some ⟨g3, 0, none⟩)), (28, .bool z)]) (fun z => [.row g3 29 [vp_0, vp_1, vp_2, vp_3], .fr F1]) (fun z => k2 z = some r) ?_ ?_
  · refine T.region ?_; refine TL.y (Yv.loadAO 0 rfl rfl rfl rfl) ?_; refine TL.e (Ew.callD rfl rfl rfl (fun w hw => ref17_Small_c _ w (hw.fr (i := 1) rfl) p vp_0 cp_0 hp_0 vp_1 hp_1 vp_2 hp_2 vp_3 hp_3 10 40 fuel r12 hr12)) ?_; rintro _ _ ⟨rfl, rfl⟩; refine TL.run 2 rfl ?_; refine TL.gs rfl rfl rfl (fun h3 => ?_) (fun h3 => ?_)
    · have p3 := h3; (try simp only [nfB] at p3); replace hk := condT_open hk h3; refine TL.run 14 rfl ?_; refine TL.nil ?_; exact K.atX true hk (.c (.c (.c (.c .nil)))) (List.Sublist.refl _)
    · have p3 := h3; (try simp only [nfB] at p3); replace hk := condF_open hk h3; refine TL.run 1 rfl ?_; refine TL.y (Yv.lenR rfl rfl hcalls (List.length_map _)) ?_; have hm16 : calls.length ≤ 9223372036854775807 := (List.length_map _) ▸ hcalls.max; refine TL.run 3 rfl ?_; refine TL.gs rfl rfl rfl (fun h4 => ?_) (fun h4 => ?_)
      · have p4 := of_decide_eq_true h4; replace hk := condT_open hk h4; refine TL.run 9 rfl ?_; refine TL.nil ?_; exact K.atX true hk (.c (.c (.c (.c .nil)))) (List.Sublist.refl _)
      · have p4 := of_decide_eq_false h4; replace hk := condF_open hk h4; refine TL.run 1 rfl ?_; refine TL.y (Yv.lenR rfl rfl hl (List.length_map _)) ?_; have hm21 : l.length ≤ 9223372036854775807 := (List.length_map _) ▸ hl.max; refine TL.run 3 rfl ?_; refine TL.gs rfl rfl rfl (fun h5 => ?_) (fun h5 => ?_)
        · have p5 := of_decide_eq_true h5; replace hk := condT_open hk h5; refine TL.run 4 rfl ?_; refine TL.nil ?_; exact K.atX true hk (.c (.c (.c (.c .nil)))) (List.Sublist.refl _)
        · have p5 := of_decide_eq_false h5; replace hk := condF_open hk h5; refine TL.y (Yv.loadAO 0 rfl rfl rfl rfl) ?_; have hq := bind_open hk; clear hk; obtain ⟨r26, hr26, hk⟩ := hq; refine TL.e (Ew.callD rfl rfl rfl (fun w hw => ref17_Valid_c _ w (hw.fr (i := 1) rfl) p vp_0 cp_0 hp_0 vp_1 hp_1 vp_2 hp_2 vp_3 hp_3 r26 hr26)) ?_; rintro _ _ ⟨rfl, rfl⟩; refine TL.run 2 rfl ?_; refine TL.nil ?_; exact K.atX (!r26) hk (.c (.c (.c (.c .nil)))) (List.Sublist.refl _)
  · rintro x_1 hk; rw [← hk2] at hk; (try dsimp only at hk); refine T.cond rfl (fun h6 => ?_) (fun h6 => ?_)
    · have p6 := h6; (try simp only [nfB] at p6); replace hk := condT_open hk h6; refine T.seq (T.region ?_); refine TL.e (Ew.callD rfl rfl rfl (fun w hw => known_ret w (htab.keptF hw))) ?_; rintro _ _ ⟨rfl, rfl⟩; refine TL.run 1 rfl ?_; refine TL.nil (K.seq (T.ret (K.then_ret ?_))); obtain rfl := Option.some.inj hk; exact K.ret1 rfl rfl (fun w' hw => ⟨rfl, hw.isBelow⟩)
    · have p6 := h6; (try simp only [nfB] at p6); replace hk := condF_open hk h6; refine T.skip (K.seq (T.seq ?_)); refine T.splitB (okG p) (fun h7 => ?_) (fun h7 => ?_)
      · replace hk := condT_open hk h7; have hq := bind_open hk; clear hk; obtain ⟨r32, hr32, hk⟩ := hq; (try dsimp only at hk); refine T.region ?_; refine TL.y (Yv.loadAO 0 rfl rfl rfl rfl) ?_; refine TL.e (Ew.callH rfl rfl rfl (fun w hw => st_new (p := p) (hw.fr (i := 1) rfl) ⟨hp_0, hp_1, hp_2, hp_3⟩ (htab.keptF hw) h7 hfu hr32)) ?_; rintro _ _ ⟨⟨k32_, L32_⟩, hs32, rfl, rfl⟩; dsimp only [List.cons_append, List.nil_append]; dsimp only at hs32; refine TL.run 5 rfl ?_; refine TL.nil (K.seq (T.seq (T.seq ?_))); refine T.cutXK (ι := Unit) (fun z => [(1, vcalls), (2, vl), (3, .pointer (some ⟨g3, 0, none⟩)), (7, .pointer (some ⟨k32_.sp, 0, none⟩)), (40, .bool false)]) (fun z => [stE k32_ L32_ (!r32.2), .row g3 29 [vp_0, vp_1, vp_2, vp_3], .fr F1]) (fun z => True) ?_ ?_
        · refine T.region ?_; refine TL.run 1 rfl ?_; refine TL.y (Yv.eqNil (e := 69) (by kernel_rfl) rfl rfl rfl) ?_; refine TL.run 4 rfl ?_; refine TL.nil ?_; exact K.atX () trivial (.c (.c (.c (.c (.c .nil))))) (List.Sublist.refl _)
        · rintro _ _; refine T.condF rfl rfl ?_; refine T.skip (K.seq (T.seq ?_)); have hq := bind_open hk; clear hk; obtain ⟨rq38, hrq38, hk⟩ := hq; (try dsimp only at hk); refine T.region ?_; refine TL.run 2 rfl ?_; refine TL.e (Ew.callM 0 rfl rfl rfl rfl (fun w hw => law18_perform_c _ w (hw.fr (i := 2) rfl) _ _ _ _ hs32 (hw.get (i := 0) rfl) (hw.apartF (i := 0) (j := 2) rfl rfl (by decide)) (hw.not0 (i := 0) rfl htab) calls vcalls hcalls (htab.keptF hw) fuel hfu rq38 hrq38)) ?_; rintro _ _ ⟨Lq38_, hsq38, rfl, rfl⟩; refine TL.nil (K.seq (T.seq (T.seq (T.region ?_)))); refine TL.run 1 rfl ?_; refine TL.e (Ew.callR 2 rfl rfl rfl rfl (fun w hw hF => st_fixed hF hsq38 (hw.get (i := 0) rfl) (htab.keptF hw))) ?_; rintro _ _ ⟨v45_, F2, le1_2, hf45, hq, rfl⟩; obtain rfl := hq.symm; haveI := hf45.oneC; refine TL.run 1 rfl ?_; refine TL.nil (K.seq (T.seq ?_)); refine T.cutXK (ι := Unit) (fun z => [(1, vcalls), (2, vl), (3, .pointer (some ⟨g3, 0, none⟩)), (7, .pointer (some ⟨k32_.sp, 0, none⟩)), (62, .bool (((!(!rq38.2)) && (decide (((stFix rq38).length : Int) = (p.Domains.length : Int)))) && (!(ref17_Fine_x p (stFix rq38)))))]) (fun z => [stE k32_ Lq38_ (!rq38.2), .row g3 29 [vp_0, vp_1, vp_2, vp_3], .fr F2]) (fun z => True) ?_ ?_
          · refine T.region ?_; refine TL.run 1 rfl ?_; refine TL.e (Ew.callD rfl rfl rfl (fun w hw => st_conflict hsq38 (hw.get (i := 0) rfl) (htab.keptF hw))) ?_; rintro _ _ ⟨rfl, rfl⟩; refine TL.run 2 rfl ?_; refine TL.gs rfl rfl rfl (fun h8 => ?_) (fun h8 => ?_)
            · have p8 := h8; (try simp only [nfB] at p8); refine TL.run 1 rfl ?_; refine TL.y (Yv.lenR rfl rfl hf45 (List.length_map _)) ?_; have hm51 : (stFix rq38).length ≤ 9223372036854775807 := (List.length_map _) ▸ hf45.max; refine TL.y (Yv.fieldAddr rfl rfl) ?_; refine TL.y (Yv.loadO 1 rfl rfl rfl rfl) ?_; refine TL.y (Yv.lenR rfl rfl (SlD.mono (rep := GDomain.rep) (fun _ _ _ _ => GDomain.mono) hp_0 le1_2).1 (SlD.mono (rep := GDomain.rep) (fun _ _ _ _ => GDomain.mono) hp_0 le1_2).2.1) ?_; have hm54 : p.Domains.length ≤ 9223372036854775807 := (SlD.mono (rep := GDomain.rep) (fun _ _ _ _ => GDomain.mono) hp_0 le1_2).2.1 ▸ (SlD.mono (rep := GDomain.rep) (fun _ _ _ _ => GDomain.mono) hp_0 le1_2).1.max; refine TL.run 3 rfl ?_; refine TL.gs rfl rfl rfl (fun h9 => ?_) (fun h9 => ?_)
              · have p9 := of_decide_eq_true h9; refine TL.y (Yv.loadAO 1 rfl rfl rfl rfl) ?_; refine TL.run 1 rfl ?_; refine TL.e (Ew.callD rfl rfl rfl (fun w hw => ref17_Fine_c _ w (hw.fr (i := 2) rfl) p vp_0 cp_0 (SlD.mono (rep := GDomain.rep) (fun _ _ _ _ => GDomain.mono) hp_0 le1_2) vp_1 (SlC.mono hp_1 le1_2) vp_2 (SlC.mono hp_2 le1_2) vp_3 (SlC.mono hp_3 le1_2) (stFix rq38) v45_ hf45)) ?_; rintro _ _ ⟨rfl, rfl⟩; refine TL.run 2 rfl ?_; refine TL.nil ?_; exact K.atX () trivial (.c (.c (.c (.c (.b (and_t (and_tx h8 h9)) .nil))))) (List.Sublist.refl _)
              · have p9 := of_decide_eq_false h9; refine TL.run 5 rfl ?_; refine TL.nil ?_; exact K.atX () trivial (.c (.c (.c (.c (.b (and_ff (and_tx h8 h9)).symm .nil))))) (List.Sublist.refl _)
            · have p8 := h8; (try simp only [nfB] at p8); refine TL.run 13 rfl ?_; refine TL.nil ?_; exact K.atX () trivial (.c (.c (.c (.c (.b (and_ff (and_ff h8)).symm .nil))))) (List.Sublist.refl _)
          · rintro _ _; refine T.cond rfl (fun h10 => ?_) (fun h10 => ?_)
            · have p10 := h10; (try simp only [nfB] at p10); replace hk := condT_open hk h10; refine T.seq (T.region ?_); refine TL.run 1 rfl ?_; refine TL.nil (K.seq (T.ret (K.then_ret ?_))); obtain rfl := Option.some.inj hk; exact K.ret1 rfl rfl (fun w' hw => ⟨rfl, hw.isBelow⟩)
            · have p10 := h10; (try simp only [nfB] at p10); replace hk := condF_open hk h10; refine T.skip (K.seq (T.seq (T.seq ?_))); refine T.cutXK (ι := Unit) (fun z => [(2, vl), (7, .pointer (some ⟨k32_.sp, 0, none⟩)), (72, .bool ((!(ref17_Fine_x p l)) || (!(law18_agrees_x l calls))))]) (fun z => [stE k32_ Lq38_ (!rq38.2), .row g3 29 [vp_0, vp_1, vp_2, vp_3], .fr F2]) (fun z => True) ?_ ?_
              · refine T.region ?_; refine TL.y (Yv.loadAO 1 rfl rfl rfl rfl) ?_; refine TL.run 1 rfl ?_; refine TL.e (Ew.callD rfl rfl rfl (fun w hw => ref17_Fine_c _ w (hw.fr (i := 2) rfl) p vp_0 cp_0 (SlD.mono (rep := GDomain.rep) (fun _ _ _ _ => GDomain.mono) hp_0 le1_2) vp_1 (SlC.mono hp_1 le1_2) vp_2 (SlC.mono hp_2 le1_2) vp_3 (SlC.mono hp_3 le1_2) l vl (SlC.mono hl le1_2))) ?_; rintro _ _ ⟨rfl, rfl⟩; refine TL.run 2 rfl ?_; refine TL.gs rfl rfl rfl (fun h11 => ?_) (fun h11 => ?_)
                · have p11 := h11; (try simp only [nfB] at p11); refine TL.run 5 rfl ?_; refine TL.nil ?_; exact K.atX () trivial (.c (.c (.b (or_tt h11).symm .nil))) (List.Sublist.refl _)
                · have p11 := h11; (try simp only [nfB] at p11); refine TL.run 2 rfl ?_; refine TL.e (Ew.callD rfl rfl rfl (fun w hw => law18_agrees_c _ w (hw.fr (i := 2) rfl) l vl (SlC.mono hl le1_2) calls vcalls (SlC.mono hcalls le1_2))) ?_; rintro _ _ ⟨rfl, rfl⟩; refine TL.run 2 rfl ?_; refine TL.nil ?_; exact K.atX () trivial (.c (.c (.b (or_f h11) .nil))) (List.Sublist.refl _)
              · rintro _ _; refine T.cond rfl (fun h12 => ?_) (fun h12 => ?_)
                · have p12 := h12; (try simp only [nfB] at p12); replace hk := condT_open hk h12; refine T.seq (T.region ?_); refine TL.e (Ew.callD rfl rfl rfl (fun w hw => known_ret w (htab.keptF hw))) ?_; rintro _ _ ⟨rfl, rfl⟩; refine TL.run 1 rfl ?_; refine TL.nil (K.seq (T.ret (K.then_ret ?_))); obtain rfl := Option.some.inj hk; exact K.ret1 rfl rfl (fun w' hw => ⟨rfl, hw.isBelow⟩)
                · have p12 := h12; (try simp only [nfB] at p12); replace hk := condF_open hk h12; refine T.skip (K.seq (T.seq (T.seq (T.region ?_)))); refine TL.run 1 rfl ?_; refine TL.nil (K.seq ?_); have hq := joinK_open hk; clear hk; obtain ⟨k13, hk13, hk⟩ := hq; (try dsimp only at hk); refine T.cutXK (ι := Unit) (fun z => [(7, .pointer (some ⟨k32_.sp, 0, none⟩))]) (fun z => [stE k32_ Lq38_ (!rq38.2), .fr F2]) (fun z => k13 () = some r) ?_ ?_
                  · have hq := iterK_open hk; clear hk; obtain ⟨f14, kk14, hf14, hkk14, hk⟩ := hq; refine T.block ?_; refine T.pick [0, 2] rfl (by decide) ?_; refine T.loop (ι := Nat) (fun z => [(2, vl), (7, .pointer (some ⟨k32_.sp, 0, none⟩)), (10, .int .i64 (z : Int))]) (fun z => [stE k32_ Lq38_ (!rq38.2), .fr F2]) (fun z => iterK f14 kk14 (l.length - z) z () = some r) (fun z => l.length - z) 0 ?_ ?_ ?_ ?_
                    · exact hk
                    · exact (.c (.c (.c .nil)))
                    · exact List.Sublist.refl _
                    · rintro i_15 hk; refine T.seq (T.seq (T.region ?_)); refine TL.run 2 rfl ?_; refine TL.y (Yv.lenR rfl rfl (SlC.mono hl le1_2) (List.length_map _)) ?_; have hm76 : l.length ≤ 9223372036854775807 := (List.length_map _) ▸ (SlC.mono hl le1_2).max; refine TL.run 1 rfl ?_; refine TL.nil (K.seq ?_); refine T.cond rfl (fun h16 => ?_) (fun h16 => ?_)
                      · have p16 := of_decide_eq_true h16; rw [iterK_lt (by omega)] at hk; generalize hn14 : iterK f14 kk14 (l.length - (i_15 + 1)) (i_15 + 1) = next14 at hk; rw [← hf14] at hk; (try dsimp only at hk); refine T.skip (K.seq (T.seq (T.block (T.seq (T.region ?_))))); refine TL.run 3 rfl ?_; refine TL.y (Yv.idxR (i := i_15) rfl rfl rfl (SlC.mono hl le1_2) (List.length_map _) rfl (by omega)) ?_; refine TL.y (Yv.loadRFA 1 (i := i_15) rfl rfl rfl (SlC.mono hl le1_2) (by omega) rfl rfl rfl) ?_; refine TL.e (Ew.callD rfl rfl rfl (fun w hw => st_has hsq38 (hw.get (i := 0) rfl) (htab.keptF hw) (nth l i_15))) ?_; rintro _ _ ⟨rfl, rfl⟩; refine TL.run 1 rfl ?_; refine TL.nil (K.seq ?_); refine T.cond rfl (fun h17 => ?_) (fun h17 => ?_)
                        · have p17 := h17; (try simp only [nfB] at p17); replace hk := condT_open hk h17; refine T.seq (T.region ?_); refine TL.run 1 rfl ?_; refine TL.nil (K.seq (T.ret (K.blk_ret (K.then_ret (K.then_ret (K.blk_ret (K.then_ret ?_))))))); obtain rfl := Option.some.inj hk; exact K.ret1 rfl rfl (fun w' hw => ⟨rfl, hw.isBelow⟩)
                        · have p17 := h17; (try simp only [nfB] at p17); replace hk := condF_open hk h17; refine T.skip (K.blk_normal (K.seq (T.region ?_))); refine TL.run 1 rfl ?_; refine TL.y (Yv.addI rfl rfl rfl (by omega)) ?_; refine TL.run 1 rfl ?_; refine TL.nil ?_; rw [← hn14] at hk; exact K.next (i_15 + 1) hk (by omega) (.c (.c (.c .nil))) (List.Sublist.refl _)
                      · have p16 := of_decide_eq_false h16; rw [iterK_ge (by omega), ← hkk14] at hk; (try dsimp only at hk); refine T.exit (K.then_exit (K.then_exit (K.blk_exit_eq ?_))); exact K.atX () hk (.c .nil) (List.Sublist.refl _)
                  · rintro _ hk; rw [← hk13] at hk; (try dsimp only at hk); refine T.seq ?_; refine T.cutXK (ι := Unit) (fun z => [(6, .bool ((!(!rq38.2)) || false))]) (fun z => [stE k32_ Lq38_ (!rq38.2), .fr F2]) (fun z => True) ?_ ?_
                    · refine T.region ?_; refine TL.run 1 rfl ?_; refine TL.e (Ew.callD rfl rfl rfl (fun w hw => st_conflict hsq38 (hw.get (i := 0) rfl) (htab.keptF hw))) ?_; rintro _ _ ⟨rfl, rfl⟩; refine TL.run 2 rfl ?_; refine TL.gs rfl rfl rfl (fun h18 => ?_) (fun h18 => ?_)
                      · have p18 := h18; (try simp only [nfB] at p18); refine TL.e (Ew.callD rfl rfl rfl (fun w hw => known_ret w (htab.keptF hw))) ?_; rintro _ _ ⟨rfl, rfl⟩; refine TL.run 2 rfl ?_; refine TL.nil ?_; exact K.atX () trivial (.b (or_tt h18).symm .nil) (List.Sublist.refl _)
                      · have p18 := h18; (try simp only [nfB] at p18); refine TL.run 3 rfl ?_; refine TL.nil ?_; exact K.atX () trivial (.b (or_fx h18 rfl).symm .nil) (List.Sublist.refl _)
                    · rintro _ _; refine T.ret ?_; obtain rfl := Option.some.inj hk; exact K.ret1 rfl rfl (fun w' hw => ⟨rfl, hw.isBelow⟩)
      · replace hk := condF_open hk h7; refine T.region ?_; refine TL.y (Yv.loadAO 0 rfl rfl rfl rfl) ?_; refine TL.e (Ew.callD rfl rfl rfl (fun w hw => st_newbad (p := p) (hw.fr (i := 1) rfl) ⟨hp_0, hp_1, hp_2, hp_3⟩ h7)) ?_; rintro _ _ ⟨rfl, rfl⟩; refine TL.run 5 rfl ?_; refine TL.nil (K.seq (T.seq (T.seq ?_))); refine T.cutXK (ι := Unit) (fun z => [(1, vcalls), (2, vl), (3, .pointer (some ⟨g3, 0, none⟩)), (7, .pointer none), (40, .bool true)]) (fun z => [.row g3 29 [vp_0, vp_1, vp_2, vp_3], .fr F1]) (fun z => True) ?_ ?_
        · refine T.region ?_; refine TL.run 1 rfl ?_; refine TL.y (Yv.eqNil (e := 69) (by kernel_rfl) rfl rfl rfl) ?_; refine TL.run 4 rfl ?_; refine TL.nil ?_; exact K.atX () trivial (.c (.c (.c (.c (.c .nil))))) (List.Sublist.refl _)
        · rintro _ _; refine T.condT rfl rfl ?_; refine T.seq (T.region ?_); refine TL.run 1 rfl ?_; refine TL.nil (K.seq (T.ret (K.then_ret ?_))); obtain rfl := Option.some.inj hk; exact K.ret1 rfl rfl (fun w' hw => ⟨rfl, hw.isBelow⟩)
end Go.Proofs.YtljgejbmimapdaaDoor
namespace Go.Proofs.YtljgejbmimapdaaDoor
open Go.RowKit
theorem valid1_x {c : GChoice} : law18_valid_x c = goodC c := by
  unfold law18_valid_x; rw [rvalidList_x]; rw [Bool.eq_iff_iff, List.all_eq_true]; unfold goodC; rw [decide_eq_true_eq]; constructor
  · intro h; have := h 0 (by simp); unfold chOkG inB at this; simp only [Bool.and_eq_true, decide_eq_true_eq] at this; have e : nth ([] ++ [c]) 0 = c := rfl; have e' : nth [c] 0 = c := rfl; simp only [e, e'] at this; omega
  · intro h i hi; (obtain rfl : i = 0 := by have := List.mem_range.1 hi; simp at this; omega); unfold chOkG inB; simp only [Bool.and_eq_true, decide_eq_true_eq]; have e : nth ([] ++ [c]) 0 = c := rfl; have e' : nth [c] 0 = c := rfl; simp only [e, e']; refine ⟨by omega, by omega, by simp⟩
theorem agrees_x {l : List GChoice} {calls : List GAct} (h : law18_agrees_x l calls = true) : ∀ x ∈ calls, goodC x.Choice = true → onP l x.Choice.Station ≠ 0 → (onP l x.Choice.Station = x.Choice.Channel ↔ x.Kind = 0) := by
  unfold law18_agrees_x at h; simp only [joinK, Nat.sub_zero, on_x, valid1_x] at h; rw [iterK_all (fun i => !((goodC (nth calls i).Choice && decide (¬ onP l (nth calls i).Choice.Station = 0)) && (!(decide (onP l (nth calls i).Choice.Station = (nth calls i).Choice.Channel) == decide ((nth calls i).Kind = 0))))) (fun i next _ => ?_), Bool.and_true] at h
  · intro x hx hg h0; obtain ⟨i, hi, rfl⟩ := mem_nth hx; have := List.all_eq_true.1 h i (List.mem_range.2 hi); rw [hg, decide_eq_true h0] at this; by_cases h1 : onP l (nth calls i).Choice.Station = (nth calls i).Choice.Channel <;> by_cases h2 : (nth calls i).Kind = 0 <;> simp [h1, h2] at this ⊢
  · cases ((goodC (nth calls i).Choice && decide (¬ onP l (nth calls i).Choice.Station = 0)) && (!(decide (onP l (nth calls i).Choice.Station = (nth calls i).Choice.Channel) == decide ((nth calls i).Kind = 0)))) <;> rfl
section
variable {p : GProblem} {f : Int → Int} {d : List GDomain}
theorem sing_nth {i : Nat} (hi : i < d.length) : nth (sing d f) i = ⟨(nth d i).Station, [f (nth d i).Station]⟩ := nth_mapG hi
theorem sing_len : (sing d f).length = d.length := List.length_map _
theorem FineP.sub {l : List GChoice} (h : FineP p l) : SubD (sing p.Domains (onP l)) p.Domains := by
  refine ⟨sing_len, fun i hi => ?_⟩; rw [sing_nth hi]; refine ⟨rfl, fun c hc => ?_⟩; simp at hc; rw [hc]; exact (h.dom _ (nth_memG hi)).1
theorem FineP.rng {l : List GChoice} (hG : GG p) (h : FineP p l) : ∀ x ∈ p.Domains, 2 ≤ onP l x.Station ∧ onP l x.Station ≤ 51 := fun x hx => (hG.chs x hx).2 _ (h.dom x hx).1
theorem FineP.closed {l : List GChoice} (hG : GG p) (h : FineP p l) : ClosedD p (sing p.Domains (onP l)) := (closed_sing hG (fun x hx => by have := h.rng hG x hx; omega)).2 ⟨h.pr, h.cp⟩
theorem FineP.acts {l : List GChoice} {calls : List GAct} (h : FineP p l) (ha : law18_agrees_x l calls = true) : SubD (sing p.Domains (onP l)) (actL p.Domains calls) := by
  have hs := actL_sub (d := p.Domains) (l := calls); refine ⟨by rw [sing_len, hs.1.1], fun i hi => ?_⟩; (have hi' : i < p.Domains.length := by rw [← hs.1.1]; exact hi); rw [sing_nth hi']; refine ⟨(hs.1.2 i hi').1.symm, fun c hc => ?_⟩; simp at hc; subst hc; have hd := h.dom _ (nth_memG hi'); rw [actL_mem hi']; refine ⟨hd.1, fun x hx hg e => ?_⟩; have := agrees_x ha x hx hg (by rw [← e]; exact hd.2); rw [← e] at this; rw [decide_eq_true_eq]; exact this
theorem has_fine {l : List GChoice} {m : List GDomain × Bool} {d : List GDomain} (hG : GG p) (h : FineP p l) (hd : SubD (sing p.Domains (onP l)) d) (hm : PropD p d m) : m.2 = true ∧ SubD (sing p.Domains (onP l)) m.1 ∧ ∀ c ∈ l, stHas m c = true := by
  rcases hm with ⟨h1, h2, h3, h4⟩ | ⟨h1, h2⟩
  · have hs := h4 _ (h.closed hG) hd; refine ⟨h1, hs, fun c hc => ?_⟩; unfold stHas; rw [h1, Bool.true_and, List.any_eq_true]; obtain ⟨x, hx, e⟩ := hasSt_ex.1 (h.own c hc); obtain ⟨i, hi, rfl⟩ := mem_nth hx; (have hi' : i < m.1.length := by rw [← hs.1, sing_len]; exact hi); have h5 := hs.2 i hi'; rw [sing_nth hi] at h5; refine ⟨_, nth_memG hi', ?_⟩; rw [Bool.and_eq_true, decide_eq_true_eq, List.any_eq_true]; refine ⟨by rw [← h5.1]; exact e, c.Channel, ?_, by simp⟩; have := h5.2 (onP l (nth p.Domains i).Station) (by simp); rw [e, onP_some h.val hc] at this; exact this
  · exact absurd hd (h2 _ (h.closed hG))
theorem fixed_fine {m : List GDomain × Bool} {d : List GDomain} (hG : GG p) (hd : SubD d p.Domains) (hm : PropD p d m) (h2 : m.2 = true) (hl : (stFix m).length = p.Domains.length) : FineP p (stFix m) := by
  rcases hm with ⟨_, hc, hs, _⟩ | ⟨h1, _⟩
  · have hsub := hs.1.trans hd; (have e1 : stFix m = fixD m.1 := by unfold stFix; rw [h2]; rfl)
    have hall : ∀ x ∈ m.1, x.Channels.length = 1 := by
      rw [e1] at hl; unfold fixD at hl; rw [List.length_map, ← hsub.1] at hl; have := List.length_filter_eq_length_iff.1 hl; intro x hx; simpa using this x hx
    have e2 : stFix m = m.1.map fun x => ⟨x.Station, nth x.Channels 0⟩ := by
      rw [e1]; unfold fixD; rw [List.filter_eq_self.2 (fun x hx => by simpa using hall x hx)]
    have hlen : (stFix m).length = p.Domains.length := hl
    have hn : ∀ i, i < p.Domains.length → nth (stFix m) i = ⟨(nth p.Domains i).Station, nth (nth m.1 i).Channels 0⟩ := fun i hi => by
      (have hi' : i < m.1.length := by rw [hsub.1]; exact hi); rw [e2, nth_mapG hi', (hsub.2 i hi).1]
    have hch : ∀ i, i < p.Domains.length → (nth m.1 i).Channels = [nth (nth m.1 i).Channels 0] := fun i hi => by
      obtain ⟨c, hc⟩ := List.length_eq_one_iff.1 (hall _ (nth_memG (show i < m.1.length by rw [hsub.1]; exact hi))); rw [hc]; rfl
    have hin : ∀ i, i < p.Domains.length → nth (nth m.1 i).Channels 0 ∈ (nth p.Domains i).Channels := fun i hi => (hsub.2 i hi).2 _ (by rw [hch i hi]; simp [nth])
    have hval : ValidL (stFix m) := by
      refine ⟨fun c hc => ?_, fun i j hij hj => ?_⟩
      · obtain ⟨i, hi, rfl⟩ := mem_nth hc; rw [hlen] at hi; rw [hn i hi]; have h3 := hG.st _ (nth_memG hi); have h4 := (hG.chs _ (nth_memG hi)).2 _ (hin i hi); exact ⟨h3.1, h3.2, h4.1, h4.2⟩
      · rw [hlen] at hj; rw [hn i (by omega), hn j hj]; exact hG.inc i j hij hj
    have hon : ∀ i, i < p.Domains.length → onP (stFix m) (nth p.Domains i).Station = nth (nth m.1 i).Channels 0 := fun i hi => by
      have := onP_some hval (nth_memG (show i < (stFix m).length by rw [hlen]; exact hi)); rw [hn i hi] at this; exact this
    have es : m.1 = sing p.Domains (onP (stFix m)) := by
      refine ext_nth (by rw [sing_len, hsub.1]) fun i hi => ?_; (have hi' : i < p.Domains.length := by rw [← hsub.1]; exact hi); rw [sing_nth hi', hon i hi', ← hch i hi', ← (hsub.2 i hi').1]
    have hr : ∀ x ∈ p.Domains, 2 ≤ onP (stFix m) x.Station ∧ onP (stFix m) x.Station ≤ 51 := fun x hx => by
      obtain ⟨i, hi, rfl⟩ := mem_nth hx; rw [hon i hi]; exact (hG.chs _ (nth_memG hi)).2 _ (hin i hi)
    rw [es] at hc; have hb := (closed_sing hG (fun x hx => by have := hr x hx; omega)).1 hc; refine ⟨hval, fun x hx => ?_, fun c hc => ?_, hb.1, hb.2⟩
    · have := hr x hx; obtain ⟨i, hi, rfl⟩ := mem_nth hx; refine ⟨by rw [hon i hi]; exact hin i hi, by omega⟩
    · obtain ⟨i, hi, rfl⟩ := mem_nth hc; rw [hlen] at hi; rw [hn i hi]; exact hasSt_ex.2 ⟨_, nth_memG hi, rfl⟩
  · rw [h1] at h2; cases h2
theorem holds_true {fuel : Nat} (hf : 100000 ≤ fuel) (calls : List GAct) (l : List GChoice) : law18_PropagateHolds_x fuel p calls l = some true := by
  unfold law18_PropagateHolds_x; obtain ⟨b, hb⟩ := small_x (p := p) (a := 10) (b := 40) (fuel := fuel) (by omega); rw [hb, Option.bind_some]; simp only [joinK]
  cases b with
  | false => rfl
  | true =>
    simp only [Bool.not_true, cond_false]; by_cases h1 : (10 : Int) < (calls.length : Int)
    · rw [decide_eq_true h1]; rfl
    rw [decide_eq_false h1, cond_false]; by_cases h2 : (20 : Int) < (l.length : Int)
    · rw [decide_eq_true h2]; rfl
    rw [decide_eq_false h2, cond_false, valid_x, Option.bind_some]
    cases hok : okG p with
    | false => rfl
    | true =>
      have hG := okG_gg hok; obtain ⟨hw, hbd, ht, hn⟩ := okG_bd hok; obtain ⟨m0, g1, g2⟩ := propagate_x (fuel := fuel) hw hbd (by omega) (by omega); simp only [Bool.not_true, cond_false, cond_true]; rw [g1, Option.bind_some]; obtain ⟨r, g3, g4⟩ := perform_x hf hok (l := calls) g2; rw [g3, Option.bind_some]; have hs := actL_sub (d := p.Domains) (l := calls)
      have e1 : (((!(!r.2)) && (decide (((stFix r).length : Int) = (p.Domains.length : Int)))) && (!(ref17_Fine_x p (stFix r)))) = false := by
        cases hr2 : r.2 with
        | false => rfl
        | true =>
          by_cases hl : ((stFix r).length : Int) = (p.Domains.length : Int)
          · rw [fine_x.2 (fixed_fine hG hs.1 g4 hr2 (by omega))]; simp
          · rw [decide_eq_false hl]; rfl
      rw [e1, cond_false]
      cases hfi : ref17_Fine_x p l with
      | false => rfl
      | true =>
        cases ha : law18_agrees_x l calls with
        | false => rfl
        | true =>
          have hF := fine_x.1 hfi; obtain ⟨q1, q2, q3⟩ := has_fine hG hF (hF.acts ha) g4; simp only [Bool.not_true, Bool.or_self, cond_false, Nat.sub_zero]; refine (iterK_allO (z := some false) (fun i => stHas r (nth l i)) (fun i next _ => ?_)).trans ?_
          · cases stHas r (nth l i) <;> rfl
          · rw [List.all_eq_true.2 (fun i hi => q3 _ (nth_memG (List.mem_range.1 hi))), q1]; rfl
end
end Go.Proofs.YtljgejbmimapdaaDoor
namespace Go.Proofs.YtljgejbmimapdaaDoor
open Go.RowKit Go.ChangeShapes Go.WideShapes Go.Deep
def Opens {H : Type} (enc : TypeId × Value → H) (w : World) (base : Nat) (spare : Nat → Bool) (held : Bool) (t : TypeId) {α : Type} (R : List Value → α → Prop) : Prop :=
  ∀ fuel cs y, DataW.trod enc Tryd.prog w base spare held fuel t cs = some y → ∃ x, R cs x
section
variable {H : Type} {enc : TypeId × Value → H} {w : World} {base : Nat} {spare : Nat → Bool} {held : Bool}
theorem Opens.int {t : TypeId} (ht : Tryd.prog.underlying t = some (.int .i64)) : Opens enc w base spare held t (fun cs (x : Int) => cs = [.int .i64 x]) := fun fuel cs y h => by
  obtain ⟨k, hk, _⟩ := DataW.trod_int ht h; exact ⟨k, hk⟩
theorem cell_Cb {a : Addr} {v : Value} (h : w.cell? a = some v) : Cb w a.block := by
  unfold World.cell? at h
  split at h
  all_goals (first | exact ⟨_, _, _, by assumption⟩ | simp at h | skip)
theorem Opens.any {t e : TypeId} {k : Nat} {α : Type} [Inhabited α] {R : List Value → α → Prop} (ht : Tryd.prog.underlying t = some (.slice e)) (hk : Tryd.prog.cellsOf e = k) (hpos : 0 < k) (ho : Opens enc w base spare held e R) :
    Opens enc w base spare held t (fun cs (l : List α) => ∃ v c, cs = [v] ∧ SlC (Frz.all w) v k c ∧ c.length = l.length ∧ ∀ i, i < l.length → R (nth c i) (nth l i)) := fun fuel cs y h => by
  rcases open_slice ht h with ⟨h0, _⟩ | ⟨a, len, cap, m, n, D, Pl, hcs, hb, hl, hm, hmm, _, hx⟩
  · exact ⟨[], _, [], h0, SlC.nil _ _, rfl, fun i hi => absurd hi (Nat.not_lt_zero i)⟩
  · subst hcs; (have hlm : len ≤ m := by rw [hmm]; split <;> omega)
    have each : ∀ i, i < m → ∃ x : List Value × α, x.1.length = k ∧ R x.1 x.2 ∧ ∀ j, j < k → w.cell? (a.add (i * k + j)) = x.1[j]? := fun i hi => by
      obtain ⟨cs', h1, h2⟩ := hx i hi; rw [hk] at h1; obtain ⟨_, hlen, hcell⟩ := World.cells?_some h1; obtain ⟨x, hR⟩ := ho _ _ _ h2; exact ⟨(cs', x), hlen, hR, fun j hj => by rw [← hcell j hj, add_add]⟩
    obtain ⟨X, hX⟩ := choose_lt each
    have hn : ∀ i, i < len → nth ((List.range len).map fun i => (X i).1) i = (X i).1 := fun i hi => by
      rw [nth_eq (by simpa using hi)]; simp
    have hn2 : ∀ i, i < len → nth ((List.range len).map fun i => (X i).2) i = (X i).2 := fun i hi => by
      rw [nth_eq (by simpa using hi)]; simp
    refine ⟨(List.range len).map fun i => (X i).2, _, (List.range len).map fun i => (X i).1, rfl, ⟨some a, cap, by simp, by simpa using hl, by unfold maxLen at hm; omega, fun c hc => ?_, fun hp => ?_⟩, by simp, fun i hi => ?_⟩
    · simp at hc; obtain ⟨i, hi, rfl⟩ := hc; exact (hX i (by omega)).1
    · (have hp' : 0 < len := by simpa using hp); have c0 := (hX 0 (by omega)).2.2 0 hpos; have hx0 := (hX 0 (by omega)).1; rw [List.getElem?_eq_getElem (by omega)] at c0; have hcb := cell_Cb c0; have hs := World.cell?_spot c0; simp [Addr.add] at hs hcb; obtain ⟨b, off, sp⟩ := a; simp at hs hcb; subst hs; refine ⟨b, off, rfl, hcb, fun i hi j hj => ?_⟩; simp at hi; rw [hn i hi] at hj ⊢; have hxi := hX i (by omega); have := hxi.2.2 j (by omega); refine Eq.trans ?_ this
      show w.cell? _ = _
      rw [add_off, Nat.add_assoc]
    · simp at hi; rw [hn i hi, hn2 i hi]; exact (hX i (by omega)).2.1
theorem Opens.slC {t e : TypeId} {k : Nat} {α : Type} [Inhabited α] {en : α → List Value} (ht : Tryd.prog.underlying t = some (.slice e)) (hk : Tryd.prog.cellsOf e = k) (hpos : 0 < k) (ho : Opens enc w base spare held e (fun cs (x : α) => cs = en x)) :
    Opens enc w base spare held t (fun cs (l : List α) => ∃ v, cs = [v] ∧ SlC (Frz.all w) v k (l.map en)) := fun fuel cs y h => by
  obtain ⟨l, v, c, h1, h2, h3, h4⟩ := Opens.any ht hk hpos ho _ _ _ h; refine ⟨l, v, h1, ?_⟩
  have : c = l.map en := by
    apply List.ext_getElem (by simpa using h3); intro i hi hi2; rw [← nth_eq hi, h4 i (by omega), List.getElem_map, nth_eq (by omega)]
  rw [← this]; exact h2
theorem Opens.slD {t e : TypeId} {k : Nat} {α : Type} [Inhabited α] {rep : Frz → List Value → α → Prop} (ht : Tryd.prog.underlying t = some (.slice e)) (hk : Tryd.prog.cellsOf e = k) (hpos : 0 < k) (ho : Opens enc w base spare held e (rep (Frz.all w))) :
    Opens enc w base spare held t (fun cs (l : List α) => ∃ v c, cs = [v] ∧ SlD rep (Frz.all w) v k c l) := fun fuel cs y h => by
  obtain ⟨l, v, c, h1, h2, h3, h4⟩ := Opens.any ht hk hpos ho _ _ _ h; exact ⟨l, v, c, h1, h2, h3, h4⟩
end
end Go.Proofs.YtljgejbmimapdaaDoor
