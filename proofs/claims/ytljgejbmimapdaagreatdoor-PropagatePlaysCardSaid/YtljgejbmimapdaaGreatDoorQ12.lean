/- Yx Ly Of: shortened and put together by squeeze.py. -/
import Derived.Test.YtljgejbmimapdaaGreatDoorQ11
import Derived.Deep.Slices
import Derived.ChangeArms
set_option maxRecDepth 100000
set_option maxHeartbeats 4000000
set_option linter.unusedVariables false
set_option linter.unusedSectionVars false
set_option linter.unusedSimpArgs false
namespace Go.Proofs.YtljgejbmimapdaaGreatDoor
open Go.RowKit
structure Gmodel where
  d : List GDomain
  fine : Bool
deriving DecidableEq, Inhabited
def Gmodel.rep (F : Frz) (c : List Value) (x : Gmodel) : Prop := ∃ (v0 : Value) (cs0 : List (List Value)), c = [v0, .bool x.fine] ∧ SlD GDomain.rep F v0 2 cs0 x.d
theorem Gmodel.mono {F G : Frz} {c : List Value} {x : Gmodel} (hle : F.Le G) (h : Gmodel.rep F c x) : Gmodel.rep G c x := by
  obtain ⟨v0, cs0, h0, h1⟩ := h; exact ⟨v0, cs0, h0, SlD.mono (rep := GDomain.rep) (fun _ _ _ _ => GDomain.mono) h1 hle⟩
theorem Gmodel.len {F : Frz} {c : List Value} {x : Gmodel} (h : Gmodel.rep F c x) : c.length = 2 := by
  obtain ⟨v0, cs0, h0, h1⟩ := h; subst h0; rfl
theorem Gmodel.one {F : Frz} {c : List Value} {x : Gmodel} (h : Gmodel.rep F c x) : OneCs c := by
  obtain ⟨v0, cs0, h0, h1⟩ := h; subst h0; haveI := h1.1.oneC
  infer_instance
theorem Gmodel.c0 {F : Frz} {c : List Value} {x : Gmodel} (h : Gmodel.rep F c x) : c[0]? = some (nth c 0) ∧ ∃ cs, SlD GDomain.rep F (nth c 0) 2 cs x.d := by
  obtain ⟨v0, cs0, h0, h1⟩ := h; subst h0; exact ⟨rfl, cs0, h1⟩
theorem Gmodel.c1 {F : Frz} {c : List Value} {x : Gmodel} (h : Gmodel.rep F c x) : c[1]? = some (.bool x.fine) := by
  obtain ⟨v0, cs0, h0, h1⟩ := h; subst h0; rfl
theorem Gmodel.form {F : Frz} {c : List Value} {x : Gmodel} (h : Gmodel.rep F c x) : (c.drop 0).take 2 = [nth c 0, .bool x.fine] := by
  obtain ⟨v0, cs0, h0, h1⟩ := h; subst h0; rfl
structure GAct where
  Kind : Int
  Choice : GChoice
deriving DecidableEq, Inhabited
abbrev GAct.enc (x : GAct) : List Value := [.int .i64 x.Kind, .int .i64 x.Choice.Station, .int .i64 x.Choice.Channel]
theorem GAct.len (x : GAct) : (GAct.enc x).length = 3 := rfl
def law18_valid_x (c : GChoice) : Bool :=
  (ref17_ValidList_x [c])
theorem law18_valid_c (F0 : Frz) (w : World) (hF0 : F0.At w) (c : GChoice) : Calls Tryz.prog 37 #[.agg [.int .i64 c.Station, .int .i64 c.Channel].toArray] w fun e w' => e = .returned (.bool (law18_valid_x c)) ∧ Below w.heap.size w w' := by
  obtain ⟨r, hk⟩ : ∃ r, law18_valid_x c = r := ⟨_, rfl⟩; rw [hk]; unfold law18_valid_x at hk; obtain ⟨S0, F1, rfl, hS0, hp0⟩ := startF_ex hF0; refine calls_T (M := fun _ => False) (hs := [.fr F1]) Tryz.func37 rfl rfl rfl hp0 ?_; refine T.seq (T.region ?_); refine TL.e (Ew.boxA rfl rfl) ?_; rintro _ _ ⟨g1, rfl, rfl⟩; refine TL.run 1 rfl ?_; refine TL.nil (K.seq (T.seq (T.region ?_))); refine TL.y (Yv.loadAO 0 rfl rfl rfl rfl) ?_; refine TL.e (Ew.buildSlice rfl rfl rfl (by decide)) ?_; rintro _ _ ⟨g4, rfl, rfl⟩; refine TL.exH (fun w hw => hw.freezeR (i := 2) (j := 0) (by decide) rfl rfl) ?_; rintro F2 ⟨le1_2, hz2⟩; dsimp only [List.set, List.eraseIdx]; have hf2 : SlC F2.toFrz (.slice (some ⟨g4, 0, none⟩) 1 1) 2 ([c].map GChoice.enc) := (SlK.lit hz2 rfl (Nat.le_refl _) (by decide)).toF (xs := [c]) rfl GChoice.len; refine TL.e (Ew.callD rfl rfl rfl (fun w hw => ref17_ValidList_c _ w (hw.fr (i := 1) rfl) [c] (.slice (some ⟨g4, 0, none⟩) 1 1) hf2)) ?_; rintro _ _ ⟨rfl, rfl⟩; refine TL.run 1 rfl ?_; refine TL.nil (K.seq (T.ret ?_)); subst hk; exact K.ret1 rfl rfl (fun w' hw => ⟨rfl, hw.isBelow⟩)
def law18_played_x (fuel : Nat) (p : GProblem) (m : Gmodel) (x_ : GAct) : Option (Gmodel × Int) :=
  (bif !(law18_valid_x x_.Choice) then
    some (m, 2)
    else
    (bif !m.fine then
      some (m, 8)
      else
      (bif decide ((ref17_Find_x p x_.Choice.Station) < 0) then
        some (m, 9)
        else
        (ref18_Drop_x m.d x_.Choice.Station x_.Choice.Channel).bind fun r37 =>
        joinK (fun (d_4 : List GDomain) =>
          (ref18_Propagate_x fuel p d_4).bind fun r53 =>
          some ((Gmodel.mk r53.1 r53.2), 0))
        (fun k5 =>
          (bif decide (x_.Kind = 0) then
            (ref18_Keep_x m.d x_.Choice.Station x_.Choice.Channel).bind fun r49 =>
            k5 r49
            else
            k5 r37)))))
theorem law18_played_c (F0 : Frz) (w : World) (hF0 : F0.At w) (p : GProblem) (vp_0 : Value) (cp_0 : List (List Value)) (hp_0 : SlD GDomain.rep F0 vp_0 2 cp_0 p.Domains) (vp_1 : Value) (hp_1 : SlC F0 vp_1 5 (p.Rules.Pairs.map GPair.enc)) (vp_2 : Value) (hp_2 : SlC F0 vp_2 5 (p.Rules.Loads.map GLoad.enc)) (vp_3 : Value) (hp_3 : SlC F0 vp_3 4 (p.Rules.Caps.map GCap.enc)) (m : Gmodel) (vm_0 : Value) (cm_0 : List (List Value)) (hm_0 : SlD GDomain.rep F0 vm_0 2 cm_0 m.d) (x_ : GAct) (fuel : Nat) (r : Gmodel × Int) (hr : law18_played_x fuel p m x_ = some r) : Calls Tryz.prog 10 #[.agg [vp_0, vp_1, vp_2, vp_3].toArray, .agg [vm_0, .bool m.fine].toArray, .agg [.int .i64 x_.Kind, .int .i64 x_.Choice.Station, .int .i64 x_.Choice.Channel].toArray] w fun e w' => ∃ (y : Value × List (List Value)) (G : Frz), (SlD GDomain.rep G y.1 2 y.2 r.1.d) ∧ e = .returned (.tuple #[.agg [y.1, .bool r.1.fine].toArray, .int .i64 r.2]) ∧ Fx F0 w G w' := by
  have hk := hr; unfold law18_played_x at hk; haveI := hp_0.1.oneC; haveI := hp_1.oneC; haveI := hp_2.oneC; haveI := hp_3.oneC; haveI := hm_0.1.oneC; obtain ⟨S0, F1, rfl, hS0, hp0⟩ := startF_ex hF0; refine calls_T (M := fun _ => False) (hs := [.fr F1]) Tryz.func10 rfl rfl rfl hp0 ?_; refine T.seq (T.region ?_); refine TL.e (Ew.boxA rfl rfl) ?_; rintro _ _ ⟨g3, rfl, rfl⟩; refine TL.e (Ew.boxA rfl rfl) ?_; rintro _ _ ⟨g4, rfl, rfl⟩; refine TL.e (Ew.boxA rfl rfl) ?_; rintro _ _ ⟨g5, rfl, rfl⟩; refine TL.e (Ew.alloc rfl) ?_; rintro _ _ ⟨g6, rfl, rfl⟩; refine TL.run 1 rfl ?_; refine TL.nil (K.seq (T.seq (T.block (T.seq (T.region ?_))))); refine TL.y (Yv.fieldAddr rfl rfl) ?_; refine TL.y (Yv.loadAP 1 (m := [.int .i64 x_.Choice.Station, .int .i64 x_.Choice.Channel]) rfl rfl rfl rfl rfl) ?_; refine TL.e (Ew.callD rfl rfl rfl (fun w hw => law18_valid_c _ w (hw.fr (i := 4) rfl) x_.Choice)) ?_; rintro _ _ ⟨rfl, rfl⟩; refine TL.run 2 rfl ?_; refine TL.nil (K.seq ?_); refine T.cond rfl (fun h1 => ?_) (fun h1 => ?_)
  · have p1 := h1; (try simp only [nfB] at p1); replace hk := condT_open hk h1; refine T.seq (T.region ?_); refine TL.y (Yv.loadAO 2 rfl rfl rfl rfl) ?_; refine TL.e0 (Ew.storeAll 0 rfl rfl rfl rfl rfl rfl) ?_; rintro _ _ ⟨rfl, rfl⟩; refine TL.run 1 rfl ?_; refine TL.nil (K.seq (T.ret (K.blk_ret (K.then_ret ?_)))); obtain rfl := Option.some.inj hk; exact K.retCT 0 rfl rfl rfl rfl rfl (fun w' hw => ⟨(vm_0, cm_0), F1.toFrz, hm_0, rfl, Fx.of hw (i := 4) rfl hS0 (Frz.Le.refl _)⟩)
  · have p1 := h1; (try simp only [nfB] at p1); replace hk := condF_open hk h1; refine T.seq (T.region ?_); refine TL.y (Yv.fieldAddr rfl rfl) ?_; refine TL.y (Yv.loadO 2 rfl rfl rfl rfl) ?_; refine TL.run 2 rfl ?_; refine TL.nil (K.seq ?_); refine T.cond rfl (fun h2 => ?_) (fun h2 => ?_)
    · have p2 := h2; (try simp only [nfB] at p2); replace hk := condT_open hk h2; refine T.seq (T.region ?_); refine TL.y (Yv.loadAO 2 rfl rfl rfl rfl) ?_; refine TL.e0 (Ew.storeAll 0 rfl rfl rfl rfl rfl rfl) ?_; rintro _ _ ⟨rfl, rfl⟩; refine TL.run 1 rfl ?_; refine TL.nil (K.seq (T.ret (K.blk_ret (K.then_ret ?_)))); obtain rfl := Option.some.inj hk; exact K.retCT 0 rfl rfl rfl rfl rfl (fun w' hw => ⟨(vm_0, cm_0), F1.toFrz, hm_0, rfl, Fx.of hw (i := 4) rfl hS0 (Frz.Le.refl _)⟩)
    · have p2 := h2; (try simp only [nfB] at p2); replace hk := condF_open hk h2; refine T.seq (T.region ?_); refine TL.y (Yv.loadAO 3 rfl rfl rfl rfl) ?_; refine TL.y (Yv.fieldAddr rfl rfl) ?_; refine TL.y (Yv.fieldAddr rfl rfl) ?_; refine TL.y (Yv.loadO 1 rfl rfl rfl rfl) ?_; refine TL.e (Ew.callD rfl rfl rfl (fun w hw => ref17_Find_c _ w (hw.fr (i := 4) rfl) p vp_0 cp_0 hp_0 vp_1 hp_1 vp_2 hp_2 vp_3 hp_3 x_.Choice.Station)) ?_; rintro _ _ ⟨rfl, rfl⟩; refine TL.run 2 rfl ?_; refine TL.nil (K.seq ?_); refine T.cond rfl (fun h3 => ?_) (fun h3 => ?_)
      · have p3 := of_decide_eq_true h3; replace hk := condT_open hk h3; refine T.seq (T.region ?_); refine TL.y (Yv.loadAO 2 rfl rfl rfl rfl) ?_; refine TL.e0 (Ew.storeAll 0 rfl rfl rfl rfl rfl rfl) ?_; rintro _ _ ⟨rfl, rfl⟩; refine TL.run 1 rfl ?_; refine TL.nil (K.seq (T.ret (K.blk_ret (K.then_ret ?_)))); obtain rfl := Option.some.inj hk; exact K.retCT 0 rfl rfl rfl rfl rfl (fun w' hw => ⟨(vm_0, cm_0), F1.toFrz, hm_0, rfl, Fx.of hw (i := 4) rfl hS0 (Frz.Le.refl _)⟩)
      · have p3 := of_decide_eq_false h3; replace hk := condF_open hk h3; refine T.skip (K.blk_normal (K.seq (T.seq ?_))); have hq := bind_open hk; clear hk; obtain ⟨r37, hr37, hk⟩ := hq; (try dsimp only at hk); refine T.region ?_; refine TL.y (Yv.fieldAddr rfl rfl) ?_; refine TL.y (Yv.loadO 2 rfl rfl rfl rfl) ?_; refine TL.y (Yv.fieldAddr rfl rfl) ?_; refine TL.y (Yv.fieldAddr rfl rfl) ?_; refine TL.y (Yv.loadO 1 rfl rfl rfl rfl) ?_; refine TL.y (Yv.fieldAddr rfl rfl) ?_; refine TL.y (Yv.fieldAddr rfl rfl) ?_; refine TL.y (Yv.loadO 1 rfl rfl rfl rfl) ?_; refine TL.e (Ew.callR 4 rfl rfl rfl rfl (fun w hw hF => ref18_Drop_c _ w hF m.d vm_0 cm_0 hm_0 x_.Choice.Station x_.Choice.Channel r37 hr37)) ?_; rintro _ _ ⟨⟨v37_0_0, cs37_0_0⟩, F2, le1_2, hf37_0_0, hq, rfl⟩; obtain rfl := hq.symm; dsimp only at hf37_0_0 ⊢; haveI := hf37_0_0.1.oneC; refine TL.run 1 rfl ?_; refine TL.nil (K.seq (T.seq (T.seq (T.region ?_)))); refine TL.y (Yv.fieldAddr rfl rfl) ?_; refine TL.y (Yv.loadO 1 rfl rfl rfl rfl) ?_; refine TL.run 1 rfl ?_; refine TL.nil (K.seq ?_); have hq := joinK_open hk; clear hk; obtain ⟨k5, hk5, hk⟩ := hq; (try dsimp only at hk); refine T.cutXK (ι := List GDomain × Value × List (List Value) × FzB w (fun _ => False) S0) (fun z => [(3, .pointer (some ⟨g3, 0, none⟩)), (6, .pointer (some ⟨g6, 0, none⟩)), (8, z.2.1)]) (fun z => [.row g6 39 [(.slice none 0 0), .bool false], .row g3 29 [vp_0, vp_1, vp_2, vp_3], .fr z.2.2.2]) (fun z => k5 z.1 = some r ∧ SlD GDomain.rep z.2.2.2.toFrz z.2.1 2 z.2.2.1 z.1 ∧ F2.toFrz.Le z.2.2.2.toFrz) ?_ ?_
        · refine T.cond rfl (fun h6 => ?_) (fun h6 => ?_)
          · have p6 := of_decide_eq_true h6; replace hk := condT_open hk h6; have hq := bind_open hk; clear hk; obtain ⟨r49, hr49, hk⟩ := hq; (try dsimp only at hk); refine T.region ?_; refine TL.y (Yv.fieldAddr rfl rfl) ?_; refine TL.y (Yv.loadO 2 rfl rfl rfl rfl) ?_; refine TL.y (Yv.fieldAddr rfl rfl) ?_; refine TL.y (Yv.fieldAddr rfl rfl) ?_; refine TL.y (Yv.loadO 1 rfl rfl rfl rfl) ?_; refine TL.y (Yv.fieldAddr rfl rfl) ?_; refine TL.y (Yv.fieldAddr rfl rfl) ?_; refine TL.y (Yv.loadO 1 rfl rfl rfl rfl) ?_; refine TL.e (Ew.callR 4 rfl rfl rfl rfl (fun w hw hF => ref18_Keep_c _ w hF m.d vm_0 cm_0 (SlD.mono (rep := GDomain.rep) (fun _ _ _ _ => GDomain.mono) hm_0 le1_2) x_.Choice.Station x_.Choice.Channel r49 hr49)) ?_; rintro _ _ ⟨⟨v49_0_0, cs49_0_0⟩, F4, le2_4, hf49_0_0, hq, rfl⟩; obtain rfl := hq.symm; dsimp only at hf49_0_0 ⊢; have le1_4 := le1_2.trans le2_4; haveI := hf49_0_0.1.oneC; refine TL.run 1 rfl ?_; refine TL.nil ?_; refine K.pick [0, 3, 4] rfl (by decide) ?_; exact K.atX (r49, v49_0_0, cs49_0_0, F4) ⟨hk, hf49_0_0, le2_4⟩ (.c (.c (.c .nil))) (List.Sublist.refl _)
          · have p6 := of_decide_eq_false h6; replace hk := condF_open hk h6; refine T.skip ?_; refine K.pick [0, 3, 4] rfl (by decide) ?_; exact K.atX (r37, v37_0_0, cs37_0_0, F2) ⟨hk, hf37_0_0, (Frz.Le.refl _)⟩ (.c (.c (.c .nil))) (List.Sublist.refl _)
        · rintro ⟨d_4, vd_4, cd_4, F3⟩ ⟨hk, hd_4, le2_3⟩; (try dsimp only at *); rw [← hk5] at hk; (try dsimp only at hk); have le1_3 := le1_2.trans le2_3; haveI := hd_4.1.oneC; refine T.seq ?_; have hq := bind_open hk; clear hk; obtain ⟨r53, hr53, hk⟩ := hq; (try dsimp only at hk); refine T.region ?_; refine TL.y (Yv.loadAO 1 rfl rfl rfl rfl) ?_; refine TL.run 1 rfl ?_; refine TL.e (Ew.callR 2 rfl rfl rfl rfl (fun w hw hF => ref18_Propagate_c _ w hF p vp_0 cp_0 (SlD.mono (rep := GDomain.rep) (fun _ _ _ _ => GDomain.mono) hp_0 le1_3) vp_1 (SlC.mono hp_1 le1_3) vp_2 (SlC.mono hp_2 le1_3) vp_3 (SlC.mono hp_3 le1_3) d_4 vd_4 cd_4 hd_4 fuel r53 hr53)) ?_; rintro _ _ ⟨⟨v53_0_0, cs53_0_0⟩, F5, le3_5, hf53_0_0, rfl, rfl⟩; dsimp only at hf53_0_0 ⊢; have le1_5 := le1_3.trans le3_5; have le2_5 := le2_3.trans le3_5; haveI := hf53_0_0.1.oneC; refine TL.run 5 rfl ?_; refine TL.nil (K.seq (T.seq (T.region ?_))); refine TL.run 2 rfl ?_; refine TL.y (Yv.build rfl rfl) ?_; refine TL.e0 (Ew.storeAll 0 rfl rfl rfl rfl rfl rfl) ?_; rintro _ _ ⟨rfl, rfl⟩; refine TL.run 1 rfl ?_; refine TL.nil (K.seq (T.ret ?_)); obtain rfl := Option.some.inj hk; exact K.retCT 0 rfl rfl rfl rfl rfl (fun w' hw => ⟨(v53_0_0, cs53_0_0), F5.toFrz, hf53_0_0, rfl, Fx.of hw (i := 2) rfl hS0 le1_5⟩)
def law18_looks_x (p : GProblem) (p1_ : GProblem) (m1_ : List GDomain × Bool) (m : Gmodel) : Option Bool :=
  joinK (fun (x_1 : Bool) =>
    (bif x_1 then
      some false
      else
      joinK (fun (removed_6 : Int) =>
        (bif decide (¬ (stRem p1_ m1_) = removed_6) then
          some false
          else
          joinK (fun (_ : Unit) =>
            some true)
          (fun k10 =>
            iterK (fun (i_12 : Nat) (next11 : Unit → Option Bool) (_ : Unit) =>
              joinK (fun (_ : Unit) =>
                next11 ())
              (fun k14 =>
                (bif !m.fine then
                  (bif (((decide (¬ (((stDom p1_ m1_ ((nth p.Domains i_12).Station)).1).length : Int) = 0)) || (decide (¬ (stDom p1_ m1_ ((nth p.Domains i_12).Station)).2 = 8))) || (stHas m1_ (GChoice.mk ((nth p.Domains i_12).Station) 14))) then
                    some false
                    else
                    k14 ())
                  else
                  joinK (fun (x_19 : Bool) =>
                    (bif x_19 then
                      some false
                      else
                      iterK (fun (c_24 : Nat) (next23 : Unit → Option Bool) (_ : Unit) =>
                        (bif !((stHas m1_ (GChoice.mk ((nth p.Domains i_12).Station) (c_24 : Int))) == (ref17_Has_x ((stDom p1_ m1_ ((nth p.Domains i_12).Station)).1) (c_24 : Int))) then
                          some false
                          else
                          next23 ()))
                      (fun (_ : Unit) =>
                        k14 ()) (21 - 12) 12 ()))
                  (fun k20 =>
                    (bif decide (¬ (stDom p1_ m1_ ((nth p.Domains i_12).Station)).2 = 0) then
                      k20 true
                      else
                      grd (0 ≤ (i_12 : Int) ∧ (i_12 : Int) < (m.d.length : Int)) <|
                      k20 (!(ref17_SameInts_x ((stDom p1_ m1_ ((nth p.Domains i_12).Station)).1) ((nth m.d i_12).Channels))))))))
            (fun (_ : Unit) =>
              k10 ()) (p.Domains.length - 0) 0 ())))
      (fun k7 =>
        (bif m.fine then
          k7 (wI ((ref18_Count_x p.Domains) - (ref18_Count_x m.d)))
          else
          k7 0))))
  (fun k2 =>
    (bif ((!m1_.2) == m.fine) then
      k2 true
      else
      (bif !(ref17_SameDomains_x m1_.1 m.d) then
        k2 true
        else
        (ref18_Fixed_x m.d).bind fun r31 =>
        k2 (!(ref17_SameList_x (stFix m1_) r31)))))
theorem law18_looks_c (F0 : Frz) (w : World) (hF0 : F0.At w) (p : GProblem) (vp_0 : Value) (cp_0 : List (List Value)) (hp_0 : SlD GDomain.rep F0 vp_0 2 cp_0 p.Domains) (vp_1 : Value) (hp_1 : SlC F0 vp_1 5 (p.Rules.Pairs.map GPair.enc)) (vp_2 : Value) (hp_2 : SlC F0 vp_2 5 (p.Rules.Loads.map GLoad.enc)) (vp_3 : Value) (hp_3 : SlC F0 vp_3 4 (p.Rules.Caps.map GCap.enc)) (p1_ : GProblem) (m1_ : List GDomain × Bool) (k1_ : SK) (v1_ : Value) (L1_ : Ws) (hs1_ : SI p1_ m1_ k1_ L1_) (tf1_ : TbF F0 k1_) (m : Gmodel) (vm_0 : Value) (cm_0 : List (List Value)) (hm_0 : SlD GDomain.rep F0 vm_0 2 cm_0 m.d) (htab : Tab w) (hO : Hp w (fps [st2 k1_ v1_ L1_ (!m1_.2)]) [st2 k1_ v1_ L1_ (!m1_.2)] w) (hA : ∀ g, fps [st2 k1_ v1_ L1_ (!m1_.2)] g → ¬ F0.S g) (hZ : ¬ fps [st2 k1_ v1_ L1_ (!m1_.2)] 0) (r : Bool) (hr : law18_looks_x p p1_ m1_ m = some r) : Calls Tryz.prog 9 #[.agg [vp_0, vp_1, vp_2, vp_3].toArray, .pointer (some ⟨k1_.sp, 0, none⟩), .agg [vm_0, .bool m.fine].toArray] w fun e w' => ∃ (y : Unit) (G : Frz), (True) ∧ e = .returned (.bool r) ∧ FxM F0 w (fps [st2 k1_ v1_ L1_ (!m1_.2)]) G [st2 k1_ v1_ L1_ (!m1_.2)] w' := by
  have hk := hr; unfold law18_looks_x at hk; haveI := hp_0.1.oneC; haveI := hp_1.oneC; haveI := hp_2.oneC; haveI := hp_3.oneC; haveI := hm_0.1.oneC; obtain ⟨S0, F1, rfl, hS0, hp0⟩ := startO_ex hF0 hO hA; have hM0 := hZ; have htk : ∀ {hs : HS} {w' : World}, Hp w (fps [st2 k1_ v1_ L1_ (!m1_.2)]) hs w' → Tab w' := fun hw => htab.kept hw hZ; refine calls_T (M := fps [st2 k1_ v1_ L1_ (!m1_.2)]) (hs := [st2 k1_ v1_ L1_ (!m1_.2), .fr F1]) Tryz.func9 rfl rfl rfl hp0 ?_; refine T.seq (T.region ?_); refine TL.e (Ew.boxA rfl rfl) ?_; rintro _ _ ⟨g3, rfl, rfl⟩; refine TL.e (Ew.boxA rfl rfl) ?_; rintro _ _ ⟨g5, rfl, rfl⟩; refine TL.run 1 rfl ?_; refine TL.nil (K.seq (T.seq (T.seq ?_))); (try dsimp only at hk); have hq := joinK_open hk; clear hk; obtain ⟨k2, hk2, hk⟩ := hq; (try dsimp only at hk); refine T.cutXK (ι := Bool × FzB w (fps [st2 k1_ v1_ L1_ (!m1_.2)]) S0) (fun z => [(1, .pointer (some ⟨k1_.sp, 0, none⟩)), (3, .pointer (some ⟨g3, 0, none⟩)), (5, .pointer (some ⟨g5, 0, none⟩)), (34, .bool z.1)]) (fun z => [.row g5 39 [vm_0, .bool m.fine], .row g3 29 [vp_0, vp_1, vp_2, vp_3], st2 k1_ v1_ L1_ (!m1_.2), .fr z.2]) (fun z => k2 z.1 = some r ∧ F1.toFrz.Le z.2.toFrz) ?_ ?_
  · refine T.draw (.still 0 (.still 2 (.still 3 (.eff 1 (.still 4 (.still 5 (.still 6 (.still 8 (.still 9 (.eff 7 (.eff 10 (.still 11 (.still 12 (.still 13 (.still 14 (.still 16 (.still 17 (.eff 15 (.eff 18 (.eff 19 (.still 20 (.still 21 .done)))))))))))))))))))))) _ (by kernel_rfl) (List.Sublist.refl _) ?_; refine TS.run 1 rfl ?_; refine TS.y rfl (Yv.fieldAddr rfl rfl) ?_; refine TS.y rfl (Yv.loadO 0 rfl rfl rfl rfl) ?_; refine TS.eff ?_; refine TSo.ewG rfl (Wt.none rfl) rfl rfl (Ew.callD rfl rfl rfl (fun w hw => s2_conflict hs1_ tf1_ (hw.get (i := 2) rfl) (hw.fr (i := 3) rfl) (htk hw))) ?_; rintro _ _ ⟨rfl, rfl⟩; refine ⟨(fun w hw => hw.sub (by repeat first | exact S0 | exact S1 | refine S2 ?_ | refine S3 ?_)), ?_⟩; refine TS.y rfl (Yv.eqB (by kernel_rfl) rfl rfl rfl) ?_; refine TS.run 1 rfl ?_; refine TS.gs rfl rfl rfl rfl (fun h3 => ?_) (fun h3 => ?_)
    · have p3 := h3; (try simp only [nfB] at p3); replace hk := condT_open hk h3; refine TS.run 3 rfl ?_; refine TS.eff ?_; refine TSo.off rfl (Wt.not rfl rfl rfl rfl) rfl rfl ?_; refine TS.eff ?_; refine TSo.off rfl (Wt.not rfl rfl rfl rfl) rfl rfl ?_; refine TS.run 6 rfl ?_; refine TS.eff ?_; refine TSo.off rfl (Wt.not rfl rfl rfl rfl) rfl rfl ?_; refine TS.eff ?_; refine TSo.off rfl (Wt.not rfl rfl rfl rfl) rfl rfl ?_; refine TS.eff ?_; refine TSo.off rfl (Wt.not rfl rfl rfl rfl) rfl rfl ?_; refine TS.run 2 rfl ?_; refine TS.done ?_; exact K.atX (true, F1) ⟨hk, (Frz.Le.refl _)⟩ (.c (.c (.c (.c .nil)))) (List.Sublist.refl _)
    · have p3 := h3; (try simp only [nfB] at p3); replace hk := condF_open hk h3; refine TS.run 1 rfl ?_; refine TS.y rfl (Yv.fieldAddr rfl rfl) ?_; refine TS.y rfl (Yv.loadO 0 rfl rfl rfl rfl) ?_; refine TS.eff ?_; refine TSo.ewG rfl (Wt.some rfl rfl rfl rfl) rfl rfl (Ew.callR 3 rfl rfl rfl rfl (fun w hw hF => s2_domains hs1_ tf1_ (hw.get (i := 2) rfl) (hw.fr (i := 3) rfl) (htk hw))) ?_; rintro _ _ ⟨⟨v20_, c20_⟩, F3, le1_3, hf20, hq, rfl⟩; obtain rfl := hq.symm; dsimp only at hf20 ⊢; haveI := hf20.1.oneC; refine ⟨(fun w hw => (hw.frLe (i := 3) rfl le1_3).sub (by repeat first | exact S0 | exact S1 | refine S2 ?_ | refine S3 ?_)), ?_⟩; refine TS.eff ?_; refine TSo.ewG rfl (Wt.some rfl rfl rfl rfl) rfl rfl (Ew.callD rfl rfl rfl (fun w hw => ref17_SameDomains_c _ w (hw.fr (i := 3) rfl) m1_.1 v20_ c20_ hf20 m.d vm_0 cm_0 (SlD.mono (rep := GDomain.rep) (fun _ _ _ _ => GDomain.mono) hm_0 le1_3))) ?_; rintro _ _ ⟨rfl, rfl⟩; refine ⟨(fun w hw => (hw.frLe (i := 3) rfl le1_3).sub (by repeat first | exact S0 | exact S1 | refine S2 ?_ | refine S3 ?_)), ?_⟩; refine TS.run 3 rfl ?_; refine TS.gs rfl rfl rfl rfl (fun h4 => ?_) (fun h4 => ?_)
      · have p4 := h4; (try simp only [nfB] at p4); replace hk := condT_open hk h4; refine TS.run 3 rfl ?_; refine TS.eff ?_; refine TSo.off rfl (Wt.not rfl rfl rfl rfl) rfl rfl ?_; refine TS.eff ?_; refine TSo.off rfl (Wt.not rfl rfl rfl rfl) rfl rfl ?_; refine TS.eff ?_; refine TSo.off rfl (Wt.not rfl rfl rfl rfl) rfl rfl ?_; refine TS.run 2 rfl ?_; refine TS.done ?_; exact K.atX (true, F3) ⟨hk, le1_3⟩ (.c (.c (.c (.c .nil)))) (List.Sublist.refl _)
      · have p4 := h4; (try simp only [nfB] at p4); replace hk := condF_open hk h4; refine TS.run 1 rfl ?_; refine TS.y rfl (Yv.fieldAddr rfl rfl) ?_; refine TS.y rfl (Yv.loadO 0 rfl rfl rfl rfl) ?_; refine TS.eff ?_; refine TSo.ewG rfl (Wt.some rfl rfl rfl rfl) rfl rfl (Ew.callR 3 rfl rfl rfl rfl (fun w hw hF => s2_fixed hs1_ (tf1_.mono le1_3) (hw.get (i := 2) rfl) (hw.fr (i := 3) rfl) (htk hw))) ?_; rintro _ _ ⟨v28_, F4, le3_4, hf28, hq, rfl⟩; obtain rfl := hq.symm; have le1_4 := le1_3.trans le3_4; haveI := hf28.oneC; refine ⟨(fun w hw => (hw.frLe (i := 3) rfl le1_4).sub (by repeat first | exact S0 | exact S1 | refine S2 ?_ | refine S3 ?_)), ?_⟩; refine TS.eff ?_; have hq := bind_open hk; clear hk; obtain ⟨r31, hr31, hk⟩ := hq; refine TSo.ewG rfl (Wt.some rfl rfl rfl rfl) rfl rfl (Ew.callR 3 rfl rfl rfl rfl (fun w hw hF => ref18_Fixed_c _ w hF m.d vm_0 cm_0 (SlD.mono (rep := GDomain.rep) (fun _ _ _ _ => GDomain.mono) hm_0 le1_4) r31 hr31)) ?_; rintro _ _ ⟨v31_0_0, F5, le4_5, hf31_0_0, hq, rfl⟩; obtain rfl := hq.symm; have le1_5 := le1_4.trans le4_5; have le3_5 := le3_4.trans le4_5; haveI := hf31_0_0.oneC; refine ⟨(fun w hw => (hw.frLe (i := 3) rfl le1_5).sub (by repeat first | exact S0 | exact S1 | refine S2 ?_ | refine S3 ?_)), ?_⟩; refine TS.eff ?_; refine TSo.ewG rfl (Wt.some rfl rfl rfl rfl) rfl rfl (Ew.callD rfl rfl rfl (fun w hw => ref17_SameList_c _ w (hw.fr (i := 3) rfl) (stFix m1_) v28_ (SlC.mono hf28 le4_5) r31 v31_0_0 hf31_0_0)) ?_; rintro _ _ ⟨rfl, rfl⟩; refine ⟨(fun w hw => (hw.frLe (i := 3) rfl le1_5).sub (by repeat first | exact S0 | exact S1 | refine S2 ?_ | refine S3 ?_)), ?_⟩; refine TS.run 2 rfl ?_; refine TS.done ?_; exact K.atX (!(ref17_SameList_x (stFix m1_) r31), F5) ⟨hk, le1_5⟩ (.c (.c (.c (.c .nil)))) (List.Sublist.refl _)
  · rintro ⟨x_1, F2⟩ ⟨hk, le1_2⟩; (try dsimp only at *); rw [← hk2] at hk; (try dsimp only at hk); refine T.cond rfl (fun h5 => ?_) (fun h5 => ?_)
    · have p5 := h5; (try simp only [nfB] at p5); replace hk := condT_open hk h5; refine T.seq (T.region ?_); refine TL.run 1 rfl ?_; refine TL.nil (K.seq (T.ret (K.then_ret ?_))); obtain rfl := Option.some.inj hk; exact K.ret1 rfl rfl (fun w' hw => ⟨⟨⟩, F2.toFrz, trivial, rfl, FxM.of (hw.pick (idx := [2, 3]) rfl (by decide)) hS0 le1_2⟩)
    · have p5 := h5; (try simp only [nfB] at p5); replace hk := condF_open hk h5; refine T.skip (K.seq (T.seq (T.region ?_))); refine TL.run 1 rfl ?_; refine TL.nil (K.seq (T.seq (T.seq (T.region ?_)))); refine TL.y (Yv.fieldAddr rfl rfl) ?_; refine TL.y (Yv.loadO 0 rfl rfl rfl rfl) ?_; refine TL.nil (K.seq ?_); have hq := joinK_open hk; clear hk; obtain ⟨k7, hk7, hk⟩ := hq; (try dsimp only at hk); refine T.cutXK (ι := Int) (fun z => [(1, .pointer (some ⟨k1_.sp, 0, none⟩)), (3, .pointer (some ⟨g3, 0, none⟩)), (5, .pointer (some ⟨g5, 0, none⟩)), (7, .int .i64 z)]) (fun z => [.row g5 39 [vm_0, .bool m.fine], .row g3 29 [vp_0, vp_1, vp_2, vp_3], st2 k1_ v1_ L1_ (!m1_.2), .fr F2]) (fun z => k7 z = some r) ?_ ?_
      · refine T.cond rfl (fun h8 => ?_) (fun h8 => ?_)
        · have p8 := h8; (try simp only [nfB] at p8); replace hk := condT_open hk h8; refine T.draw (.still 0 (.still 1 (.still 3 (.still 4 (.eff 2 (.eff 5 (.still 6 (.still 7 .done)))))))) _ (by kernel_rfl) (List.Sublist.refl _) ?_; refine TS.y rfl (Yv.fieldAddr rfl rfl) ?_; refine TS.y rfl (Yv.loadO 1 rfl rfl rfl rfl) ?_; refine TS.y rfl (Yv.fieldAddr rfl rfl) ?_; refine TS.y rfl (Yv.loadO 0 rfl rfl rfl rfl) ?_; refine TS.eff ?_; refine TSo.ewG rfl (Wt.none rfl) rfl rfl (Ew.callD rfl rfl rfl (fun w hw => ref18_Count_c _ w (hw.fr (i := 3) rfl) p.Domains vp_0 cp_0 (SlD.mono (rep := GDomain.rep) (fun _ _ _ _ => GDomain.mono) hp_0 le1_2))) ?_; rintro _ _ ⟨rfl, rfl⟩; refine ⟨(fun w hw => hw.sub (by repeat first | exact S0 | exact S1 | refine S2 ?_ | refine S3 ?_)), ?_⟩; refine TS.eff ?_; refine TSo.ewG rfl (Wt.none rfl) rfl rfl (Ew.callD rfl rfl rfl (fun w hw => ref18_Count_c _ w (hw.fr (i := 3) rfl) m.d vm_0 cm_0 (SlD.mono (rep := GDomain.rep) (fun _ _ _ _ => GDomain.mono) hm_0 le1_2))) ?_; rintro _ _ ⟨rfl, rfl⟩; refine ⟨(fun w hw => hw.sub (by repeat first | exact S0 | exact S1 | refine S2 ?_ | refine S3 ?_)), ?_⟩; refine TS.run 2 rfl ?_; refine TS.done ?_; exact K.atX (wI ((ref18_Count_x p.Domains) - (ref18_Count_x m.d))) hk (.c (.c (.c (.c .nil)))) (List.Sublist.refl _)
        · have p8 := h8; (try simp only [nfB] at p8); replace hk := condF_open hk h8; refine T.skip ?_; exact K.atX 0 hk (.c (.c (.c (.c .nil)))) (List.Sublist.refl _)
      · rintro removed_6 hk; rw [← hk7] at hk; (try dsimp only at hk); refine T.seq (T.seq (T.region ?_)); refine TL.run 1 rfl ?_; refine TL.e (Ew.callD rfl rfl rfl (fun w hw => s2_removed hs1_ (tf1_.mono le1_2) (hw.get (i := 2) rfl) (hw.fr (i := 3) rfl) (htk hw))) ?_; rintro _ _ ⟨rfl, rfl⟩; refine TL.run 2 rfl ?_; refine TL.nil (K.seq ?_); refine T.cond rfl (fun h9 => ?_) (fun h9 => ?_)
        · have p9 := of_decide_eq_true h9; replace hk := condT_open hk h9; refine T.seq (T.region ?_); refine TL.run 1 rfl ?_; refine TL.nil (K.seq (T.ret (K.then_ret ?_))); obtain rfl := Option.some.inj hk; exact K.ret1 rfl rfl (fun w' hw => ⟨⟨⟩, F2.toFrz, trivial, rfl, FxM.of (hw.pick (idx := [2, 3]) rfl (by decide)) hS0 le1_2⟩)
        · have p9 := of_decide_eq_false h9; replace hk := condF_open hk h9; refine T.skip (K.seq (T.seq (T.seq (T.region ?_)))); refine TL.run 1 rfl ?_; refine TL.nil (K.seq ?_); have hq := joinK_open hk; clear hk; obtain ⟨k10, hk10, hk⟩ := hq; (try dsimp only at hk); refine T.cutXK (ι := FzB w (fps [st2 k1_ v1_ L1_ (!m1_.2)]) S0) (fun z => []) (fun z => [st2 k1_ v1_ L1_ (!m1_.2), .fr z]) (fun z => k10 () = some r ∧ F2.toFrz.Le z.toFrz) ?_ ?_
          · have hq := iterK_open hk; clear hk; obtain ⟨f11, kk11, hf11, hkk11, hk⟩ := hq; refine T.block ?_; refine T.loop (ι := Nat × FzB w (fps [st2 k1_ v1_ L1_ (!m1_.2)]) S0) (fun z => [(1, .pointer (some ⟨k1_.sp, 0, none⟩)), (3, .pointer (some ⟨g3, 0, none⟩)), (5, .pointer (some ⟨g5, 0, none⟩)), (8, .int .i64 (z.1 : Int))]) (fun z => [.row g5 39 [vm_0, .bool m.fine], .row g3 29 [vp_0, vp_1, vp_2, vp_3], st2 k1_ v1_ L1_ (!m1_.2), .fr z.2]) (fun z => iterK f11 kk11 (p.Domains.length - z.1) z.1 () = some r ∧ F2.toFrz.Le z.2.toFrz) (fun z => p.Domains.length - z.1) (0, F2) ?_ ?_ ?_ ?_
            · exact ⟨hk, (Frz.Le.refl _)⟩
            · exact (.c (.c (.c (.c .nil))))
            · exact List.Sublist.refl _
            · rintro ⟨i_12, F7⟩ ⟨hk, le2_7⟩; (try dsimp only at *); have le1_7 := le1_2.trans le2_7; refine T.seq (T.seq (T.region ?_)); refine TL.run 1 rfl ?_; refine TL.y (Yv.fieldAddr rfl rfl) ?_; refine TL.y (Yv.loadO 1 rfl rfl rfl rfl) ?_; refine TL.y (Yv.lenR rfl rfl (SlD.mono (rep := GDomain.rep) (fun _ _ _ _ => GDomain.mono) hp_0 le1_7).1 (SlD.mono (rep := GDomain.rep) (fun _ _ _ _ => GDomain.mono) hp_0 le1_7).2.1) ?_; have hm51 : p.Domains.length ≤ 9223372036854775807 := (SlD.mono (rep := GDomain.rep) (fun _ _ _ _ => GDomain.mono) hp_0 le1_7).2.1 ▸ (SlD.mono (rep := GDomain.rep) (fun _ _ _ _ => GDomain.mono) hp_0 le1_7).1.max; refine TL.run 1 rfl ?_; refine TL.nil (K.seq ?_); refine T.cond rfl (fun h13 => ?_) (fun h13 => ?_)
              · have p13 := of_decide_eq_true h13; rw [iterK_lt (by omega)] at hk; generalize hn11 : iterK f11 kk11 (p.Domains.length - (i_12 + 1)) (i_12 + 1) = next11 at hk; rw [← hf11] at hk; (try dsimp only at hk); refine T.skip (K.seq (T.seq ?_)); have hq := joinK_open hk; clear hk; obtain ⟨k14, hk14, hk⟩ := hq; (try dsimp only at hk); refine T.cutXK (ι := FzB w (fps [st2 k1_ v1_ L1_ (!m1_.2)]) S0) (fun z => [(1, .pointer (some ⟨k1_.sp, 0, none⟩)), (3, .pointer (some ⟨g3, 0, none⟩)), (5, .pointer (some ⟨g5, 0, none⟩)), (8, .int .i64 (i_12 : Int))]) (fun z => [.row g5 39 [vm_0, .bool m.fine], .row g3 29 [vp_0, vp_1, vp_2, vp_3], st2 k1_ v1_ L1_ (!m1_.2), .fr z]) (fun z => k14 () = some r ∧ F7.toFrz.Le z.toFrz) ?_ ?_
                · refine T.block (T.seq (T.region ?_)); refine TL.y (Yv.fieldAddr rfl rfl) ?_; refine TL.y (Yv.loadO 1 rfl rfl rfl rfl) ?_; refine TL.run 1 rfl ?_; refine TL.y (Yv.idxR (i := i_12) rfl rfl rfl (SlD.mono (rep := GDomain.rep) (fun _ _ _ _ => GDomain.mono) hp_0 le1_7).1 (SlD.mono (rep := GDomain.rep) (fun _ _ _ _ => GDomain.mono) hp_0 le1_7).2.1 rfl (by omega)) ?_; refine TL.y (Yv.fldR rfl rfl (SlD.mono (rep := GDomain.rep) (fun _ _ _ _ => GDomain.mono) hp_0 le1_7).1 (SlD.mono (rep := GDomain.rep) (fun _ _ _ _ => GDomain.mono) hp_0 le1_7).2.1 (by omega)) ?_; refine TL.y (Yv.loadR 3 (i := i_12) (j := 0) rfl rfl rfl (SlD.mono (rep := GDomain.rep) (fun _ _ _ _ => GDomain.mono) hp_0 le1_7).1 (SlD.mono (rep := GDomain.rep) (fun _ _ _ _ => GDomain.mono) hp_0 le1_7).2.1 (by omega) rfl (GDomain.c0 ((SlD.mono (rep := GDomain.rep) (fun _ _ _ _ => GDomain.mono) hp_0 le1_7).2.2 i_12 (by omega)))) ?_; refine TL.run 1 rfl ?_; refine TL.nil (K.seq (T.seq (T.region ?_))); refine TL.run 2 rfl ?_; refine TL.e (Ew.callR 3 rfl rfl rfl rfl (fun w hw hF => s2_domain hs1_ (tf1_.mono le1_7) (hw.get (i := 2) rfl) (hw.fr (i := 3) rfl) (htk hw) ((nth p.Domains i_12).Station))) ?_; rintro _ _ ⟨v64_, F9, le7_9, hf64, rfl, rfl⟩; have le1_9 := le1_7.trans le7_9; have le2_9 := le2_7.trans le7_9; haveI := hf64.oneC; refine TL.run 5 rfl ?_; refine TL.nil (K.seq (T.seq (T.seq (T.region ?_)))); refine TL.y (Yv.fieldAddr rfl rfl) ?_; refine TL.y (Yv.loadO 0 rfl rfl rfl rfl) ?_; refine TL.run 1 rfl ?_; refine TL.nil (K.seq ?_); refine T.cond rfl (fun h15 => ?_) (fun h15 => ?_)
                  · have p15 := h15; (try simp only [nfB] at p15); replace hk := condT_open hk h15; refine T.seq (T.seq ?_); refine T.cutXK (ι := Unit) (fun z => [(1, .pointer (some ⟨k1_.sp, 0, none⟩)), (3, .pointer (some ⟨g3, 0, none⟩)), (5, .pointer (some ⟨g5, 0, none⟩)), (8, .int .i64 (i_12 : Int)), (82, .bool (((decide (¬ (((stDom p1_ m1_ ((nth p.Domains i_12).Station)).1).length : Int) = 0)) || (decide (¬ (stDom p1_ m1_ ((nth p.Domains i_12).Station)).2 = 8))) || (stHas m1_ (GChoice.mk ((nth p.Domains i_12).Station) 14))))]) (fun z => [.row g5 39 [vm_0, .bool m.fine], .row g3 29 [vp_0, vp_1, vp_2, vp_3], st2 k1_ v1_ L1_ (!m1_.2), .fr F9]) (fun z => True) ?_ ?_
                    · refine T.region ?_; refine TL.run 1 rfl ?_; refine TL.y (Yv.lenR rfl rfl hf64 (List.length_map _)) ?_; have hm71 : ((stDom p1_ m1_ ((nth p.Domains i_12).Station)).1).length ≤ 9223372036854775807 := (List.length_map _) ▸ hf64.max; refine TL.run 2 rfl ?_; refine TL.gs rfl rfl rfl (fun h16 => ?_) (fun h16 => ?_)
                      · have p16 := of_decide_eq_true h16; refine TL.run 9 rfl ?_; refine TL.nil ?_; exact K.atX () trivial (.c (.c (.c (.c (.b (or_tt (or_tt h16)).symm .nil))))) (List.Sublist.refl _)
                      · have p16 := of_decide_eq_false h16; refine TL.run 4 rfl ?_; refine TL.gs rfl rfl rfl (fun h17 => ?_) (fun h17 => ?_)
                        · have p17 := of_decide_eq_true h17; refine TL.run 5 rfl ?_; refine TL.nil ?_; exact K.atX () trivial (.c (.c (.c (.c (.b (or_tt (or_fx h16 h17)).symm .nil))))) (List.Sublist.refl _)
                        · have p17 := of_decide_eq_false h17; refine TL.run 2 rfl ?_; refine TL.y (Yv.build rfl rfl) ?_; refine TL.e (Ew.callD rfl rfl rfl (fun w hw => s2_has hs1_ (tf1_.mono le1_9) (hw.get (i := 2) rfl) (hw.fr (i := 3) rfl) (htk hw) (GChoice.mk ((nth p.Domains i_12).Station) 14))) ?_; rintro _ _ ⟨rfl, rfl⟩; refine TL.run 1 rfl ?_; refine TL.nil ?_; exact K.atX () trivial (.c (.c (.c (.c (.b (or_f (or_fx h16 h17)) .nil))))) (List.Sublist.refl _)
                    · rintro _ _; refine T.cond rfl (fun h18 => ?_) (fun h18 => ?_)
                      · have p18 := h18; (try simp only [nfB] at p18); replace hk := condT_open hk h18; refine T.seq (T.region ?_); refine TL.run 1 rfl ?_; refine TL.nil (K.seq (T.ret (K.then_ret (K.then_ret (K.blk_ret (K.then_ret (K.then_ret (K.blk_ret (K.then_ret ?_))))))))); obtain rfl := Option.some.inj hk; exact K.ret1 rfl rfl (fun w' hw => ⟨⟨⟩, F9.toFrz, trivial, rfl, FxM.of (hw.pick (idx := [2, 3]) rfl (by decide)) hS0 le1_9⟩)
                      · have p18 := h18; (try simp only [nfB] at p18); replace hk := condF_open hk h18; refine T.skip (K.seq (T.exit (K.then_exit (K.blk_exit_eq ?_)))); exact K.atX F9 ⟨hk, le7_9⟩ (.c (.c (.c (.c .nil)))) (List.Sublist.refl _)
                  · have p15 := h15; (try simp only [nfB] at p15); replace hk := condF_open hk h15; refine T.skip (K.seq (T.seq (T.seq ?_))); (try dsimp only at hk); have hq := joinK_open hk; clear hk; obtain ⟨k20, hk20, hk⟩ := hq; (try dsimp only at hk); refine T.cutXK (ι := Bool) (fun z => [(1, .pointer (some ⟨k1_.sp, 0, none⟩)), (3, .pointer (some ⟨g3, 0, none⟩)), (5, .pointer (some ⟨g5, 0, none⟩)), (8, .int .i64 (i_12 : Int)), (9, .int .i64 ((nth p.Domains i_12).Station)), (10, v64_), (95, .bool z)]) (fun z => [.row g5 39 [vm_0, .bool m.fine], .row g3 29 [vp_0, vp_1, vp_2, vp_3], st2 k1_ v1_ L1_ (!m1_.2), .fr F9]) (fun z => k20 z = some r) ?_ ?_
                    · refine T.region ?_; refine TL.run 3 rfl ?_; refine TL.gs rfl rfl rfl (fun h21 => ?_) (fun h21 => ?_)
                      · have p21 := of_decide_eq_true h21; replace hk := condT_open hk h21; refine TL.run 10 rfl ?_; refine TL.nil ?_; exact K.atX true hk (.c (.c (.c (.c (.c (.c (.c .nil))))))) (List.Sublist.refl _)
                      · have p21 := of_decide_eq_false h21; replace hk := condF_open hk h21; refine TL.run 1 rfl ?_; refine TL.y (Yv.fieldAddr rfl rfl) ?_; refine TL.y (Yv.loadO 0 rfl rfl rfl rfl) ?_; refine TL.run 1 rfl ?_; have hq : (0 ≤ (i_12 : Int) ∧ (i_12 : Int) < (m.d.length : Int)) ∧ _ := grd_some hk; clear hk; obtain ⟨g90, hk⟩ := hq; refine TL.y (Yv.idxR (i := i_12) rfl rfl rfl (SlD.mono (rep := GDomain.rep) (fun _ _ _ _ => GDomain.mono) hm_0 le1_9).1 (SlD.mono (rep := GDomain.rep) (fun _ _ _ _ => GDomain.mono) hm_0 le1_9).2.1 rfl (by omega)) ?_; refine TL.y (Yv.fldR rfl rfl (SlD.mono (rep := GDomain.rep) (fun _ _ _ _ => GDomain.mono) hm_0 le1_9).1 (SlD.mono (rep := GDomain.rep) (fun _ _ _ _ => GDomain.mono) hm_0 le1_9).2.1 (by omega)) ?_; refine TL.y (Yv.loadR 3 (i := i_12) (j := 1) rfl rfl rfl (SlD.mono (rep := GDomain.rep) (fun _ _ _ _ => GDomain.mono) hm_0 le1_9).1 (SlD.mono (rep := GDomain.rep) (fun _ _ _ _ => GDomain.mono) hm_0 le1_9).2.1 (by omega) rfl (GDomain.c1 ((SlD.mono (rep := GDomain.rep) (fun _ _ _ _ => GDomain.mono) hm_0 le1_9).2.2 i_12 (by omega))).1) ?_; have hd92_1 := (GDomain.c1 ((SlD.mono (rep := GDomain.rep) (fun _ _ _ _ => GDomain.mono) hm_0 le1_9).2.2 i_12 (by omega))).2; haveI := hd92_1.oneC; refine TL.e (Ew.callD rfl rfl rfl (fun w hw => ref17_SameInts_c _ w (hw.fr (i := 3) rfl) ((stDom p1_ m1_ ((nth p.Domains i_12).Station)).1) v64_ hf64 ((nth m.d i_12).Channels) (nth (nth cm_0 i_12) 1) hd92_1)) ?_; rintro _ _ ⟨rfl, rfl⟩; refine TL.run 2 rfl ?_; refine TL.nil ?_; exact K.atX (!(ref17_SameInts_x ((stDom p1_ m1_ ((nth p.Domains i_12).Station)).1) ((nth m.d i_12).Channels))) hk (.c (.c (.c (.c (.c (.c (.c .nil))))))) (List.Sublist.refl _)
                    · rintro x_19 hk; rw [← hk20] at hk; (try dsimp only at hk); refine T.cond rfl (fun h22 => ?_) (fun h22 => ?_)
                      · have p22 := h22; (try simp only [nfB] at p22); replace hk := condT_open hk h22; refine T.seq (T.region ?_); refine TL.run 1 rfl ?_; refine TL.nil (K.seq (T.ret (K.then_ret (K.blk_ret (K.then_ret (K.then_ret (K.blk_ret (K.then_ret ?_)))))))); obtain rfl := Option.some.inj hk; exact K.ret1 rfl rfl (fun w' hw => ⟨⟨⟩, F9.toFrz, trivial, rfl, FxM.of (hw.pick (idx := [2, 3]) rfl (by decide)) hS0 le1_9⟩)
                      · have p22 := h22; (try simp only [nfB] at p22); replace hk := condF_open hk h22; refine T.skip (K.seq (T.seq (T.region ?_))); refine TL.run 1 rfl ?_; refine TL.nil (K.seq ?_); have hq := iterK_open hk; clear hk; obtain ⟨f23, kk23, hf23, hkk23, hk⟩ := hq; refine T.block ?_; refine T.loop (ι := Nat) (fun z => [(1, .pointer (some ⟨k1_.sp, 0, none⟩)), (3, .pointer (some ⟨g3, 0, none⟩)), (5, .pointer (some ⟨g5, 0, none⟩)), (8, .int .i64 (i_12 : Int)), (9, .int .i64 ((nth p.Domains i_12).Station)), (10, v64_), (12, .int .i64 (z : Int))]) (fun z => [.row g5 39 [vm_0, .bool m.fine], .row g3 29 [vp_0, vp_1, vp_2, vp_3], st2 k1_ v1_ L1_ (!m1_.2), .fr F9]) (fun z => iterK f23 kk23 (21 - z) z () = some r) (fun z => 21 - z) 12 ?_ ?_ ?_ ?_
                        · exact hk
                        · exact (.c (.c (.c (.c (.c (.c (.c .nil)))))))
                        · exact List.Sublist.refl _
                        · rintro c_24 hk; refine T.seq (T.seq (T.region ?_)); refine TL.run 2 rfl ?_; refine TL.nil (K.seq ?_); refine T.cond rfl (fun h25 => ?_) (fun h25 => ?_)
                          · have p25 := of_decide_eq_true h25; rw [iterK_lt (by omega)] at hk; generalize hn23 : iterK f23 kk23 (21 - (c_24 + 1)) (c_24 + 1) = next23 at hk; rw [← hf23] at hk; (try dsimp only at hk); refine T.skip (K.seq (T.seq (T.block (T.seq (T.region ?_))))); refine TL.run 3 rfl ?_; refine TL.y (Yv.build rfl rfl) ?_; refine TL.e (Ew.callD rfl rfl rfl (fun w hw => s2_has hs1_ (tf1_.mono le1_9) (hw.get (i := 2) rfl) (hw.fr (i := 3) rfl) (htk hw) (GChoice.mk ((nth p.Domains i_12).Station) (c_24 : Int)))) ?_; rintro _ _ ⟨rfl, rfl⟩; refine TL.run 2 rfl ?_; refine TL.e (Ew.callD rfl rfl rfl (fun w hw => ref17_Has_c _ w (hw.fr (i := 3) rfl) ((stDom p1_ m1_ ((nth p.Domains i_12).Station)).1) v64_ hf64 (c_24 : Int))) ?_; rintro _ _ ⟨rfl, rfl⟩; refine TL.y (Yv.neB (by kernel_rfl) rfl rfl rfl) ?_; refine TL.nil (K.seq ?_); refine T.cond rfl (fun h26 => ?_) (fun h26 => ?_)
                            · have p26 := h26; (try simp only [nfB] at p26); replace hk := condT_open hk h26; refine T.seq (T.region ?_); refine TL.run 1 rfl ?_; refine TL.nil (K.seq (T.ret (K.blk_ret (K.then_ret (K.then_ret (K.blk_ret (K.blk_ret (K.then_ret (K.then_ret (K.blk_ret (K.then_ret ?_))))))))))); obtain rfl := Option.some.inj hk; exact K.ret1 rfl rfl (fun w' hw => ⟨⟨⟩, F9.toFrz, trivial, rfl, FxM.of (hw.pick (idx := [2, 3]) rfl (by decide)) hS0 le1_9⟩)
                            · have p26 := h26; (try simp only [nfB] at p26); replace hk := condF_open hk h26; refine T.skip (K.blk_normal (K.seq (T.region ?_))); refine TL.run 1 rfl ?_; refine TL.y (Yv.addI rfl rfl rfl (by omega)) ?_; refine TL.run 1 rfl ?_; refine TL.nil ?_; rw [← hn23] at hk; exact K.next (c_24 + 1) hk (by omega) (.c (.c (.c (.c (.c (.c (.c .nil))))))) (List.Sublist.refl _)
                          · have p25 := of_decide_eq_false h25; rw [iterK_ge (by omega), ← hkk23] at hk; (try dsimp only at hk); refine T.exit (K.then_exit (K.then_exit (K.blk_exit_eq (K.blk_normal ?_)))); exact K.atX F9 ⟨hk, le7_9⟩ (.c (.c (.c (.c .nil)))) (List.Sublist.refl _)
                · rintro F8 ⟨hk, le7_8⟩; rw [← hk14] at hk; (try dsimp only at hk); have le1_8 := le1_7.trans le7_8; have le2_8 := le2_7.trans le7_8; refine T.region ?_; refine TL.run 1 rfl ?_; refine TL.y (Yv.addI rfl rfl rfl (by omega)) ?_; refine TL.run 1 rfl ?_; refine TL.nil ?_; rw [← hn11] at hk; exact K.next ((i_12 + 1), F8) ⟨hk, le2_8⟩ (by dsimp only; omega) (.c (.c (.c (.c .nil)))) (List.Sublist.refl _)
              · have p13 := of_decide_eq_false h13; rw [iterK_ge (by omega), ← hkk11] at hk; (try dsimp only at hk); refine T.exit (K.then_exit (K.then_exit (K.blk_exit_eq ?_))); refine K.pick [2, 3] rfl (by decide) ?_; exact K.atX F7 ⟨hk, le2_7⟩ .nil (List.Sublist.refl _)
          · rintro F6 ⟨hk, le2_6⟩; rw [← hk10] at hk; (try dsimp only at hk); have le1_6 := le1_2.trans le2_6; refine T.seq (T.region ?_); refine TL.run 1 rfl ?_; refine TL.nil (K.seq (T.ret ?_)); obtain rfl := Option.some.inj hk; exact K.ret1 rfl rfl (fun w' hw => ⟨⟨⟩, F6.toFrz, trivial, rfl, FxM.of (hw.pick (idx := [0, 1]) rfl (by decide)) hS0 le1_6⟩)
def law18_PropagatePlays_x (fuel : Nat) (p : GProblem) (l : List GAct) : Option Bool :=
  (ref17_Small_x fuel p 10 40).bind fun r16 =>
  (bif ((!r16) || (decide (10 < (l.length : Int)))) then
    some true
    else
    (bif okG p then
      (ref18_Propagate_x fuel p p.Domains).bind fun r26 =>
      (ref17_Valid_x p).bind fun r30 =>
      (bif !r30 then
        some false
        else
        (ref18_Propagate_x fuel p p.Domains).bind fun r51 =>
        (law18_looks_x p p r26 (Gmodel.mk r51.1 r51.2)).bind fun r59 =>
        (bif !r59 then
          some false
          else
          joinK (fun (s9 : List GDomain × Bool × (List GDomain × Bool)) =>
            joinK (fun (none_30 : Int) =>
              some (((decide ((stDom p s9.2.2 (-1)).2 = none_30)) && ((decide ((stDom p s9.2.2 511).2 = none_30)) || (decide (0 ≤ (ref17_Find_x p 511))))) || false))
            (fun k31 =>
              (bif !s9.2.1 then
                k31 8
                else
                k31 9)))
          (fun k9 =>
            iterK (fun (i_14 : Nat) (next13 : (List GDomain × Bool × (List GDomain × Bool)) → Option Bool) (s13 : List GDomain × Bool × (List GDomain × Bool)) =>
              (law18_played_x fuel p (Gmodel.mk s13.1 s13.2.1) (nth l i_14)).bind fun r74 =>
              (bif decide ((nth l i_14).Kind = 0) then
                (stAct fuel p s13.2.2 true ((nth l i_14).Choice)).bind fun r103 =>
                joinK (fun (x_18 : Bool) =>
                  (bif x_18 then
                    some false
                    else
                    next13 (r74.1.d, r74.1.fine, r103.1)))
                (fun k19 =>
                  (bif decide (¬ r103.2 = r74.2) then
                    k19 true
                    else
                    (law18_looks_x p p r103.1 (Gmodel.mk r74.1.d r74.1.fine)).bind fun r120 =>
                    k19 (!r120)))
                else
                (bif decide ((nth l i_14).Kind = 1) then
                  (stAct fuel p s13.2.2 false ((nth l i_14).Choice)).bind fun r112 =>
                  joinK (fun (x_23 : Bool) =>
                    (bif x_23 then
                      some false
                      else
                      next13 (r74.1.d, r74.1.fine, r112.1)))
                  (fun k24 =>
                    (bif decide (¬ r112.2 = r74.2) then
                      k24 true
                      else
                      (law18_looks_x p p r112.1 (Gmodel.mk r74.1.d r74.1.fine)).bind fun r120 =>
                      k24 (!r120)))
                  else
                  (stAct fuel p s13.2.2 true ((nth l i_14).Choice)).bind fun r92 =>
                  joinK (fun (x_27 : Bool) =>
                    (bif x_27 then
                      some false
                      else
                      next13 (s13.1, s13.2.1, s13.2.2)))
                  (fun k28 =>
                    (law18_looks_x p p s13.2.2 (Gmodel.mk s13.1 s13.2.1)).bind fun r120 =>
                    k28 (!r120)))))
            (fun (s13 : List GDomain × Bool × (List GDomain × Bool)) =>
              k9 (s13.1, s13.2.1, s13.2.2)) (l.length - 0) 0 (r51.1, r51.2, r26))))
      else
      (ref17_Valid_x p).bind fun r30 =>
      (bif !r30 then
        some true
        else
        some false)))
theorem law18_PropagatePlays_c (F0 : Frz) (w : World) (hF0 : F0.At w) (p : GProblem) (vp_0 : Value) (cp_0 : List (List Value)) (hp_0 : SlD GDomain.rep F0 vp_0 2 cp_0 p.Domains) (vp_1 : Value) (hp_1 : SlC F0 vp_1 5 (p.Rules.Pairs.map GPair.enc)) (vp_2 : Value) (hp_2 : SlC F0 vp_2 5 (p.Rules.Loads.map GLoad.enc)) (vp_3 : Value) (hp_3 : SlC F0 vp_3 4 (p.Rules.Caps.map GCap.enc)) (l : List GAct) (vl : Value) (hl : SlC F0 vl 3 (l.map GAct.enc)) (htab : Tab w) (fuel : Nat) (hfu : 100000 ≤ fuel) (r : Bool) (hr : law18_PropagatePlays_x fuel p l = some r) : Calls Tryz.prog 3 #[.agg [vp_0, vp_1, vp_2, vp_3].toArray, vl] w fun e w' => e = .returned (.bool r) ∧ Below w.heap.size w w' := by
  have hk := hr; unfold law18_PropagatePlays_x at hk; haveI := hp_0.1.oneC; haveI := hp_1.oneC; haveI := hp_2.oneC; haveI := hp_3.oneC; haveI := hl.oneC; obtain ⟨S0, F1, rfl, hS0, hp0⟩ := startF_ex hF0; have hM0 : ¬ (fun _ : Nat => False) 0 := fun h => h; have htk : ∀ {hs : HS} {w' : World}, Hp w (fun _ => False) hs w' → Tab w' := fun hw => htab.keptF hw; refine calls_T (M := fun _ => False) (hs := [.fr F1]) Tryz.func3 rfl rfl rfl hp0 ?_; refine T.seq (T.region ?_); refine TL.e (Ew.boxA rfl rfl) ?_; rintro _ _ ⟨g2, rfl, rfl⟩; refine TL.run 1 rfl ?_; refine TL.nil (K.seq (T.seq (T.seq ?_))); have hq := bind_open hk; clear hk; obtain ⟨r16, hr16, hk⟩ := hq; (try dsimp only at hk); refine T.cutXK (ι := Unit) (fun z => [(1, vl), (2, .pointer (some ⟨g2, 0, none⟩)), (22, .bool ((!r16) || (decide (10 < (l.length : Int)))))]) (fun z => [.row g2 29 [vp_0, vp_1, vp_2, vp_3], .fr F1]) (fun z => True) ?_ ?_
  · refine T.region ?_; refine TL.y (Yv.loadAO 0 rfl rfl rfl rfl) ?_; refine TL.e (Ew.callD rfl rfl rfl (fun w hw => ref17_Small_c _ w (hw.fr (i := 1) rfl) p vp_0 cp_0 hp_0 vp_1 hp_1 vp_2 hp_2 vp_3 hp_3 10 40 fuel r16 hr16)) ?_; rintro _ _ ⟨rfl, rfl⟩; refine TL.run 2 rfl ?_; refine TL.gs rfl rfl rfl (fun h1 => ?_) (fun h1 => ?_)
    · have p1 := h1; (try simp only [nfB] at p1); refine TL.run 4 rfl ?_; refine TL.nil ?_; exact K.atX () trivial (.c (.c (.b (or_tt h1).symm .nil))) (List.Sublist.refl _)
    · have p1 := h1; (try simp only [nfB] at p1); refine TL.run 1 rfl ?_; refine TL.y (Yv.lenR rfl rfl hl (List.length_map _)) ?_; have hm20 : l.length ≤ 9223372036854775807 := (List.length_map _) ▸ hl.max; refine TL.run 2 rfl ?_; refine TL.nil ?_; exact K.atX () trivial (.c (.c (.b (or_f h1) .nil))) (List.Sublist.refl _)
  · rintro _ _; refine T.cond rfl (fun h2 => ?_) (fun h2 => ?_)
    · have p2 := h2; (try simp only [nfB] at p2); replace hk := condT_open hk h2; refine T.seq (T.region ?_); refine TL.e (Ew.callD rfl rfl rfl (fun w hw => known_ret w (htab.keptF hw))) ?_; rintro _ _ ⟨rfl, rfl⟩; refine TL.run 1 rfl ?_; refine TL.nil (K.seq (T.ret (K.then_ret ?_))); obtain rfl := Option.some.inj hk; exact K.ret1 rfl rfl (fun w' hw => ⟨rfl, hw.isBelow⟩)
    · have p2 := h2; (try simp only [nfB] at p2); replace hk := condF_open hk h2; refine T.skip (K.seq (T.seq ?_)); refine T.splitB (okG p) (fun h3 => ?_) (fun h3 => ?_)
      · replace hk := condT_open hk h3; have hq := bind_open hk; clear hk; obtain ⟨r26, hr26, hk⟩ := hq; (try dsimp only at hk); refine T.region ?_; refine TL.y (Yv.loadAO 0 rfl rfl rfl rfl) ?_; refine TL.e (Ew.callO [1, 0] [] [.row g2 29 [vp_0, vp_1, vp_2, vp_3]] rfl rfl rfl rfl (by decide) (fun w hw hw2 hF => s2_new (p := p) hF ⟨hp_0, hp_1, hp_2, hp_3⟩ (htk hw) h3 hfu hr26)) ?_; rintro _ _ ⟨⟨k26_, v26_, L26_⟩, F2, le1_2, ⟨hs26, tf26⟩, rfl, rfl⟩; dsimp only [List.cons_append, List.nil_append]; (try dsimp only at hs26 tf26); refine TL.run 5 rfl ?_; refine TL.nil (K.seq (T.seq (T.seq ?_))); have hq := bind_open hk; clear hk; obtain ⟨r30, hr30, hk⟩ := hq; (try dsimp only at hk); refine T.region ?_; refine TL.y (Yv.loadAO 2 rfl rfl rfl rfl) ?_; refine TL.e (Ew.callD rfl rfl rfl (fun w hw => ref17_Valid_c _ w (hw.fr (i := 1) rfl) p vp_0 cp_0 (SlD.mono (rep := GDomain.rep) (fun _ _ _ _ => GDomain.mono) hp_0 le1_2) vp_1 (SlC.mono hp_1 le1_2) vp_2 (SlC.mono hp_2 le1_2) vp_3 (SlC.mono hp_3 le1_2) r30 hr30)) ?_; rintro _ _ ⟨rfl, rfl⟩; refine TL.run 1 rfl ?_; refine TL.nil (K.seq ?_); refine T.cond rfl (fun h4 => ?_) (fun h4 => ?_)
        · have p4 := h4; (try simp only [nfB] at p4); replace hk := condT_open hk h4; refine T.seq ?_; refine T.cutXK (ι := Unit) (fun z => [(4, .bool false)]) (fun z => [st2 k26_ v26_ L26_ (!r26.2), .row g2 29 [vp_0, vp_1, vp_2, vp_3], .fr F2]) (fun z => True) ?_ ?_
          · refine T.region ?_; refine TL.run 1 rfl ?_; refine TL.y (Yv.eqNil (e := 72) (by kernel_rfl) rfl rfl rfl) ?_; refine TL.run 8 rfl ?_; refine TL.nil ?_; refine K.pick [0, 2, 1] rfl (by decide) ?_; exact K.atX () trivial (.c .nil) (List.Sublist.refl _)
          · rintro _ _; refine T.ret (K.then_ret ?_); obtain rfl := Option.some.inj hk; exact K.ret1 rfl rfl (fun w' hw => ⟨rfl, hw.isBelow⟩)
        · have p4 := h4; (try simp only [nfB] at p4); replace hk := condF_open hk h4; refine T.skip (K.seq (T.seq (T.seq ?_))); refine T.cutXK (ι := Unit) (fun z => [(1, vl), (2, .pointer (some ⟨g2, 0, none⟩)), (5, .pointer (some ⟨k26_.sp, 0, none⟩)), (46, .bool false)]) (fun z => [st2 k26_ v26_ L26_ (!r26.2), .row g2 29 [vp_0, vp_1, vp_2, vp_3], .fr F2]) (fun z => True) ?_ ?_
          · refine T.region ?_; refine TL.run 1 rfl ?_; refine TL.y (Yv.eqNil (e := 72) (by kernel_rfl) rfl rfl rfl) ?_; refine TL.run 4 rfl ?_; refine TL.nil ?_; refine K.pick [0, 2, 1] rfl (by decide) ?_; exact K.atX () trivial (.c (.c (.c (.c .nil)))) (List.Sublist.refl _)
          · rintro _ _; refine T.condF rfl rfl ?_; refine T.skip (K.seq (T.seq (T.region ?_))); refine TL.e (Ew.alloc rfl) ?_; rintro _ _ ⟨g7, rfl, rfl⟩; refine TL.nil (K.seq (T.seq ?_)); have hq := bind_open hk; clear hk; obtain ⟨r51, hr51, hk⟩ := hq; (try dsimp only at hk); refine T.region ?_; refine TL.y (Yv.loadAO 2 rfl rfl rfl rfl) ?_; refine TL.y (Yv.fieldAddr rfl rfl) ?_; refine TL.y (Yv.loadO 2 rfl rfl rfl rfl) ?_; refine TL.e (Ew.callR 3 rfl rfl rfl rfl (fun w hw hF => ref18_Propagate_c _ w hF p vp_0 cp_0 (SlD.mono (rep := GDomain.rep) (fun _ _ _ _ => GDomain.mono) hp_0 le1_2) vp_1 (SlC.mono hp_1 le1_2) vp_2 (SlC.mono hp_2 le1_2) vp_3 (SlC.mono hp_3 le1_2) p.Domains vp_0 cp_0 (SlD.mono (rep := GDomain.rep) (fun _ _ _ _ => GDomain.mono) hp_0 le1_2) fuel r51 hr51)) ?_; rintro _ _ ⟨⟨v51_0_0, cs51_0_0⟩, F3, le2_3, hf51_0_0, rfl, rfl⟩; dsimp only at hf51_0_0 ⊢; have le1_3 := le1_2.trans le2_3; haveI := hf51_0_0.1.oneC; refine TL.run 3 rfl ?_; refine TL.y (Yv.fieldAddr rfl rfl) ?_; refine TL.e0 (Ew.store1 0 rfl rfl rfl rfl (by simp)) ?_; rintro _ _ ⟨rfl, rfl⟩; refine TL.y (Yv.fieldAddr rfl rfl) ?_; refine TL.e0 (Ew.store1 0 rfl rfl rfl rfl (by simp)) ?_; rintro _ _ ⟨rfl, rfl⟩; refine TL.nil (K.seq (T.seq (T.seq ?_))); have hq := bind_open hk; clear hk; obtain ⟨r59, hr59, hk⟩ := hq; (try dsimp only at hk); refine T.region ?_; refine TL.y (Yv.loadAO 2 rfl rfl rfl rfl) ?_; refine TL.run 1 rfl ?_; refine TL.y (Yv.loadAO 0 rfl rfl rfl rfl) ?_; refine TL.e (Ew.callO [1, 3, 0, 2] [st2 k26_ v26_ L26_ (!r26.2)] [.row g7 39 [v51_0_0, .bool r51.2], .row g2 29 [vp_0, vp_1, vp_2, vp_3]] rfl rfl rfl rfl (by decide) (fun w hw hw2 hF => law18_looks_c _ w hF p vp_0 cp_0 (SlD.mono (rep := GDomain.rep) (fun _ _ _ _ => GDomain.mono) hp_0 le1_3) vp_1 (SlC.mono hp_1 le1_3) vp_2 (SlC.mono hp_2 le1_3) vp_3 (SlC.mono hp_3 le1_3) p r26 k26_ v26_ L26_ hs26 (tf26.mono le2_3) (Gmodel.mk r51.1 r51.2) v51_0_0 cs51_0_0 hf51_0_0 (htk hw) hw2.takes.1 hw2.takes.2 (hw2.takes0 hM0 htab.pos) r59 hr59)) ?_; rintro _ _ ⟨⟨⟩, F4, le3_4, -, rfl, rfl⟩; dsimp only [List.cons_append, List.nil_append]; have le1_4 := le1_3.trans le3_4; have le2_4 := le2_3.trans le3_4; refine TL.run 1 rfl ?_; refine TL.nil (K.seq ?_); refine T.cond rfl (fun h5 => ?_) (fun h5 => ?_)
            · have p5 := h5; (try simp only [nfB] at p5); replace hk := condT_open hk h5; refine T.seq (T.region ?_); refine TL.run 1 rfl ?_; refine TL.nil (K.seq (T.ret (K.then_ret ?_))); obtain rfl := Option.some.inj hk; exact K.ret1 rfl rfl (fun w' hw => ⟨rfl, hw.isBelow⟩)
            · have p5 := h5; (try simp only [nfB] at p5); replace hk := condF_open hk h5; refine T.skip (K.seq (T.seq (T.seq (T.region ?_)))); refine TL.run 1 rfl ?_; refine TL.nil (K.seq ?_); have hq := joinK_open hk; clear hk; obtain ⟨k9, hk9, hk⟩ := hq; (try dsimp only at hk); refine T.cutXK (ι := List GDomain × Value × List (List Value) × Bool × (List GDomain × Bool) × SK × Value × Ws × FzB w (fun _ => False) S0) (fun z => [(2, .pointer (some ⟨g2, 0, none⟩)), (5, .pointer (some ⟨z.2.2.2.2.2.1.sp, 0, none⟩)), (7, .pointer (some ⟨g7, 0, none⟩))]) (fun z => [st2 z.2.2.2.2.2.1 z.2.2.2.2.2.2.1 z.2.2.2.2.2.2.2.1 (!z.2.2.2.2.1.2), .row g7 39 [z.2.1, .bool z.2.2.2.1], .row g2 29 [vp_0, vp_1, vp_2, vp_3], .fr z.2.2.2.2.2.2.2.2]) (fun z => k9 (z.1, z.2.2.2.1, z.2.2.2.2.1) = some r ∧ SlD GDomain.rep z.2.2.2.2.2.2.2.2.toFrz z.2.1 2 z.2.2.1 z.1 ∧ SI p z.2.2.2.2.1 z.2.2.2.2.2.1 z.2.2.2.2.2.2.2.1 ∧ TbF z.2.2.2.2.2.2.2.2.toFrz z.2.2.2.2.2.1 ∧ F4.toFrz.Le z.2.2.2.2.2.2.2.2.toFrz) ?_ ?_
              · have hq := iterK_open hk; clear hk; obtain ⟨f13, kk13, hf13, hkk13, hk⟩ := hq; refine T.block ?_; refine T.pick [0, 2, 3, 1] rfl (by decide) ?_; refine T.loop (ι := Nat × List GDomain × Value × List (List Value) × Bool × (List GDomain × Bool) × SK × Value × Ws × FzB w (fun _ => False) S0) (fun z => [(1, vl), (2, .pointer (some ⟨g2, 0, none⟩)), (5, .pointer (some ⟨z.2.2.2.2.2.2.1.sp, 0, none⟩)), (7, .pointer (some ⟨g7, 0, none⟩)), (8, .int .i64 (z.1 : Int))]) (fun z => [st2 z.2.2.2.2.2.2.1 z.2.2.2.2.2.2.2.1 z.2.2.2.2.2.2.2.2.1 (!z.2.2.2.2.2.1.2), .row g7 39 [z.2.2.1, .bool z.2.2.2.2.1], .row g2 29 [vp_0, vp_1, vp_2, vp_3], .fr z.2.2.2.2.2.2.2.2.2]) (fun z => iterK f13 kk13 (l.length - z.1) z.1 (z.2.1, z.2.2.2.2.1, z.2.2.2.2.2.1) = some r ∧ SlD GDomain.rep z.2.2.2.2.2.2.2.2.2.toFrz z.2.2.1 2 z.2.2.2.1 z.2.1 ∧ SI p z.2.2.2.2.2.1 z.2.2.2.2.2.2.1 z.2.2.2.2.2.2.2.2.1 ∧ TbF z.2.2.2.2.2.2.2.2.2.toFrz z.2.2.2.2.2.2.1 ∧ F4.toFrz.Le z.2.2.2.2.2.2.2.2.2.toFrz) (fun z => l.length - z.1) (0, r51.1, v51_0_0, cs51_0_0, r51.2, r26, k26_, v26_, L26_, F4) ?_ ?_ ?_ ?_
                · exact ⟨hk, (SlD.mono (rep := GDomain.rep) (fun _ _ _ _ => GDomain.mono) hf51_0_0 le3_4), hs26, (tf26.mono le2_4), (Frz.Le.refl _)⟩
                · exact (.c (.c (.c (.c (.c .nil)))))
                · exact List.Sublist.refl _
                · rintro ⟨i_14, c_10, vc_10, cc_10, c_11, ms_12, ks_12, vs_12, Ls_12, F6⟩ ⟨hk, hc_10, hss_12, tfs_12, le4_6⟩; (try dsimp only at *); have le1_6 := le1_4.trans le4_6; have le2_6 := le2_4.trans le4_6; have le3_6 := le3_4.trans le4_6; haveI := hc_10.1.oneC; refine T.seq (T.seq (T.region ?_)); refine TL.run 2 rfl ?_; refine TL.y (Yv.lenR rfl rfl (SlC.mono hl le1_6) (List.length_map _)) ?_; have hm63 : l.length ≤ 9223372036854775807 := (List.length_map _) ▸ (SlC.mono hl le1_6).max; refine TL.run 1 rfl ?_; refine TL.nil (K.seq ?_); refine T.cond rfl (fun h15 => ?_) (fun h15 => ?_)
                  · have p15 := of_decide_eq_true h15; rw [iterK_lt (by omega)] at hk; generalize hn13 : iterK f13 kk13 (l.length - (i_14 + 1)) (i_14 + 1) = next13 at hk; rw [← hf13] at hk; (try dsimp only at hk); refine T.skip (K.seq (T.seq (T.block (T.seq ?_)))); have hq := bind_open hk; clear hk; obtain ⟨r74, hr74, hk⟩ := hq; (try dsimp only at hk); refine T.cutXK (ι := Nat × Value × List (List Value) × FzB w (fun _ => False) S0) (fun z => [(1, vl), (2, .pointer (some ⟨g2, 0, none⟩)), (5, .pointer (some ⟨ks_12.sp, 0, none⟩)), (7, .pointer (some ⟨g7, 0, none⟩)), (8, .int .i64 (i_14 : Int)), (9, .pointer (some ⟨z.1, 0, none⟩)), (10, .int .i64 r74.2)]) (fun z => [.row z.1 39 [z.2.1, .bool r74.1.fine], st2 ks_12 vs_12 Ls_12 (!ms_12.2), .row g7 39 [vc_10, .bool c_11], .row g2 29 [vp_0, vp_1, vp_2, vp_3], .fr z.2.2.2]) (fun z => SlD GDomain.rep z.2.2.2.toFrz z.2.1 2 z.2.2.1 r74.1.d ∧ F6.toFrz.Le z.2.2.2.toFrz) ?_ ?_
                    · refine T.draw (.still 0 (.still 1 (.still 2 (.still 3 (.still 4 (.still 5 (.two 6 10 (.still 7 (.still 8 (.still 9 (.eff 10 (.eff 11 (.still 12 .done)))))) (.eff 6 (.still 7 (.still 8 (.still 9 (.eff 11 (.still 12 .done))))))))))))) _ (by kernel_rfl) (List.Sublist.refl _) ?_; refine TS.y rfl (Yv.loadAO 2 rfl rfl rfl rfl) ?_; refine TS.y rfl (Yv.loadAO 1 rfl rfl rfl rfl) ?_; refine TS.run 2 rfl ?_; refine TS.y rfl (Yv.idxR (i := i_14) rfl rfl rfl (SlC.mono hl le1_6) (List.length_map _) rfl (by omega)) ?_; refine TS.y rfl (Yv.loadRFA 3 (i := i_14) rfl rfl rfl (SlC.mono hl le1_6) (by omega) rfl rfl rfl) ?_; refine TS.two ?_ ?_
                      · refine TSo.ewG rfl (Wt.none rfl) rfl rfl (Ew.callR 3 rfl rfl rfl rfl (fun w hw hF => law18_played_c _ w hF p vp_0 cp_0 (SlD.mono (rep := GDomain.rep) (fun _ _ _ _ => GDomain.mono) hp_0 le1_6) vp_1 (SlC.mono hp_1 le1_6) vp_2 (SlC.mono hp_2 le1_6) vp_3 (SlC.mono hp_3 le1_6) (Gmodel.mk c_10 c_11) vc_10 cc_10 hc_10 (nth l i_14) fuel r74 hr74)) ?_; rintro _ _ ⟨⟨v74_0_0, cs74_0_0⟩, F8, le6_8, hf74_0_0, rfl, rfl⟩; dsimp only at hf74_0_0 ⊢; have le1_8 := le1_6.trans le6_8; have le2_8 := le2_6.trans le6_8; have le3_8 := le3_6.trans le6_8; have le4_8 := le4_6.trans le6_8; haveI := hf74_0_0.1.oneC; refine ⟨(fun w hw => (hw.frLe (i := 3) rfl le6_8).sub (by repeat first | exact S0 | exact S1 | refine S2 ?_ | refine S3 ?_)), ?_⟩; refine TS.run 3 rfl ?_; refine TS.eff ?_; refine TSo.ewG rfl (Wt.none rfl) rfl rfl (Ew.alloc rfl) ?_; rintro _ _ ⟨g9, rfl, rfl⟩; refine ⟨(fun w hw => (hw.frLe (i := 4) rfl le6_8).sub (by repeat first | exact S0 | exact S1 | refine S2 ?_ | refine S3 ?_)), ?_⟩; refine TS.eff ?_; refine TSo.ewG0 rfl (Wt.none rfl) rfl (Ew.storeAll 0 rfl rfl rfl rfl rfl rfl) ?_; rintro _ _ ⟨rfl, rfl⟩; refine ⟨(fun w hw => (hw.frLe (i := 4) rfl le6_8).sub (by repeat first | exact S0 | exact S1 | refine S2 ?_ | refine S3 ?_)), ?_⟩; refine TS.run 1 rfl ?_; refine TS.done ?_; exact K.atX (g9, v74_0_0, cs74_0_0, F8) ⟨hf74_0_0, le6_8⟩ (.c (.c (.c (.c (.c (.c (.c .nil))))))) (List.Sublist.refl _)
                      · refine TSo.ewG rfl (Wt.none rfl) rfl rfl (Ew.alloc rfl) ?_; rintro _ _ ⟨g9, rfl, rfl⟩; refine ⟨(fun w hw => hw.sub (by repeat first | exact S0 | exact S1 | refine S2 ?_ | refine S3 ?_)), ?_⟩; refine TS.eff ?_; refine TSo.ewG rfl (Wt.none rfl) rfl rfl (Ew.callR 4 rfl rfl rfl rfl (fun w hw hF => law18_played_c _ w hF p vp_0 cp_0 (SlD.mono (rep := GDomain.rep) (fun _ _ _ _ => GDomain.mono) hp_0 le1_6) vp_1 (SlC.mono hp_1 le1_6) vp_2 (SlC.mono hp_2 le1_6) vp_3 (SlC.mono hp_3 le1_6) (Gmodel.mk c_10 c_11) vc_10 cc_10 hc_10 (nth l i_14) fuel r74 hr74)) ?_; rintro _ _ ⟨⟨v74_0_0, cs74_0_0⟩, F9, le6_9, hf74_0_0, rfl, rfl⟩; dsimp only at hf74_0_0 ⊢; have le1_9 := le1_6.trans le6_9; have le2_9 := le2_6.trans le6_9; have le3_9 := le3_6.trans le6_9; have le4_9 := le4_6.trans le6_9; haveI := hf74_0_0.1.oneC; refine ⟨(fun w hw => (hw.frLe (i := 4) rfl le6_9).sub (by repeat first | exact S0 | exact S1 | refine S2 ?_ | refine S3 ?_)), ?_⟩; refine TS.run 3 rfl ?_; refine TS.eff ?_; refine TSo.ewG0 rfl (Wt.none rfl) rfl (Ew.storeAll 0 rfl rfl rfl rfl rfl rfl) ?_; rintro _ _ ⟨rfl, rfl⟩; refine ⟨(fun w hw => (hw.frLe (i := 4) rfl le6_9).sub (by repeat first | exact S0 | exact S1 | refine S2 ?_ | refine S3 ?_)), ?_⟩; refine TS.run 1 rfl ?_; refine TS.done ?_; exact K.atX (g9, v74_0_0, cs74_0_0, F9) ⟨hf74_0_0, le6_9⟩ (.c (.c (.c (.c (.c (.c (.c .nil))))))) (List.Sublist.refl _)
                    · rintro ⟨g9, vc6_0_16, cc6_0_16, F7⟩ ⟨hc6_0_16, le6_7⟩; (try dsimp only at *); have le1_7 := le1_6.trans le6_7; have le2_7 := le2_6.trans le6_7; have le3_7 := le3_6.trans le6_7; have le4_7 := le4_6.trans le6_7; haveI := hc6_0_16.1.oneC; refine T.seq (T.seq (T.region ?_)); refine TL.run 2 rfl ?_; refine TL.y (Yv.idxR (i := i_14) rfl rfl rfl (SlC.mono hl le1_7) (List.length_map _) rfl (by omega)) ?_; refine TL.y (Yv.fldR rfl rfl (SlC.mono hl le1_7) (List.length_map _) (by omega)) ?_; refine TL.y (Yv.loadRF 4 (i := i_14) (j := 0) rfl rfl rfl (SlC.mono hl le1_7) (by omega) rfl rfl) ?_; refine TL.nil (K.seq (T.block (T.seq (T.region ?_)))); refine TL.run 2 rfl ?_; refine TL.nil (K.seq ?_); refine T.cond rfl (fun h17 => ?_) (fun h17 => ?_)
                      · have p17 := of_decide_eq_true h17; replace hk := condT_open hk h17; have hq := bind_open hk; clear hk; obtain ⟨r103, hr103, hk⟩ := hq; (try dsimp only at hk); refine T.region ?_; refine TL.run 3 rfl ?_; refine TL.y (Yv.idxR (i := i_14) rfl rfl rfl (SlC.mono hl le1_7) (List.length_map _) rfl (by omega)) ?_; refine TL.y (Yv.fldR rfl rfl (SlC.mono hl le1_7) (List.length_map _) (by omega)) ?_; refine TL.y (Yv.loadRFP 4 (i := i_14) (j := 1) rfl rfl rfl (SlC.mono hl le1_7) (by omega) rfl rfl rfl) ?_; refine TL.e (Ew.callM 1 rfl rfl rfl rfl (fun w hw => s2_assume hss_12 (tfs_12.mono le6_7) (hw.get (i := 1) rfl) (hw.fr (i := 4) rfl) (hw.apartF (i := 1) (j := 4) rfl rfl (by decide)) (htk hw) hfu ((nth l i_14).Choice) hr103)) ?_; rintro _ _ ⟨L103_, hs103, rfl, rfl⟩; refine TL.run 1 rfl ?_; refine TL.nil (K.blk_normal (K.seq (T.seq (T.seq ?_)))); (try dsimp only at hk); have hq := joinK_open hk; clear hk; obtain ⟨k19, hk19, hk⟩ := hq; (try dsimp only at hk); refine T.cutXK (ι := Bool × FzB w (fun _ => False) S0) (fun z => [(1, vl), (2, .pointer (some ⟨g2, 0, none⟩)), (5, .pointer (some ⟨ks_12.sp, 0, none⟩)), (7, .pointer (some ⟨g7, 0, none⟩)), (8, .int .i64 (i_14 : Int)), (9, .pointer (some ⟨g9, 0, none⟩)), (122, .bool z.1)]) (fun z => [.row g9 39 [vc6_0_16, .bool r74.1.fine], st2 ks_12 vs_12 L103_ (!r103.1.2), .row g7 39 [vc_10, .bool c_11], .row g2 29 [vp_0, vp_1, vp_2, vp_3], .fr z.2]) (fun z => k19 z.1 = some r ∧ F7.toFrz.Le z.2.toFrz) ?_ ?_
                        · refine T.region ?_; refine TL.run 4 rfl ?_; refine TL.gs rfl rfl rfl (fun h20 => ?_) (fun h20 => ?_)
                          · have p20 := of_decide_eq_true h20; replace hk := condT_open hk h20; refine TL.run 6 rfl ?_; refine TL.nil ?_; exact K.atX (true, F7) ⟨hk, (Frz.Le.refl _)⟩ (.c (.c (.c (.c (.c (.c (.c .nil))))))) (List.Sublist.refl _)
                          · have p20 := of_decide_eq_false h20; replace hk := condF_open hk h20; refine TL.y (Yv.loadAO 3 rfl rfl rfl rfl) ?_; refine TL.run 1 rfl ?_; refine TL.y (Yv.loadAO 0 rfl rfl rfl rfl) ?_; have hq := bind_open hk; clear hk; obtain ⟨r120, hr120, hk⟩ := hq; refine TL.e (Ew.callO [1, 4, 0, 2, 3] [st2 ks_12 vs_12 L103_ (!r103.1.2)] [.row g9 39 [vc6_0_16, .bool r74.1.fine], .row g7 39 [vc_10, .bool c_11], .row g2 29 [vp_0, vp_1, vp_2, vp_3]] rfl rfl rfl rfl (by decide) (fun w hw hw2 hF => law18_looks_c _ w hF p vp_0 cp_0 (SlD.mono (rep := GDomain.rep) (fun _ _ _ _ => GDomain.mono) hp_0 le1_7) vp_1 (SlC.mono hp_1 le1_7) vp_2 (SlC.mono hp_2 le1_7) vp_3 (SlC.mono hp_3 le1_7) p r103.1 ks_12 vs_12 L103_ hs103 (tfs_12.mono le6_7) (Gmodel.mk r74.1.d r74.1.fine) vc6_0_16 cc6_0_16 hc6_0_16 (htk hw) hw2.takes.1 hw2.takes.2 (hw2.takes0 hM0 htab.pos) r120 hr120)) ?_; rintro _ _ ⟨⟨⟩, F11, le7_11, -, rfl, rfl⟩; dsimp only [List.cons_append, List.nil_append]; have le1_11 := le1_7.trans le7_11; have le2_11 := le2_7.trans le7_11; have le3_11 := le3_7.trans le7_11; have le4_11 := le4_7.trans le7_11; have le6_11 := le6_7.trans le7_11; refine TL.run 2 rfl ?_; refine TL.nil ?_; refine K.pick [2, 0, 3, 4, 1] rfl (by decide) ?_; exact K.atX (!r120, F11) ⟨hk, le7_11⟩ (.c (.c (.c (.c (.c (.c (.c .nil))))))) (List.Sublist.refl _)
                        · rintro ⟨x_18, F10⟩ ⟨hk, le7_10⟩; (try dsimp only at *); rw [← hk19] at hk; (try dsimp only at hk); have le1_10 := le1_7.trans le7_10; have le2_10 := le2_7.trans le7_10; have le3_10 := le3_7.trans le7_10; have le4_10 := le4_7.trans le7_10; have le6_10 := le6_7.trans le7_10; refine T.cond rfl (fun h21 => ?_) (fun h21 => ?_)
                          · have p21 := h21; (try simp only [nfB] at p21); replace hk := condT_open hk h21; refine T.seq (T.region ?_); refine TL.run 1 rfl ?_; refine TL.nil (K.seq (T.ret (K.then_ret (K.blk_ret (K.then_ret (K.then_ret (K.blk_ret (K.then_ret ?_)))))))); obtain rfl := Option.some.inj hk; exact K.ret1 rfl rfl (fun w' hw => ⟨rfl, hw.isBelow⟩)
                          · have p21 := h21; (try simp only [nfB] at p21); replace hk := condF_open hk h21; refine T.skip (K.seq (T.region ?_)); refine TL.y (Yv.loadAO 0 rfl rfl rfl rfl) ?_; refine TL.e0 (Ew.storeAll 2 rfl rfl rfl rfl rfl rfl) ?_; rintro _ _ ⟨rfl, rfl⟩; refine TL.nil (K.blk_normal (K.seq (T.region ?_))); refine TL.run 1 rfl ?_; refine TL.y (Yv.addI rfl rfl rfl (by omega)) ?_; refine TL.run 1 rfl ?_; refine TL.nil ?_; rw [← hn13] at hk; refine K.pick [1, 2, 3, 4] rfl (by decide) ?_; exact K.next ((i_14 + 1), r74.1.d, vc6_0_16, cc6_0_16, r74.1.fine, r103.1, ks_12, vs_12, L103_, F10) ⟨hk, (SlD.mono (rep := GDomain.rep) (fun _ _ _ _ => GDomain.mono) hc6_0_16 le7_10), hs103, (tfs_12.mono le6_10), le4_10⟩ (by dsimp only; omega) (.c (.c (.c (.c (.c .nil))))) (List.Sublist.refl _)
                      · have p17 := of_decide_eq_false h17; replace hk := condF_open hk h17; refine T.seq (T.region ?_); refine TL.run 2 rfl ?_; refine TL.nil (K.seq ?_); refine T.cond rfl (fun h22 => ?_) (fun h22 => ?_)
                        · have p22 := of_decide_eq_true h22; replace hk := condT_open hk h22; have hq := bind_open hk; clear hk; obtain ⟨r112, hr112, hk⟩ := hq; (try dsimp only at hk); refine T.region ?_; refine TL.run 3 rfl ?_; refine TL.y (Yv.idxR (i := i_14) rfl rfl rfl (SlC.mono hl le1_7) (List.length_map _) rfl (by omega)) ?_; refine TL.y (Yv.fldR rfl rfl (SlC.mono hl le1_7) (List.length_map _) (by omega)) ?_; refine TL.y (Yv.loadRFP 4 (i := i_14) (j := 1) rfl rfl rfl (SlC.mono hl le1_7) (by omega) rfl rfl rfl) ?_; refine TL.e (Ew.callM 1 rfl rfl rfl rfl (fun w hw => s2_forbid hss_12 (tfs_12.mono le6_7) (hw.get (i := 1) rfl) (hw.fr (i := 4) rfl) (hw.apartF (i := 1) (j := 4) rfl rfl (by decide)) (htk hw) hfu ((nth l i_14).Choice) hr112)) ?_; rintro _ _ ⟨L112_, hs112, rfl, rfl⟩; refine TL.run 1 rfl ?_; refine TL.nil (K.blk_normal (K.seq (T.seq (T.seq ?_)))); (try dsimp only at hk); have hq := joinK_open hk; clear hk; obtain ⟨k24, hk24, hk⟩ := hq; (try dsimp only at hk); refine T.cutXK (ι := Bool × FzB w (fun _ => False) S0) (fun z => [(1, vl), (2, .pointer (some ⟨g2, 0, none⟩)), (5, .pointer (some ⟨ks_12.sp, 0, none⟩)), (7, .pointer (some ⟨g7, 0, none⟩)), (8, .int .i64 (i_14 : Int)), (9, .pointer (some ⟨g9, 0, none⟩)), (122, .bool z.1)]) (fun z => [.row g9 39 [vc6_0_16, .bool r74.1.fine], st2 ks_12 vs_12 L112_ (!r112.1.2), .row g7 39 [vc_10, .bool c_11], .row g2 29 [vp_0, vp_1, vp_2, vp_3], .fr z.2]) (fun z => k24 z.1 = some r ∧ F7.toFrz.Le z.2.toFrz) ?_ ?_
                          · refine T.region ?_; refine TL.run 4 rfl ?_; refine TL.gs rfl rfl rfl (fun h25 => ?_) (fun h25 => ?_)
                            · have p25 := of_decide_eq_true h25; replace hk := condT_open hk h25; refine TL.run 6 rfl ?_; refine TL.nil ?_; exact K.atX (true, F7) ⟨hk, (Frz.Le.refl _)⟩ (.c (.c (.c (.c (.c (.c (.c .nil))))))) (List.Sublist.refl _)
                            · have p25 := of_decide_eq_false h25; replace hk := condF_open hk h25; refine TL.y (Yv.loadAO 3 rfl rfl rfl rfl) ?_; refine TL.run 1 rfl ?_; refine TL.y (Yv.loadAO 0 rfl rfl rfl rfl) ?_; have hq := bind_open hk; clear hk; obtain ⟨r120, hr120, hk⟩ := hq; refine TL.e (Ew.callO [1, 4, 0, 2, 3] [st2 ks_12 vs_12 L112_ (!r112.1.2)] [.row g9 39 [vc6_0_16, .bool r74.1.fine], .row g7 39 [vc_10, .bool c_11], .row g2 29 [vp_0, vp_1, vp_2, vp_3]] rfl rfl rfl rfl (by decide) (fun w hw hw2 hF => law18_looks_c _ w hF p vp_0 cp_0 (SlD.mono (rep := GDomain.rep) (fun _ _ _ _ => GDomain.mono) hp_0 le1_7) vp_1 (SlC.mono hp_1 le1_7) vp_2 (SlC.mono hp_2 le1_7) vp_3 (SlC.mono hp_3 le1_7) p r112.1 ks_12 vs_12 L112_ hs112 (tfs_12.mono le6_7) (Gmodel.mk r74.1.d r74.1.fine) vc6_0_16 cc6_0_16 hc6_0_16 (htk hw) hw2.takes.1 hw2.takes.2 (hw2.takes0 hM0 htab.pos) r120 hr120)) ?_; rintro _ _ ⟨⟨⟩, F13, le7_13, -, rfl, rfl⟩; dsimp only [List.cons_append, List.nil_append]; have le1_13 := le1_7.trans le7_13; have le2_13 := le2_7.trans le7_13; have le3_13 := le3_7.trans le7_13; have le4_13 := le4_7.trans le7_13; have le6_13 := le6_7.trans le7_13; refine TL.run 2 rfl ?_; refine TL.nil ?_; refine K.pick [2, 0, 3, 4, 1] rfl (by decide) ?_; exact K.atX (!r120, F13) ⟨hk, le7_13⟩ (.c (.c (.c (.c (.c (.c (.c .nil))))))) (List.Sublist.refl _)
                          · rintro ⟨x_23, F12⟩ ⟨hk, le7_12⟩; (try dsimp only at *); rw [← hk24] at hk; (try dsimp only at hk); have le1_12 := le1_7.trans le7_12; have le2_12 := le2_7.trans le7_12; have le3_12 := le3_7.trans le7_12; have le4_12 := le4_7.trans le7_12; have le6_12 := le6_7.trans le7_12; refine T.cond rfl (fun h26 => ?_) (fun h26 => ?_)
                            · have p26 := h26; (try simp only [nfB] at p26); replace hk := condT_open hk h26; refine T.seq (T.region ?_); refine TL.run 1 rfl ?_; refine TL.nil (K.seq (T.ret (K.then_ret (K.blk_ret (K.then_ret (K.then_ret (K.blk_ret (K.then_ret ?_)))))))); obtain rfl := Option.some.inj hk; exact K.ret1 rfl rfl (fun w' hw => ⟨rfl, hw.isBelow⟩)
                            · have p26 := h26; (try simp only [nfB] at p26); replace hk := condF_open hk h26; refine T.skip (K.seq (T.region ?_)); refine TL.y (Yv.loadAO 0 rfl rfl rfl rfl) ?_; refine TL.e0 (Ew.storeAll 2 rfl rfl rfl rfl rfl rfl) ?_; rintro _ _ ⟨rfl, rfl⟩; refine TL.nil (K.blk_normal (K.seq (T.region ?_))); refine TL.run 1 rfl ?_; refine TL.y (Yv.addI rfl rfl rfl (by omega)) ?_; refine TL.run 1 rfl ?_; refine TL.nil ?_; rw [← hn13] at hk; refine K.pick [1, 2, 3, 4] rfl (by decide) ?_; exact K.next ((i_14 + 1), r74.1.d, vc6_0_16, cc6_0_16, r74.1.fine, r112.1, ks_12, vs_12, L112_, F12) ⟨hk, (SlD.mono (rep := GDomain.rep) (fun _ _ _ _ => GDomain.mono) hc6_0_16 le7_12), hs112, (tfs_12.mono le6_12), le4_12⟩ (by dsimp only; omega) (.c (.c (.c (.c (.c .nil))))) (List.Sublist.refl _)
                        · have p22 := of_decide_eq_false h22; replace hk := condF_open hk h22; refine T.seq (T.region ?_); refine TL.run 1 rfl ?_; refine TL.e (Ew.callO [4, 0, 1, 2, 3] [] [.row g9 39 [vc6_0_16, .bool r74.1.fine], st2 ks_12 vs_12 Ls_12 (!ms_12.2), .row g7 39 [vc_10, .bool c_11], .row g2 29 [vp_0, vp_1, vp_2, vp_3]] rfl rfl rfl rfl (by decide) (fun w hw hw2 hF => s2_copy hss_12 (tfs_12.mono le6_7) (hw.get (i := 1) rfl) hF (htk hw))) ?_; rintro _ _ ⟨⟨k83_, v83_⟩, F14, le7_14, ⟨hs83, tf83⟩, rfl, rfl⟩; dsimp only [List.cons_append, List.nil_append]; (try dsimp only at hs83 tf83); have le1_14 := le1_7.trans le7_14; have le2_14 := le2_7.trans le7_14; have le3_14 := le3_7.trans le7_14; have le4_14 := le4_7.trans le7_14; have le6_14 := le6_7.trans le7_14; refine TL.run 1 rfl ?_; refine TL.nil (K.seq (T.seq (T.seq (T.region ?_)))); refine TL.run 1 rfl ?_; refine TL.y (Yv.eqNil (e := 72) (by kernel_rfl) rfl rfl rfl) ?_; refine TL.nil (K.seq ?_); refine T.condF rfl rfl ?_; refine T.skip (K.seq (T.seq ?_)); have hq := bind_open hk; clear hk; obtain ⟨r92, hr92, hk⟩ := hq; (try dsimp only at hk); refine T.region ?_; refine TL.run 3 rfl ?_; refine TL.y (Yv.idxR (i := i_14) rfl rfl rfl (SlC.mono hl le1_14) (List.length_map _) rfl (by omega)) ?_; refine TL.y (Yv.fldR rfl rfl (SlC.mono hl le1_14) (List.length_map _) (by omega)) ?_; refine TL.y (Yv.loadRFP 1 (i := i_14) (j := 1) rfl rfl rfl (SlC.mono hl le1_14) (by omega) rfl rfl rfl) ?_; refine TL.e (Ew.callM 3 rfl rfl rfl rfl (fun w hw => s2_assume hss_12 (tfs_12.mono le6_14) (hw.get (i := 3) rfl) (hw.fr (i := 1) rfl) (hw.apartF2 (i := 3) (j := 1) rfl rfl (by decide)) (htk hw) hfu ((nth l i_14).Choice) hr92)) ?_; rintro _ _ ⟨L92_, hs92, rfl, rfl⟩; refine TL.nil (K.seq ?_); refine T.draw (.still 0 (.still 1 (.still 2 (.eff 3 (.still 4 (.still 5 .done)))))) [st2 k83_ v83_ Ls_12 (!ms_12.2), .fr F14, st2 ks_12 vs_12 L92_ (!r92.1.2), .row g7 39 [vc_10, .bool c_11], .row g2 29 [vp_0, vp_1, vp_2, vp_3]] (by kernel_rfl) (by repeat first | exact S0 | exact S1 | refine S2 ?_ | refine S3 ?_) ?_; refine TS.run 1 rfl ?_; refine TS.y rfl (Yv.loadAO 3 rfl rfl rfl rfl) ?_; refine TS.run 1 rfl ?_; refine TS.eff ?_; refine TSo.ewG0 rfl (Wt.none rfl) rfl (Ew.storeAll 2 rfl rfl rfl rfl rfl rfl) ?_; rintro _ _ ⟨rfl, rfl⟩; refine ⟨(fun w hw => hw.sub (by repeat first | exact S0 | exact S1 | refine S2 ?_ | refine S3 ?_)), ?_⟩; refine TS.run 2 rfl ?_; refine TS.done ?_; refine K.blk_normal (K.seq (T.seq (T.seq ?_))); (try dsimp only at hk); have hq := joinK_open hk; clear hk; obtain ⟨k28, hk28, hk⟩ := hq; (try dsimp only at hk); refine T.cutXK (ι := Bool × FzB w (fun _ => False) S0) (fun z => [(1, vl), (2, .pointer (some ⟨g2, 0, none⟩)), (5, .pointer (some ⟨k83_.sp, 0, none⟩)), (7, .pointer (some ⟨g7, 0, none⟩)), (8, .int .i64 (i_14 : Int)), (9, .pointer (some ⟨g9, 0, none⟩)), (122, .bool z.1)]) (fun z => [st2 k83_ v83_ Ls_12 (!ms_12.2), .row g9 39 [vc_10, .bool c_11], .row g7 39 [vc_10, .bool c_11], .row g2 29 [vp_0, vp_1, vp_2, vp_3], .fr z.2]) (fun z => k28 z.1 = some r ∧ F14.toFrz.Le z.2.toFrz) ?_ ?_
                          · refine T.region ?_; refine TL.run 4 rfl ?_; refine TL.y (Yv.loadAO 5 rfl rfl rfl rfl) ?_; refine TL.run 1 rfl ?_; refine TL.y (Yv.loadAO 2 rfl rfl rfl rfl) ?_; have hq := bind_open hk; clear hk; obtain ⟨r120, hr120, hk⟩ := hq; refine TL.e (Ew.callO [0, 1, 2, 3, 4, 5] [st2 k83_ v83_ Ls_12 (!ms_12.2)] [.row g9 39 [vc_10, .bool c_11], st2 ks_12 vs_12 L92_ (!r92.1.2), .row g7 39 [vc_10, .bool c_11], .row g2 29 [vp_0, vp_1, vp_2, vp_3]] rfl rfl rfl rfl (by decide) (fun w hw hw2 hF => law18_looks_c _ w hF p vp_0 cp_0 (SlD.mono (rep := GDomain.rep) (fun _ _ _ _ => GDomain.mono) hp_0 le1_14) vp_1 (SlC.mono hp_1 le1_14) vp_2 (SlC.mono hp_2 le1_14) vp_3 (SlC.mono hp_3 le1_14) p ms_12 k83_ v83_ Ls_12 hs83 tf83 (Gmodel.mk c_10 c_11) vc_10 cc_10 (SlD.mono (rep := GDomain.rep) (fun _ _ _ _ => GDomain.mono) hc_10 le6_14) (htk hw) hw2.takes.1 hw2.takes.2 (hw2.takes0 hM0 htab.pos) r120 hr120)) ?_; rintro _ _ ⟨⟨⟩, F16, le14_16, -, rfl, rfl⟩; dsimp only [List.cons_append, List.nil_append]; have le1_16 := le1_14.trans le14_16; have le2_16 := le2_14.trans le14_16; have le3_16 := le3_14.trans le14_16; have le4_16 := le4_14.trans le14_16; have le6_16 := le6_14.trans le14_16; have le7_16 := le7_14.trans le14_16; refine TL.run 2 rfl ?_; refine TL.nil ?_; refine K.pick [0, 2, 4, 5, 1] rfl (by decide) ?_; exact K.atX (!r120, F16) ⟨hk, le14_16⟩ (.c (.c (.c (.c (.c (.c (.c .nil))))))) (List.Sublist.refl _)
                          · rintro ⟨x_27, F15⟩ ⟨hk, le14_15⟩; (try dsimp only at *); rw [← hk28] at hk; (try dsimp only at hk); have le1_15 := le1_14.trans le14_15; have le2_15 := le2_14.trans le14_15; have le3_15 := le3_14.trans le14_15; have le4_15 := le4_14.trans le14_15; have le6_15 := le6_14.trans le14_15; have le7_15 := le7_14.trans le14_15; refine T.cond rfl (fun h29 => ?_) (fun h29 => ?_)
                            · have p29 := h29; (try simp only [nfB] at p29); replace hk := condT_open hk h29; refine T.seq (T.region ?_); refine TL.run 1 rfl ?_; refine TL.nil (K.seq (T.ret (K.then_ret (K.blk_ret (K.then_ret (K.then_ret (K.blk_ret (K.then_ret ?_)))))))); obtain rfl := Option.some.inj hk; exact K.ret1 rfl rfl (fun w' hw => ⟨rfl, hw.isBelow⟩)
                            · have p29 := h29; (try simp only [nfB] at p29); replace hk := condF_open hk h29; refine T.skip (K.seq (T.region ?_)); refine TL.y (Yv.loadAO 1 rfl rfl rfl rfl) ?_; refine TL.e0 (Ew.storeAll 2 rfl rfl rfl rfl rfl rfl) ?_; rintro _ _ ⟨rfl, rfl⟩; refine TL.nil (K.blk_normal (K.seq (T.region ?_))); refine TL.run 1 rfl ?_; refine TL.y (Yv.addI rfl rfl rfl (by omega)) ?_; refine TL.run 1 rfl ?_; refine TL.nil ?_; rw [← hn13] at hk; refine K.pick [0, 2, 3, 4] rfl (by decide) ?_; exact K.next ((i_14 + 1), c_10, vc_10, cc_10, c_11, ms_12, k83_, v83_, Ls_12, F15) ⟨hk, (SlD.mono (rep := GDomain.rep) (fun _ _ _ _ => GDomain.mono) hc_10 le6_15), hs83, (tf83.mono le14_15), le4_15⟩ (by dsimp only; omega) (.c (.c (.c (.c (.c .nil))))) (List.Sublist.refl _)
                  · have p15 := of_decide_eq_false h15; rw [iterK_ge (by omega), ← hkk13] at hk; (try dsimp only at hk); refine T.exit (K.then_exit (K.then_exit (K.blk_exit_eq ?_))); exact K.atX (c_10, vc_10, cc_10, c_11, ms_12, ks_12, vs_12, Ls_12, F6) ⟨hk, hc_10, hss_12, tfs_12, le4_6⟩ (.c (.c (.c .nil))) (List.Sublist.refl _)
              · rintro ⟨c_6, vc_6, cc_6, c_7, ms_8, ks_8, vs_8, Ls_8, F5⟩ ⟨hk, hc_6, hss_8, tfs_8, le4_5⟩; (try dsimp only at *); rw [← hk9] at hk; (try dsimp only at hk); have le1_5 := le1_4.trans le4_5; have le2_5 := le2_4.trans le4_5; have le3_5 := le3_4.trans le4_5; haveI := hc_6.1.oneC; refine T.seq (T.region ?_); refine TL.run 1 rfl ?_; refine TL.e (Ew.callR 3 rfl rfl rfl rfl (fun w hw hF => s2_domain hss_8 tfs_8 (hw.get (i := 0) rfl) (hw.fr (i := 3) rfl) (htk hw) (-1))) ?_; rintro _ _ ⟨v126_, F17, le5_17, hf126, rfl, rfl⟩; have le1_17 := le1_5.trans le5_17; have le2_17 := le2_5.trans le5_17; have le3_17 := le3_5.trans le5_17; have le4_17 := le4_5.trans le5_17; haveI := hf126.oneC; refine TL.run 4 rfl ?_; refine TL.nil (K.seq (T.seq (T.region ?_))); refine TL.run 1 rfl ?_; refine TL.e (Ew.callR 3 rfl rfl rfl rfl (fun w hw hF => s2_domain hss_8 (tfs_8.mono le5_17) (hw.get (i := 0) rfl) (hw.fr (i := 3) rfl) (htk hw) 511)) ?_; rintro _ _ ⟨v131_, F18, le17_18, hf131, rfl, rfl⟩; have le1_18 := le1_17.trans le17_18; have le2_18 := le2_17.trans le17_18; have le3_18 := le3_17.trans le17_18; have le4_18 := le4_17.trans le17_18; have le5_18 := le5_17.trans le17_18; haveI := hf131.oneC; refine TL.run 5 rfl ?_; refine TL.nil (K.seq (T.seq (T.region ?_))); refine TL.run 1 rfl ?_; refine TL.nil (K.seq (T.seq (T.seq (T.region ?_)))); refine TL.y (Yv.fieldAddr rfl rfl) ?_; refine TL.y (Yv.loadO 1 rfl rfl rfl rfl) ?_; refine TL.run 1 rfl ?_; refine TL.nil (K.seq ?_); have hq := joinK_open hk; clear hk; obtain ⟨k31, hk31, hk⟩ := hq; (try dsimp only at hk); refine T.cutXK (ι := Int) (fun z => [(2, .pointer (some ⟨g2, 0, none⟩)), (6, .int .i64 ((stDom p ms_8 (-1)).2)), (13, .int .i64 ((stDom p ms_8 511).2)), (14, .int .i64 z)]) (fun z => [.row g2 29 [vp_0, vp_1, vp_2, vp_3], .fr F18]) (fun z => k31 z = some r) ?_ ?_
                · refine T.cond rfl (fun h32 => ?_) (fun h32 => ?_)
                  · have p32 := h32; (try simp only [nfB] at p32); replace hk := condT_open hk h32; refine T.region ?_; refine TL.run 1 rfl ?_; refine TL.nil ?_; refine K.pick [2, 3] rfl (by decide) ?_; exact K.atX 8 hk (.c (.c (.c (.c .nil)))) (List.Sublist.refl _)
                  · have p32 := h32; (try simp only [nfB] at p32); replace hk := condF_open hk h32; refine T.skip ?_; refine K.pick [2, 3] rfl (by decide) ?_; exact K.atX 9 hk (.c (.c (.c (.c .nil)))) (List.Sublist.refl _)
                · rintro none_30 hk; rw [← hk31] at hk; (try dsimp only at hk); refine T.seq ?_; refine T.cutXK (ι := Unit) (fun z => [(4, .bool (((decide ((stDom p ms_8 (-1)).2 = none_30)) && ((decide ((stDom p ms_8 511).2 = none_30)) || (decide (0 ≤ (ref17_Find_x p 511))))) || false))]) (fun z => [.row g2 29 [vp_0, vp_1, vp_2, vp_3], .fr F18]) (fun z => True) ?_ ?_
                  · refine T.region ?_; refine TL.run 4 rfl ?_; refine TL.gs rfl rfl rfl (fun h33 => ?_) (fun h33 => ?_)
                    · have p33 := of_decide_eq_true h33; refine TL.run 4 rfl ?_; refine TL.gs rfl rfl rfl (fun h34 => ?_) (fun h34 => ?_)
                      · have p34 := of_decide_eq_true h34; refine TL.run 6 rfl ?_; refine TL.e (Ew.callD rfl rfl rfl (fun w hw => known_ret w (htab.keptF hw))) ?_; rintro _ _ ⟨rfl, rfl⟩; refine TL.run 2 rfl ?_; refine TL.nil ?_; exact K.atX () trivial (.b (or_tt (and_tx h33 (or_tt h34))).symm .nil) (List.Sublist.refl _)
                      · have p34 := of_decide_eq_false h34; refine TL.y (Yv.loadAO 0 rfl rfl rfl rfl) ?_; refine TL.e (Ew.callD rfl rfl rfl (fun w hw => ref17_Find_c _ w (hw.fr (i := 1) rfl) p vp_0 cp_0 (SlD.mono (rep := GDomain.rep) (fun _ _ _ _ => GDomain.mono) hp_0 le1_18) vp_1 (SlC.mono hp_1 le1_18) vp_2 (SlC.mono hp_2 le1_18) vp_3 (SlC.mono hp_3 le1_18) 511)) ?_; rintro _ _ ⟨rfl, rfl⟩; refine TL.run 4 rfl ?_; refine TL.gs rfl rfl rfl (fun h35 => ?_) (fun h35 => ?_)
                        · have p35 := of_decide_eq_true h35; refine TL.e (Ew.callD rfl rfl rfl (fun w hw => known_ret w (htab.keptF hw))) ?_; rintro _ _ ⟨rfl, rfl⟩; refine TL.run 2 rfl ?_; refine TL.nil ?_; exact K.atX () trivial (.b (or_tt (and_tx h33 (or_fx h34 h35))).symm .nil) (List.Sublist.refl _)
                        · have p35 := of_decide_eq_false h35; refine TL.run 3 rfl ?_; refine TL.nil ?_; exact K.atX () trivial (.b (or_fx (and_tx h33 (or_fx h34 h35)) rfl).symm .nil) (List.Sublist.refl _)
                    · have p33 := of_decide_eq_false h33; refine TL.run 13 rfl ?_; refine TL.nil ?_; exact K.atX () trivial (.b (or_fx (and_ff h33) rfl).symm .nil) (List.Sublist.refl _)
                  · rintro _ _; refine T.ret ?_; obtain rfl := Option.some.inj hk; exact K.ret1 rfl rfl (fun w' hw => ⟨rfl, hw.isBelow⟩)
      · replace hk := condF_open hk h3; refine T.region ?_; refine TL.y (Yv.loadAO 0 rfl rfl rfl rfl) ?_; refine TL.e (Ew.callD rfl rfl rfl (fun w hw => st_newbad (p := p) (hw.fr (i := 1) rfl) ⟨hp_0, hp_1, hp_2, hp_3⟩ h3)) ?_; rintro _ _ ⟨rfl, rfl⟩; refine TL.run 5 rfl ?_; refine TL.nil (K.seq (T.seq (T.seq ?_))); have hq := bind_open hk; clear hk; obtain ⟨r30, hr30, hk⟩ := hq; (try dsimp only at hk); refine T.region ?_; refine TL.y (Yv.loadAO 0 rfl rfl rfl rfl) ?_; refine TL.e (Ew.callD rfl rfl rfl (fun w hw => ref17_Valid_c _ w (hw.fr (i := 1) rfl) p vp_0 cp_0 hp_0 vp_1 hp_1 vp_2 hp_2 vp_3 hp_3 r30 hr30)) ?_; rintro _ _ ⟨rfl, rfl⟩; refine TL.run 1 rfl ?_; refine TL.nil (K.seq ?_); refine T.cond rfl (fun h36 => ?_) (fun h36 => ?_)
        · have p36 := h36; (try simp only [nfB] at p36); replace hk := condT_open hk h36; refine T.seq ?_; refine T.cutXK (ι := Unit) (fun z => [(4, .bool true)]) (fun z => [.row g2 29 [vp_0, vp_1, vp_2, vp_3], .fr F1]) (fun z => True) ?_ ?_
          · refine T.region ?_; refine TL.run 1 rfl ?_; refine TL.y (Yv.eqNil (e := 72) (by kernel_rfl) rfl rfl rfl) ?_; refine TL.run 5 rfl ?_; refine TL.e (Ew.callD rfl rfl rfl (fun w hw => known_ret w (htab.keptF hw))) ?_; rintro _ _ ⟨rfl, rfl⟩; refine TL.run 2 rfl ?_; refine TL.nil ?_; exact K.atX () trivial (.c .nil) (List.Sublist.refl _)
          · rintro _ _; refine T.ret (K.then_ret ?_); obtain rfl := Option.some.inj hk; exact K.ret1 rfl rfl (fun w' hw => ⟨rfl, hw.isBelow⟩)
        · have p36 := h36; (try simp only [nfB] at p36); replace hk := condF_open hk h36; refine T.skip (K.seq (T.seq (T.seq ?_))); refine T.cutXK (ι := Unit) (fun z => [(1, vl), (2, .pointer (some ⟨g2, 0, none⟩)), (5, .pointer none), (46, .bool true)]) (fun z => [.row g2 29 [vp_0, vp_1, vp_2, vp_3], .fr F1]) (fun z => True) ?_ ?_
          · refine T.region ?_; refine TL.run 1 rfl ?_; refine TL.y (Yv.eqNil (e := 72) (by kernel_rfl) rfl rfl rfl) ?_; refine TL.run 4 rfl ?_; refine TL.nil ?_; exact K.atX () trivial (.c (.c (.c (.c .nil)))) (List.Sublist.refl _)
          · rintro _ _; refine T.condT rfl rfl ?_; refine T.seq (T.region ?_); refine TL.run 1 rfl ?_; refine TL.nil (K.seq (T.ret (K.then_ret ?_))); obtain rfl := Option.some.inj hk; exact K.ret1 rfl rfl (fun w' hw => ⟨rfl, hw.isBelow⟩)
end Go.Proofs.YtljgejbmimapdaaGreatDoor
namespace Go.Proofs.YtljgejbmimapdaaGreatDoor
open Go.RowKit
theorem valid1_x {c : GChoice} : law18_valid_x c = goodC c := by
  unfold law18_valid_x; rw [rvalidList_x]; rw [Bool.eq_iff_iff, List.all_eq_true]; unfold goodC; rw [decide_eq_true_eq]; constructor
  · intro h; have := h 0 (by simp); unfold chOkG inB at this; simp only [Bool.and_eq_true, decide_eq_true_eq] at this; have e' : nth [c] 0 = c := rfl; simp only [e'] at this; omega
  · intro h i hi; (obtain rfl : i = 0 := by have := List.mem_range.1 hi; simp at this; omega); unfold chOkG inB; simp only [Bool.and_eq_true, decide_eq_true_eq]; have e' : nth [c] 0 = c := rfl; simp only [e']; refine ⟨by omega, by omega, by simp⟩
theorem fixedD_x {d : List GDomain} (hd : d.length ≤ 100000) : ref18_Fixed_x d = some (fixD d) := by
  unfold ref18_Fixed_x; simp only [joinK, Nat.sub_zero]; refine iterK_inv (fun i s => s = fixD (d.take i)) (fun o => o = some (fixD d)) (by simp [fixD]) (fun s hs => ?_) (fun i s next hi hs hn => ?_)
  · rw [hs, List.take_of_length_le (Nat.le_refl _)]
  · have hl : s.length ≤ i := by
      rw [hs]; unfold fixD; rw [List.length_map]; exact Nat.le_trans (List.length_filter_le _ _) (by rw [List.length_take]; omega)
    have hstep : fixD (d.take (i + 1)) = s ++ (if (nth d i).Channels.length = 1 then [⟨(nth d i).Station, nth (nth d i).Channels 0⟩] else []) := by
      rw [List.take_succ_eq_append_getElem hi, ← nth_eq hi, fixD_snoc, ← hs]
    by_cases h : (nth d i).Channels.length = 1
    · rw [decide_eq_true (show ((nth d i).Channels.length : Int) = 1 by omega), cond_true, grd_pos (by simp only [room, List.length_append, List.length_singleton]; omega)]; exact hn _ (by rw [hstep, if_pos h])
    · rw [decide_eq_false (show ¬ ((nth d i).Channels.length : Int) = 1 by omega), cond_false]; exact hn _ (by rw [hstep, if_neg h, List.append_nil])
theorem count_x {d : List GDomain} (h : totG d ≤ 1000000) : ref18_Count_x d = (totG d : Int) := by
  unfold ref18_Count_x; simp only [joinK, Nat.sub_zero]; refine iterK_inv (fun i s => s = (totG (d.take i) : Int)) (fun o => o = (totG d : Int)) (by simp [totG]) (fun s hs => ?_) (fun i s next hi hs hn => ?_)
  · rw [hs, List.take_of_length_le (Nat.le_refl _)]
  · have h1 := tot_take hi
    have h2 : totG (d.take (i + 1)) ≤ totG d := by
      have : d = d.take (i + 1) ++ d.drop (i + 1) := (List.take_append_drop _ _).symm; unfold totG
      conv => rhs; rw [this]
      rw [List.map_append, List.sum_append]; omega
    refine hn _ ?_; rw [hs, wI_in (by omega)]; omega
section
variable {p : GProblem} {m : List GDomain × Bool} {d : List GDomain}
theorem GG.uniq (hG : GG p) {i j : Nat} (hi : i < p.Domains.length) (hj : j < p.Domains.length) (h : (nth p.Domains i).Station = (nth p.Domains j).Station) : i = j := by
  rcases Nat.lt_trichotomy i j with h1 | h1 | h1
  · have := hG.inc i j h1 hj; omega
  · exact h1
  · have := hG.inc j i h1 hi; omega
theorem findIdx_st (hG : GG p) {i : Nat} (hi : i < p.Domains.length) : p.Domains.findIdx? (fun d => decide (d.Station = (nth p.Domains i).Station)) = some i := by
  rw [List.findIdx?_eq_some_iff_getElem]; refine ⟨hi, by rw [← nth_eq hi]; simp, fun j hj => ?_⟩; rw [← nth_eq (by omega)]; (have : (nth p.Domains j).Station ≠ (nth p.Domains i).Station := fun e => by have := hG.uniq (by omega) hi e; omega); simpa using this
theorem findIdx_no {s : Int} (h : hasSt p s = false) : p.Domains.findIdx? (fun d => decide (d.Station = s)) = none := by
  rw [List.findIdx?_eq_none_iff]; intro x hx; unfold hasSt at h; rw [List.any_eq_false] at h; have := h x hx; simpa using this
theorem stHas_at (hG : GG p) (h2 : m.2 = true) (hs : SubD m.1 p.Domains) {i : Nat} (hi : i < p.Domains.length) {c : Int} : stHas m ⟨(nth p.Domains i).Station, c⟩ = (nth m.1 i).Channels.any fun k => decide (k = c) := by
  unfold stHas; rw [h2, Bool.true_and, Bool.eq_iff_iff, List.any_eq_true, List.any_eq_true]; (have hi' : i < m.1.length := by rw [hs.1]; exact hi); constructor
  · rintro ⟨x, hx, hh⟩; obtain ⟨j, hj, rfl⟩ := mem_nth hx; rw [Bool.and_eq_true, decide_eq_true_eq, List.any_eq_true] at hh; (have hj' : j < p.Domains.length := by rw [← hs.1]; exact hj); have : j = i := hG.uniq hj' hi ((hs.2 j hj').1.symm.trans hh.1); rw [this] at hh; exact hh.2
  · intro hh; refine ⟨_, nth_memG hi', ?_⟩; rw [Bool.and_eq_true, decide_eq_true_eq, List.any_eq_true]; exact ⟨(hs.2 i hi).1, hh⟩
theorem looks_x (hok : okG p = true) (hd : SubD d p.Domains ∧ OrdD d p.Domains) (h : PropD p d m) : law18_looks_x p p m ⟨m.1, m.2⟩ = some true := by
  have hG := okG_gg hok; obtain ⟨hw, hbd, ht, hn⟩ := okG_bd hok; unfold law18_looks_x; simp only [joinK, Nat.sub_zero]; (have e1 : ((!m.2) == m.2) = false := by cases m.2 <;> rfl); rw [e1, cond_false, sameDomains_x]; simp only [decide_true, Bool.not_true, cond_false]
  have hm : m.2 = false → m.1 = [] := fun e => by
    rcases h with ⟨h1, _⟩ | ⟨h1, _⟩
    · rw [h1] at e; cases e
    · rw [h1]
  have hsub : m.2 = true → SubD m.1 p.Domains ∧ OrdD m.1 p.Domains := fun e => by
    rcases h with ⟨_, _, h1, _⟩ | ⟨h1, _⟩
    · exact ⟨h1.1.trans hd.1, h1.2.trans hd.2 hd.1.1⟩
    · rw [h1] at e; cases e
  have hlen : m.1.length ≤ 512 := by
    cases e : m.2 with
    | false => rw [hm e]; exact Nat.zero_le _
    | true => rw [(hsub e).1.1]; exact hn
  rw [fixedD_x (by omega), Option.bind_some]
  have e2 : stFix m = fixD m.1 := by
    unfold stFix
    cases e : m.2 with
    | false => rw [hm e]; rfl
    | true => rfl
  rw [e2]
  have e3 : ref17_SameList_x (fixD m.1) (fixD m.1) = true := by
    unfold ref17_SameList_x; simp only [joinK, Nat.sub_zero]; simp only [not_true_eq_false, decide_false, cond_false]
    have key : ∀ n i, iterK (fun (i : Nat) (next : Unit → Bool) (_ : Unit) => next ()) (fun _ => true) n i () = true := by
      intro n
      induction n with
      | zero => intro i; rfl
      | succ n ih => intro i; exact ih (i + 1)
    simpa using key _ _
  rw [e3, Bool.not_true, cond_false]
  have e4 : (bif m.2 then wI (ref18_Count_x p.Domains - ref18_Count_x m.1) else 0) = stRem p m := by
    unfold stRem
    cases e : m.2 with
    | false => rfl
    | true =>
      have hle := totG_ord (hsub e).1.1 (hsub e).2; rw [cond_true, cond_true, count_x (by omega), count_x (by omega), wI_in (by omega)]
  cases e : m.2 with
  | false =>
    rw [e, cond_false] at e4; rw [cond_false, ← e4]; simp only [not_true_eq_false, decide_false, cond_false]; refine (iterK_allO (z := some false) (fun i => true) (fun i next hi => ?_)).trans ?_
    · rw [cond_true]; (have e6 : stDom p m (nth p.Domains i).Station = ([], 8) := by unfold stDom; rw [e]; rfl); rw [e6]; unfold stHas; rw [e]; simp
    · rw [List.all_eq_true.2 (fun _ _ => rfl)]; rfl
  | true =>
    rw [e, cond_true] at e4; rw [cond_true, e4]; simp only [not_true_eq_false, decide_false, cond_false]; refine (iterK_allO (z := some false) (fun i => true) (fun i next hi => ?_)).trans ?_
    · rw [cond_true]; have hs := hsub e
      have e6 : stDom p m (nth p.Domains i).Station = ((nth m.1 i).Channels, 0) := by
        unfold stDom; rw [e, findIdx_st hG hi]; rfl
      rw [e6]; simp only [Bool.not_true, cond_false, not_true_eq_false, decide_false]; rw [grd_pos ⟨by omega, by rw [hs.1.1]; omega⟩, sameInts_x]; simp only [decide_true, Bool.not_true, cond_false]
      have key : ∀ n j, iterK (fun (c : Nat) (nx : Unit → Option Bool) (_ : Unit) => bif !((stHas m (GChoice.mk (nth p.Domains i).Station (c : Int))) == (ref17_Has_x (nth m.1 i).Channels (c : Int))) then some false else nx ()) (fun _ => next ()) n j () = next () := by
        intro n
        induction n with
        | zero => intro j; rfl
        | succ n ih =>
          intro j
          show (bif _ then some false else iterK _ _ n (j + 1) ()) = _
          rw [stHas_at hG e hs.1 hi, has_x, beq_self_eq_true, Bool.not_true, cond_false]; exact ih (j + 1)
      exact key _ _
    · rw [List.all_eq_true.2 (fun _ _ => rfl)]; rfl
theorem played_x {fuel : Nat} (hf : 100000 ≤ fuel) (hok : okG p = true) (hd : SubD d p.Domains ∧ OrdD d p.Domains) (h : PropD p d m) (x : GAct) : law18_played_x fuel p ⟨m.1, m.2⟩ x = (stAct fuel p m (decide (x.Kind = 0)) x.Choice).map fun r => (⟨r.1.1, r.1.2⟩, r.2) := by
  obtain ⟨hw, hbd, ht, hn⟩ := okG_bd hok; unfold law18_played_x stAct; rw [valid1_x]
  have hfind : decide (ref17_Find_x p x.Choice.Station < 0) = !hasSt p x.Choice.Station := by
    have h1 := hasSt_find (p := p) (s := x.Choice.Station)
    cases e : hasSt p x.Choice.Station with
    | true =>
      rw [e] at h1; exact decide_eq_false (fun e => by have := h1.1 e; cases this)
    | false => exact decide_eq_true (h1.2 e)
  rw [hfind]; obtain ⟨a, b⟩ := m; dsimp only
  cases goodC x.Choice
  · rfl
  · cases b
    · rfl
    · cases hasSt p x.Choice.Station
      · rfl
      · simp only [Bool.not_true, cond_false, joinK]; have ho := h.ord rfl; have hol := ho.2.trans hd.2 hd.1.1; have hlen : a.length = p.Domains.length := ho.1.trans hd.1.1; have hb1 := hbd.ord hlen hol; rw [drop_x hb1.len (fun x hx => (hb1.ch x hx).1), keep_x hb1.len (fun x hx => (hb1.ch x hx).1)]
        cases decide (x.Kind = 0)
        · simp only [cond_false, Option.bind_some]
          cases ref18_Propagate_x fuel p (a.map (dropD x.Choice.Station x.Choice.Channel)) <;> rfl
        · simp only [cond_true, Option.bind_some]
          cases ref18_Propagate_x fuel p (a.map (keepD x.Choice.Station x.Choice.Channel)) <;> rfl
theorem plays_true {fuel : Nat} (hf : 100000 ≤ fuel) (l : List GAct) : law18_PropagatePlays_x fuel p l = some true := by
  unfold law18_PropagatePlays_x; obtain ⟨b, hb⟩ := small_x (p := p) (a := 10) (b := 40) (fuel := fuel) (by omega); rw [hb, Option.bind_some]
  cases hc : ((!b) || (decide (10 < (l.length : Int)))) with
  | true => rfl
  | false =>
    rw [cond_false, valid_x]
    cases hok : okG p with
    | false => rfl
    | true =>
      have hG := okG_gg hok; obtain ⟨hw, hbd, ht, hn⟩ := okG_bd hok; obtain ⟨m0, g1, g2⟩ := propagate_x (fuel := fuel) hw hbd (by omega) (by omega); have hself : SubD p.Domains p.Domains ∧ OrdD p.Domains p.Domains := ⟨SubD.refl _, fun _ _ => List.Sublist.refl _⟩; rw [cond_true, g1, Option.bind_some, Option.bind_some, Bool.not_true, cond_false, Option.bind_some, looks_x hok hself g2, Option.bind_some, Bool.not_true, cond_false]; simp only [joinK, Nat.sub_zero]; refine iterK_inv (fun i s => s = (s.2.2.1, s.2.2.2, s.2.2) ∧ ∃ d, (SubD d p.Domains ∧ OrdD d p.Domains) ∧ PropD p d s.2.2) (fun o => o = some true) ⟨rfl, _, hself, g2⟩ (fun s hs => ?_) (fun i s next hi hs hn' => ?_)
      · obtain ⟨e, d, hd, hp⟩ := hs; generalize s.2.2 = m at e hp; subst e; dsimp only
        have hneg : hasSt p (-1) = false := by
          cases e : hasSt p (-1) with
          | false => rfl
          | true =>
            obtain ⟨x, hx, h1⟩ := hasSt_ex.1 e; have := (hG.st x hx).1; omega
        have hst : ∀ s, hasSt p s = false → (stDom p m s).2 = bif !m.2 then 8 else 9 := fun s hs => by
          unfold stDom; rw [findIdx_no hs]
          cases m.2 <;> rfl
        have e511 : (decide ((stDom p m 511).2 = bif !m.2 then 8 else 9) || decide (0 ≤ ref17_Find_x p 511)) = true := by
          cases e : hasSt p 511 with
          | false => rw [hst _ e]; simp
          | true =>
            have h1 := hasSt_find (p := p) (s := 511); rw [e] at h1
            have : 0 ≤ ref17_Find_x p 511 := by
              rcases Int.lt_or_le (ref17_Find_x p 511) 0 with h2 | h2
              · have := h1.1 h2; cases this
              · exact h2
            rw [decide_eq_true this, Bool.or_true]
        cases e : m.2 with
        | false =>
          rw [e] at e511; have h1 := hst _ hneg; rw [e] at h1; simp only [Bool.not_false, cond_true] at e511 h1 ⊢; rw [e511, h1]; simp
        | true =>
          rw [e] at e511; have h1 := hst _ hneg; rw [e] at h1; simp only [Bool.not_true, cond_false] at e511 h1 ⊢; rw [e511, h1]; simp
      · obtain ⟨e, d, hd, hp⟩ := hs; generalize s.2.2 = m at e hp; subst e; dsimp only
        have hsub : ∀ {keep}, SubD (d.map (actC keep (nth l i).Choice)) p.Domains ∧ OrdD (d.map (actC keep (nth l i).Choice)) p.Domains := fun {keep} => by
          have h1 := (filt_act keep (nth l i).Choice).subD (d := d); exact ⟨h1.1.trans hd.1, h1.2.trans hd.2 hd.1.1⟩
        rw [played_x hf hok hd hp]; by_cases hk : (nth l i).Kind = 0
        · rw [decide_eq_true hk]; obtain ⟨r, h1, h2⟩ := stAct_x hf hok hd hp true (nth l i).Choice; rw [h1, Option.map_some, Option.bind_some, Option.bind_some]; dsimp only; simp only [cond_true, not_true_eq_false, decide_false, cond_false]; rw [looks_x hok hsub h2, Option.bind_some, Bool.not_true, cond_false]; exact hn' _ ⟨rfl, _, hsub, h2⟩
        · rw [decide_eq_false hk]; obtain ⟨r, h1, h2⟩ := stAct_x hf hok hd hp false (nth l i).Choice; rw [h1, Option.map_some, Option.bind_some, cond_false]; by_cases hk1 : (nth l i).Kind = 1
          · rw [decide_eq_true hk1, cond_true, Option.bind_some]; dsimp only; simp only [not_true_eq_false, decide_false, cond_false]; rw [looks_x hok hsub h2, Option.bind_some, Bool.not_true, cond_false]; exact hn' _ ⟨rfl, _, hsub, h2⟩
          · rw [decide_eq_false hk1, cond_false]; obtain ⟨r', h3, _⟩ := stAct_x hf hok hd hp true (nth l i).Choice; rw [h3, Option.bind_some, looks_x hok hd hp, Option.bind_some, Bool.not_true, cond_false]; exact hn' _ ⟨rfl, _, hd, hp⟩
end
end Go.Proofs.YtljgejbmimapdaaGreatDoor
namespace Go.Proofs.YtljgejbmimapdaaGreatDoor
open Go.RowKit Go.ChangeShapes Go.WideShapes Go.Deep
def Opens {H : Type} (enc : TypeId × Value → H) (w : World) (base : Nat) (spare : Nat → Bool) (held : Bool) (t : TypeId) {α : Type} (R : List Value → α → Prop) : Prop :=
  ∀ fuel cs y, DataW.trod enc Tryz.prog w base spare held fuel t cs = some y → ∃ x, R cs x
section
variable {H : Type} {enc : TypeId × Value → H} {w : World} {base : Nat} {spare : Nat → Bool} {held : Bool}
theorem Opens.int {t : TypeId} (ht : Tryz.prog.underlying t = some (.int .i64)) : Opens enc w base spare held t (fun cs (x : Int) => cs = [.int .i64 x]) := fun fuel cs y h => by
  obtain ⟨k, hk, _⟩ := DataW.trod_int ht h; exact ⟨k, hk⟩
theorem cell_Cb {a : Addr} {v : Value} (h : w.cell? a = some v) : Cb w a.block := by
  unfold World.cell? at h
  split at h
  all_goals (first | exact ⟨_, _, _, by assumption⟩ | simp at h | skip)
theorem Opens.any {t e : TypeId} {k : Nat} {α : Type} [Inhabited α] {R : List Value → α → Prop} (ht : Tryz.prog.underlying t = some (.slice e)) (hk : Tryz.prog.cellsOf e = k) (hpos : 0 < k) (ho : Opens enc w base spare held e R) :
    Opens enc w base spare held t (fun cs (l : List α) => ∃ v c, cs = [v] ∧ SlC (Frz.all w) v k c ∧ c.length = l.length ∧ ∀ i, i < l.length → R (nth c i) (nth l i)) := fun fuel cs y h => by
  rcases open_slice ht h with ⟨h0, _⟩ | ⟨a, len, cap, m, n, D, Pl, hcs, hb, hl, hm, hmm, _, hx⟩
  · exact ⟨[], _, [], h0, SlC.nil _ _, rfl, fun i hi => absurd hi (Nat.not_lt_zero i)⟩
  · subst hcs; (have hlm : len ≤ m := by rw [hmm]; split <;> omega)
    have each : ∀ i, i < m → ∃ x : List Value × α, x.1.length = k ∧ R x.1 x.2 ∧ ∀ j, j < k → w.cell? (a.add (i * k + j)) = x.1[j]? := fun i hi => by
      obtain ⟨cs', h1, h2⟩ := hx i hi; rw [hk] at h1; obtain ⟨_, hlen, hcell⟩ := World.cells?_some h1; obtain ⟨x, hR⟩ := ho _ _ _ h2; exact ⟨(cs', x), hlen, hR, fun j hj => by rw [← hcell j hj, add_add]⟩
    obtain ⟨X, hX⟩ := choose_lt each
    have hn : ∀ i, i < len → nth ((List.range len).map fun i => (X i).1) i = (X i).1 := fun i hi => by
      rw [nth_eq (by simpa using hi)]; simp
    have hn2 : ∀ i, i < len → nth ((List.range len).map fun i => (X i).2) i = (X i).2 := fun i hi => by
      rw [nth_eq (by simpa using hi)]; simp
    refine ⟨(List.range len).map fun i => (X i).2, _, (List.range len).map fun i => (X i).1, rfl, ⟨some a, cap, by simp, by simpa using hl, by unfold maxLen at hm; omega, fun c hc => ?_, fun hp => ?_⟩, by simp, fun i hi => ?_⟩
    · simp at hc; obtain ⟨i, hi, rfl⟩ := hc; exact (hX i (by omega)).1
    · (have hp' : 0 < len := by simpa using hp); have c0 := (hX 0 (by omega)).2.2 0 hpos; have hx0 := (hX 0 (by omega)).1; rw [List.getElem?_eq_getElem (by omega)] at c0; have hcb := cell_Cb c0; have hs := World.cell?_spot c0; simp [Addr.add] at hs hcb; obtain ⟨b, off, sp⟩ := a; simp at hs hcb; subst hs; refine ⟨b, off, rfl, hcb, fun i hi j hj => ?_⟩; simp at hi; rw [hn i hi] at hj ⊢; have hxi := hX i (by omega); have := hxi.2.2 j (by omega); refine Eq.trans ?_ this
      show w.cell? _ = _
      rw [add_off, Nat.add_assoc]
    · simp at hi; rw [hn i hi, hn2 i hi]; exact (hX i (by omega)).2.1
theorem Opens.slC {t e : TypeId} {k : Nat} {α : Type} [Inhabited α] {en : α → List Value} (ht : Tryz.prog.underlying t = some (.slice e)) (hk : Tryz.prog.cellsOf e = k) (hpos : 0 < k) (ho : Opens enc w base spare held e (fun cs (x : α) => cs = en x)) :
    Opens enc w base spare held t (fun cs (l : List α) => ∃ v, cs = [v] ∧ SlC (Frz.all w) v k (l.map en)) := fun fuel cs y h => by
  obtain ⟨l, v, c, h1, h2, h3, h4⟩ := Opens.any ht hk hpos ho _ _ _ h; refine ⟨l, v, h1, ?_⟩
  have : c = l.map en := by
    apply List.ext_getElem (by simpa using h3); intro i hi hi2; rw [← nth_eq hi, h4 i (by omega), List.getElem_map, nth_eq (by omega)]
  rw [← this]; exact h2
theorem Opens.slD {t e : TypeId} {k : Nat} {α : Type} [Inhabited α] {rep : Frz → List Value → α → Prop} (ht : Tryz.prog.underlying t = some (.slice e)) (hk : Tryz.prog.cellsOf e = k) (hpos : 0 < k) (ho : Opens enc w base spare held e (rep (Frz.all w))) :
    Opens enc w base spare held t (fun cs (l : List α) => ∃ v c, cs = [v] ∧ SlD rep (Frz.all w) v k c l) := fun fuel cs y h => by
  obtain ⟨l, v, c, h1, h2, h3, h4⟩ := Opens.any ht hk hpos ho _ _ _ h; exact ⟨l, v, c, h1, h2, h3, h4⟩
end
end Go.Proofs.YtljgejbmimapdaaGreatDoor
