/- Ne Yq Nf Bo It Mp Yr Ys Ng Nh Ni Of: shortened and put together by squeeze.py. -/
import Derived.Test.YtbpbhbkcahcdiaaGreatDoorQ10
import Derived.Deep.Slices
import Derived.ChangeArms
set_option maxRecDepth 100000
set_option maxHeartbeats 4000000
set_option linter.unusedVariables false
set_option linter.unusedSectionVars false
set_option linter.unusedSimpArgs false
namespace Go.Proofs.YtbpbhbkcahcdiaaGreatDoor
open Go.RowKit
structure StN (p : GProblem) (t : GStore) : Prop where
  pr : t.start.1 = p
  st : PropD p p.Domains t.start.2
  tb : TabN p t.domains
  ok : ∀ g ∈ t.list, okN p g = true
section
variable {p : GProblem} {t : GStore} {fuel : Nat}
theorem StN.add (h : StN p t) {g : List GChoice} (hg : okN p g = true) : StN p ⟨t.domains, (t.start.1, t.start.2), t.list ++ [g]⟩ := ⟨h.pr, h.st, h.tb, fun x hx => by
  rcases List.mem_append.1 hx with hx | hx
  · exact h.ok x hx
  · simp at hx; rw [hx]; exact hg⟩
theorem zlF {l g : List GChoice} : zaO l g = g.all fun c => l.any fun x => decide (x.Station = c.Station) && decide (x.Channel = c.Channel) := by
  unfold zaO; simp only [zaF, Nat.sub_zero]; rw [zcI (fun i => l.any fun x => decide (x.Station = (nth g i).Station) && decide (x.Channel = (nth g i).Channel)) (fun i next _ => ?_), Bool.and_true]
  · rw [Bool.eq_iff_iff, List.all_eq_true, List.all_eq_true]; constructor
    · intro h c hc; obtain ⟨i, hi, rfl⟩ := zaV hc; exact h i (List.mem_range.2 hi)
    · exact fun h i hi => h _ (zap (List.mem_range.1 hi))
  · have key : zah (fun (k_9 : Nat) (next8 : Bool → Bool) (has_7 : Bool) => (bif has_7 then next8 true else next8 (decide ((nth l k_9).Station = (nth g i).Station) && decide ((nth l k_9).Channel = (nth g i).Channel)))) (fun (has_7 : Bool) => bif !has_7 then false else next ()) l.length 0 false = ((l.any fun x => decide (x.Station = (nth g i).Station) && decide (x.Channel = (nth g i).Channel)) && next ()) := by
      refine zcl (fun k (b : Bool) => b = ((l.take k).any fun x => decide (x.Station = (nth g i).Station) && decide (x.Channel = (nth g i).Channel))) (fun o => o = ((l.any fun x => decide (x.Station = (nth g i).Station) && decide (x.Channel = (nth g i).Channel)) && next ())) rfl (fun b hb => ?_) (fun k b nx hk hb hn => ?_)
      · rw [List.take_of_length_le (Nat.le_refl _)] at hb; rw [← hb]; cases b <;> rfl
      · cases b with
        | true => exact hn _ (by rw [zgD hk, List.any_append, ← hb]; rfl)
        | false => exact hn _ (by rw [zgD hk, List.any_append, ← hb]; simp)
    exact key
theorem viol_iff {l g : List GChoice} : zaO l g = true ↔ ∀ c ∈ g, c ∈ l := by
  rw [zlF, List.all_eq_true]; refine forall_congr' fun c => imp_congr_right fun _ => ?_; rw [List.any_eq_true]; constructor
  · rintro ⟨x, hx, h⟩; simp only [Bool.and_eq_true, decide_eq_true_eq] at h; (have : x = c := by cases x; cases c; simp_all)
    rwa [← this]
  · exact fun h => ⟨c, h, by simp⟩
end
end Go.Proofs.YtbpbhbkcahcdiaaGreatDoor
namespace Go.Proofs.YtbpbhbkcahcdiaaGreatDoor
open Go.RowKit
def zaz (a : Int) (b : Int) : GPair :=
  (GPair.mk a b 0 14 51)
theorem zc2 (F0 : Frz) (w : World) (hF0 : F0.At w) (a : Int) (b : Int) : Calls Tryz.prog 61 #[.int .i64 a, .int .i64 b] w fun e w' => e = .returned (.agg [.int .i64 ((zaz a b).A), .int .i64 ((zaz a b).B), .int .i64 ((zaz a b).Offset), .int .i64 ((zaz a b).Low), .int .i64 ((zaz a b).High)].toArray) ∧ Below w.heap.size w w' := by
  obtain ⟨r, hk⟩ : ∃ r, zaz a b = r := ⟨_, rfl⟩; rw [hk]; unfold zaz at hk; obtain ⟨S0, F1, rfl, hS0, hp0⟩ := zaq hF0; refine zad (M := fun _ => False) (hs := [.fr F1]) Tryz.func61 rfl rfl rfl hp0 ?_; refine T.seq (T.region ?_); refine TL.e (Ew.alloc rfl) ?_; rintro _ _ ⟨g4, rfl, rfl⟩; refine TL.nil (K.seq (T.seq (T.region ?_))); refine TL.run 2 rfl ?_; refine TL.y (Yv.build rfl rfl) ?_; refine TL.e0 (Ew.aj 0 rfl rfl rfl rfl rfl rfl) ?_; rintro _ _ ⟨rfl, rfl⟩; refine TL.nil (K.seq (T.ret ?_)); subst hk; exact K.bB 0 rfl rfl rfl rfl (fun w' hw => ⟨rfl, hw.isBelow⟩)
def zaf  : GProblem :=
  (GProblem.mk [(GDomain.mk 1 [14, 15]), (GDomain.mk 2 [14, 15]), (GDomain.mk 3 [14, 15])] (GRules.mk [(zaz 1 2), (zaz 1 3), (zaz 2 3)] [] []))
theorem zbd (F0 : Frz) (w : World) (hF0 : F0.At w)  : Calls Tryz.prog 37 #[] w fun e w' => ∃ (y : Value × List (List Value) × Value × Value × Value) (G : Frz), (SlD GDomain.rep G y.1 2 y.2.1 ((zaf).Domains) ∧ SlC G y.2.2.1 5 (((zaf).Rules.Pairs).map GPair.enc) ∧ SlC G y.2.2.2.1 5 (((zaf).Rules.Loads).map GLoad.enc) ∧ SlC G y.2.2.2.2 4 (((zaf).Rules.Caps).map GCap.enc)) ∧ e = .returned (.agg [y.1, y.2.2.1, y.2.2.2.1, y.2.2.2.2].toArray) ∧ Fx F0 w G w' := by
  obtain ⟨r, hk⟩ : ∃ r, zaf = r := ⟨_, rfl⟩; rw [hk]; unfold zaf at hk; obtain ⟨S0, F1, rfl, hS0, hp0⟩ := zaq hF0; refine zad (M := fun _ => False) (hs := [.fr F1]) Tryz.func37 rfl rfl rfl hp0 ?_; refine T.seq (T.region ?_); refine TL.e (Ew.alloc rfl) ?_; rintro _ _ ⟨g0, rfl, rfl⟩; refine TL.nil (K.seq (T.seq (T.region ?_))); refine TL.e (Ew.buildSlice rfl rfl rfl (by decide)) ?_; rintro _ _ ⟨g1, rfl, rfl⟩; refine TL.aZ (fun w hw => hw.freezeR (i := 2) (j := 0) (by decide) rfl rfl) ?_; rintro F2 ⟨le1_2, hz2⟩; dsimp only [List.set, List.eraseIdx]; have hf2 : SlC F2.toFrz (.slice (some ⟨g1, 0, none⟩) 2 2) 1 ([14, 15].map eI) := (SlK.lit hz2 rfl (Nat.le_refl _) (by decide)).toF (xs := [14, 15]) rfl (fun _ => rfl); refine TL.y (Yv.build rfl rfl) ?_; refine TL.e (Ew.buildSlice rfl rfl rfl (by decide)) ?_; rintro _ _ ⟨g3, rfl, rfl⟩; refine TL.aZ (fun w hw => hw.freezeR (i := 2) (j := 0) (by decide) rfl rfl) ?_; rintro F3 ⟨le2_3, hz3⟩; dsimp only [List.set, List.eraseIdx]; have le1_3 := le1_2.trans le2_3; have hf3 : SlC F3.toFrz (.slice (some ⟨g3, 0, none⟩) 2 2) 1 ([14, 15].map eI) := (SlK.lit hz3 rfl (Nat.le_refl _) (by decide)).toF (xs := [14, 15]) rfl (fun _ => rfl); refine TL.y (Yv.build rfl rfl) ?_; refine TL.e (Ew.buildSlice rfl rfl rfl (by decide)) ?_; rintro _ _ ⟨g5, rfl, rfl⟩; refine TL.aZ (fun w hw => hw.freezeR (i := 2) (j := 0) (by decide) rfl rfl) ?_; rintro F4 ⟨le3_4, hz4⟩; dsimp only [List.set, List.eraseIdx]; have le1_4 := le1_3.trans le3_4; have le2_4 := le2_3.trans le3_4; have hf4 : SlC F4.toFrz (.slice (some ⟨g5, 0, none⟩) 2 2) 1 ([14, 15].map eI) := (SlK.lit hz4 rfl (Nat.le_refl _) (by decide)).toF (xs := [14, 15]) rfl (fun _ => rfl); refine TL.y (Yv.build rfl rfl) ?_; refine TL.e (Ew.buildSlice rfl rfl rfl (by decide)) ?_; rintro _ _ ⟨g7, rfl, rfl⟩; have hl7 : OwnD GDomain.rep F4.toFrz 2 [[.int .i64 1, (.slice (some ⟨g1, 0, none⟩) 2 2)], [.int .i64 2, (.slice (some ⟨g3, 0, none⟩) 2 2)], [.int .i64 3, (.slice (some ⟨g5, 0, none⟩) 2 2)]] [(GDomain.mk 1 [14, 15]), (GDomain.mk 2 [14, 15]), (GDomain.mk 3 [14, 15])] := (OwnD.snoc (OwnD.snoc (OwnD.snoc (OwnD.nil _ _ 2) ⟨_, rfl, (SlC.mono hf2 le2_4)⟩ rfl) ⟨_, rfl, (SlC.mono hf3 le3_4)⟩ rfl) ⟨_, rfl, hf4⟩ rfl); refine TL.e (Ew.af rfl rfl rfl (fun w hw => zc2 _ w (hw.fr (i := 2) rfl) 1 2)) ?_; rintro _ _ ⟨rfl, rfl⟩; refine TL.e (Ew.af rfl rfl rfl (fun w hw => zc2 _ w (hw.fr (i := 2) rfl) 1 3)) ?_; rintro _ _ ⟨rfl, rfl⟩; refine TL.e (Ew.af rfl rfl rfl (fun w hw => zc2 _ w (hw.fr (i := 2) rfl) 2 3)) ?_; rintro _ _ ⟨rfl, rfl⟩; refine TL.e (Ew.buildSlice rfl rfl rfl (by decide)) ?_; rintro _ _ ⟨g11, rfl, rfl⟩; refine TL.y (Yv.build rfl rfl) ?_; refine TL.y (Yv.build rfl rfl) ?_; refine TL.e0 (Ew.aj 2 rfl rfl rfl rfl rfl rfl) ?_; rintro _ _ ⟨rfl, rfl⟩; refine TL.nil (K.seq (T.ret ?_)); refine K.aZ (fun w hw => hw.freezeR (i := 3) (j := 1) (by decide) rfl rfl) ?_; rintro F5 ⟨le4_5, hz5⟩; dsimp only [List.set, List.eraseIdx]; have le1_5 := le1_4.trans le4_5; have le2_5 := le2_4.trans le4_5; have le3_5 := le3_4.trans le4_5; have hf5 : SlD GDomain.rep F5.toFrz (.slice (some ⟨g7, 0, none⟩) 3 3) 2 [[.int .i64 1, (.slice (some ⟨g1, 0, none⟩) 2 2)], [.int .i64 2, (.slice (some ⟨g3, 0, none⟩) 2 2)], [.int .i64 3, (.slice (some ⟨g5, 0, none⟩) 2 2)]] [(GDomain.mk 1 [14, 15]), (GDomain.mk 2 [14, 15]), (GDomain.mk 3 [14, 15])] := (SlK.lit hz5 rfl (Nat.le_refl _) (by decide)).toD (OwnD.mono (rep := GDomain.rep) (fun _ _ _ _ => GDomain.mono) hl7 le4_5) rfl; refine K.aZ (fun w hw => hw.freezeR (i := 2) (j := 0) (by decide) rfl rfl) ?_; rintro F6 ⟨le5_6, hz6⟩; dsimp only [List.set, List.eraseIdx]; have le1_6 := le1_5.trans le5_6; have le2_6 := le2_5.trans le5_6; have le3_6 := le3_5.trans le5_6; have le4_6 := le4_5.trans le5_6; have hf6 : SlC F6.toFrz (.slice (some ⟨g11, 0, none⟩) 3 3) 5 ([(zaz 1 2), (zaz 1 3), (zaz 2 3)].map GPair.enc) := (SlK.lit hz6 rfl (Nat.le_refl _) (by decide)).toF (xs := [(zaz 1 2), (zaz 1 3), (zaz 2 3)]) rfl GPair.len; subst hk; exact K.bB 0 rfl rfl rfl rfl (fun w' hw => ⟨((.slice (some ⟨g7, 0, none⟩) 3 3), [[.int .i64 1, (.slice (some ⟨g1, 0, none⟩) 2 2)], [.int .i64 2, (.slice (some ⟨g3, 0, none⟩) 2 2)], [.int .i64 3, (.slice (some ⟨g5, 0, none⟩) 2 2)]], (.slice (some ⟨g11, 0, none⟩) 3 3), (.slice none 0 0), (.slice none 0 0)), F6.toFrz, ⟨(SlD.mono (rep := GDomain.rep) (fun _ _ _ _ => GDomain.mono) hf5 le5_6), hf6, (SlC.nil _ 5), (SlC.nil _ 4)⟩, rfl, Fx.of hw (i := 1) rfl hS0 le1_6⟩)
def zbt (fuel : Nat) (x0_ : GStore) (g_ : List GChoice) (want : Bool) : Option Bool :=
  (zaM fuel x0_ g_).bind fun r12 =>
  some ((decide (r12.2 = 0)) && (r12.1 == want))
theorem zcq (F0 : Frz) (w : World) (hF0 : F0.At w) (x0_ : GStore) (g0_ : Nat) (k0_512 : SK) (v0_512 : Value) (L0_512 : Ws) (hs0_512 : SI x0_.start.1 x0_.start.2 k0_512 L0_512) (tf0_512 : TbF F0 k0_512) (zf0_512 : SzF F0 k0_512 v0_512 L0_512 (!x0_.start.2.2)) (v0_513 : Value) (c0_513 : List (List Value)) (h0_513 : OwnD R_List_GChoice.rep F0 1 c0_513 x0_.list) (g_ : List GChoice) (vg_ : Value) (hg_ : SlC F0 vg_ 2 (g_.map GChoice.enc)) (want : Bool) (htab : Tab w) (hO : Hp w (fps [.row g0_ 92 ((x0_.domains.1.map U) ++ [.pointer (some ⟨k0_512.sp, 0, none⟩), v0_513]), .sl v0_513 31 1 x0_.list.length c0_513.flatten]) [.row g0_ 92 ((x0_.domains.1.map U) ++ [.pointer (some ⟨k0_512.sp, 0, none⟩), v0_513]), .sl v0_513 31 1 x0_.list.length c0_513.flatten] w) (hA : ∀ g, fps [.row g0_ 92 ((x0_.domains.1.map U) ++ [.pointer (some ⟨k0_512.sp, 0, none⟩), v0_513]), .sl v0_513 31 1 x0_.list.length c0_513.flatten] g → ¬ F0.S g) (hZ : ¬ fps [.row g0_ 92 ((x0_.domains.1.map U) ++ [.pointer (some ⟨k0_512.sp, 0, none⟩), v0_513]), .sl v0_513 31 1 x0_.list.length c0_513.flatten] 0) (fuel : Nat) (hfu : 100000 ≤ fuel) (r : Bool) (hr : zbt fuel x0_ g_ want = some r) : Calls Tryz.prog 38 #[.pointer (some ⟨g0_, 0, none⟩), vg_, .bool want] w fun e w' => ∃ (y : Unit) (G : Frz), (True) ∧ e = .returned (.bool r) ∧ FxM F0 w (fps [.row g0_ 92 ((x0_.domains.1.map U) ++ [.pointer (some ⟨k0_512.sp, 0, none⟩), v0_513]), .sl v0_513 31 1 x0_.list.length c0_513.flatten]) G [.row g0_ 92 ((x0_.domains.1.map U) ++ [.pointer (some ⟨k0_512.sp, 0, none⟩), v0_513]), .sl v0_513 31 1 x0_.list.length c0_513.flatten] w' := by
  have hk := hr; unfold zbt at hk; haveI := hg_.oneC; haveI := zcN (hO.own (.sl v0_513 31 1 x0_.list.length c0_513.flatten) (by simp)); have hmx0_513 := zcV (hO.own (.sl v0_513 31 1 x0_.list.length c0_513.flatten) (by simp)); obtain ⟨S0, F1, rfl, hS0, hp0⟩ := zbu hF0 hO hA; have hM0 := hZ; have htk : ∀ {hs : HS} {w' : World}, Hp w (fps [.row g0_ 92 ((x0_.domains.1.map U) ++ [.pointer (some ⟨k0_512.sp, 0, none⟩), v0_513]), .sl v0_513 31 1 x0_.list.length c0_513.flatten]) hs w' → Tab w' := fun hw => htab.kept hw hZ; refine zad (M := fps [.row g0_ 92 ((x0_.domains.1.map U) ++ [.pointer (some ⟨k0_512.sp, 0, none⟩), v0_513]), .sl v0_513 31 1 x0_.list.length c0_513.flatten]) (hs := [.row g0_ 92 ((x0_.domains.1.map U) ++ [.pointer (some ⟨k0_512.sp, 0, none⟩), v0_513]), .sl v0_513 31 1 x0_.list.length c0_513.flatten, .fr F1]) Tryz.func38 rfl rfl rfl hp0 ?_; refine T.seq (T.region ?_); refine TL.run 1 rfl ?_; refine TL.nil (K.seq (T.seq ?_)); have hq := zak hk; clear hk; obtain ⟨r12, hr12, hk⟩ := hq; (try dsimp only at hk); refine T.region ?_; refine TL.run 2 rfl ?_; refine TL.e (Ew.aH [0, 1, 2] [.row g0_ 92 ((x0_.domains.1.map U) ++ ([.pointer (some ⟨k0_512.sp, 0, none⟩), v0_513] : List Value)), .sl v0_513 31 1 x0_.list.length c0_513.flatten] [] rfl rfl rfl rfl (by decide) (fun w hw hw2 hF => zbK _ w hF x0_ g0_ k0_512 v0_512 L0_512 hs0_512 tf0_512 zf0_512 v0_513 c0_513 h0_513 g_ vg_ hg_ (htk hw) hw2.takes.1 hw2.takes.2 (hw2.takes0 hM0 htab.pos) fuel hfu r12 hr12)) ?_; rintro _ _ ⟨⟨⟩, F2, le1_2, -, rfl, rfl⟩; dsimp only [List.cons_append, List.nil_append]; refine TL.run 5 rfl ?_; refine TL.nil (K.seq (T.seq ?_)); refine T.ao (ι := Unit) (fun z => [(6, .bool ((decide (r12.2 = 0)) && (r12.1 == want)))]) (fun z => [.row g0_ 92 ((x0_.domains.1.map U) ++ [.pointer (some ⟨k0_512.sp, 0, none⟩), v0_513]), .sl v0_513 31 1 x0_.list.length c0_513.flatten, .fr F2]) (fun z => True) ?_ ?_
  · refine T.region ?_; refine TL.run 3 rfl ?_; refine TL.gs rfl rfl rfl (fun h1 => ?_) (fun h1 => ?_)
    · have p1 := of_decide_eq_true h1; refine TL.run 2 rfl ?_; refine TL.y (Yv.cn (by kernel_rfl) rfl rfl rfl) ?_; refine TL.run 2 rfl ?_; refine TL.nil ?_; exact K.ak () trivial (.b (ze7 h1) .nil) (List.Sublist.refl _)
    · have p1 := of_decide_eq_false h1; refine TL.run 5 rfl ?_; refine TL.nil ?_; exact K.ak () trivial (.b (zbh h1).symm .nil) (List.Sublist.refl _)
  · rintro _ _; refine T.ret ?_; obtain rfl := Option.some.inj hk; exact K.ag rfl rfl (fun w' hw => ⟨⟨⟩, F2.toFrz, trivial, rfl, FxM.of (hw.pick (idx := [0, 1, 2]) rfl (by decide)) hS0 le1_2⟩)
def zbw (fuel : Nat)  : Option Bool :=
  (zb2 fuel (zaf)).bind fun r10 =>
  (bif (r10.1).isSome then
    grd (0 ≤ 2 ∧ 2 ≤ (((zaf).Domains).length : Int)) <|
    (zb2 fuel (GProblem.mk (((zaf).Domains).take 2) (GRules.mk [] [] []))).bind fun r18 =>
    (bif (r18.1).isSome then
      (bif ((decide (¬ r10.2 = 0)) || (decide (¬ r18.2 = 0))) then
        some false
        else
        (zau fuel (r10.1.getD default) []).bind fun r39 =>
        zaF (fun (s7 : Bool × List (List GChoice)) =>
          (bif s7.1 then
            some false
            else
            (zau fuel (GStore.mk ((r10.1.getD default).domains) (((r10.1.getD default).start).1, ((r10.1.getD default).start).2) s7.2) []).bind fun r84 =>
            (bif ((((decide (¬ r84.2.2 = 0)) || (!r84.2.1)) || (decide (¬ (r84.1.length : Int) = 0))) || (decide (¬ (zav (GStore.mk ((r10.1.getD default).domains) (((r10.1.getD default).start).1, ((r10.1.getD default).start).2) s7.2)) = 2))) then
              some false
              else
              (zaw (r18.1.getD default) [(GChoice.mk 1 14), (GChoice.mk 2 15)]).bind fun r108 =>
              (bif decide (¬ r108.1 = 0) then
                some false
                else
                (zau fuel (GStore.mk ((r18.1.getD default).domains) (((r18.1.getD default).start).1, ((r18.1.getD default).start).2) r108.2) [(GChoice.mk 1 14)]).bind fun r113 =>
                some (((((decide (r113.2.2 = 0)) && (!r113.2.1)) && (decide ((r113.1.length : Int) = 2))) && (zaJ ((nth r113.1 0).Channels) [14])) && (zaJ ((nth r113.1 1).Channels) [14]))))))
        (fun k7 =>
          (bif decide (¬ r39.2.2 = 0) then
            k7 (true, (r10.1.getD default).list)
            else
            (bif r39.2.1 then
              k7 (true, (r10.1.getD default).list)
              else
              (bif !(zbo r39.1 ((zaf).Domains)) then
                k7 (true, (r10.1.getD default).list)
                else
                (zbt fuel (r10.1.getD default) [(GChoice.mk 1 14)] true).bind fun r58 =>
                (bif !r58 then
                  k7 (true, (r10.1.getD default).list)
                  else
                  (zbt fuel (r10.1.getD default) [] false).bind fun r63 =>
                  (bif !r63 then
                    k7 (true, (r10.1.getD default).list)
                    else
                    (zaw (r10.1.getD default) [(GChoice.mk 1 14)]).bind fun r69 =>
                    (bif decide (¬ r69.1 = 0) then
                      k7 (true, r69.2)
                      else
                      (zbt fuel (GStore.mk ((r10.1.getD default).domains) (((r10.1.getD default).start).1, ((r10.1.getD default).start).2) r69.2) [] true).bind fun r74 =>
                      (bif !r74 then
                        k7 (true, r69.2)
                        else
                        (zaw (GStore.mk ((r10.1.getD default).domains) (((r10.1.getD default).start).1, ((r10.1.getD default).start).2) r69.2) []).bind fun r79 =>
                        k7 (decide (¬ r79.1 = 0), r79.2))))))))))
      else
      some false)
    else
    grd (0 ≤ 2 ∧ 2 ≤ (((zaf).Domains).length : Int)) <|
    (zb2 fuel (GProblem.mk (((zaf).Domains).take 2) (GRules.mk [] [] []))).bind fun r18 =>
    (bif (r18.1).isSome then
      some false
      else
      some false))
theorem zdK (F0 : Frz) (w : World) (hF0 : F0.At w)  (htab : Tab w) (fuel : Nat) (hfu : 100000 ≤ fuel) (r : Bool) (hr : zbw fuel = some r) : Calls Tryz.prog 11 #[] w fun e w' => e = .returned (.bool r) ∧ Below w.heap.size w w' := by
  have hk := hr; unfold zbw at hk; obtain ⟨S0, F1, rfl, hS0, hp0⟩ := zaq hF0; have hM0 : ¬ (fun _ : Nat => False) 0 := fun h => h; have htk : ∀ {hs : HS} {w' : World}, Hp w (fun _ => False) hs w' → Tab w' := fun hw => htab.keptF hw; refine zad (M := fun _ => False) (hs := [.fr F1]) Tryz.func11 rfl rfl rfl hp0 ?_; refine T.seq (T.region ?_); refine TL.run 1 rfl ?_; refine TL.nil (K.seq (T.seq ?_)); have hq := zak hk; clear hk; obtain ⟨r10, hr10, hk⟩ := hq; (try dsimp only at hk); refine T.be ((r10.1).isSome) (fun h1 => ?_) (fun h1 => ?_)
  · replace hk := zab hk h1; refine T.region ?_; refine TL.e (Ew.aR 0 rfl rfl rfl rfl (fun w hw hF => zbd _ w hF )) ?_; rintro _ _ ⟨⟨v9_0_0, cs9_0_0, v9_0_1, v9_0_2, v9_0_3⟩, F2, le1_2, ⟨hf9_0_0, hf9_0_1, hf9_0_2, hf9_0_3⟩, rfl, rfl⟩; dsimp only at hf9_0_0 hf9_0_1 hf9_0_2 hf9_0_3 ⊢; haveI := hf9_0_0.1.oneC; haveI := hf9_0_1.oneC; haveI := hf9_0_2.oneC; haveI := hf9_0_3.oneC; refine TL.e (Ew.aH [0] [] [] rfl rfl rfl rfl (by decide) (fun w hw hw2 hF => (zbG _ w hF (zaf) v9_0_0 cs9_0_0 hf9_0_0 v9_0_1 hf9_0_1 v9_0_2 hf9_0_2 v9_0_3 hf9_0_3 (htk hw) fuel hfu r10 hr10).mono (fun e w' hp => hp.1 h1))) ?_; rintro _ _ ⟨⟨g10_n, k10_n_512, v10_n_512, L10_n_512, v10_n_513, c10_n_513⟩, F3, le2_3, ⟨hs10_n_512, tf10_n_512, zf10_n_512, ho10_n_513⟩, rfl, rfl⟩; dsimp only [List.cons_append, List.nil_append]; (try dsimp only at hs10_n_512 tf10_n_512 zf10_n_512 ho10_n_513); have le1_3 := le1_2.trans le2_3; refine TL.bl 1 rfl ?_; intro iv10_n_513 hmv10_n_513; refine TL.run 5 rfl ?_; refine TL.nil (K.seq (T.seq ?_)); have hq : (0 ≤ 2 ∧ 2 ≤ (((zaf).Domains).length : Int)) ∧ _ := zbi hk; clear hk; obtain ⟨g16h, hk⟩ := hq; have hq := zak hk; clear hk; obtain ⟨r18, hr18, hk⟩ := hq; (try dsimp only at hk); refine T.be ((r18.1).isSome) (fun h2 => ?_) (fun h2 => ?_)
    · replace hk := zab hk h2; refine T.region ?_; refine TL.e (Ew.aR 2 rfl rfl rfl rfl (fun w hw hF => zbd _ w hF )) ?_; rintro _ _ ⟨⟨v14_0_0, cs14_0_0, v14_0_1, v14_0_2, v14_0_3⟩, F4, le3_4, ⟨hf14_0_0, hf14_0_1, hf14_0_2, hf14_0_3⟩, rfl, rfl⟩; dsimp only at hf14_0_0 hf14_0_1 hf14_0_2 hf14_0_3 ⊢; have le1_4 := le1_3.trans le3_4; have le2_4 := le2_3.trans le3_4; haveI := hf14_0_0.1.oneC; haveI := hf14_0_1.oneC; haveI := hf14_0_2.oneC; haveI := hf14_0_3.oneC; refine TL.y (Yv.field rfl rfl rfl) ?_; refine TL.y (Yv.bO (i := 2) rfl rfl rfl hf14_0_0.1 hf14_0_0.2.1 (show (2 : Int) = ((2 : Nat) : Int) from rfl) (by omega)) ?_; have hs16_ : SlD GDomain.rep F4.toFrz (zcs v14_0_0 0 2 2) 2 (cs14_0_0.take 2) (((zaf).Domains).take 2) := hf14_0_0.sliceh (i := 2) (by omega); haveI := hs16_.1.oneC; refine TL.y (Yv.build rfl rfl) ?_; refine TL.e (Ew.aH [2, 0, 1] [] [.row g10_n 92 ((((r10.1.getD default).domains).1.map U) ++ ([.pointer (some ⟨k10_n_512.sp, 0, none⟩), v10_n_513] : List Value)), .sl v10_n_513 31 1 ((r10.1.getD default).list).length c10_n_513.flatten] rfl rfl rfl rfl (by decide) (fun w hw hw2 hF => (zbG _ w hF (GProblem.mk (((zaf).Domains).take 2) (GRules.mk [] [] [])) (zcs v14_0_0 0 2 2) (cs14_0_0.take 2) hs16_ (.slice none 0 0) (SlC.nil _ 5) (.slice none 0 0) (SlC.nil _ 5) (.slice none 0 0) (SlC.nil _ 4) (htk hw) fuel hfu r18 hr18).mono (fun e w' hp => hp.1 h2))) ?_; rintro _ _ ⟨⟨g18_n, k18_n_512, v18_n_512, L18_n_512, v18_n_513, c18_n_513⟩, F5, le4_5, ⟨hs18_n_512, tf18_n_512, zf18_n_512, ho18_n_513⟩, rfl, rfl⟩; dsimp only [List.cons_append, List.nil_append]; (try dsimp only at hs18_n_512 tf18_n_512 zf18_n_512 ho18_n_513); have le1_5 := le1_4.trans le4_5; have le2_5 := le2_4.trans le4_5; have le3_5 := le3_4.trans le4_5; refine TL.bl 1 rfl ?_; intro iv18_n_513 hmv18_n_513; refine TL.run 5 rfl ?_; refine TL.nil (K.seq (T.seq (T.seq ?_))); refine T.ao (ι := Unit) (fun z => [(1, .pointer (some ⟨g10_n, 0, none⟩)), (3, .pointer (some ⟨g18_n, 0, none⟩)), (34, .bool ((decide (¬ r10.2 = 0)) || (decide (¬ r18.2 = 0))))]) (fun z => [.row g18_n 92 ((((r18.1.getD default).domains).1.map U) ++ [.pointer (some ⟨k18_n_512.sp, 0, none⟩), v18_n_513]), .sl v18_n_513 31 1 ((r18.1.getD default).list).length c18_n_513.flatten, .row g10_n 92 ((((r10.1.getD default).domains).1.map U) ++ [.pointer (some ⟨k10_n_512.sp, 0, none⟩), v10_n_513]), .sl v10_n_513 31 1 ((r10.1.getD default).list).length c10_n_513.flatten, .fr F5]) (fun z => True) ?_ ?_
      · refine T.region ?_; refine TL.run 1 rfl ?_; refine TL.y (Yv.bc (e := 92) (by kernel_rfl) rfl rfl rfl) ?_; refine TL.run 2 rfl ?_; refine TL.y (Yv.bc (e := 92) (by kernel_rfl) rfl rfl rfl) ?_; refine TL.run 6 rfl ?_; refine TL.gs rfl rfl rfl (fun h3 => ?_) (fun h3 => ?_)
        · have p3 := of_decide_eq_true h3; refine TL.run 3 rfl ?_; refine TL.nil ?_; refine K.pick [0, 1, 3, 4, 2] rfl (by decide) ?_; exact K.ak () trivial (.c (.c (.b (zbD h3).symm .nil))) (List.Sublist.refl _)
        · have p3 := of_decide_eq_false h3; refine TL.run 3 rfl ?_; refine TL.nil ?_; refine K.pick [0, 1, 3, 4, 2] rfl (by decide) ?_; exact K.ak () trivial (.c (.c (.b (or_f h3) .nil))) (List.Sublist.refl _)
      · rintro _ _; refine T.cond rfl (fun h4 => ?_) (fun h4 => ?_)
        · have p4 := h4; (try simp only [nfB] at p4); replace hk := zab hk h4; refine T.seq (T.region ?_); refine TL.run 1 rfl ?_; refine TL.nil (K.seq (T.ret (K.aa ?_))); obtain rfl := Option.some.inj hk; exact K.ag rfl rfl (fun w' hw => ⟨rfl, hw.isBelow⟩)
        · have p4 := h4; (try simp only [nfB] at p4); replace hk := zaa hk h4; refine T.skip (K.seq (T.seq (T.region ?_))); refine TL.y (Yv.build rfl rfl) ?_; refine TL.e (Ew.buildSlice rfl rfl rfl (by decide)) ?_; rintro _ _ ⟨g36, rfl, rfl⟩; refine TL.run 1 rfl ?_; refine TL.nil (K.seq (T.seq ?_)); have hq := zak hk; clear hk; obtain ⟨r39, hr39, hk⟩ := hq; (try dsimp only at hk); refine T.region ?_; refine TL.run 1 rfl ?_; refine TL.e (Ew.aH [3, 4, 5, 0, 1, 2] [.row g10_n 92 ((((r10.1.getD default).domains).1.map U) ++ ([.pointer (some ⟨k10_n_512.sp, 0, none⟩), v10_n_513] : List Value)), .sl v10_n_513 31 1 ((r10.1.getD default).list).length c10_n_513.flatten] [.row g36 50 [.int .i64 1, .int .i64 14], .row g18_n 92 ((((r18.1.getD default).domains).1.map U) ++ ([.pointer (some ⟨k18_n_512.sp, 0, none⟩), v18_n_513] : List Value)), .sl v18_n_513 31 1 ((r18.1.getD default).list).length c18_n_513.flatten] rfl rfl rfl rfl (by decide) (fun w hw hw2 hF => zaX _ w hF (r10.1.getD default) g10_n k10_n_512 v10_n_512 L10_n_512 hs10_n_512 (tf10_n_512.mono le3_5) (zf10_n_512.mono le3_5) v10_n_513 c10_n_513 (OwnD.mono (rep := R_List_GChoice.rep) (fun _ _ _ _ => R_List_GChoice.mono) ho10_n_513 le3_5) [] (.slice none 0 0) (SlC.nil _ 2) (htk hw) hw2.takes.1 hw2.takes.2 (hw2.takes0 hM0 htab.pos) fuel hfu r39 hr39)) ?_; rintro _ _ ⟨⟨v39_0_0, cs39_0_0⟩, F6, le5_6, hf39_0_0, rfl, rfl⟩; dsimp only [List.cons_append, List.nil_append]; (try dsimp only at hf39_0_0); have le1_6 := le1_5.trans le5_6; have le2_6 := le2_5.trans le5_6; have le3_6 := le3_5.trans le5_6; have le4_6 := le4_5.trans le5_6; haveI := hf39_0_0.1.oneC; refine TL.run 7 rfl ?_; refine TL.nil (K.seq (T.seq (T.seq ?_))); refine T.aZ (fun w hw => hw.freezeR (i := 2) (j := 3) (by decide) rfl rfl) ?_; rintro F7 ⟨le6_7, hz7⟩; dsimp only [List.set, List.eraseIdx]; have le1_7 := le1_6.trans le6_7; have le2_7 := le2_6.trans le6_7; have le3_7 := le3_6.trans le6_7; have le4_7 := le4_6.trans le6_7; have le5_7 := le5_6.trans le6_7; have hf7 : SlC F7.toFrz (.slice (some ⟨g36, 0, none⟩) 1 1) 2 ([(GChoice.mk 1 14)].map GChoice.enc) := (SlK.lit hz7 rfl (Nat.le_refl _) (by decide)).toF (xs := [(GChoice.mk 1 14)]) rfl GChoice.len; (try dsimp only at hk); have hq := zag hk; clear hk; obtain ⟨k7, hk7, hk⟩ := hq; (try dsimp only at hk); refine T.ao (ι := Bool × List (List GChoice) × Value × List (List Value) × FzB w (fun _ => False) S0) (fun z => [(1, .pointer (some ⟨g10_n, 0, none⟩)), (3, .pointer (some ⟨g18_n, 0, none⟩)), (5, (.slice (some ⟨g36, 0, none⟩) 1 1)), (81, .bool z.1)]) (fun z => [.sl z.2.2.1 31 1 z.2.1.length z.2.2.2.1.flatten, .row g10_n 92 ((((r10.1.getD default).domains).1.map U) ++ [.pointer (some ⟨k10_n_512.sp, 0, none⟩), z.2.2.1]), .row g18_n 92 ((((r18.1.getD default).domains).1.map U) ++ [.pointer (some ⟨k18_n_512.sp, 0, none⟩), v18_n_513]), .sl v18_n_513 31 1 ((r18.1.getD default).list).length c18_n_513.flatten, .fr z.2.2.2.2]) (fun z => k7 (z.1, z.2.1) = some r ∧ OwnD R_List_GChoice.rep z.2.2.2.2.toFrz 1 z.2.2.2.1 z.2.1 ∧ OneC z.2.2.1 ∧ F7.toFrz.Le z.2.2.2.2.toFrz) ?_ ?_
          · refine T.region ?_; refine TL.run 3 rfl ?_; refine TL.gs rfl rfl rfl (fun h8 => ?_) (fun h8 => ?_)
            · have p8 := of_decide_eq_true h8; replace hk := zab hk h8; refine TL.run 36 rfl ?_; refine TL.nil ?_; refine K.pick [1, 0, 3, 4, 2] rfl (by decide) ?_; exact K.ak (true, (r10.1.getD default).list, v10_n_513, c10_n_513, F7) ⟨hk, (OwnD.mono (rep := R_List_GChoice.rep) (fun _ _ _ _ => R_List_GChoice.mono) ho10_n_513 le3_7), inferInstance, (Frz.Le.refl _)⟩ (.c (.c (.c (.c .nil)))) (List.Sublist.refl _)
            · have p8 := of_decide_eq_false h8; replace hk := zaa hk h8; refine TL.run 3 rfl ?_; refine TL.gs rfl rfl rfl (fun h9 => ?_) (fun h9 => ?_)
              · have p9 := h9; (try simp only [nfB] at p9); replace hk := zab hk h9; refine TL.run 33 rfl ?_; refine TL.nil ?_; refine K.pick [1, 0, 3, 4, 2] rfl (by decide) ?_; exact K.ak (true, (r10.1.getD default).list, v10_n_513, c10_n_513, F7) ⟨hk, (OwnD.mono (rep := R_List_GChoice.rep) (fun _ _ _ _ => R_List_GChoice.mono) ho10_n_513 le3_7), inferInstance, (Frz.Le.refl _)⟩ (.c (.c (.c (.c .nil)))) (List.Sublist.refl _)
              · have p9 := h9; (try simp only [nfB] at p9); replace hk := zaa hk h9; refine TL.run 1 rfl ?_; refine TL.e (Ew.aR 2 rfl rfl rfl rfl (fun w hw hF => zbd _ w hF )) ?_; rintro _ _ ⟨⟨v50_0_0, cs50_0_0, v50_0_1, v50_0_2, v50_0_3⟩, F9, le7_9, ⟨hf50_0_0, hf50_0_1, hf50_0_2, hf50_0_3⟩, rfl, rfl⟩; dsimp only at hf50_0_0 hf50_0_1 hf50_0_2 hf50_0_3 ⊢; have le1_9 := le1_7.trans le7_9; have le2_9 := le2_7.trans le7_9; have le3_9 := le3_7.trans le7_9; have le4_9 := le4_7.trans le7_9; have le5_9 := le5_7.trans le7_9; have le6_9 := le6_7.trans le7_9; haveI := hf50_0_0.1.oneC; haveI := hf50_0_1.oneC; haveI := hf50_0_2.oneC; haveI := hf50_0_3.oneC; refine TL.y (Yv.field rfl rfl rfl) ?_; refine TL.e (Ew.af rfl rfl rfl (fun w hw => zdv _ w (hw.fr (i := 2) rfl) r39.1 v39_0_0 cs39_0_0 (SlD.mono (rep := GDomain.rep) (fun _ _ _ _ => GDomain.mono) hf39_0_0 le6_9) ((zaf).Domains) v50_0_0 cs50_0_0 hf50_0_0)) ?_; rintro _ _ ⟨rfl, rfl⟩; refine TL.run 3 rfl ?_; refine TL.gs rfl rfl rfl (fun h10 => ?_) (fun h10 => ?_)
                · have p10 := h10; (try simp only [nfB] at p10); replace hk := zab hk h10; refine TL.run 26 rfl ?_; refine TL.nil ?_; refine K.pick [1, 0, 3, 4, 2] rfl (by decide) ?_; exact K.ak (true, (r10.1.getD default).list, v10_n_513, c10_n_513, F9) ⟨hk, (OwnD.mono (rep := R_List_GChoice.rep) (fun _ _ _ _ => R_List_GChoice.mono) ho10_n_513 le3_9), inferInstance, le7_9⟩ (.c (.c (.c (.c .nil)))) (List.Sublist.refl _)
                · have p10 := h10; (try simp only [nfB] at p10); replace hk := zaa hk h10; refine TL.run 2 rfl ?_; have hq := zak hk; clear hk; obtain ⟨r58, hr58, hk⟩ := hq; refine TL.e (Ew.aH [0, 1, 2, 3, 4] [.row g10_n 92 ((((r10.1.getD default).domains).1.map U) ++ ([.pointer (some ⟨k10_n_512.sp, 0, none⟩), v10_n_513] : List Value)), .sl v10_n_513 31 1 ((r10.1.getD default).list).length c10_n_513.flatten] [.row g18_n 92 ((((r18.1.getD default).domains).1.map U) ++ ([.pointer (some ⟨k18_n_512.sp, 0, none⟩), v18_n_513] : List Value)), .sl v18_n_513 31 1 ((r18.1.getD default).list).length c18_n_513.flatten] rfl rfl rfl rfl (by decide) (fun w hw hw2 hF => zcq _ w hF (r10.1.getD default) g10_n k10_n_512 v10_n_512 L10_n_512 hs10_n_512 (tf10_n_512.mono le3_9) (zf10_n_512.mono le3_9) v10_n_513 c10_n_513 (OwnD.mono (rep := R_List_GChoice.rep) (fun _ _ _ _ => R_List_GChoice.mono) ho10_n_513 le3_9) [(GChoice.mk 1 14)] (.slice (some ⟨g36, 0, none⟩) 1 1) (SlC.mono hf7 le7_9) true (htk hw) hw2.takes.1 hw2.takes.2 (hw2.takes0 hM0 htab.pos) fuel hfu r58 hr58)) ?_; rintro _ _ ⟨⟨⟩, F10, le9_10, -, rfl, rfl⟩; dsimp only [List.cons_append, List.nil_append]; have le1_10 := le1_9.trans le9_10; have le2_10 := le2_9.trans le9_10; have le3_10 := le3_9.trans le9_10; have le4_10 := le4_9.trans le9_10; have le5_10 := le5_9.trans le9_10; have le6_10 := le6_9.trans le9_10; have le7_10 := le7_9.trans le9_10; refine TL.run 3 rfl ?_; refine TL.gs rfl rfl rfl (fun h11 => ?_) (fun h11 => ?_)
                  · have p11 := h11; (try simp only [nfB] at p11); replace hk := zab hk h11; refine TL.run 20 rfl ?_; refine TL.nil ?_; refine K.pick [1, 0, 3, 4, 2] rfl (by decide) ?_; exact K.ak (true, (r10.1.getD default).list, v10_n_513, c10_n_513, F10) ⟨hk, (OwnD.mono (rep := R_List_GChoice.rep) (fun _ _ _ _ => R_List_GChoice.mono) ho10_n_513 le3_10), inferInstance, le7_10⟩ (.c (.c (.c (.c .nil)))) (List.Sublist.refl _)
                  · have p11 := h11; (try simp only [nfB] at p11); replace hk := zaa hk h11; refine TL.run 1 rfl ?_; have hq := zak hk; clear hk; obtain ⟨r63, hr63, hk⟩ := hq; refine TL.e (Ew.aH [0, 1, 2, 3, 4] [.row g10_n 92 ((((r10.1.getD default).domains).1.map U) ++ ([.pointer (some ⟨k10_n_512.sp, 0, none⟩), v10_n_513] : List Value)), .sl v10_n_513 31 1 ((r10.1.getD default).list).length c10_n_513.flatten] [.row g18_n 92 ((((r18.1.getD default).domains).1.map U) ++ ([.pointer (some ⟨k18_n_512.sp, 0, none⟩), v18_n_513] : List Value)), .sl v18_n_513 31 1 ((r18.1.getD default).list).length c18_n_513.flatten] rfl rfl rfl rfl (by decide) (fun w hw hw2 hF => zcq _ w hF (r10.1.getD default) g10_n k10_n_512 v10_n_512 L10_n_512 hs10_n_512 (tf10_n_512.mono le3_10) (zf10_n_512.mono le3_10) v10_n_513 c10_n_513 (OwnD.mono (rep := R_List_GChoice.rep) (fun _ _ _ _ => R_List_GChoice.mono) ho10_n_513 le3_10) [] (.slice none 0 0) (SlC.nil _ 2) false (htk hw) hw2.takes.1 hw2.takes.2 (hw2.takes0 hM0 htab.pos) fuel hfu r63 hr63)) ?_; rintro _ _ ⟨⟨⟩, F11, le10_11, -, rfl, rfl⟩; dsimp only [List.cons_append, List.nil_append]; have le1_11 := le1_10.trans le10_11; have le2_11 := le2_10.trans le10_11; have le3_11 := le3_10.trans le10_11; have le4_11 := le4_10.trans le10_11; have le5_11 := le5_10.trans le10_11; have le6_11 := le6_10.trans le10_11; have le7_11 := le7_10.trans le10_11; have le9_11 := le9_10.trans le10_11; refine TL.run 3 rfl ?_; refine TL.gs rfl rfl rfl (fun h12 => ?_) (fun h12 => ?_)
                    · have p12 := h12; (try simp only [nfB] at p12); replace hk := zab hk h12; refine TL.run 15 rfl ?_; refine TL.nil ?_; refine K.pick [1, 0, 3, 4, 2] rfl (by decide) ?_; exact K.ak (true, (r10.1.getD default).list, v10_n_513, c10_n_513, F11) ⟨hk, (OwnD.mono (rep := R_List_GChoice.rep) (fun _ _ _ _ => R_List_GChoice.mono) ho10_n_513 le3_11), inferInstance, le7_11⟩ (.c (.c (.c (.c .nil)))) (List.Sublist.refl _)
                    · have p12 := h12; (try simp only [nfB] at p12); replace hk := zaa hk h12; refine TL.run 2 rfl ?_; have hq := zak hk; clear hk; obtain ⟨r69, hr69, hk⟩ := hq; refine TL.e (Ew.aH [0, 1, 2, 3, 4] [.row g10_n 92 ((((r10.1.getD default).domains).1.map U) ++ ([.pointer (some ⟨k10_n_512.sp, 0, none⟩), v10_n_513] : List Value)), .sl v10_n_513 31 1 ((r10.1.getD default).list).length c10_n_513.flatten] [.row g18_n 92 ((((r18.1.getD default).domains).1.map U) ++ ([.pointer (some ⟨k18_n_512.sp, 0, none⟩), v18_n_513] : List Value)), .sl v18_n_513 31 1 ((r18.1.getD default).list).length c18_n_513.flatten] rfl rfl rfl rfl (by decide) (fun w hw hw2 hF => zaW _ w hF (r10.1.getD default) g10_n k10_n_512 v10_n_512 L10_n_512 hs10_n_512 (tf10_n_512.mono le3_11) (zf10_n_512.mono le3_11) v10_n_513 c10_n_513 (OwnD.mono (rep := R_List_GChoice.rep) (fun _ _ _ _ => R_List_GChoice.mono) ho10_n_513 le3_11) [(GChoice.mk 1 14)] (.slice (some ⟨g36, 0, none⟩) 1 1) (SlC.mono hf7 le7_11) hw2.takes.1 hw2.takes.2 r69 hr69)) ?_; rintro _ _ ⟨⟨v69_1_513, c69_1_513⟩, F12, le11_12, ho69_1_513, rfl, rfl⟩; dsimp only [List.cons_append, List.nil_append]; (try dsimp only at ho69_1_513); have le1_12 := le1_11.trans le11_12; have le2_12 := le2_11.trans le11_12; have le3_12 := le3_11.trans le11_12; have le4_12 := le4_11.trans le11_12; have le5_12 := le5_11.trans le11_12; have le6_12 := le6_11.trans le11_12; have le7_12 := le7_11.trans le11_12; have le9_12 := le9_11.trans le11_12; have le10_12 := le10_11.trans le11_12; refine TL.bl 1 rfl ?_; intro iv69_1_513 hmv69_1_513; refine TL.run 3 rfl ?_; refine TL.gs rfl rfl rfl (fun h13 => ?_) (fun h13 => ?_)
                      · have p13 := of_decide_eq_true h13; replace hk := zab hk h13; refine TL.run 9 rfl ?_; refine TL.nil ?_; refine K.pick [1, 0, 3, 4, 2] rfl (by decide) ?_; exact K.ak (true, r69.2, v69_1_513, c69_1_513, F12) ⟨hk, ho69_1_513, inferInstance, le7_12⟩ (.c (.c (.c (.c .nil)))) (List.Sublist.refl _)
                      · have p13 := of_decide_eq_false h13; replace hk := zaa hk h13; refine TL.run 1 rfl ?_; have hq := zak hk; clear hk; obtain ⟨r74, hr74, hk⟩ := hq; refine TL.e (Ew.aH [0, 1, 2, 3, 4] [.row g10_n 92 ((((r10.1.getD default).domains).1.map U) ++ ([.pointer (some ⟨k10_n_512.sp, 0, none⟩), v69_1_513] : List Value)), .sl v69_1_513 31 1 r69.2.length c69_1_513.flatten] [.row g18_n 92 ((((r18.1.getD default).domains).1.map U) ++ ([.pointer (some ⟨k18_n_512.sp, 0, none⟩), v18_n_513] : List Value)), .sl v18_n_513 31 1 ((r18.1.getD default).list).length c18_n_513.flatten] rfl rfl rfl rfl (by decide) (fun w hw hw2 hF => zcq _ w hF (GStore.mk ((r10.1.getD default).domains) (((r10.1.getD default).start).1, ((r10.1.getD default).start).2) r69.2) g10_n k10_n_512 v10_n_512 L10_n_512 hs10_n_512 (tf10_n_512.mono le3_12) (zf10_n_512.mono le3_12) v69_1_513 c69_1_513 ho69_1_513 [] (.slice none 0 0) (SlC.nil _ 2) true (htk hw) hw2.takes.1 hw2.takes.2 (hw2.takes0 hM0 htab.pos) fuel hfu r74 hr74)) ?_; rintro _ _ ⟨⟨⟩, F13, le12_13, -, rfl, rfl⟩; dsimp only [List.cons_append, List.nil_append]; have le1_13 := le1_12.trans le12_13; have le2_13 := le2_12.trans le12_13; have le3_13 := le3_12.trans le12_13; have le4_13 := le4_12.trans le12_13; have le5_13 := le5_12.trans le12_13; have le6_13 := le6_12.trans le12_13; have le7_13 := le7_12.trans le12_13; have le9_13 := le9_12.trans le12_13; have le10_13 := le10_12.trans le12_13; have le11_13 := le11_12.trans le12_13; refine TL.run 3 rfl ?_; refine TL.gs rfl rfl rfl (fun h14 => ?_) (fun h14 => ?_)
                        · have p14 := h14; (try simp only [nfB] at p14); replace hk := zab hk h14; refine TL.run 4 rfl ?_; refine TL.nil ?_; refine K.pick [1, 0, 3, 4, 2] rfl (by decide) ?_; exact K.ak (true, r69.2, v69_1_513, c69_1_513, F13) ⟨hk, (OwnD.mono (rep := R_List_GChoice.rep) (fun _ _ _ _ => R_List_GChoice.mono) ho69_1_513 le12_13), inferInstance, le7_13⟩ (.c (.c (.c (.c .nil)))) (List.Sublist.refl _)
                        · have p14 := h14; (try simp only [nfB] at p14); replace hk := zaa hk h14; refine TL.run 1 rfl ?_; have hq := zak hk; clear hk; obtain ⟨r79, hr79, hk⟩ := hq; refine TL.e (Ew.aH [0, 1, 2, 3, 4] [.row g10_n 92 ((((r10.1.getD default).domains).1.map U) ++ ([.pointer (some ⟨k10_n_512.sp, 0, none⟩), v69_1_513] : List Value)), .sl v69_1_513 31 1 r69.2.length c69_1_513.flatten] [.row g18_n 92 ((((r18.1.getD default).domains).1.map U) ++ ([.pointer (some ⟨k18_n_512.sp, 0, none⟩), v18_n_513] : List Value)), .sl v18_n_513 31 1 ((r18.1.getD default).list).length c18_n_513.flatten] rfl rfl rfl rfl (by decide) (fun w hw hw2 hF => zaW _ w hF (GStore.mk ((r10.1.getD default).domains) (((r10.1.getD default).start).1, ((r10.1.getD default).start).2) r69.2) g10_n k10_n_512 v10_n_512 L10_n_512 hs10_n_512 (tf10_n_512.mono le3_13) (zf10_n_512.mono le3_13) v69_1_513 c69_1_513 (OwnD.mono (rep := R_List_GChoice.rep) (fun _ _ _ _ => R_List_GChoice.mono) ho69_1_513 le12_13) [] (.slice none 0 0) (SlC.nil _ 2) hw2.takes.1 hw2.takes.2 r79 hr79)) ?_; rintro _ _ ⟨⟨v79_1_513, c79_1_513⟩, F14, le13_14, ho79_1_513, rfl, rfl⟩; dsimp only [List.cons_append, List.nil_append]; (try dsimp only at ho79_1_513); have le1_14 := le1_13.trans le13_14; have le2_14 := le2_13.trans le13_14; have le3_14 := le3_13.trans le13_14; have le4_14 := le4_13.trans le13_14; have le5_14 := le5_13.trans le13_14; have le6_14 := le6_13.trans le13_14; have le7_14 := le7_13.trans le13_14; have le9_14 := le9_13.trans le13_14; have le10_14 := le10_13.trans le13_14; have le11_14 := le11_13.trans le13_14; have le12_14 := le12_13.trans le13_14; refine TL.bl 1 rfl ?_; intro iv79_1_513 hmv79_1_513; refine TL.run 2 rfl ?_; refine TL.nil ?_; refine K.pick [1, 0, 3, 4, 2] rfl (by decide) ?_; exact K.ak (decide (¬ r79.1 = 0), r79.2, v79_1_513, c79_1_513, F14) ⟨hk, ho79_1_513, inferInstance, le7_14⟩ (.c (.c (.c (.c .nil)))) (List.Sublist.refl _)
          · rintro ⟨x_5, c_6, vc_6, cc_6, F8⟩ ⟨hk, hc_6, oc_6, le7_8⟩; (try dsimp only at *); rw [← hk7] at hk; (try dsimp only at hk); have le1_8 := le1_7.trans le7_8; have le2_8 := le2_7.trans le7_8; have le3_8 := le3_7.trans le7_8; have le4_8 := le4_7.trans le7_8; have le5_8 := le5_7.trans le7_8; have le6_8 := le6_7.trans le7_8; refine T.cond rfl (fun h15 => ?_) (fun h15 => ?_)
            · have p15 := h15; (try simp only [nfB] at p15); replace hk := zab hk h15; refine T.seq (T.region ?_); refine TL.run 1 rfl ?_; refine TL.nil (K.seq (T.ret (K.aa ?_))); obtain rfl := Option.some.inj hk; exact K.ag rfl rfl (fun w' hw => ⟨rfl, hw.isBelow⟩)
            · have p15 := h15; (try simp only [nfB] at p15); replace hk := zaa hk h15; refine T.skip (K.seq (T.seq ?_)); have hq := zak hk; clear hk; obtain ⟨r84, hr84, hk⟩ := hq; (try dsimp only at hk); refine T.region ?_; refine TL.run 1 rfl ?_; refine TL.e (Ew.aH [1, 0, 4, 2, 3] [.row g10_n 92 ((((r10.1.getD default).domains).1.map U) ++ ([.pointer (some ⟨k10_n_512.sp, 0, none⟩), vc_6] : List Value)), .sl vc_6 31 1 c_6.length cc_6.flatten] [.row g18_n 92 ((((r18.1.getD default).domains).1.map U) ++ ([.pointer (some ⟨k18_n_512.sp, 0, none⟩), v18_n_513] : List Value)), .sl v18_n_513 31 1 ((r18.1.getD default).list).length c18_n_513.flatten] rfl rfl rfl rfl (by decide) (fun w hw hw2 hF => zaX _ w hF (GStore.mk ((r10.1.getD default).domains) (((r10.1.getD default).start).1, ((r10.1.getD default).start).2) c_6) g10_n k10_n_512 v10_n_512 L10_n_512 hs10_n_512 (tf10_n_512.mono le3_8) (zf10_n_512.mono le3_8) vc_6 cc_6 hc_6 [] (.slice none 0 0) (SlC.nil _ 2) (htk hw) hw2.takes.1 hw2.takes.2 (hw2.takes0 hM0 htab.pos) fuel hfu r84 hr84)) ?_; rintro _ _ ⟨⟨v84_0_0, cs84_0_0⟩, F15, le8_15, hf84_0_0, rfl, rfl⟩; dsimp only [List.cons_append, List.nil_append]; (try dsimp only at hf84_0_0); have le1_15 := le1_8.trans le8_15; have le2_15 := le2_8.trans le8_15; have le3_15 := le3_8.trans le8_15; have le4_15 := le4_8.trans le8_15; have le5_15 := le5_8.trans le8_15; have le6_15 := le6_8.trans le8_15; have le7_15 := le7_8.trans le8_15; haveI := hf84_0_0.1.oneC; refine TL.run 7 rfl ?_; refine TL.nil (K.seq (T.seq (T.seq ?_))); refine T.ao (ι := Unit) (fun z => [(3, .pointer (some ⟨g18_n, 0, none⟩)), (5, (.slice (some ⟨g36, 0, none⟩) 1 1)), (103, .bool ((((decide (¬ r84.2.2 = 0)) || (!r84.2.1)) || (decide (¬ (r84.1.length : Int) = 0))) || (decide (¬ (zav (GStore.mk ((r10.1.getD default).domains) (((r10.1.getD default).start).1, ((r10.1.getD default).start).2) c_6)) = 2))))]) (fun z => [.row g10_n 92 ((((r10.1.getD default).domains).1.map U) ++ [.pointer (some ⟨k10_n_512.sp, 0, none⟩), vc_6]), .sl vc_6 31 1 c_6.length cc_6.flatten, .row g18_n 92 ((((r18.1.getD default).domains).1.map U) ++ [.pointer (some ⟨k18_n_512.sp, 0, none⟩), v18_n_513]), .sl v18_n_513 31 1 ((r18.1.getD default).list).length c18_n_513.flatten, .fr F15]) (fun z => True) ?_ ?_
              · refine T.region ?_; refine TL.run 3 rfl ?_; refine TL.gs rfl rfl rfl (fun h16 => ?_) (fun h16 => ?_)
                · have p16 := of_decide_eq_true h16; refine TL.run 13 rfl ?_; refine TL.nil ?_; refine K.pick [0, 1, 3, 4, 2] rfl (by decide) ?_; exact K.ak () trivial (.c (.c (.b (zbD (zbD (zbD h16))).symm .nil))) (List.Sublist.refl _)
                · have p16 := of_decide_eq_false h16; refine TL.run 4 rfl ?_; refine TL.gs rfl rfl rfl (fun h17 => ?_) (fun h17 => ?_)
                  · have p17 := h17; (try simp only [nfB] at p17); refine TL.run 9 rfl ?_; refine TL.nil ?_; refine K.pick [0, 1, 3, 4, 2] rfl (by decide) ?_; exact K.ak () trivial (.c (.c (.b (zbD (zbD (zca h16 h17))).symm .nil))) (List.Sublist.refl _)
                  · have p17 := h17; (try simp only [nfB] at p17); refine TL.run 1 rfl ?_; refine TL.y (Yv.aA rfl rfl hf84_0_0.1 hf84_0_0.2.1) ?_; have hm96 : r84.1.length ≤ 9223372036854775807 := hf84_0_0.2.1 ▸ hf84_0_0.1.max; refine TL.run 3 rfl ?_; refine TL.gs rfl rfl rfl (fun h18 => ?_) (fun h18 => ?_)
                    · have p18 := of_decide_eq_true h18; refine TL.run 4 rfl ?_; refine TL.nil ?_; refine K.pick [0, 1, 3, 4, 2] rfl (by decide) ?_; exact K.ak () trivial (.c (.c (.b (zbD (zca (zca h16 h17) h18)).symm .nil))) (List.Sublist.refl _)
                    · have p18 := of_decide_eq_false h18; refine TL.run 1 rfl ?_; refine TL.e (Ew.aW [0, 1, 2, 3, 4] [.row g10_n 92 ((((r10.1.getD default).domains).1.map U) ++ ([.pointer (some ⟨k10_n_512.sp, 0, none⟩), vc_6] : List Value)), .sl vc_6 31 1 c_6.length cc_6.flatten] [.row g18_n 92 ((((r18.1.getD default).domains).1.map U) ++ ([.pointer (some ⟨k18_n_512.sp, 0, none⟩), v18_n_513] : List Value)), .sl v18_n_513 31 1 ((r18.1.getD default).list).length c18_n_513.flatten] rfl rfl rfl rfl (by decide) (fun w hw hw2 hF => zb1 _ w hF (GStore.mk ((r10.1.getD default).domains) (((r10.1.getD default).start).1, ((r10.1.getD default).start).2) c_6) g10_n k10_n_512 v10_n_512 L10_n_512 hs10_n_512 (tf10_n_512.mono le3_15) (zf10_n_512.mono le3_15) vc_6 cc_6 (OwnD.mono (rep := R_List_GChoice.rep) (fun _ _ _ _ => R_List_GChoice.mono) hc_6 le8_15) hw2.takes.1 hw2.takes.2)) ?_; rintro _ _ ⟨⟨⟩, -, rfl, rfl⟩; dsimp only [List.cons_append, List.nil_append]; refine TL.run 2 rfl ?_; refine TL.nil ?_; refine K.pick [0, 1, 3, 4, 2] rfl (by decide) ?_; exact K.ak () trivial (.c (.c (.b (or_f (zca (zca h16 h17) h18)) .nil))) (List.Sublist.refl _)
              · rintro _ _; have hm96 : r84.1.length ≤ 9223372036854775807 := hf84_0_0.2.1 ▸ hf84_0_0.1.max; refine T.cond rfl (fun h19 => ?_) (fun h19 => ?_)
                · have p19 := h19; (try simp only [nfB] at p19); replace hk := zab hk h19; refine T.seq (T.region ?_); refine TL.run 1 rfl ?_; refine TL.nil (K.seq (T.ret (K.aa ?_))); obtain rfl := Option.some.inj hk; exact K.ag rfl rfl (fun w' hw => ⟨rfl, hw.isBelow⟩)
                · have p19 := h19; (try simp only [nfB] at p19); replace hk := zaa hk h19; refine T.skip (K.seq (T.seq (T.seq ?_))); have hq := zak hk; clear hk; obtain ⟨r108, hr108, hk⟩ := hq; (try dsimp only at hk); refine T.region ?_; refine TL.run 1 rfl ?_; refine TL.y (Yv.build rfl rfl) ?_; refine TL.y (Yv.build rfl rfl) ?_; refine TL.e (Ew.buildSlice rfl rfl rfl (by decide)) ?_; rintro _ _ ⟨g107, rfl, rfl⟩; refine TL.aZ (fun w hw => hw.freezeR (i := 5) (j := 0) (by decide) rfl rfl) ?_; rintro F16 ⟨le15_16, hz16⟩; dsimp only [List.set, List.eraseIdx]; have le1_16 := le1_15.trans le15_16; have le2_16 := le2_15.trans le15_16; have le3_16 := le3_15.trans le15_16; have le4_16 := le4_15.trans le15_16; have le5_16 := le5_15.trans le15_16; have le6_16 := le6_15.trans le15_16; have le7_16 := le7_15.trans le15_16; have le8_16 := le8_15.trans le15_16; have hf16 : SlC F16.toFrz (.slice (some ⟨g107, 0, none⟩) 2 2) 2 ([(GChoice.mk 1 14), (GChoice.mk 2 15)].map GChoice.enc) := (SlK.lit hz16 rfl (Nat.le_refl _) (by decide)).toF (xs := [(GChoice.mk 1 14), (GChoice.mk 2 15)]) rfl GChoice.len; refine TL.e (Ew.aH [2, 3, 4, 0, 1] [.row g18_n 92 ((((r18.1.getD default).domains).1.map U) ++ ([.pointer (some ⟨k18_n_512.sp, 0, none⟩), v18_n_513] : List Value)), .sl v18_n_513 31 1 ((r18.1.getD default).list).length c18_n_513.flatten] [.row g10_n 92 ((((r10.1.getD default).domains).1.map U) ++ ([.pointer (some ⟨k10_n_512.sp, 0, none⟩), vc_6] : List Value)), .sl vc_6 31 1 c_6.length cc_6.flatten] rfl rfl rfl rfl (by decide) (fun w hw hw2 hF => zaW _ w hF (r18.1.getD default) g18_n k18_n_512 v18_n_512 L18_n_512 hs18_n_512 (tf18_n_512.mono le5_16) (zf18_n_512.mono le5_16) v18_n_513 c18_n_513 (OwnD.mono (rep := R_List_GChoice.rep) (fun _ _ _ _ => R_List_GChoice.mono) ho18_n_513 le5_16) [(GChoice.mk 1 14), (GChoice.mk 2 15)] (.slice (some ⟨g107, 0, none⟩) 2 2) hf16 hw2.takes.1 hw2.takes.2 r108 hr108)) ?_; rintro _ _ ⟨⟨v108_1_513, c108_1_513⟩, F17, le16_17, ho108_1_513, rfl, rfl⟩; dsimp only [List.cons_append, List.nil_append]; (try dsimp only at ho108_1_513); have le1_17 := le1_16.trans le16_17; have le2_17 := le2_16.trans le16_17; have le3_17 := le3_16.trans le16_17; have le4_17 := le4_16.trans le16_17; have le5_17 := le5_16.trans le16_17; have le6_17 := le6_16.trans le16_17; have le7_17 := le7_16.trans le16_17; have le8_17 := le8_16.trans le16_17; have le15_17 := le15_16.trans le16_17; refine TL.bl 1 rfl ?_; intro iv108_1_513 hmv108_1_513; refine TL.run 1 rfl ?_; refine TL.nil (K.seq ?_); refine T.cond rfl (fun h20 => ?_) (fun h20 => ?_)
                  · have p20 := of_decide_eq_true h20; replace hk := zab hk h20; refine T.seq (T.region ?_); refine TL.run 1 rfl ?_; refine TL.nil (K.seq (T.ret (K.aa ?_))); obtain rfl := Option.some.inj hk; exact K.ag rfl rfl (fun w' hw => ⟨rfl, hw.isBelow⟩)
                  · have p20 := of_decide_eq_false h20; replace hk := zaa hk h20; refine T.skip (K.seq (T.seq ?_)); have hq := zak hk; clear hk; obtain ⟨r113, hr113, hk⟩ := hq; (try dsimp only at hk); refine T.region ?_; refine TL.run 2 rfl ?_; refine TL.e (Ew.aH [0, 1, 2, 3, 4] [.row g18_n 92 ((((r18.1.getD default).domains).1.map U) ++ ([.pointer (some ⟨k18_n_512.sp, 0, none⟩), v108_1_513] : List Value)), .sl v108_1_513 31 1 r108.2.length c108_1_513.flatten] [.row g10_n 92 ((((r10.1.getD default).domains).1.map U) ++ ([.pointer (some ⟨k10_n_512.sp, 0, none⟩), vc_6] : List Value)), .sl vc_6 31 1 c_6.length cc_6.flatten] rfl rfl rfl rfl (by decide) (fun w hw hw2 hF => zaX _ w hF (GStore.mk ((r18.1.getD default).domains) (((r18.1.getD default).start).1, ((r18.1.getD default).start).2) r108.2) g18_n k18_n_512 v18_n_512 L18_n_512 hs18_n_512 (tf18_n_512.mono le5_17) (zf18_n_512.mono le5_17) v108_1_513 c108_1_513 ho108_1_513 [(GChoice.mk 1 14)] (.slice (some ⟨g36, 0, none⟩) 1 1) (SlC.mono hf7 le7_17) (htk hw) hw2.takes.1 hw2.takes.2 (hw2.takes0 hM0 htab.pos) fuel hfu r113 hr113)) ?_; rintro _ _ ⟨⟨v113_0_0, cs113_0_0⟩, F18, le17_18, hf113_0_0, rfl, rfl⟩; dsimp only [List.cons_append, List.nil_append]; (try dsimp only at hf113_0_0); have le1_18 := le1_17.trans le17_18; have le2_18 := le2_17.trans le17_18; have le3_18 := le3_17.trans le17_18; have le4_18 := le4_17.trans le17_18; have le5_18 := le5_17.trans le17_18; have le6_18 := le6_17.trans le17_18; have le7_18 := le7_17.trans le17_18; have le8_18 := le8_17.trans le17_18; have le15_18 := le15_17.trans le17_18; have le16_18 := le16_17.trans le17_18; haveI := hf113_0_0.1.oneC; refine TL.run 7 rfl ?_; refine TL.nil (K.seq (T.seq ?_)); refine T.ao (ι := FzB w (fun _ => False) S0) (fun z => [(0, .bool (((((decide (r113.2.2 = 0)) && (!r113.2.1)) && (decide ((r113.1.length : Int) = 2))) && (zaJ ((nth r113.1 0).Channels) [14])) && (zaJ ((nth r113.1 1).Channels) [14])))]) (fun z => [.row g18_n 92 ((((r18.1.getD default).domains).1.map U) ++ [.pointer (some ⟨k18_n_512.sp, 0, none⟩), v108_1_513]), .sl v108_1_513 31 1 r108.2.length c108_1_513.flatten, .row g10_n 92 ((((r10.1.getD default).domains).1.map U) ++ [.pointer (some ⟨k10_n_512.sp, 0, none⟩), vc_6]), .sl vc_6 31 1 c_6.length cc_6.flatten, .fr z]) (fun z => F18.toFrz.Le z.toFrz) ?_ ?_
                    · refine T.region ?_; refine TL.run 3 rfl ?_; refine TL.gs rfl rfl rfl (fun h21 => ?_) (fun h21 => ?_)
                      · have p21 := of_decide_eq_true h21; refine TL.run 4 rfl ?_; refine TL.gs rfl rfl rfl (fun h22 => ?_) (fun h22 => ?_)
                        · have p22 := h22; (try simp only [nfB] at p22); refine TL.run 1 rfl ?_; refine TL.y (Yv.aA rfl rfl hf113_0_0.1 hf113_0_0.2.1) ?_; have hm125 : r113.1.length ≤ 9223372036854775807 := hf113_0_0.2.1 ▸ hf113_0_0.1.max; refine TL.run 3 rfl ?_; refine TL.gs rfl rfl rfl (fun h23 => ?_) (fun h23 => ?_)
                          · have p23 := of_decide_eq_true h23; refine TL.run 1 rfl ?_; refine TL.y (Yv.az (i := 0) rfl rfl rfl hf113_0_0.1 hf113_0_0.2.1 (show (0 : Int) = ((0 : Nat) : Int) from rfl) (by omega)) ?_; refine TL.y (Yv.aQ rfl rfl hf113_0_0.1 hf113_0_0.2.1 (by omega)) ?_; refine TL.y (Yv.loadR 2 (i := 0) (j := 1) rfl rfl rfl hf113_0_0.1 hf113_0_0.2.1 (by omega) rfl (GDomain.c1 (hf113_0_0.2.2 0 (by omega))).1) ?_; have hd132_1 := (GDomain.c1 (hf113_0_0.2.2 0 (by omega))).2; haveI := hd132_1.oneC; refine TL.e (Ew.buildSlice rfl rfl rfl (by decide)) ?_; rintro _ _ ⟨g133, rfl, rfl⟩; refine TL.aZ (fun w hw => hw.freezeR (i := 3) (j := 0) (by decide) rfl rfl) ?_; rintro F20 ⟨le18_20, hz20⟩; dsimp only [List.set, List.eraseIdx]; have le1_20 := le1_18.trans le18_20; have le2_20 := le2_18.trans le18_20; have le3_20 := le3_18.trans le18_20; have le4_20 := le4_18.trans le18_20; have le5_20 := le5_18.trans le18_20; have le6_20 := le6_18.trans le18_20; have le7_20 := le7_18.trans le18_20; have le8_20 := le8_18.trans le18_20; have le15_20 := le15_18.trans le18_20; have le16_20 := le16_18.trans le18_20; have le17_20 := le17_18.trans le18_20; have hf20 : SlC F20.toFrz (.slice (some ⟨g133, 0, none⟩) 1 1) 1 ([14].map eI) := (SlK.lit hz20 rfl (Nat.le_refl _) (by decide)).toF (xs := [14]) rfl (fun _ => rfl); refine TL.e (Ew.af rfl rfl rfl (fun w hw => zb5 _ w (hw.fr (i := 2) rfl) ((nth r113.1 0).Channels) (nth (nth cs113_0_0 0) 1) (SlC.mono hd132_1 le18_20) [14] (.slice (some ⟨g133, 0, none⟩) 1 1) hf20)) ?_; rintro _ _ ⟨rfl, rfl⟩; refine TL.run 2 rfl ?_; refine TL.gs rfl rfl rfl (fun h24 => ?_) (fun h24 => ?_)
                            · have p24 := h24; (try simp only [nfB] at p24); refine TL.run 1 rfl ?_; refine TL.y (Yv.az (i := 1) rfl rfl rfl (SlD.mono (rep := GDomain.rep) (fun _ _ _ _ => GDomain.mono) hf113_0_0 le18_20).1 (SlD.mono (rep := GDomain.rep) (fun _ _ _ _ => GDomain.mono) hf113_0_0 le18_20).2.1 (show (1 : Int) = ((1 : Nat) : Int) from rfl) (by omega)) ?_; refine TL.y (Yv.aQ rfl rfl (SlD.mono (rep := GDomain.rep) (fun _ _ _ _ => GDomain.mono) hf113_0_0 le18_20).1 (SlD.mono (rep := GDomain.rep) (fun _ _ _ _ => GDomain.mono) hf113_0_0 le18_20).2.1 (by omega)) ?_; refine TL.y (Yv.loadR 2 (i := 1) (j := 1) rfl rfl rfl (SlD.mono (rep := GDomain.rep) (fun _ _ _ _ => GDomain.mono) hf113_0_0 le18_20).1 (SlD.mono (rep := GDomain.rep) (fun _ _ _ _ => GDomain.mono) hf113_0_0 le18_20).2.1 (by omega) rfl (GDomain.c1 ((SlD.mono (rep := GDomain.rep) (fun _ _ _ _ => GDomain.mono) hf113_0_0 le18_20).2.2 1 (by omega))).1) ?_; have hd140_1 := (GDomain.c1 ((SlD.mono (rep := GDomain.rep) (fun _ _ _ _ => GDomain.mono) hf113_0_0 le18_20).2.2 1 (by omega))).2; haveI := hd140_1.oneC; refine TL.e (Ew.buildSlice rfl rfl rfl (by decide)) ?_; rintro _ _ ⟨g141, rfl, rfl⟩; refine TL.aZ (fun w hw => hw.freezeR (i := 3) (j := 0) (by decide) rfl rfl) ?_; rintro F21 ⟨le20_21, hz21⟩; dsimp only [List.set, List.eraseIdx]; have le1_21 := le1_20.trans le20_21; have le2_21 := le2_20.trans le20_21; have le3_21 := le3_20.trans le20_21; have le4_21 := le4_20.trans le20_21; have le5_21 := le5_20.trans le20_21; have le6_21 := le6_20.trans le20_21; have le7_21 := le7_20.trans le20_21; have le8_21 := le8_20.trans le20_21; have le15_21 := le15_20.trans le20_21; have le16_21 := le16_20.trans le20_21; have le17_21 := le17_20.trans le20_21; have le18_21 := le18_20.trans le20_21; have hf21 : SlC F21.toFrz (.slice (some ⟨g141, 0, none⟩) 1 1) 1 ([14].map eI) := (SlK.lit hz21 rfl (Nat.le_refl _) (by decide)).toF (xs := [14]) rfl (fun _ => rfl); refine TL.e (Ew.af rfl rfl rfl (fun w hw => zb5 _ w (hw.fr (i := 2) rfl) ((nth r113.1 1).Channels) (nth (nth cs113_0_0 1) 1) (SlC.mono hd140_1 le20_21) [14] (.slice (some ⟨g141, 0, none⟩) 1 1) hf21)) ?_; rintro _ _ ⟨rfl, rfl⟩; refine TL.run 2 rfl ?_; refine TL.nil ?_; refine K.pick [0, 1, 3, 4, 2] rfl (by decide) ?_; exact K.ak F21 le18_21 (.b (ze7 (zbQ (zbQ (zbQ h21 h22) h23) h24)) .nil) (List.Sublist.refl _)
                            · have p24 := h24; (try simp only [nfB] at p24); refine TL.run 8 rfl ?_; refine TL.nil ?_; refine K.pick [0, 1, 3, 4, 2] rfl (by decide) ?_; exact K.ak F20 le18_20 (.b (zbh (zbQ (zbQ (zbQ h21 h22) h23) h24)).symm .nil) (List.Sublist.refl _)
                          · have p23 := of_decide_eq_false h23; refine TL.run 16 rfl ?_; refine TL.nil ?_; refine K.pick [0, 1, 3, 4, 2] rfl (by decide) ?_; exact K.ak F18 (Frz.Le.refl _) (.b (zbh (zbh (zbQ (zbQ h21 h22) h23))).symm .nil) (List.Sublist.refl _)
                        · have p22 := h22; (try simp only [nfB] at p22); refine TL.run 21 rfl ?_; refine TL.nil ?_; refine K.pick [0, 1, 3, 4, 2] rfl (by decide) ?_; exact K.ak F18 (Frz.Le.refl _) (.b (zbh (zbh (zbh (zbQ h21 h22)))).symm .nil) (List.Sublist.refl _)
                      · have p21 := of_decide_eq_false h21; refine TL.run 25 rfl ?_; refine TL.nil ?_; refine K.pick [0, 1, 3, 4, 2] rfl (by decide) ?_; exact K.ak F18 (Frz.Le.refl _) (.b (zbh (zbh (zbh (zbh h21)))).symm .nil) (List.Sublist.refl _)
                    · rintro F19 le18_19; (try dsimp only at *); have le1_19 := le1_18.trans le18_19; have le2_19 := le2_18.trans le18_19; have le3_19 := le3_18.trans le18_19; have le4_19 := le4_18.trans le18_19; have le5_19 := le5_18.trans le18_19; have le6_19 := le6_18.trans le18_19; have le7_19 := le7_18.trans le18_19; have le8_19 := le8_18.trans le18_19; have le15_19 := le15_18.trans le18_19; have le16_19 := le16_18.trans le18_19; have le17_19 := le17_18.trans le18_19; have hm125 : r113.1.length ≤ 9223372036854775807 := hf113_0_0.2.1 ▸ hf113_0_0.1.max; refine T.ret ?_; obtain rfl := Option.some.inj hk; exact K.ag rfl rfl (fun w' hw => ⟨rfl, hw.isBelow⟩)
    · replace hk := zaa hk h2; refine T.region ?_; refine TL.e (Ew.aR 2 rfl rfl rfl rfl (fun w hw hF => zbd _ w hF )) ?_; rintro _ _ ⟨⟨v14_0_0, cs14_0_0, v14_0_1, v14_0_2, v14_0_3⟩, F22, le3_22, ⟨hf14_0_0, hf14_0_1, hf14_0_2, hf14_0_3⟩, rfl, rfl⟩; dsimp only at hf14_0_0 hf14_0_1 hf14_0_2 hf14_0_3 ⊢; have le1_22 := le1_3.trans le3_22; have le2_22 := le2_3.trans le3_22; haveI := hf14_0_0.1.oneC; haveI := hf14_0_1.oneC; haveI := hf14_0_2.oneC; haveI := hf14_0_3.oneC; refine TL.y (Yv.field rfl rfl rfl) ?_; refine TL.y (Yv.bO (i := 2) rfl rfl rfl hf14_0_0.1 hf14_0_0.2.1 (show (2 : Int) = ((2 : Nat) : Int) from rfl) (by omega)) ?_; have hs16_ : SlD GDomain.rep F22.toFrz (zcs v14_0_0 0 2 2) 2 (cs14_0_0.take 2) (((zaf).Domains).take 2) := hf14_0_0.sliceh (i := 2) (by omega); haveI := hs16_.1.oneC; refine TL.y (Yv.build rfl rfl) ?_; refine TL.e (Ew.aH [2, 0, 1] [] [.row g10_n 92 ((((r10.1.getD default).domains).1.map U) ++ ([.pointer (some ⟨k10_n_512.sp, 0, none⟩), v10_n_513] : List Value)), .sl v10_n_513 31 1 ((r10.1.getD default).list).length c10_n_513.flatten] rfl rfl rfl rfl (by decide) (fun w hw hw2 hF => (zbG _ w hF (GProblem.mk (((zaf).Domains).take 2) (GRules.mk [] [] [])) (zcs v14_0_0 0 2 2) (cs14_0_0.take 2) hs16_ (.slice none 0 0) (SlC.nil _ 5) (.slice none 0 0) (SlC.nil _ 5) (.slice none 0 0) (SlC.nil _ 4) (htk hw) fuel hfu r18 hr18).mono (fun e w' hp => hp.2 h2))) ?_; rintro _ _ ⟨⟨⟩, F23, le22_23, -, rfl, rfl⟩; dsimp only [List.cons_append, List.nil_append]; have le1_23 := le1_22.trans le22_23; have le2_23 := le2_22.trans le22_23; have le3_23 := le3_22.trans le22_23; refine TL.run 5 rfl ?_; refine TL.nil (K.seq (T.seq (T.seq ?_))); refine T.ao (ι := Unit) (fun z => [(1, .pointer (some ⟨g10_n, 0, none⟩)), (3, .pointer none), (34, .bool true)]) (fun z => [.row g10_n 92 ((((r10.1.getD default).domains).1.map U) ++ [.pointer (some ⟨k10_n_512.sp, 0, none⟩), v10_n_513]), .sl v10_n_513 31 1 ((r10.1.getD default).list).length c10_n_513.flatten, .fr F23]) (fun z => True) ?_ ?_
      · refine T.region ?_; refine TL.run 1 rfl ?_; refine TL.y (Yv.bc (e := 92) (by kernel_rfl) rfl rfl rfl) ?_; refine TL.run 2 rfl ?_; refine TL.y (Yv.bc (e := 92) (by kernel_rfl) rfl rfl rfl) ?_; refine TL.run 9 rfl ?_; refine TL.nil ?_; refine K.pick [1, 2, 0] rfl (by decide) ?_; exact K.ak () trivial (.c (.c (.c .nil))) (List.Sublist.refl _)
      · rintro _ _; refine T.aK rfl rfl ?_; refine T.seq (T.region ?_); refine TL.run 1 rfl ?_; refine TL.nil (K.seq (T.ret (K.aa ?_))); obtain rfl := Option.some.inj hk; exact K.ag rfl rfl (fun w' hw => ⟨rfl, hw.isBelow⟩)
  · replace hk := zaa hk h1; refine T.region ?_; refine TL.e (Ew.aR 0 rfl rfl rfl rfl (fun w hw hF => zbd _ w hF )) ?_; rintro _ _ ⟨⟨v9_0_0, cs9_0_0, v9_0_1, v9_0_2, v9_0_3⟩, F24, le1_24, ⟨hf9_0_0, hf9_0_1, hf9_0_2, hf9_0_3⟩, rfl, rfl⟩; dsimp only at hf9_0_0 hf9_0_1 hf9_0_2 hf9_0_3 ⊢; haveI := hf9_0_0.1.oneC; haveI := hf9_0_1.oneC; haveI := hf9_0_2.oneC; haveI := hf9_0_3.oneC; refine TL.e (Ew.aH [0] [] [] rfl rfl rfl rfl (by decide) (fun w hw hw2 hF => (zbG _ w hF (zaf) v9_0_0 cs9_0_0 hf9_0_0 v9_0_1 hf9_0_1 v9_0_2 hf9_0_2 v9_0_3 hf9_0_3 (htk hw) fuel hfu r10 hr10).mono (fun e w' hp => hp.2 h1))) ?_; rintro _ _ ⟨⟨⟩, F25, le24_25, -, rfl, rfl⟩; dsimp only [List.cons_append, List.nil_append]; have le1_25 := le1_24.trans le24_25; refine TL.run 5 rfl ?_; refine TL.nil (K.seq (T.seq ?_)); have hq : (0 ≤ 2 ∧ 2 ≤ (((zaf).Domains).length : Int)) ∧ _ := zbi hk; clear hk; obtain ⟨g16h, hk⟩ := hq; have hq := zak hk; clear hk; obtain ⟨r18, hr18, hk⟩ := hq; (try dsimp only at hk); refine T.be ((r18.1).isSome) (fun h25 => ?_) (fun h25 => ?_)
    · replace hk := zab hk h25; refine T.region ?_; refine TL.e (Ew.aR 0 rfl rfl rfl rfl (fun w hw hF => zbd _ w hF )) ?_; rintro _ _ ⟨⟨v14_0_0, cs14_0_0, v14_0_1, v14_0_2, v14_0_3⟩, F26, le25_26, ⟨hf14_0_0, hf14_0_1, hf14_0_2, hf14_0_3⟩, rfl, rfl⟩; dsimp only at hf14_0_0 hf14_0_1 hf14_0_2 hf14_0_3 ⊢; have le1_26 := le1_25.trans le25_26; have le24_26 := le24_25.trans le25_26; haveI := hf14_0_0.1.oneC; haveI := hf14_0_1.oneC; haveI := hf14_0_2.oneC; haveI := hf14_0_3.oneC; refine TL.y (Yv.field rfl rfl rfl) ?_; refine TL.y (Yv.bO (i := 2) rfl rfl rfl hf14_0_0.1 hf14_0_0.2.1 (show (2 : Int) = ((2 : Nat) : Int) from rfl) (by omega)) ?_; have hs16_ : SlD GDomain.rep F26.toFrz (zcs v14_0_0 0 2 2) 2 (cs14_0_0.take 2) (((zaf).Domains).take 2) := hf14_0_0.sliceh (i := 2) (by omega); haveI := hs16_.1.oneC; refine TL.y (Yv.build rfl rfl) ?_; refine TL.e (Ew.aH [0] [] [] rfl rfl rfl rfl (by decide) (fun w hw hw2 hF => (zbG _ w hF (GProblem.mk (((zaf).Domains).take 2) (GRules.mk [] [] [])) (zcs v14_0_0 0 2 2) (cs14_0_0.take 2) hs16_ (.slice none 0 0) (SlC.nil _ 5) (.slice none 0 0) (SlC.nil _ 5) (.slice none 0 0) (SlC.nil _ 4) (htk hw) fuel hfu r18 hr18).mono (fun e w' hp => hp.1 h25))) ?_; rintro _ _ ⟨⟨g18_n, k18_n_512, v18_n_512, L18_n_512, v18_n_513, c18_n_513⟩, F27, le26_27, ⟨hs18_n_512, tf18_n_512, zf18_n_512, ho18_n_513⟩, rfl, rfl⟩; dsimp only [List.cons_append, List.nil_append]; (try dsimp only at hs18_n_512 tf18_n_512 zf18_n_512 ho18_n_513); have le1_27 := le1_26.trans le26_27; have le24_27 := le24_26.trans le26_27; have le25_27 := le25_26.trans le26_27; refine TL.bl 1 rfl ?_; intro iv18_n_513 hmv18_n_513; refine TL.run 5 rfl ?_; refine TL.nil (K.seq (T.seq (T.seq ?_))); refine T.ao (ι := Unit) (fun z => [(1, .pointer none), (3, .pointer (some ⟨g18_n, 0, none⟩)), (34, .bool true)]) (fun z => [.row g18_n 92 ((((r18.1.getD default).domains).1.map U) ++ [.pointer (some ⟨k18_n_512.sp, 0, none⟩), v18_n_513]), .sl v18_n_513 31 1 ((r18.1.getD default).list).length c18_n_513.flatten, .fr F27]) (fun z => True) ?_ ?_
      · refine T.region ?_; refine TL.run 1 rfl ?_; refine TL.y (Yv.bc (e := 92) (by kernel_rfl) rfl rfl rfl) ?_; refine TL.run 12 rfl ?_; refine TL.nil ?_; exact K.ak () trivial (.c (.c (.c .nil))) (List.Sublist.refl _)
      · rintro _ _; refine T.aK rfl rfl ?_; refine T.seq (T.region ?_); refine TL.run 1 rfl ?_; refine TL.nil (K.seq (T.ret (K.aa ?_))); obtain rfl := Option.some.inj hk; exact K.ag rfl rfl (fun w' hw => ⟨rfl, hw.isBelow⟩)
    · replace hk := zaa hk h25; refine T.region ?_; refine TL.e (Ew.aR 0 rfl rfl rfl rfl (fun w hw hF => zbd _ w hF )) ?_; rintro _ _ ⟨⟨v14_0_0, cs14_0_0, v14_0_1, v14_0_2, v14_0_3⟩, F28, le25_28, ⟨hf14_0_0, hf14_0_1, hf14_0_2, hf14_0_3⟩, rfl, rfl⟩; dsimp only at hf14_0_0 hf14_0_1 hf14_0_2 hf14_0_3 ⊢; have le1_28 := le1_25.trans le25_28; have le24_28 := le24_25.trans le25_28; haveI := hf14_0_0.1.oneC; haveI := hf14_0_1.oneC; haveI := hf14_0_2.oneC; haveI := hf14_0_3.oneC; refine TL.y (Yv.field rfl rfl rfl) ?_; refine TL.y (Yv.bO (i := 2) rfl rfl rfl hf14_0_0.1 hf14_0_0.2.1 (show (2 : Int) = ((2 : Nat) : Int) from rfl) (by omega)) ?_; have hs16_ : SlD GDomain.rep F28.toFrz (zcs v14_0_0 0 2 2) 2 (cs14_0_0.take 2) (((zaf).Domains).take 2) := hf14_0_0.sliceh (i := 2) (by omega); haveI := hs16_.1.oneC; refine TL.y (Yv.build rfl rfl) ?_; refine TL.e (Ew.aH [0] [] [] rfl rfl rfl rfl (by decide) (fun w hw hw2 hF => (zbG _ w hF (GProblem.mk (((zaf).Domains).take 2) (GRules.mk [] [] [])) (zcs v14_0_0 0 2 2) (cs14_0_0.take 2) hs16_ (.slice none 0 0) (SlC.nil _ 5) (.slice none 0 0) (SlC.nil _ 5) (.slice none 0 0) (SlC.nil _ 4) (htk hw) fuel hfu r18 hr18).mono (fun e w' hp => hp.2 h25))) ?_; rintro _ _ ⟨⟨⟩, F29, le28_29, -, rfl, rfl⟩; dsimp only [List.cons_append, List.nil_append]; have le1_29 := le1_28.trans le28_29; have le24_29 := le24_28.trans le28_29; have le25_29 := le25_28.trans le28_29; refine TL.run 5 rfl ?_; refine TL.nil (K.seq (T.seq (T.seq ?_))); refine T.ao (ι := Unit) (fun z => [(1, .pointer none), (3, .pointer none), (34, .bool true)]) (fun z => [.fr F29]) (fun z => True) ?_ ?_
      · refine T.region ?_; refine TL.run 1 rfl ?_; refine TL.y (Yv.bc (e := 92) (by kernel_rfl) rfl rfl rfl) ?_; refine TL.run 12 rfl ?_; refine TL.nil ?_; exact K.ak () trivial (.c (.c (.c .nil))) (List.Sublist.refl _)
      · rintro _ _; refine T.aK rfl rfl ?_; refine T.seq (T.region ?_); refine TL.run 1 rfl ?_; refine TL.nil (K.seq (T.ret (K.aa ?_))); obtain rfl := Option.some.inj hk; exact K.ag rfl rfl (fun w' hw => ⟨rfl, hw.isBelow⟩)
end Go.Proofs.YtbpbhbkcahcdiaaGreatDoor
namespace Go.Proofs.YtbpbhbkcahcdiaaGreatDoor
open Go.RowKit
theorem zjA (n : Nat) : zbw (n + 100000) = some true := by kernel_rfl
theorem zjh {fuel : Nat} (hf : 100000 ≤ fuel) : zbw fuel = some true := by
  obtain ⟨n, rfl⟩ : ∃ n, fuel = n + 100000 := ⟨fuel - 100000, by omega⟩; exact zjA n
section
variable {p : GProblem} {a : List GChoice}
end
end Go.Proofs.YtbpbhbkcahcdiaaGreatDoor
namespace Go.Proofs.YtbpbhbkcahcdiaaGreatDoor
open Go.RowKit
section
variable {B w : World} {M S0 : Nat → Prop} {hs bs rest : HS} {F : FzB B M S0} {G : FzB B M S0} {F' : Frz}
end
section
variable {P : Program} {n : Nat} {B D : World} {M : Nat → Prop} {fs : SFs} {hs : HS} {o : Oper} {v val sv : Value}
end
section
variable {P : Program} {n : Nat} {B D : World} {M : Nat → Prop} {fs : SFs} {hs : HS} {v v2 : Value}
theorem T.bl {Fe : Fence} [hFe : Calm Fe] {Q : Exit → Act → World → Prop} {c : Code} {e : TypeId} {size k : Nat} {cs : List Value} (j : Nat) (hj : hs[j]? = some (.sl v e size k cs)) (h : OneC v → k ≤ 9223372036854775807 → T Fe P n B D M c Q fs hs) : T Fe P n B D M c Q fs hs :=
  T.aZ (ι := Unit) (φ := fun _ => OneC v ∧ k ≤ 9223372036854775807) (hs' := fun _ => hs) (fun w hw => ⟨(), ⟨zcN (hw.get hj), zcV (hw.get hj)⟩, hw⟩) (fun _ hx => h hx.1 hx.2)
end
end Go.Proofs.YtbpbhbkcahcdiaaGreatDoor
namespace Go.Proofs.YtbpbhbkcahcdiaaGreatDoor
open Go.RowKit
def capV : Value → Value
  | .slice A n _ => .slice A n n
  | v => v
instance {v : Value} [h : OneC v] : OneC (capV v) := ⟨by
  cases v <;> first | rfl | exact h.h⟩
end Go.Proofs.YtbpbhbkcahcdiaaGreatDoor
namespace Go.Proofs.YtbpbhbkcahcdiaaGreatDoor
open Go.RowKit
abbrev kV (c : GChoice) : Value := .agg (GChoice.enc c).toArray
theorem zeN (b : Bool) (c : GChoice) (w : World) : (Instr.checkKey b 10000 50 (kV c)).run Tryz.prog w = .ok () w := by kernel_rfl
theorem ziJ (w : World) : (zeroValue 4).run Tryz.prog w = .ok (.bool false) w := by kernel_rfl
structure SetE (es : List MapEntry) (l : List GChoice) : Prop where
  ent : ∀ e ∈ es, e.val = .bool true ∧ ∃ c, e.key = kV c ∧ c ∈ l
  all : ∀ c ∈ l, ∃ e ∈ es, e.key = kV c
theorem zkF {a b : GChoice} (h : kV a = kV b) : a = b := by
  cases a; cases b
  simp [kV, GChoice.enc] at h; simp [h]
theorem zjZ (a b : GChoice) (w : World) : (Op.equal 50 (kV a) (kV b)).run Tryz.prog w = .ok (decide (a.Station = b.Station) && decide (a.Channel = b.Channel)) w := zhE (by kernel_rfl) _ _ _ _ w
theorem ziC {l : List GChoice} (c : GChoice) (w : World) : ∀ (es : List MapEntry) (i : Nat), (∀ e ∈ es, e.val = .bool true ∧ ∃ c, e.key = kV c ∧ c ∈ l) →
    (∃ j e, (Instr.findAsking 50 (kV c) es i).run Tryz.prog w = .ok (some (i + j, .bool true)) w ∧ es[j]? = some e ∧ e.key = kV c) ∨ ((Instr.findAsking 50 (kV c) es i).run Tryz.prog w = .ok none w ∧ ∀ e ∈ es, e.key ≠ kV c)
  | [], i, _ => .inr ⟨rfl, fun e he => by cases he⟩
  | e :: r, i, h => by
    obtain ⟨hv, d, hd, hdl⟩ := h e (by simp); have he := zjZ c d w; by_cases hcd : c = d
    · subst hcd; refine .inl ⟨0, e, ?_, rfl, hd⟩; unfold Instr.findAsking; rw [hd]; simp [he, hv]
    · have hf : (decide (c.Station = d.Station) && decide (c.Channel = d.Channel)) = false := by
        cases c; cases d
        simp at hcd ⊢; exact hcd
      rw [hf] at he
      have hstep : (Instr.findAsking 50 (kV c) (e :: r) i).run Tryz.prog w = (Instr.findAsking 50 (kV c) r (i + 1)).run Tryz.prog w := by
        rw [Instr.findAsking, hd]; simp [he]
      rcases ziC c w r (i + 1) (fun x hx => h x (by simp [hx])) with ⟨j, x, h1, h2, h3⟩ | ⟨h1, h2⟩
      · exact .inl ⟨j + 1, x, by rw [hstep, h1, Nat.add_assoc, Nat.add_comm 1 j], by simpa using h2, h3⟩
      · refine .inr ⟨by rw [hstep, h1], fun x hx => ?_⟩; rcases List.mem_cons.1 hx with rfl | hx
        · rw [hd]; exact fun e => hcd (zkF e).symm
        · exact h2 x hx
theorem zfA {l : List GChoice} (c : GChoice) (w : World) (es : List MapEntry) (h : ∀ e ∈ es, e.val = .bool true ∧ ∃ c, e.key = kV c ∧ c ∈ l) :
    (∃ j e, (Instr.findKey 50 (kV c) es).run Tryz.prog w = .ok (some (j, .bool true)) w ∧ es[j]? = some e ∧ e.key = kV c) ∨ ((Instr.findKey 50 (kV c) es).run Tryz.prog w = .ok none w ∧ ∀ e ∈ es, e.key ≠ kV c) := by
  have hrun : (Instr.findKey 50 (kV c) es).run Tryz.prog w = (Instr.findAsking 50 (kV c) es).run Tryz.prog w := by
    cases es with
    | nil => kernel_rfl
    | cons e r => rfl
  rcases ziC c w es 0 h with ⟨j, e, h1, h2, h3⟩ | ⟨h1, h2⟩
  · exact .inl ⟨j, e, by rw [hrun, h1, Nat.zero_add], h2, h3⟩
  · exact .inr ⟨by rw [hrun, h1], h2⟩
theorem zkY (c : GChoice) : Instr.sameBits 10000 (kV c) (kV c) = true := by
  cases c
  simp [kV, GChoice.enc, Instr.sameBits]
@[irreducible] def Ent.mp (g : Nat) (l : List GChoice) : Ent where
  fp := (· = g)
  ok w := ∃ es clock, w.heap[g]? = some (.map es clock) ∧ SetE es.toList l
  loc h k := by obtain ⟨es, cl, h1, h2⟩ := k; exact ⟨es, cl, (h g rfl).trans h1, h2⟩
  lt h k e := by obtain ⟨es, cl, h1, h2⟩ := h; subst e; exact (Array.getElem?_eq_some_iff.1 h1).1
  nd h k e c := by obtain ⟨es, cl, h1, h2⟩ := h; subst e; rw [h1]; simp
theorem Ent.mp_fp {g : Nat} {l : List GChoice} {k : Nat} : (Ent.mp g l).fp k ↔ k = g := by unfold Ent.mp; exact Iff.rfl
theorem Ent.mp_ok {g : Nat} {l : List GChoice} {w : World} : (Ent.mp g l).ok w ↔ ∃ es clock, w.heap[g]? = some (.map es clock) ∧ SetE es.toList l := by unfold Ent.mp; exact Iff.rfl
def inL (l : List GChoice) (c : GChoice) : Bool := l.any fun x => decide (x.Station = c.Station) && decide (x.Channel = c.Channel)
theorem inL_iff {l : List GChoice} {c : GChoice} : inL l c = true ↔ c ∈ l := by
  unfold inL; rw [List.any_eq_true]; constructor
  · rintro ⟨x, hx, h⟩; simp only [Bool.and_eq_true, decide_eq_true_eq] at h; (have : x = c := by cases x; cases c; simp_all)
    rwa [← this]
  · exact fun h => ⟨c, h, by simp⟩
theorem ziH {g clock : Nat} {es : Array MapEntry} {l : List GChoice} {w : World} (hb : w.heap[g]? = some (.map es clock)) (h : SetE es.toList l) (c : GChoice) :
    (Instr.lookup 103 (.map (some g)) (kV c) false).run Tryz.prog w = .ok (.bool (inL l c)) w := by
  (have hm : Tryz.prog.underlying 103 = some (.map 50 4) := by kernel_rfl); have hk : ∀ b, (Instr.checkKey b 10000 50 (kV c)).run Tryz.prog w = .ok () w := fun b => zeN b c w; rcases zfA c w es.toList h.ent with ⟨j, e, h1, h2, h3⟩ | ⟨h1, h2⟩
  · have hin : inL l c = true := by
      obtain ⟨_, d, hd, hdl⟩ := h.ent e (List.mem_of_getElem? h2); rw [inL_iff, zkF (h3.symm.trans hd)]; exact hdl
    rw [hin]; simp [Instr.lookup, run_underlying hm, MapKept.run_getObj_map hb, hk, h1, Result.andThen]
  · have hin : inL l c = false := by
      cases hi : inL l c with
      | false => rfl
      | true => obtain ⟨e, he, hek⟩ := h.all c (inL_iff.1 hi); exact absurd hek (h2 e he)
    rw [hin]; simp [Instr.lookup, run_underlying hm, MapKept.run_getObj_map hb, hk, h1, ziJ, Result.andThen]
theorem ziv {g clock : Nat} {es : Array MapEntry} {l : List GChoice} {w : World} (hb : w.heap[g]? = some (.map es clock)) (h : SetE es.toList l) (c : GChoice) :
    ∃ es' clock', (Instr.mapUpdate 103 (.map (some g)) (kV c) (.bool true)).run Tryz.prog w = .ok () { w with heap := w.heap.setIfInBounds g (.map es' clock') } ∧ SetE es'.toList (l ++ [c]) := by
  (have hm : Tryz.prog.underlying 103 = some (.map 50 4) := by kernel_rfl); have hk : ∀ b, (Instr.checkKey b 10000 50 (kV c)).run Tryz.prog w = .ok () w := fun b => zeN b c w; rcases zfA c w es.toList h.ent with ⟨j, e, h1, h2, h3⟩ | ⟨h1, h2⟩
  · (have hj : es[j]? = some e := by simpa using h2); refine ⟨es.modify j fun e => { e with key := kV c, val := .bool true }, clock, ?_, ?_⟩
    · simp [Instr.mapUpdate, run_underlying hm, MapKept.run_getObj_map hb, hk, h1, hj, h3, Instr.keyThatStays, zkY, MapKept.run_setObj_map _ hb, Result.andThen]
    · have hget : ∀ i, (es.modify j fun e => { e with key := kV c, val := .bool true }).toList[i]? = if j = i then es[i]?.map (fun e => { e with key := kV c, val := .bool true }) else es[i]? := fun i => by
        rw [Array.getElem?_toList, Array.getElem?_modify]
      refine ⟨fun e' he' => ?_, fun d hd => ?_⟩
      · obtain ⟨i, hi⟩ := List.mem_iff_getElem?.1 he'; rw [hget] at hi
        split at hi
        · rw [Option.map_eq_some_iff] at hi; obtain ⟨e0, _, rfl⟩ := hi; exact ⟨rfl, c, rfl, by simp⟩
        · obtain ⟨h4, d, h5, h6⟩ := h.ent e' (List.mem_of_getElem? (by rw [Array.getElem?_toList]; exact hi)); exact ⟨h4, d, h5, by simp [h6]⟩
      · have hat : { e with key := kV c, val := .bool true } ∈ (es.modify j fun e => { e with key := kV c, val := .bool true }).toList := List.mem_iff_getElem?.2 ⟨j, by rw [hget, if_pos rfl, hj]; rfl⟩; rcases List.mem_append.1 hd with hd | hd
        · obtain ⟨e0, he0, hk0⟩ := h.all d hd; obtain ⟨i, hi⟩ := List.mem_iff_getElem?.1 he0; by_cases hij : j = i
          · subst hij; rw [h2] at hi; obtain rfl := Option.some.inj hi; exact ⟨_, hat, by rw [← hk0, h3]⟩
          · exact ⟨e0, List.mem_iff_getElem?.2 ⟨i, by rw [hget, if_neg hij, ← Array.getElem?_toList]; exact hi⟩, hk0⟩
        · simp at hd; subst hd; exact ⟨_, hat, rfl⟩
  · refine ⟨es.push { key := kV c, val := .bool true, born := clock }, clock + 1, ?_, ?_⟩
    · simp [Instr.mapUpdate, run_underlying hm, MapKept.run_getObj_map hb, hk, h1, MapKept.run_setObj_map _ hb, Result.andThen]
    · rw [Array.toList_push]; refine ⟨fun e he => ?_, fun d hd => ?_⟩
      · rcases List.mem_append.1 he with he | he
        · obtain ⟨h4, d, h5, h6⟩ := h.ent e he; exact ⟨h4, d, h5, by simp [h6]⟩
        · simp at he; subst he; exact ⟨rfl, c, rfl, by simp⟩
      · rcases List.mem_append.1 hd with hd | hd
        · obtain ⟨e, he, hek⟩ := h.all d hd; exact ⟨e, by simp [he], hek⟩
        · simp at hd; subst hd; exact ⟨_, List.mem_append.2 (.inr (List.mem_singleton.2 rfl)), rfl⟩
section
variable {n : Nat} {B : World} {M : Nat → Prop} {fs : SFs} {hs : HS} {o : Oper}
theorem Ew.bS {x : Operand} {k : Int} (ho : o.op = .makeMap 103 (some x)) (hx : ev fs x = some (.int .i64 k)) : Ew Tryz.prog n B M fs hs o (fun v hs' => ∃ g, v = .map (some g) ∧ hs' = .mp g [] :: hs) := Ew.aT fun a w ha hp => by
  (have hm : Tryz.prog.underlying 103 = some (.map 50 4) := by kernel_rfl); refine ⟨_, w.alloc (.map #[] 0), _, ?_, Kp.alloc w _, hp.fresh ((Below.refl _ _).alloc (Nat.le_refl _) _) (Ent.mp_ok.2 ⟨#[], 0, (MapKept.heap_alloc w _).1, ⟨fun e he => by simp at he, fun c hc => by cases hc⟩⟩) (fun g hg => by rw [Ent.mp_fp.1 hg]; exact Nat.le_refl _), w.heap.size, rfl, rfl⟩; unfold execOp; have h1 : (asIntOf (Value.int .i64 k)).run Tryz.prog w = .ok (.i64, k) w := rfl; simp [ho, ha.ev hx, Instr.makeMap, run_underlying hm, asInt, h1, Result.andThen]
theorem Ew.ce (i : Nat) {x y z : Operand} {g : Nat} {l : List GChoice} {c : GChoice} {hs' : HS} (ho : o.op = .mapUpdate 103 x y z) (hx : ev fs x = some (.map (some g))) (hy : ev fs y = some (kV c)) (hz : ev fs z = some (.bool true)) (hi : hs[i]? = some (.mp g l)) [hH : SetAt hs i (.mp g (l ++ [c])) hs'] : Ew Tryz.prog n B M fs hs o (fun v hs'' => v = undef ∧ hs'' = hs') := Ew.ba fun a w ha hp => by
  obtain ⟨es, clock, hb, hS⟩ := Ent.mp_ok.1 (hp.get hi); obtain ⟨es', cl', h1, h2⟩ := ziv hb hS c; have hlt := (Array.getElem?_eq_some_iff.1 hb).1
  have hon : Only (· = g) w { w with heap := w.heap.setIfInBounds g (.map es' cl') } := ⟨rfl, rfl, rfl, by simp, fun k hk hn => by
    simp only [Array.getElem?_setIfInBounds]
    rw [if_neg (fun e => hn e.symm)]⟩
  refine ⟨_, hs', ?_, Kp.only hon (fun k e c => by subst e; rw [hb]; simp), ?_, rfl, rfl⟩
  · unfold execOp; simp [ho, ha.ev hx, ha.ev hy, ha.ev hz, h1, Result.andThen]
  · rw [← hH.h]; exact hp.updAt hi hon (fun k _ hk => Ent.mp_fp.2 hk) (Ent.mp_ok.2 ⟨es', cl', by simp [hlt], h2⟩) (fun k hk => .inl (Ent.mp_fp.2 (Ent.mp_fp.1 hk)))
theorem Yv.cf (i : Nat) {x y : Operand} {g : Nat} {l : List GChoice} {c : GChoice} (ho : o.op = .lookup 103 x y false) (hx : ev fs x = some (.map (some g))) (hy : ev fs y = some (kV c)) (hi : hs[i]? = some (.mp g l)) : Yv Tryz.prog n B M fs hs o (.bool (inL l c)) := fun a w ha hp => by
  obtain ⟨es, clock, hb, hS⟩ := Ent.mp_ok.1 (hp.get hi); unfold execOp; simp [ho, ha.ev hx, ha.ev hy, ziH hb hS c, Result.andThen]
end
end Go.Proofs.YtbpbhbkcahcdiaaGreatDoor
namespace Go.Proofs.YtbpbhbkcahcdiaaGreatDoor
open Go.RowKit
def zaH (l : List GChoice) (g_ : List GChoice) : Bool :=
  zaF (fun (l_1 : List GChoice) =>
    zaF (fun (_ : Unit) =>
      true)
    (fun k7 =>
      zah (fun (i_9 : Nat) (next8 : Unit → Bool) (_ : Unit) =>
        (bif !(inL l_1 (nth g_ i_9)) then
          false
          else
          next8 ()))
      (fun (_ : Unit) =>
        k7 ()) (g_.length - 0) 0 ()))
  (fun k2 =>
    zah (fun (i_5 : Nat) (next4 : List GChoice → Bool) (l_3 : List GChoice) =>
      next4 (l_3 ++ [(nth l i_5)]))
    (fun (l_3 : List GChoice) =>
      k2 l_3) (l.length - 0) 0 [])
theorem zcB (F0 : Frz) (w : World) (hF0 : F0.At w) (l : List GChoice) (vl : Value) (hl : SlC F0 vl 2 (l.map GChoice.enc)) (g_ : List GChoice) (vg_ : Value) (hg_ : SlC F0 vg_ 2 (g_.map GChoice.enc)) : Calls Tryz.prog 28 #[vl, vg_] w fun e w' => e = .returned (.bool (zaH l g_)) ∧ Below w.heap.size w w' := by
  obtain ⟨r, hk⟩ : ∃ r, zaH l g_ = r := ⟨_, rfl⟩; rw [hk]; unfold zaH at hk; haveI := hl.oneC; haveI := hg_.oneC; obtain ⟨S0, F1, rfl, hS0, hp0⟩ := zaq hF0; refine zad (M := fun _ => False) (hs := [.fr F1]) Tryz.func28 rfl rfl rfl hp0 ?_; refine T.seq (T.region ?_); refine TL.run 1 rfl ?_; refine TL.nil (K.seq (T.seq (T.region ?_))); refine TL.run 1 rfl ?_; refine TL.y (Yv.aA rfl rfl hl (List.length_map _)) ?_; have hm11 : l.length ≤ 9223372036854775807 := (List.length_map _) ▸ hl.max; refine TL.e (Ew.bS rfl rfl) ?_; rintro _ _ ⟨g12, rfl, rfl⟩; refine TL.run 1 rfl ?_; refine TL.nil (K.seq (T.seq (T.seq (T.region ?_)))); refine TL.run 1 rfl ?_; refine TL.y (Yv.aA rfl rfl hl (List.length_map _)) ?_; refine TL.run 1 rfl ?_; refine TL.nil (K.seq ?_); have hq := zag hk; clear hk; obtain ⟨k2, hk2, hk⟩ := hq; (try dsimp only at hk); refine T.ao (ι := List GChoice) (fun z => [(1, vg_), (5, .map (some g12))]) (fun z => [.mp g12 z, .fr F1]) (fun z => k2 z = r) ?_ ?_
  · have hq := zan hk; clear hk; obtain ⟨f4, kk4, hf4, hkk4, hk⟩ := hq; refine T.block ?_; refine T.loop (ι := Nat × List GChoice) (fun z => [(1, vg_), (5, .map (some g12)), (13, vl), (14, .int .i64 (l.length : Int)), (15, .int .i64 (z.1 : Int))]) (fun z => [.mp g12 z.2, .fr F1]) (fun z => zah f4 kk4 (l.length - z.1) z.1 z.2 = r) (fun z => l.length - z.1) (0, []) ?_ ?_ ?_ ?_
    · exact hk
    · exact (.c (.c (.c (.c (.c .nil)))))
    · exact List.Sublist.refl _
    · rintro ⟨i_5, l_3⟩ hk; (try dsimp only at *); refine T.seq (T.region ?_); refine TL.run 1 rfl ?_; refine TL.nil (K.seq (T.seq ?_)); refine T.cond rfl (fun h6 => ?_) (fun h6 => ?_)
      · have p6 := of_decide_eq_true h6; rw [zaE (by omega)] at hk; generalize hn4 : zah f4 kk4 (l.length - (i_5 + 1)) (i_5 + 1) = next4 at hk; rw [← hf4] at hk; (try dsimp only at hk); refine T.skip (K.seq (T.seq (T.block (T.seq (T.region ?_))))); refine TL.y (Yv.az (i := i_5) rfl rfl rfl hl (List.length_map _) rfl (by omega)) ?_; refine TL.y (Yv.aE 1 (i := i_5) rfl rfl rfl hl (by omega) rfl rfl rfl) ?_; refine TL.e (Ew.alloc rfl) ?_; rintro _ _ ⟨g7, rfl, rfl⟩; refine TL.e0 (Ew.aj 0 rfl rfl rfl rfl rfl rfl) ?_; rintro _ _ ⟨rfl, rfl⟩; refine TL.nil (K.seq (T.region ?_)); refine TL.run 1 rfl ?_; refine TL.y (Yv.al 0 rfl rfl rfl rfl) ?_; refine TL.e0 (Ew.ce 1 (c := (nth l i_5)) rfl rfl rfl rfl rfl) ?_; rintro _ _ ⟨rfl, rfl⟩; refine TL.nil (K.ad (K.seq (T.region ?_))); refine TL.y (Yv.am rfl rfl rfl (by omega)) ?_; refine TL.run 1 rfl ?_; refine TL.nil ?_; rw [← hn4] at hk; refine K.pick [1, 2] rfl (by decide) ?_; exact K.next ((i_5 + 1), (l_3 ++ [(nth l i_5)])) hk (by dsimp only; omega) (.c (.c (.c (.c (.c .nil))))) (List.Sublist.refl _)
      · have p6 := of_decide_eq_false h6; rw [zaC (by omega), ← hkk4] at hk; (try dsimp only at hk); refine T.exit (K.ac (K.ac (K.ae ?_))); exact K.ak l_3 hk (.c (.c .nil)) (List.Sublist.refl _)
  · rintro l_1 hk; rw [← hk2] at hk; (try dsimp only at hk); refine T.seq (T.seq (T.region ?_)); refine TL.run 1 rfl ?_; refine TL.y (Yv.aA rfl rfl hg_ (List.length_map _)) ?_; have hm23 : g_.length ≤ 9223372036854775807 := (List.length_map _) ▸ hg_.max; refine TL.run 1 rfl ?_; refine TL.nil (K.seq ?_); have hq := zag hk; clear hk; obtain ⟨k7, hk7, hk⟩ := hq; (try dsimp only at hk); refine T.ao (ι := Unit) (fun z => []) (fun z => [.fr F1]) (fun z => k7 () = r) ?_ ?_
    · have hq := zan hk; clear hk; obtain ⟨f8, kk8, hf8, hkk8, hk⟩ := hq; refine T.block ?_; refine T.loop (ι := Nat) (fun z => [(5, .map (some g12)), (22, vg_), (23, .int .i64 (g_.length : Int)), (24, .int .i64 (z : Int))]) (fun z => [.mp g12 l_1, .fr F1]) (fun z => zah f8 kk8 (g_.length - z) z () = r) (fun z => g_.length - z) 0 ?_ ?_ ?_ ?_
      · exact hk
      · exact (.c (.c (.c (.c .nil))))
      · exact List.Sublist.refl _
      · rintro i_9 hk; refine T.seq (T.region ?_); refine TL.run 1 rfl ?_; refine TL.nil (K.seq (T.seq ?_)); refine T.cond rfl (fun h10 => ?_) (fun h10 => ?_)
        · have p10 := of_decide_eq_true h10; rw [zaE (by omega)] at hk; generalize hn8 : zah f8 kk8 (g_.length - (i_9 + 1)) (i_9 + 1) = next8 at hk; rw [← hf8] at hk; (try dsimp only at hk); refine T.skip (K.seq (T.seq (T.block (T.seq (T.region ?_))))); refine TL.y (Yv.az (i := i_9) rfl rfl rfl hg_ (List.length_map _) rfl (by omega)) ?_; refine TL.y (Yv.aE 1 (i := i_9) rfl rfl rfl hg_ (by omega) rfl rfl rfl) ?_; refine TL.e (Ew.alloc rfl) ?_; rintro _ _ ⟨g9, rfl, rfl⟩; refine TL.e0 (Ew.aj 0 rfl rfl rfl rfl rfl rfl) ?_; rintro _ _ ⟨rfl, rfl⟩; refine TL.nil (K.seq (T.seq (T.region ?_))); refine TL.run 1 rfl ?_; refine TL.y (Yv.al 0 rfl rfl rfl rfl) ?_; refine TL.y (Yv.cf 1 (c := (nth g_ i_9)) rfl rfl rfl rfl) ?_; refine TL.run 1 rfl ?_; refine TL.nil (K.seq ?_); refine T.cond rfl (fun h11 => ?_) (fun h11 => ?_)
          · have p11 := h11; (try simp only [nfB] at p11); replace hk := zab hk h11; refine T.seq (T.region ?_); refine TL.run 1 rfl ?_; refine TL.nil (K.seq (T.ret (K.ah (K.aa (K.aa (K.ah (K.aa ?_))))))); subst hk; exact K.ag rfl rfl (fun w' hw => ⟨rfl, hw.isBelow⟩)
          · have p11 := h11; (try simp only [nfB] at p11); replace hk := zaa hk h11; refine T.skip (K.ad (K.seq (T.region ?_))); refine TL.y (Yv.am rfl rfl rfl (by omega)) ?_; refine TL.run 1 rfl ?_; refine TL.nil ?_; rw [← hn8] at hk; refine K.pick [1, 2] rfl (by decide) ?_; exact K.next (i_9 + 1) hk (by omega) (.c (.c (.c (.c .nil)))) (List.Sublist.refl _)
        · have p10 := of_decide_eq_false h10; rw [zaC (by omega), ← hkk8] at hk; (try dsimp only at hk); refine T.exit (K.ac (K.ac (K.ae ?_))); refine K.pick [1] rfl (by decide) ?_; exact K.ak () hk .nil (List.Sublist.refl _)
    · rintro _ hk; rw [← hk7] at hk; (try dsimp only at hk); refine T.seq (T.region ?_); refine TL.run 1 rfl ?_; refine TL.nil (K.seq (T.ret ?_)); subst hk; exact K.ag rfl rfl (fun w' hw => ⟨rfl, hw.isBelow⟩)
end Go.Proofs.YtbpbhbkcahcdiaaGreatDoor
namespace Go.Proofs.YtbpbhbkcahcdiaaGreatDoor
open Go.RowKit
def zbm (fuel : Nat) (p : GProblem) (g_ : List GChoice) (l : List GChoice) : Option Bool :=
  (zbN fuel p 10 40).bind fun r8 =>
  (bif (((!r8) || (decide (20 < (g_.length : Int)))) || (decide (20 < (l.length : Int)))) then
    (zbw fuel).bind fun r20 =>
    some r20
    else
    (zbz p g_).bind fun r23 =>
    (zbl p g_).bind fun r26 =>
    zaF (fun (x_4 : Bool) =>
      some x_4)
    (fun k5 =>
      (bif (r23 == r26) then
        (bif ((zaH l g_) == (zaO l g_)) then
          (bif (zaH g_ g_) then
            (zbw fuel).bind fun r43 =>
            k5 r43
            else
            k5 false)
          else
          k5 false)
        else
        k5 false)))
theorem zdw (F0 : Frz) (w : World) (hF0 : F0.At w) (p : GProblem) (vp_0 : Value) (cp_0 : List (List Value)) (hp_0 : SlD GDomain.rep F0 vp_0 2 cp_0 p.Domains) (vp_1 : Value) (hp_1 : SlC F0 vp_1 5 (p.Rules.Pairs.map GPair.enc)) (vp_2 : Value) (hp_2 : SlC F0 vp_2 5 (p.Rules.Loads.map GLoad.enc)) (vp_3 : Value) (hp_3 : SlC F0 vp_3 4 (p.Rules.Caps.map GCap.enc)) (g_ : List GChoice) (vg_ : Value) (hg_ : SlC F0 vg_ 2 (g_.map GChoice.enc)) (l : List GChoice) (vl : Value) (hl : SlC F0 vl 2 (l.map GChoice.enc)) (htab : Tab w) (fuel : Nat) (hfu : 100000 ≤ fuel) (r : Bool) (hr : zbm fuel p g_ l = some r) : Calls Tryz.prog 7 #[.agg [vp_0, vp_1, vp_2, vp_3].toArray, vg_, vl] w fun e w' => e = .returned (.bool r) ∧ Below w.heap.size w w' := by
  have hk := hr; unfold zbm at hk; haveI := hp_0.1.oneC; haveI := hp_1.oneC; haveI := hp_2.oneC; haveI := hp_3.oneC; haveI := hg_.oneC; haveI := hl.oneC; obtain ⟨S0, F1, rfl, hS0, hp0⟩ := zaq hF0; have hM0 : ¬ (fun _ : Nat => False) 0 := fun h => h; have htk : ∀ {hs : HS} {w' : World}, Hp w (fun _ => False) hs w' → Tab w' := fun hw => htab.keptF hw; refine zad (M := fun _ => False) (hs := [.fr F1]) Tryz.func7 rfl rfl rfl hp0 ?_; refine T.seq (T.region ?_); refine TL.e (Ew.aB rfl rfl) ?_; rintro _ _ ⟨g3, rfl, rfl⟩; refine TL.run 1 rfl ?_; refine TL.nil (K.seq (T.seq (T.seq ?_))); have hq := zak hk; clear hk; obtain ⟨r8, hr8, hk⟩ := hq; (try dsimp only at hk); refine T.ao (ι := Unit) (fun z => [(1, vg_), (2, vl), (3, .pointer (some ⟨g3, 0, none⟩)), (19, .bool (((!r8) || (decide (20 < (g_.length : Int)))) || (decide (20 < (l.length : Int)))))]) (fun z => [.row g3 29 [vp_0, vp_1, vp_2, vp_3], .fr F1]) (fun z => True) ?_ ?_
  · refine T.region ?_; refine TL.y (Yv.al 0 rfl rfl rfl rfl) ?_; refine TL.e (Ew.af rfl rfl rfl (fun w hw => zfK _ w (hw.fr (i := 1) rfl) p vp_0 cp_0 hp_0 vp_1 hp_1 vp_2 hp_2 vp_3 hp_3 10 40 fuel r8 hr8)) ?_; rintro _ _ ⟨rfl, rfl⟩; refine TL.run 2 rfl ?_; refine TL.gs rfl rfl rfl (fun h1 => ?_) (fun h1 => ?_)
    · have p1 := h1; (try simp only [nfB] at p1); refine TL.run 9 rfl ?_; refine TL.nil ?_; exact K.ak () trivial (.c (.c (.c (.b (zbD (zbD h1)).symm .nil)))) (List.Sublist.refl _)
    · have p1 := h1; (try simp only [nfB] at p1); refine TL.run 1 rfl ?_; refine TL.y (Yv.aA rfl rfl hg_ (List.length_map _)) ?_; have hm12 : g_.length ≤ 9223372036854775807 := (List.length_map _) ▸ hg_.max; refine TL.run 3 rfl ?_; refine TL.gs rfl rfl rfl (fun h2 => ?_) (fun h2 => ?_)
      · have p2 := of_decide_eq_true h2; refine TL.run 4 rfl ?_; refine TL.nil ?_; exact K.ak () trivial (.c (.c (.c (.b (zbD (zca h1 h2)).symm .nil)))) (List.Sublist.refl _)
      · have p2 := of_decide_eq_false h2; refine TL.run 1 rfl ?_; refine TL.y (Yv.aA rfl rfl hl (List.length_map _)) ?_; have hm17 : l.length ≤ 9223372036854775807 := (List.length_map _) ▸ hl.max; refine TL.run 2 rfl ?_; refine TL.nil ?_; exact K.ak () trivial (.c (.c (.c (.b (or_f (zca h1 h2)) .nil)))) (List.Sublist.refl _)
  · rintro _ _; have hm12 : g_.length ≤ 9223372036854775807 := (List.length_map _) ▸ hg_.max; have hm17 : l.length ≤ 9223372036854775807 := (List.length_map _) ▸ hl.max; refine T.cond rfl (fun h3 => ?_) (fun h3 => ?_)
    · have p3 := h3; (try simp only [nfB] at p3); replace hk := zab hk h3; refine T.seq ?_; have hq := zak hk; clear hk; obtain ⟨r20, hr20, hk⟩ := hq; (try dsimp only at hk); refine T.region ?_; refine TL.e (Ew.af rfl rfl rfl (fun w hw => zdK _ w (hw.fr (i := 1) rfl) (htab.keptF hw) fuel hfu r20 hr20)) ?_; rintro _ _ ⟨rfl, rfl⟩; refine TL.run 1 rfl ?_; refine TL.nil (K.seq (T.ret (K.aa ?_))); obtain rfl := Option.some.inj hk; exact K.ag rfl rfl (fun w' hw => ⟨rfl, hw.isBelow⟩)
    · have p3 := h3; (try simp only [nfB] at p3); replace hk := zaa hk h3; refine T.skip (K.seq (T.seq ?_)); have hq := zak hk; clear hk; obtain ⟨r23, hr23, hk⟩ := hq; have hq := zak hk; clear hk; obtain ⟨r26, hr26, hk⟩ := hq; (try dsimp only at hk); have hq := zag hk; clear hk; obtain ⟨k5, hk5, hk⟩ := hq; (try dsimp only at hk); refine T.ao (ι := Bool) (fun z => [(6, .bool z)]) (fun z => [.fr F1]) (fun z => k5 z = some r) ?_ ?_
      · refine T.aw (.still 0 (.still 1 (.still 3 (.still 4 (.eff 2 (.eff 5 (.still 6 (.still 7 (.still 8 (.still 9 (.still 11 (.still 12 (.eff 10 (.eff 13 (.still 14 (.still 15 (.still 16 (.still 17 (.still 18 (.eff 19 (.still 20 (.still 21 (.eff 22 (.still 23 (.still 24 .done))))))))))))))))))))))))) _ (by kernel_rfl) (List.Sublist.refl _) ?_; refine TS.y rfl (Yv.al 0 rfl rfl rfl rfl) ?_; refine TS.run 1 rfl ?_; refine TS.y rfl (Yv.al 0 rfl rfl rfl rfl) ?_; refine TS.run 1 rfl ?_; refine TS.eff ?_; refine TSo.aL rfl (Wt.none rfl) rfl rfl (Ew.af rfl rfl rfl (fun w hw => zfe _ w (hw.fr (i := 1) rfl) p vp_0 cp_0 hp_0 vp_1 hp_1 vp_2 hp_2 vp_3 hp_3 g_ vg_ hg_ r23 hr23)) ?_; rintro _ _ ⟨rfl, rfl⟩; refine ⟨(fun w hw => hw.sub (by repeat first | exact S0 | exact S1 | refine S2 ?_ | refine S3 ?_)), ?_⟩; refine TS.eff ?_; refine TSo.aL rfl (Wt.none rfl) rfl rfl (Ew.af rfl rfl rfl (fun w hw => zfV _ w (hw.fr (i := 1) rfl) p vp_0 cp_0 hp_0 vp_1 hp_1 vp_2 hp_2 vp_3 hp_3 g_ vg_ hg_ r26 hr26)) ?_; rintro _ _ ⟨rfl, rfl⟩; refine ⟨(fun w hw => hw.sub (by repeat first | exact S0 | exact S1 | refine S2 ?_ | refine S3 ?_)), ?_⟩; refine TS.y rfl (Yv.cn (by kernel_rfl) rfl rfl rfl) ?_; refine TS.run 1 rfl ?_; refine TS.gs rfl rfl rfl rfl (fun h6 => ?_) (fun h6 => ?_)
        · have p6 := h6; (try simp only [nfB] at p6); replace hk := zab hk h6; refine TS.run 4 rfl ?_; refine TS.eff ?_; refine TSo.aL rfl (Wt.some rfl rfl rfl rfl) rfl rfl (Ew.af rfl rfl rfl (fun w hw => zcB _ w (hw.fr (i := 1) rfl) l vl hl g_ vg_ hg_)) ?_; rintro _ _ ⟨rfl, rfl⟩; refine ⟨(fun w hw => hw.sub (by repeat first | exact S0 | exact S1 | refine S2 ?_ | refine S3 ?_)), ?_⟩; refine TS.eff ?_; refine TSo.aL rfl (Wt.some rfl rfl rfl rfl) rfl rfl (Ew.af rfl rfl rfl (fun w hw => zep _ w (hw.fr (i := 1) rfl) l vl hl g_ vg_ hg_)) ?_; rintro _ _ ⟨rfl, rfl⟩; refine ⟨(fun w hw => hw.sub (by repeat first | exact S0 | exact S1 | refine S2 ?_ | refine S3 ?_)), ?_⟩; refine TS.y rfl (Yv.cn (by kernel_rfl) rfl rfl rfl) ?_; refine TS.run 2 rfl ?_; refine TS.gs rfl rfl rfl rfl (fun h7 => ?_) (fun h7 => ?_)
          · have p7 := h7; (try simp only [nfB] at p7); replace hk := zab hk h7; refine TS.run 2 rfl ?_; refine TS.eff ?_; refine TSo.aL rfl (Wt.some rfl rfl rfl rfl) rfl rfl (Ew.af rfl rfl rfl (fun w hw => zcB _ w (hw.fr (i := 1) rfl) g_ vg_ hg_ g_ vg_ hg_)) ?_; rintro _ _ ⟨rfl, rfl⟩; refine ⟨(fun w hw => hw.sub (by repeat first | exact S0 | exact S1 | refine S2 ?_ | refine S3 ?_)), ?_⟩; refine TS.run 2 rfl ?_; refine TS.eff ?_; refine TSo.gs rfl rfl rfl rfl (fun h8 => ?_) (fun h8 => ?_)
            · have p8 := h8; (try simp only [nfB] at p8); replace hk := zab hk h8; have hq := zak hk; clear hk; obtain ⟨r43, hr43, hk⟩ := hq; refine TSo.aL rfl (Wt.some rfl rfl rfl rfl) rfl rfl (Ew.af rfl rfl rfl (fun w hw => zdK _ w (hw.fr (i := 1) rfl) (htab.keptF hw) fuel hfu r43 hr43)) ?_; rintro _ _ ⟨rfl, rfl⟩; refine ⟨(fun w hw => hw.sub (by repeat first | exact S0 | exact S1 | refine S2 ?_ | refine S3 ?_)), ?_⟩; refine TS.run 2 rfl ?_; refine TS.done ?_; refine K.pick [1] rfl (by decide) ?_; exact K.ak r43 hk (.c .nil) (List.Sublist.refl _)
            · have p8 := h8; (try simp only [nfB] at p8); replace hk := zaa hk h8; refine TSo.off rfl (Wt.not rfl rfl rfl rfl) rfl rfl ?_; refine TS.run 2 rfl ?_; refine TS.done ?_; refine K.pick [1] rfl (by decide) ?_; exact K.ak false hk (.c .nil) (List.Sublist.refl _)
          · have p7 := h7; (try simp only [nfB] at p7); replace hk := zaa hk h7; refine TS.run 2 rfl ?_; refine TS.eff ?_; refine TSo.off rfl (Wt.not rfl rfl rfl rfl) rfl rfl ?_; refine TS.run 2 rfl ?_; refine TS.eff ?_; refine TSo.off rfl (Wt.not rfl rfl rfl rfl) rfl rfl ?_; refine TS.run 2 rfl ?_; refine TS.done ?_; refine K.pick [1] rfl (by decide) ?_; exact K.ak false hk (.c .nil) (List.Sublist.refl _)
        · have p6 := h6; (try simp only [nfB] at p6); replace hk := zaa hk h6; refine TS.run 4 rfl ?_; refine TS.eff ?_; refine TSo.off rfl (Wt.not rfl rfl rfl rfl) rfl rfl ?_; refine TS.eff ?_; refine TSo.off rfl (Wt.not rfl rfl rfl rfl) rfl rfl ?_; refine TS.run 5 rfl ?_; refine TS.eff ?_; refine TSo.off rfl (Wt.not rfl rfl rfl rfl) rfl rfl ?_; refine TS.run 2 rfl ?_; refine TS.eff ?_; refine TSo.off rfl (Wt.not rfl rfl rfl rfl) rfl rfl ?_; refine TS.run 2 rfl ?_; refine TS.done ?_; refine K.pick [1] rfl (by decide) ?_; exact K.ak false hk (.c .nil) (List.Sublist.refl _)
      · rintro x_4 hk; rw [← hk5] at hk; (try dsimp only at hk); refine T.ret ?_; obtain rfl := Option.some.inj hk; exact K.ag rfl rfl (fun w' hw => ⟨rfl, hw.isBelow⟩)
end Go.Proofs.YtbpbhbkcahcdiaaGreatDoor
namespace Go.Proofs.YtbpbhbkcahcdiaaGreatDoor
open Go.RowKit
theorem viols_iff {l g : List GChoice} : zaH l g = true ↔ ∀ c ∈ g, c ∈ l := by
  unfold zaH; simp only [zaF, Nat.sub_zero]; rw [zfv (σ := List GChoice) (fun i s => s ++ [nth l i]) (fun _ _ _ _ => rfl), zcp (g := fun (s : List GChoice) x => s ++ [x]), zej (g := fun x : GChoice => x), List.nil_append, List.map_id']; rw [zcI (fun i => inL l (nth g i)) (fun i next _ => by cases inL l (nth g i) <;> rfl), Bool.and_true, zeT (q := inL l), List.all_eq_true]; exact forall_congr' fun c => imp_congr_right fun _ => inL_iff
theorem ziM {l g : List GChoice} : zaH l g = zaO l g := Bool.eq_iff_iff.2 (viols_iff.trans viol_iff.symm)
section
variable {p : GProblem} {t : GStore} {fuel : Nat} {l S : List (List GChoice)}
theorem zkM {s : Int} (hG : GG p) (h : ¬ zac p s < 0) : 0 ≤ zac p s ∧ zac p s < (p.Domains.length : Int) ∧ (nth p.Domains (zac p s).toNat).Station = s := by
  revert h
  unfold zac; simp only [zaF, Nat.sub_zero]; refine zcl (fun _ _ => True) (fun r => ¬ r < 0 → 0 ≤ r ∧ r < (p.Domains.length : Int) ∧ (nth p.Domains r.toNat).Station = s) trivial (fun _ _ h => by omega) (fun i _ next hi _ hn => ?_); by_cases e : (nth p.Domains i).Station = s
  · rw [decide_eq_true e, cond_true]; exact fun _ => ⟨by omega, by omega, by simpa using e⟩
  · rw [decide_eq_false e, cond_false]; exact hn () trivial
theorem zh0 {g : List GChoice} (hok : okG p = true) : zbl p g = some (okN p g) := by
  have hG := zkw hok; unfold zbl okN; rw [zjv, Option.bind_some, hok, zgl]
  cases hv : (List.range g.length).all (zet g) with
  | false => rfl
  | true =>
    simp only [zaF, Nat.sub_zero, Bool.not_true, Bool.or_self, cond_false, Bool.true_and]; refine (zcl (fun i _ => (List.range i).all (fun i => zdp p (nth g i).Station (nth g i).Channel) = true) (fun o => o = some ((List.range g.length).all fun i => zdp p (nth g i).Station (nth g i).Channel)) rfl (fun _ h => by rw [h]) (fun i _ next hi hI hn => ?_))
    have bad : zdp p (nth g i).Station (nth g i).Channel = false → ((List.range g.length).all fun i => zdp p (nth g i).Station (nth g i).Channel) = false := fun h => by
      rw [List.all_eq_false]; exact ⟨i, List.mem_range.2 hi, by rw [h]; simp⟩
    by_cases hfi : zac p (nth g i).Station < 0
    · rw [decide_eq_true hfi, cond_true]; rw [cond_true, bad]
      cases hc : zdp p (nth g i).Station (nth g i).Channel with
      | false => rfl
      | true => have := zkd hc; rw [hasSt_find.1 hfi] at this; cases this
    · obtain ⟨h1, h2, h3⟩ := zkM hG hfi
      have e : zbk (nth p.Domains (zac p (nth g i).Station).toNat).Channels (nth g i).Channel = zdp p (nth g i).Station (nth g i).Channel := by
        (have hj : (zac p (nth g i).Station).toNat < p.Domains.length := by omega); rw [zlX, Bool.eq_iff_iff, hasCh_iff, List.any_eq_true]; constructor
        · rintro ⟨k, hk, e⟩; exact ⟨_, zap hj, h3, by rw [← of_decide_eq_true e]; exact hk⟩
        · rintro ⟨x, hx, e1, e2⟩; obtain ⟨q, hq, rfl⟩ := zaV hx
          have : q = (zac p (nth g i).Station).toNat := by
            rcases Nat.lt_trichotomy q (zac p (nth g i).Station).toNat with h | h | h
            · have := hG.inc _ _ h hj; omega
            · exact h
            · have := hG.inc _ _ h hq; omega
          exact ⟨_, by rw [← this]; exact e2, by simp⟩
      rw [decide_eq_false hfi, cond_false, zbP ⟨h1, h2⟩, e]
      cases hc : zdp p (nth g i).Station (nth g i).Channel with
      | false => rw [Bool.not_false, cond_true, bad hc]
      | true =>
        rw [Bool.not_true, cond_false]; refine hn () ?_; rw [List.range_succ, List.all_append, hI]; simp [hc]
end
end Go.Proofs.YtbpbhbkcahcdiaaGreatDoor
namespace Go.Proofs.YtbpbhbkcahcdiaaGreatDoor
open Go.RowKit
def QN (p : GProblem) (S : List (List GChoice)) (d : List GDomain) (r : List GDomain × Bool) : Prop :=
  (r.2 = true ∧ ClosedN p S r.1 ∧ SubP p r.1 ∧ SubD r.1 d ∧ ∀ e, ClosedN p S e → SubD e d → SubD e r.1) ∨ (r = ([], false) ∧ ∀ e, ClosedN p S e → ¬ SubD e d)
def R21 (p : GProblem) (S : List (List GChoice)) (d : List GDomain) (s c : Int) : Bool := (S.any fun g => remN d g s c) || remP p d s c
section
variable {p : GProblem} {S S' : List (List GChoice)} {d a b : List GDomain} {t : GStore} {fuel : Nat} {l : List GChoice}
theorem zk9 (hok : okG p = true) (ha : SubP p a) (hb : SubP p b) (h1 : SubD a b) (h2 : SubD b a) : a = b := by
  obtain ⟨_, hbd, _, _⟩ := zkC hok; refine zea h1.1 fun i hi => ?_; (have hi' : i < b.length := by rw [← h1.1]; exact hi); (have hp : i < p.Domains.length := by rw [← ha.len]; exact hi); have hch : (nth a i).Channels = (nth b i).Channels := zcn (ha.ord i hp) (hb.ord i hp) (hbd.ch _ (zap hp)).2 (fun x => ⟨(h1.2 i hi').2 x, (h2.2 i hi).2 x⟩); have hst := (h1.2 i hi').1
  cases hx : nth a i; cases hy : nth b i
  rw [hx, hy] at hch hst; simp only at hch hst; rw [hch, hst]
theorem QN.eq {r r' : List GDomain × Bool} (hok : okG p = true) (h : QN p S d r) (h' : QN p S d r') : r = r' := by
  rcases h with ⟨h1, h2, h3, h4, h5⟩ | ⟨h1, h2⟩
  · rcases h' with ⟨g1, g2, g3, g4, g5⟩ | ⟨g1, g2⟩
    · exact Prod.ext (zk9 hok h3 g3 (g5 _ h2 h4) (h5 _ g2 g4)) (h1.trans g1.symm)
    · exact absurd h4 (g2 _ h2)
  · rcases h' with ⟨g1, g2, g3, g4, g5⟩ | ⟨g1, g2⟩
    · exact absurd g4 (h2 _ g2)
    · rw [h1, g1]
theorem ClosedN.mono (h : ClosedN p S d) (hs : ∀ g ∈ S', g ∈ S) : ClosedN p S' d := ⟨h.cl, fun g hg => h.ne g (hs g hg), fun g hg => h.calm g (hs g hg)⟩
theorem QN.congr {r : List GDomain × Bool} (h : QN p S d r) (hs : ∀ g, g ∈ S ↔ g ∈ S') : QN p S' d r := by
  have f : ∀ {e}, ClosedN p S' e → ClosedN p S e := fun he => he.mono fun g hg => (hs g).1 hg; rcases h with ⟨h1, h2, h3, h4, h5⟩ | ⟨h1, h2⟩
  · exact .inl ⟨h1, h2.mono fun g hg => (hs g).2 hg, h3, h4, fun e he => h5 e (f he)⟩
  · exact .inr ⟨h1, fun e he => h2 e (f he)⟩
theorem R21.mono (hok : okG p = true) : MonoR (R21 p S) := fun a b s c h hr => by
  unfold R21 at hr ⊢; rw [Bool.or_eq_true, List.any_eq_true] at hr ⊢; rcases hr with ⟨g, hg, hr⟩ | hr
  · refine .inl ⟨g, hg, ?_⟩; unfold remN at hr ⊢; rw [Bool.and_eq_true, List.all_eq_true] at hr ⊢; refine ⟨hr.1, fun x hx => ?_⟩; have := hr.2 x hx; rw [Bool.or_eq_true] at this ⊢; exact this.imp id (zcF h)
  · exact .inr (zeW (zkC hok).1 h hr)
theorem ValidL.take (h : ValidL l) (n : Nat) : ValidL (l.take n) := by
  refine ⟨fun x hx => h.good x (List.mem_of_mem_take hx), fun i j hij hj => ?_⟩; rw [List.length_take] at hj; rw [zao (by rw [List.length_take]; omega), zao (by rw [List.length_take]; omega), List.getElem_take, List.getElem_take]; have := h.inc i j hij (by omega)
  rwa [zao (by omega), zao (by omega)] at this
end
end Go.Proofs.YtbpbhbkcahcdiaaGreatDoor
namespace Go.Proofs.YtbpbhbkcahcdiaaGreatDoor
open Go.RowKit
section
variable {p : GProblem} {fuel : Nat}
theorem zkp {g : List GChoice} : zbz p g = some (okG p && okN p g) := by
  unfold zbz
  cases hok : okG p with
  | false => rfl
  | true =>
    obtain ⟨v, h1, h2⟩ := zjz (zkw hok); rw [Bool.not_true, cond_false, h1, Option.bind_some]; have e : zax ⟨v, default, []⟩ g = zaj ⟨v, default, []⟩ g := rfl; rw [e, zjM (t := ⟨v, default, []⟩) h2]; rfl
theorem zgP {g : List GChoice} : zbl p g = some (okG p && okN p g) := by
  cases hok : okG p with
  | false =>
    unfold zbl; rw [zjv, Option.bind_some, hok]; rfl
  | true => rw [zh0 hok]; rfl
theorem zgb (hf : 100000 ≤ fuel) (g l : List GChoice) : zbm fuel p g l = some true := by
  have hkn := zjh hf; unfold zbm; obtain ⟨b, hb⟩ := zkL (p := p) (a := 10) (b := 40) (fuel := fuel) (by omega); have e1 : zaH g g = true := viols_iff.2 fun _ h => h; rw [hb]; simp only [zaF, Option.bind_some, hkn, zkp, zgP, ziM, beq_self_eq_true, cond_true]; rw [← ziM, e1]
  cases ((!b || decide (20 < (g.length : Int))) || decide (20 < (l.length : Int))) <;> rfl
end
end Go.Proofs.YtbpbhbkcahcdiaaGreatDoor
namespace Go.Proofs.YtbpbhbkcahcdiaaGreatDoor
open Go.RowKit Go.ChangeShapes Go.WideShapes Go.Deep
def Opens {H : Type} (enc : TypeId × Value → H) (w : World) (base : Nat) (spare : Nat → Bool) (held : Bool) (t : TypeId) {α : Type} (R : List Value → α → Prop) : Prop :=
  ∀ fuel cs y, DataW.trod enc Tryz.prog w base spare held fuel t cs = some y → ∃ x, R cs x
section
variable {H : Type} {enc : TypeId × Value → H} {w : World} {base : Nat} {spare : Nat → Bool} {held : Bool}
theorem Opens.int {t : TypeId} (ht : Tryz.prog.underlying t = some (.int .i64)) : Opens enc w base spare held t (fun cs (x : Int) => cs = [.int .i64 x]) := fun fuel cs y h => by
  obtain ⟨k, hk, _⟩ := DataW.trod_int ht h; exact ⟨k, hk⟩
theorem zld {a : Addr} {v : Value} (h : w.cell? a = some v) : Cb w a.block := by
  unfold World.cell? at h
  split at h
  all_goals (first | exact ⟨_, _, _, by assumption⟩ | simp at h | skip)
theorem Opens.any {t e : TypeId} {k : Nat} {α : Type} [Inhabited α] {R : List Value → α → Prop} (ht : Tryz.prog.underlying t = some (.slice e)) (hk : Tryz.prog.cellsOf e = k) (hpos : 0 < k) (ho : Opens enc w base spare held e R) :
    Opens enc w base spare held t (fun cs (l : List α) => ∃ v c, cs = [v] ∧ SlC (Frz.all w) v k c ∧ c.length = l.length ∧ ∀ i, i < l.length → R (nth c i) (nth l i)) := fun fuel cs y h => by
  rcases open_slice ht h with ⟨h0, _⟩ | ⟨a, len, cap, m, n, D, Pl, hcs, hb, hl, hm, hmm, _, hx⟩
  · exact ⟨[], _, [], h0, SlC.nil _ _, rfl, fun i hi => absurd hi (Nat.not_lt_zero i)⟩
  · subst hcs; (have hlm : len ≤ m := by rw [hmm]; split <;> omega)
    have each : ∀ i, i < m → ∃ x : List Value × α, x.1.length = k ∧ R x.1 x.2 ∧ ∀ j, j < k → w.cell? (a.add (i * k + j)) = x.1[j]? := fun i hi => by
      obtain ⟨cs', h1, h2⟩ := hx i hi; rw [hk] at h1; obtain ⟨_, hlen, hcell⟩ := World.cells?_some h1; obtain ⟨x, hR⟩ := ho _ _ _ h2; exact ⟨(cs', x), hlen, hR, fun j hj => by rw [← hcell j hj, add_add]⟩
    obtain ⟨X, hX⟩ := choose_lt each
    have hn : ∀ i, i < len → nth ((List.range len).map fun i => (X i).1) i = (X i).1 := fun i hi => by
      rw [zao (by simpa using hi)]; simp
    have hn2 : ∀ i, i < len → nth ((List.range len).map fun i => (X i).2) i = (X i).2 := fun i hi => by
      rw [zao (by simpa using hi)]; simp
    refine ⟨(List.range len).map fun i => (X i).2, _, (List.range len).map fun i => (X i).1, rfl, ⟨some a, cap, by simp, by simpa using hl, by unfold maxLen at hm; omega, fun c hc => ?_, fun hp => ?_⟩, by simp, fun i hi => ?_⟩
    · simp at hc; obtain ⟨i, hi, rfl⟩ := hc; exact (hX i (by omega)).1
    · (have hp' : 0 < len := by simpa using hp); have c0 := (hX 0 (by omega)).2.2 0 hpos; have hx0 := (hX 0 (by omega)).1; rw [List.getElem?_eq_getElem (by omega)] at c0; have hcb := zld c0; have hs := World.cell?_spot c0; simp [Addr.add] at hs hcb; obtain ⟨b, off, sp⟩ := a; simp at hs hcb; subst hs; refine ⟨b, off, rfl, hcb, fun i hi j hj => ?_⟩; simp at hi; rw [hn i hi] at hj ⊢; have hxi := hX i (by omega); have := hxi.2.2 j (by omega); refine Eq.trans ?_ this
      show w.cell? _ = _
      rw [zcQ, Nat.add_assoc]
    · simp at hi; rw [hn i hi, hn2 i hi]; exact (hX i (by omega)).2.1
theorem Opens.slC {t e : TypeId} {k : Nat} {α : Type} [Inhabited α] {en : α → List Value} (ht : Tryz.prog.underlying t = some (.slice e)) (hk : Tryz.prog.cellsOf e = k) (hpos : 0 < k) (ho : Opens enc w base spare held e (fun cs (x : α) => cs = en x)) :
    Opens enc w base spare held t (fun cs (l : List α) => ∃ v, cs = [v] ∧ SlC (Frz.all w) v k (l.map en)) := fun fuel cs y h => by
  obtain ⟨l, v, c, h1, h2, h3, h4⟩ := Opens.any ht hk hpos ho _ _ _ h; refine ⟨l, v, h1, ?_⟩
  have : c = l.map en := by
    apply List.ext_getElem (by simpa using h3); intro i hi hi2; rw [← zao hi, h4 i (by omega), List.getElem_map, zao (by omega)]
  rw [← this]; exact h2
theorem Opens.slD {t e : TypeId} {k : Nat} {α : Type} [Inhabited α] {rep : Frz → List Value → α → Prop} (ht : Tryz.prog.underlying t = some (.slice e)) (hk : Tryz.prog.cellsOf e = k) (hpos : 0 < k) (ho : Opens enc w base spare held e (rep (Frz.all w))) :
    Opens enc w base spare held t (fun cs (l : List α) => ∃ v c, cs = [v] ∧ SlD rep (Frz.all w) v k c l) := fun fuel cs y h => by
  obtain ⟨l, v, c, h1, h2, h3, h4⟩ := Opens.any ht hk hpos ho _ _ _ h; exact ⟨l, v, c, h1, h2, h3, h4⟩
end
end Go.Proofs.YtbpbhbkcahcdiaaGreatDoor
