/- Bp Ya Yc Ly Bs: shortened and put together by squeeze.py. -/
import Derived.Test.YtlaafmiejkebgaaGreatQ04
import Derived.Shelf.SlSortCmp.WholeK
import Derived.Shelf.SlicesG.Cmp
import Derived.Ground.SlsfProg
import Derived.Ground.SlgcProg
import Derived.Test.YtlaafmiejkebgaaGreatProg
import Derived.Shelf.SlSortCmp.NoneTotal
import Derived.RangeFuncLeaves
import Derived.Deep.RegionWith
import Derived.StillTailTactics
set_option maxRecDepth 100000
set_option maxHeartbeats 4000000
set_option linter.unusedVariables false
set_option linter.unusedSectionVars false
set_option linter.unusedSimpArgs false
namespace Go.Proofs.YtlaafmiejkebgaaGreat
open Go.RowKit
abbrev zax (c : Gpoint) : Value := .agg (Gpoint.enc c).toArray
theorem zjz {a b : Gpoint} (h : zax a = zax b) : a = b := by
  cases a; cases b
  simp [zax, Gpoint.enc] at h; simp [h]
instance : TyMf Tryz.prog 79 3 zax (Value.int .i64) 0 := ⟨⟨81, by kernel_rfl, fun c b w => by kernel_rfl, fun a b w => ⟨decide (a.product = b.product) && decide (a.thousandths = b.thousandths), zhL (by kernel_rfl) _ _ _ _ w, by
  rw [Bool.and_eq_true, decide_eq_true_eq, decide_eq_true_eq]
  cases a; cases b; simp⟩, fun c w => by kernel_rfl, fun c e r w => rfl, fun a b h => zjz h, fun c => by
  cases c
  simp [zax, Gpoint.enc, Instr.sameBits], fun w => by kernel_rfl⟩⟩
structure GProduct where
  Area : Int
  Category : Int
  Supply : Int
  Units : Int
  Reserve : Int
deriving DecidableEq, Inhabited
abbrev GProduct.enc (x : GProduct) : List Value := [.int .i64 x.Area, .int .i64 x.Category, .int .i64 x.Supply, .int .i64 x.Units, .int .i64 x.Reserve]
theorem GProduct.len (x : GProduct) : (GProduct.enc x).length = 5 := rfl
def R_List_Int.rep (F : Frz) (c : List Value) (x : List Int) : Prop := ∃ (v0 : Value), c = [v0] ∧ SlC F v0 1 (x.map eI)
theorem R_List_Int.mono {F G : Frz} {c : List Value} {x : List Int} (hle : F.Le G) (h : R_List_Int.rep F c x) : R_List_Int.rep G c x := by
  obtain ⟨v0, h0, h1⟩ := h; exact ⟨v0, h0, h1.mono hle⟩
theorem R_List_Int.len {F : Frz} {c : List Value} {x : List Int} (h : R_List_Int.rep F c x) : c.length = 1 := by
  obtain ⟨v0, h0, h1⟩ := h; subst h0; rfl
theorem R_List_Int.one {F : Frz} {c : List Value} {x : List Int} (h : R_List_Int.rep F c x) : OneCs c := by
  obtain ⟨v0, h0, h1⟩ := h; subst h0; haveI := h1.oneC
  infer_instance
theorem R_List_Int.c0 {F : Frz} {c : List Value} {x : List Int} (h : R_List_Int.rep F c x) : c[0]? = some (nth c 0) ∧ SlC F (nth c 0) 1 (x.map eI) := by
  obtain ⟨v0, h0, h1⟩ := h; subst h0; exact ⟨rfl, h1⟩
theorem R_List_Int.form {F : Frz} {c : List Value} {x : List Int} (h : R_List_Int.rep F c x) : (c.drop 0).take 1 = [nth c 0] := by
  obtain ⟨v0, h0, h1⟩ := h; subst h0; rfl
structure GBidderPlan where
  Bidder : Int
  Budget : Int
  Values : List (List Int)
deriving DecidableEq, Inhabited
def GBidderPlan.rep (F : Frz) (c : List Value) (x : GBidderPlan) : Prop := ∃ (v2 : Value) (cs2 : List (List Value)), c = [.int .i64 x.Bidder, .int .i64 x.Budget, v2] ∧ SlD R_List_Int.rep F v2 1 cs2 x.Values
theorem GBidderPlan.mono {F G : Frz} {c : List Value} {x : GBidderPlan} (hle : F.Le G) (h : GBidderPlan.rep F c x) : GBidderPlan.rep G c x := by
  obtain ⟨v2, cs2, h0, h3⟩ := h; exact ⟨v2, cs2, h0, SlD.mono (rep := R_List_Int.rep) (fun _ _ _ _ => R_List_Int.mono) h3 hle⟩
theorem GBidderPlan.len {F : Frz} {c : List Value} {x : GBidderPlan} (h : GBidderPlan.rep F c x) : c.length = 3 := by
  obtain ⟨v2, cs2, h0, h3⟩ := h; subst h0; rfl
theorem GBidderPlan.one {F : Frz} {c : List Value} {x : GBidderPlan} (h : GBidderPlan.rep F c x) : OneCs c := by
  obtain ⟨v2, cs2, h0, h3⟩ := h; subst h0; haveI := h3.1.oneC
  infer_instance
theorem GBidderPlan.c0 {F : Frz} {c : List Value} {x : GBidderPlan} (h : GBidderPlan.rep F c x) : c[0]? = some (.int .i64 x.Bidder) := by
  obtain ⟨v2, cs2, h0, h3⟩ := h; subst h0; rfl
theorem GBidderPlan.c1 {F : Frz} {c : List Value} {x : GBidderPlan} (h : GBidderPlan.rep F c x) : c[1]? = some (.int .i64 x.Budget) := by
  obtain ⟨v2, cs2, h0, h3⟩ := h; subst h0; rfl
theorem GBidderPlan.c2 {F : Frz} {c : List Value} {x : GBidderPlan} (h : GBidderPlan.rep F c x) : c[2]? = some (nth c 2) ∧ ∃ cs, SlD R_List_Int.rep F (nth c 2) 1 cs x.Values := by
  obtain ⟨v2, cs2, h0, h3⟩ := h; subst h0; exact ⟨rfl, cs2, h3⟩
theorem GBidderPlan.form {F : Frz} {c : List Value} {x : GBidderPlan} (h : GBidderPlan.rep F c x) : (c.drop 0).take 3 = [.int .i64 x.Bidder, .int .i64 x.Budget, nth c 2] := by
  obtain ⟨v2, cs2, h0, h3⟩ := h; subst h0; rfl
structure GStationPlan where
  Station : Int
  Home : Int
  Values : List Int
deriving DecidableEq, Inhabited
def GStationPlan.rep (F : Frz) (c : List Value) (x : GStationPlan) : Prop := ∃ (v2 : Value), c = [.int .i64 x.Station, .int .i64 x.Home, v2] ∧ SlC F v2 1 (x.Values.map eI)
theorem GStationPlan.mono {F G : Frz} {c : List Value} {x : GStationPlan} (hle : F.Le G) (h : GStationPlan.rep F c x) : GStationPlan.rep G c x := by
  obtain ⟨v2, h0, h3⟩ := h; exact ⟨v2, h0, h3.mono hle⟩
theorem GStationPlan.len {F : Frz} {c : List Value} {x : GStationPlan} (h : GStationPlan.rep F c x) : c.length = 3 := by
  obtain ⟨v2, h0, h3⟩ := h; subst h0; rfl
theorem GStationPlan.one {F : Frz} {c : List Value} {x : GStationPlan} (h : GStationPlan.rep F c x) : OneCs c := by
  obtain ⟨v2, h0, h3⟩ := h; subst h0; haveI := h3.oneC
  infer_instance
theorem GStationPlan.c0 {F : Frz} {c : List Value} {x : GStationPlan} (h : GStationPlan.rep F c x) : c[0]? = some (.int .i64 x.Station) := by
  obtain ⟨v2, h0, h3⟩ := h; subst h0; rfl
theorem GStationPlan.c1 {F : Frz} {c : List Value} {x : GStationPlan} (h : GStationPlan.rep F c x) : c[1]? = some (.int .i64 x.Home) := by
  obtain ⟨v2, h0, h3⟩ := h; subst h0; rfl
theorem GStationPlan.c2 {F : Frz} {c : List Value} {x : GStationPlan} (h : GStationPlan.rep F c x) : c[2]? = some (nth c 2) ∧ SlC F (nth c 2) 1 (x.Values.map eI) := by
  obtain ⟨v2, h0, h3⟩ := h; subst h0; exact ⟨rfl, h3⟩
theorem GStationPlan.form {F : Frz} {c : List Value} {x : GStationPlan} (h : GStationPlan.rep F c x) : (c.drop 0).take 3 = [.int .i64 x.Station, .int .i64 x.Home, nth c 2] := by
  obtain ⟨v2, h0, h3⟩ := h; subst h0; rfl
def zaF (n : Int) (low : Int) (high : Int) : Bool :=
  ((decide (low ≤ n)) && (decide (n ≤ high)))
theorem zca (F0 : Frz) (w : World) (hF0 : F0.At w) (n : Int) (low : Int) (high : Int) : Calls Tryz.prog 73 #[.int .i64 n, .int .i64 low, .int .i64 high] w fun e w' => e = .returned (.bool (zaF n low high)) ∧ Below w.heap.size w w' := by
  obtain ⟨r, hk⟩ : ∃ r, zaF n low high = r := ⟨_, rfl⟩; rw [hk]; unfold zaF at hk; obtain ⟨S0, F1, rfl, hS0, hp0⟩ := zag hF0; refine zak Tryz.func73 rfl rfl rfl hp0 ?_; refine T.sr ?_; refine TL.run 1 rfl ?_; refine TL.ns (T.seq ?_); refine T.ad (ι := Unit) (fun z => [(6, .bool ((decide (low ≤ n)) && (decide (n ≤ high))))]) (fun z => [.fr F1]) (fun z => True) ?_ ?_
  · refine T.region ?_; refine TL.run 4 rfl ?_; refine TL.gs rfl rfl rfl (fun h1 => ?_) (fun h1 => ?_)
    · have p1 := of_decide_eq_true h1; refine TL.run 5 rfl ?_; refine TL.nil ?_; exact K.ab () trivial (.b (zcY h1) .nil) (List.Sublist.refl _)
    · have p1 := of_decide_eq_false h1; refine TL.run 5 rfl ?_; refine TL.nil ?_; exact K.ab () trivial (.b (za8 h1).symm .nil) (List.Sublist.refl _)
  · rintro _ _; refine T.ret ?_; subst hk; exact K.ah rfl rfl (fun w' hw => ⟨rfl, hw.isBelow⟩)
def zbv (x_ : Int) : Bool :=
  (decide (¬ x_ = x_))
theorem zdA (F0 : Frz) (w : World) (hF0 : F0.At w) (x_ : Int) : Calls Tryz.prog 77 #[.int .i64 x_] w fun e w' => e = .returned (.bool (zbv x_)) ∧ Below w.heap.size w w' := by
  obtain ⟨r, hk⟩ : ∃ r, zbv x_ = r := ⟨_, rfl⟩; rw [hk]; unfold zbv at hk; obtain ⟨S0, F1, rfl, hS0, hp0⟩ := zag hF0; refine zak Tryz.func77 rfl rfl rfl hp0 ?_; refine T.sr ?_; refine TL.run 1 rfl ?_; refine TL.nx ?_; refine TL.run 4 rfl ?_; refine TL.ns (T.ret ?_); subst hk; exact K.ah rfl rfl (fun w' hw => ⟨rfl, hw.isBelow⟩)
def zal (x_ : Int) (y : Int) : Int :=
  (bif (zbv x_) then
    (bif (zbv y) then
      0
      else
      (-1))
    else
    (bif (zbv y) then
      1
      else
      (bif decide (x_ < y) then
        (-1)
        else
        (bif decide (y < x_) then
          1
          else
          0))))
theorem zce (F0 : Frz) (w : World) (hF0 : F0.At w) (x_ : Int) (y : Int) : Calls Tryz.prog 50 #[.int .i64 x_, .int .i64 y] w fun e w' => e = .returned (.int .i64 (zal x_ y)) ∧ Below w.heap.size w w' := by
  obtain ⟨r, hk⟩ : ∃ r, zal x_ y = r := ⟨_, rfl⟩; rw [hk]; unfold zal at hk; obtain ⟨S0, F1, rfl, hS0, hp0⟩ := zag hF0; refine zak Tryz.func50 rfl rfl rfl hp0 ?_; refine T.sr ?_; refine TL.run 1 rfl ?_; refine TL.nx ?_; refine TL.run 1 rfl ?_; refine TL.e (Ew.ai rfl rfl rfl (fun w hw => zdA _ w (hw.fr (i := 0) rfl) x_)) ?_; rintro _ _ ⟨rfl, rfl⟩; refine TL.run 1 rfl ?_; refine TL.nx ?_; refine TL.run 1 rfl ?_; refine TL.e (Ew.ai rfl rfl rfl (fun w hw => zdA _ w (hw.fr (i := 0) rfl) y)) ?_; rintro _ _ ⟨rfl, rfl⟩; refine TL.run 1 rfl ?_; refine TL.ns (T.seq (T.sr ?_)); refine TL.run 1 rfl ?_; refine TL.ns ?_; refine T.cond rfl (fun h1 => ?_) (fun h1 => ?_)
  · replace hk := zaa hk h1; refine T.seq (T.sr ?_); refine TL.run 1 rfl ?_; refine TL.ns ?_; refine T.cond rfl (fun h2 => ?_) (fun h2 => ?_)
    · replace hk := zaa hk h2; refine T.sr ?_; refine TL.run 1 rfl ?_; refine TL.ns (T.ret (K.a (K.a ?_))); subst hk; exact K.ah rfl rfl (fun w' hw => ⟨rfl, hw.isBelow⟩)
    · replace hk := zab hk h2; refine T.skip (K.seq (T.sr ?_)); refine TL.run 1 rfl ?_; refine TL.ns (T.ret (K.a ?_)); subst hk; exact K.ah rfl rfl (fun w' hw => ⟨rfl, hw.isBelow⟩)
  · replace hk := zab hk h1; refine T.skip (K.seq (T.seq (T.sr ?_))); refine TL.run 1 rfl ?_; refine TL.ns ?_; refine T.cond rfl (fun h3 => ?_) (fun h3 => ?_)
    · replace hk := zaa hk h3; refine T.sr ?_; refine TL.run 1 rfl ?_; refine TL.ns (T.ret (K.a ?_)); subst hk; exact K.ah rfl rfl (fun w' hw => ⟨rfl, hw.isBelow⟩)
    · replace hk := zab hk h3; refine T.skip (K.seq (T.seq (T.sr ?_))); refine TL.run 3 rfl ?_; refine TL.ns ?_; refine T.cond rfl (fun h4 => ?_) (fun h4 => ?_)
      · have p4 := of_decide_eq_true h4; replace hk := zaa hk h4; refine T.sr ?_; refine TL.run 1 rfl ?_; refine TL.ns (T.ret (K.a ?_)); subst hk; exact K.ah rfl rfl (fun w' hw => ⟨rfl, hw.isBelow⟩)
      · have p4 := of_decide_eq_false h4; replace hk := zab hk h4; refine T.skip (K.seq (T.seq (T.sr ?_))); refine TL.run 3 rfl ?_; refine TL.ns ?_; refine T.cond rfl (fun h5 => ?_) (fun h5 => ?_)
        · have p5 := of_decide_eq_true h5; replace hk := zaa hk h5; refine T.sr ?_; refine TL.run 1 rfl ?_; refine TL.ns (T.ret (K.a ?_)); subst hk; exact K.ah rfl rfl (fun w' hw => ⟨rfl, hw.isBelow⟩)
        · have p5 := of_decide_eq_false h5; replace hk := zab hk h5; refine T.skip (K.seq (T.sr ?_)); refine TL.run 1 rfl ?_; refine TL.ns (T.ret ?_); subst hk; exact K.ah rfl rfl (fun w' hw => ⟨rfl, hw.isBelow⟩)
def zcl (vals : List Int) : Int :=
  zap (fun (_ : Unit) =>
    0)
  (fun k1 =>
    zam (fun (i_3 : Nat) (next2 : Unit → Int) (_ : Unit) =>
      (bif decide (¬ (nth vals i_3) = 0) then
        (nth vals i_3)
        else
        next2 ()))
    (fun (_ : Unit) =>
      k1 ()) (vals.length - 0) 0 ())
theorem zd5 (F0 : Frz) (w : World) (hF0 : F0.At w) (vals : List Int) (vvals : Value) (hvals : SlC F0 vvals 1 (vals.map eI)) : Calls Tryz.prog 49 #[vvals] w fun e w' => e = .returned (.int .i64 (zcl vals)) ∧ Below w.heap.size w w' := by
  obtain ⟨r, hk⟩ : ∃ r, zcl vals = r := ⟨_, rfl⟩; rw [hk]; unfold zcl at hk; haveI := hvals.oneC; obtain ⟨S0, F1, rfl, hS0, hp0⟩ := zag hF0; refine zak Tryz.func49 rfl rfl rfl hp0 ?_; refine T.sr ?_; refine TL.run 1 rfl ?_; refine TL.nx ?_; refine TL.run 1 rfl ?_; refine TL.ns (T.seq (T.sr ?_)); refine TL.run 1 rfl ?_; refine TL.y (Yv.am rfl rfl hvals (List.length_map _)) ?_; have hm7 : vals.length ≤ 9223372036854775807 := (List.length_map _) ▸ hvals.max; refine TL.run 1 rfl ?_; refine TL.ns ?_; have hq := zae hk; clear hk; obtain ⟨k1, hk1, hk⟩ := hq; (try dsimp only at hk); refine T.ad (ι := Unit) (fun z => [(3, .int .i64 0)]) (fun z => [.fr F1]) (fun z => k1 () = r) ?_ ?_
  · have hq := zaw hk; clear hk; obtain ⟨f2, kk2, hf2, hkk2, hk⟩ := hq; refine T.block ?_; refine T.loop (ι := Nat) (fun z => [(3, .int .i64 0), (6, vvals), (7, .int .i64 (vals.length : Int)), (8, .int .i64 (z : Int))]) (fun z => [.fr F1]) (fun z => zam f2 kk2 (vals.length - z) z () = r) (fun z => vals.length - z) 0 ?_ ?_ ?_ ?_
    · exact hk
    · exact (.c (.c (.c (.c .nil))))
    · exact List.Sublist.refl _
    · rintro i_3 hk; refine T.sr ?_; refine TL.run 1 rfl ?_; refine TL.ns (T.seq ?_); refine T.cond rfl (fun h4 => ?_) (fun h4 => ?_)
      · have p4 := of_decide_eq_true h4; rw [zaQ (by omega)] at hk; generalize hn2 : zam f2 kk2 (vals.length - (i_3 + 1)) (i_3 + 1) = next2 at hk; rw [← hf2] at hk; (try dsimp only at hk); refine T.skip (K.seq (T.seq (T.block (T.sr ?_)))); refine TL.y (Yv.an (i := i_3) rfl rfl rfl hvals (List.length_map _) rfl (by omega)) ?_; refine TL.y (Yv.al 0 (i := i_3) (j := 0) rfl rfl rfl hvals (by omega) rfl rfl) ?_; refine TL.run 1 rfl ?_; refine TL.nx ?_; refine TL.run 3 rfl ?_; refine TL.ns ?_; refine T.cond rfl (fun h5 => ?_) (fun h5 => ?_)
        · have p5 := of_decide_eq_true h5; replace hk := zaa hk h5; refine T.sr ?_; refine TL.run 2 rfl ?_; refine TL.ns (T.ret (K.aj (K.a (K.a (K.aj (K.a ?_)))))); subst hk; exact K.ah rfl rfl (fun w' hw => ⟨rfl, hw.isBelow⟩)
        · have p5 := of_decide_eq_false h5; replace hk := zab hk h5; refine T.skip (K.ac (K.seq (T.region ?_))); refine TL.y (Yv.av rfl rfl rfl (by omega)) ?_; refine TL.run 1 rfl ?_; refine TL.nil ?_; rw [← hn2] at hk; exact K.next (i_3 + 1) hk (by omega) (.c (.c (.c (.c .nil)))) (List.Sublist.refl _)
      · have p4 := of_decide_eq_false h4; rw [zaR (by omega), ← hkk2] at hk; (try dsimp only at hk); refine T.exit (K.aa (K.aa (K.ae ?_))); exact K.ab () hk (.c .nil) (List.Sublist.refl _)
  · rintro _ hk; rw [← hk1] at hk; (try dsimp only at hk); refine T.sr ?_; refine TL.run 2 rfl ?_; refine TL.ns (T.ret ?_); subst hk; exact K.ah rfl rfl (fun w' hw => ⟨rfl, hw.isBelow⟩)
def zaO (a : GProduct) (b : GProduct) : Int :=
  (zcl [(zal a.Area b.Area), (zal a.Category b.Category)])
theorem zei (F0 : Frz) (w : World) (hF0 : F0.At w) (a : GProduct) (b : GProduct) : Calls Tryz.prog 74 #[.agg [.int .i64 a.Area, .int .i64 a.Category, .int .i64 a.Supply, .int .i64 a.Units, .int .i64 a.Reserve].toArray, .agg [.int .i64 b.Area, .int .i64 b.Category, .int .i64 b.Supply, .int .i64 b.Units, .int .i64 b.Reserve].toArray] w fun e w' => e = .returned (.int .i64 (zaO a b)) ∧ Below w.heap.size w w' := by
  obtain ⟨r, hk⟩ : ∃ r, zaO a b = r := ⟨_, rfl⟩; rw [hk]; unfold zaO at hk; obtain ⟨S0, F1, rfl, hS0, hp0⟩ := zag hF0; refine zak Tryz.func74 rfl rfl rfl hp0 ?_; refine T.sr ?_; refine TL.e (Ew.aw rfl rfl) ?_; rintro _ _ ⟨g2, rfl, rfl⟩; refine TL.e (Ew.aw rfl rfl) ?_; rintro _ _ ⟨g3, rfl, rfl⟩; refine TL.run 1 rfl ?_; refine TL.ns (T.seq ?_); refine T.ax (.still 0 (.still 1 (.still 2 (.still 3 (.still 5 (.still 6 (.still 7 (.still 8 (.eff 4 (.eff 9 (.eff 10 (.eff 11 (.still 12 .done))))))))))))) _ (by kernel_rfl) (List.Sublist.refl _) ?_; refine TS.y rfl (Yv.fieldAddr rfl rfl) ?_; refine TS.y rfl (Yv.af 1 rfl rfl rfl rfl) ?_; refine TS.y rfl (Yv.fieldAddr rfl rfl) ?_; refine TS.y rfl (Yv.af 0 rfl rfl rfl rfl) ?_; refine TS.y rfl (Yv.fieldAddr rfl rfl) ?_; refine TS.y rfl (Yv.af 1 rfl rfl rfl rfl) ?_; refine TS.y rfl (Yv.fieldAddr rfl rfl) ?_; refine TS.y rfl (Yv.af 0 rfl rfl rfl rfl) ?_; refine TS.eff ?_; refine TSo.aC rfl (Wt.none rfl) rfl rfl (Ew.ai rfl rfl rfl (fun w hw => zce _ w (hw.fr (i := 2) rfl) a.Area b.Area)) ?_; rintro _ _ ⟨rfl, rfl⟩; refine ⟨(fun w hw => hw.sub Sx), ?_⟩; refine TS.eff ?_; refine TSo.aC rfl (Wt.none rfl) rfl rfl (Ew.ai rfl rfl rfl (fun w hw => zce _ w (hw.fr (i := 2) rfl) a.Category b.Category)) ?_; rintro _ _ ⟨rfl, rfl⟩; refine ⟨(fun w hw => hw.sub Sx), ?_⟩; refine TS.eff ?_; refine TSo.aC rfl (Wt.none rfl) rfl rfl (Ew.buildSlice rfl rfl rfl (by decide)) ?_; rintro _ _ ⟨g15, rfl, rfl⟩; refine ⟨(fun w hw => hw.sub Sx), ?_⟩; refine TS.aA (fun w hw => hw.freezeR (i := 3) (j := 0) (by decide) rfl rfl) ?_; rintro F2 ⟨le1_2, hz2⟩; dsimp only [List.set, List.eraseIdx]; have hfF2 : SlC F2.toFrz (.slice (some ⟨g15, 0, none⟩) 2 2) 1 ([(zal a.Area b.Area), (zal a.Category b.Category)].map eI) := (SlK.lit hz2 rfl (Nat.le_refl _) (by decide)).toF (xs := [(zal a.Area b.Area), (zal a.Category b.Category)]) rfl (fun _ => rfl); refine TS.eff ?_; refine TSo.aC rfl (Wt.none rfl) rfl rfl (Ew.ai rfl rfl rfl (fun w hw => zd5 _ w (hw.fr (i := 2) rfl) [(zal a.Area b.Area), (zal a.Category b.Category)] (.slice (some ⟨g15, 0, none⟩) 2 2) hfF2)) ?_; rintro _ _ ⟨rfl, rfl⟩; refine ⟨(fun w hw => (hw.frLe (i := 2) rfl le1_2).sub Sx), ?_⟩; refine TS.run 1 rfl ?_; refine TS.done ?_; refine K.seq (T.ret ?_); subst hk; exact K.ah rfl rfl (fun w' hw => ⟨rfl, hw.isBelow⟩)
def zbB (p : GProduct) (xf0_ : Vec 64 Int) : Option (Bool × Vec 64 Int) :=
  (bif (((!(zaF p.Area 0 63)) || (!(zaF p.Category 1 2))) || (!(zaF p.Supply 1 12))) then
    some (false, xf0_)
    else
    grd (0 ≤ p.Area ∧ p.Area < (64 : Int)) <|
    some ((((decide ((Vec.get (Vec.put xf0_ p.Area.toNat (wI ((Vec.get xf0_ p.Area.toNat) + p.Supply))) p.Area.toNat) ≤ 12)) && (zaF p.Units 1 100000)) && (zaF p.Reserve 0 549755813888)), (Vec.put xf0_ p.Area.toNat (wI ((Vec.get xf0_ p.Area.toNat) + p.Supply)))))
theorem zes (F0 : Frz) (w : World) (hF0 : F0.At w) (p : GProduct) (xf0_ : Vec 64 Int) (gf0_ : Nat) (hO : Hp w (fps [.row gf0_ 126 (xf0_.1.map vI)]) [.row gf0_ 126 (xf0_.1.map vI)] w) (hA : ∀ g, fps [.row gf0_ 126 (xf0_.1.map vI)] g → ¬ F0.S g) (r : Bool × Vec 64 Int) (hr : zbB p xf0_ = some r) : Calls Tryz.prog 72 #[.agg [.int .i64 p.Area, .int .i64 p.Category, .int .i64 p.Supply, .int .i64 p.Units, .int .i64 p.Reserve].toArray, .pointer (some ⟨gf0_, 0, none⟩)] w fun e w' => ∃ (y : Unit), (True) ∧ e = .returned (.bool r.1) ∧ FxM F0 w (fps [.row gf0_ 126 (xf0_.1.map vI)]) F0 [.row gf0_ 126 (r.2.1.map vI)] w' := by
  have hk := hr; unfold zbB at hk; obtain ⟨S0, F1, rfl, hS0, hp0⟩ := zbG hF0 hO hA; refine zak (hs := [.row gf0_ 126 (xf0_.1.map vI), .fr F1]) Tryz.func72 rfl rfl rfl hp0 ?_; refine T.sr ?_; refine TL.e (Ew.aw rfl rfl) ?_; rintro _ _ ⟨g2, rfl, rfl⟩; refine TL.run 1 rfl ?_; refine TL.ns (T.seq (T.seq ?_)); refine T.ad (ι := Unit) (fun z => [(1, .pointer (some ⟨gf0_, 0, none⟩)), (2, .pointer (some ⟨g2, 0, none⟩)), (19, .bool (((!(zaF p.Area 0 63)) || (!(zaF p.Category 1 2))) || (!(zaF p.Supply 1 12))))]) (fun z => [.row g2 76 [.int .i64 p.Area, .int .i64 p.Category, .int .i64 p.Supply, .int .i64 p.Units, .int .i64 p.Reserve], .row gf0_ 126 (xf0_.1.map vI), .fr F1]) (fun z => True) ?_ ?_
  · refine T.region ?_; refine TL.y (Yv.fieldAddr rfl rfl) ?_; refine TL.y (Yv.af 0 rfl rfl rfl rfl) ?_; refine TL.e (Ew.ai rfl rfl rfl (fun w hw => zca _ w (hw.fr (i := 2) rfl) p.Area 0 63)) ?_; rintro _ _ ⟨rfl, rfl⟩; refine TL.run 2 rfl ?_; refine TL.gs rfl rfl rfl (fun h1 => ?_) (fun h1 => ?_)
    · refine TL.run 11 rfl ?_; refine TL.nil ?_; exact K.ab () trivial (.c (.c (.b (zas (zas h1)).symm .nil))) (List.Sublist.refl _)
    · refine TL.y (Yv.fieldAddr rfl rfl) ?_; refine TL.y (Yv.af 0 rfl rfl rfl rfl) ?_; refine TL.e (Ew.ai rfl rfl rfl (fun w hw => zca _ w (hw.fr (i := 2) rfl) p.Category 1 2)) ?_; rintro _ _ ⟨rfl, rfl⟩; refine TL.run 3 rfl ?_; refine TL.gs rfl rfl rfl (fun h2 => ?_) (fun h2 => ?_)
      · refine TL.run 5 rfl ?_; refine TL.nil ?_; exact K.ab () trivial (.c (.c (.b (zas (zay h1 h2)).symm .nil))) (List.Sublist.refl _)
      · refine TL.y (Yv.fieldAddr rfl rfl) ?_; refine TL.y (Yv.af 0 rfl rfl rfl rfl) ?_; refine TL.e (Ew.ai rfl rfl rfl (fun w hw => zca _ w (hw.fr (i := 2) rfl) p.Supply 1 12)) ?_; rintro _ _ ⟨rfl, rfl⟩; refine TL.run 2 rfl ?_; refine TL.nil ?_; exact K.ab () trivial (.c (.c (.b (or_f (zay h1 h2)) .nil))) (List.Sublist.refl _)
  · rintro _ _; refine T.cond rfl (fun h3 => ?_) (fun h3 => ?_)
    · replace hk := zaa hk h3; refine T.sr ?_; refine TL.run 1 rfl ?_; refine TL.ns (T.ret (K.a ?_)); obtain rfl := Option.some.inj hk; exact K.ah rfl rfl (fun w' hw => ⟨⟨⟩, trivial, rfl, FxM.of (hw.pick (idx := [1, 2]) rfl (by decide)) hS0 (Frz.Le.refl _)⟩)
    · replace hk := zab hk h3; refine T.skip (K.seq (T.seq ?_)); have hq : (0 ≤ p.Area ∧ p.Area < (64 : Int)) ∧ _ := zaf hk; clear hk; obtain ⟨g22, hk⟩ := hq; (try dsimp only at hk); refine T.ax (.still 0 (.still 1 (.still 2 (.still 4 (.still 5 (.eff 3 (.still 6 (.still 7 (.eff 8 .done))))))))) [.row g2 76 [.int .i64 p.Area, .int .i64 p.Category, .int .i64 p.Supply, .int .i64 p.Units, .int .i64 p.Reserve], .fr F1] (by kernel_rfl) Sx ?_; refine TS.y rfl (Yv.fieldAddr rfl rfl) ?_; refine TS.y rfl (Yv.af 0 rfl rfl rfl rfl) ?_; refine TS.y rfl (Yv.ba (i := p.Area.toNat) rfl rfl rfl (by omega) (by omega)) ?_; refine TS.y rfl (Yv.fieldAddr rfl rfl) ?_; refine TS.y rfl (Yv.af 0 rfl rfl rfl rfl) ?_; refine TS.eff ?_; refine TSo.ay rfl (Wt.none rfl) rfl rfl (Yv.af 1 rfl rfl rfl (ziq (by omega) (Vec.cell (i := p.Area.toNat) (by omega)))) (fun w hw => hw.sub Sx) ?_; refine TS.y rfl (Yv.as (v := .int .i64 (wI ((Vec.get xf0_ p.Area.toNat) + p.Supply))) rfl) ?_; refine TS.y rfl (Yv.ba (i := p.Area.toNat) rfl rfl rfl (by omega) (by omega)) ?_; refine TS.eff ?_; refine TSo.ewG0 rfl (Wt.none rfl) rfl (Ew.bR 1 ((Vec.put xf0_ p.Area.toNat (wI ((Vec.get xf0_ p.Area.toNat) + p.Supply))).1.map vI) rfl rfl rfl rfl (by rw [Vec.len]; first | omega | (simp only [List.length_cons, List.length_nil]; omega)) (upd_p (by omega) (Vec.upd (x := xf0_) (f := vI) (i := p.Area.toNat) (v := wI ((Vec.get xf0_ p.Area.toNat) + p.Supply)) (by omega)))) ?_; rintro _ _ ⟨rfl, rfl⟩; refine ⟨(fun w hw => hw.sub Sx), ?_⟩; refine TS.done ?_; refine K.seq (T.seq ?_); refine T.ad (ι := Unit) (fun z => [(3, .bool (((decide ((Vec.get (Vec.put xf0_ p.Area.toNat (wI ((Vec.get xf0_ p.Area.toNat) + p.Supply))) p.Area.toNat) ≤ 12)) && (zaF p.Units 1 100000)) && (zaF p.Reserve 0 549755813888)))]) (fun z => [.row g2 76 [.int .i64 p.Area, .int .i64 p.Category, .int .i64 p.Supply, .int .i64 p.Units, .int .i64 p.Reserve], .row gf0_ 126 ((Vec.put xf0_ p.Area.toNat (wI ((Vec.get xf0_ p.Area.toNat) + p.Supply))).1.map vI), .fr F1]) (fun z => True) ?_ ?_
      · refine T.region ?_; refine TL.y (Yv.fieldAddr rfl rfl) ?_; refine TL.y (Yv.af 0 rfl rfl rfl rfl) ?_; refine TL.y (Yv.ba (i := p.Area.toNat) rfl rfl rfl (by omega) (by omega)) ?_; refine TL.y (Yv.af 1 rfl rfl rfl (ziq (by omega) (Vec.cell (i := p.Area.toNat) (by omega)))) ?_; refine TL.run 2 rfl ?_; refine TL.gs rfl rfl rfl (fun h4 => ?_) (fun h4 => ?_)
        · have p4 := of_decide_eq_true h4; refine TL.y (Yv.fieldAddr rfl rfl) ?_; refine TL.y (Yv.af 0 rfl rfl rfl rfl) ?_; refine TL.e (Ew.ai rfl rfl rfl (fun w hw => zca _ w (hw.fr (i := 2) rfl) p.Units 1 100000)) ?_; rintro _ _ ⟨rfl, rfl⟩; refine TL.run 2 rfl ?_; refine TL.gs rfl rfl rfl (fun h5 => ?_) (fun h5 => ?_)
          · refine TL.y (Yv.fieldAddr rfl rfl) ?_; refine TL.y (Yv.af 0 rfl rfl rfl rfl) ?_; refine TL.e (Ew.ai rfl rfl rfl (fun w hw => zca _ w (hw.fr (i := 2) rfl) p.Reserve 0 549755813888)) ?_; rintro _ _ ⟨rfl, rfl⟩; refine TL.run 2 rfl ?_; refine TL.nil ?_; exact K.ab () trivial (.b (zcY (zcD h4 h5)) .nil) (List.Sublist.refl _)
          · refine TL.run 5 rfl ?_; refine TL.nil ?_; exact K.ab () trivial (.b (za8 (zcD h4 h5)).symm .nil) (List.Sublist.refl _)
        · have p4 := of_decide_eq_false h4; refine TL.run 10 rfl ?_; refine TL.nil ?_; exact K.ab () trivial (.b (za8 (za8 h4)).symm .nil) (List.Sublist.refl _)
      · rintro _ _; refine T.ret ?_; obtain rfl := Option.some.inj hk; exact K.ah rfl rfl (fun w' hw => ⟨⟨⟩, trivial, rfl, FxM.of (hw.pick (idx := [1, 2]) rfl (by decide)) hS0 (Frz.Le.refl _)⟩)
def zaz (l : List GProduct) (x1c0_ : Vec 64 Int) : Option (Bool × Vec 64 Int) :=
  zap (fun (c_1 : Vec 64 Int) =>
    some (true, c_1))
  (fun k2 =>
    zam (fun (i_5 : Nat) (next4 : Vec 64 Int → Option (Bool × Vec 64 Int)) (c_3 : Vec 64 Int) =>
      (zbB (nth l i_5) c_3).bind fun r18 =>
      (bif ((!r18.1) || ((decide (0 < (i_5 : Int))) && (decide (0 ≤ (zaO (nth l (((i_5 : Int) - 1).toNat)) (nth l i_5)))))) then
        some (false, r18.2)
        else
        next4 r18.2))
    (fun (c_3 : Vec 64 Int) =>
      k2 c_3) (l.length - 0) 0 x1c0_)
theorem zb3 (F0 : Frz) (w : World) (hF0 : F0.At w) (l : List GProduct) (vl : Value) (hl : SlC F0 vl 5 (l.map GProduct.enc)) (x1c0_ : Vec 64 Int) (g1c0_ : Nat) (hO : Hp w (fps [.row g1c0_ 126 (x1c0_.1.map vI)]) [.row g1c0_ 126 (x1c0_.1.map vI)] w) (hA : ∀ g, fps [.row g1c0_ 126 (x1c0_.1.map vI)] g → ¬ F0.S g) (r : Bool × Vec 64 Int) (hr : zaz l x1c0_ = some r) : Calls Tryz.prog 71 #[vl, .func (.func 72) #[] #[.pointer (some ⟨g1c0_, 0, none⟩)], .func (.func 74) #[] #[]] w fun e w' => ∃ (y : Unit), (True) ∧ e = .returned (.bool r.1) ∧ FxM F0 w (fps [.row g1c0_ 126 (x1c0_.1.map vI)]) F0 [.row g1c0_ 126 (r.2.1.map vI)] w' := by
  have hk := hr; unfold zaz at hk; haveI := hl.oneC; obtain ⟨S0, F1, rfl, hS0, hp0⟩ := zbG hF0 hO hA; refine zak (hs := [.row g1c0_ 126 (x1c0_.1.map vI), .fr F1]) Tryz.func71 rfl rfl rfl hp0 ?_; refine T.sr ?_; refine TL.run 1 rfl ?_; refine TL.ns (T.seq (T.sr ?_)); refine TL.run 1 rfl ?_; refine TL.y (Yv.am rfl rfl hl (List.length_map _)) ?_; have hm10 : l.length ≤ 9223372036854775807 := (List.length_map _) ▸ hl.max; refine TL.run 1 rfl ?_; refine TL.ns ?_; have hq := zae hk; clear hk; obtain ⟨k2, hk2, hk⟩ := hq; (try dsimp only at hk); refine T.ad (ι := Vec 64 Int) (fun z => []) (fun z => [.row g1c0_ 126 (z.1.map vI), .fr F1]) (fun z => k2 z = some r) ?_ ?_
  · have hq := zaw hk; clear hk; obtain ⟨f4, kk4, hf4, hkk4, hk⟩ := hq; refine T.block ?_; refine T.loop (ι := Nat × Vec 64 Int) (fun z => [(0, vl), (1, .func (.func 72) #[] #[.pointer (some ⟨g1c0_, 0, none⟩)]), (2, .func (.func 74) #[] #[]), (9, vl), (10, .int .i64 (l.length : Int)), (11, .int .i64 (z.1 : Int))]) (fun z => [.row g1c0_ 126 (z.2.1.map vI), .fr F1]) (fun z => zam f4 kk4 (l.length - z.1) z.1 z.2 = some r) (fun z => l.length - z.1) (0, x1c0_) ?_ ?_ ?_ ?_
    · exact hk
    · exact (.c (.c (.c (.c (.c (.c .nil))))))
    · exact List.Sublist.refl _
    · rintro ⟨i_5, c_3⟩ hk; (try dsimp only at *); refine T.sr ?_; refine TL.run 1 rfl ?_; refine TL.ns (T.seq ?_); refine T.cond rfl (fun h6 => ?_) (fun h6 => ?_)
      · have p6 := of_decide_eq_true h6; rw [zaQ (by omega)] at hk; generalize hn4 : zam f4 kk4 (l.length - (i_5 + 1)) (i_5 + 1) = next4 at hk; rw [← hf4] at hk; (try dsimp only at hk); refine T.skip (K.seq (T.seq (T.block (T.sr ?_)))); refine TL.run 1 rfl ?_; refine TL.y (Yv.an (i := i_5) rfl rfl rfl hl (List.length_map _) rfl (by omega)) ?_; refine TL.y (Yv.aO 1 (i := i_5) rfl rfl rfl hl (by omega) rfl rfl rfl) ?_; refine TL.e (Ew.alloc rfl) ?_; rintro _ _ ⟨g8, rfl, rfl⟩; refine TL.run 1 rfl ?_; refine TL.e0 (Ew.ag 0 rfl rfl rfl rfl rfl rfl) ?_; rintro _ _ ⟨rfl, rfl⟩; refine TL.ns (T.seq ?_); have hq := zac hk; clear hk; obtain ⟨r18, hr18, hk⟩ := hq; (try dsimp only at hk); refine T.ad (ι := Unit) (fun z => [(0, vl), (1, .func (.func 72) #[] #[.pointer (some ⟨g1c0_, 0, none⟩)]), (2, .func (.func 74) #[] #[]), (9, vl), (10, .int .i64 (l.length : Int)), (11, .int .i64 (i_5 : Int)), (34, .bool ((!r18.1) || ((decide (0 < (i_5 : Int))) && (decide (0 ≤ (zaO (nth l (((i_5 : Int) - 1).toNat)) (nth l i_5)))))))]) (fun z => [.row g8 76 [.int .i64 ((nth l i_5).Area), .int .i64 ((nth l i_5).Category), .int .i64 ((nth l i_5).Supply), .int .i64 ((nth l i_5).Units), .int .i64 ((nth l i_5).Reserve)], .row g1c0_ 126 (r18.2.1.map vI), .fr F1]) (fun z => True) ?_ ?_
        · refine T.ax (.still 0 (.still 1 (.eff 2 (.still 3 (.still 4 (.still 5 (.still 6 (.still 7 (.still 8 (.still 9 (.still 10 (.still 11 (.still 12 (.still 13 (.still 14 (.eff 15 (.still 16 (.still 17 (.still 18 .done))))))))))))))))))) [.row g8 76 [.int .i64 ((nth l i_5).Area), .int .i64 ((nth l i_5).Category), .int .i64 ((nth l i_5).Supply), .int .i64 ((nth l i_5).Units), .int .i64 ((nth l i_5).Reserve)], .fr F1] (by kernel_rfl) Sx ?_; refine TS.run 1 rfl ?_; refine TS.y rfl (Yv.ak 0 rfl rfl rfl rfl) ?_; refine TS.eff ?_; refine TSo.aC rfl (Wt.none rfl) rfl rfl (Ew.aB [1, 2, 0] [.row g1c0_ 126 (c_3.1.map vI)] [.row g8 76 [.int .i64 ((nth l i_5).Area), .int .i64 ((nth l i_5).Category), .int .i64 ((nth l i_5).Supply), .int .i64 ((nth l i_5).Units), .int .i64 ((nth l i_5).Reserve)]] rfl rfl rfl rfl (by decide) (fun w hw hw2 hF => zes _ w hF (nth l i_5) c_3 g1c0_ hw2.takes.1 hw2.takes.2 r18 hr18)) ?_; rintro _ _ ⟨⟨⟩, -, rfl, rfl⟩; dsimp only [List.cons_append, List.nil_append]; refine ⟨(fun w hw => hw.pick (idx := [2, 1]) rfl (by decide)), ?_⟩; refine TS.run 2 rfl ?_; refine TS.gs rfl rfl rfl rfl (fun h7 => ?_) (fun h7 => ?_)
          · refine TS.run 10 rfl ?_; refine TS.eff ?_; refine TSo.off rfl (Wt.undef rfl rfl rfl) rfl rfl ?_; refine TS.run 3 rfl ?_; refine TS.done ?_; refine K.pick [2, 0, 1] rfl (by decide) ?_; exact K.ab () trivial (.c (.c (.c (.c (.c (.c (.b (zas h7).symm .nil))))))) (List.Sublist.refl _)
          · refine TS.run 3 rfl ?_; refine TS.gs rfl rfl rfl rfl (fun h8 => ?_) (fun h8 => ?_)
            · have p8 := of_decide_eq_true h8; refine TS.run 3 rfl ?_; refine TS.y rfl (Yv.aK rfl rfl rfl (by omega)) ?_; refine TS.y rfl (Yv.an (i := ((i_5 : Int) - 1).toNat) rfl rfl rfl hl (List.length_map _) (by omega) (by omega)) ?_; refine TS.y rfl (Yv.aO 1 (i := ((i_5 : Int) - 1).toNat) rfl rfl rfl hl (by omega) rfl rfl rfl) ?_; refine TS.y rfl (Yv.ak 0 rfl rfl rfl rfl) ?_; refine TS.eff ?_; refine TSo.aC rfl (Wt.some rfl rfl rfl rfl) rfl rfl (Ew.ai rfl rfl rfl (fun w hw => zei _ w (hw.fr (i := 1) rfl) (nth l (((i_5 : Int) - 1).toNat)) (nth l i_5))) ?_; rintro _ _ ⟨rfl, rfl⟩; refine ⟨(fun w hw => hw.pick (idx := [2, 1]) rfl (by decide)), ?_⟩; refine TS.run 3 rfl ?_; refine TS.done ?_; refine K.pick [2, 0, 1] rfl (by decide) ?_; exact K.ab () trivial (.c (.c (.c (.c (.c (.c (.b (Eq.trans (zcY h8) (or_f h7)) .nil))))))) (List.Sublist.refl _)
            · have p8 := of_decide_eq_false h8; refine TS.run 7 rfl ?_; refine TS.eff ?_; refine TSo.off rfl (Wt.not rfl rfl rfl rfl) rfl rfl ?_; refine TS.run 3 rfl ?_; refine TS.done ?_; refine K.pick [2, 0, 1] rfl (by decide) ?_; exact K.ab () trivial (.c (.c (.c (.c (.c (.c (.b (zay h7 (za8 h8)).symm .nil))))))) (List.Sublist.refl _)
        · rintro _ _; refine T.cond rfl (fun h9 => ?_) (fun h9 => ?_)
          · replace hk := zaa hk h9; refine T.sr ?_; refine TL.run 1 rfl ?_; refine TL.ns (T.ret (K.aj (K.a (K.a (K.aj (K.a ?_)))))); obtain rfl := Option.some.inj hk; exact K.ah rfl rfl (fun w' hw => ⟨⟨⟩, trivial, rfl, FxM.of (hw.pick (idx := [1, 2]) rfl (by decide)) hS0 (Frz.Le.refl _)⟩)
          · replace hk := zab hk h9; refine T.skip (K.ac (K.seq (T.region ?_))); refine TL.y (Yv.av rfl rfl rfl (by omega)) ?_; refine TL.run 1 rfl ?_; refine TL.nil ?_; rw [← hn4] at hk; refine K.pick [1, 2] rfl (by decide) ?_; exact K.next ((i_5 + 1), r18.2) hk (by dsimp only; omega) (.c (.c (.c (.c (.c (.c .nil)))))) (List.Sublist.refl _)
      · have p6 := of_decide_eq_false h6; rw [zaR (by omega), ← hkk4] at hk; (try dsimp only at hk); refine T.exit (K.aa (K.aa (K.ae ?_))); exact K.ab c_3 hk .nil (List.Sublist.refl _)
  · rintro c_1 hk; rw [← hk2] at hk; (try dsimp only at hk); refine T.sr ?_; refine TL.run 1 rfl ?_; refine TL.ns (T.ret ?_); obtain rfl := Option.some.inj hk; exact K.ah rfl rfl (fun w' hw => ⟨⟨⟩, trivial, rfl, FxM.of (hw.pick (idx := [0, 1]) rfl (by decide)) hS0 (Frz.Le.refl _)⟩)
def zbE (l : List GProduct) : Option Bool :=
  (zaz l (Vec.fill 64 0)).bind fun r6 =>
  some r6.1
theorem zc9 (F0 : Frz) (w : World) (hF0 : F0.At w) (l : List GProduct) (vl : Value) (hl : SlC F0 vl 5 (l.map GProduct.enc)) (r : Bool) (hr : zbE l = some r) : Calls Tryz.prog 45 #[vl] w fun e w' => e = .returned (.bool r) ∧ Below w.heap.size w w' := by
  have hk := hr; unfold zbE at hk; haveI := hl.oneC; obtain ⟨S0, F1, rfl, hS0, hp0⟩ := zag hF0; refine zak Tryz.func45 rfl rfl rfl hp0 ?_; refine T.sr ?_; refine TL.run 1 rfl ?_; refine TL.nx ?_; refine TL.e (Ew.bu (l := ((Vec.fill 64 0).1.map vI)) rfl (by kernel_rfl)) ?_; rintro _ _ ⟨g3, rfl, rfl⟩; refine TL.ns (T.seq ?_); have hq := zac hk; clear hk; obtain ⟨r6, hr6, hk⟩ := hq; (try dsimp only at hk); refine T.region ?_; refine TL.run 2 rfl ?_; refine TL.e (Ew.aB [0, 1] [.row g3 126 ((Vec.fill 64 0).1.map vI)] [] rfl rfl rfl rfl (by decide) (fun w hw hw2 hF => zb3 _ w hF l vl hl (Vec.fill 64 0) g3 hw2.takes.1 hw2.takes.2 r6 hr6)) ?_; rintro _ _ ⟨⟨⟩, -, rfl, rfl⟩; dsimp only [List.cons_append, List.nil_append]; refine TL.run 1 rfl ?_; refine TL.ns (T.ret ?_); obtain rfl := Option.some.inj hk; exact K.ah rfl rfl (fun w' hw => ⟨rfl, hw.isBelow⟩)
def zbA (n : Int) (xf0_ : Int) : Bool :=
  ((decide (n < 0)) || (decide (xf0_ < n)))
theorem zeo (F0 : Frz) (w : World) (hF0 : F0.At w) (n : Int) (xf0_ : Int) (gf0_ : Nat) (hO : Hp w (fps [.row gf0_ 3 [.int .i64 xf0_]]) [.row gf0_ 3 [.int .i64 xf0_]] w) (hA : ∀ g, fps [.row gf0_ 3 [.int .i64 xf0_]] g → ¬ F0.S g) : Calls Tryz.prog 81 #[.int .i64 n, .pointer (some ⟨gf0_, 0, none⟩)] w fun e w' => ∃ (y : Unit), (True) ∧ e = .returned (.bool (zbA n xf0_)) ∧ FxM F0 w (fps [.row gf0_ 3 [.int .i64 xf0_]]) F0 [.row gf0_ 3 [.int .i64 xf0_]] w' := by
  obtain ⟨r, hk⟩ : ∃ r, zbA n xf0_ = r := ⟨_, rfl⟩; rw [hk]; unfold zbA at hk; obtain ⟨S0, F1, rfl, hS0, hp0⟩ := zbG hF0 hO hA; refine zak (hs := [.row gf0_ 3 [.int .i64 xf0_], .fr F1]) Tryz.func81 rfl rfl rfl hp0 ?_; refine T.sr ?_; refine TL.run 1 rfl ?_; refine TL.ns (T.seq ?_); refine T.ad (ι := Unit) (fun z => [(3, .bool ((decide (n < 0)) || (decide (xf0_ < n))))]) (fun z => [.row gf0_ 3 [.int .i64 xf0_], .fr F1]) (fun z => True) ?_ ?_
  · refine T.region ?_; refine TL.run 3 rfl ?_; refine TL.gs rfl rfl rfl (fun h1 => ?_) (fun h1 => ?_)
    · have p1 := of_decide_eq_true h1; refine TL.run 5 rfl ?_; refine TL.nil ?_; exact K.ab () trivial (.b (zas h1).symm .nil) (List.Sublist.refl _)
    · have p1 := of_decide_eq_false h1; refine TL.run 1 rfl ?_; refine TL.y (Yv.af 0 rfl rfl rfl rfl) ?_; refine TL.run 3 rfl ?_; refine TL.nil ?_; exact K.ab () trivial (.b (or_f h1) .nil) (List.Sublist.refl _)
  · rintro _ _; refine T.ret ?_; subst hk; exact K.ah rfl rfl (fun w' hw => ⟨⟨⟩, trivial, rfl, FxM.of (hw.pick (idx := [0, 1]) rfl (by decide)) hS0 (Frz.Le.refl _)⟩)
def zaM (s : List Int) (x1c0_ : Int) : Int :=
  zap (fun (_ : Unit) =>
    (-1))
  (fun k1 =>
    zam (fun (i_3 : Nat) (next2 : Unit → Int) (_ : Unit) =>
      (bif (zbA (nth s i_3) x1c0_) then
        (i_3 : Int)
        else
        next2 ()))
    (fun (_ : Unit) =>
      k1 ()) (s.length - 0) 0 ())
theorem zcN (F0 : Frz) (w : World) (hF0 : F0.At w) (s : List Int) (vs : Value) (hs : SlC F0 vs 1 (s.map eI)) (x1c0_ : Int) (g1c0_ : Nat) (hO : Hp w (fps [.row g1c0_ 3 [.int .i64 x1c0_]]) [.row g1c0_ 3 [.int .i64 x1c0_]] w) (hA : ∀ g, fps [.row g1c0_ 3 [.int .i64 x1c0_]] g → ¬ F0.S g) : Calls Tryz.prog 103 #[vs, .func (.func 81) #[] #[.pointer (some ⟨g1c0_, 0, none⟩)]] w fun e w' => ∃ (y : Unit), (True) ∧ e = .returned (.int .i64 (zaM s x1c0_)) ∧ FxM F0 w (fps [.row g1c0_ 3 [.int .i64 x1c0_]]) F0 [.row g1c0_ 3 [.int .i64 x1c0_]] w' := by
  obtain ⟨r, hk⟩ : ∃ r, zaM s x1c0_ = r := ⟨_, rfl⟩; rw [hk]; unfold zaM at hk; haveI := hs.oneC; obtain ⟨S0, F1, rfl, hS0, hp0⟩ := zbG hF0 hO hA; refine zak (hs := [.row g1c0_ 3 [.int .i64 x1c0_], .fr F1]) Tryz.func103 rfl rfl rfl hp0 ?_; refine T.sr ?_; refine TL.run 1 rfl ?_; refine TL.ns (T.seq (T.sr ?_)); refine TL.run 1 rfl ?_; refine TL.y (Yv.am rfl rfl hs (List.length_map _)) ?_; have hm7 : s.length ≤ 9223372036854775807 := (List.length_map _) ▸ hs.max; refine TL.run 1 rfl ?_; refine TL.ns ?_; have hq := zae hk; clear hk; obtain ⟨k1, hk1, hk⟩ := hq; (try dsimp only at hk); refine T.ad (ι := Unit) (fun z => []) (fun z => [.row g1c0_ 3 [.int .i64 x1c0_], .fr F1]) (fun z => k1 () = r) ?_ ?_
  · have hq := zaw hk; clear hk; obtain ⟨f2, kk2, hf2, hkk2, hk⟩ := hq; refine T.block ?_; refine T.loop (ι := Nat) (fun z => [(0, vs), (1, .func (.func 81) #[] #[.pointer (some ⟨g1c0_, 0, none⟩)]), (7, .int .i64 (s.length : Int)), (8, .int .i64 (z : Int))]) (fun z => [.row g1c0_ 3 [.int .i64 x1c0_], .fr F1]) (fun z => zam f2 kk2 (s.length - z) z () = r) (fun z => s.length - z) 0 ?_ ?_ ?_ ?_
    · exact hk
    · exact (.c (.c (.c (.c .nil))))
    · exact List.Sublist.refl _
    · rintro i_3 hk; refine T.sr ?_; refine TL.run 1 rfl ?_; refine TL.ns (T.seq ?_); refine T.cond rfl (fun h4 => ?_) (fun h4 => ?_)
      · have p4 := of_decide_eq_true h4; rw [zaQ (by omega)] at hk; generalize hn2 : zam f2 kk2 (s.length - (i_3 + 1)) (i_3 + 1) = next2 at hk; rw [← hf2] at hk; (try dsimp only at hk); refine T.skip (K.seq (T.seq (T.block (T.sr ?_)))); refine TL.run 2 rfl ?_; refine TL.nx ?_; refine TL.run 3 rfl ?_; refine TL.y (Yv.an (i := i_3) rfl rfl rfl hs (List.length_map _) rfl (by omega)) ?_; refine TL.y (Yv.al 1 (i := i_3) (j := 0) rfl rfl rfl hs (by omega) rfl rfl) ?_; refine TL.e (Ew.aB [0, 1] [.row g1c0_ 3 [.int .i64 x1c0_]] [] rfl rfl rfl rfl (by decide) (fun w hw hw2 hF => zeo _ w hF (nth s i_3) x1c0_ g1c0_ hw2.takes.1 hw2.takes.2)) ?_; rintro _ _ ⟨⟨⟩, -, rfl, rfl⟩; dsimp only [List.cons_append, List.nil_append]; refine TL.ns ?_; refine T.cond rfl (fun h5 => ?_) (fun h5 => ?_)
        · replace hk := zaa hk h5; refine T.sr ?_; refine TL.run 2 rfl ?_; refine TL.ns (T.ret (K.aj (K.a (K.a (K.aj (K.a ?_)))))); subst hk; exact K.ah rfl rfl (fun w' hw => ⟨⟨⟩, trivial, rfl, FxM.of (hw.pick (idx := [0, 1]) rfl (by decide)) hS0 (Frz.Le.refl _)⟩)
        · replace hk := zab hk h5; refine T.skip (K.ac (K.seq (T.region ?_))); refine TL.y (Yv.av rfl rfl rfl (by omega)) ?_; refine TL.run 1 rfl ?_; refine TL.nil ?_; rw [← hn2] at hk; exact K.next (i_3 + 1) hk (by omega) (.c (.c (.c (.c .nil)))) (List.Sublist.refl _)
      · have p4 := of_decide_eq_false h4; rw [zaR (by omega), ← hkk2] at hk; (try dsimp only at hk); refine T.exit (K.aa (K.aa (K.ae ?_))); exact K.ab () hk .nil (List.Sublist.refl _)
  · rintro _ hk; rw [← hk1] at hk; (try dsimp only at hk); refine T.sr ?_; refine TL.run 1 rfl ?_; refine TL.ns (T.ret ?_); subst hk; exact K.ah rfl rfl (fun w' hw => ⟨⟨⟩, trivial, rfl, FxM.of (hw.pick (idx := [0, 1]) rfl (by decide)) hS0 (Frz.Le.refl _)⟩)
def zaG (s : List Int) (x1c0_ : Int) : Bool :=
  (decide (0 ≤ (zaM s x1c0_)))
theorem zcx (F0 : Frz) (w : World) (hF0 : F0.At w) (s : List Int) (vs : Value) (hs : SlC F0 vs 1 (s.map eI)) (x1c0_ : Int) (g1c0_ : Nat) (hO : Hp w (fps [.row g1c0_ 3 [.int .i64 x1c0_]]) [.row g1c0_ 3 [.int .i64 x1c0_]] w) (hA : ∀ g, fps [.row g1c0_ 3 [.int .i64 x1c0_]] g → ¬ F0.S g) : Calls Tryz.prog 80 #[vs, .func (.func 81) #[] #[.pointer (some ⟨g1c0_, 0, none⟩)]] w fun e w' => ∃ (y : Unit), (True) ∧ e = .returned (.bool (zaG s x1c0_)) ∧ FxM F0 w (fps [.row g1c0_ 3 [.int .i64 x1c0_]]) F0 [.row g1c0_ 3 [.int .i64 x1c0_]] w' := by
  obtain ⟨r, hk⟩ : ∃ r, zaG s x1c0_ = r := ⟨_, rfl⟩; rw [hk]; unfold zaG at hk; haveI := hs.oneC; obtain ⟨S0, F1, rfl, hS0, hp0⟩ := zbG hF0 hO hA; refine zak (hs := [.row g1c0_ 3 [.int .i64 x1c0_], .fr F1]) Tryz.func80 rfl rfl rfl hp0 ?_; refine T.sr ?_; refine TL.run 1 rfl ?_; refine TL.nx ?_; refine TL.run 2 rfl ?_; refine TL.e (Ew.aB [0, 1] [.row g1c0_ 3 [.int .i64 x1c0_]] [] rfl rfl rfl rfl (by decide) (fun w hw hw2 hF => zcN _ w hF s vs hs x1c0_ g1c0_ hw2.takes.1 hw2.takes.2)) ?_; rintro _ _ ⟨⟨⟩, -, rfl, rfl⟩; dsimp only [List.cons_append, List.nil_append]; refine TL.run 2 rfl ?_; refine TL.ns (T.ret ?_); subst hk; exact K.ah rfl rfl (fun w' hw => ⟨⟨⟩, trivial, rfl, FxM.of (hw.pick (idx := [0, 1]) rfl (by decide)) hS0 (Frz.Le.refl _)⟩)
def zaH (l : List Int) (limit : Int) : Bool :=
  (!(zaG l limit))
theorem zcJ (F0 : Frz) (w : World) (hF0 : F0.At w) (l : List Int) (vl : Value) (hl : SlC F0 vl 1 (l.map eI)) (limit : Int) : Calls Tryz.prog 58 #[vl, .int .i64 limit] w fun e w' => e = .returned (.bool (zaH l limit)) ∧ Below w.heap.size w w' := by
  obtain ⟨r, hk⟩ : ∃ r, zaH l limit = r := ⟨_, rfl⟩; rw [hk]; unfold zaH at hk; haveI := hl.oneC; obtain ⟨S0, F1, rfl, hS0, hp0⟩ := zag hF0; refine zak Tryz.func58 rfl rfl rfl hp0 ?_; refine T.sr ?_; refine TL.e (Ew.box rfl rfl) ?_; rintro _ _ ⟨g3, rfl, rfl⟩; refine TL.run 1 rfl ?_; refine TL.nx ?_; refine TL.run 2 rfl ?_; refine TL.e (Ew.aB [0, 1] [.row g3 3 [.int .i64 limit]] [] rfl rfl rfl rfl (by decide) (fun w hw hw2 hF => zcx _ w hF l vl hl limit g3 hw2.takes.1 hw2.takes.2)) ?_; rintro _ _ ⟨⟨⟩, -, rfl, rfl⟩; dsimp only [List.cons_append, List.nil_append]; refine TL.run 2 rfl ?_; refine TL.ns (T.ret ?_); subst hk; exact K.ah rfl rfl (fun w' hw => ⟨rfl, hw.isBelow⟩)
def zaZ (p : GBidderPlan) (l : List GProduct) : Option Bool :=
  (zbE l).bind fun r9 =>
  (bif (((!r9) || (decide (p.Bidder < 0))) || (decide (32 ≤ p.Bidder))) then
    some false
    else
    (bif (((decide (p.Budget < 0)) || (decide (1125899906842624 < p.Budget))) || (decide (¬ (p.Values.length : Int) = (l.length : Int)))) then
      some false
      else
      zap (fun (_ : Unit) =>
        some true)
      (fun k7 =>
        zam (fun (i_9 : Nat) (next8 : Unit → Option Bool) (_ : Unit) =>
          (bif ((decide (12 < ((nth p.Values i_9).length : Int))) || (!(zaH (nth p.Values i_9) 549755813888))) then
            some false
            else
            zam (fun (i_14 : Nat) (next13 : Unit → Option Bool) (_ : Unit) =>
              (bif ((decide (0 < (i_14 : Int))) && (decide ((nth (nth p.Values i_9) (((i_14 : Int) - 1).toNat)) < (nth (nth p.Values i_9) i_14)))) then
                some false
                else
                next13 ()))
            (fun (_ : Unit) =>
              next8 ()) (((nth p.Values i_9).length) - 0) 0 ()))
        (fun (_ : Unit) =>
          k7 ()) (p.Values.length - 0) 0 ())))
theorem zcs (F0 : Frz) (w : World) (hF0 : F0.At w) (p : GBidderPlan) (vp_2 : Value) (cp_2 : List (List Value)) (hp_2 : SlD R_List_Int.rep F0 vp_2 1 cp_2 p.Values) (l : List GProduct) (vl : Value) (hl : SlC F0 vl 5 (l.map GProduct.enc)) (r : Bool) (hr : zaZ p l = some r) : Calls Tryz.prog 27 #[.agg [.int .i64 p.Bidder, .int .i64 p.Budget, vp_2].toArray, vl] w fun e w' => e = .returned (.bool r) ∧ Below w.heap.size w w' := by
  have hk := hr; unfold zaZ at hk; haveI := hp_2.1.oneC; haveI := hl.oneC; obtain ⟨S0, F1, rfl, hS0, hp0⟩ := zag hF0; refine zak Tryz.func27 rfl rfl rfl hp0 ?_; refine T.sr ?_; refine TL.e (Ew.aw rfl rfl) ?_; rintro _ _ ⟨g2, rfl, rfl⟩; refine TL.run 1 rfl ?_; refine TL.ns (T.seq (T.seq ?_)); have hq := zac hk; clear hk; obtain ⟨r9, hr9, hk⟩ := hq; (try dsimp only at hk); refine T.ad (ι := Unit) (fun z => [(1, vl), (2, .pointer (some ⟨g2, 0, none⟩)), (20, .bool (((!r9) || (decide (p.Bidder < 0))) || (decide (32 ≤ p.Bidder))))]) (fun z => [.row g2 24 [.int .i64 p.Bidder, .int .i64 p.Budget, vp_2], .fr F1]) (fun z => True) ?_ ?_
  · refine T.region ?_; refine TL.run 1 rfl ?_; refine TL.e (Ew.ai rfl rfl rfl (fun w hw => zc9 _ w (hw.fr (i := 1) rfl) l vl hl r9 hr9)) ?_; rintro _ _ ⟨rfl, rfl⟩; refine TL.run 2 rfl ?_; refine TL.gs rfl rfl rfl (fun h1 => ?_) (fun h1 => ?_)
    · refine TL.run 9 rfl ?_; refine TL.nil ?_; exact K.ab () trivial (.c (.c (.b (zas (zas h1)).symm .nil))) (List.Sublist.refl _)
    · refine TL.y (Yv.fieldAddr rfl rfl) ?_; refine TL.y (Yv.af 0 rfl rfl rfl rfl) ?_; refine TL.run 3 rfl ?_; refine TL.gs rfl rfl rfl (fun h2 => ?_) (fun h2 => ?_)
      · have p2 := of_decide_eq_true h2; refine TL.run 4 rfl ?_; refine TL.nil ?_; exact K.ab () trivial (.c (.c (.b (zas (zay h1 h2)).symm .nil))) (List.Sublist.refl _)
      · have p2 := of_decide_eq_false h2; refine TL.y (Yv.fieldAddr rfl rfl) ?_; refine TL.y (Yv.af 0 rfl rfl rfl rfl) ?_; refine TL.run 2 rfl ?_; refine TL.nil ?_; exact K.ab () trivial (.c (.c (.b (or_f (zay h1 h2)) .nil))) (List.Sublist.refl _)
  · rintro _ _; refine T.cond rfl (fun h3 => ?_) (fun h3 => ?_)
    · replace hk := zaa hk h3; refine T.sr ?_; refine TL.run 1 rfl ?_; refine TL.ns (T.ret (K.a ?_)); obtain rfl := Option.some.inj hk; exact K.ah rfl rfl (fun w' hw => ⟨rfl, hw.isBelow⟩)
    · have p3 := h3; (try simp only [nfB] at p3); replace hk := zab hk h3; refine T.skip (K.seq (T.seq (T.seq ?_))); refine T.ad (ι := Unit) (fun z => [(2, .pointer (some ⟨g2, 0, none⟩)), (36, .bool (((decide (p.Budget < 0)) || (decide (1125899906842624 < p.Budget))) || (decide (¬ (p.Values.length : Int) = (l.length : Int)))))]) (fun z => [.row g2 24 [.int .i64 p.Bidder, .int .i64 p.Budget, vp_2], .fr F1]) (fun z => True) ?_ ?_
      · refine T.region ?_; refine TL.y (Yv.fieldAddr rfl rfl) ?_; refine TL.y (Yv.af 0 rfl rfl rfl rfl) ?_; refine TL.run 2 rfl ?_; refine TL.gs rfl rfl rfl (fun h4 => ?_) (fun h4 => ?_)
        · have p4 := of_decide_eq_true h4; refine TL.run 12 rfl ?_; refine TL.nil ?_; exact K.ab () trivial (.c (.b (zas (zas h4)).symm .nil)) (List.Sublist.refl _)
        · have p4 := of_decide_eq_false h4; refine TL.y (Yv.fieldAddr rfl rfl) ?_; refine TL.y (Yv.af 0 rfl rfl rfl rfl) ?_; refine TL.run 3 rfl ?_; refine TL.gs rfl rfl rfl (fun h5 => ?_) (fun h5 => ?_)
          · have p5 := of_decide_eq_true h5; refine TL.run 7 rfl ?_; refine TL.nil ?_; exact K.ab () trivial (.c (.b (zas (zay h4 h5)).symm .nil)) (List.Sublist.refl _)
          · have p5 := of_decide_eq_false h5; refine TL.y (Yv.fieldAddr rfl rfl) ?_; refine TL.y (Yv.af 0 rfl rfl rfl rfl) ?_; refine TL.y (Yv.am rfl rfl hp_2.1 hp_2.2.1) ?_; have hm32 : p.Values.length ≤ 9223372036854775807 := hp_2.2.1 ▸ hp_2.1.max; refine TL.run 1 rfl ?_; refine TL.y (Yv.am rfl rfl hl (List.length_map _)) ?_; have hm34 : l.length ≤ 9223372036854775807 := (List.length_map _) ▸ hl.max; refine TL.run 2 rfl ?_; refine TL.nil ?_; exact K.ab () trivial (.c (.b (or_f (zay h4 h5)) .nil)) (List.Sublist.refl _)
      · rintro _ _; have hm32 : p.Values.length ≤ 9223372036854775807 := hp_2.2.1 ▸ hp_2.1.max; have hm34 : l.length ≤ 9223372036854775807 := (List.length_map _) ▸ hl.max; refine T.cond rfl (fun h6 => ?_) (fun h6 => ?_)
        · replace hk := zaa hk h6; refine T.sr ?_; refine TL.run 1 rfl ?_; refine TL.ns (T.ret (K.a ?_)); obtain rfl := Option.some.inj hk; exact K.ah rfl rfl (fun w' hw => ⟨rfl, hw.isBelow⟩)
        · have p6 := h6; (try simp only [nfB] at p6); replace hk := zab hk h6; refine T.skip (K.seq (T.seq (T.sr ?_))); refine TL.y (Yv.fieldAddr rfl rfl) ?_; refine TL.y (Yv.af 0 rfl rfl rfl rfl) ?_; refine TL.y (Yv.am rfl rfl hp_2.1 hp_2.2.1) ?_; refine TL.run 1 rfl ?_; refine TL.ns ?_; have hq := zae hk; clear hk; obtain ⟨k7, hk7, hk⟩ := hq; (try dsimp only at hk); refine T.ad (ι := Unit) (fun z => []) (fun z => [.fr F1]) (fun z => k7 () = some r) ?_ ?_
          · have hq := zaw hk; clear hk; obtain ⟨f8, kk8, hf8, hkk8, hk⟩ := hq; refine T.block ?_; refine T.pick [1] rfl (by decide) ?_; refine T.loop (ι := Nat) (fun z => [(38, vp_2), (39, .int .i64 (p.Values.length : Int)), (40, .int .i64 (z : Int))]) (fun z => [.fr F1]) (fun z => zam f8 kk8 (p.Values.length - z) z () = some r) (fun z => p.Values.length - z) 0 ?_ ?_ ?_ ?_
            · exact hk
            · exact (.c (.c (.c .nil)))
            · exact List.Sublist.refl _
            · rintro i_9 hk; refine T.sr ?_; refine TL.run 1 rfl ?_; refine TL.ns (T.seq ?_); refine T.cond rfl (fun h10 => ?_) (fun h10 => ?_)
              · have p10 := of_decide_eq_true h10; rw [zaQ (by omega)] at hk; generalize hn8 : zam f8 kk8 (p.Values.length - (i_9 + 1)) (i_9 + 1) = next8 at hk; rw [← hf8] at hk; (try dsimp only at hk); refine T.skip (K.seq (T.seq (T.block (T.sr ?_)))); refine TL.y (Yv.an (i := i_9) rfl rfl rfl hp_2.1 hp_2.2.1 rfl (by omega)) ?_; refine TL.y (Yv.aJ 0 (i := i_9) (j := 0) rfl rfl rfl hp_2.1 hp_2.2.1 (by omega) rfl (R_List_Int.c0 (hp_2.2.2 i_9 (by omega))).1) ?_; have hd43_0 := (R_List_Int.c0 (hp_2.2.2 i_9 (by omega))).2; haveI := hd43_0.oneC; refine TL.run 1 rfl ?_; refine TL.ns (T.seq (T.seq ?_)); refine T.ad (ι := Unit) (fun z => [(6, (nth (nth cp_2 i_9) 0)), (38, vp_2), (39, .int .i64 (p.Values.length : Int)), (40, .int .i64 (i_9 : Int)), (51, .bool ((decide (12 < ((nth p.Values i_9).length : Int))) || (!(zaH (nth p.Values i_9) 549755813888))))]) (fun z => [.fr F1]) (fun z => True) ?_ ?_
                · refine T.region ?_; refine TL.run 1 rfl ?_; refine TL.y (Yv.am rfl rfl hd43_0 (List.length_map _)) ?_; have hm45 : (nth p.Values i_9).length ≤ 9223372036854775807 := (List.length_map _) ▸ hd43_0.max; refine TL.run 2 rfl ?_; refine TL.gs rfl rfl rfl (fun h11 => ?_) (fun h11 => ?_)
                  · have p11 := of_decide_eq_true h11; refine TL.run 4 rfl ?_; refine TL.nil ?_; exact K.ab () trivial (.c (.c (.c (.c (.b (zas h11).symm .nil))))) (List.Sublist.refl _)
                  · have p11 := of_decide_eq_false h11; refine TL.run 1 rfl ?_; refine TL.e (Ew.ai rfl rfl rfl (fun w hw => zcJ _ w (hw.fr (i := 0) rfl) (nth p.Values i_9) (nth (nth cp_2 i_9) 0) hd43_0 549755813888)) ?_; rintro _ _ ⟨rfl, rfl⟩; refine TL.run 2 rfl ?_; refine TL.nil ?_; exact K.ab () trivial (.c (.c (.c (.c (.b (or_f h11) .nil))))) (List.Sublist.refl _)
                · rintro _ _; have hm45 : (nth p.Values i_9).length ≤ 9223372036854775807 := (List.length_map _) ▸ hd43_0.max; refine T.cond rfl (fun h12 => ?_) (fun h12 => ?_)
                  · replace hk := zaa hk h12; refine T.sr ?_; refine TL.run 1 rfl ?_; refine TL.ns (T.ret (K.a (K.aj (K.a (K.a (K.aj (K.a ?_))))))); obtain rfl := Option.some.inj hk; exact K.ah rfl rfl (fun w' hw => ⟨rfl, hw.isBelow⟩)
                  · have p12 := h12; (try simp only [nfB] at p12); replace hk := zab hk h12; refine T.skip (K.seq (T.sr ?_)); refine TL.run 1 rfl ?_; refine TL.y (Yv.am rfl rfl hd43_0 (List.length_map _)) ?_; refine TL.run 1 rfl ?_; refine TL.ns ?_; have hq := zaw hk; clear hk; obtain ⟨f13, kk13, hf13, hkk13, hk⟩ := hq; refine T.block ?_; refine T.loop (ι := Nat) (fun z => [(6, (nth (nth cp_2 i_9) 0)), (38, vp_2), (39, .int .i64 (p.Values.length : Int)), (40, .int .i64 (i_9 : Int)), (53, .int .i64 ((nth p.Values i_9).length : Int)), (54, .int .i64 (z : Int))]) (fun z => [.fr F1]) (fun z => zam f13 kk13 (((nth p.Values i_9).length) - z) z () = some r) (fun z => ((nth p.Values i_9).length) - z) 0 ?_ ?_ ?_ ?_
                    · exact hk
                    · exact (.c (.c (.c (.c (.c (.c .nil))))))
                    · exact List.Sublist.refl _
                    · rintro i_14 hk; refine T.sr ?_; refine TL.run 1 rfl ?_; refine TL.ns (T.seq ?_); refine T.cond rfl (fun h15 => ?_) (fun h15 => ?_)
                      · have p15 := of_decide_eq_true h15; rw [zaQ (by omega)] at hk; generalize hn13 : zam f13 kk13 (((nth p.Values i_9).length) - (i_14 + 1)) (i_14 + 1) = next13 at hk; rw [← hf13] at hk; (try dsimp only at hk); refine T.skip (K.seq (T.seq (T.block (T.sr ?_)))); refine TL.run 2 rfl ?_; refine TL.ns (T.seq ?_); refine T.ad (ι := Unit) (fun z => [(6, (nth (nth cp_2 i_9) 0)), (38, vp_2), (39, .int .i64 (p.Values.length : Int)), (40, .int .i64 (i_9 : Int)), (53, .int .i64 ((nth p.Values i_9).length : Int)), (54, .int .i64 (i_14 : Int)), (70, .bool ((decide (0 < (i_14 : Int))) && (decide ((nth (nth p.Values i_9) (((i_14 : Int) - 1).toNat)) < (nth (nth p.Values i_9) i_14)))))]) (fun z => [.fr F1]) (fun z => True) ?_ ?_
                        · refine T.ax (.still 0 (.still 1 (.still 2 (.still 3 (.still 4 (.still 5 (.still 6 (.still 7 (.still 8 (.still 9 (.still 10 (.still 11 (.still 12 (.still 13 .done)))))))))))))) _ (by kernel_rfl) (List.Sublist.refl _) ?_; refine TS.run 3 rfl ?_; refine TS.gs rfl rfl rfl rfl (fun h16 => ?_) (fun h16 => ?_)
                          · have p16 := of_decide_eq_true h16; refine TS.run 2 rfl ?_; refine TS.y rfl (Yv.aK rfl rfl rfl (by omega)) ?_; refine TS.y rfl (Yv.an (i := ((i_14 : Int) - 1).toNat) rfl rfl rfl hd43_0 (List.length_map _) (by omega) (by omega)) ?_; refine TS.y rfl (Yv.al 0 (i := ((i_14 : Int) - 1).toNat) (j := 0) rfl rfl rfl hd43_0 (by omega) rfl rfl) ?_; refine TS.run 2 rfl ?_; refine TS.y rfl (Yv.an (i := i_14) rfl rfl rfl hd43_0 (List.length_map _) rfl (by omega)) ?_; refine TS.y rfl (Yv.al 0 (i := i_14) (j := 0) rfl rfl rfl hd43_0 (by omega) rfl rfl) ?_; refine TS.run 2 rfl ?_; refine TS.done ?_; exact K.ab () trivial (.c (.c (.c (.c (.c (.c (.b (zcY h16) .nil))))))) (List.Sublist.refl _)
                          · have p16 := of_decide_eq_false h16; refine TS.run 11 rfl ?_; refine TS.done ?_; exact K.ab () trivial (.c (.c (.c (.c (.c (.c (.b (za8 h16).symm .nil))))))) (List.Sublist.refl _)
                        · rintro _ _; refine T.cond rfl (fun h17 => ?_) (fun h17 => ?_)
                          · have p17 := h17; (try simp only [nfB] at p17); replace hk := zaa hk h17; refine T.sr ?_; refine TL.run 1 rfl ?_; refine TL.ns (T.ret (K.aj (K.a (K.a (K.aj (K.aj (K.a (K.a (K.aj (K.a ?_)))))))))); obtain rfl := Option.some.inj hk; exact K.ah rfl rfl (fun w' hw => ⟨rfl, hw.isBelow⟩)
                          · replace hk := zab hk h17; refine T.skip (K.ac (K.seq (T.region ?_))); refine TL.y (Yv.av rfl rfl rfl (by omega)) ?_; refine TL.run 1 rfl ?_; refine TL.nil ?_; rw [← hn13] at hk; exact K.next (i_14 + 1) hk (by omega) (.c (.c (.c (.c (.c (.c .nil)))))) (List.Sublist.refl _)
                      · have p15 := of_decide_eq_false h15; rw [zaR (by omega), ← hkk13] at hk; (try dsimp only at hk); refine T.exit (K.aa (K.aa (K.ae (K.ac (K.seq (T.region ?_)))))); refine TL.y (Yv.av rfl rfl rfl (by omega)) ?_; refine TL.run 1 rfl ?_; refine TL.nil ?_; rw [← hn8] at hk; exact K.next (i_9 + 1) hk (by omega) (.c (.c (.c .nil))) (List.Sublist.refl _)
              · have p10 := of_decide_eq_false h10; rw [zaR (by omega), ← hkk8] at hk; (try dsimp only at hk); refine T.exit (K.aa (K.aa (K.ae ?_))); exact K.ab () hk .nil (List.Sublist.refl _)
          · rintro _ hk; rw [← hk7] at hk; (try dsimp only at hk); refine T.sr ?_; refine TL.run 1 rfl ?_; refine TL.ns (T.ret ?_); obtain rfl := Option.some.inj hk; exact K.ah rfl rfl (fun w' hw => ⟨rfl, hw.isBelow⟩)
def zbK (l : List GProduct) (blocks : List Int) : Bool :=
  (bif decide (¬ (blocks.length : Int) = (l.length : Int)) then
    false
    else
    zap (fun (_ : Unit) =>
      true)
    (fun k2 =>
      zam (fun (i_4 : Nat) (next3 : Unit → Bool) (_ : Unit) =>
        (bif ((decide ((nth blocks i_4) < 0)) || (decide ((nth l i_4).Supply < (nth blocks i_4)))) then
          false
          else
          next3 ()))
      (fun (_ : Unit) =>
        k2 ()) (blocks.length - 0) 0 ()))
theorem zfx (F0 : Frz) (w : World) (hF0 : F0.At w) (l : List GProduct) (vl : Value) (hl : SlC F0 vl 5 (l.map GProduct.enc)) (blocks : List Int) (vblocks : Value) (hblocks : SlC F0 vblocks 1 (blocks.map eI)) : Calls Tryz.prog 57 #[vl, vblocks] w fun e w' => e = .returned (.bool (zbK l blocks)) ∧ Below w.heap.size w w' := by
  obtain ⟨r, hk⟩ : ∃ r, zbK l blocks = r := ⟨_, rfl⟩; rw [hk]; unfold zbK at hk; haveI := hl.oneC; haveI := hblocks.oneC; obtain ⟨S0, F1, rfl, hS0, hp0⟩ := zag hF0; refine zak Tryz.func57 rfl rfl rfl hp0 ?_; refine T.sr ?_; refine TL.run 1 rfl ?_; refine TL.ns (T.seq (T.sr ?_)); refine TL.run 1 rfl ?_; refine TL.y (Yv.am rfl rfl hblocks (List.length_map _)) ?_; have hm8 : blocks.length ≤ 9223372036854775807 := (List.length_map _) ▸ hblocks.max; refine TL.run 1 rfl ?_; refine TL.y (Yv.am rfl rfl hl (List.length_map _)) ?_; have hm10 : l.length ≤ 9223372036854775807 := (List.length_map _) ▸ hl.max; refine TL.run 1 rfl ?_; refine TL.ns ?_; refine T.cond rfl (fun h1 => ?_) (fun h1 => ?_)
  · have p1 := of_decide_eq_true h1; replace hk := zaa hk h1; refine T.sr ?_; refine TL.run 1 rfl ?_; refine TL.ns (T.ret (K.a ?_)); subst hk; exact K.ah rfl rfl (fun w' hw => ⟨rfl, hw.isBelow⟩)
  · have p1 := of_decide_eq_false h1; replace hk := zab hk h1; refine T.skip (K.seq (T.seq (T.sr ?_))); refine TL.run 1 rfl ?_; refine TL.y (Yv.am rfl rfl hblocks (List.length_map _)) ?_; refine TL.run 1 rfl ?_; refine TL.ns ?_; have hq := zae hk; clear hk; obtain ⟨k2, hk2, hk⟩ := hq; (try dsimp only at hk); refine T.ad (ι := Unit) (fun z => []) (fun z => [.fr F1]) (fun z => k2 () = r) ?_ ?_
    · have hq := zaw hk; clear hk; obtain ⟨f3, kk3, hf3, hkk3, hk⟩ := hq; refine T.block ?_; refine T.loop (ι := Nat) (fun z => [(0, vl), (12, vblocks), (13, .int .i64 (blocks.length : Int)), (14, .int .i64 (z : Int))]) (fun z => [.fr F1]) (fun z => zam f3 kk3 (blocks.length - z) z () = r) (fun z => blocks.length - z) 0 ?_ ?_ ?_ ?_
      · exact hk
      · exact (.c (.c (.c (.c .nil))))
      · exact List.Sublist.refl _
      · rintro i_4 hk; refine T.sr ?_; refine TL.run 1 rfl ?_; refine TL.ns (T.seq ?_); refine T.cond rfl (fun h5 => ?_) (fun h5 => ?_)
        · have p5 := of_decide_eq_true h5; rw [zaQ (by omega)] at hk; generalize hn3 : zam f3 kk3 (blocks.length - (i_4 + 1)) (i_4 + 1) = next3 at hk; rw [← hf3] at hk; (try dsimp only at hk); refine T.skip (K.seq (T.seq (T.block (T.sr ?_)))); refine TL.run 1 rfl ?_; refine TL.y (Yv.an (i := i_4) rfl rfl rfl hblocks (List.length_map _) rfl (by omega)) ?_; refine TL.y (Yv.al 0 (i := i_4) (j := 0) rfl rfl rfl hblocks (by omega) rfl rfl) ?_; refine TL.run 2 rfl ?_; refine TL.ns (T.seq ?_); refine T.ad (ι := Unit) (fun z => [(0, vl), (12, vblocks), (13, .int .i64 (blocks.length : Int)), (14, .int .i64 (i_4 : Int)), (29, .bool ((decide ((nth blocks i_4) < 0)) || (decide ((nth l i_4).Supply < (nth blocks i_4)))))]) (fun z => [.fr F1]) (fun z => True) ?_ ?_
          · refine T.region ?_; refine TL.run 3 rfl ?_; refine TL.gs rfl rfl rfl (fun h6 => ?_) (fun h6 => ?_)
            · have p6 := of_decide_eq_true h6; refine TL.run 8 rfl ?_; refine TL.nil ?_; exact K.ab () trivial (.c (.c (.c (.c (.b (zas h6).symm .nil))))) (List.Sublist.refl _)
            · have p6 := of_decide_eq_false h6; refine TL.run 3 rfl ?_; refine TL.y (Yv.an (i := i_4) rfl rfl rfl hl (List.length_map _) rfl (by omega)) ?_; refine TL.y (Yv.aN rfl rfl hl (List.length_map _) (by omega)) ?_; refine TL.y (Yv.al 0 (i := i_4) (j := 2) rfl rfl rfl hl (by omega) rfl rfl) ?_; refine TL.run 2 rfl ?_; refine TL.nil ?_; exact K.ab () trivial (.c (.c (.c (.c (.b (or_f h6) .nil))))) (List.Sublist.refl _)
          · rintro _ _; refine T.cond rfl (fun h7 => ?_) (fun h7 => ?_)
            · replace hk := zaa hk h7; refine T.sr ?_; refine TL.run 1 rfl ?_; refine TL.ns (T.ret (K.aj (K.a (K.a (K.aj (K.a ?_)))))); subst hk; exact K.ah rfl rfl (fun w' hw => ⟨rfl, hw.isBelow⟩)
            · have p7 := h7; (try simp only [nfB] at p7); replace hk := zab hk h7; refine T.skip (K.ac (K.seq (T.region ?_))); refine TL.y (Yv.av rfl rfl rfl (by omega)) ?_; refine TL.run 1 rfl ?_; refine TL.nil ?_; rw [← hn3] at hk; exact K.next (i_4 + 1) hk (by omega) (.c (.c (.c (.c .nil)))) (List.Sublist.refl _)
        · have p5 := of_decide_eq_false h5; rw [zaR (by omega), ← hkk3] at hk; (try dsimp only at hk); refine T.exit (K.aa (K.aa (K.ae ?_))); exact K.ab () hk .nil (List.Sublist.refl _)
    · rintro _ hk; rw [← hk2] at hk; (try dsimp only at hk); refine T.sr ?_; refine TL.run 1 rfl ?_; refine TL.ns (T.ret ?_); subst hk; exact K.ah rfl rfl (fun w' hw => ⟨rfl, hw.isBelow⟩)
def zbd (l : List GProduct) (blocks : List Int) : Option Bool :=
  (zbE l).bind fun r6 =>
  some (r6 && (zbK l blocks))
theorem zdi (F0 : Frz) (w : World) (hF0 : F0.At w) (l : List GProduct) (vl : Value) (hl : SlC F0 vl 5 (l.map GProduct.enc)) (blocks : List Int) (vblocks : Value) (hblocks : SlC F0 vblocks 1 (blocks.map eI)) (r : Bool) (hr : zbd l blocks = some r) : Calls Tryz.prog 23 #[vl, vblocks] w fun e w' => e = .returned (.bool r) ∧ Below w.heap.size w w' := by
  have hk := hr; unfold zbd at hk; haveI := hl.oneC; haveI := hblocks.oneC; obtain ⟨S0, F1, rfl, hS0, hp0⟩ := zag hF0; refine zak Tryz.func23 rfl rfl rfl hp0 ?_; refine T.sr ?_; refine TL.run 1 rfl ?_; refine TL.ns (T.seq ?_); have hq := zac hk; clear hk; obtain ⟨r6, hr6, hk⟩ := hq; (try dsimp only at hk); refine T.ad (ι := Unit) (fun z => [(4, .bool (r6 && (zbK l blocks)))]) (fun z => [.fr F1]) (fun z => True) ?_ ?_
  · refine T.region ?_; refine TL.run 1 rfl ?_; refine TL.e (Ew.ai rfl rfl rfl (fun w hw => zc9 _ w (hw.fr (i := 0) rfl) l vl hl r6 hr6)) ?_; rintro _ _ ⟨rfl, rfl⟩; refine TL.run 1 rfl ?_; refine TL.gs rfl rfl rfl (fun h1 => ?_) (fun h1 => ?_)
    · refine TL.run 2 rfl ?_; refine TL.e (Ew.ai rfl rfl rfl (fun w hw => zfx _ w (hw.fr (i := 0) rfl) l vl hl blocks vblocks hblocks)) ?_; rintro _ _ ⟨rfl, rfl⟩; refine TL.run 2 rfl ?_; refine TL.nil ?_; exact K.ab () trivial (.b (zcY h1) .nil) (List.Sublist.refl _)
    · refine TL.run 5 rfl ?_; refine TL.nil ?_; exact K.ab () trivial (.b (za8 h1).symm .nil) (List.Sublist.refl _)
  · rintro _ _; refine T.ret ?_; obtain rfl := Option.some.inj hk; exact K.ah rfl rfl (fun w' hw => ⟨rfl, hw.isBelow⟩)
def zai (l : List GProduct) (prices : List Int) : Bool :=
  ((decide ((prices.length : Int) = (l.length : Int))) && (zaH prices 549755813888))
theorem zcr (F0 : Frz) (w : World) (hF0 : F0.At w) (l : List GProduct) (vl : Value) (hl : SlC F0 vl 5 (l.map GProduct.enc)) (prices : List Int) (vprices : Value) (hprices : SlC F0 vprices 1 (prices.map eI)) : Calls Tryz.prog 29 #[vl, vprices] w fun e w' => e = .returned (.bool (zai l prices)) ∧ Below w.heap.size w w' := by
  obtain ⟨r, hk⟩ : ∃ r, zai l prices = r := ⟨_, rfl⟩; rw [hk]; unfold zai at hk; haveI := hl.oneC; haveI := hprices.oneC; obtain ⟨S0, F1, rfl, hS0, hp0⟩ := zag hF0; refine zak Tryz.func29 rfl rfl rfl hp0 ?_; refine T.sr ?_; refine TL.run 1 rfl ?_; refine TL.ns (T.seq ?_); refine T.ad (ι := Unit) (fun z => [(4, .bool ((decide ((prices.length : Int) = (l.length : Int))) && (zaH prices 549755813888)))]) (fun z => [.fr F1]) (fun z => True) ?_ ?_
  · refine T.region ?_; refine TL.run 1 rfl ?_; refine TL.y (Yv.am rfl rfl hprices (List.length_map _)) ?_; have hm6 : prices.length ≤ 9223372036854775807 := (List.length_map _) ▸ hprices.max; refine TL.run 1 rfl ?_; refine TL.y (Yv.am rfl rfl hl (List.length_map _)) ?_; have hm8 : l.length ≤ 9223372036854775807 := (List.length_map _) ▸ hl.max; refine TL.run 2 rfl ?_; refine TL.gs rfl rfl rfl (fun h1 => ?_) (fun h1 => ?_)
    · have p1 := of_decide_eq_true h1; refine TL.run 1 rfl ?_; refine TL.e (Ew.ai rfl rfl rfl (fun w hw => zcJ _ w (hw.fr (i := 0) rfl) prices vprices hprices 549755813888)) ?_; rintro _ _ ⟨rfl, rfl⟩; refine TL.run 2 rfl ?_; refine TL.nil ?_; exact K.ab () trivial (.b (zcY h1) .nil) (List.Sublist.refl _)
    · have p1 := of_decide_eq_false h1; refine TL.run 4 rfl ?_; refine TL.nil ?_; exact K.ab () trivial (.b (za8 h1).symm .nil) (List.Sublist.refl _)
  · rintro _ _; have hm6 : prices.length ≤ 9223372036854775807 := (List.length_map _) ▸ hprices.max; have hm8 : l.length ≤ 9223372036854775807 := (List.length_map _) ▸ hl.max; refine T.ret ?_; subst hk; exact K.ah rfl rfl (fun w' hw => ⟨rfl, hw.isBelow⟩)
def zb9 (l : List GProduct) (prices : List Int) (blocks : List Int) : Option (Int × Int) :=
  (zbd l blocks).bind fun r13 =>
  (bif ((!r13) || (decide (¬ (prices.length : Int) = (l.length : Int)))) then
    some (0, 2)
    else
    zap (fun (sum_3 : Int) =>
      some (sum_3, 0))
    (fun k4 =>
      zam (fun (i_7 : Nat) (next6 : Int → Option (Int × Int)) (sum_5 : Int) =>
        (bif ((decide ((nth prices i_7) < 0)) || (decide (549755813888 < (nth prices i_7)))) then
          some (0, 2)
          else
          grd (0 ≤ (i_7 : Int) ∧ (i_7 : Int) < (blocks.length : Int)) <|
          next6 (wI (sum_5 + (wI ((nth prices i_7) * (nth blocks i_7)))))))
      (fun (sum_5 : Int) =>
        k4 sum_5) (prices.length - 0) 0 0))
theorem zd9 (F0 : Frz) (w : World) (hF0 : F0.At w) (l : List GProduct) (vl : Value) (hl : SlC F0 vl 5 (l.map GProduct.enc)) (prices : List Int) (vprices : Value) (hprices : SlC F0 vprices 1 (prices.map eI)) (blocks : List Int) (vblocks : Value) (hblocks : SlC F0 vblocks 1 (blocks.map eI)) (r : Int × Int) (hr : zb9 l prices blocks = some r) : Calls Tryz.prog 22 #[vl, vprices, vblocks] w fun e w' => e = .returned (.tuple #[.int .i64 r.1, .int .i64 r.2]) ∧ Below w.heap.size w w' := by
  have hk := hr; unfold zb9 at hk; haveI := hl.oneC; haveI := hprices.oneC; haveI := hblocks.oneC; obtain ⟨S0, F1, rfl, hS0, hp0⟩ := zag hF0; refine zak Tryz.func22 rfl rfl rfl hp0 ?_; refine T.sr ?_; refine TL.run 2 rfl ?_; refine TL.ns (T.seq (T.seq ?_)); have hq := zac hk; clear hk; obtain ⟨r13, hr13, hk⟩ := hq; (try dsimp only at hk); refine T.ad (ι := Unit) (fun z => [(1, vprices), (2, vblocks), (21, .bool ((!r13) || (decide (¬ (prices.length : Int) = (l.length : Int)))))]) (fun z => [.fr F1]) (fun z => True) ?_ ?_
  · refine T.region ?_; refine TL.run 2 rfl ?_; refine TL.e (Ew.ai rfl rfl rfl (fun w hw => zdi _ w (hw.fr (i := 0) rfl) l vl hl blocks vblocks hblocks r13 hr13)) ?_; rintro _ _ ⟨rfl, rfl⟩; refine TL.run 2 rfl ?_; refine TL.gs rfl rfl rfl (fun h1 => ?_) (fun h1 => ?_)
    · refine TL.run 6 rfl ?_; refine TL.nil ?_; exact K.ab () trivial (.c (.c (.b (zas h1).symm .nil))) (List.Sublist.refl _)
    · refine TL.run 1 rfl ?_; refine TL.y (Yv.am rfl rfl hprices (List.length_map _)) ?_; have hm17 : prices.length ≤ 9223372036854775807 := (List.length_map _) ▸ hprices.max; refine TL.run 1 rfl ?_; refine TL.y (Yv.am rfl rfl hl (List.length_map _)) ?_; have hm19 : l.length ≤ 9223372036854775807 := (List.length_map _) ▸ hl.max; refine TL.run 2 rfl ?_; refine TL.nil ?_; exact K.ab () trivial (.c (.c (.b (or_f h1) .nil))) (List.Sublist.refl _)
  · rintro _ _; have hm17 : prices.length ≤ 9223372036854775807 := (List.length_map _) ▸ hprices.max; have hm19 : l.length ≤ 9223372036854775807 := (List.length_map _) ▸ hl.max; refine T.cond rfl (fun h2 => ?_) (fun h2 => ?_)
    · replace hk := zaa hk h2; refine T.sr ?_; refine TL.run 2 rfl ?_; refine TL.ns (T.ret (K.a ?_)); obtain rfl := Option.some.inj hk; exact K.aG rfl rfl rfl (fun w' hw => ⟨rfl, hw.isBelow⟩)
    · have p2 := h2; (try simp only [nfB] at p2); replace hk := zab hk h2; refine T.skip (K.seq (T.sr ?_)); refine TL.run 1 rfl ?_; refine TL.ns (T.seq (T.sr ?_)); refine TL.run 1 rfl ?_; refine TL.y (Yv.am rfl rfl hprices (List.length_map _)) ?_; refine TL.run 1 rfl ?_; refine TL.ns ?_; have hq := zae hk; clear hk; obtain ⟨k4, hk4, hk⟩ := hq; (try dsimp only at hk); refine T.ad (ι := Int) (fun z => [(8, .int .i64 z)]) (fun z => [.fr F1]) (fun z => k4 z = some r) ?_ ?_
      · have hq := zaw hk; clear hk; obtain ⟨f6, kk6, hf6, hkk6, hk⟩ := hq; refine T.block ?_; refine T.loop (ι := Nat × Int) (fun z => [(2, vblocks), (8, .int .i64 z.2), (22, vprices), (23, .int .i64 (prices.length : Int)), (24, .int .i64 (z.1 : Int))]) (fun z => [.fr F1]) (fun z => zam f6 kk6 (prices.length - z.1) z.1 z.2 = some r) (fun z => prices.length - z.1) (0, 0) ?_ ?_ ?_ ?_
        · exact hk
        · exact (.c (.c (.c (.c (.c .nil)))))
        · exact List.Sublist.refl _
        · rintro ⟨i_7, sum_5⟩ hk; (try dsimp only at *); refine T.sr ?_; refine TL.run 1 rfl ?_; refine TL.ns (T.seq ?_); refine T.cond rfl (fun h8 => ?_) (fun h8 => ?_)
          · have p8 := of_decide_eq_true h8; rw [zaQ (by omega)] at hk; generalize hn6 : zam f6 kk6 (prices.length - (i_7 + 1)) (i_7 + 1) = next6 at hk; rw [← hf6] at hk; (try dsimp only at hk); refine T.skip (K.seq (T.seq (T.block (T.sr ?_)))); refine TL.run 1 rfl ?_; refine TL.y (Yv.an (i := i_7) rfl rfl rfl hprices (List.length_map _) rfl (by omega)) ?_; refine TL.y (Yv.al 0 (i := i_7) (j := 0) rfl rfl rfl hprices (by omega) rfl rfl) ?_; refine TL.run 2 rfl ?_; refine TL.ns (T.seq (T.seq ?_)); refine T.ad (ι := Unit) (fun z => [(2, vblocks), (8, .int .i64 sum_5), (9, .int .i64 (i_7 : Int)), (10, .int .i64 (nth prices i_7)), (22, vprices), (23, .int .i64 (prices.length : Int)), (24, .int .i64 (i_7 : Int)), (34, .bool ((decide ((nth prices i_7) < 0)) || (decide (549755813888 < (nth prices i_7)))))]) (fun z => [.fr F1]) (fun z => True) ?_ ?_
            · refine T.region ?_; refine TL.run 3 rfl ?_; refine TL.gs rfl rfl rfl (fun h9 => ?_) (fun h9 => ?_)
              · have p9 := of_decide_eq_true h9; refine TL.run 3 rfl ?_; refine TL.nil ?_; exact K.ab () trivial (.c (.c (.c (.c (.c (.c (.c (.b (zas h9).symm .nil)))))))) (List.Sublist.refl _)
              · have p9 := of_decide_eq_false h9; refine TL.run 3 rfl ?_; refine TL.nil ?_; exact K.ab () trivial (.c (.c (.c (.c (.c (.c (.c (.b (or_f h9) .nil)))))))) (List.Sublist.refl _)
            · rintro _ _; refine T.cond rfl (fun h10 => ?_) (fun h10 => ?_)
              · replace hk := zaa hk h10; refine T.sr ?_; refine TL.run 2 rfl ?_; refine TL.ns (T.ret (K.a (K.aj (K.a (K.a (K.aj (K.a ?_))))))); obtain rfl := Option.some.inj hk; exact K.aG rfl rfl rfl (fun w' hw => ⟨rfl, hw.isBelow⟩)
              · have p10 := h10; (try simp only [nfB] at p10); replace hk := zab hk h10; refine T.skip (K.seq ?_); have hq : (0 ≤ (i_7 : Int) ∧ (i_7 : Int) < (blocks.length : Int)) ∧ _ := zaf hk; clear hk; obtain ⟨g39, hk⟩ := hq; (try dsimp only at hk); refine T.region ?_; refine TL.run 4 rfl ?_; refine TL.y (Yv.an (i := i_7) rfl rfl rfl hblocks (List.length_map _) rfl (by omega)) ?_; refine TL.y (Yv.al 0 (i := i_7) (j := 0) rfl rfl rfl hblocks (by omega) rfl rfl) ?_; refine TL.y (Yv.as (v := .int .i64 (wI ((nth prices i_7) * (nth blocks i_7)))) rfl) ?_; refine TL.y (Yv.as (v := .int .i64 (wI (sum_5 + (wI ((nth prices i_7) * (nth blocks i_7)))))) rfl) ?_; refine TL.run 1 rfl ?_; refine TL.nil (K.ac (K.seq (T.region ?_))); refine TL.y (Yv.av rfl rfl rfl (by omega)) ?_; refine TL.run 1 rfl ?_; refine TL.nil ?_; rw [← hn6] at hk; exact K.next ((i_7 + 1), wI (sum_5 + (wI ((nth prices i_7) * (nth blocks i_7))))) hk (by dsimp only; omega) (.c (.c (.c (.c (.c .nil))))) (List.Sublist.refl _)
          · have p8 := of_decide_eq_false h8; rw [zaR (by omega), ← hkk6] at hk; (try dsimp only at hk); refine T.exit (K.aa (K.aa (K.ae ?_))); exact K.ab sum_5 hk (.c .nil) (List.Sublist.refl _)
      · rintro sum_3 hk; rw [← hk4] at hk; (try dsimp only at hk); refine T.sr ?_; refine TL.run 3 rfl ?_; refine TL.ns (T.ret ?_); obtain rfl := Option.some.inj hk; exact K.aG rfl rfl rfl (fun w' hw => ⟨rfl, hw.isBelow⟩)
def zaJ (fuel : Nat) (p : GBidderPlan) (l : List GProduct) (prices : List Int) : Option (List Int × Int) :=
  grd (room l.length 8) <|
  zap (fun (l_1 : List Int) =>
    (zb9 l prices l_1).bind fun r63 =>
    (bif decide (¬ r63.2 = 0) then
      some ([], r63.2)
      else
      zap (fun (l_16 : List Int) =>
        some (l_16, 0))
      (fun k17 =>
        zaI (fun (next21 : (Int × Int × List Int) → Option (List Int × Int)) (s21 : Int × Int × List Int) =>
          (bif ((decide (p.Budget < s21.1)) && (decide (0 ≤ s21.2.1))) then
            grd (0 ≤ s21.2.1 ∧ s21.2.1 < (s21.2.2.length : Int)) <|
            (bif decide ((nth s21.2.2 s21.2.1.toNat) = 0) then
              next21 (s21.1, wI (s21.2.1 - 1), s21.2.2)
              else
              grd (0 ≤ s21.2.1 ∧ s21.2.1 < (prices.length : Int)) <|
              next21 (wI (s21.1 - (nth prices s21.2.1.toNat)), s21.2.1, (s21.2.2.set s21.2.1.toNat (wI ((nth s21.2.2 s21.2.1.toNat) - 1)))))
            else
            k17 s21.2.2)) fuel (r63.1, ((l.length : Int) - 1), l_1))))
  (fun k2 =>
    zam (fun (i_5 : Nat) (next4 : List Int → Option (List Int × Int)) (l_3 : List Int) =>
      grd (0 ≤ (i_5 : Int) ∧ (i_5 : Int) < (p.Values.length : Int)) <|
      zam (fun (i_9 : Nat) (next8 : List Int → Option (List Int × Int)) (l_7 : List Int) =>
        grd (0 ≤ (i_5 : Int) ∧ (i_5 : Int) < (prices.length : Int)) <|
        zap (fun (x_11 : Bool) =>
          (bif x_11 then
            grd (0 ≤ (i_5 : Int) ∧ (i_5 : Int) < (l_7.length : Int)) <|
            next8 (l_7.set i_5 (wI ((nth l_7 i_5) + 1)))
            else
            next8 l_7))
        (fun k12 =>
          (bif decide ((nth prices i_5) ≤ (nth (nth p.Values i_5) i_9)) then
            grd (0 ≤ (i_5 : Int) ∧ (i_5 : Int) < (l_7.length : Int)) <|
            k12 (decide ((nth l_7 i_5) < (nth l i_5).Supply))
            else
            k12 false)))
      (fun (l_7 : List Int) =>
        next4 l_7) (((nth p.Values i_5).length) - 0) 0 l_3)
    (fun (l_3 : List Int) =>
      k2 l_3) (l.length - 0) 0 (List.replicate l.length (0 : Int)))
theorem zdm (F0 : Frz) (w : World) (hF0 : F0.At w) (p : GBidderPlan) (vp_2 : Value) (cp_2 : List (List Value)) (hp_2 : SlD R_List_Int.rep F0 vp_2 1 cp_2 p.Values) (l : List GProduct) (vl : Value) (hl : SlC F0 vl 5 (l.map GProduct.enc)) (prices : List Int) (vprices : Value) (hprices : SlC F0 vprices 1 (prices.map eI)) (fuel : Nat) (r : List Int × Int) (hr : zaJ fuel p l prices = some r) : Calls Tryz.prog 30 #[.agg [.int .i64 p.Bidder, .int .i64 p.Budget, vp_2].toArray, vl, vprices] w fun e w' => ∃ (y : Value) (G : Frz), (SlC G y 1 (r.1.map eI)) ∧ e = .returned (.tuple #[y, .int .i64 r.2]) ∧ Fx F0 w G w' := by
  have hk := hr; unfold zaJ at hk; haveI := hp_2.1.oneC; haveI := hl.oneC; haveI := hprices.oneC; obtain ⟨S0, F1, rfl, hS0, hp0⟩ := zag hF0; refine zak Tryz.func30 rfl rfl rfl hp0 ?_; refine T.sr ?_; refine TL.e (Ew.aw rfl rfl) ?_; rintro _ _ ⟨g3, rfl, rfl⟩; refine TL.run 2 rfl ?_; refine TL.ns ?_; refine T.scope ?_; refine T.seq ?_; have hq : (room l.length 8) ∧ _ := zaf hk; clear hk; obtain ⟨g18, hk⟩ := hq; (try dsimp only at hk); refine T.region ?_; refine TL.run 1 rfl ?_; refine TL.y (Yv.am rfl rfl hl (List.length_map _)) ?_; have hm17 : l.length ≤ 9223372036854775807 := (List.length_map _) ▸ hl.max; refine TL.e (Ew.aM (n' := l.length) (enc := eI) (u := (0 : Int)) rfl rfl rfl rfl g18 (by decide) (by decide) (fun _ => rfl) rfl) ?_; rintro v18 _ ⟨hv18, rfl⟩; refine TL.aI 0 rfl ?_; intro iv18 hmv18; refine TL.run 1 rfl ?_; refine TL.ns (T.seq (T.sr ?_)); refine TL.run 1 rfl ?_; refine TL.y (Yv.am rfl rfl hl (List.length_map _)) ?_; refine TL.run 1 rfl ?_; refine TL.ns ?_; have hq := zae hk; clear hk; obtain ⟨k2, hk2, hk⟩ := hq; (try dsimp only at hk); refine T.ad (ι := List Int) (fun z => [(1, vl), (2, vprices), (3, .pointer (some ⟨g3, 0, none⟩)), (8, v18)]) (fun z => [.sl v18 3 1 z.length (z.flatMap eI), .row g3 24 [.int .i64 p.Bidder, .int .i64 p.Budget, vp_2], .fr F1]) (fun z => k2 z = some r) ?_ ?_
  · have hq := zaw hk; clear hk; obtain ⟨f4, kk4, hf4, hkk4, hk⟩ := hq; refine T.block ?_; refine T.loop (ι := Nat × List Int) (fun z => [(1, vl), (2, vprices), (3, .pointer (some ⟨g3, 0, none⟩)), (8, v18), (19, vl), (20, .int .i64 (l.length : Int)), (21, .int .i64 (z.1 : Int))]) (fun z => [.sl v18 3 1 z.2.length (z.2.flatMap eI), .row g3 24 [.int .i64 p.Bidder, .int .i64 p.Budget, vp_2], .fr F1]) (fun z => zam f4 kk4 (l.length - z.1) z.1 z.2 = some r) (fun z => l.length - z.1) (0, (List.replicate l.length (0 : Int))) ?_ ?_ ?_ ?_
    · exact hk
    · exact (.c (.c (.c (.c (.c (.c (.c .nil)))))))
    · exact List.Sublist.refl _
    · rintro ⟨i_5, l_3⟩ hk; (try dsimp only at *); refine T.sr ?_; refine TL.run 1 rfl ?_; refine TL.ns (T.seq ?_); refine T.cond rfl (fun h6 => ?_) (fun h6 => ?_)
      · have p6 := of_decide_eq_true h6; rw [zaQ (by omega)] at hk; generalize hn4 : zam f4 kk4 (l.length - (i_5 + 1)) (i_5 + 1) = next4 at hk; rw [← hf4] at hk; (try dsimp only at hk); refine T.skip (K.seq (T.seq (T.block (T.sr ?_)))); refine TL.run 1 rfl ?_; refine TL.y (Yv.an (i := i_5) rfl rfl rfl hl (List.length_map _) rfl (by omega)) ?_; refine TL.y (Yv.aO 2 (i := i_5) rfl rfl rfl hl (by omega) rfl rfl rfl) ?_; refine TL.e (Ew.alloc rfl) ?_; rintro _ _ ⟨g10, rfl, rfl⟩; refine TL.run 1 rfl ?_; refine TL.e0 (Ew.ag 0 rfl rfl rfl rfl rfl rfl) ?_; rintro _ _ ⟨rfl, rfl⟩; refine TL.ns (T.seq ?_); have hq : (0 ≤ (i_5 : Int) ∧ (i_5 : Int) < (p.Values.length : Int)) ∧ _ := zaf hk; clear hk; obtain ⟨g29, hk⟩ := hq; (try dsimp only at hk); refine T.region ?_; refine TL.y (Yv.fieldAddr rfl rfl) ?_; refine TL.y (Yv.af 2 rfl rfl rfl rfl) ?_; refine TL.run 1 rfl ?_; refine TL.y (Yv.an (i := i_5) rfl rfl rfl hp_2.1 hp_2.2.1 rfl (by omega)) ?_; refine TL.y (Yv.aJ 3 (i := i_5) (j := 0) rfl rfl rfl hp_2.1 hp_2.2.1 (by omega) rfl (R_List_Int.c0 (hp_2.2.2 i_5 (by omega))).1) ?_; have hd30_0 := (R_List_Int.c0 (hp_2.2.2 i_5 (by omega))).2; haveI := hd30_0.oneC; refine TL.y (Yv.am rfl rfl hd30_0 (List.length_map _)) ?_; have hm31 : (nth p.Values i_5).length ≤ 9223372036854775807 := (List.length_map _) ▸ hd30_0.max; refine TL.run 1 rfl ?_; refine TL.ns ?_; have hq := zaw hk; clear hk; obtain ⟨f8, kk8, hf8, hkk8, hk⟩ := hq; refine T.block ?_; refine T.pick [1, 0, 2, 3] rfl (by decide) ?_; refine T.loop (ι := Nat × List Int) (fun z => [(1, vl), (2, vprices), (3, .pointer (some ⟨g3, 0, none⟩)), (8, v18), (9, .int .i64 (i_5 : Int)), (10, .pointer (some ⟨g10, 0, none⟩)), (19, vl), (20, .int .i64 (l.length : Int)), (21, .int .i64 (i_5 : Int)), (30, (nth (nth cp_2 i_5) 0)), (31, .int .i64 ((nth p.Values i_5).length : Int)), (32, .int .i64 (z.1 : Int))]) (fun z => [.sl v18 3 1 z.2.length (z.2.flatMap eI), .row g10 76 [.int .i64 ((nth l i_5).Area), .int .i64 ((nth l i_5).Category), .int .i64 ((nth l i_5).Supply), .int .i64 ((nth l i_5).Units), .int .i64 ((nth l i_5).Reserve)], .row g3 24 [.int .i64 p.Bidder, .int .i64 p.Budget, vp_2], .fr F1]) (fun z => zam f8 kk8 (((nth p.Values i_5).length) - z.1) z.1 z.2 = some r) (fun z => ((nth p.Values i_5).length) - z.1) (0, l_3) ?_ ?_ ?_ ?_
        · exact hk
        · exact (.c (.c (.c (.c (.c (.c (.c (.c (.c (.c (.c (.c .nil))))))))))))
        · exact List.Sublist.refl _
        · rintro ⟨i_9, l_7⟩ hk; (try dsimp only at *); refine T.sr ?_; refine TL.run 1 rfl ?_; refine TL.ns (T.seq ?_); refine T.cond rfl (fun h10 => ?_) (fun h10 => ?_)
          · have p10 := of_decide_eq_true h10; rw [zaQ (by omega)] at hk; generalize hn8 : zam f8 kk8 (((nth p.Values i_5).length) - (i_9 + 1)) (i_9 + 1) = next8 at hk; rw [← hf8] at hk; (try dsimp only at hk); refine T.skip (K.seq (T.seq (T.block (T.sr ?_)))); refine TL.y (Yv.an (i := i_9) rfl rfl rfl hd30_0 (List.length_map _) rfl (by omega)) ?_; refine TL.y (Yv.al 3 (i := i_9) (j := 0) rfl rfl rfl hd30_0 (by omega) rfl rfl) ?_; refine TL.run 1 rfl ?_; refine TL.ns (T.seq ?_); have hq : (0 ≤ (i_5 : Int) ∧ (i_5 : Int) < (prices.length : Int)) ∧ _ := zaf hk; clear hk; obtain ⟨g39, hk⟩ := hq; (try dsimp only at hk); have hq := zae hk; clear hk; obtain ⟨k12, hk12, hk⟩ := hq; (try dsimp only at hk); refine T.ad (ι := Bool) (fun z => [(1, vl), (2, vprices), (3, .pointer (some ⟨g3, 0, none⟩)), (8, v18), (9, .int .i64 (i_5 : Int)), (10, .pointer (some ⟨g10, 0, none⟩)), (19, vl), (20, .int .i64 (l.length : Int)), (21, .int .i64 (i_5 : Int)), (30, (nth (nth cp_2 i_5) 0)), (31, .int .i64 ((nth p.Values i_5).length : Int)), (32, .int .i64 (i_9 : Int)), (50, .bool z)]) (fun z => [.sl v18 3 1 l_7.length (l_7.flatMap eI), .row g10 76 [.int .i64 ((nth l i_5).Area), .int .i64 ((nth l i_5).Category), .int .i64 ((nth l i_5).Supply), .int .i64 ((nth l i_5).Units), .int .i64 ((nth l i_5).Reserve)], .row g3 24 [.int .i64 p.Bidder, .int .i64 p.Budget, vp_2], .fr F1]) (fun z => k12 z = some r) ?_ ?_
            · refine T.ax (.still 0 (.still 1 (.still 2 (.still 3 (.still 4 (.still 5 (.still 6 (.still 7 (.still 8 (.still 9 (.still 10 (.still 11 (.still 12 (.still 13 (.still 14 .done))))))))))))))) _ (by kernel_rfl) (List.Sublist.refl _) ?_; refine TS.run 3 rfl ?_; refine TS.y rfl (Yv.an (i := i_5) rfl rfl rfl hprices (List.length_map _) rfl (by omega)) ?_; refine TS.y rfl (Yv.al 3 (i := i_5) (j := 0) rfl rfl rfl hprices (by omega) rfl rfl) ?_; refine TS.run 2 rfl ?_; refine TS.gs rfl rfl rfl rfl (fun h13 => ?_) (fun h13 => ?_)
              · have p13 := of_decide_eq_true h13; replace hk := zaa hk h13; refine TS.run 2 rfl ?_; have hq : (0 ≤ (i_5 : Int) ∧ (i_5 : Int) < (l_7.length : Int)) ∧ _ := zaf hk; clear hk; obtain ⟨g45, hk⟩ := hq; refine TS.y rfl (Yv.ar 0 (i := i_5) rfl rfl rfl rfl rfl (by omega)) ?_; refine TS.y rfl (Yv.au 0 rfl rfl rfl (by omega) (za1 (enc := eI) (i := i_5) (j := 0) (fun _ => rfl) (by omega) (by decide) rfl)) ?_; refine TS.y rfl (Yv.fieldAddr rfl rfl) ?_; refine TS.y rfl (Yv.af 1 rfl rfl rfl rfl) ?_; refine TS.run 2 rfl ?_; refine TS.done ?_; exact K.ab (decide ((nth l_7 i_5) < (nth l i_5).Supply)) hk (.c (.c (.c (.c (.c (.c (.c (.c (.c (.c (.c (.c (.c .nil))))))))))))) (List.Sublist.refl _)
              · have p13 := of_decide_eq_false h13; replace hk := zab hk h13; refine TS.run 8 rfl ?_; refine TS.done ?_; exact K.ab false hk (.c (.c (.c (.c (.c (.c (.c (.c (.c (.c (.c (.c (.c .nil))))))))))))) (List.Sublist.refl _)
            · rintro x_11 hk; rw [← hk12] at hk; (try dsimp only at hk); refine T.cond rfl (fun h14 => ?_) (fun h14 => ?_)
              · replace hk := zaa hk h14; have hq : (0 ≤ (i_5 : Int) ∧ (i_5 : Int) < (l_7.length : Int)) ∧ _ := zaf hk; clear hk; obtain ⟨g53, hk⟩ := hq; (try dsimp only at hk); refine T.region ?_; refine TL.run 2 rfl ?_; refine TL.y (Yv.ar 0 (i := i_5) rfl rfl rfl rfl rfl (by omega)) ?_; refine TL.y (Yv.au 0 rfl rfl rfl (by omega) (za1 (enc := eI) (i := i_5) (j := 0) (fun _ => rfl) (by omega) (by decide) rfl)) ?_; refine TL.y (Yv.as (v := .int .i64 (wI ((nth l_7 i_5) + 1))) rfl) ?_; refine TL.y (Yv.ar 0 (i := i_5) rfl rfl rfl rfl rfl (by omega)) ?_; refine TL.e0 (Ew.aq 0 (k' := (l_7.set i_5 (wI ((nth l_7 i_5) + 1))).length) (l' := (l_7.set i_5 (wI ((nth l_7 i_5) + 1))).flatMap eI) rfl rfl rfl rfl (by omega) (zaB (enc := eI) (xs := l_7) (i := i_5) (j := 0) (size := 1) (fun _ => rfl) (by omega) (by decide) (by omega)) (zaK (enc := eI) (xs := l_7) (i := i_5) (j := 0) (size := 1) (x := (wI ((nth l_7 i_5) + 1))) (fun _ => rfl) (by omega) (by decide) (by omega) rfl) (List.length_set ..)) ?_; rintro _ _ ⟨rfl, rfl⟩; refine TL.nil (K.ac (K.seq (T.region ?_))); refine TL.y (Yv.av rfl rfl rfl (by omega)) ?_; refine TL.run 1 rfl ?_; refine TL.nil ?_; rw [← hn8] at hk; exact K.next ((i_9 + 1), (l_7.set i_5 (wI ((nth l_7 i_5) + 1)))) hk (by dsimp only; omega) (.c (.c (.c (.c (.c (.c (.c (.c (.c (.c (.c (.c .nil)))))))))))) (List.Sublist.refl _)
              · replace hk := zab hk h14; refine T.skip (K.ac (K.seq (T.region ?_))); refine TL.y (Yv.av rfl rfl rfl (by omega)) ?_; refine TL.run 1 rfl ?_; refine TL.nil ?_; rw [← hn8] at hk; exact K.next ((i_9 + 1), l_7) hk (by dsimp only; omega) (.c (.c (.c (.c (.c (.c (.c (.c (.c (.c (.c (.c .nil)))))))))))) (List.Sublist.refl _)
          · have p10 := of_decide_eq_false h10; rw [zaR (by omega), ← hkk8] at hk; (try dsimp only at hk); refine T.exit (K.aa (K.aa (K.ae (K.ac (K.seq (T.region ?_)))))); refine TL.y (Yv.av rfl rfl rfl (by omega)) ?_; refine TL.run 1 rfl ?_; refine TL.nil ?_; rw [← hn4] at hk; refine K.pick [0, 2, 3] rfl (by decide) ?_; exact K.next ((i_5 + 1), l_7) hk (by dsimp only; omega) (.c (.c (.c (.c (.c (.c (.c .nil))))))) (List.Sublist.refl _)
      · have p6 := of_decide_eq_false h6; rw [zaR (by omega), ← hkk4] at hk; (try dsimp only at hk); refine T.exit (K.aa (K.aa (K.ae ?_))); exact K.ab l_3 hk (.c (.c (.c (.c .nil)))) (List.Sublist.refl _)
  · rintro l_1 hk; rw [← hk2] at hk; (try dsimp only at hk); refine T.seq ?_; have hq := zac hk; clear hk; obtain ⟨r63, hr63, hk⟩ := hq; (try dsimp only at hk); refine T.region ?_; refine TL.run 3 rfl ?_; refine TL.e (Ew.ai rfl rfl rfl (fun w hw => (hw.bor (i := 2) (j := 0) rfl rfl).elim fun F9 b => have le1_2 := b.1.le; zd9 F9 w b.1.at_ l vl (SlC.mono hl le1_2) prices vprices (SlC.mono hprices le1_2) l_1 v18 (b.2.toF rfl (fun _ => rfl)) r63 hr63)) ?_; rintro _ _ ⟨rfl, rfl⟩; refine TL.run 5 rfl ?_; refine TL.ns (T.seq (T.sr ?_)); refine TL.run 2 rfl ?_; refine TL.ns ?_; refine T.cond rfl (fun h15 => ?_) (fun h15 => ?_)
    · have p15 := of_decide_eq_true h15; replace hk := zaa hk h15; refine T.sr ?_; refine TL.run 3 rfl ?_; refine TL.ns (T.ret (K.a ?_)); refine K.aQ ?_; obtain rfl := Option.some.inj hk; exact K.aG rfl rfl rfl (fun w' hw => ⟨(.slice none 0 0), F1.toFrz, (SlC.nil _ 1), rfl, Fx.of hw (i := 2) rfl hS0 (Frz.Le.refl _)⟩)
    · have p15 := of_decide_eq_false h15; replace hk := zab hk h15; refine T.skip (K.seq (T.sr ?_)); refine TL.run 1 rfl ?_; refine TL.y (Yv.am rfl rfl hl (List.length_map _)) ?_; refine TL.y (Yv.aK rfl rfl rfl (by omega)) ?_; refine TL.run 1 rfl ?_; refine TL.ns (T.seq ?_); refine T.label ?_; refine K.seq (T.seq ?_); have hq := zae hk; clear hk; obtain ⟨k17, hk17, hk⟩ := hq; (try dsimp only at hk); refine T.ad (ι := List Int) (fun z => [(8, v18)]) (fun z => [.sl v18 3 1 z.length (z.flatMap eI), .fr F1]) (fun z => k17 z = some r) ?_ ?_
      · have hq := zbP hk; clear hk; obtain ⟨f21, hf21, hk⟩ := hq; refine T.block ?_; refine T.loop (ι := Nat × Int × Int × List Int) (fun z => [(2, vprices), (3, .pointer (some ⟨g3, 0, none⟩)), (8, v18), (13, .int .i64 z.2.1), (15, .int .i64 z.2.2.1)]) (fun z => [.sl v18 3 1 z.2.2.2.length (z.2.2.2.flatMap eI), .row g3 24 [.int .i64 p.Bidder, .int .i64 p.Budget, vp_2], .fr F1]) (fun z => zaI f21 z.1 (z.2.1, z.2.2.1, z.2.2.2) = some r) (fun z => z.1) (fuel, r63.1, ((l.length : Int) - 1), l_1) ?_ ?_ ?_ ?_
        · exact hk
        · exact (.c (.c (.c (.c (.c .nil)))))
        · exact List.Sublist.refl _
        · rintro ⟨m_22, cost_18, last_19, l_20⟩ hk; (try dsimp only at *); have hq := zcc hk; clear hk; obtain ⟨m_22', rfl, hk⟩ := hq; generalize hn21 : zaI f21 m_22' = next21 at hk; rw [← hf21] at hk; (try dsimp only at hk); refine T.seq (T.seq ?_); refine T.ad (ι := Unit) (fun z => [(2, vprices), (3, .pointer (some ⟨g3, 0, none⟩)), (8, v18), (13, .int .i64 cost_18), (15, .int .i64 last_19), (79, .bool ((decide (p.Budget < cost_18)) && (decide (0 ≤ last_19))))]) (fun z => [.sl v18 3 1 l_20.length (l_20.flatMap eI), .row g3 24 [.int .i64 p.Bidder, .int .i64 p.Budget, vp_2], .fr F1]) (fun z => True) ?_ ?_
          · refine T.region ?_; refine TL.run 1 rfl ?_; refine TL.y (Yv.fieldAddr rfl rfl) ?_; refine TL.y (Yv.af 1 rfl rfl rfl rfl) ?_; refine TL.run 2 rfl ?_; refine TL.gs rfl rfl rfl (fun h23 => ?_) (fun h23 => ?_)
            · have p23 := of_decide_eq_true h23; refine TL.run 3 rfl ?_; refine TL.nil ?_; exact K.ab () trivial (.c (.c (.c (.c (.c (.b (zcY h23) .nil)))))) (List.Sublist.refl _)
            · have p23 := of_decide_eq_false h23; refine TL.run 3 rfl ?_; refine TL.nil ?_; exact K.ab () trivial (.c (.c (.c (.c (.c (.b (za8 h23).symm .nil)))))) (List.Sublist.refl _)
          · rintro _ _; refine T.cond rfl (fun h24 => ?_) (fun h24 => ?_)
            · have p24 := h24; (try simp only [nfB] at p24); replace hk := zaa hk h24; refine T.skip (K.seq (T.block (T.seq (T.seq ?_)))); have hq : (0 ≤ last_19 ∧ last_19 < (l_20.length : Int)) ∧ _ := zaf hk; clear hk; obtain ⟨g82, hk⟩ := hq; (try dsimp only at hk); refine T.region ?_; refine TL.run 2 rfl ?_; refine TL.y (Yv.ar 0 (i := last_19.toNat) rfl rfl rfl rfl (by omega) (by omega)) ?_; refine TL.y (Yv.au 0 rfl rfl rfl (by omega) (za1 (enc := eI) (i := last_19.toNat) (j := 0) (fun _ => rfl) (by omega) (by decide) rfl)) ?_; refine TL.run 1 rfl ?_; refine TL.ns ?_; refine T.cond rfl (fun h25 => ?_) (fun h25 => ?_)
              · have p25 := of_decide_eq_true h25; replace hk := zaa hk h25; refine T.sr ?_; refine TL.run 1 rfl ?_; refine TL.y (Yv.as (v := .int .i64 (wI (last_19 - 1))) rfl) ?_; refine TL.run 1 rfl ?_; refine TL.ns (T.exit (K.aa (K.ae ?_))); rw [← hn21] at hk; exact K.next (m_22', cost_18, wI (last_19 - 1), l_20) hk (by dsimp only; omega) (.c (.c (.c (.c (.c .nil))))) (List.Sublist.refl _)
              · have p25 := of_decide_eq_false h25; replace hk := zab hk h25; refine T.skip (K.seq (T.sr ?_)); refine TL.run 2 rfl ?_; refine TL.y (Yv.ar 0 (i := last_19.toNat) rfl rfl rfl rfl (by omega) (by omega)) ?_; refine TL.y (Yv.au 0 rfl rfl rfl (by omega) (za1 (enc := eI) (i := last_19.toNat) (j := 0) (fun _ => rfl) (by omega) (by decide) rfl)) ?_; refine TL.y (Yv.as (v := .int .i64 (wI ((nth l_20 last_19.toNat) - 1))) rfl) ?_; refine TL.y (Yv.ar 0 (i := last_19.toNat) rfl rfl rfl rfl (by omega) (by omega)) ?_; refine TL.e0 (Ew.aq 0 (k' := (l_20.set last_19.toNat (wI ((nth l_20 last_19.toNat) - 1))).length) (l' := (l_20.set last_19.toNat (wI ((nth l_20 last_19.toNat) - 1))).flatMap eI) rfl rfl rfl rfl (by omega) (zaB (enc := eI) (xs := l_20) (i := last_19.toNat) (j := 0) (size := 1) (fun _ => rfl) (by omega) (by decide) (by first | omega | simp)) (zaK (enc := eI) (xs := l_20) (i := last_19.toNat) (j := 0) (size := 1) (x := (wI ((nth l_20 last_19.toNat) - 1))) (fun _ => rfl) (by omega) (by decide) (by first | omega | simp) rfl) (List.length_set ..)) ?_; rintro _ _ ⟨rfl, rfl⟩; refine TL.ns ?_; have hq : (0 ≤ last_19 ∧ last_19 < (prices.length : Int)) ∧ _ := zaf hk; clear hk; obtain ⟨g96, hk⟩ := hq; (try dsimp only at hk); refine T.region ?_; refine TL.run 3 rfl ?_; refine TL.y (Yv.an (i := last_19.toNat) rfl rfl rfl hprices (List.length_map _) (by omega) (by omega)) ?_; refine TL.y (Yv.al 2 (i := last_19.toNat) (j := 0) rfl rfl rfl hprices (by omega) rfl rfl) ?_; refine TL.y (Yv.as (v := .int .i64 (wI (cost_18 - (nth prices last_19.toNat)))) rfl) ?_; refine TL.run 1 rfl ?_; refine TL.nil (K.ac ?_); rw [← hn21] at hk; exact K.next (m_22', wI (cost_18 - (nth prices last_19.toNat)), last_19, (l_20.set last_19.toNat (wI ((nth l_20 last_19.toNat) - 1)))) hk (by dsimp only; omega) (.c (.c (.c (.c (.c .nil))))) (List.Sublist.refl _)
            · replace hk := zab hk h24; refine T.exit (K.aa (K.aa (K.ae ?_))); refine K.pick [0, 2] rfl (by decide) ?_; exact K.ab l_20 hk (.c .nil) (List.Sublist.refl _)
      · rintro l_16 hk; rw [← hk17] at hk; (try dsimp only at hk); refine T.sr ?_; refine TL.run 3 rfl ?_; refine TL.ns (T.ret ?_); refine K.aQ ?_; refine K.aA (fun w hw => hw.freezeS (i := 1) (j := 0) (by decide) rfl rfl) ?_; rintro F3 ⟨le1_3, hz3⟩; dsimp only [List.set, List.eraseIdx]; have hfF3 := hz3.toF rfl (fun _ => rfl); haveI := hfF3.oneC; obtain rfl := Option.some.inj hk; exact K.aG rfl rfl rfl (fun w' hw => ⟨v18, F3.toFrz, hfF3, rfl, Fx.of hw (i := 0) rfl hS0 le1_3⟩)
def zaA (station : Int) (home : Int) : Bool :=
  ((((decide (0 ≤ station)) && (decide (station < 512))) && (decide (1 ≤ home))) && (decide (home ≤ 3)))
theorem zdc (F0 : Frz) (w : World) (hF0 : F0.At w) (station : Int) (home : Int) : Calls Tryz.prog 40 #[.int .i64 station, .int .i64 home] w fun e w' => e = .returned (.bool (zaA station home)) ∧ Below w.heap.size w w' := by
  obtain ⟨r, hk⟩ : ∃ r, zaA station home = r := ⟨_, rfl⟩; rw [hk]; unfold zaA at hk; obtain ⟨S0, F1, rfl, hS0, hp0⟩ := zag hF0; refine zak Tryz.func40 rfl rfl rfl hp0 ?_; refine T.sr ?_; refine TL.run 1 rfl ?_; refine TL.ns (T.seq ?_); refine T.ad (ι := Unit) (fun z => [(4, .bool ((((decide (0 ≤ station)) && (decide (station < 512))) && (decide (1 ≤ home))) && (decide (home ≤ 3))))]) (fun z => [.fr F1]) (fun z => True) ?_ ?_
  · refine T.region ?_; refine TL.run 3 rfl ?_; refine TL.gs rfl rfl rfl (fun h1 => ?_) (fun h1 => ?_)
    · have p1 := of_decide_eq_true h1; refine TL.run 4 rfl ?_; refine TL.gs rfl rfl rfl (fun h2 => ?_) (fun h2 => ?_)
      · have p2 := of_decide_eq_true h2; refine TL.run 4 rfl ?_; refine TL.gs rfl rfl rfl (fun h3 => ?_) (fun h3 => ?_)
        · have p3 := of_decide_eq_true h3; refine TL.run 4 rfl ?_; refine TL.nil ?_; exact K.ab () trivial (.b (zcY (zcD (zcD h1 h2) h3)) .nil) (List.Sublist.refl _)
        · have p3 := of_decide_eq_false h3; refine TL.run 4 rfl ?_; refine TL.nil ?_; exact K.ab () trivial (.b (za8 (zcD (zcD h1 h2) h3)).symm .nil) (List.Sublist.refl _)
      · have p2 := of_decide_eq_false h2; refine TL.run 8 rfl ?_; refine TL.nil ?_; exact K.ab () trivial (.b (za8 (za8 (zcD h1 h2))).symm .nil) (List.Sublist.refl _)
    · have p1 := of_decide_eq_false h1; refine TL.run 12 rfl ?_; refine TL.nil ?_; exact K.ab () trivial (.b (za8 (za8 (za8 h1))).symm .nil) (List.Sublist.refl _)
  · rintro _ _; refine T.ret ?_; subst hk; exact K.ah rfl rfl (fun w' hw => ⟨rfl, hw.isBelow⟩)
def zat (scale : Int) : Bool :=
  ((decide (0 ≤ scale)) && (decide (scale ≤ 68719476736)))
theorem zc5 (F0 : Frz) (w : World) (hF0 : F0.At w) (scale : Int) : Calls Tryz.prog 41 #[.int .i64 scale] w fun e w' => e = .returned (.bool (zat scale)) ∧ Below w.heap.size w w' := by
  obtain ⟨r, hk⟩ : ∃ r, zat scale = r := ⟨_, rfl⟩; rw [hk]; unfold zat at hk; obtain ⟨S0, F1, rfl, hS0, hp0⟩ := zag hF0; refine zak Tryz.func41 rfl rfl rfl hp0 ?_; refine T.sr ?_; refine TL.run 1 rfl ?_; refine TL.ns (T.seq ?_); refine T.ad (ι := Unit) (fun z => [(2, .bool ((decide (0 ≤ scale)) && (decide (scale ≤ 68719476736))))]) (fun z => [.fr F1]) (fun z => True) ?_ ?_
  · refine T.region ?_; refine TL.run 3 rfl ?_; refine TL.gs rfl rfl rfl (fun h1 => ?_) (fun h1 => ?_)
    · have p1 := of_decide_eq_true h1; refine TL.run 4 rfl ?_; refine TL.nil ?_; exact K.ab () trivial (.b (zcY h1) .nil) (List.Sublist.refl _)
    · have p1 := of_decide_eq_false h1; refine TL.run 4 rfl ?_; refine TL.nil ?_; exact K.ab () trivial (.b (za8 h1).symm .nil) (List.Sublist.refl _)
  · rintro _ _; refine T.ret ?_; subst hk; exact K.ah rfl rfl (fun w' hw => ⟨rfl, hw.isBelow⟩)
def zau (p : GStationPlan) : Bool :=
  (((zaA p.Station p.Home) && (decide ((p.Values.length : Int) = wI (p.Home + 1)))) && (zaH p.Values 1125899906842624))
theorem zcX (F0 : Frz) (w : World) (hF0 : F0.At w) (p : GStationPlan) (vp_2 : Value) (hp_2 : SlC F0 vp_2 1 (p.Values.map eI)) : Calls Tryz.prog 26 #[.agg [.int .i64 p.Station, .int .i64 p.Home, vp_2].toArray] w fun e w' => e = .returned (.bool (zau p)) ∧ Below w.heap.size w w' := by
  obtain ⟨r, hk⟩ : ∃ r, zau p = r := ⟨_, rfl⟩; rw [hk]; unfold zau at hk; haveI := hp_2.oneC; obtain ⟨S0, F1, rfl, hS0, hp0⟩ := zag hF0; refine zak Tryz.func26 rfl rfl rfl hp0 ?_; refine T.sr ?_; refine TL.e (Ew.aw rfl rfl) ?_; rintro _ _ ⟨g1, rfl, rfl⟩; refine TL.run 1 rfl ?_; refine TL.ns (T.seq ?_); refine T.ad (ι := Unit) (fun z => [(2, .bool (((zaA p.Station p.Home) && (decide ((p.Values.length : Int) = wI (p.Home + 1)))) && (zaH p.Values 1125899906842624)))]) (fun z => [.row g1 39 [.int .i64 p.Station, .int .i64 p.Home, vp_2], .fr F1]) (fun z => True) ?_ ?_
  · refine T.region ?_; refine TL.y (Yv.fieldAddr rfl rfl) ?_; refine TL.y (Yv.af 0 rfl rfl rfl rfl) ?_; refine TL.y (Yv.fieldAddr rfl rfl) ?_; refine TL.y (Yv.af 0 rfl rfl rfl rfl) ?_; refine TL.e (Ew.ai rfl rfl rfl (fun w hw => zdc _ w (hw.fr (i := 1) rfl) p.Station p.Home)) ?_; rintro _ _ ⟨rfl, rfl⟩; refine TL.run 1 rfl ?_; refine TL.gs rfl rfl rfl (fun h1 => ?_) (fun h1 => ?_)
    · refine TL.y (Yv.fieldAddr rfl rfl) ?_; refine TL.y (Yv.af 0 rfl rfl rfl rfl) ?_; refine TL.y (Yv.am rfl rfl hp_2 (List.length_map _)) ?_; have hm11 : p.Values.length ≤ 9223372036854775807 := (List.length_map _) ▸ hp_2.max; refine TL.y (Yv.fieldAddr rfl rfl) ?_; refine TL.y (Yv.af 0 rfl rfl rfl rfl) ?_; refine TL.y (Yv.as (v := .int .i64 (wI (p.Home + 1))) rfl) ?_; refine TL.run 3 rfl ?_; refine TL.gs rfl rfl rfl (fun h2 => ?_) (fun h2 => ?_)
      · have p2 := of_decide_eq_true h2; refine TL.y (Yv.fieldAddr rfl rfl) ?_; refine TL.y (Yv.af 0 rfl rfl rfl rfl) ?_; refine TL.e (Ew.ai rfl rfl rfl (fun w hw => zcJ _ w (hw.fr (i := 1) rfl) p.Values vp_2 hp_2 1125899906842624)) ?_; rintro _ _ ⟨rfl, rfl⟩; refine TL.run 2 rfl ?_; refine TL.nil ?_; exact K.ab () trivial (.b (zcY (zcD h1 h2)) .nil) (List.Sublist.refl _)
      · have p2 := of_decide_eq_false h2; refine TL.run 5 rfl ?_; refine TL.nil ?_; exact K.ab () trivial (.b (za8 (zcD h1 h2)).symm .nil) (List.Sublist.refl _)
    · refine TL.run 14 rfl ?_; refine TL.nil ?_; exact K.ab () trivial (.b (za8 (za8 h1)).symm .nil) (List.Sublist.refl _)
  · rintro _ _; have hm11 : p.Values.length ≤ 9223372036854775807 := (List.length_map _) ▸ hp_2.max; refine T.ret ?_; subst hk; exact K.ah rfl rfl (fun w' hw => ⟨rfl, hw.isBelow⟩)
def zav (p : GStationPlan) (o : Int) (prices : List Int) : Int :=
  (bif (((!(zau p)) || (decide (o < 0))) || (decide (p.Home < o))) then
    2
    else
    (bif ((decide (¬ (prices.length : Int) = wI (p.Home + 1))) || (!(zaH prices 1125899906842624))) then
      2
      else
      0))
theorem zcU (F0 : Frz) (w : World) (hF0 : F0.At w) (p : GStationPlan) (vp_2 : Value) (hp_2 : SlC F0 vp_2 1 (p.Values.map eI)) (o : Int) (prices : List Int) (vprices : Value) (hprices : SlC F0 vprices 1 (prices.map eI)) : Calls Tryz.prog 46 #[.agg [.int .i64 p.Station, .int .i64 p.Home, vp_2].toArray, .int .i64 o, vprices] w fun e w' => e = .returned (.int .i64 (zav p o prices)) ∧ Below w.heap.size w w' := by
  obtain ⟨r, hk⟩ : ∃ r, zav p o prices = r := ⟨_, rfl⟩; rw [hk]; unfold zav at hk; haveI := hp_2.oneC; haveI := hprices.oneC; obtain ⟨S0, F1, rfl, hS0, hp0⟩ := zag hF0; refine zak Tryz.func46 rfl rfl rfl hp0 ?_; refine T.sr ?_; refine TL.e (Ew.aw rfl rfl) ?_; rintro _ _ ⟨g3, rfl, rfl⟩; refine TL.run 1 rfl ?_; refine TL.ns (T.seq (T.seq ?_)); refine T.ad (ι := Unit) (fun z => [(2, vprices), (3, .pointer (some ⟨g3, 0, none⟩)), (19, .bool (((!(zau p)) || (decide (o < 0))) || (decide (p.Home < o))))]) (fun z => [.row g3 39 [.int .i64 p.Station, .int .i64 p.Home, vp_2], .fr F1]) (fun z => True) ?_ ?_
  · refine T.region ?_; refine TL.y (Yv.ak 0 rfl rfl rfl rfl) ?_; refine TL.e (Ew.ai rfl rfl rfl (fun w hw => zcX _ w (hw.fr (i := 1) rfl) p vp_2 hp_2)) ?_; rintro _ _ ⟨rfl, rfl⟩; refine TL.run 2 rfl ?_; refine TL.gs rfl rfl rfl (fun h1 => ?_) (fun h1 => ?_)
    · refine TL.run 9 rfl ?_; refine TL.nil ?_; exact K.ab () trivial (.c (.c (.b (zas (zas h1)).symm .nil))) (List.Sublist.refl _)
    · refine TL.run 4 rfl ?_; refine TL.gs rfl rfl rfl (fun h2 => ?_) (fun h2 => ?_)
      · have p2 := of_decide_eq_true h2; refine TL.run 5 rfl ?_; refine TL.nil ?_; exact K.ab () trivial (.c (.c (.b (zas (zay h1 h2)).symm .nil))) (List.Sublist.refl _)
      · have p2 := of_decide_eq_false h2; refine TL.run 1 rfl ?_; refine TL.y (Yv.fieldAddr rfl rfl) ?_; refine TL.y (Yv.af 0 rfl rfl rfl rfl) ?_; refine TL.run 2 rfl ?_; refine TL.nil ?_; exact K.ab () trivial (.c (.c (.b (or_f (zay h1 h2)) .nil))) (List.Sublist.refl _)
  · rintro _ _; refine T.cond rfl (fun h3 => ?_) (fun h3 => ?_)
    · replace hk := zaa hk h3; refine T.sr ?_; refine TL.run 1 rfl ?_; refine TL.ns (T.ret (K.a ?_)); subst hk; exact K.ah rfl rfl (fun w' hw => ⟨rfl, hw.isBelow⟩)
    · have p3 := h3; (try simp only [nfB] at p3); replace hk := zab hk h3; refine T.skip (K.seq (T.seq (T.seq ?_))); refine T.ad (ι := Unit) (fun z => [(30, .bool ((decide (¬ (prices.length : Int) = wI (p.Home + 1))) || (!(zaH prices 1125899906842624))))]) (fun z => [.row g3 39 [.int .i64 p.Station, .int .i64 p.Home, vp_2], .fr F1]) (fun z => True) ?_ ?_
      · refine T.region ?_; refine TL.run 1 rfl ?_; refine TL.y (Yv.am rfl rfl hprices (List.length_map _)) ?_; have hm21 : prices.length ≤ 9223372036854775807 := (List.length_map _) ▸ hprices.max; refine TL.y (Yv.fieldAddr rfl rfl) ?_; refine TL.y (Yv.af 0 rfl rfl rfl rfl) ?_; refine TL.y (Yv.as (v := .int .i64 (wI (p.Home + 1))) rfl) ?_; refine TL.run 2 rfl ?_; refine TL.gs rfl rfl rfl (fun h4 => ?_) (fun h4 => ?_)
        · have p4 := of_decide_eq_true h4; refine TL.run 4 rfl ?_; refine TL.nil ?_; exact K.ab () trivial (.b (zas h4).symm .nil) (List.Sublist.refl _)
        · have p4 := of_decide_eq_false h4; refine TL.run 1 rfl ?_; refine TL.e (Ew.ai rfl rfl rfl (fun w hw => zcJ _ w (hw.fr (i := 1) rfl) prices vprices hprices 1125899906842624)) ?_; rintro _ _ ⟨rfl, rfl⟩; refine TL.run 2 rfl ?_; refine TL.nil ?_; exact K.ab () trivial (.b (or_f h4) .nil) (List.Sublist.refl _)
      · rintro _ _; have hm21 : prices.length ≤ 9223372036854775807 := (List.length_map _) ▸ hprices.max; refine T.cond rfl (fun h5 => ?_) (fun h5 => ?_)
        · replace hk := zaa hk h5; refine T.sr ?_; refine TL.run 1 rfl ?_; refine TL.ns (T.ret (K.a ?_)); subst hk; exact K.ah rfl rfl (fun w' hw => ⟨rfl, hw.isBelow⟩)
        · have p5 := h5; (try simp only [nfB] at p5); replace hk := zab hk h5; refine T.skip (K.seq (T.sr ?_)); refine TL.run 1 rfl ?_; refine TL.ns (T.ret ?_); subst hk; exact K.ah rfl rfl (fun w' hw => ⟨rfl, hw.isBelow⟩)
def zbj (home : Int) (current : Int) : Bool :=
  ((((decide (1 ≤ home)) && (decide (home ≤ 3))) && (decide (0 ≤ current))) && (decide (current ≤ home)))
theorem zdB (F0 : Frz) (w : World) (hF0 : F0.At w) (home : Int) (current : Int) : Calls Tryz.prog 56 #[.int .i64 home, .int .i64 current] w fun e w' => e = .returned (.bool (zbj home current)) ∧ Below w.heap.size w w' := by
  obtain ⟨r, hk⟩ : ∃ r, zbj home current = r := ⟨_, rfl⟩; rw [hk]; unfold zbj at hk; obtain ⟨S0, F1, rfl, hS0, hp0⟩ := zag hF0; refine zak Tryz.func56 rfl rfl rfl hp0 ?_; refine T.sr ?_; refine TL.run 1 rfl ?_; refine TL.ns (T.seq ?_); refine T.ad (ι := Unit) (fun z => [(4, .bool ((((decide (1 ≤ home)) && (decide (home ≤ 3))) && (decide (0 ≤ current))) && (decide (current ≤ home))))]) (fun z => [.fr F1]) (fun z => True) ?_ ?_
  · refine T.region ?_; refine TL.run 3 rfl ?_; refine TL.gs rfl rfl rfl (fun h1 => ?_) (fun h1 => ?_)
    · have p1 := of_decide_eq_true h1; refine TL.run 4 rfl ?_; refine TL.gs rfl rfl rfl (fun h2 => ?_) (fun h2 => ?_)
      · have p2 := of_decide_eq_true h2; refine TL.run 4 rfl ?_; refine TL.gs rfl rfl rfl (fun h3 => ?_) (fun h3 => ?_)
        · have p3 := of_decide_eq_true h3; refine TL.run 5 rfl ?_; refine TL.nil ?_; exact K.ab () trivial (.b (zcY (zcD (zcD h1 h2) h3)) .nil) (List.Sublist.refl _)
        · have p3 := of_decide_eq_false h3; refine TL.run 5 rfl ?_; refine TL.nil ?_; exact K.ab () trivial (.b (za8 (zcD (zcD h1 h2) h3)).symm .nil) (List.Sublist.refl _)
      · have p2 := of_decide_eq_false h2; refine TL.run 9 rfl ?_; refine TL.nil ?_; exact K.ab () trivial (.b (za8 (za8 (zcD h1 h2))).symm .nil) (List.Sublist.refl _)
    · have p1 := of_decide_eq_false h1; refine TL.run 13 rfl ?_; refine TL.nil ?_; exact K.ab () trivial (.b (za8 (za8 (za8 h1))).symm .nil) (List.Sublist.refl _)
  · rintro _ _; refine T.ret ?_; subst hk; exact K.ah rfl rfl (fun w' hw => ⟨rfl, hw.isBelow⟩)
def zbi (fuel : Nat) (home : Int) (current : Int) : Option (List Int × Int) :=
  (bif !(zbj home current) then
    some ([], 2)
    else
    zap (fun (l_2 : List Int) =>
      some (l_2, 0))
    (fun k3 =>
      zaI (fun (next6 : (List Int × Int) → Option (List Int × Int)) (s6 : List Int × Int) =>
        (bif decide (s6.2 ≤ home) then
          grd (room (s6.1 ++ [s6.2]).length 8) <|
          next6 ((s6.1 ++ [s6.2]), wI (s6.2 + 1))
          else
          k3 s6.1)) fuel ([], current)))
theorem zdz (F0 : Frz) (w : World) (hF0 : F0.At w) (home : Int) (current : Int) (fuel : Nat) (r : List Int × Int) (hr : zbi fuel home current = some r) : Calls Tryz.prog 20 #[.int .i64 home, .int .i64 current] w fun e w' => ∃ (y : Value), (True) ∧ e = .returned (.tuple #[y, .int .i64 r.2]) ∧ FxM F0 w (fps []) F0 [.sl y 3 1 r.1.length (r.1.flatMap eI)] w' := by
  have hk := hr; unfold zbi at hk; obtain ⟨S0, F1, rfl, hS0, hp0⟩ := zag hF0; rw [zhb]; refine zak Tryz.func20 rfl rfl rfl hp0 ?_; refine T.sr ?_; refine TL.run 2 rfl ?_; refine TL.ns (T.seq (T.sr ?_)); refine TL.run 2 rfl ?_; refine TL.e (Ew.ai rfl rfl rfl (fun w hw => zdB _ w (hw.fr (i := 0) rfl) home current)) ?_; rintro _ _ ⟨rfl, rfl⟩; refine TL.run 1 rfl ?_; refine TL.ns ?_; refine T.cond rfl (fun h1 => ?_) (fun h1 => ?_)
  · replace hk := zaa hk h1; refine T.sr ?_; refine TL.run 2 rfl ?_; refine TL.ns (T.ret (K.a ?_)); refine K.slNil 3 1 ?_; obtain rfl := Option.some.inj hk; exact K.aG rfl rfl rfl (fun w' hw => ⟨(.slice none 0 0), trivial, rfl, FxM.of (hw.pick (idx := [0, 1]) rfl (by decide)) hS0 (Frz.Le.refl _)⟩)
  · replace hk := zab hk h1; refine T.skip (K.seq (T.sr ?_)); refine TL.run 1 rfl ?_; refine TL.slNil 3 1 ?_; refine TL.ns (T.seq (T.sr ?_)); refine TL.run 2 rfl ?_; refine TL.ns ?_; have hq := zae hk; clear hk; obtain ⟨k3, hk3, hk⟩ := hq; (try dsimp only at hk); refine T.ad (ι := List Int × Value) (fun z => [(6, z.2)]) (fun z => [.sl z.2 3 1 z.1.length (z.1.flatMap eI), .fr F1]) (fun z => k3 z.1 = some r ∧ OneC z.2) ?_ ?_
    · have hq := zbP hk; clear hk; obtain ⟨f6, hf6, hk⟩ := hq; refine T.block ?_; refine T.loop (ι := Nat × List Int × Value × Int) (fun z => [(0, .int .i64 home), (6, z.2.2.1), (7, .int .i64 z.2.2.2)]) (fun z => [.sl z.2.2.1 3 1 z.2.1.length (z.2.1.flatMap eI), .fr F1]) (fun z => zaI f6 z.1 (z.2.1, z.2.2.2) = some r ∧ OneC z.2.2.1) (fun z => z.1) (fuel, [], (.slice none 0 0), current) ?_ ?_ ?_ ?_
      · exact ⟨hk, inferInstance⟩
      · exact (.c (.c (.c .nil)))
      · exact List.Sublist.refl _
      · rintro ⟨m_7, l_4, vl_4, option_5⟩ ⟨hk, ol_4⟩; (try dsimp only at *); have hq := zcc hk; clear hk; obtain ⟨m_7', rfl, hk⟩ := hq; generalize hn6 : zaI f6 m_7' = next6 at hk; rw [← hf6] at hk; (try dsimp only at hk); refine T.seq (T.sr ?_); refine TL.run 3 rfl ?_; refine TL.ns ?_; refine T.cond rfl (fun h8 => ?_) (fun h8 => ?_)
        · have p8 := of_decide_eq_true h8; replace hk := zaa hk h8; refine T.skip (K.seq (T.seq (T.block ?_))); have hq : (room (l_4 ++ [option_5]).length 8) ∧ _ := zaf hk; clear hk; obtain ⟨g21, hk⟩ := hq; (try dsimp only at hk); refine T.region ?_; refine TL.run 2 rfl ?_; refine TL.e (Ew.buildSlice rfl rfl rfl (by decide)) ?_; rintro _ _ ⟨g20, rfl, rfl⟩; refine TL.e (Ew.aS 1 0 rfl rfl rfl rfl rfl rfl (zeI (ys := [option_5]) rfl) (zfF (enc := eI) (xs := l_4) (ys := [option_5])) g21 (by decide)) ?_; rintro v21 _ ⟨hv21, rfl⟩; refine TL.run 1 rfl ?_; refine TL.nil (K.ac (K.seq (T.region ?_))); refine TL.run 1 rfl ?_; refine TL.y (Yv.as (v := .int .i64 (wI (option_5 + 1))) rfl) ?_; refine TL.run 1 rfl ?_; refine TL.nil ?_; rw [← hn6] at hk; refine K.pick [1, 2] rfl (by decide) ?_; exact K.next (m_7', (l_4 ++ [option_5]), v21, wI (option_5 + 1)) ⟨hk, inferInstance⟩ (by dsimp only; omega) (.c (.c (.c .nil))) (List.Sublist.refl _)
        · have p8 := of_decide_eq_false h8; replace hk := zab hk h8; refine T.exit (K.aa (K.aa (K.ae ?_))); exact K.ab (l_4, vl_4) ⟨hk, inferInstance⟩ (.c .nil) (List.Sublist.refl _)
    · rintro ⟨l_2, vl_2⟩ ⟨hk, ol_2⟩; (try dsimp only at *); rw [← hk3] at hk; (try dsimp only at hk); refine T.sr ?_; refine TL.run 3 rfl ?_; refine TL.ns (T.ret ?_); obtain rfl := Option.some.inj hk; exact K.aG rfl rfl rfl (fun w' hw => ⟨vl_2, trivial, rfl, FxM.of (hw.pick (idx := [0, 1]) rfl (by decide)) hS0 (Frz.Le.refl _)⟩)
def zbu (p : GStationPlan) (o : Int) (prices : List Int) : Option Int :=
  (bif decide (o = p.Home) then
    grd (0 ≤ o ∧ o < (p.Values.length : Int)) <|
    some (nth p.Values o.toNat)
    else
    grd (0 ≤ o ∧ o < (prices.length : Int)) <|
    grd (0 ≤ o ∧ o < (p.Values.length : Int)) <|
    some (wI ((nth prices o.toNat) + (nth p.Values o.toNat))))
theorem zc1 (F0 : Frz) (w : World) (hF0 : F0.At w) (p : GStationPlan) (vp_2 : Value) (hp_2 : SlC F0 vp_2 1 (p.Values.map eI)) (o : Int) (prices : List Int) (vprices : Value) (hprices : SlC F0 vprices 1 (prices.map eI)) (r : Int) (hr : zbu p o prices = some r) : Calls Tryz.prog 51 #[.agg [.int .i64 p.Station, .int .i64 p.Home, vp_2].toArray, .int .i64 o, vprices] w fun e w' => e = .returned (.int .i64 r) ∧ Below w.heap.size w w' := by
  have hk := hr; unfold zbu at hk; haveI := hp_2.oneC; haveI := hprices.oneC; obtain ⟨S0, F1, rfl, hS0, hp0⟩ := zag hF0; refine zak Tryz.func51 rfl rfl rfl hp0 ?_; refine T.sr ?_; refine TL.e (Ew.aw rfl rfl) ?_; rintro _ _ ⟨g3, rfl, rfl⟩; refine TL.run 1 rfl ?_; refine TL.ns (T.seq (T.sr ?_)); refine TL.run 1 rfl ?_; refine TL.y (Yv.fieldAddr rfl rfl) ?_; refine TL.y (Yv.af 0 rfl rfl rfl rfl) ?_; refine TL.run 1 rfl ?_; refine TL.ns ?_; refine T.cond rfl (fun h1 => ?_) (fun h1 => ?_)
  · have p1 := of_decide_eq_true h1; replace hk := zaa hk h1; refine T.seq ?_; have hq : (0 ≤ o ∧ o < (p.Values.length : Int)) ∧ _ := zaf hk; clear hk; obtain ⟨g14, hk⟩ := hq; (try dsimp only at hk); refine T.region ?_; refine TL.y (Yv.fieldAddr rfl rfl) ?_; refine TL.y (Yv.af 0 rfl rfl rfl rfl) ?_; refine TL.run 1 rfl ?_; refine TL.y (Yv.an (i := o.toNat) rfl rfl rfl hp_2 (List.length_map _) (by omega) (by omega)) ?_; refine TL.y (Yv.al 1 (i := o.toNat) (j := 0) rfl rfl rfl hp_2 (by omega) rfl rfl) ?_; refine TL.run 1 rfl ?_; refine TL.ns (T.ret (K.a ?_)); obtain rfl := Option.some.inj hk; exact K.ah rfl rfl (fun w' hw => ⟨rfl, hw.isBelow⟩)
  · have p1 := of_decide_eq_false h1; replace hk := zab hk h1; refine T.skip (K.seq (T.seq ?_)); have hq : (0 ≤ o ∧ o < (prices.length : Int)) ∧ _ := zaf hk; clear hk; obtain ⟨g18, hk⟩ := hq; have hq : (0 ≤ o ∧ o < (p.Values.length : Int)) ∧ _ := zaf hk; clear hk; obtain ⟨g23, hk⟩ := hq; (try dsimp only at hk); refine T.ax (.still 0 (.still 1 (.still 2 (.still 3 (.still 4 (.still 5 (.still 6 (.still 7 (.still 8 (.still 9 (.still 10 .done))))))))))) _ (by kernel_rfl) (List.Sublist.refl _) ?_; refine TS.run 2 rfl ?_; refine TS.y rfl (Yv.an (i := o.toNat) rfl rfl rfl hprices (List.length_map _) (by omega) (by omega)) ?_; refine TS.y rfl (Yv.al 1 (i := o.toNat) (j := 0) rfl rfl rfl hprices (by omega) rfl rfl) ?_; refine TS.y rfl (Yv.fieldAddr rfl rfl) ?_; refine TS.y rfl (Yv.af 0 rfl rfl rfl rfl) ?_; refine TS.run 1 rfl ?_; refine TS.y rfl (Yv.an (i := o.toNat) rfl rfl rfl hp_2 (List.length_map _) (by omega) (by omega)) ?_; refine TS.y rfl (Yv.al 1 (i := o.toNat) (j := 0) rfl rfl rfl hp_2 (by omega) rfl rfl) ?_; refine TS.y rfl (Yv.as (v := .int .i64 (wI ((nth prices o.toNat) + (nth p.Values o.toNat)))) rfl) ?_; refine TS.run 1 rfl ?_; refine TS.done ?_; refine K.seq (T.ret ?_); obtain rfl := Option.some.inj hk; exact K.ah rfl rfl (fun w' hw => ⟨rfl, hw.isBelow⟩)
def zbb (p : GStationPlan) (option : Int) (prices : List Int) : Option (Int × Int) :=
  (bif decide (¬ (zav p option prices) = 0) then
    some (0, (zav p option prices))
    else
    (zbu p option prices).bind fun r19 =>
    some (r19, 0))
theorem zc2 (F0 : Frz) (w : World) (hF0 : F0.At w) (p : GStationPlan) (vp_2 : Value) (hp_2 : SlC F0 vp_2 1 (p.Values.map eI)) (option : Int) (prices : List Int) (vprices : Value) (hprices : SlC F0 vprices 1 (prices.map eI)) (r : Int × Int) (hr : zbb p option prices = some r) : Calls Tryz.prog 18 #[.agg [.int .i64 p.Station, .int .i64 p.Home, vp_2].toArray, .int .i64 option, vprices] w fun e w' => e = .returned (.tuple #[.int .i64 r.1, .int .i64 r.2]) ∧ Below w.heap.size w w' := by
  have hk := hr; unfold zbb at hk; haveI := hp_2.oneC; haveI := hprices.oneC; obtain ⟨S0, F1, rfl, hS0, hp0⟩ := zag hF0; refine zak Tryz.func18 rfl rfl rfl hp0 ?_; refine T.sr ?_; refine TL.e (Ew.aw rfl rfl) ?_; rintro _ _ ⟨g3, rfl, rfl⟩; refine TL.run 2 rfl ?_; refine TL.ns (T.seq (T.sr ?_)); refine TL.y (Yv.ak 0 rfl rfl rfl rfl) ?_; refine TL.run 2 rfl ?_; refine TL.e (Ew.ai rfl rfl rfl (fun w hw => zcU _ w (hw.fr (i := 1) rfl) p vp_2 hp_2 option prices vprices hprices)) ?_; rintro _ _ ⟨rfl, rfl⟩; refine TL.run 1 rfl ?_; refine TL.nx ?_; refine TL.run 2 rfl ?_; refine TL.ns ?_; refine T.cond rfl (fun h1 => ?_) (fun h1 => ?_)
  · have p1 := of_decide_eq_true h1; replace hk := zaa hk h1; refine T.sr ?_; refine TL.run 3 rfl ?_; refine TL.ns (T.ret (K.a ?_)); obtain rfl := Option.some.inj hk; exact K.aG rfl rfl rfl (fun w' hw => ⟨rfl, hw.isBelow⟩)
  · have p1 := of_decide_eq_false h1; replace hk := zab hk h1; refine T.skip (K.seq (T.seq ?_)); have hq := zac hk; clear hk; obtain ⟨r19, hr19, hk⟩ := hq; (try dsimp only at hk); refine T.region ?_; refine TL.y (Yv.ak 0 rfl rfl rfl rfl) ?_; refine TL.run 2 rfl ?_; refine TL.e (Ew.ai rfl rfl rfl (fun w hw => zc1 _ w (hw.fr (i := 1) rfl) p vp_2 hp_2 option prices vprices hprices r19 hr19)) ?_; rintro _ _ ⟨rfl, rfl⟩; refine TL.run 2 rfl ?_; refine TL.ns (T.ret ?_); obtain rfl := Option.some.inj hk; exact K.aG rfl rfl rfl (fun w' hw => ⟨rfl, hw.isBelow⟩)
def zby (n : Int) : Bool :=
  ((decide (0 ≤ n)) && (decide (n ≤ 3)))
theorem zer (F0 : Frz) (w : World) (hF0 : F0.At w) (n : Int) : Calls Tryz.prog 78 #[.int .i64 n] w fun e w' => e = .returned (.bool (zby n)) ∧ Below w.heap.size w w' := by
  obtain ⟨r, hk⟩ : ∃ r, zby n = r := ⟨_, rfl⟩; rw [hk]; unfold zby at hk; obtain ⟨S0, F1, rfl, hS0, hp0⟩ := zag hF0; refine zak Tryz.func78 rfl rfl rfl hp0 ?_; refine T.sr ?_; refine TL.run 1 rfl ?_; refine TL.ns (T.seq ?_); refine T.ad (ι := Unit) (fun z => [(2, .bool ((decide (0 ≤ n)) && (decide (n ≤ 3))))]) (fun z => [.fr F1]) (fun z => True) ?_ ?_
  · refine T.region ?_; refine TL.run 3 rfl ?_; refine TL.gs rfl rfl rfl (fun h1 => ?_) (fun h1 => ?_)
    · have p1 := of_decide_eq_true h1; refine TL.run 4 rfl ?_; refine TL.nil ?_; exact K.ab () trivial (.b (zcY h1) .nil) (List.Sublist.refl _)
    · have p1 := of_decide_eq_false h1; refine TL.run 4 rfl ?_; refine TL.nil ?_; exact K.ab () trivial (.b (za8 h1).symm .nil) (List.Sublist.refl _)
  · rintro _ _; refine T.ret ?_; subst hk; exact K.ah rfl rfl (fun w' hw => ⟨rfl, hw.isBelow⟩)
def zcb (home : Int) (current : Int) (option : Int) : Bool :=
  (((zbj home current) && (decide (current ≤ option))) && (decide (option ≤ home)))
theorem zeC (F0 : Frz) (w : World) (hF0 : F0.At w) (home : Int) (current : Int) (option : Int) : Calls Tryz.prog 55 #[.int .i64 home, .int .i64 current, .int .i64 option] w fun e w' => e = .returned (.bool (zcb home current option)) ∧ Below w.heap.size w w' := by
  obtain ⟨r, hk⟩ : ∃ r, zcb home current option = r := ⟨_, rfl⟩; rw [hk]; unfold zcb at hk; obtain ⟨S0, F1, rfl, hS0, hp0⟩ := zag hF0; refine zak Tryz.func55 rfl rfl rfl hp0 ?_; refine T.sr ?_; refine TL.run 1 rfl ?_; refine TL.ns (T.seq ?_); refine T.ad (ι := Unit) (fun z => [(6, .bool (((zbj home current) && (decide (current ≤ option))) && (decide (option ≤ home))))]) (fun z => [.fr F1]) (fun z => True) ?_ ?_
  · refine T.region ?_; refine TL.run 2 rfl ?_; refine TL.e (Ew.ai rfl rfl rfl (fun w hw => zdB _ w (hw.fr (i := 0) rfl) home current)) ?_; rintro _ _ ⟨rfl, rfl⟩; refine TL.run 1 rfl ?_; refine TL.gs rfl rfl rfl (fun h1 => ?_) (fun h1 => ?_)
    · refine TL.run 5 rfl ?_; refine TL.gs rfl rfl rfl (fun h2 => ?_) (fun h2 => ?_)
      · have p2 := of_decide_eq_true h2; refine TL.run 5 rfl ?_; refine TL.nil ?_; exact K.ab () trivial (.b (zcY (zcD h1 h2)) .nil) (List.Sublist.refl _)
      · have p2 := of_decide_eq_false h2; refine TL.run 5 rfl ?_; refine TL.nil ?_; exact K.ab () trivial (.b (za8 (zcD h1 h2)).symm .nil) (List.Sublist.refl _)
    · refine TL.run 10 rfl ?_; refine TL.nil ?_; exact K.ab () trivial (.b (za8 (za8 h1)).symm .nil) (List.Sublist.refl _)
  · rintro _ _; refine T.ret ?_; subst hk; exact K.ah rfl rfl (fun w' hw => ⟨rfl, hw.isBelow⟩)
def zar (fuel : Nat) (p : GBidderPlan) (l : List GProduct) (prices : List Int) : Option (List Int × Int) :=
  (zaZ p l).bind fun r10 =>
  (bif ((!r10) || (!(zai l prices))) then
    some ([], 2)
    else
    (zaJ fuel p l prices).bind fun r21 =>
    some (r21.1, r21.2))
theorem zcj (F0 : Frz) (w : World) (hF0 : F0.At w) (p : GBidderPlan) (vp_2 : Value) (cp_2 : List (List Value)) (hp_2 : SlD R_List_Int.rep F0 vp_2 1 cp_2 p.Values) (l : List GProduct) (vl : Value) (hl : SlC F0 vl 5 (l.map GProduct.enc)) (prices : List Int) (vprices : Value) (hprices : SlC F0 vprices 1 (prices.map eI)) (fuel : Nat) (r : List Int × Int) (hr : zar fuel p l prices = some r) : Calls Tryz.prog 21 #[.agg [.int .i64 p.Bidder, .int .i64 p.Budget, vp_2].toArray, vl, vprices] w fun e w' => ∃ (y : Value) (G : Frz), (SlC G y 1 (r.1.map eI)) ∧ e = .returned (.tuple #[y, .int .i64 r.2]) ∧ Fx F0 w G w' := by
  have hk := hr; unfold zar at hk; haveI := hp_2.1.oneC; haveI := hl.oneC; haveI := hprices.oneC; obtain ⟨S0, F1, rfl, hS0, hp0⟩ := zag hF0; refine zak Tryz.func21 rfl rfl rfl hp0 ?_; refine T.sr ?_; refine TL.e (Ew.aw rfl rfl) ?_; rintro _ _ ⟨g3, rfl, rfl⟩; refine TL.run 2 rfl ?_; refine TL.ns (T.seq (T.seq ?_)); have hq := zac hk; clear hk; obtain ⟨r10, hr10, hk⟩ := hq; (try dsimp only at hk); refine T.ad (ι := Unit) (fun z => [(1, vl), (2, vprices), (3, .pointer (some ⟨g3, 0, none⟩)), (17, .bool ((!r10) || (!(zai l prices))))]) (fun z => [.row g3 24 [.int .i64 p.Bidder, .int .i64 p.Budget, vp_2], .fr F1]) (fun z => True) ?_ ?_
  · refine T.region ?_; refine TL.y (Yv.ak 0 rfl rfl rfl rfl) ?_; refine TL.run 1 rfl ?_; refine TL.e (Ew.ai rfl rfl rfl (fun w hw => zcs _ w (hw.fr (i := 1) rfl) p vp_2 cp_2 hp_2 l vl hl r10 hr10)) ?_; rintro _ _ ⟨rfl, rfl⟩; refine TL.run 2 rfl ?_; refine TL.gs rfl rfl rfl (fun h1 => ?_) (fun h1 => ?_)
    · refine TL.run 5 rfl ?_; refine TL.nil ?_; exact K.ab () trivial (.c (.c (.c (.b (zas h1).symm .nil)))) (List.Sublist.refl _)
    · refine TL.run 2 rfl ?_; refine TL.e (Ew.ai rfl rfl rfl (fun w hw => zcr _ w (hw.fr (i := 1) rfl) l vl hl prices vprices hprices)) ?_; rintro _ _ ⟨rfl, rfl⟩; refine TL.run 2 rfl ?_; refine TL.nil ?_; exact K.ab () trivial (.c (.c (.c (.b (or_f h1) .nil)))) (List.Sublist.refl _)
  · rintro _ _; refine T.cond rfl (fun h2 => ?_) (fun h2 => ?_)
    · replace hk := zaa hk h2; refine T.sr ?_; refine TL.run 2 rfl ?_; refine TL.ns (T.ret (K.a ?_)); obtain rfl := Option.some.inj hk; exact K.aG rfl rfl rfl (fun w' hw => ⟨(.slice none 0 0), F1.toFrz, (SlC.nil _ 1), rfl, Fx.of hw (i := 1) rfl hS0 (Frz.Le.refl _)⟩)
    · replace hk := zab hk h2; refine T.skip (K.seq (T.seq ?_)); have hq := zac hk; clear hk; obtain ⟨r21, hr21, hk⟩ := hq; (try dsimp only at hk); refine T.region ?_; refine TL.y (Yv.ak 0 rfl rfl rfl rfl) ?_; refine TL.run 2 rfl ?_; refine TL.e (Ew.ao 1 rfl rfl rfl rfl (fun w hw hF => zdm _ w hF p vp_2 cp_2 hp_2 l vl hl prices vprices hprices fuel r21 hr21)) ?_; rintro _ _ ⟨v21_0_0, F2, le1_2, hf21_0_0, rfl, rfl⟩; haveI := hf21_0_0.oneC; refine TL.run 4 rfl ?_; refine TL.ns (T.ret ?_); obtain rfl := Option.some.inj hk; exact K.aG rfl rfl rfl (fun w' hw => ⟨v21_0_0, F2.toFrz, hf21_0_0, rfl, Fx.of hw (i := 1) rfl hS0 le1_2⟩)
def zaS (fuel : Nat) (m0_ : List (Gpoint × Int)) (p : GBidderPlan) (i : Int) (from_ : Int) (to_ : Int) (start : Int) (clock : Int) : Option (List (Gpoint × Int)) :=
  zaI (fun (next3 : (Int × (List (Gpoint × Int))) → Option (List (Gpoint × Int))) (s3 : Int × (List (Gpoint × Int))) =>
    (bif decide (to_ < s3.1) then
      grd (0 ≤ i ∧ i < (p.Values.length : Int)) <|
      zap (fun (value_6 : Int) =>
        zap (fun (s12 : Int × Int) =>
          next3 (wI (s3.1 - 1), (qset s3.2 (Gpoint.mk s12.1 s12.2) (wI (((qf s3.2 (Gpoint.mk s12.1 s12.2)).getD 0) + 1)))))
        (fun k12 =>
          (bif ((decide (start < clock)) && (decide (value_6 < clock))) then
            grd (0 ≤ wI ((max (wI (value_6 - start)) 0) * 1000) ∧ wI ((max (wI (value_6 - start)) 0) * 1000) ≤ 9223372036854775807 ∧ 1 ≤ wI (clock - start)) <|
            k12 (i, ((wI ((max (wI (value_6 - start)) 0) * 1000)) / (wI (clock - start))))
            else
            k12 (i, 1000))))
      (fun k7 =>
        (bif decide (s3.1 ≤ ((nth p.Values i.toNat).length : Int)) then
          grd (0 ≤ wI (s3.1 - 1) ∧ wI (s3.1 - 1) < ((nth p.Values i.toNat).length : Int)) <|
          k7 (nth (nth p.Values i.toNat) ((wI (s3.1 - 1)).toNat))
          else
          k7 0))
      else
      some s3.2)) fuel (from_, m0_)
theorem zdX (F0 : Frz) (w : World) (hF0 : F0.At w) (m0_ : List (Gpoint × Int)) (g0_ : Nat) (p : GBidderPlan) (vp_2 : Value) (cp_2 : List (List Value)) (hp_2 : SlD R_List_Int.rep F0 vp_2 1 cp_2 p.Values) (i : Int) (from_ : Int) (to_ : Int) (start : Int) (clock : Int) (hO : Hp w (fps [.mf zax (Value.int .i64) g0_ (qf m0_)]) [.mf zax (Value.int .i64) g0_ (qf m0_)] w) (hA : ∀ g, fps [.mf zax (Value.int .i64) g0_ (qf m0_)] g → ¬ F0.S g) (fuel : Nat) (r : (List (Gpoint × Int))) (hr : zaS fuel m0_ p i from_ to_ start clock = some r) : Calls Tryz.prog 31 #[.map (some g0_), .agg [.int .i64 p.Bidder, .int .i64 p.Budget, vp_2].toArray, .int .i64 i, .int .i64 from_, .int .i64 to_, .int .i64 start, .int .i64 clock] w fun e w' => ∃ (y : Unit), (True) ∧ e = .returned (.tuple #[]) ∧ FxM F0 w (fps [.mf zax (Value.int .i64) g0_ (qf m0_)]) F0 [.mf zax (Value.int .i64) g0_ (qf r)] w' := by
  have hk := hr; unfold zaS at hk; haveI := hp_2.1.oneC; obtain ⟨S0, F1, rfl, hS0, hp0⟩ := zbG hF0 hO hA; refine zak (hs := [.mf zax (Value.int .i64) g0_ (qf m0_), .fr F1]) Tryz.func31 rfl rfl rfl hp0 ?_; refine T.sr ?_; refine TL.e (Ew.aw rfl rfl) ?_; rintro _ _ ⟨g8, rfl, rfl⟩; refine TL.nx ?_; refine TL.run 2 rfl ?_; refine TL.ns ?_; have hq := zbP hk; clear hk; obtain ⟨f3, hf3, hk⟩ := hq; refine T.block ?_; refine T.pick [1, 0, 2] rfl (by decide) ?_; refine T.loop (ι := Nat × Int × (List (Gpoint × Int))) (fun z => [(0, .map (some g0_)), (2, .int .i64 i), (4, .int .i64 to_), (5, .int .i64 start), (6, .int .i64 clock), (8, .pointer (some ⟨g8, 0, none⟩)), (14, .int .i64 z.2.1)]) (fun z => [.mf zax (Value.int .i64) g0_ (qf z.2.2), .row g8 24 [.int .i64 p.Bidder, .int .i64 p.Budget, vp_2], .fr F1]) (fun z => zaI f3 z.1 (z.2.1, z.2.2) = some r) (fun z => z.1) (fuel, from_, m0_) ?_ ?_ ?_ ?_
  · exact hk
  · exact (.c (.c (.c (.c (.c (.c (.c .nil)))))))
  · exact List.Sublist.refl _
  · rintro ⟨m_4, n_1, l_2⟩ hk; (try dsimp only at *); have hq := zcc hk; clear hk; obtain ⟨m_4', rfl, hk⟩ := hq; generalize hn3 : zaI f3 m_4' = next3 at hk; rw [← hf3] at hk; (try dsimp only at hk); refine T.seq (T.sr ?_); refine TL.run 3 rfl ?_; refine TL.ns ?_; refine T.cond rfl (fun h5 => ?_) (fun h5 => ?_)
    · have p5 := of_decide_eq_true h5; replace hk := zaa hk h5; refine T.skip (K.seq (T.seq (T.block (T.sr ?_)))); refine TL.run 1 rfl ?_; refine TL.ns (T.seq (T.seq ?_)); have hq : (0 ≤ i ∧ i < (p.Values.length : Int)) ∧ _ := zaf hk; clear hk; obtain ⟨g27, hk⟩ := hq; (try dsimp only at hk); refine T.region ?_; refine TL.run 1 rfl ?_; refine TL.y (Yv.fieldAddr rfl rfl) ?_; refine TL.y (Yv.af 1 rfl rfl rfl rfl) ?_; refine TL.run 1 rfl ?_; refine TL.y (Yv.an (i := i.toNat) rfl rfl rfl hp_2.1 hp_2.2.1 (by omega) (by omega)) ?_; refine TL.y (Yv.aJ 2 (i := i.toNat) (j := 0) rfl rfl rfl hp_2.1 hp_2.2.1 (by omega) rfl (R_List_Int.c0 (hp_2.2.2 i.toNat (by omega))).1) ?_; have hd28_0 := (R_List_Int.c0 (hp_2.2.2 i.toNat (by omega))).2; haveI := hd28_0.oneC; refine TL.y (Yv.am rfl rfl hd28_0 (List.length_map _)) ?_; have hm29 : (nth p.Values i.toNat).length ≤ 9223372036854775807 := (List.length_map _) ▸ hd28_0.max; refine TL.run 1 rfl ?_; refine TL.ns ?_; have hq := zae hk; clear hk; obtain ⟨k7, hk7, hk⟩ := hq; (try dsimp only at hk); refine T.ad (ι := Int) (fun z => [(0, .map (some g0_)), (2, .int .i64 i), (4, .int .i64 to_), (5, .int .i64 start), (6, .int .i64 clock), (8, .pointer (some ⟨g8, 0, none⟩)), (14, .int .i64 n_1), (15, .int .i64 z)]) (fun z => [.mf zax (Value.int .i64) g0_ (qf l_2), .row g8 24 [.int .i64 p.Bidder, .int .i64 p.Budget, vp_2], .fr F1]) (fun z => k7 z = some r) ?_ ?_
      · refine T.cond rfl (fun h8 => ?_) (fun h8 => ?_)
        · have p8 := of_decide_eq_true h8; replace hk := zaa hk h8; have hq : (0 ≤ wI (n_1 - 1) ∧ wI (n_1 - 1) < ((nth p.Values i.toNat).length : Int)) ∧ _ := zaf hk; clear hk; obtain ⟨g38, hk⟩ := hq; (try dsimp only at hk); refine T.region ?_; refine TL.y (Yv.fieldAddr rfl rfl) ?_; refine TL.y (Yv.af 1 rfl rfl rfl rfl) ?_; refine TL.run 1 rfl ?_; refine TL.y (Yv.an (i := i.toNat) rfl rfl rfl hp_2.1 hp_2.2.1 (by omega) (by omega)) ?_; refine TL.y (Yv.aJ 2 (i := i.toNat) (j := 0) rfl rfl rfl hp_2.1 hp_2.2.1 (by omega) rfl (R_List_Int.c0 (hp_2.2.2 i.toNat (by omega))).1) ?_; refine TL.run 1 rfl ?_; refine TL.y (Yv.as (v := .int .i64 (wI (n_1 - 1))) rfl) ?_; refine TL.y (Yv.an (i := (wI (n_1 - 1)).toNat) (z := wI (n_1 - 1)) rfl rfl rfl hd28_0 (List.length_map _) (by omega) (by omega)) ?_; refine TL.y (Yv.al 2 (i := (wI (n_1 - 1)).toNat) (j := 0) rfl rfl rfl hd28_0 (by omega) rfl rfl) ?_; refine TL.run 1 rfl ?_; refine TL.nil ?_; exact K.ab (nth (nth p.Values i.toNat) ((wI (n_1 - 1)).toNat)) hk (.c (.c (.c (.c (.c (.c (.c (.c .nil)))))))) (List.Sublist.refl _)
        · have p8 := of_decide_eq_false h8; replace hk := zab hk h8; refine T.skip ?_; exact K.ab 0 hk (.c (.c (.c (.c (.c (.c (.c (.c .nil)))))))) (List.Sublist.refl _)
      · rintro value_6 hk; rw [← hk7] at hk; (try dsimp only at hk); refine T.sr ?_; refine TL.run 1 rfl ?_; refine TL.y (Yv.build rfl rfl) ?_; refine TL.e (Ew.alloc rfl) ?_; rintro _ _ ⟨g16, rfl, rfl⟩; refine TL.e0 (Ew.ag 0 rfl rfl rfl rfl rfl rfl) ?_; rintro _ _ ⟨rfl, rfl⟩; refine TL.ns (T.seq (T.seq ?_)); refine T.ad (ι := Unit) (fun z => [(0, .map (some g0_)), (2, .int .i64 i), (4, .int .i64 to_), (5, .int .i64 start), (6, .int .i64 clock), (8, .pointer (some ⟨g8, 0, none⟩)), (14, .int .i64 n_1), (15, .int .i64 value_6), (16, .pointer (some ⟨g16, 0, none⟩)), (49, .bool ((decide (start < clock)) && (decide (value_6 < clock))))]) (fun z => [.row g16 81 [.int .i64 i, .int .i64 1000], .mf zax (Value.int .i64) g0_ (qf l_2), .row g8 24 [.int .i64 p.Bidder, .int .i64 p.Budget, vp_2], .fr F1]) (fun z => True) ?_ ?_
        · refine T.region ?_; refine TL.run 4 rfl ?_; refine TL.gs rfl rfl rfl (fun h9 => ?_) (fun h9 => ?_)
          · have p9 := of_decide_eq_true h9; refine TL.run 4 rfl ?_; refine TL.nil ?_; exact K.ab () trivial (.c (.c (.c (.c (.c (.c (.c (.c (.c (.b (zcY h9) .nil)))))))))) (List.Sublist.refl _)
          · have p9 := of_decide_eq_false h9; refine TL.run 4 rfl ?_; refine TL.nil ?_; exact K.ab () trivial (.c (.c (.c (.c (.c (.c (.c (.c (.c (.b (za8 h9).symm .nil)))))))))) (List.Sublist.refl _)
        · rintro _ _; have hq := zae hk; clear hk; obtain ⟨k12, hk12, hk⟩ := hq; (try dsimp only at hk); refine T.ad (ι := Int × Int) (fun z => [(0, .map (some g0_)), (2, .int .i64 i), (4, .int .i64 to_), (5, .int .i64 start), (6, .int .i64 clock), (8, .pointer (some ⟨g8, 0, none⟩)), (14, .int .i64 n_1), (16, .pointer (some ⟨g16, 0, none⟩))]) (fun z => [.row g16 81 [.int .i64 z.1, .int .i64 z.2], .mf zax (Value.int .i64) g0_ (qf l_2), .row g8 24 [.int .i64 p.Bidder, .int .i64 p.Budget, vp_2], .fr F1]) (fun z => k12 (z.1, z.2) = some r) ?_ ?_
          · refine T.cond rfl (fun h13 => ?_) (fun h13 => ?_)
            · have p13 := h13; (try simp only [nfB] at p13); replace hk := zaa hk h13; have hq : (0 ≤ wI ((max (wI (value_6 - start)) 0) * 1000) ∧ wI ((max (wI (value_6 - start)) 0) * 1000) ≤ 9223372036854775807 ∧ 1 ≤ wI (clock - start)) ∧ _ := zaf hk; clear hk; obtain ⟨g58, hk⟩ := hq; (try dsimp only at hk); refine T.region ?_; refine TL.run 2 rfl ?_; refine TL.y (Yv.as (v := .int .i64 (wI (value_6 - start))) rfl) ?_; refine TL.y (Yv.max2 rfl rfl rfl) ?_; refine TL.y (Yv.as (v := .int .i64 (wI ((max (wI (value_6 - start)) 0) * 1000))) rfl) ?_; refine TL.run 2 rfl ?_; refine TL.y (Yv.as (v := .int .i64 (wI (clock - start))) rfl) ?_; refine TL.y (Yv.bj (a := wI ((max (wI (value_6 - start)) 0) * 1000)) (b := wI (clock - start)) rfl rfl rfl g58) ?_; refine TL.y (Yv.fieldAddr rfl rfl) ?_; refine TL.e0 (Ew.aP 0 rfl rfl rfl rfl (by simp)) ?_; rintro _ _ ⟨rfl, rfl⟩; refine TL.nil ?_; exact K.ab (i, ((wI ((max (wI (value_6 - start)) 0) * 1000)) / (wI (clock - start)))) hk (.c (.c (.c (.c (.c (.c (.c (.c .nil)))))))) (List.Sublist.refl _)
            · replace hk := zab hk h13; refine T.skip ?_; exact K.ab (i, 1000) hk (.c (.c (.c (.c (.c (.c (.c (.c .nil)))))))) (List.Sublist.refl _)
          · rintro ⟨c_10, c_11⟩ hk; (try dsimp only at *); rw [← hk12] at hk; (try dsimp only at hk); refine T.ax (.still 0 (.still 1 (.two 2 4 (.still 3 (.eff 4 (.still 5 (.eff 6 .done)))) (.still 5 (.eff 2 (.still 3 (.eff 6 .done))))))) [.row g16 81 [.int .i64 c_10, .int .i64 c_11], .row g8 24 [.int .i64 p.Bidder, .int .i64 p.Budget, vp_2], .fr F1] (by kernel_rfl) Sx ?_; refine TS.run 1 rfl ?_; refine TS.y rfl (Yv.ak 0 rfl rfl rfl rfl) ?_; refine TS.two ?_ ?_
            · refine TSo.ay rfl (Wt.none rfl) rfl rfl (Yv.bL 1 (k := (Gpoint.mk c_10 c_11)) rfl rfl rfl rfl) (fun w hw => hw.sub Sx) ?_; refine TS.y rfl (Yv.as (v := .int .i64 (wI (((qf l_2 (Gpoint.mk c_10 c_11)).getD 0) + 1))) rfl) ?_; refine TS.eff ?_; refine TSo.aC rfl (Wt.none rfl) rfl rfl (Ew.aY 1 (k := (Gpoint.mk c_10 c_11)) rfl rfl rfl rfl) ?_; rintro _ _ ⟨b64, rfl, rfl⟩; refine ⟨(fun w hw => hw.sub Sx), ?_⟩; refine TS.run 1 rfl ?_; refine TS.eff ?_; refine TSo.ewG0 rfl (Wt.none rfl) rfl (Ew.aU 1 (m := l_2) (k := (Gpoint.mk c_10 c_11)) (v := (wI (((qf l_2 (Gpoint.mk c_10 c_11)).getD 0) + 1))) rfl rfl rfl rfl rfl) ?_; rintro _ _ ⟨rfl, rfl⟩; refine ⟨(fun w hw => hw.sub Sx), ?_⟩; refine TS.done ?_; refine K.ac (K.seq (T.region ?_)); refine TL.run 1 rfl ?_; refine TL.y (Yv.as (v := .int .i64 (wI (n_1 - 1))) rfl) ?_; refine TL.run 1 rfl ?_; refine TL.nil ?_; rw [← hn3] at hk; refine K.pick [1, 2, 3] rfl (by decide) ?_; exact K.next (m_4', wI (n_1 - 1), (qset l_2 (Gpoint.mk c_10 c_11) (wI (((qf l_2 (Gpoint.mk c_10 c_11)).getD 0) + 1)))) hk (by dsimp only; omega) (.c (.c (.c (.c (.c (.c (.c .nil))))))) (List.Sublist.refl _)
            · refine TSo.aC rfl (Wt.none rfl) rfl rfl (Ew.aY 1 (k := (Gpoint.mk c_10 c_11)) rfl rfl rfl rfl) ?_; rintro _ _ ⟨b64, rfl, rfl⟩; refine ⟨(fun w hw => hw.sub Sx), ?_⟩; refine TS.run 1 rfl ?_; refine TS.eff ?_; refine TSo.ay rfl (Wt.none rfl) rfl rfl (Yv.cg 1 (m := l_2) (k := (Gpoint.mk c_10 c_11)) rfl rfl rfl rfl) (fun w hw => hw.sub Sx) ?_; refine TS.y rfl (Yv.as (v := .int .i64 (wI (((qf l_2 (Gpoint.mk c_10 c_11)).getD 0) + 1))) rfl) ?_; refine TS.eff ?_; refine TSo.ewG0 rfl (Wt.none rfl) rfl (Ew.aU 1 (m := l_2) (k := (Gpoint.mk c_10 c_11)) (v := (wI (((qf l_2 (Gpoint.mk c_10 c_11)).getD 0) + 1))) rfl rfl rfl rfl rfl) ?_; rintro _ _ ⟨rfl, rfl⟩; refine ⟨(fun w hw => hw.sub Sx), ?_⟩; refine TS.done ?_; refine K.ac (K.seq (T.region ?_)); refine TL.run 1 rfl ?_; refine TL.y (Yv.as (v := .int .i64 (wI (n_1 - 1))) rfl) ?_; refine TL.run 1 rfl ?_; refine TL.nil ?_; rw [← hn3] at hk; refine K.pick [1, 2, 3] rfl (by decide) ?_; exact K.next (m_4', wI (n_1 - 1), (qset l_2 (Gpoint.mk c_10 c_11) (wI (((qf l_2 (Gpoint.mk c_10 c_11)).getD 0) + 1)))) hk (by dsimp only; omega) (.c (.c (.c (.c (.c (.c (.c .nil))))))) (List.Sublist.refl _)
    · have p5 := of_decide_eq_false h5; replace hk := zab hk h5; refine T.exit (K.aa (K.aa (K.ae ?_))); obtain rfl := Option.some.inj hk; exact K.bA rfl (fun w' hw => ⟨⟨⟩, trivial, rfl, FxM.of (hw.pick (idx := [0, 2]) rfl (by decide)) hS0 (Frz.Le.refl _)⟩)
end Go.Proofs.YtlaafmiejkebgaaGreat
namespace Go.Proofs.YtlaafmiejkebgaaGreat
open Go.Shelf
def zgt : Go.Shelf.Ren := ⟨fun | 6 => 59 | 15 => 76 | 14 => 82 | 28 => 100 | 29 => 101 | 20 => 104 | 21 => 105 | 22 => 106 | 23 => 107 | 24 => 108 | 25 => 109 | 26 => 110 | 27 => 111 | 46 => 124 | 47 => 120 | 48 => 121 | 49 => 125 | 50 => 126 | 57 => 128 | n => n, fun | 22 => 110 | 24 => 81 | 25 => 112 | 3 => 3 | 39 => 109 | 0 => 0 | 53 => 141 | 55 => 97 | 4 => 4 | 46 => 149 | 45 => 148 | 50 => 153 | 5 => 5 | 9 => 9 | 66 => 170 | 70 => 173 | 76 => 177 | 77 => 178 | n => n, fun | n => n⟩
theorem zhc : Go.Proofs.SlLaysF0.n6 Tryz.prog zgt := {
  mixed := by kernel_rfl
  f6 := ⟨Tryz.f59.name, by decide, Tryz.func59.trans (congrArg some (by kernel_rfl))⟩
  f14 := ⟨Tryz.f82.name, by decide, Tryz.func82.trans (congrArg some (by kernel_rfl))⟩
  f15 := Tryz.func76.trans (congrArg some (by kernel_rfl))
  f20 := ⟨Tryz.f104.name, by decide, Tryz.func104.trans (congrArg some (by kernel_rfl))⟩
  f21 := ⟨Tryz.f105.name, by decide, Tryz.func105.trans (congrArg some (by kernel_rfl))⟩
  f22 := ⟨Tryz.f106.name, by decide, Tryz.func106.trans (congrArg some (by kernel_rfl))⟩
  f23 := ⟨Tryz.f107.name, by decide, Tryz.func107.trans (congrArg some (by kernel_rfl))⟩
  f24 := ⟨Tryz.f108.name, by decide, Tryz.func108.trans (congrArg some (by kernel_rfl))⟩
  f25 := ⟨Tryz.f109.name, by decide, Tryz.func109.trans (congrArg some (by kernel_rfl))⟩
  f26 := ⟨Tryz.f110.name, by decide, Tryz.func110.trans (congrArg some (by kernel_rfl))⟩
  f27 := ⟨Tryz.f111.name, by decide, Tryz.func111.trans (congrArg some (by kernel_rfl))⟩
  f28 := Tryz.func100.trans (congrArg some (by kernel_rfl))
  f29 := Tryz.func101.trans (congrArg some (by kernel_rfl))
  f46 := ⟨Tryz.f124.name, by decide, Tryz.func124.trans (congrArg some (by kernel_rfl))⟩
  f47 := Tryz.func120.trans (congrArg some (by kernel_rfl))
  f48 := Tryz.func121.trans (congrArg some (by kernel_rfl))
  f49 := ⟨Tryz.f125.name, by decide, Tryz.func125.trans (congrArg some (by kernel_rfl))⟩
  f50 := ⟨Tryz.f126.name, by decide, Tryz.func126.trans (congrArg some (by kernel_rfl))⟩
  f57 := ⟨Tryz.f128.name, by decide, Tryz.func128.trans (congrArg some (by kernel_rfl))⟩
  t0 := Tryz.underlying0
  a0 := Tryz.isAgg0
  z0 := Tryz.sizeOf0
  v0 := Tryz.zeroValue0
  t3 := Tryz.underlying3
  a3 := Tryz.isAgg3
  z3 := Tryz.sizeOf3
  v3 := Tryz.zeroValue3
  t4 := Tryz.underlying4
  a4 := Tryz.isAgg4
  z4 := Tryz.sizeOf4
  v4 := Tryz.zeroValue4
  t5 := Tryz.underlying5
  a5 := Tryz.isAgg5
  z5 := Tryz.sizeOf5
  v5 := Tryz.zeroValue5
  t9 := Tryz.underlying9
  a9 := Tryz.isAgg9
  z9 := Tryz.sizeOf9
  v9 := Tryz.zeroValue9
  t22 := Tryz.underlying110
  a22 := Tryz.isAgg110
  z22 := Tryz.sizeOf110
  v22 := Tryz.zeroValue110
  t25 := Tryz.underlying112
  a25 := Tryz.isAgg112
  z25 := Tryz.sizeOf112
  v25 := Tryz.zeroValue112
  t39 := Tryz.underlying109
  a39 := Tryz.isAgg109
  z39 := Tryz.sizeOf109
  v39 := Tryz.zeroValue109
  t45 := Tryz.underlying148
  a45 := Tryz.isAgg148
  z45 := Tryz.sizeOf148
  v45 := Tryz.zeroValue148
  t46 := Tryz.underlying149
  a46 := Tryz.isAgg149
  z46 := Tryz.sizeOf149
  v46 := Tryz.zeroValue149
  t50 := Tryz.underlying153
  a50 := Tryz.isAgg153
  z50 := Tryz.sizeOf153
  v50 := Tryz.zeroValue153
  t53 := Tryz.underlying141
  a53 := Tryz.isAgg141
  z53 := Tryz.sizeOf141
  v53 := Tryz.zeroValue141
  t55 := Tryz.underlying97
  a55 := Tryz.isAgg97
  z55 := Tryz.sizeOf97
  v55 := Tryz.zeroValue97
  t66 := Tryz.underlying170
  a66 := Tryz.isAgg170
  z66 := Tryz.sizeOf170
  v66 := Tryz.zeroValue170
  t70 := Tryz.underlying173
  a70 := Tryz.isAgg173
  z70 := Tryz.sizeOf173
  v70 := Tryz.zeroValue173
  t76 := Tryz.underlying177
  a76 := Tryz.isAgg177
  z76 := Tryz.sizeOf177
  v76 := Tryz.zeroValue177
  t77 := Tryz.underlying178
  a77 := Tryz.isAgg178
  z77 := Tryz.sizeOf178
  v77 := Tryz.zeroValue178 }
def zgQ : Go.Shelf.Ren := ⟨fun | 5 => 50 | 7 => 77 | n => n, fun | 22 => 3 | 3 => 3 | 4 => 4 | n => n, fun | n => n⟩
theorem zkE : Go.Proofs.SlLaysC2.n5 Tryz.prog zgQ := {
  mixed := by kernel_rfl
  f5 := ⟨Tryz.f50.name, by decide, Tryz.func50.trans (congrArg some (by kernel_rfl))⟩
  f7 := ⟨Tryz.f77.name, by decide, Tryz.func77.trans (congrArg some (by kernel_rfl))⟩
  t3 := Tryz.underlying3
  a3 := Tryz.isAgg3
  z3 := Tryz.sizeOf3
  v3 := Tryz.zeroValue3
  t4 := Tryz.underlying4
  a4 := Tryz.isAgg4
  z4 := Tryz.sizeOf4
  v4 := Tryz.zeroValue4
  t22 := Tryz.underlying3
  a22 := Tryz.isAgg3
  z22 := Tryz.sizeOf3
  v22 := Tryz.zeroValue3 }
end Go.Proofs.YtlaafmiejkebgaaGreat
namespace Go.Proofs.YtlaafmiejkebgaaGreat
open Go.RowKit Go.Sort
def GrowT (w : World) : Type := { w' : World // ∃ q os, w' = grow (w.drewN q) os }
instance (w : World) : Nonempty (GrowT w) := ⟨⟨w, 0, #[], by simp [World.drewN]⟩⟩
def orI (a b : Int) : Int := if a = 0 then b else a
theorem or2 (a b : Int) (g : Nat) (w : World) (h0 : w.cell? ⟨g, 0, none⟩ = some (.int .i64 a)) (h1 : w.cell? ⟨g, 1, none⟩ = some (.int .i64 b)) :
    Calls Tryz.prog 49 #[.slice (some ⟨g, 0, none⟩) 2 2] w fun e w' => e = .returned (.int .i64 (orI a b)) ∧ w' = w := by
  go_enter Tryz.func49, Tryz.ntmps49
  go_wp2_with fail
  go_loopg [8] 3 (fun m i wr => ∃ k : Nat, k ≤ 2 ∧ m = 3 - k ∧ i = .int .i64 k ∧ wr = w ∧ Hid (1 ≤ k → a = 0) ∧ Hid (2 ≤ k → b = 0))
  case atStart => exact ⟨0, by omega, rfl, rfl, rfl, Lib.hid (by first | trivial | (intro h; omega)), Lib.hid (by first | trivial | (intro h; omega))⟩
  case round =>
    obtain ⟨k, hk, rfl, rfl, rfl, hA, hB⟩ := hrel; (have hk3 : k = 0 ∨ k = 1 ∨ k = 2 := by omega); rcases hk3 with rfl | rfl | rfl
    · by_cases ha : a = 0
      · subst ha
        go_wp2_with fail
        go_roundg 2
        case measure => omega
        case rel => exact ⟨1, by omega, rfl, rfl, rfl, Lib.hid (by first | trivial | simp), Lib.hid (by first | trivial | (intro h; omega))⟩
      · go_wp2_with fail
        go_ret
        exact ⟨by rw [show orI a b = a from if_neg ha]; rfl, rfl⟩
    · have ha := hA.out (Nat.le_refl _); subst ha; by_cases hb : b = 0
      · subst hb
        go_wp2_with fail
        go_roundg 1
        case measure => omega
        case rel => exact ⟨2, by omega, rfl, rfl, rfl, Lib.hid (by first | trivial | simp), Lib.hid (by first | trivial | simp)⟩
      · go_wp2_with fail
        go_ret
        exact ⟨by rw [show orI 0 b = b from if_pos rfl]; rfl, rfl⟩
    · have ha := hA.out (by omega); have hb := hB.out (Nat.le_refl _); subst ha hb
      go_wp2_with fail
      go_ret
      exact ⟨rfl, rfl⟩
theorem or2M (a b : Int) (g : Nat) (w : World) (hg : g = w.heap.size) : Calls Tryz.prog 49 #[.slice (some ⟨g, 0, none⟩) 2 2] (w.alloc (.cells #[.int .i64 a, .int .i64 b] 3)) fun e w' => e = .returned (.int .i64 (orI a b)) ∧ (w.alloc (.cells #[.int .i64 a, .int .i64 b] 3)) = w' := by
  subst hg; refine (or2 a b w.heap.size (w.alloc (.cells #[.int .i64 a, .int .i64 b] 3)) ?_ ?_).mono fun e w' h => ⟨h.1, h.2.symm⟩
  · unfold World.cell?; rw [heap_alloc_new]; rfl
  · unfold World.cell?; rw [heap_alloc_new]; rfl
theorem zlI {w : World} {A B : Obj} {j : Nat} {v : Value} (h : (match A with | .cells c _ _ => c[j]? | _ => none) = some v) : ((w.alloc A).alloc B).drew.cell? ⟨w.heap.size, j, none⟩ = some v := by
  show ((w.alloc A).alloc B).cell? _ = _
  unfold World.cell?; rw [heap_alloc_old _ _ (by simp), heap_alloc_new]
  cases A <;> exact h
theorem zlW {w : World} {A B : Obj} {j : Nat} {v : Value} (h : (match B with | .cells c _ _ => c[j]? | _ => none) = some v) : ((w.alloc A).alloc B).drew.cell? ⟨w.heap.size + 1, j, none⟩ = some v := by
  show ((w.alloc A).alloc B).cell? _ = _
  unfold World.cell?; rw [show w.heap.size + 1 = (w.alloc A).heap.size by simp, heap_alloc_new]
  cases B <;> exact h
theorem grow3 (w : World) (A B C : Obj) : (((w.alloc A).alloc B).drew).alloc C = grow (w.drewN 1) #[A, B, C] := by
  have h : ((w.alloc A).alloc B).drew = grow (w.drewN 1) #[A, B] := by
    rw [alloc_eq_grow, alloc_eq_grow, grow_grow]; rfl
  rw [h, alloc_eq_grow, grow_grow]; rfl
theorem zk2 (a b c d : Int) (w : World) : Calls Tryz.prog 60 #[.agg #[.int .i64 a, .int .i64 b], .agg #[.int .i64 c, .int .i64 d]] w fun e w' => e = .returned (.int .i64 (orI (Lib.compareInt a c) (Lib.compareInt b d))) ∧ ∃ q os', w' = grow (w.drewN q) os' := by
  have hcon := fun x y W' => AnyG.cmp_Compare_int zkE x y W'; change ∀ x y W', Calls Tryz.prog 50 _ _ _ at hcon
  go_enter Tryz.func60, Tryz.ntmps60
  go_wp2_with fail
  refine wp_region_still_tail 10 (by kernel_rfl) (by kernel_rfl) ?_; simp only [List.take_succ_cons, List.take_zero, List.drop_succ_cons, List.drop_zero]; have hW : ∀ A B : Obj, ∃ w2 : World, w2 = ((w.alloc A).alloc B).drew := fun A B => ⟨_, rfl⟩; obtain ⟨w2, h2⟩ := hW (.cells #[.int .i64 a, .int .i64 b] 81) (.cells #[.int .i64 c, .int .i64 d] 81); (have k0 : w2.cell? ⟨w.heap.size, 0, none⟩ = some (.int .i64 a) := by rw [h2]; exact zlI (by rfl)); (have k1 : w2.cell? ⟨w.heap.size, 1, none⟩ = some (.int .i64 b) := by rw [h2]; exact zlI (by rfl)); (have k2 : w2.cell? ⟨w.heap.size + 1, 0, none⟩ = some (.int .i64 c) := by rw [h2]; exact zlW (by rfl)); (have k3 : w2.cell? ⟨w.heap.size + 1, 1, none⟩ = some (.int .i64 d) := by rw [h2]; exact zlW (by rfl)); (have hs2 : w2.heap.size = w.heap.size + 2 := by rw [h2]; simp [World.drew]); change wpStill _ _ ((w.alloc (.cells #[.int .i64 a, .int .i64 b] 81)).alloc (.cells #[.int .i64 c, .int .i64 d] 81)).drew _ _ _; rw [← h2]
  repeat (first | still_step | still_call (hcon _ _ _))
  refine wpStill_nil ?_; change wpList _ _ _ _ _ ((w.alloc (.cells #[.int .i64 a, .int .i64 b] 81)).alloc (.cells #[.int .i64 c, .int .i64 d] 81)).drew; rw [← h2]; clear k0 k1 k2 k3 hcon; have ho := or2M (Lib.compareInt a c) (Lib.compareInt b d) w2.heap.size w2 rfl; generalize e1 : Lib.compareInt a c = r1 at ho ⊢; generalize e2 : Lib.compareInt b d = r2 at ho ⊢; have E1 := Lib.hid e1; have E2 := Lib.hid e2; clear e1 e2; have H2 := Lib.hid h2; clear h2 hs2
  go_wp2_with (go_at_call 49; refine ho.mono ?_; rintro e w' ⟨rfl, rfl⟩)
  go_ret
  exact ⟨by rw [E1.out, E2.out]; rfl, 1, _, by rw [H2.out]; exact grow3 _ _ _ _⟩
end Go.Proofs.YtlaafmiejkebgaaGreat
