/- Ya Yo: shortened and put together by squeeze.py. -/
import Derived.Test.YtipomhejoajjdaaGreatQ02
set_option maxRecDepth 100000
set_option maxHeartbeats 4000000
set_option linter.unusedVariables false
set_option linter.unusedSectionVars false
set_option linter.unusedSimpArgs false
namespace Go.Proofs.YtipomhejoajjdaaGreat
open Go.RowKit
structure GDomain where
  Station : Int
  Channels : List Int
deriving DecidableEq, Inhabited
def GDomain.rep (F : Frz) (c : List Value) (x : GDomain) : Prop := ∃ (v1 : Value), c = [.int .i64 x.Station, v1] ∧ SlC F v1 1 (x.Channels.map eI)
theorem GDomain.mono {F G : Frz} {c : List Value} {x : GDomain} (hle : F.Le G) (h : GDomain.rep F c x) : GDomain.rep G c x := by
  obtain ⟨v1, h0, h2⟩ := h; exact ⟨v1, h0, h2.mono hle⟩
theorem GDomain.len {F : Frz} {c : List Value} {x : GDomain} (h : GDomain.rep F c x) : c.length = 2 := by
  obtain ⟨v1, h0, h2⟩ := h; subst h0; rfl
theorem GDomain.one {F : Frz} {c : List Value} {x : GDomain} (h : GDomain.rep F c x) : OneCs c := by
  obtain ⟨v1, h0, h2⟩ := h; subst h0; haveI := h2.oneC
  infer_instance
theorem GDomain.c0 {F : Frz} {c : List Value} {x : GDomain} (h : GDomain.rep F c x) : c[0]? = some (.int .i64 x.Station) := by
  obtain ⟨v1, h0, h2⟩ := h; subst h0; rfl
theorem GDomain.c1 {F : Frz} {c : List Value} {x : GDomain} (h : GDomain.rep F c x) : c[1]? = some (nth c 1) ∧ SlC F (nth c 1) 1 (x.Channels.map eI) := by
  obtain ⟨v1, h0, h2⟩ := h; subst h0; exact ⟨rfl, h2⟩
theorem GDomain.form {F : Frz} {c : List Value} {x : GDomain} (h : GDomain.rep F c x) : (c.drop 0).take 2 = [.int .i64 x.Station, nth c 1] := by
  obtain ⟨v1, h0, h2⟩ := h; subst h0; rfl
structure GPair where
  A : Int
  B : Int
  Offset : Int
  Low : Int
  High : Int
deriving DecidableEq, Inhabited
abbrev GPair.enc (x : GPair) : List Value := [.int .i64 x.A, .int .i64 x.B, .int .i64 x.Offset, .int .i64 x.Low, .int .i64 x.High]
theorem GPair.len (x : GPair) : (GPair.enc x).length = 5 := rfl
structure GLoad where
  To : Int
  From : Int
  Weight : Int
  Low : Int
  High : Int
deriving DecidableEq, Inhabited
abbrev GLoad.enc (x : GLoad) : List Value := [.int .i64 x.To, .int .i64 x.From, .int .i64 x.Weight, .int .i64 x.Low, .int .i64 x.High]
theorem GLoad.len (x : GLoad) : (GLoad.enc x).length = 5 := rfl
structure GCap where
  Station : Int
  Max : Int
  Low : Int
  High : Int
deriving DecidableEq, Inhabited
abbrev GCap.enc (x : GCap) : List Value := [.int .i64 x.Station, .int .i64 x.Max, .int .i64 x.Low, .int .i64 x.High]
theorem GCap.len (x : GCap) : (GCap.enc x).length = 4 := rfl
structure GRules where
  Pairs : List GPair
  Loads : List GLoad
  Caps : List GCap
deriving DecidableEq, Inhabited
def GRules.rep (F : Frz) (c : List Value) (x : GRules) : Prop := ∃ (v0 : Value) (v1 : Value) (v2 : Value), c = [v0, v1, v2] ∧ SlC F v0 5 (x.Pairs.map GPair.enc) ∧ SlC F v1 5 (x.Loads.map GLoad.enc) ∧ SlC F v2 4 (x.Caps.map GCap.enc)
theorem GRules.mono {F G : Frz} {c : List Value} {x : GRules} (hle : F.Le G) (h : GRules.rep F c x) : GRules.rep G c x := by
  obtain ⟨v0, v1, v2, h0, h1, h2, h3⟩ := h; exact ⟨v0, v1, v2, h0, h1.mono hle, h2.mono hle, h3.mono hle⟩
theorem GRules.len {F : Frz} {c : List Value} {x : GRules} (h : GRules.rep F c x) : c.length = 3 := by
  obtain ⟨v0, v1, v2, h0, h1, h2, h3⟩ := h; subst h0; rfl
theorem GRules.one {F : Frz} {c : List Value} {x : GRules} (h : GRules.rep F c x) : OneCs c := by
  obtain ⟨v0, v1, v2, h0, h1, h2, h3⟩ := h; subst h0; haveI := h1.oneC; haveI := h2.oneC; haveI := h3.oneC
  infer_instance
theorem GRules.c0 {F : Frz} {c : List Value} {x : GRules} (h : GRules.rep F c x) : c[0]? = some (nth c 0) ∧ SlC F (nth c 0) 5 (x.Pairs.map GPair.enc) := by
  obtain ⟨v0, v1, v2, h0, h1, h2, h3⟩ := h; subst h0; exact ⟨rfl, h1⟩
theorem GRules.c1 {F : Frz} {c : List Value} {x : GRules} (h : GRules.rep F c x) : c[1]? = some (nth c 1) ∧ SlC F (nth c 1) 5 (x.Loads.map GLoad.enc) := by
  obtain ⟨v0, v1, v2, h0, h1, h2, h3⟩ := h; subst h0; exact ⟨rfl, h2⟩
theorem GRules.c2 {F : Frz} {c : List Value} {x : GRules} (h : GRules.rep F c x) : c[2]? = some (nth c 2) ∧ SlC F (nth c 2) 4 (x.Caps.map GCap.enc) := by
  obtain ⟨v0, v1, v2, h0, h1, h2, h3⟩ := h; subst h0; exact ⟨rfl, h3⟩
theorem GRules.form {F : Frz} {c : List Value} {x : GRules} (h : GRules.rep F c x) : (c.drop 0).take 3 = [nth c 0, nth c 1, nth c 2] := by
  obtain ⟨v0, v1, v2, h0, h1, h2, h3⟩ := h; subst h0; rfl
structure GProblem where
  Domains : List GDomain
  Rules : GRules
deriving DecidableEq, Inhabited
def GProblem.rep (F : Frz) (c : List Value) (x : GProblem) : Prop := ∃ (v0 : Value) (cs0 : List (List Value)) (v1 : Value) (v2 : Value) (v3 : Value), c = [v0, v1, v2, v3] ∧ SlD GDomain.rep F v0 2 cs0 x.Domains ∧ SlC F v1 5 (x.Rules.Pairs.map GPair.enc) ∧ SlC F v2 5 (x.Rules.Loads.map GLoad.enc) ∧ SlC F v3 4 (x.Rules.Caps.map GCap.enc)
theorem GProblem.mono {F G : Frz} {c : List Value} {x : GProblem} (hle : F.Le G) (h : GProblem.rep F c x) : GProblem.rep G c x := by
  obtain ⟨v0, cs0, v1, v2, v3, h0, h1, h2, h3, h4⟩ := h; exact ⟨v0, cs0, v1, v2, v3, h0, SlD.mono (rep := GDomain.rep) (fun _ _ _ _ => GDomain.mono) h1 hle, h2.mono hle, h3.mono hle, h4.mono hle⟩
theorem GProblem.len {F : Frz} {c : List Value} {x : GProblem} (h : GProblem.rep F c x) : c.length = 4 := by
  obtain ⟨v0, cs0, v1, v2, v3, h0, h1, h2, h3, h4⟩ := h; subst h0; rfl
theorem GProblem.one {F : Frz} {c : List Value} {x : GProblem} (h : GProblem.rep F c x) : OneCs c := by
  obtain ⟨v0, cs0, v1, v2, v3, h0, h1, h2, h3, h4⟩ := h; subst h0; haveI := h1.1.oneC; haveI := h2.oneC; haveI := h3.oneC; haveI := h4.oneC
  infer_instance
theorem GProblem.c0 {F : Frz} {c : List Value} {x : GProblem} (h : GProblem.rep F c x) : c[0]? = some (nth c 0) ∧ ∃ cs, SlD GDomain.rep F (nth c 0) 2 cs x.Domains := by
  obtain ⟨v0, cs0, v1, v2, v3, h0, h1, h2, h3, h4⟩ := h; subst h0; exact ⟨rfl, cs0, h1⟩
theorem GProblem.c1 {F : Frz} {c : List Value} {x : GProblem} (h : GProblem.rep F c x) : c[1]? = some (nth c 1) ∧ SlC F (nth c 1) 5 (x.Rules.Pairs.map GPair.enc) := by
  obtain ⟨v0, cs0, v1, v2, v3, h0, h1, h2, h3, h4⟩ := h; subst h0; exact ⟨rfl, h2⟩
theorem GProblem.c2 {F : Frz} {c : List Value} {x : GProblem} (h : GProblem.rep F c x) : c[2]? = some (nth c 2) ∧ SlC F (nth c 2) 5 (x.Rules.Loads.map GLoad.enc) := by
  obtain ⟨v0, cs0, v1, v2, v3, h0, h1, h2, h3, h4⟩ := h; subst h0; exact ⟨rfl, h3⟩
theorem GProblem.c3 {F : Frz} {c : List Value} {x : GProblem} (h : GProblem.rep F c x) : c[3]? = some (nth c 3) ∧ SlC F (nth c 3) 4 (x.Rules.Caps.map GCap.enc) := by
  obtain ⟨v0, cs0, v1, v2, v3, h0, h1, h2, h3, h4⟩ := h; subst h0; exact ⟨rfl, h4⟩
theorem GProblem.form {F : Frz} {c : List Value} {x : GProblem} (h : GProblem.rep F c x) : (c.drop 0).take 4 = [nth c 0, nth c 1, nth c 2, nth c 3] := by
  obtain ⟨v0, cs0, v1, v2, v3, h0, h1, h2, h3, h4⟩ := h; subst h0; rfl
structure GChoice where
  Station : Int
  Channel : Int
deriving DecidableEq, Inhabited
abbrev GChoice.enc (x : GChoice) : List Value := [.int .i64 x.Station, .int .i64 x.Channel]
theorem GChoice.len (x : GChoice) : (GChoice.enc x).length = 2 := rfl
def zda (fuel : Nat) (p : GProblem) (domains : Int) (rules : Int) : Option Bool :=
  zaH (fun (_ : Unit) =>
    some ((((decide ((p.Domains.length : Int) ≤ domains)) && (decide ((p.Rules.Pairs.length : Int) ≤ rules))) && (decide ((p.Rules.Loads.length : Int) ≤ rules))) && (decide ((p.Rules.Caps.length : Int) ≤ rules))))
  (fun k1 =>
    zcx (fun (next3 : Int → Option Bool) (i_2 : Int) =>
      (bif ((decide (i_2 < (p.Domains.length : Int))) && (decide (i_2 < 600))) then
        grd (0 ≤ i_2 ∧ i_2 < (p.Domains.length : Int)) <|
        (bif decide (60 < (((nth p.Domains i_2.toNat).Channels).length : Int)) then
          some false
          else
          next3 (i_2 + 1))
        else
        k1 ())) fuel 0)
theorem zgo (F0 : Frz) (w : World) (hF0 : F0.At w) (p : GProblem) (vp_0 : Value) (cp_0 : List (List Value)) (hp_0 : SlD GDomain.rep F0 vp_0 2 cp_0 p.Domains) (vp_1 : Value) (hp_1 : SlC F0 vp_1 5 (p.Rules.Pairs.map GPair.enc)) (vp_2 : Value) (hp_2 : SlC F0 vp_2 5 (p.Rules.Loads.map GLoad.enc)) (vp_3 : Value) (hp_3 : SlC F0 vp_3 4 (p.Rules.Caps.map GCap.enc)) (domains : Int) (rules : Int) (fuel : Nat) (r : Bool) (hr : zda fuel p domains rules = some r) : Calls Tryz.prog 9 #[.agg [vp_0, vp_1, vp_2, vp_3].toArray, .int .i64 domains, .int .i64 rules] w fun e w' => e = .returned (.bool r) ∧ Below w.heap.size w w' := by
  have hk := hr; unfold zda at hk; haveI := hp_0.1.oneC; haveI := hp_1.oneC; haveI := hp_2.oneC; haveI := hp_3.oneC; obtain ⟨S0, F1, rfl, hS0, hp0⟩ := zal hF0; refine zam Tryz.func9 rfl rfl rfl hp0 ?_; refine T.sr ?_; refine TL.e (Ew.aA rfl rfl) ?_; rintro _ _ ⟨g3, rfl, rfl⟩; refine TL.run 1 rfl ?_; refine TL.ns (T.seq (T.sr ?_)); refine TL.run 1 rfl ?_; refine TL.ns ?_; have hq := zaf hk; clear hk; obtain ⟨k1, hk1, hk⟩ := hq; (try dsimp only at hk); refine T.af (ι := Unit) (fun z => [(1, .int .i64 domains), (2, .int .i64 rules), (3, .pointer (some ⟨g3, 0, none⟩))]) (fun z => [.row g3 29 [vp_0, vp_1, vp_2, vp_3], .fr F1]) (fun z => k1 () = some r) ?_ ?_
  · have hq := zdf hk; clear hk; obtain ⟨f3, hf3, hk⟩ := hq; refine T.block ?_; refine T.loop (ι := Nat × Int) (fun z => [(1, .int .i64 domains), (2, .int .i64 rules), (3, .pointer (some ⟨g3, 0, none⟩)), (7, .int .i64 z.2)]) (fun z => [.row g3 29 [vp_0, vp_1, vp_2, vp_3], .fr F1]) (fun z => zcx f3 z.1 z.2 = some r) (fun z => z.1) (fuel, 0) ?_ ?_ ?_ ?_
    · exact hk
    · exact (.c (.c (.c (.c .nil))))
    · exact List.Sublist.refl _
    · rintro ⟨m_4, i_2⟩ hk; (try dsimp only at *); have hq := zdz hk; clear hk; obtain ⟨m_4', rfl, hk⟩ := hq; generalize hn3 : zcx f3 m_4' = next3 at hk; rw [← hf3] at hk; (try dsimp only at hk); refine T.seq (T.seq ?_); refine T.af (ι := Unit) (fun z => [(1, .int .i64 domains), (2, .int .i64 rules), (3, .pointer (some ⟨g3, 0, none⟩)), (7, .int .i64 i_2), (16, .bool ((decide (i_2 < (p.Domains.length : Int))) && (decide (i_2 < 600))))]) (fun z => [.row g3 29 [vp_0, vp_1, vp_2, vp_3], .fr F1]) (fun z => True) ?_ ?_
      · refine T.region ?_; refine TL.run 1 rfl ?_; refine TL.y (Yv.fieldAddr rfl rfl) ?_; refine TL.y (Yv.aa 0 rfl rfl rfl rfl) ?_; refine TL.y (Yv.an rfl rfl hp_0.1 hp_0.2.1) ?_; have hm11 : p.Domains.length ≤ 9223372036854775807 := hp_0.2.1 ▸ hp_0.1.max; refine TL.run 2 rfl ?_; refine TL.gs rfl rfl rfl (fun h5 => ?_) (fun h5 => ?_)
        · have p5 := of_decide_eq_true h5; refine TL.run 3 rfl ?_; refine TL.nil ?_; exact K.ai () trivial (.c (.c (.c (.c (.b (zdE h5) .nil))))) (List.Sublist.refl _)
        · have p5 := of_decide_eq_false h5; refine TL.run 3 rfl ?_; refine TL.nil ?_; exact K.ai () trivial (.c (.c (.c (.c (.b (zaG h5).symm .nil))))) (List.Sublist.refl _)
      · rintro _ _; have hm11 : p.Domains.length ≤ 9223372036854775807 := hp_0.2.1 ▸ hp_0.1.max; refine T.cond rfl (fun h6 => ?_) (fun h6 => ?_)
        · have p6 := h6; (try simp only [nfB] at p6); replace hk := zac hk h6; refine T.skip (K.seq (T.seq (T.block (T.seq ?_)))); have hq : (0 ≤ i_2 ∧ i_2 < (p.Domains.length : Int)) ∧ _ := zaj hk; clear hk; obtain ⟨g22, hk⟩ := hq; (try dsimp only at hk); refine T.region ?_; refine TL.y (Yv.fieldAddr rfl rfl) ?_; refine TL.y (Yv.aa 0 rfl rfl rfl rfl) ?_; refine TL.run 1 rfl ?_; refine TL.y (Yv.al (i := i_2.toNat) rfl rfl rfl hp_0.1 hp_0.2.1 (by omega) (by omega)) ?_; refine TL.y (Yv.aI rfl rfl hp_0.1 hp_0.2.1 (by omega)) ?_; refine TL.y (Yv.loadR 1 (i := i_2.toNat) (j := 1) rfl rfl rfl hp_0.1 hp_0.2.1 (by omega) rfl (GDomain.c1 (hp_0.2.2 i_2.toNat (by omega))).1) ?_; have hd24_1 := (GDomain.c1 (hp_0.2.2 i_2.toNat (by omega))).2; haveI := hd24_1.oneC; refine TL.y (Yv.an rfl rfl hd24_1 (List.length_map _)) ?_; have hm25 : ((nth p.Domains i_2.toNat).Channels).length ≤ 9223372036854775807 := (List.length_map _) ▸ hd24_1.max; refine TL.run 1 rfl ?_; refine TL.ns ?_; refine T.cond rfl (fun h7 => ?_) (fun h7 => ?_)
          · have p7 := of_decide_eq_true h7; replace hk := zac hk h7; refine T.sr ?_; refine TL.run 1 rfl ?_; refine TL.ns (T.ret (K.ae (K.then_ret (K.then_ret (K.ae (K.then_ret ?_)))))); obtain rfl := Option.some.inj hk; exact K.aj rfl rfl (fun w' hw => ⟨rfl, hw.isBelow⟩)
          · have p7 := of_decide_eq_false h7; replace hk := zab hk h7; refine T.skip (K.ac (K.seq (T.region ?_))); refine TL.run 1 rfl ?_; refine TL.y (Yv.ao rfl rfl rfl (by omega)) ?_; refine TL.run 1 rfl ?_; refine TL.nil ?_; rw [← hn3] at hk; exact K.next (m_4', (i_2 + 1)) hk (by dsimp only; omega) (.c (.c (.c (.c .nil)))) (List.Sublist.refl _)
        · replace hk := zab hk h6; refine T.exit (K.ab (K.ab (K.ad ?_))); exact K.ai () hk (.c (.c (.c .nil))) (List.Sublist.refl _)
  · rintro _ hk; rw [← hk1] at hk; (try dsimp only at hk); refine T.seq ?_; refine T.af (ι := Unit) (fun z => [(6, .bool ((((decide ((p.Domains.length : Int) ≤ domains)) && (decide ((p.Rules.Pairs.length : Int) ≤ rules))) && (decide ((p.Rules.Loads.length : Int) ≤ rules))) && (decide ((p.Rules.Caps.length : Int) ≤ rules))))]) (fun z => [.row g3 29 [vp_0, vp_1, vp_2, vp_3], .fr F1]) (fun z => True) ?_ ?_
    · refine T.region ?_; refine TL.y (Yv.fieldAddr rfl rfl) ?_; refine TL.y (Yv.aa 0 rfl rfl rfl rfl) ?_; refine TL.y (Yv.an rfl rfl hp_0.1 hp_0.2.1) ?_; have hm29 : p.Domains.length ≤ 9223372036854775807 := hp_0.2.1 ▸ hp_0.1.max; refine TL.run 3 rfl ?_; refine TL.gs rfl rfl rfl (fun h8 => ?_) (fun h8 => ?_)
      · have p8 := of_decide_eq_true h8; refine TL.y (Yv.fieldAddr rfl rfl) ?_; refine TL.y (Yv.fieldAddr rfl rfl) ?_; refine TL.y (Yv.aa 0 rfl rfl rfl rfl) ?_; refine TL.y (Yv.an rfl rfl hp_1 (List.length_map _)) ?_; have hm36 : p.Rules.Pairs.length ≤ 9223372036854775807 := (List.length_map _) ▸ hp_1.max; refine TL.run 4 rfl ?_; refine TL.gs rfl rfl rfl (fun h9 => ?_) (fun h9 => ?_)
        · have p9 := of_decide_eq_true h9; refine TL.y (Yv.fieldAddr rfl rfl) ?_; refine TL.y (Yv.fieldAddr rfl rfl) ?_; refine TL.y (Yv.aa 0 rfl rfl rfl rfl) ?_; refine TL.y (Yv.an rfl rfl hp_2 (List.length_map _)) ?_; have hm44 : p.Rules.Loads.length ≤ 9223372036854775807 := (List.length_map _) ▸ hp_2.max; refine TL.run 4 rfl ?_; refine TL.gs rfl rfl rfl (fun h10 => ?_) (fun h10 => ?_)
          · have p10 := of_decide_eq_true h10; refine TL.y (Yv.fieldAddr rfl rfl) ?_; refine TL.y (Yv.fieldAddr rfl rfl) ?_; refine TL.y (Yv.aa 0 rfl rfl rfl rfl) ?_; refine TL.y (Yv.an rfl rfl hp_3 (List.length_map _)) ?_; have hm52 : p.Rules.Caps.length ≤ 9223372036854775807 := (List.length_map _) ▸ hp_3.max; refine TL.run 4 rfl ?_; refine TL.nil ?_; exact K.ai () trivial (.b (zdE (zaX (zaX h8 h9) h10)) .nil) (List.Sublist.refl _)
          · have p10 := of_decide_eq_false h10; refine TL.run 8 rfl ?_; refine TL.nil ?_; exact K.ai () trivial (.b (zaG (zaX (zaX h8 h9) h10)).symm .nil) (List.Sublist.refl _)
        · have p9 := of_decide_eq_false h9; refine TL.run 16 rfl ?_; refine TL.nil ?_; exact K.ai () trivial (.b (zaG (zaG (zaX h8 h9))).symm .nil) (List.Sublist.refl _)
      · have p8 := of_decide_eq_false h8; refine TL.run 24 rfl ?_; refine TL.nil ?_; exact K.ai () trivial (.b (zaG (zaG (zaG h8))).symm .nil) (List.Sublist.refl _)
    · rintro _ _; have hm29 : p.Domains.length ≤ 9223372036854775807 := hp_0.2.1 ▸ hp_0.1.max; have hm36 : p.Rules.Pairs.length ≤ 9223372036854775807 := (List.length_map _) ▸ hp_1.max; have hm44 : p.Rules.Loads.length ≤ 9223372036854775807 := (List.length_map _) ▸ hp_2.max; have hm52 : p.Rules.Caps.length ≤ 9223372036854775807 := (List.length_map _) ▸ hp_3.max; refine T.ret ?_; obtain rfl := Option.some.inj hk; exact K.aj rfl rfl (fun w' hw => ⟨rfl, hw.isBelow⟩)
def zbv (n : Int) : Bool :=
  ((decide (0 ≤ n)) && (decide (n ≤ 511)))
theorem zcj (F0 : Frz) (w : World) (hF0 : F0.At w) (n : Int) : Calls Tryz.prog 39 #[.int .i64 n] w fun e w' => e = .returned (.bool (zbv n)) ∧ Below w.heap.size w w' := by
  obtain ⟨r, hk⟩ : ∃ r, zbv n = r := ⟨_, rfl⟩; rw [hk]; unfold zbv at hk; obtain ⟨S0, F1, rfl, hS0, hp0⟩ := zal hF0; refine zam Tryz.func39 rfl rfl rfl hp0 ?_; refine T.sr ?_; refine TL.run 1 rfl ?_; refine TL.ns (T.seq ?_); refine T.af (ι := Unit) (fun z => [(2, .bool ((decide (0 ≤ n)) && (decide (n ≤ 511))))]) (fun z => [.fr F1]) (fun z => True) ?_ ?_
  · refine T.region ?_; refine TL.run 3 rfl ?_; refine TL.gs rfl rfl rfl (fun h1 => ?_) (fun h1 => ?_)
    · have p1 := of_decide_eq_true h1; refine TL.run 4 rfl ?_; refine TL.nil ?_; exact K.ai () trivial (.b (zdE h1) .nil) (List.Sublist.refl _)
    · have p1 := of_decide_eq_false h1; refine TL.run 4 rfl ?_; refine TL.nil ?_; exact K.ai () trivial (.b (zaG h1).symm .nil) (List.Sublist.refl _)
  · rintro _ _; refine T.ret ?_; subst hk; exact K.aj rfl rfl (fun w' hw => ⟨rfl, hw.isBelow⟩)
def zbw (a : List Int) (b : List Int) : Bool :=
  (bif decide (¬ (a.length : Int) = (b.length : Int)) then
    false
    else
    zaH (fun (_ : Unit) =>
      true)
    (fun k2 =>
      zag (fun (i_4 : Nat) (next3 : Unit → Bool) (_ : Unit) =>
        (bif decide (¬ (nth a i_4) = (nth b i_4)) then
          false
          else
          next3 ()))
      (fun (_ : Unit) =>
        k2 ()) (a.length - 0) 0 ()))
theorem zd4 (F0 : Frz) (w : World) (hF0 : F0.At w) (a : List Int) (va : Value) (ha : SlC F0 va 1 (a.map eI)) (b : List Int) (vb : Value) (hb : SlC F0 vb 1 (b.map eI)) : Calls Tryz.prog 19 #[va, vb] w fun e w' => e = .returned (.bool (zbw a b)) ∧ Below w.heap.size w w' := by
  obtain ⟨r, hk⟩ : ∃ r, zbw a b = r := ⟨_, rfl⟩; rw [hk]; unfold zbw at hk; haveI := ha.oneC; haveI := hb.oneC; obtain ⟨S0, F1, rfl, hS0, hp0⟩ := zal hF0; refine zam Tryz.func19 rfl rfl rfl hp0 ?_; refine T.sr ?_; refine TL.run 1 rfl ?_; refine TL.ns (T.seq (T.sr ?_)); refine TL.run 1 rfl ?_; refine TL.y (Yv.an rfl rfl ha (List.length_map _)) ?_; have hm7 : a.length ≤ 9223372036854775807 := (List.length_map _) ▸ ha.max; refine TL.run 1 rfl ?_; refine TL.y (Yv.an rfl rfl hb (List.length_map _)) ?_; have hm9 : b.length ≤ 9223372036854775807 := (List.length_map _) ▸ hb.max; refine TL.run 1 rfl ?_; refine TL.ns ?_; refine T.cond rfl (fun h1 => ?_) (fun h1 => ?_)
  · have p1 := of_decide_eq_true h1; replace hk := zac hk h1; refine T.sr ?_; refine TL.run 1 rfl ?_; refine TL.ns (T.ret (K.then_ret ?_)); subst hk; exact K.aj rfl rfl (fun w' hw => ⟨rfl, hw.isBelow⟩)
  · have p1 := of_decide_eq_false h1; replace hk := zab hk h1; refine T.skip (K.seq (T.seq (T.sr ?_))); refine TL.run 1 rfl ?_; refine TL.ns ?_; have hq := zaf hk; clear hk; obtain ⟨k2, hk2, hk⟩ := hq; (try dsimp only at hk); refine T.af (ι := Unit) (fun z => []) (fun z => [.fr F1]) (fun z => k2 () = r) ?_ ?_
    · have hq := zah hk; clear hk; obtain ⟨f3, kk3, hf3, hkk3, hk⟩ := hq; refine T.block ?_; refine T.loop (ι := Nat) (fun z => [(0, va), (1, vb), (5, .int .i64 (z : Int))]) (fun z => [.fr F1]) (fun z => zag f3 kk3 (a.length - z) z () = r) (fun z => a.length - z) 0 ?_ ?_ ?_ ?_
      · exact hk
      · exact (.c (.c (.c .nil)))
      · exact List.Sublist.refl _
      · rintro i_4 hk; refine T.seq (T.sr ?_); refine TL.run 2 rfl ?_; refine TL.y (Yv.an rfl rfl ha (List.length_map _)) ?_; refine TL.run 1 rfl ?_; refine TL.ns ?_; refine T.cond rfl (fun h5 => ?_) (fun h5 => ?_)
        · have p5 := of_decide_eq_true h5; rw [zas (by omega)] at hk; generalize hn3 : zag f3 kk3 (a.length - (i_4 + 1)) (i_4 + 1) = next3 at hk; rw [← hf3] at hk; (try dsimp only at hk); refine T.skip (K.seq (T.seq (T.block (T.seq ?_)))); refine T.ax (.still 0 (.still 1 (.still 2 (.still 3 (.still 4 (.still 5 (.still 6 (.still 7 (.still 8 .done))))))))) _ (by kernel_rfl) (List.Sublist.refl _) ?_; refine TS.run 2 rfl ?_; refine TS.y rfl (Yv.al (i := i_4) rfl rfl rfl ha (List.length_map _) rfl (by omega)) ?_; refine TS.y rfl (Yv.as 0 (i := i_4) (j := 0) rfl rfl rfl ha (by omega) rfl rfl) ?_; refine TS.run 2 rfl ?_; refine TS.y rfl (Yv.al (i := i_4) rfl rfl rfl hb (List.length_map _) rfl (by omega)) ?_; refine TS.y rfl (Yv.as 0 (i := i_4) (j := 0) rfl rfl rfl hb (by omega) rfl rfl) ?_; refine TS.run 1 rfl ?_; refine TS.done ?_; refine K.seq ?_; refine T.cond rfl (fun h6 => ?_) (fun h6 => ?_)
          · have p6 := of_decide_eq_true h6; replace hk := zac hk h6; refine T.sr ?_; refine TL.run 1 rfl ?_; refine TL.ns (T.ret (K.ae (K.then_ret (K.then_ret (K.ae (K.then_ret ?_)))))); subst hk; exact K.aj rfl rfl (fun w' hw => ⟨rfl, hw.isBelow⟩)
          · have p6 := of_decide_eq_false h6; replace hk := zab hk h6; refine T.skip (K.ac (K.seq (T.region ?_))); refine TL.run 1 rfl ?_; refine TL.y (Yv.ao rfl rfl rfl (by omega)) ?_; refine TL.run 1 rfl ?_; refine TL.nil ?_; rw [← hn3] at hk; exact K.next (i_4 + 1) hk (by omega) (.c (.c (.c .nil))) (List.Sublist.refl _)
        · have p5 := of_decide_eq_false h5; rw [zar (by omega), ← hkk3] at hk; (try dsimp only at hk); refine T.exit (K.ab (K.ab (K.ad ?_))); exact K.ai () hk .nil (List.Sublist.refl _)
    · rintro _ hk; rw [← hk2] at hk; (try dsimp only at hk); refine T.sr ?_; refine TL.run 1 rfl ?_; refine TL.ns (T.ret ?_); subst hk; exact K.aj rfl rfl (fun w' hw => ⟨rfl, hw.isBelow⟩)
def zbN (a : List GDomain) (b : List GDomain) : Bool :=
  (bif decide (¬ (a.length : Int) = (b.length : Int)) then
    false
    else
    zaH (fun (_ : Unit) =>
      true)
    (fun k2 =>
      zag (fun (i_4 : Nat) (next3 : Unit → Bool) (_ : Unit) =>
        (bif ((decide (¬ (nth a i_4).Station = (nth b i_4).Station)) || (!(zbw ((nth a i_4).Channels) ((nth b i_4).Channels)))) then
          false
          else
          next3 ()))
      (fun (_ : Unit) =>
        k2 ()) (a.length - 0) 0 ()))
theorem zeD (F0 : Frz) (w : World) (hF0 : F0.At w) (a : List GDomain) (va : Value) (ca : List (List Value)) (ha : SlD GDomain.rep F0 va 2 ca a) (b : List GDomain) (vb : Value) (cb : List (List Value)) (hb : SlD GDomain.rep F0 vb 2 cb b) : Calls Tryz.prog 51 #[va, vb] w fun e w' => e = .returned (.bool (zbN a b)) ∧ Below w.heap.size w w' := by
  obtain ⟨r, hk⟩ : ∃ r, zbN a b = r := ⟨_, rfl⟩; rw [hk]; unfold zbN at hk; haveI := ha.1.oneC; haveI := hb.1.oneC; obtain ⟨S0, F1, rfl, hS0, hp0⟩ := zal hF0; refine zam Tryz.func51 rfl rfl rfl hp0 ?_; refine T.sr ?_; refine TL.run 1 rfl ?_; refine TL.ns (T.seq (T.sr ?_)); refine TL.run 1 rfl ?_; refine TL.y (Yv.an rfl rfl ha.1 ha.2.1) ?_; have hm7 : a.length ≤ 9223372036854775807 := ha.2.1 ▸ ha.1.max; refine TL.run 1 rfl ?_; refine TL.y (Yv.an rfl rfl hb.1 hb.2.1) ?_; have hm9 : b.length ≤ 9223372036854775807 := hb.2.1 ▸ hb.1.max; refine TL.run 1 rfl ?_; refine TL.ns ?_; refine T.cond rfl (fun h1 => ?_) (fun h1 => ?_)
  · have p1 := of_decide_eq_true h1; replace hk := zac hk h1; refine T.sr ?_; refine TL.run 1 rfl ?_; refine TL.ns (T.ret (K.then_ret ?_)); subst hk; exact K.aj rfl rfl (fun w' hw => ⟨rfl, hw.isBelow⟩)
  · have p1 := of_decide_eq_false h1; replace hk := zab hk h1; refine T.skip (K.seq (T.seq (T.sr ?_))); refine TL.run 1 rfl ?_; refine TL.ns ?_; have hq := zaf hk; clear hk; obtain ⟨k2, hk2, hk⟩ := hq; (try dsimp only at hk); refine T.af (ι := Unit) (fun z => []) (fun z => [.fr F1]) (fun z => k2 () = r) ?_ ?_
    · have hq := zah hk; clear hk; obtain ⟨f3, kk3, hf3, hkk3, hk⟩ := hq; refine T.block ?_; refine T.loop (ι := Nat) (fun z => [(0, va), (1, vb), (5, .int .i64 (z : Int))]) (fun z => [.fr F1]) (fun z => zag f3 kk3 (a.length - z) z () = r) (fun z => a.length - z) 0 ?_ ?_ ?_ ?_
      · exact hk
      · exact (.c (.c (.c .nil)))
      · exact List.Sublist.refl _
      · rintro i_4 hk; refine T.seq (T.sr ?_); refine TL.run 2 rfl ?_; refine TL.y (Yv.an rfl rfl ha.1 ha.2.1) ?_; refine TL.run 1 rfl ?_; refine TL.ns ?_; refine T.cond rfl (fun h5 => ?_) (fun h5 => ?_)
        · have p5 := of_decide_eq_true h5; rw [zas (by omega)] at hk; generalize hn3 : zag f3 kk3 (a.length - (i_4 + 1)) (i_4 + 1) = next3 at hk; rw [← hf3] at hk; (try dsimp only at hk); refine T.skip (K.seq (T.seq (T.block (T.seq ?_)))); refine T.af (ι := Unit) (fun z => [(0, va), (1, vb), (5, .int .i64 (i_4 : Int)), (41, .bool ((decide (¬ (nth a i_4).Station = (nth b i_4).Station)) || (!(zbw ((nth a i_4).Channels) ((nth b i_4).Channels)))))]) (fun z => [.fr F1]) (fun z => True) ?_ ?_
          · refine T.ax (.still 0 (.still 1 (.still 2 (.still 3 (.still 4 (.still 5 (.still 6 (.still 7 (.still 8 (.still 9 (.still 10 (.still 11 (.still 12 (.still 13 (.still 14 (.still 15 (.still 16 (.still 17 (.still 18 (.still 19 (.still 20 (.still 21 (.eff 22 (.still 23 (.still 24 .done))))))))))))))))))))))))) _ (by kernel_rfl) (List.Sublist.refl _) ?_; refine TS.run 2 rfl ?_; refine TS.y rfl (Yv.al (i := i_4) rfl rfl rfl ha.1 ha.2.1 rfl (by omega)) ?_; refine TS.y rfl (Yv.aI rfl rfl ha.1 ha.2.1 (by omega)) ?_; refine TS.y rfl (Yv.loadR 0 (i := i_4) (j := 0) rfl rfl rfl ha.1 ha.2.1 (by omega) rfl (GDomain.c0 (ha.2.2 i_4 (by omega)))) ?_; refine TS.run 2 rfl ?_; refine TS.y rfl (Yv.al (i := i_4) rfl rfl rfl hb.1 hb.2.1 rfl (by omega)) ?_; refine TS.y rfl (Yv.aI rfl rfl hb.1 hb.2.1 (by omega)) ?_; refine TS.y rfl (Yv.loadR 0 (i := i_4) (j := 0) rfl rfl rfl hb.1 hb.2.1 (by omega) rfl (GDomain.c0 (hb.2.2 i_4 (by omega)))) ?_; refine TS.run 2 rfl ?_; refine TS.gs rfl rfl rfl rfl (fun h6 => ?_) (fun h6 => ?_)
            · have p6 := of_decide_eq_true h6; refine TS.run 10 rfl ?_; refine TS.eff ?_; refine TSo.off rfl (Wt.not rfl rfl rfl rfl) rfl rfl ?_; refine TS.run 2 rfl ?_; refine TS.done ?_; exact K.ai () trivial (.c (.c (.c (.b (zbW h6).symm .nil)))) (List.Sublist.refl _)
            · have p6 := of_decide_eq_false h6; refine TS.run 2 rfl ?_; refine TS.y rfl (Yv.al (i := i_4) rfl rfl rfl ha.1 ha.2.1 rfl (by omega)) ?_; refine TS.y rfl (Yv.aI rfl rfl ha.1 ha.2.1 (by omega)) ?_; refine TS.y rfl (Yv.loadR 0 (i := i_4) (j := 1) rfl rfl rfl ha.1 ha.2.1 (by omega) rfl (GDomain.c1 (ha.2.2 i_4 (by omega))).1) ?_; have hd33_1 := (GDomain.c1 (ha.2.2 i_4 (by omega))).2; haveI := hd33_1.oneC; refine TS.run 2 rfl ?_; refine TS.y rfl (Yv.al (i := i_4) rfl rfl rfl hb.1 hb.2.1 rfl (by omega)) ?_; refine TS.y rfl (Yv.aI rfl rfl hb.1 hb.2.1 (by omega)) ?_; refine TS.y rfl (Yv.loadR 0 (i := i_4) (j := 1) rfl rfl rfl hb.1 hb.2.1 (by omega) rfl (GDomain.c1 (hb.2.2 i_4 (by omega))).1) ?_; have hd38_1 := (GDomain.c1 (hb.2.2 i_4 (by omega))).2; haveI := hd38_1.oneC; refine TS.eff ?_; refine TSo.au rfl (Wt.some rfl rfl rfl rfl) rfl rfl (Ew.ag rfl rfl rfl (fun w hw => zd4 _ w (hw.fr (i := 0) rfl) ((nth a i_4).Channels) (nth (nth ca i_4) 1) hd33_1 ((nth b i_4).Channels) (nth (nth cb i_4) 1) hd38_1)) ?_; rintro _ _ ⟨rfl, rfl⟩; refine ⟨(fun w hw => hw.sub Sx), ?_⟩; refine TS.run 2 rfl ?_; refine TS.done ?_; exact K.ai () trivial (.c (.c (.c (.b (or_f h6) .nil)))) (List.Sublist.refl _)
          · rintro _ _; refine T.cond rfl (fun h7 => ?_) (fun h7 => ?_)
            · replace hk := zac hk h7; refine T.sr ?_; refine TL.run 1 rfl ?_; refine TL.ns (T.ret (K.ae (K.then_ret (K.then_ret (K.ae (K.then_ret ?_)))))); subst hk; exact K.aj rfl rfl (fun w' hw => ⟨rfl, hw.isBelow⟩)
            · have p7 := h7; (try simp only [nfB] at p7); replace hk := zab hk h7; refine T.skip (K.ac (K.seq (T.region ?_))); refine TL.run 1 rfl ?_; refine TL.y (Yv.ao rfl rfl rfl (by omega)) ?_; refine TL.run 1 rfl ?_; refine TL.nil ?_; rw [← hn3] at hk; exact K.next (i_4 + 1) hk (by omega) (.c (.c (.c .nil))) (List.Sublist.refl _)
        · have p5 := of_decide_eq_false h5; rw [zar (by omega), ← hkk3] at hk; (try dsimp only at hk); refine T.exit (K.ab (K.ab (K.ad ?_))); exact K.ai () hk .nil (List.Sublist.refl _)
    · rintro _ hk; rw [← hk2] at hk; (try dsimp only at hk); refine T.sr ?_; refine TL.run 1 rfl ?_; refine TL.ns (T.ret ?_); subst hk; exact K.aj rfl rfl (fun w' hw => ⟨rfl, hw.isBelow⟩)
def zbM (a : GRules) (b : GRules) : Bool :=
  (bif (((decide (¬ (a.Pairs.length : Int) = (b.Pairs.length : Int))) || (decide (¬ (a.Loads.length : Int) = (b.Loads.length : Int)))) || (decide (¬ (a.Caps.length : Int) = (b.Caps.length : Int)))) then
    false
    else
    zaH (fun (_ : Unit) =>
      zaH (fun (_ : Unit) =>
        zaH (fun (_ : Unit) =>
          true)
        (fun k14 =>
          zag (fun (i_16 : Nat) (next15 : Unit → Bool) (_ : Unit) =>
            (bif !(decide ((nth a.Caps i_16).Station = (nth b.Caps i_16).Station) && decide ((nth a.Caps i_16).Max = (nth b.Caps i_16).Max) && decide ((nth a.Caps i_16).Low = (nth b.Caps i_16).Low) && decide ((nth a.Caps i_16).High = (nth b.Caps i_16).High)) then
              false
              else
              next15 ()))
          (fun (_ : Unit) =>
            k14 ()) (a.Caps.length - 0) 0 ()))
      (fun k9 =>
        zag (fun (i_11 : Nat) (next10 : Unit → Bool) (_ : Unit) =>
          (bif !(decide ((nth a.Loads i_11).To = (nth b.Loads i_11).To) && decide ((nth a.Loads i_11).From = (nth b.Loads i_11).From) && decide ((nth a.Loads i_11).Weight = (nth b.Loads i_11).Weight) && decide ((nth a.Loads i_11).Low = (nth b.Loads i_11).Low) && decide ((nth a.Loads i_11).High = (nth b.Loads i_11).High)) then
            false
            else
            next10 ()))
        (fun (_ : Unit) =>
          k9 ()) (a.Loads.length - 0) 0 ()))
    (fun k4 =>
      zag (fun (i_6 : Nat) (next5 : Unit → Bool) (_ : Unit) =>
        (bif !(decide ((nth a.Pairs i_6).A = (nth b.Pairs i_6).A) && decide ((nth a.Pairs i_6).B = (nth b.Pairs i_6).B) && decide ((nth a.Pairs i_6).Offset = (nth b.Pairs i_6).Offset) && decide ((nth a.Pairs i_6).Low = (nth b.Pairs i_6).Low) && decide ((nth a.Pairs i_6).High = (nth b.Pairs i_6).High)) then
          false
          else
          next5 ()))
      (fun (_ : Unit) =>
        k4 ()) (a.Pairs.length - 0) 0 ()))
theorem ze6 (F0 : Frz) (w : World) (hF0 : F0.At w) (a : GRules) (va_0 : Value) (ha_0 : SlC F0 va_0 5 (a.Pairs.map GPair.enc)) (va_1 : Value) (ha_1 : SlC F0 va_1 5 (a.Loads.map GLoad.enc)) (va_2 : Value) (ha_2 : SlC F0 va_2 4 (a.Caps.map GCap.enc)) (b : GRules) (vb_0 : Value) (hb_0 : SlC F0 vb_0 5 (b.Pairs.map GPair.enc)) (vb_1 : Value) (hb_1 : SlC F0 vb_1 5 (b.Loads.map GLoad.enc)) (vb_2 : Value) (hb_2 : SlC F0 vb_2 4 (b.Caps.map GCap.enc)) : Calls Tryz.prog 52 #[.agg [va_0, va_1, va_2].toArray, .agg [vb_0, vb_1, vb_2].toArray] w fun e w' => e = .returned (.bool (zbM a b)) ∧ Below w.heap.size w w' := by
  obtain ⟨r, hk⟩ : ∃ r, zbM a b = r := ⟨_, rfl⟩; rw [hk]; unfold zbM at hk; haveI := ha_0.oneC; haveI := ha_1.oneC; haveI := ha_2.oneC; haveI := hb_0.oneC; haveI := hb_1.oneC; haveI := hb_2.oneC; obtain ⟨S0, F1, rfl, hS0, hp0⟩ := zal hF0; refine zam Tryz.func52 rfl rfl rfl hp0 ?_; refine T.sr ?_; refine TL.e (Ew.aA rfl rfl) ?_; rintro _ _ ⟨g2, rfl, rfl⟩; refine TL.e (Ew.aA rfl rfl) ?_; rintro _ _ ⟨g3, rfl, rfl⟩; refine TL.run 1 rfl ?_; refine TL.ns (T.seq (T.seq ?_)); refine T.af (ι := Unit) (fun z => [(2, .pointer (some ⟨g2, 0, none⟩)), (3, .pointer (some ⟨g3, 0, none⟩)), (32, .bool (((decide (¬ (a.Pairs.length : Int) = (b.Pairs.length : Int))) || (decide (¬ (a.Loads.length : Int) = (b.Loads.length : Int)))) || (decide (¬ (a.Caps.length : Int) = (b.Caps.length : Int)))))]) (fun z => [.row g3 27 [vb_0, vb_1, vb_2], .row g2 27 [va_0, va_1, va_2], .fr F1]) (fun z => True) ?_ ?_
  · refine T.region ?_; refine TL.y (Yv.fieldAddr rfl rfl) ?_; refine TL.y (Yv.aa 1 rfl rfl rfl rfl) ?_; refine TL.y (Yv.an rfl rfl ha_0 (List.length_map _)) ?_; have hm10 : a.Pairs.length ≤ 9223372036854775807 := (List.length_map _) ▸ ha_0.max; refine TL.y (Yv.fieldAddr rfl rfl) ?_; refine TL.y (Yv.aa 0 rfl rfl rfl rfl) ?_; refine TL.y (Yv.an rfl rfl hb_0 (List.length_map _)) ?_; have hm13 : b.Pairs.length ≤ 9223372036854775807 := (List.length_map _) ▸ hb_0.max; refine TL.run 2 rfl ?_; refine TL.gs rfl rfl rfl (fun h1 => ?_) (fun h1 => ?_)
    · have p1 := of_decide_eq_true h1; refine TL.run 17 rfl ?_; refine TL.nil ?_; exact K.ai () trivial (.c (.c (.b (zbW (zbW h1)).symm .nil))) (List.Sublist.refl _)
    · have p1 := of_decide_eq_false h1; refine TL.y (Yv.fieldAddr rfl rfl) ?_; refine TL.y (Yv.aa 1 rfl rfl rfl rfl) ?_; refine TL.y (Yv.an rfl rfl ha_1 (List.length_map _)) ?_; have hm18 : a.Loads.length ≤ 9223372036854775807 := (List.length_map _) ▸ ha_1.max; refine TL.y (Yv.fieldAddr rfl rfl) ?_; refine TL.y (Yv.aa 0 rfl rfl rfl rfl) ?_; refine TL.y (Yv.an rfl rfl hb_1 (List.length_map _)) ?_; have hm21 : b.Loads.length ≤ 9223372036854775807 := (List.length_map _) ▸ hb_1.max; refine TL.run 3 rfl ?_; refine TL.gs rfl rfl rfl (fun h2 => ?_) (fun h2 => ?_)
      · have p2 := of_decide_eq_true h2; refine TL.run 8 rfl ?_; refine TL.nil ?_; exact K.ai () trivial (.c (.c (.b (zbW (zct h1 h2)).symm .nil))) (List.Sublist.refl _)
      · have p2 := of_decide_eq_false h2; refine TL.y (Yv.fieldAddr rfl rfl) ?_; refine TL.y (Yv.aa 1 rfl rfl rfl rfl) ?_; refine TL.y (Yv.an rfl rfl ha_2 (List.length_map _)) ?_; have hm27 : a.Caps.length ≤ 9223372036854775807 := (List.length_map _) ▸ ha_2.max; refine TL.y (Yv.fieldAddr rfl rfl) ?_; refine TL.y (Yv.aa 0 rfl rfl rfl rfl) ?_; refine TL.y (Yv.an rfl rfl hb_2 (List.length_map _)) ?_; have hm30 : b.Caps.length ≤ 9223372036854775807 := (List.length_map _) ▸ hb_2.max; refine TL.run 2 rfl ?_; refine TL.nil ?_; exact K.ai () trivial (.c (.c (.b (or_f (zct h1 h2)) .nil))) (List.Sublist.refl _)
  · rintro _ _; have hm10 : a.Pairs.length ≤ 9223372036854775807 := (List.length_map _) ▸ ha_0.max; have hm13 : b.Pairs.length ≤ 9223372036854775807 := (List.length_map _) ▸ hb_0.max; have hm18 : a.Loads.length ≤ 9223372036854775807 := (List.length_map _) ▸ ha_1.max; have hm21 : b.Loads.length ≤ 9223372036854775807 := (List.length_map _) ▸ hb_1.max; have hm27 : a.Caps.length ≤ 9223372036854775807 := (List.length_map _) ▸ ha_2.max; have hm30 : b.Caps.length ≤ 9223372036854775807 := (List.length_map _) ▸ hb_2.max; refine T.cond rfl (fun h3 => ?_) (fun h3 => ?_)
    · replace hk := zac hk h3; refine T.sr ?_; refine TL.run 1 rfl ?_; refine TL.ns (T.ret (K.then_ret ?_)); subst hk; exact K.aj rfl rfl (fun w' hw => ⟨rfl, hw.isBelow⟩)
    · have p3 := h3; (try simp only [nfB] at p3); replace hk := zab hk h3; refine T.skip (K.seq (T.seq (T.sr ?_))); refine TL.run 1 rfl ?_; refine TL.ns ?_; have hq := zaf hk; clear hk; obtain ⟨k4, hk4, hk⟩ := hq; (try dsimp only at hk); refine T.af (ι := Unit) (fun z => [(2, .pointer (some ⟨g2, 0, none⟩)), (3, .pointer (some ⟨g3, 0, none⟩))]) (fun z => [.row g3 27 [vb_0, vb_1, vb_2], .row g2 27 [va_0, va_1, va_2], .fr F1]) (fun z => k4 () = r) ?_ ?_
      · have hq := zah hk; clear hk; obtain ⟨f5, kk5, hf5, hkk5, hk⟩ := hq; refine T.block ?_; refine T.loop (ι := Nat) (fun z => [(2, .pointer (some ⟨g2, 0, none⟩)), (3, .pointer (some ⟨g3, 0, none⟩)), (5, .int .i64 (z : Int))]) (fun z => [.row g3 27 [vb_0, vb_1, vb_2], .row g2 27 [va_0, va_1, va_2], .fr F1]) (fun z => zag f5 kk5 (a.Pairs.length - z) z () = r) (fun z => a.Pairs.length - z) 0 ?_ ?_ ?_ ?_
        · exact hk
        · exact (.c (.c (.c .nil)))
        · exact List.Sublist.refl _
        · rintro i_6 hk; refine T.seq (T.sr ?_); refine TL.run 1 rfl ?_; refine TL.y (Yv.fieldAddr rfl rfl) ?_; refine TL.y (Yv.aa 1 rfl rfl rfl rfl) ?_; refine TL.y (Yv.an rfl rfl ha_0 (List.length_map _)) ?_; refine TL.run 1 rfl ?_; refine TL.ns ?_; refine T.cond rfl (fun h7 => ?_) (fun h7 => ?_)
          · have p7 := of_decide_eq_true h7; rw [zas (by omega)] at hk; generalize hn5 : zag f5 kk5 (a.Pairs.length - (i_6 + 1)) (i_6 + 1) = next5 at hk; rw [← hf5] at hk; (try dsimp only at hk); refine T.skip (K.seq (T.seq (T.block (T.seq ?_)))); refine T.ax (.still 0 (.still 1 (.still 2 (.still 3 (.still 4 (.still 5 (.still 6 (.still 7 (.still 8 (.still 9 (.still 10 .done))))))))))) _ (by kernel_rfl) (List.Sublist.refl _) ?_; refine TS.y rfl (Yv.fieldAddr rfl rfl) ?_; refine TS.y rfl (Yv.aa 1 rfl rfl rfl rfl) ?_; refine TS.run 1 rfl ?_; refine TS.y rfl (Yv.al (i := i_6) rfl rfl rfl ha_0 (List.length_map _) rfl (by omega)) ?_; refine TS.y rfl (Yv.aq 2 (i := i_6) rfl rfl rfl ha_0 (by omega) rfl rfl rfl) ?_; refine TS.y rfl (Yv.fieldAddr rfl rfl) ?_; refine TS.y rfl (Yv.aa 0 rfl rfl rfl rfl) ?_; refine TS.run 1 rfl ?_; refine TS.y rfl (Yv.al (i := i_6) rfl rfl rfl hb_0 (List.length_map _) rfl (by omega)) ?_; refine TS.y rfl (Yv.aq 2 (i := i_6) rfl rfl rfl hb_0 (by omega) rfl rfl rfl) ?_; refine TS.y rfl (Yv.bK (by kernel_rfl) rfl rfl rfl) ?_; refine TS.done ?_; refine K.seq ?_; refine T.cond rfl (fun h8 => ?_) (fun h8 => ?_)
            · replace hk := zac hk h8; refine T.sr ?_; refine TL.run 1 rfl ?_; refine TL.ns (T.ret (K.ae (K.then_ret (K.then_ret (K.ae (K.then_ret ?_)))))); subst hk; exact K.aj rfl rfl (fun w' hw => ⟨rfl, hw.isBelow⟩)
            · have p8 := h8; (try simp only [nfB] at p8); replace hk := zab hk h8; refine T.skip (K.ac (K.seq (T.region ?_))); refine TL.run 1 rfl ?_; refine TL.y (Yv.ao rfl rfl rfl (by omega)) ?_; refine TL.run 1 rfl ?_; refine TL.nil ?_; rw [← hn5] at hk; exact K.next (i_6 + 1) hk (by omega) (.c (.c (.c .nil))) (List.Sublist.refl _)
          · have p7 := of_decide_eq_false h7; rw [zar (by omega), ← hkk5] at hk; (try dsimp only at hk); refine T.exit (K.ab (K.ab (K.ad ?_))); exact K.ai () hk (.c (.c .nil)) (List.Sublist.refl _)
      · rintro _ hk; rw [← hk4] at hk; (try dsimp only at hk); refine T.seq (T.sr ?_); refine TL.run 1 rfl ?_; refine TL.ns ?_; have hq := zaf hk; clear hk; obtain ⟨k9, hk9, hk⟩ := hq; (try dsimp only at hk); refine T.af (ι := Unit) (fun z => [(2, .pointer (some ⟨g2, 0, none⟩)), (3, .pointer (some ⟨g3, 0, none⟩))]) (fun z => [.row g3 27 [vb_0, vb_1, vb_2], .row g2 27 [va_0, va_1, va_2], .fr F1]) (fun z => k9 () = r) ?_ ?_
        · have hq := zah hk; clear hk; obtain ⟨f10, kk10, hf10, hkk10, hk⟩ := hq; refine T.block ?_; refine T.loop (ι := Nat) (fun z => [(2, .pointer (some ⟨g2, 0, none⟩)), (3, .pointer (some ⟨g3, 0, none⟩)), (6, .int .i64 (z : Int))]) (fun z => [.row g3 27 [vb_0, vb_1, vb_2], .row g2 27 [va_0, va_1, va_2], .fr F1]) (fun z => zag f10 kk10 (a.Loads.length - z) z () = r) (fun z => a.Loads.length - z) 0 ?_ ?_ ?_ ?_
          · exact hk
          · exact (.c (.c (.c .nil)))
          · exact List.Sublist.refl _
          · rintro i_11 hk; refine T.seq (T.sr ?_); refine TL.run 1 rfl ?_; refine TL.y (Yv.fieldAddr rfl rfl) ?_; refine TL.y (Yv.aa 1 rfl rfl rfl rfl) ?_; refine TL.y (Yv.an rfl rfl ha_1 (List.length_map _)) ?_; refine TL.run 1 rfl ?_; refine TL.ns ?_; refine T.cond rfl (fun h12 => ?_) (fun h12 => ?_)
            · have p12 := of_decide_eq_true h12; rw [zas (by omega)] at hk; generalize hn10 : zag f10 kk10 (a.Loads.length - (i_11 + 1)) (i_11 + 1) = next10 at hk; rw [← hf10] at hk; (try dsimp only at hk); refine T.skip (K.seq (T.seq (T.block (T.seq ?_)))); refine T.ax (.still 0 (.still 1 (.still 2 (.still 3 (.still 4 (.still 5 (.still 6 (.still 7 (.still 8 (.still 9 (.still 10 .done))))))))))) _ (by kernel_rfl) (List.Sublist.refl _) ?_; refine TS.y rfl (Yv.fieldAddr rfl rfl) ?_; refine TS.y rfl (Yv.aa 1 rfl rfl rfl rfl) ?_; refine TS.run 1 rfl ?_; refine TS.y rfl (Yv.al (i := i_11) rfl rfl rfl ha_1 (List.length_map _) rfl (by omega)) ?_; refine TS.y rfl (Yv.aq 2 (i := i_11) rfl rfl rfl ha_1 (by omega) rfl rfl rfl) ?_; refine TS.y rfl (Yv.fieldAddr rfl rfl) ?_; refine TS.y rfl (Yv.aa 0 rfl rfl rfl rfl) ?_; refine TS.run 1 rfl ?_; refine TS.y rfl (Yv.al (i := i_11) rfl rfl rfl hb_1 (List.length_map _) rfl (by omega)) ?_; refine TS.y rfl (Yv.aq 2 (i := i_11) rfl rfl rfl hb_1 (by omega) rfl rfl rfl) ?_; refine TS.y rfl (Yv.bK (by kernel_rfl) rfl rfl rfl) ?_; refine TS.done ?_; refine K.seq ?_; refine T.cond rfl (fun h13 => ?_) (fun h13 => ?_)
              · replace hk := zac hk h13; refine T.sr ?_; refine TL.run 1 rfl ?_; refine TL.ns (T.ret (K.ae (K.then_ret (K.then_ret (K.ae (K.then_ret ?_)))))); subst hk; exact K.aj rfl rfl (fun w' hw => ⟨rfl, hw.isBelow⟩)
              · have p13 := h13; (try simp only [nfB] at p13); replace hk := zab hk h13; refine T.skip (K.ac (K.seq (T.region ?_))); refine TL.run 1 rfl ?_; refine TL.y (Yv.ao rfl rfl rfl (by omega)) ?_; refine TL.run 1 rfl ?_; refine TL.nil ?_; rw [← hn10] at hk; exact K.next (i_11 + 1) hk (by omega) (.c (.c (.c .nil))) (List.Sublist.refl _)
            · have p12 := of_decide_eq_false h12; rw [zar (by omega), ← hkk10] at hk; (try dsimp only at hk); refine T.exit (K.ab (K.ab (K.ad ?_))); exact K.ai () hk (.c (.c .nil)) (List.Sublist.refl _)
        · rintro _ hk; rw [← hk9] at hk; (try dsimp only at hk); refine T.seq (T.sr ?_); refine TL.run 1 rfl ?_; refine TL.ns ?_; have hq := zaf hk; clear hk; obtain ⟨k14, hk14, hk⟩ := hq; (try dsimp only at hk); refine T.af (ι := Unit) (fun z => []) (fun z => [.fr F1]) (fun z => k14 () = r) ?_ ?_
          · have hq := zah hk; clear hk; obtain ⟨f15, kk15, hf15, hkk15, hk⟩ := hq; refine T.block ?_; refine T.loop (ι := Nat) (fun z => [(2, .pointer (some ⟨g2, 0, none⟩)), (3, .pointer (some ⟨g3, 0, none⟩)), (7, .int .i64 (z : Int))]) (fun z => [.row g3 27 [vb_0, vb_1, vb_2], .row g2 27 [va_0, va_1, va_2], .fr F1]) (fun z => zag f15 kk15 (a.Caps.length - z) z () = r) (fun z => a.Caps.length - z) 0 ?_ ?_ ?_ ?_
            · exact hk
            · exact (.c (.c (.c .nil)))
            · exact List.Sublist.refl _
            · rintro i_16 hk; refine T.seq (T.sr ?_); refine TL.run 1 rfl ?_; refine TL.y (Yv.fieldAddr rfl rfl) ?_; refine TL.y (Yv.aa 1 rfl rfl rfl rfl) ?_; refine TL.y (Yv.an rfl rfl ha_2 (List.length_map _)) ?_; refine TL.run 1 rfl ?_; refine TL.ns ?_; refine T.cond rfl (fun h17 => ?_) (fun h17 => ?_)
              · have p17 := of_decide_eq_true h17; rw [zas (by omega)] at hk; generalize hn15 : zag f15 kk15 (a.Caps.length - (i_16 + 1)) (i_16 + 1) = next15 at hk; rw [← hf15] at hk; (try dsimp only at hk); refine T.skip (K.seq (T.seq (T.block (T.seq ?_)))); refine T.ax (.still 0 (.still 1 (.still 2 (.still 3 (.still 4 (.still 5 (.still 6 (.still 7 (.still 8 (.still 9 (.still 10 .done))))))))))) _ (by kernel_rfl) (List.Sublist.refl _) ?_; refine TS.y rfl (Yv.fieldAddr rfl rfl) ?_; refine TS.y rfl (Yv.aa 1 rfl rfl rfl rfl) ?_; refine TS.run 1 rfl ?_; refine TS.y rfl (Yv.al (i := i_16) rfl rfl rfl ha_2 (List.length_map _) rfl (by omega)) ?_; refine TS.y rfl (Yv.aq 2 (i := i_16) rfl rfl rfl ha_2 (by omega) rfl rfl rfl) ?_; refine TS.y rfl (Yv.fieldAddr rfl rfl) ?_; refine TS.y rfl (Yv.aa 0 rfl rfl rfl rfl) ?_; refine TS.run 1 rfl ?_; refine TS.y rfl (Yv.al (i := i_16) rfl rfl rfl hb_2 (List.length_map _) rfl (by omega)) ?_; refine TS.y rfl (Yv.aq 2 (i := i_16) rfl rfl rfl hb_2 (by omega) rfl rfl rfl) ?_; refine TS.y rfl (Yv.bZ (by kernel_rfl) rfl rfl rfl) ?_; refine TS.done ?_; refine K.seq ?_; refine T.cond rfl (fun h18 => ?_) (fun h18 => ?_)
                · replace hk := zac hk h18; refine T.sr ?_; refine TL.run 1 rfl ?_; refine TL.ns (T.ret (K.ae (K.then_ret (K.then_ret (K.ae (K.then_ret ?_)))))); subst hk; exact K.aj rfl rfl (fun w' hw => ⟨rfl, hw.isBelow⟩)
                · have p18 := h18; (try simp only [nfB] at p18); replace hk := zab hk h18; refine T.skip (K.ac (K.seq (T.region ?_))); refine TL.run 1 rfl ?_; refine TL.y (Yv.ao rfl rfl rfl (by omega)) ?_; refine TL.run 1 rfl ?_; refine TL.nil ?_; rw [← hn15] at hk; exact K.next (i_16 + 1) hk (by omega) (.c (.c (.c .nil))) (List.Sublist.refl _)
              · have p17 := of_decide_eq_false h17; rw [zar (by omega), ← hkk15] at hk; (try dsimp only at hk); refine T.exit (K.ab (K.ab (K.ad ?_))); refine K.pick [2] rfl (by decide) ?_; exact K.ai () hk .nil (List.Sublist.refl _)
          · rintro _ hk; rw [← hk14] at hk; (try dsimp only at hk); refine T.sr ?_; refine TL.run 1 rfl ?_; refine TL.ns (T.ret ?_); subst hk; exact K.aj rfl rfl (fun w' hw => ⟨rfl, hw.isBelow⟩)
def zcO (a : GProblem) (b : GProblem) : Bool :=
  ((zbN a.Domains b.Domains) && (zbM a.Rules b.Rules))
theorem zgs (F0 : Frz) (w : World) (hF0 : F0.At w) (a : GProblem) (va_0 : Value) (ca_0 : List (List Value)) (ha_0 : SlD GDomain.rep F0 va_0 2 ca_0 a.Domains) (va_1 : Value) (ha_1 : SlC F0 va_1 5 (a.Rules.Pairs.map GPair.enc)) (va_2 : Value) (ha_2 : SlC F0 va_2 5 (a.Rules.Loads.map GLoad.enc)) (va_3 : Value) (ha_3 : SlC F0 va_3 4 (a.Rules.Caps.map GCap.enc)) (b : GProblem) (vb_0 : Value) (cb_0 : List (List Value)) (hb_0 : SlD GDomain.rep F0 vb_0 2 cb_0 b.Domains) (vb_1 : Value) (hb_1 : SlC F0 vb_1 5 (b.Rules.Pairs.map GPair.enc)) (vb_2 : Value) (hb_2 : SlC F0 vb_2 5 (b.Rules.Loads.map GLoad.enc)) (vb_3 : Value) (hb_3 : SlC F0 vb_3 4 (b.Rules.Caps.map GCap.enc)) : Calls Tryz.prog 21 #[.agg [va_0, va_1, va_2, va_3].toArray, .agg [vb_0, vb_1, vb_2, vb_3].toArray] w fun e w' => e = .returned (.bool (zcO a b)) ∧ Below w.heap.size w w' := by
  obtain ⟨r, hk⟩ : ∃ r, zcO a b = r := ⟨_, rfl⟩; rw [hk]; unfold zcO at hk; haveI := ha_0.1.oneC; haveI := ha_1.oneC; haveI := ha_2.oneC; haveI := ha_3.oneC; haveI := hb_0.1.oneC; haveI := hb_1.oneC; haveI := hb_2.oneC; haveI := hb_3.oneC; obtain ⟨S0, F1, rfl, hS0, hp0⟩ := zal hF0; refine zam Tryz.func21 rfl rfl rfl hp0 ?_; refine T.sr ?_; refine TL.e (Ew.aA rfl rfl) ?_; rintro _ _ ⟨g2, rfl, rfl⟩; refine TL.e (Ew.aA rfl rfl) ?_; rintro _ _ ⟨g3, rfl, rfl⟩; refine TL.run 1 rfl ?_; refine TL.ns (T.seq ?_); refine T.af (ι := Unit) (fun z => [(4, .bool ((zbN a.Domains b.Domains) && (zbM a.Rules b.Rules)))]) (fun z => [.row g3 29 [vb_0, vb_1, vb_2, vb_3], .row g2 29 [va_0, va_1, va_2, va_3], .fr F1]) (fun z => True) ?_ ?_
  · refine T.region ?_; refine TL.y (Yv.fieldAddr rfl rfl) ?_; refine TL.y (Yv.aa 1 rfl rfl rfl rfl) ?_; refine TL.y (Yv.fieldAddr rfl rfl) ?_; refine TL.y (Yv.aa 0 rfl rfl rfl rfl) ?_; refine TL.e (Ew.ag rfl rfl rfl (fun w hw => zeD _ w (hw.fr (i := 2) rfl) a.Domains va_0 ca_0 ha_0 b.Domains vb_0 cb_0 hb_0)) ?_; rintro _ _ ⟨rfl, rfl⟩; refine TL.run 1 rfl ?_; refine TL.gs rfl rfl rfl (fun h1 => ?_) (fun h1 => ?_)
    · refine TL.y (Yv.fieldAddr rfl rfl) ?_; refine TL.y (Yv.aW 1 (m := [va_1, va_2, va_3]) rfl rfl rfl rfl rfl) ?_; refine TL.y (Yv.fieldAddr rfl rfl) ?_; refine TL.y (Yv.aW 0 (m := [vb_1, vb_2, vb_3]) rfl rfl rfl rfl rfl) ?_; refine TL.e (Ew.ag rfl rfl rfl (fun w hw => ze6 _ w (hw.fr (i := 2) rfl) a.Rules va_1 ha_1 va_2 ha_2 va_3 ha_3 b.Rules vb_1 hb_1 vb_2 hb_2 vb_3 hb_3)) ?_; rintro _ _ ⟨rfl, rfl⟩; refine TL.run 2 rfl ?_; refine TL.nil ?_; exact K.ai () trivial (.b (zdE h1) .nil) (List.Sublist.refl _)
    · refine TL.run 7 rfl ?_; refine TL.nil ?_; exact K.ai () trivial (.b (zaG h1).symm .nil) (List.Sublist.refl _)
  · rintro _ _; refine T.ret ?_; subst hk; exact K.aj rfl rfl (fun w' hw => ⟨rfl, hw.isBelow⟩)
def zbD (p : GProblem) (n : Int) : Int :=
  zaH (fun (_ : Unit) =>
    (-1))
  (fun k1 =>
    zag (fun (i_3 : Nat) (next2 : Unit → Int) (_ : Unit) =>
      (bif decide ((nth p.Domains i_3).Station = n) then
        (i_3 : Int)
        else
        next2 ()))
    (fun (_ : Unit) =>
      k1 ()) (p.Domains.length - 0) 0 ())
theorem zdl (F0 : Frz) (w : World) (hF0 : F0.At w) (p : GProblem) (vp_0 : Value) (cp_0 : List (List Value)) (hp_0 : SlD GDomain.rep F0 vp_0 2 cp_0 p.Domains) (vp_1 : Value) (hp_1 : SlC F0 vp_1 5 (p.Rules.Pairs.map GPair.enc)) (vp_2 : Value) (hp_2 : SlC F0 vp_2 5 (p.Rules.Loads.map GLoad.enc)) (vp_3 : Value) (hp_3 : SlC F0 vp_3 4 (p.Rules.Caps.map GCap.enc)) (n : Int) : Calls Tryz.prog 40 #[.agg [vp_0, vp_1, vp_2, vp_3].toArray, .int .i64 n] w fun e w' => e = .returned (.int .i64 (zbD p n)) ∧ Below w.heap.size w w' := by
  obtain ⟨r, hk⟩ : ∃ r, zbD p n = r := ⟨_, rfl⟩; rw [hk]; unfold zbD at hk; haveI := hp_0.1.oneC; haveI := hp_1.oneC; haveI := hp_2.oneC; haveI := hp_3.oneC; obtain ⟨S0, F1, rfl, hS0, hp0⟩ := zal hF0; refine zam Tryz.func40 rfl rfl rfl hp0 ?_; refine T.sr ?_; refine TL.e (Ew.aA rfl rfl) ?_; rintro _ _ ⟨g2, rfl, rfl⟩; refine TL.run 1 rfl ?_; refine TL.ns (T.seq (T.sr ?_)); refine TL.run 1 rfl ?_; refine TL.ns ?_; have hq := zaf hk; clear hk; obtain ⟨k1, hk1, hk⟩ := hq; (try dsimp only at hk); refine T.af (ι := Unit) (fun z => []) (fun z => [.fr F1]) (fun z => k1 () = r) ?_ ?_
  · have hq := zah hk; clear hk; obtain ⟨f2, kk2, hf2, hkk2, hk⟩ := hq; refine T.block ?_; refine T.loop (ι := Nat) (fun z => [(1, .int .i64 n), (2, .pointer (some ⟨g2, 0, none⟩)), (5, .int .i64 (z : Int))]) (fun z => [.row g2 29 [vp_0, vp_1, vp_2, vp_3], .fr F1]) (fun z => zag f2 kk2 (p.Domains.length - z) z () = r) (fun z => p.Domains.length - z) 0 ?_ ?_ ?_ ?_
    · exact hk
    · exact (.c (.c (.c .nil)))
    · exact List.Sublist.refl _
    · rintro i_3 hk; refine T.seq (T.sr ?_); refine TL.run 1 rfl ?_; refine TL.y (Yv.fieldAddr rfl rfl) ?_; refine TL.y (Yv.aa 0 rfl rfl rfl rfl) ?_; refine TL.y (Yv.an rfl rfl hp_0.1 hp_0.2.1) ?_; have hm9 : p.Domains.length ≤ 9223372036854775807 := hp_0.2.1 ▸ hp_0.1.max; refine TL.run 1 rfl ?_; refine TL.ns ?_; refine T.cond rfl (fun h4 => ?_) (fun h4 => ?_)
      · have p4 := of_decide_eq_true h4; rw [zas (by omega)] at hk; generalize hn2 : zag f2 kk2 (p.Domains.length - (i_3 + 1)) (i_3 + 1) = next2 at hk; rw [← hf2] at hk; (try dsimp only at hk); refine T.skip (K.seq (T.seq (T.block (T.sr ?_)))); refine TL.y (Yv.fieldAddr rfl rfl) ?_; refine TL.y (Yv.aa 0 rfl rfl rfl rfl) ?_; refine TL.run 1 rfl ?_; refine TL.y (Yv.al (i := i_3) rfl rfl rfl hp_0.1 hp_0.2.1 rfl (by omega)) ?_; refine TL.y (Yv.aI rfl rfl hp_0.1 hp_0.2.1 (by omega)) ?_; refine TL.y (Yv.loadR 1 (i := i_3) (j := 0) rfl rfl rfl hp_0.1 hp_0.2.1 (by omega) rfl (GDomain.c0 (hp_0.2.2 i_3 (by omega)))) ?_; refine TL.run 2 rfl ?_; refine TL.ns ?_; refine T.cond rfl (fun h5 => ?_) (fun h5 => ?_)
        · have p5 := of_decide_eq_true h5; replace hk := zac hk h5; refine T.sr ?_; refine TL.run 2 rfl ?_; refine TL.ns (T.ret (K.ae (K.then_ret (K.then_ret (K.ae (K.then_ret ?_)))))); subst hk; exact K.aj rfl rfl (fun w' hw => ⟨rfl, hw.isBelow⟩)
        · have p5 := of_decide_eq_false h5; replace hk := zab hk h5; refine T.skip (K.ac (K.seq (T.region ?_))); refine TL.run 1 rfl ?_; refine TL.y (Yv.ao rfl rfl rfl (by omega)) ?_; refine TL.run 1 rfl ?_; refine TL.nil ?_; rw [← hn2] at hk; exact K.next (i_3 + 1) hk (by omega) (.c (.c (.c .nil))) (List.Sublist.refl _)
      · have p4 := of_decide_eq_false h4; rw [zar (by omega), ← hkk2] at hk; (try dsimp only at hk); refine T.exit (K.ab (K.ab (K.ad ?_))); refine K.pick [1] rfl (by decide) ?_; exact K.ai () hk .nil (List.Sublist.refl _)
  · rintro _ hk; rw [← hk1] at hk; (try dsimp only at hk); refine T.sr ?_; refine TL.run 1 rfl ?_; refine TL.ns (T.ret ?_); subst hk; exact K.aj rfl rfl (fun w' hw => ⟨rfl, hw.isBelow⟩)
def zc6 (low : Int) (high : Int) : Bool :=
  (((decide (2 ≤ low)) && (decide (low ≤ high))) && (decide (high ≤ 51)))
theorem zem (F0 : Frz) (w : World) (hF0 : F0.At w) (low : Int) (high : Int) : Calls Tryz.prog 67 #[.int .i64 low, .int .i64 high] w fun e w' => e = .returned (.bool (zc6 low high)) ∧ Below w.heap.size w w' := by
  obtain ⟨r, hk⟩ : ∃ r, zc6 low high = r := ⟨_, rfl⟩; rw [hk]; unfold zc6 at hk; obtain ⟨S0, F1, rfl, hS0, hp0⟩ := zal hF0; refine zam Tryz.func67 rfl rfl rfl hp0 ?_; refine T.sr ?_; refine TL.run 1 rfl ?_; refine TL.ns (T.seq ?_); refine T.af (ι := Unit) (fun z => [(4, .bool (((decide (2 ≤ low)) && (decide (low ≤ high))) && (decide (high ≤ 51))))]) (fun z => [.fr F1]) (fun z => True) ?_ ?_
  · refine T.region ?_; refine TL.run 3 rfl ?_; refine TL.gs rfl rfl rfl (fun h1 => ?_) (fun h1 => ?_)
    · have p1 := of_decide_eq_true h1; refine TL.run 5 rfl ?_; refine TL.gs rfl rfl rfl (fun h2 => ?_) (fun h2 => ?_)
      · have p2 := of_decide_eq_true h2; refine TL.run 4 rfl ?_; refine TL.nil ?_; exact K.ai () trivial (.b (zdE (zaX h1 h2)) .nil) (List.Sublist.refl _)
      · have p2 := of_decide_eq_false h2; refine TL.run 4 rfl ?_; refine TL.nil ?_; exact K.ai () trivial (.b (zaG (zaX h1 h2)).symm .nil) (List.Sublist.refl _)
    · have p1 := of_decide_eq_false h1; refine TL.run 9 rfl ?_; refine TL.nil ?_; exact K.ai () trivial (.b (zaG (zaG h1)).symm .nil) (List.Sublist.refl _)
  · rintro _ _; refine T.ret ?_; subst hk; exact K.aj rfl rfl (fun w' hw => ⟨rfl, hw.isBelow⟩)
def zb7 (a : List Int) (b : List Int) : Option Bool :=
  zaH (fun (_ : Unit) =>
    some false)
  (fun k1 =>
    zag (fun (i_3 : Nat) (next2 : Unit → Option Bool) (_ : Unit) =>
      grd (0 ≤ (i_3 : Int) ∧ (i_3 : Int) < (b.length : Int)) <|
      (bif decide (¬ (nth a i_3) = (nth b i_3)) then
        some (decide ((nth a i_3) < (nth b i_3)))
        else
        next2 ()))
    (fun (_ : Unit) =>
      k1 ()) (a.length - 0) 0 ())
theorem zed (F0 : Frz) (w : World) (hF0 : F0.At w) (a : List Int) (va : Value) (ha : SlC F0 va 1 (a.map eI)) (b : List Int) (vb : Value) (hb : SlC F0 vb 1 (b.map eI)) (r : Bool) (hr : zb7 a b = some r) : Calls Tryz.prog 68 #[va, vb] w fun e w' => e = .returned (.bool r) ∧ Below w.heap.size w w' := by
  have hk := hr; unfold zb7 at hk; haveI := ha.oneC; haveI := hb.oneC; obtain ⟨S0, F1, rfl, hS0, hp0⟩ := zal hF0; refine zam Tryz.func68 rfl rfl rfl hp0 ?_; refine T.sr ?_; refine TL.run 1 rfl ?_; refine TL.ns (T.seq (T.sr ?_)); refine TL.run 1 rfl ?_; refine TL.ns ?_; have hq := zaf hk; clear hk; obtain ⟨k1, hk1, hk⟩ := hq; (try dsimp only at hk); refine T.af (ι := Unit) (fun z => []) (fun z => [.fr F1]) (fun z => k1 () = some r) ?_ ?_
  · have hq := zah hk; clear hk; obtain ⟨f2, kk2, hf2, hkk2, hk⟩ := hq; refine T.block ?_; refine T.loop (ι := Nat) (fun z => [(0, va), (1, vb), (5, .int .i64 (z : Int))]) (fun z => [.fr F1]) (fun z => zag f2 kk2 (a.length - z) z () = some r) (fun z => a.length - z) 0 ?_ ?_ ?_ ?_
    · exact hk
    · exact (.c (.c (.c .nil)))
    · exact List.Sublist.refl _
    · rintro i_3 hk; refine T.seq (T.sr ?_); refine TL.run 2 rfl ?_; refine TL.y (Yv.an rfl rfl ha (List.length_map _)) ?_; have hm8 : a.length ≤ 9223372036854775807 := (List.length_map _) ▸ ha.max; refine TL.run 1 rfl ?_; refine TL.ns ?_; refine T.cond rfl (fun h4 => ?_) (fun h4 => ?_)
      · have p4 := of_decide_eq_true h4; rw [zas (by omega)] at hk; generalize hn2 : zag f2 kk2 (a.length - (i_3 + 1)) (i_3 + 1) = next2 at hk; rw [← hf2] at hk; (try dsimp only at hk); refine T.skip (K.seq (T.seq (T.block (T.seq ?_)))); have hq : (0 ≤ (i_3 : Int) ∧ (i_3 : Int) < (b.length : Int)) ∧ _ := zaj hk; clear hk; obtain ⟨g18, hk⟩ := hq; (try dsimp only at hk); refine T.ax (.still 0 (.still 1 (.still 2 (.still 3 (.still 4 (.still 5 (.still 6 (.still 7 (.still 8 .done))))))))) _ (by kernel_rfl) (List.Sublist.refl _) ?_; refine TS.run 2 rfl ?_; refine TS.y rfl (Yv.al (i := i_3) rfl rfl rfl ha (List.length_map _) rfl (by omega)) ?_; refine TS.y rfl (Yv.as 0 (i := i_3) (j := 0) rfl rfl rfl ha (by omega) rfl rfl) ?_; refine TS.run 2 rfl ?_; refine TS.y rfl (Yv.al (i := i_3) rfl rfl rfl hb (List.length_map _) rfl (by omega)) ?_; refine TS.y rfl (Yv.as 0 (i := i_3) (j := 0) rfl rfl rfl hb (by omega) rfl rfl) ?_; refine TS.run 1 rfl ?_; refine TS.done ?_; refine K.seq ?_; refine T.cond rfl (fun h5 => ?_) (fun h5 => ?_)
        · have p5 := of_decide_eq_true h5; replace hk := zac hk h5; refine T.seq ?_; refine T.ax (.still 0 (.still 1 (.still 2 (.still 3 (.still 4 (.still 5 (.still 6 (.still 7 (.still 8 (.still 9 .done)))))))))) _ (by kernel_rfl) (List.Sublist.refl _) ?_; refine TS.run 2 rfl ?_; refine TS.y rfl (Yv.al (i := i_3) rfl rfl rfl ha (List.length_map _) rfl (by omega)) ?_; refine TS.y rfl (Yv.as 0 (i := i_3) (j := 0) rfl rfl rfl ha (by omega) rfl rfl) ?_; refine TS.run 2 rfl ?_; refine TS.y rfl (Yv.al (i := i_3) rfl rfl rfl hb (List.length_map _) rfl (by omega)) ?_; refine TS.y rfl (Yv.as 0 (i := i_3) (j := 0) rfl rfl rfl hb (by omega) rfl rfl) ?_; refine TS.run 2 rfl ?_; refine TS.done ?_; refine K.seq (T.ret (K.ae (K.then_ret (K.then_ret (K.ae (K.then_ret ?_)))))); obtain rfl := Option.some.inj hk; exact K.aj rfl rfl (fun w' hw => ⟨rfl, hw.isBelow⟩)
        · have p5 := of_decide_eq_false h5; replace hk := zab hk h5; refine T.skip (K.ac (K.seq (T.region ?_))); refine TL.run 1 rfl ?_; refine TL.y (Yv.ao rfl rfl rfl (by omega)) ?_; refine TL.run 1 rfl ?_; refine TL.nil ?_; rw [← hn2] at hk; exact K.next (i_3 + 1) hk (by omega) (.c (.c (.c .nil))) (List.Sublist.refl _)
      · have p4 := of_decide_eq_false h4; rw [zar (by omega), ← hkk2] at hk; (try dsimp only at hk); refine T.exit (K.ab (K.ab (K.ad ?_))); exact K.ai () hk .nil (List.Sublist.refl _)
  · rintro _ hk; rw [← hk1] at hk; (try dsimp only at hk); refine T.sr ?_; refine TL.run 1 rfl ?_; refine TL.ns (T.ret ?_); obtain rfl := Option.some.inj hk; exact K.aj rfl rfl (fun w' hw => ⟨rfl, hw.isBelow⟩)
def zbQ (x_ : GPair) : List Int :=
  [x_.A, x_.B, x_.Offset, x_.Low, x_.High]
theorem zey (F0 : Frz) (w : World) (hF0 : F0.At w) (x_ : GPair) : Calls Tryz.prog 69 #[.agg [.int .i64 x_.A, .int .i64 x_.B, .int .i64 x_.Offset, .int .i64 x_.Low, .int .i64 x_.High].toArray] w fun e w' => ∃ (y : Value) (G : Frz), (SlC G y 1 ((zbQ x_).map eI)) ∧ e = .returned (y) ∧ Fx F0 w G w' := by
  obtain ⟨r, hk⟩ : ∃ r, zbQ x_ = r := ⟨_, rfl⟩; rw [hk]; unfold zbQ at hk; obtain ⟨S0, F1, rfl, hS0, hp0⟩ := zal hF0; refine zam Tryz.func69 rfl rfl rfl hp0 ?_; refine T.sr ?_; refine TL.e (Ew.aA rfl rfl) ?_; rintro _ _ ⟨g1, rfl, rfl⟩; refine TL.run 1 rfl ?_; refine TL.nx ?_; refine TL.y (Yv.fieldAddr rfl rfl) ?_; refine TL.y (Yv.aa 0 rfl rfl rfl rfl) ?_; refine TL.y (Yv.fieldAddr rfl rfl) ?_; refine TL.y (Yv.aa 0 rfl rfl rfl rfl) ?_; refine TL.y (Yv.fieldAddr rfl rfl) ?_; refine TL.y (Yv.aa 0 rfl rfl rfl rfl) ?_; refine TL.y (Yv.fieldAddr rfl rfl) ?_; refine TL.y (Yv.aa 0 rfl rfl rfl rfl) ?_; refine TL.y (Yv.fieldAddr rfl rfl) ?_; refine TL.y (Yv.aa 0 rfl rfl rfl rfl) ?_; refine TL.e (Ew.buildSlice rfl rfl rfl (by decide)) ?_; rintro _ _ ⟨g13, rfl, rfl⟩; refine TL.run 1 rfl ?_; refine TL.ns (T.ret ?_); refine K.ay (fun w hw => hw.freezeR (i := 2) (j := 0) (by decide) rfl rfl) ?_; rintro F2 ⟨le1_2, hz2⟩; dsimp only [List.set, List.eraseIdx]; have hf2 : SlC F2.toFrz (.slice (some ⟨g13, 0, none⟩) 5 5) 1 ([x_.A, x_.B, x_.Offset, x_.Low, x_.High].map eI) := (SlK.lit hz2 rfl (Nat.le_refl _) (by decide)).toF (xs := [x_.A, x_.B, x_.Offset, x_.Low, x_.High]) rfl (fun _ => rfl); subst hk; exact K.aj rfl rfl (fun w' hw => ⟨(.slice (some ⟨g13, 0, none⟩) 5 5), F2.toFrz, hf2, rfl, Fx.of hw (i := 1) rfl hS0 le1_2⟩)
def za0 (x_ : GLoad) : List Int :=
  [x_.To, x_.From, x_.Weight, x_.Low, x_.High]
theorem zdK (F0 : Frz) (w : World) (hF0 : F0.At w) (x_ : GLoad) : Calls Tryz.prog 70 #[.agg [.int .i64 x_.To, .int .i64 x_.From, .int .i64 x_.Weight, .int .i64 x_.Low, .int .i64 x_.High].toArray] w fun e w' => ∃ (y : Value) (G : Frz), (SlC G y 1 ((za0 x_).map eI)) ∧ e = .returned (y) ∧ Fx F0 w G w' := by
  obtain ⟨r, hk⟩ : ∃ r, za0 x_ = r := ⟨_, rfl⟩; rw [hk]; unfold za0 at hk; obtain ⟨S0, F1, rfl, hS0, hp0⟩ := zal hF0; refine zam Tryz.func70 rfl rfl rfl hp0 ?_; refine T.sr ?_; refine TL.e (Ew.aA rfl rfl) ?_; rintro _ _ ⟨g1, rfl, rfl⟩; refine TL.run 1 rfl ?_; refine TL.nx ?_; refine TL.y (Yv.fieldAddr rfl rfl) ?_; refine TL.y (Yv.aa 0 rfl rfl rfl rfl) ?_; refine TL.y (Yv.fieldAddr rfl rfl) ?_; refine TL.y (Yv.aa 0 rfl rfl rfl rfl) ?_; refine TL.y (Yv.fieldAddr rfl rfl) ?_; refine TL.y (Yv.aa 0 rfl rfl rfl rfl) ?_; refine TL.y (Yv.fieldAddr rfl rfl) ?_; refine TL.y (Yv.aa 0 rfl rfl rfl rfl) ?_; refine TL.y (Yv.fieldAddr rfl rfl) ?_; refine TL.y (Yv.aa 0 rfl rfl rfl rfl) ?_; refine TL.e (Ew.buildSlice rfl rfl rfl (by decide)) ?_; rintro _ _ ⟨g13, rfl, rfl⟩; refine TL.run 1 rfl ?_; refine TL.ns (T.ret ?_); refine K.ay (fun w hw => hw.freezeR (i := 2) (j := 0) (by decide) rfl rfl) ?_; rintro F2 ⟨le1_2, hz2⟩; dsimp only [List.set, List.eraseIdx]; have hf2 : SlC F2.toFrz (.slice (some ⟨g13, 0, none⟩) 5 5) 1 ([x_.To, x_.From, x_.Weight, x_.Low, x_.High].map eI) := (SlK.lit hz2 rfl (Nat.le_refl _) (by decide)).toF (xs := [x_.To, x_.From, x_.Weight, x_.Low, x_.High]) rfl (fun _ => rfl); subst hk; exact K.aj rfl rfl (fun w' hw => ⟨(.slice (some ⟨g13, 0, none⟩) 5 5), F2.toFrz, hf2, rfl, Fx.of hw (i := 1) rfl hS0 le1_2⟩)
def za5 (x_ : GCap) : List Int :=
  [x_.Station, x_.Max, x_.Low, x_.High]
theorem zdX (F0 : Frz) (w : World) (hF0 : F0.At w) (x_ : GCap) : Calls Tryz.prog 71 #[.agg [.int .i64 x_.Station, .int .i64 x_.Max, .int .i64 x_.Low, .int .i64 x_.High].toArray] w fun e w' => ∃ (y : Value) (G : Frz), (SlC G y 1 ((za5 x_).map eI)) ∧ e = .returned (y) ∧ Fx F0 w G w' := by
  obtain ⟨r, hk⟩ : ∃ r, za5 x_ = r := ⟨_, rfl⟩; rw [hk]; unfold za5 at hk; obtain ⟨S0, F1, rfl, hS0, hp0⟩ := zal hF0; refine zam Tryz.func71 rfl rfl rfl hp0 ?_; refine T.sr ?_; refine TL.e (Ew.aA rfl rfl) ?_; rintro _ _ ⟨g1, rfl, rfl⟩; refine TL.run 1 rfl ?_; refine TL.nx ?_; refine TL.y (Yv.fieldAddr rfl rfl) ?_; refine TL.y (Yv.aa 0 rfl rfl rfl rfl) ?_; refine TL.y (Yv.fieldAddr rfl rfl) ?_; refine TL.y (Yv.aa 0 rfl rfl rfl rfl) ?_; refine TL.y (Yv.fieldAddr rfl rfl) ?_; refine TL.y (Yv.aa 0 rfl rfl rfl rfl) ?_; refine TL.y (Yv.fieldAddr rfl rfl) ?_; refine TL.y (Yv.aa 0 rfl rfl rfl rfl) ?_; refine TL.e (Ew.buildSlice rfl rfl rfl (by decide)) ?_; rintro _ _ ⟨g11, rfl, rfl⟩; refine TL.run 1 rfl ?_; refine TL.ns (T.ret ?_); refine K.ay (fun w hw => hw.freezeR (i := 2) (j := 0) (by decide) rfl rfl) ?_; rintro F2 ⟨le1_2, hz2⟩; dsimp only [List.set, List.eraseIdx]; have hf2 : SlC F2.toFrz (.slice (some ⟨g11, 0, none⟩) 4 4) 1 ([x_.Station, x_.Max, x_.Low, x_.High].map eI) := (SlK.lit hz2 rfl (Nat.le_refl _) (by decide)).toF (xs := [x_.Station, x_.Max, x_.Low, x_.High]) rfl (fun _ => rfl); subst hk; exact K.aj rfl rfl (fun w' hw => ⟨(.slice (some ⟨g11, 0, none⟩) 4 4), F2.toFrz, hf2, rfl, Fx.of hw (i := 1) rfl hS0 le1_2⟩)
structure GSet where
  words : Vec 8 (BitVec 64)
deriving DecidableEq, Inhabited
abbrev GSet.enc (x : GSet) : List Value := (x.words.1.map U)
theorem GSet.len (x : GSet) : (GSet.enc x).length = 8 := Vec.len
def zbz (i : Int) : Bool :=
  ((decide (0 ≤ i)) && (decide (i < 512)))
theorem zd8 (F0 : Frz) (w : World) (hF0 : F0.At w) (i : Int) : Calls Tryz.prog 113 #[.int .i64 i] w fun e w' => e = .returned (.bool (zbz i)) ∧ Below w.heap.size w w' := by
  obtain ⟨r, hk⟩ : ∃ r, zbz i = r := ⟨_, rfl⟩; rw [hk]; unfold zbz at hk; obtain ⟨S0, F1, rfl, hS0, hp0⟩ := zal hF0; refine zam Tryz.func113 rfl rfl rfl hp0 ?_; refine T.sr ?_; refine TL.run 1 rfl ?_; refine TL.ns (T.seq ?_); refine T.af (ι := Unit) (fun z => [(2, .bool ((decide (0 ≤ i)) && (decide (i < 512))))]) (fun z => [.fr F1]) (fun z => True) ?_ ?_
  · refine T.region ?_; refine TL.run 3 rfl ?_; refine TL.gs rfl rfl rfl (fun h1 => ?_) (fun h1 => ?_)
    · have p1 := of_decide_eq_true h1; refine TL.run 4 rfl ?_; refine TL.nil ?_; exact K.ai () trivial (.b (zdE h1) .nil) (List.Sublist.refl _)
    · have p1 := of_decide_eq_false h1; refine TL.run 4 rfl ?_; refine TL.nil ?_; exact K.ai () trivial (.b (zaG h1).symm .nil) (List.Sublist.refl _)
  · rintro _ _; refine T.ret ?_; subst hk; exact K.aj rfl rfl (fun w' hw => ⟨rfl, hw.isBelow⟩)
def zc3 (l : List Int) : Option (GSet × Int) :=
  zaH (fun (s3 : Vec 8 (BitVec 64) × Vec 8 (BitVec 64)) =>
    some ((GSet.mk s3.2), 0))
  (fun k3 =>
    zag (fun (i_7 : Nat) (next6 : (Vec 8 (BitVec 64) × Vec 8 (BitVec 64)) → Option (GSet × Int)) (s6 : Vec 8 (BitVec 64) × Vec 8 (BitVec 64)) =>
      (bif !(zbz (nth l i_7)) then
        some ((GSet.mk (Vec.fill 8 (0#64))), 2)
        else
        grd (0 ≤ (nth l i_7) ∧ (nth l i_7) ≤ 9223372036854775807 ∧ 1 ≤ (64 : Int)) <|
        grd (0 ≤ ((nth l i_7) / 64) ∧ ((nth l i_7) / 64) < (8 : Int)) <|
        grd (0 ≤ (nth l i_7) ∧ 1 ≤ (64 : Int)) <|
        grd (0 ≤ ((nth l i_7) % 64) ∧ ((nth l i_7) % 64) < (64 : Int)) <|
        next6 (s6.1, (Vec.put s6.2 (((nth l i_7) / 64).toNat) ((Vec.get s6.2 (((nth l i_7) / 64).toNat)) ||| ((1#64) <<< (((nth l i_7) % 64).toNat)))))))
    (fun (s6 : Vec 8 (BitVec 64) × Vec 8 (BitVec 64)) =>
      k3 (s6.1, s6.2)) (l.length - 0) 0 ((Vec.fill 8 (0#64)), (Vec.fill 8 (0#64))))
theorem zfB (F0 : Frz) (w : World) (hF0 : F0.At w) (l : List Int) (vl : Value) (hl : SlC F0 vl 1 (l.map eI)) (r : GSet × Int) (hr : zc3 l = some r) : Calls Tryz.prog 46 #[vl] w fun e w' => e = .returned (.tuple #[.agg (r.1.words.1.map U).toArray, .int .i64 r.2]) ∧ Below w.heap.size w w' := by
  have hk := hr; unfold zc3 at hk; haveI := hl.oneC; obtain ⟨S0, F1, rfl, hS0, hp0⟩ := zal hF0; refine zam Tryz.func46 rfl rfl rfl hp0 ?_; refine T.sr ?_; refine TL.e (Ew.aF (l := ((Vec.fill 8 (0#64)).1.map U)) rfl (by kernel_rfl)) ?_; rintro _ _ ⟨g2, rfl, rfl⟩; refine TL.run 1 rfl ?_; refine TL.nx ?_; refine TL.e (Ew.aF (l := ((Vec.fill 8 (0#64)).1.map U)) rfl (by kernel_rfl)) ?_; rintro _ _ ⟨g4, rfl, rfl⟩; refine TL.ns (T.seq (T.sr ?_)); refine TL.run 1 rfl ?_; refine TL.y (Yv.an rfl rfl hl (List.length_map _)) ?_; have hm8 : l.length ≤ 9223372036854775807 := (List.length_map _) ▸ hl.max; refine TL.run 1 rfl ?_; refine TL.ns ?_; have hq := zaf hk; clear hk; obtain ⟨k3, hk3, hk⟩ := hq; (try dsimp only at hk); refine T.af (ι := Vec 8 (BitVec 64) × Vec 8 (BitVec 64)) (fun z => [(2, .pointer (some ⟨g2, 0, none⟩)), (4, .pointer (some ⟨g4, 0, none⟩))]) (fun z => [.row g2 91 (z.1.1.map U), .row g4 91 (z.2.1.map U), .fr F1]) (fun z => k3 (z.1, z.2) = some r) ?_ ?_
  · have hq := zah hk; clear hk; obtain ⟨f6, kk6, hf6, hkk6, hk⟩ := hq; refine T.block ?_; refine T.pick [1, 0, 2] rfl (by decide) ?_; refine T.loop (ι := Nat × Vec 8 (BitVec 64) × Vec 8 (BitVec 64)) (fun z => [(2, .pointer (some ⟨g2, 0, none⟩)), (4, .pointer (some ⟨g4, 0, none⟩)), (7, vl), (8, .int .i64 (l.length : Int)), (9, .int .i64 (z.1 : Int))]) (fun z => [.row g2 91 (z.2.1.1.map U), .row g4 91 (z.2.2.1.map U), .fr F1]) (fun z => zag f6 kk6 (l.length - z.1) z.1 (z.2.1, z.2.2) = some r) (fun z => l.length - z.1) (0, (Vec.fill 8 (0#64)), (Vec.fill 8 (0#64))) ?_ ?_ ?_ ?_
    · exact hk
    · exact (.c (.c (.c (.c (.c .nil)))))
    · exact List.Sublist.refl _
    · rintro ⟨i_7, c_4, c_5⟩ hk; (try dsimp only at *); refine T.sr ?_; refine TL.run 1 rfl ?_; refine TL.ns (T.seq ?_); refine T.cond rfl (fun h8 => ?_) (fun h8 => ?_)
      · have p8 := of_decide_eq_true h8; rw [zas (by omega)] at hk; generalize hn6 : zag f6 kk6 (l.length - (i_7 + 1)) (i_7 + 1) = next6 at hk; rw [← hf6] at hk; (try dsimp only at hk); refine T.skip (K.seq (T.seq (T.block (T.sr ?_)))); refine TL.y (Yv.al (i := i_7) rfl rfl rfl hl (List.length_map _) rfl (by omega)) ?_; refine TL.y (Yv.as 2 (i := i_7) (j := 0) rfl rfl rfl hl (by omega) rfl rfl) ?_; refine TL.run 1 rfl ?_; refine TL.ns (T.seq (T.sr ?_)); refine TL.run 1 rfl ?_; refine TL.e (Ew.ag rfl rfl rfl (fun w hw => zd8 _ w (hw.fr (i := 2) rfl) (nth l i_7))) ?_; rintro _ _ ⟨rfl, rfl⟩; refine TL.run 1 rfl ?_; refine TL.ns ?_; refine T.cond rfl (fun h9 => ?_) (fun h9 => ?_)
        · replace hk := zac hk h9; refine T.sr ?_; refine TL.y ((Yv.build rfl rfl).eq (v := .agg ((Vec.fill 8 (0#64)).1.map U).toArray) (by kernel_rfl)) ?_; refine TL.e0 (Ew.ah 0 rfl rfl rfl rfl Vec.len (Vec.len.trans Vec.len.symm)) ?_; rintro _ _ ⟨rfl, rfl⟩; refine TL.run 1 rfl ?_; refine TL.ns (T.ret (K.then_ret (K.ae (K.then_ret (K.then_ret (K.ae (K.then_ret ?_))))))); obtain rfl := Option.some.inj hk; exact K.aD 0 rfl rfl rfl rfl Vec.len (fun w' hw => ⟨rfl, hw.isBelow⟩)
        · replace hk := zab hk h9; refine T.skip (K.seq ?_); have hq : (0 ≤ (nth l i_7) ∧ (nth l i_7) ≤ 9223372036854775807 ∧ 1 ≤ (64 : Int)) ∧ _ := zaj hk; clear hk; obtain ⟨g18, hk⟩ := hq; have hq : (0 ≤ ((nth l i_7) / 64) ∧ ((nth l i_7) / 64) < (8 : Int)) ∧ _ := zaj hk; clear hk; obtain ⟨g20, hk⟩ := hq; have hq : (0 ≤ (nth l i_7) ∧ 1 ≤ (64 : Int)) ∧ _ := zaj hk; clear hk; obtain ⟨g23, hk⟩ := hq; have hq : (0 ≤ ((nth l i_7) % 64) ∧ ((nth l i_7) % 64) < (64 : Int)) ∧ _ := zaj hk; clear hk; obtain ⟨g24, hk⟩ := hq; (try dsimp only at hk); refine T.ax (.still 0 (.still 1 (.still 2 (.still 3 (.still 5 (.still 6 (.still 7 (.still 9 (.eff 4 (.still 8 (.still 10 (.eff 11 .done)))))))))))) [.row g2 91 (c_4.1.map U), .fr F1] (by kernel_rfl) Sx ?_; refine TS.run 1 rfl ?_; refine TS.y rfl (Yv.ba rfl rfl rfl g18) ?_; refine TS.y rfl (Yv.fieldAddr rfl rfl) ?_; refine TS.y rfl (Yv.aB (i := ((nth l i_7) / 64).toNat) rfl rfl rfl (by omega) (by omega)) ?_; refine TS.run 1 rfl ?_; refine TS.y rfl (Yv.bb rfl rfl rfl g23) ?_; refine TS.y rfl (Yv.bl (a := 1#64) (((nth l i_7) % 64).toNat) rfl rfl rfl (by omega) (by omega)) ?_; refine TS.y rfl (Yv.fieldAddr rfl rfl) ?_; refine TS.eff ?_; refine TSo.aS rfl (Wt.none rfl) rfl rfl (Yv.aa 1 rfl rfl rfl (zd5 (by omega) (Vec.cell (i := ((nth l i_7) / 64).toNat) (by omega)))) (fun w hw => hw.sub Sx) ?_; refine TS.y rfl (Yv.bR (a := (Vec.get c_5 (((nth l i_7) / 64).toNat))) (b := ((1#64) <<< (((nth l i_7) % 64).toNat))) rfl rfl rfl) ?_; refine TS.y rfl (Yv.aB (i := ((nth l i_7) / 64).toNat) rfl rfl rfl (by omega) (by omega)) ?_; refine TS.eff ?_; refine TSo.aL rfl (Wt.none rfl) rfl (Ew.aZ 1 ((Vec.put c_5 (((nth l i_7) / 64).toNat) ((Vec.get c_5 (((nth l i_7) / 64).toNat)) ||| ((1#64) <<< (((nth l i_7) % 64).toNat)))).1.map U) rfl rfl rfl rfl (by rw [Vec.len]; first | omega | (simp only [List.length_cons, List.length_nil]; omega)) (zi7 (by omega) (Vec.upd (x := c_5) (f := U) (i := ((nth l i_7) / 64).toNat) (v := ((Vec.get c_5 (((nth l i_7) / 64).toNat)) ||| ((1#64) <<< (((nth l i_7) % 64).toNat)))) (by omega)))) ?_; rintro _ _ ⟨rfl, rfl⟩; refine ⟨(fun w hw => hw.sub Sx), ?_⟩; refine TS.done ?_; refine K.ac (K.seq (T.region ?_)); refine TL.y (Yv.ao rfl rfl rfl (by omega)) ?_; refine TL.run 1 rfl ?_; refine TL.nil ?_; rw [← hn6] at hk; exact K.next ((i_7 + 1), c_4, (Vec.put c_5 (((nth l i_7) / 64).toNat) ((Vec.get c_5 (((nth l i_7) / 64).toNat)) ||| ((1#64) <<< (((nth l i_7) % 64).toNat))))) hk (by dsimp only; omega) (.c (.c (.c (.c (.c .nil))))) (List.Sublist.refl _)
      · have p8 := of_decide_eq_false h8; rw [zar (by omega), ← hkk6] at hk; (try dsimp only at hk); refine T.exit (K.ab (K.ab (K.ad ?_))); exact K.ai (c_4, c_5) hk (.c (.c .nil)) (List.Sublist.refl _)
  · rintro ⟨c_1, c_2⟩ hk; (try dsimp only at *); rw [← hk3] at hk; (try dsimp only at hk); refine T.sr ?_; refine TL.y (Yv.am 1 rfl rfl rfl Vec.len) ?_; refine TL.e0 (Ew.ah 0 rfl rfl rfl rfl Vec.len (Vec.len.trans Vec.len.symm)) ?_; rintro _ _ ⟨rfl, rfl⟩; refine TL.run 1 rfl ?_; refine TL.ns (T.ret ?_); obtain rfl := Option.some.inj hk; exact K.aD 0 rfl rfl rfl rfl Vec.len (fun w' hw => ⟨rfl, hw.isBelow⟩)
def zbk (s : GSet) (o : GSet) : Bool :=
  zaH (fun (_ : Unit) =>
    true)
  (fun k1 =>
    zag (fun (i_3 : Nat) (next2 : Unit → Bool) (_ : Unit) =>
      (bif decide (¬ (((Vec.get s.words i_3) &&& ~~~(Vec.get o.words i_3)).toNat : Int) = ((0#64).toNat : Int)) then
        false
        else
        next2 ()))
    (fun (_ : Unit) =>
      k1 ()) (8 - 0) 0 ())
theorem zdb (F0 : Frz) (w : World) (hF0 : F0.At w) (s : GSet) (o : GSet) : Calls Tryz.prog 47 #[.agg (s.words.1.map U).toArray, .agg (o.words.1.map U).toArray] w fun e w' => e = .returned (.bool (zbk s o)) ∧ Below w.heap.size w w' := by
  obtain ⟨r, hk⟩ : ∃ r, zbk s o = r := ⟨_, rfl⟩; rw [hk]; unfold zbk at hk; obtain ⟨S0, F1, rfl, hS0, hp0⟩ := zal hF0; refine zam Tryz.func47 rfl rfl rfl hp0 ?_; refine T.sr ?_; refine TL.e (Ew.aA rfl rfl) ?_; rintro _ _ ⟨g2, rfl, rfl⟩; refine TL.e (Ew.aA rfl rfl) ?_; rintro _ _ ⟨g3, rfl, rfl⟩; refine TL.run 1 rfl ?_; refine TL.ns (T.seq (T.sr ?_)); refine TL.y (Yv.fieldAddr rfl rfl) ?_; refine TL.y (Yv.am 1 rfl rfl rfl Vec.len) ?_; refine TL.run 1 rfl ?_; refine TL.ns ?_; have hq := zaf hk; clear hk; obtain ⟨k1, hk1, hk⟩ := hq; (try dsimp only at hk); refine T.af (ι := Unit) (fun z => []) (fun z => [.fr F1]) (fun z => k1 () = r) ?_ ?_
  · have hq := zah hk; clear hk; obtain ⟨f2, kk2, hf2, hkk2, hk⟩ := hq; refine T.block ?_; refine T.pick [0, 2] rfl (by decide) ?_; refine T.loop (ι := Nat) (fun z => [(3, .pointer (some ⟨g3, 0, none⟩)), (8, .agg (s.words.1.map U).toArray), (9, .int .i64 (z : Int))]) (fun z => [.row g3 91 (o.words.1.map U), .fr F1]) (fun z => zag f2 kk2 (8 - z) z () = r) (fun z => 8 - z) 0 ?_ ?_ ?_ ?_
    · exact hk
    · exact (.c (.c (.c .nil)))
    · exact List.Sublist.refl _
    · rintro i_3 hk; refine T.sr ?_; refine TL.run 1 rfl ?_; refine TL.ns (T.seq ?_); refine T.cond rfl (fun h4 => ?_) (fun h4 => ?_)
      · have p4 := of_decide_eq_true h4; rw [zas (by omega)] at hk; generalize hn2 : zag f2 kk2 (8 - (i_3 + 1)) (i_3 + 1) = next2 at hk; rw [← hf2] at hk; (try dsimp only at hk); refine T.skip (K.seq (T.seq (T.block (T.sr ?_)))); refine TL.run 1 rfl ?_; refine TL.y (Yv.bE (i := i_3) rfl rfl rfl rfl (by omega) (Vec.cell (by omega))) ?_; refine TL.run 2 rfl ?_; refine TL.nx ?_; refine TL.run 2 rfl ?_; refine TL.y (Yv.fieldAddr rfl rfl) ?_; refine TL.y (Yv.aB (i := i_3) rfl rfl rfl rfl (by omega)) ?_; refine TL.y (Yv.aa 0 rfl rfl rfl (zd5 (by omega) (Vec.cell (i := i_3) (by omega)))) ?_; refine TL.y (Yv.bu rfl rfl rfl) ?_; refine TL.run 1 rfl ?_; refine TL.ns ?_; refine T.cond rfl (fun h5 => ?_) (fun h5 => ?_)
        · replace hk := zac hk h5; refine T.sr ?_; refine TL.run 1 rfl ?_; refine TL.ns (T.ret (K.ae (K.then_ret (K.then_ret (K.ae (K.then_ret ?_)))))); subst hk; exact K.aj rfl rfl (fun w' hw => ⟨rfl, hw.isBelow⟩)
        · replace hk := zab hk h5; refine T.skip (K.ac (K.seq (T.region ?_))); refine TL.y (Yv.ao rfl rfl rfl (by omega)) ?_; refine TL.run 1 rfl ?_; refine TL.nil ?_; rw [← hn2] at hk; exact K.next (i_3 + 1) hk (by omega) (.c (.c (.c .nil))) (List.Sublist.refl _)
      · have p4 := of_decide_eq_false h4; rw [zar (by omega), ← hkk2] at hk; (try dsimp only at hk); refine T.exit (K.ab (K.ab (K.ad ?_))); refine K.pick [1] rfl (by decide) ?_; exact K.ai () hk .nil (List.Sublist.refl _)
  · rintro _ hk; rw [← hk1] at hk; (try dsimp only at hk); refine T.sr ?_; refine TL.run 1 rfl ?_; refine TL.ns (T.ret ?_); subst hk; exact K.aj rfl rfl (fun w' hw => ⟨rfl, hw.isBelow⟩)
def zao (s : GSet) (i : Int) : Option Bool :=
  zaH (fun (x_1 : Bool) =>
    some x_1)
  (fun k2 =>
    (bif (zbz i) then
      grd (0 ≤ i ∧ i ≤ 9223372036854775807 ∧ 1 ≤ (64 : Int)) <|
      grd (0 ≤ (i / 64) ∧ (i / 64) < (8 : Int)) <|
      grd (0 ≤ i ∧ 1 ≤ (64 : Int)) <|
      grd (0 ≤ (i % 64) ∧ (i % 64) < (64 : Int)) <|
      k2 (decide (((((Vec.get s.words ((i / 64).toNat)) >>> ((i % 64).toNat)) &&& (1#64)).toNat : Int) = ((1#64).toNat : Int)))
      else
      k2 false))
theorem zax (F0 : Frz) (w : World) (hF0 : F0.At w) (s : GSet) (i : Int) (r : Bool) (hr : zao s i = some r) : Calls Tryz.prog 49 #[.agg (s.words.1.map U).toArray, .int .i64 i] w fun e w' => e = .returned (.bool r) ∧ Below w.heap.size w w' := by
  have hk := hr; unfold zao at hk; obtain ⟨S0, F1, rfl, hS0, hp0⟩ := zal hF0; refine zam Tryz.func49 rfl rfl rfl hp0 ?_; refine T.sr ?_; refine TL.e (Ew.aA rfl rfl) ?_; rintro _ _ ⟨g2, rfl, rfl⟩; refine TL.run 1 rfl ?_; refine TL.ns (T.seq ?_); (try dsimp only at hk); have hq := zaf hk; clear hk; obtain ⟨k2, hk2, hk⟩ := hq; (try dsimp only at hk); refine T.af (ι := Bool) (fun z => [(4, .bool z)]) (fun z => [.fr F1]) (fun z => k2 z = some r) ?_ ?_
  · refine T.region ?_; refine TL.run 1 rfl ?_; refine TL.e (Ew.ag rfl rfl rfl (fun w hw => zd8 _ w (hw.fr (i := 1) rfl) i)) ?_; rintro _ _ ⟨rfl, rfl⟩; refine TL.run 1 rfl ?_; refine TL.gs rfl rfl rfl (fun h3 => ?_) (fun h3 => ?_)
    · replace hk := zac hk h3; refine TL.run 1 rfl ?_; have hq : (0 ≤ i ∧ i ≤ 9223372036854775807 ∧ 1 ≤ (64 : Int)) ∧ _ := zaj hk; clear hk; obtain ⟨g9, hk⟩ := hq; refine TL.y (Yv.ba rfl rfl rfl g9) ?_; refine TL.y (Yv.fieldAddr rfl rfl) ?_; have hq : (0 ≤ (i / 64) ∧ (i / 64) < (8 : Int)) ∧ _ := zaj hk; clear hk; obtain ⟨g11, hk⟩ := hq; refine TL.y (Yv.aB (i := (i / 64).toNat) rfl rfl rfl (by omega) (by omega)) ?_; refine TL.y (Yv.aa 0 rfl rfl rfl (zd5 (by omega) (Vec.cell (i := (i / 64).toNat) (by omega)))) ?_; refine TL.run 1 rfl ?_; have hq : (0 ≤ i ∧ 1 ≤ (64 : Int)) ∧ _ := zaj hk; clear hk; obtain ⟨g14, hk⟩ := hq; refine TL.y (Yv.bb rfl rfl rfl g14) ?_; have hq : (0 ≤ (i % 64) ∧ (i % 64) < (64 : Int)) ∧ _ := zaj hk; clear hk; obtain ⟨g15, hk⟩ := hq; refine TL.y (Yv.bv (a := (Vec.get s.words ((i / 64).toNat))) ((i % 64).toNat) rfl rfl rfl (by omega) (by omega)) ?_; refine TL.y (Yv.bI (a := ((Vec.get s.words ((i / 64).toNat)) >>> ((i % 64).toNat))) (b := 1#64) rfl rfl rfl) ?_; refine TL.run 3 rfl ?_; refine TL.nil ?_; refine K.pick [1] rfl (by decide) ?_; exact K.ai (decide (((((Vec.get s.words ((i / 64).toNat)) >>> ((i % 64).toNat)) &&& (1#64)).toNat : Int) = ((1#64).toNat : Int))) hk (.c .nil) (List.Sublist.refl _)
    · replace hk := zab hk h3; refine TL.run 12 rfl ?_; refine TL.nil ?_; refine K.pick [1] rfl (by decide) ?_; exact K.ai false hk (.c .nil) (List.Sublist.refl _)
  · rintro x_1 hk; rw [← hk2] at hk; (try dsimp only at hk); refine T.ret ?_; obtain rfl := Option.some.inj hk; exact K.aj rfl rfl (fun w' hw => ⟨rfl, hw.isBelow⟩)
def zbT (x_ : Int) : Bool :=
  (decide (¬ x_ = x_))
theorem zd6 (F0 : Frz) (w : World) (hF0 : F0.At w) (x_ : Int) : Calls Tryz.prog 117 #[.int .i64 x_] w fun e w' => e = .returned (.bool (zbT x_)) ∧ Below w.heap.size w w' := by
  obtain ⟨r, hk⟩ : ∃ r, zbT x_ = r := ⟨_, rfl⟩; rw [hk]; unfold zbT at hk; obtain ⟨S0, F1, rfl, hS0, hp0⟩ := zal hF0; refine zam Tryz.func117 rfl rfl rfl hp0 ?_; refine T.sr ?_; refine TL.run 1 rfl ?_; refine TL.nx ?_; refine TL.run 4 rfl ?_; refine TL.ns (T.ret ?_); subst hk; exact K.aj rfl rfl (fun w' hw => ⟨rfl, hw.isBelow⟩)
def zad (x_ : Int) (y : Int) : Int :=
  (bif (zbT x_) then
    (bif (zbT y) then
      0
      else
      (-1))
    else
    (bif (zbT y) then
      1
      else
      (bif decide (x_ < y) then
        (-1)
        else
        (bif decide (y < x_) then
          1
          else
          0))))
theorem zaK (F0 : Frz) (w : World) (hF0 : F0.At w) (x_ : Int) (y : Int) : Calls Tryz.prog 75 #[.int .i64 x_, .int .i64 y] w fun e w' => e = .returned (.int .i64 (zad x_ y)) ∧ Below w.heap.size w w' := by
  obtain ⟨r, hk⟩ : ∃ r, zad x_ y = r := ⟨_, rfl⟩; rw [hk]; unfold zad at hk; obtain ⟨S0, F1, rfl, hS0, hp0⟩ := zal hF0; refine zam Tryz.func75 rfl rfl rfl hp0 ?_; refine T.sr ?_; refine TL.run 1 rfl ?_; refine TL.nx ?_; refine TL.run 1 rfl ?_; refine TL.e (Ew.ag rfl rfl rfl (fun w hw => zd6 _ w (hw.fr (i := 0) rfl) x_)) ?_; rintro _ _ ⟨rfl, rfl⟩; refine TL.run 1 rfl ?_; refine TL.nx ?_; refine TL.run 1 rfl ?_; refine TL.e (Ew.ag rfl rfl rfl (fun w hw => zd6 _ w (hw.fr (i := 0) rfl) y)) ?_; rintro _ _ ⟨rfl, rfl⟩; refine TL.run 1 rfl ?_; refine TL.ns (T.seq (T.sr ?_)); refine TL.run 1 rfl ?_; refine TL.ns ?_; refine T.cond rfl (fun h1 => ?_) (fun h1 => ?_)
  · replace hk := zac hk h1; refine T.seq (T.sr ?_); refine TL.run 1 rfl ?_; refine TL.ns ?_; refine T.cond rfl (fun h2 => ?_) (fun h2 => ?_)
    · replace hk := zac hk h2; refine T.sr ?_; refine TL.run 1 rfl ?_; refine TL.ns (T.ret (K.then_ret (K.then_ret ?_))); subst hk; exact K.aj rfl rfl (fun w' hw => ⟨rfl, hw.isBelow⟩)
    · replace hk := zab hk h2; refine T.skip (K.seq (T.sr ?_)); refine TL.run 1 rfl ?_; refine TL.ns (T.ret (K.then_ret ?_)); subst hk; exact K.aj rfl rfl (fun w' hw => ⟨rfl, hw.isBelow⟩)
  · replace hk := zab hk h1; refine T.skip (K.seq (T.seq (T.sr ?_))); refine TL.run 1 rfl ?_; refine TL.ns ?_; refine T.cond rfl (fun h3 => ?_) (fun h3 => ?_)
    · replace hk := zac hk h3; refine T.sr ?_; refine TL.run 1 rfl ?_; refine TL.ns (T.ret (K.then_ret ?_)); subst hk; exact K.aj rfl rfl (fun w' hw => ⟨rfl, hw.isBelow⟩)
    · replace hk := zab hk h3; refine T.skip (K.seq (T.seq (T.sr ?_))); refine TL.run 3 rfl ?_; refine TL.ns ?_; refine T.cond rfl (fun h4 => ?_) (fun h4 => ?_)
      · have p4 := of_decide_eq_true h4; replace hk := zac hk h4; refine T.sr ?_; refine TL.run 1 rfl ?_; refine TL.ns (T.ret (K.then_ret ?_)); subst hk; exact K.aj rfl rfl (fun w' hw => ⟨rfl, hw.isBelow⟩)
      · have p4 := of_decide_eq_false h4; replace hk := zab hk h4; refine T.skip (K.seq (T.seq (T.sr ?_))); refine TL.run 3 rfl ?_; refine TL.ns ?_; refine T.cond rfl (fun h5 => ?_) (fun h5 => ?_)
        · have p5 := of_decide_eq_true h5; replace hk := zac hk h5; refine T.sr ?_; refine TL.run 1 rfl ?_; refine TL.ns (T.ret (K.then_ret ?_)); subst hk; exact K.aj rfl rfl (fun w' hw => ⟨rfl, hw.isBelow⟩)
        · have p5 := of_decide_eq_false h5; replace hk := zab hk h5; refine T.skip (K.seq (T.sr ?_)); refine TL.run 1 rfl ?_; refine TL.ns (T.ret ?_); subst hk; exact K.aj rfl rfl (fun w' hw => ⟨rfl, hw.isBelow⟩)
def zcz (vals : List Int) : Int :=
  zaH (fun (_ : Unit) =>
    0)
  (fun k1 =>
    zag (fun (i_3 : Nat) (next2 : Unit → Int) (_ : Unit) =>
      (bif decide (¬ (nth vals i_3) = 0) then
        (nth vals i_3)
        else
        next2 ()))
    (fun (_ : Unit) =>
      k1 ()) (vals.length - 0) 0 ())
theorem zdQ (F0 : Frz) (w : World) (hF0 : F0.At w) (vals : List Int) (vvals : Value) (hvals : SlC F0 vvals 1 (vals.map eI)) : Calls Tryz.prog 115 #[vvals] w fun e w' => e = .returned (.int .i64 (zcz vals)) ∧ Below w.heap.size w w' := by
  obtain ⟨r, hk⟩ : ∃ r, zcz vals = r := ⟨_, rfl⟩; rw [hk]; unfold zcz at hk; haveI := hvals.oneC; obtain ⟨S0, F1, rfl, hS0, hp0⟩ := zal hF0; refine zam Tryz.func115 rfl rfl rfl hp0 ?_; refine T.sr ?_; refine TL.run 1 rfl ?_; refine TL.nx ?_; refine TL.run 1 rfl ?_; refine TL.ns (T.seq (T.sr ?_)); refine TL.run 1 rfl ?_; refine TL.y (Yv.an rfl rfl hvals (List.length_map _)) ?_; have hm7 : vals.length ≤ 9223372036854775807 := (List.length_map _) ▸ hvals.max; refine TL.run 1 rfl ?_; refine TL.ns ?_; have hq := zaf hk; clear hk; obtain ⟨k1, hk1, hk⟩ := hq; (try dsimp only at hk); refine T.af (ι := Unit) (fun z => [(3, .int .i64 0)]) (fun z => [.fr F1]) (fun z => k1 () = r) ?_ ?_
  · have hq := zah hk; clear hk; obtain ⟨f2, kk2, hf2, hkk2, hk⟩ := hq; refine T.block ?_; refine T.loop (ι := Nat) (fun z => [(3, .int .i64 0), (6, vvals), (7, .int .i64 (vals.length : Int)), (8, .int .i64 (z : Int))]) (fun z => [.fr F1]) (fun z => zag f2 kk2 (vals.length - z) z () = r) (fun z => vals.length - z) 0 ?_ ?_ ?_ ?_
    · exact hk
    · exact (.c (.c (.c (.c .nil))))
    · exact List.Sublist.refl _
    · rintro i_3 hk; refine T.sr ?_; refine TL.run 1 rfl ?_; refine TL.ns (T.seq ?_); refine T.cond rfl (fun h4 => ?_) (fun h4 => ?_)
      · have p4 := of_decide_eq_true h4; rw [zas (by omega)] at hk; generalize hn2 : zag f2 kk2 (vals.length - (i_3 + 1)) (i_3 + 1) = next2 at hk; rw [← hf2] at hk; (try dsimp only at hk); refine T.skip (K.seq (T.seq (T.block (T.sr ?_)))); refine TL.y (Yv.al (i := i_3) rfl rfl rfl hvals (List.length_map _) rfl (by omega)) ?_; refine TL.y (Yv.as 0 (i := i_3) (j := 0) rfl rfl rfl hvals (by omega) rfl rfl) ?_; refine TL.run 1 rfl ?_; refine TL.nx ?_; refine TL.run 3 rfl ?_; refine TL.ns ?_; refine T.cond rfl (fun h5 => ?_) (fun h5 => ?_)
        · have p5 := of_decide_eq_true h5; replace hk := zac hk h5; refine T.sr ?_; refine TL.run 2 rfl ?_; refine TL.ns (T.ret (K.ae (K.then_ret (K.then_ret (K.ae (K.then_ret ?_)))))); subst hk; exact K.aj rfl rfl (fun w' hw => ⟨rfl, hw.isBelow⟩)
        · have p5 := of_decide_eq_false h5; replace hk := zab hk h5; refine T.skip (K.ac (K.seq (T.region ?_))); refine TL.y (Yv.ao rfl rfl rfl (by omega)) ?_; refine TL.run 1 rfl ?_; refine TL.nil ?_; rw [← hn2] at hk; exact K.next (i_3 + 1) hk (by omega) (.c (.c (.c (.c .nil)))) (List.Sublist.refl _)
      · have p4 := of_decide_eq_false h4; rw [zar (by omega), ← hkk2] at hk; (try dsimp only at hk); refine T.exit (K.ab (K.ab (K.ad ?_))); exact K.ai () hk (.c .nil) (List.Sublist.refl _)
  · rintro _ hk; rw [← hk1] at hk; (try dsimp only at hk); refine T.sr ?_; refine TL.run 2 rfl ?_; refine TL.ns (T.ret ?_); subst hk; exact K.aj rfl rfl (fun w' hw => ⟨rfl, hw.isBelow⟩)
def zaD (n : Int) (low : Int) (high : Int) : Bool :=
  ((decide (low ≤ n)) && (decide (n ≤ high)))
theorem zbq (F0 : Frz) (w : World) (hF0 : F0.At w) (n : Int) (low : Int) (high : Int) : Calls Tryz.prog 54 #[.int .i64 n, .int .i64 low, .int .i64 high] w fun e w' => e = .returned (.bool (zaD n low high)) ∧ Below w.heap.size w w' := by
  obtain ⟨r, hk⟩ : ∃ r, zaD n low high = r := ⟨_, rfl⟩; rw [hk]; unfold zaD at hk; obtain ⟨S0, F1, rfl, hS0, hp0⟩ := zal hF0; refine zam Tryz.func54 rfl rfl rfl hp0 ?_; refine T.sr ?_; refine TL.run 1 rfl ?_; refine TL.ns (T.seq ?_); refine T.af (ι := Unit) (fun z => [(6, .bool ((decide (low ≤ n)) && (decide (n ≤ high))))]) (fun z => [.fr F1]) (fun z => True) ?_ ?_
  · refine T.region ?_; refine TL.run 4 rfl ?_; refine TL.gs rfl rfl rfl (fun h1 => ?_) (fun h1 => ?_)
    · have p1 := of_decide_eq_true h1; refine TL.run 5 rfl ?_; refine TL.nil ?_; exact K.ai () trivial (.b (zdE h1) .nil) (List.Sublist.refl _)
    · have p1 := of_decide_eq_false h1; refine TL.run 5 rfl ?_; refine TL.nil ?_; exact K.ai () trivial (.b (zaG h1).symm .nil) (List.Sublist.refl _)
  · rintro _ _; refine T.ret ?_; subst hk; exact K.aj rfl rfl (fun w' hw => ⟨rfl, hw.isBelow⟩)
def zai (n : Int) : Bool :=
  (zaD n 0 511)
theorem zbl (F0 : Frz) (w : World) (hF0 : F0.At w) (n : Int) : Calls Tryz.prog 53 #[.int .i64 n] w fun e w' => e = .returned (.bool (zai n)) ∧ Below w.heap.size w w' := by
  obtain ⟨r, hk⟩ : ∃ r, zai n = r := ⟨_, rfl⟩; rw [hk]; unfold zai at hk; obtain ⟨S0, F1, rfl, hS0, hp0⟩ := zal hF0; refine zam Tryz.func53 rfl rfl rfl hp0 ?_; refine T.sr ?_; refine TL.run 1 rfl ?_; refine TL.nx ?_; refine TL.run 1 rfl ?_; refine TL.e (Ew.ag rfl rfl rfl (fun w hw => zbq _ w (hw.fr (i := 0) rfl) n 0 511)) ?_; rintro _ _ ⟨rfl, rfl⟩; refine TL.run 1 rfl ?_; refine TL.ns (T.ret ?_); subst hk; exact K.aj rfl rfl (fun w' hw => ⟨rfl, hw.isBelow⟩)
def zbA (l : List GChoice) : Bool :=
  zaH (fun (_ : Unit) =>
    true)
  (fun k1 =>
    zag (fun (i_3 : Nat) (next2 : Unit → Bool) (_ : Unit) =>
      (bif ((!(zai ((nth l i_3).Station))) || (!(zaD ((nth l i_3).Channel) 2 51))) then
        false
        else
        (bif ((decide (0 < (i_3 : Int))) && (decide ((nth l i_3).Station ≤ (nth l (((i_3 : Int) - 1).toNat)).Station))) then
          false
          else
          next2 ())))
    (fun (_ : Unit) =>
      k1 ()) (l.length - 0) 0 ())
theorem zdB (F0 : Frz) (w : World) (hF0 : F0.At w) (l : List GChoice) (vl : Value) (hl : SlC F0 vl 2 (l.map GChoice.enc)) : Calls Tryz.prog 24 #[vl] w fun e w' => e = .returned (.bool (zbA l)) ∧ Below w.heap.size w w' := by
  obtain ⟨r, hk⟩ : ∃ r, zbA l = r := ⟨_, rfl⟩; rw [hk]; unfold zbA at hk; haveI := hl.oneC; obtain ⟨S0, F1, rfl, hS0, hp0⟩ := zal hF0; refine zam Tryz.func24 rfl rfl rfl hp0 ?_; refine T.sr ?_; refine TL.run 1 rfl ?_; refine TL.ns (T.seq (T.sr ?_)); refine TL.run 1 rfl ?_; refine TL.y (Yv.an rfl rfl hl (List.length_map _)) ?_; have hm6 : l.length ≤ 9223372036854775807 := (List.length_map _) ▸ hl.max; refine TL.run 1 rfl ?_; refine TL.ns ?_; have hq := zaf hk; clear hk; obtain ⟨k1, hk1, hk⟩ := hq; (try dsimp only at hk); refine T.af (ι := Unit) (fun z => []) (fun z => [.fr F1]) (fun z => k1 () = r) ?_ ?_
  · have hq := zah hk; clear hk; obtain ⟨f2, kk2, hf2, hkk2, hk⟩ := hq; refine T.block ?_; refine T.loop (ι := Nat) (fun z => [(0, vl), (5, vl), (6, .int .i64 (l.length : Int)), (7, .int .i64 (z : Int))]) (fun z => [.fr F1]) (fun z => zag f2 kk2 (l.length - z) z () = r) (fun z => l.length - z) 0 ?_ ?_ ?_ ?_
    · exact hk
    · exact (.c (.c (.c (.c .nil))))
    · exact List.Sublist.refl _
    · rintro i_3 hk; refine T.sr ?_; refine TL.run 1 rfl ?_; refine TL.ns (T.seq ?_); refine T.cond rfl (fun h4 => ?_) (fun h4 => ?_)
      · have p4 := of_decide_eq_true h4; rw [zas (by omega)] at hk; generalize hn2 : zag f2 kk2 (l.length - (i_3 + 1)) (i_3 + 1) = next2 at hk; rw [← hf2] at hk; (try dsimp only at hk); refine T.skip (K.seq (T.seq (T.block (T.sr ?_)))); refine TL.run 1 rfl ?_; refine TL.y (Yv.al (i := i_3) rfl rfl rfl hl (List.length_map _) rfl (by omega)) ?_; refine TL.y (Yv.aq 0 (i := i_3) rfl rfl rfl hl (by omega) rfl rfl rfl) ?_; refine TL.e (Ew.alloc rfl) ?_; rintro _ _ ⟨g4, rfl, rfl⟩; refine TL.run 1 rfl ?_; refine TL.e0 (Ew.ah 0 rfl rfl rfl rfl rfl rfl) ?_; rintro _ _ ⟨rfl, rfl⟩; refine TL.ns (T.seq (T.seq ?_)); refine T.af (ι := Unit) (fun z => [(0, vl), (3, .int .i64 (i_3 : Int)), (4, .pointer (some ⟨g4, 0, none⟩)), (5, vl), (6, .int .i64 (l.length : Int)), (7, .int .i64 (i_3 : Int)), (21, .bool ((!(zai ((nth l i_3).Station))) || (!(zaD ((nth l i_3).Channel) 2 51))))]) (fun z => [.row g4 79 [.int .i64 ((nth l i_3).Station), .int .i64 ((nth l i_3).Channel)], .fr F1]) (fun z => True) ?_ ?_
        · refine T.region ?_; refine TL.y (Yv.fieldAddr rfl rfl) ?_; refine TL.y (Yv.aa 0 rfl rfl rfl rfl) ?_; refine TL.e (Ew.ag rfl rfl rfl (fun w hw => zbl _ w (hw.fr (i := 1) rfl) ((nth l i_3).Station))) ?_; rintro _ _ ⟨rfl, rfl⟩; refine TL.run 2 rfl ?_; refine TL.gs rfl rfl rfl (fun h5 => ?_) (fun h5 => ?_)
          · refine TL.run 5 rfl ?_; refine TL.nil ?_; exact K.ai () trivial (.c (.c (.c (.c (.c (.c (.b (zbW h5).symm .nil))))))) (List.Sublist.refl _)
          · refine TL.y (Yv.fieldAddr rfl rfl) ?_; refine TL.y (Yv.aa 0 rfl rfl rfl rfl) ?_; refine TL.e (Ew.ag rfl rfl rfl (fun w hw => zbq _ w (hw.fr (i := 1) rfl) ((nth l i_3).Channel) 2 51)) ?_; rintro _ _ ⟨rfl, rfl⟩; refine TL.run 2 rfl ?_; refine TL.nil ?_; exact K.ai () trivial (.c (.c (.c (.c (.c (.c (.b (or_f h5) .nil))))))) (List.Sublist.refl _)
        · rintro _ _; refine T.cond rfl (fun h6 => ?_) (fun h6 => ?_)
          · replace hk := zac hk h6; refine T.sr ?_; refine TL.run 1 rfl ?_; refine TL.ns (T.ret (K.then_ret (K.ae (K.then_ret (K.then_ret (K.ae (K.then_ret ?_))))))); subst hk; exact K.aj rfl rfl (fun w' hw => ⟨rfl, hw.isBelow⟩)
          · replace hk := zab hk h6; refine T.skip (K.seq (T.seq ?_)); refine T.af (ι := Unit) (fun z => [(0, vl), (5, vl), (6, .int .i64 (l.length : Int)), (7, .int .i64 (i_3 : Int)), (34, .bool ((decide (0 < (i_3 : Int))) && (decide ((nth l i_3).Station ≤ (nth l (((i_3 : Int) - 1).toNat)).Station))))]) (fun z => [.row g4 79 [.int .i64 ((nth l i_3).Station), .int .i64 ((nth l i_3).Channel)], .fr F1]) (fun z => True) ?_ ?_
            · refine T.ax (.still 0 (.still 1 (.still 2 (.still 3 (.still 4 (.still 5 (.still 6 (.still 7 (.still 8 (.still 9 (.still 10 (.still 11 (.still 12 .done))))))))))))) _ (by kernel_rfl) (List.Sublist.refl _) ?_; refine TS.run 3 rfl ?_; refine TS.gs rfl rfl rfl rfl (fun h7 => ?_) (fun h7 => ?_)
              · have p7 := of_decide_eq_true h7; refine TS.run 2 rfl ?_; refine TS.y rfl (Yv.aR rfl rfl rfl (by omega)) ?_; refine TS.y rfl (Yv.al (i := ((i_3 : Int) - 1).toNat) rfl rfl rfl hl (List.length_map _) (by omega) (by omega)) ?_; refine TS.y rfl (Yv.aI rfl rfl hl (List.length_map _) (by omega)) ?_; refine TS.y rfl (Yv.as 1 (i := ((i_3 : Int) - 1).toNat) (j := 0) rfl rfl rfl hl (by omega) rfl rfl) ?_; refine TS.y rfl (Yv.fieldAddr rfl rfl) ?_; refine TS.y rfl (Yv.aa 0 rfl rfl rfl rfl) ?_; refine TS.run 2 rfl ?_; refine TS.done ?_; exact K.ai () trivial (.c (.c (.c (.c (.b (zdE h7) .nil))))) (List.Sublist.refl _)
              · have p7 := of_decide_eq_false h7; refine TS.run 10 rfl ?_; refine TS.done ?_; exact K.ai () trivial (.c (.c (.c (.c (.b (zaG h7).symm .nil))))) (List.Sublist.refl _)
            · rintro _ _; refine T.cond rfl (fun h8 => ?_) (fun h8 => ?_)
              · have p8 := h8; (try simp only [nfB] at p8); replace hk := zac hk h8; refine T.sr ?_; refine TL.run 1 rfl ?_; refine TL.ns (T.ret (K.ae (K.then_ret (K.then_ret (K.ae (K.then_ret ?_)))))); subst hk; exact K.aj rfl rfl (fun w' hw => ⟨rfl, hw.isBelow⟩)
              · replace hk := zab hk h8; refine T.skip (K.ac (K.seq (T.region ?_))); refine TL.y (Yv.ao rfl rfl rfl (by omega)) ?_; refine TL.run 1 rfl ?_; refine TL.nil ?_; rw [← hn2] at hk; refine K.pick [1] rfl (by decide) ?_; exact K.next (i_3 + 1) hk (by omega) (.c (.c (.c (.c .nil)))) (List.Sublist.refl _)
      · have p4 := of_decide_eq_false h4; rw [zar (by omega), ← hkk2] at hk; (try dsimp only at hk); refine T.exit (K.ab (K.ab (K.ad ?_))); exact K.ai () hk .nil (List.Sublist.refl _)
  · rintro _ hk; rw [← hk1] at hk; (try dsimp only at hk); refine T.sr ?_; refine TL.run 1 rfl ?_; refine TL.ns (T.ret ?_); subst hk; exact K.aj rfl rfl (fun w' hw => ⟨rfl, hw.isBelow⟩)
def zbh (low : Int) (high : Int) : Bool :=
  (((decide (2 ≤ low)) && (decide (low ≤ high))) && (decide (high ≤ 51)))
theorem zdh (F0 : Frz) (w : World) (hF0 : F0.At w) (low : Int) (high : Int) : Calls Tryz.prog 114 #[.int .i64 low, .int .i64 high] w fun e w' => e = .returned (.bool (zbh low high)) ∧ Below w.heap.size w w' := by
  obtain ⟨r, hk⟩ : ∃ r, zbh low high = r := ⟨_, rfl⟩; rw [hk]; unfold zbh at hk; obtain ⟨S0, F1, rfl, hS0, hp0⟩ := zal hF0; refine zam Tryz.func114 rfl rfl rfl hp0 ?_; refine T.sr ?_; refine TL.run 1 rfl ?_; refine TL.ns (T.seq ?_); refine T.af (ι := Unit) (fun z => [(4, .bool (((decide (2 ≤ low)) && (decide (low ≤ high))) && (decide (high ≤ 51))))]) (fun z => [.fr F1]) (fun z => True) ?_ ?_
  · refine T.region ?_; refine TL.run 3 rfl ?_; refine TL.gs rfl rfl rfl (fun h1 => ?_) (fun h1 => ?_)
    · have p1 := of_decide_eq_true h1; refine TL.run 5 rfl ?_; refine TL.gs rfl rfl rfl (fun h2 => ?_) (fun h2 => ?_)
      · have p2 := of_decide_eq_true h2; refine TL.run 4 rfl ?_; refine TL.nil ?_; exact K.ai () trivial (.b (zdE (zaX h1 h2)) .nil) (List.Sublist.refl _)
      · have p2 := of_decide_eq_false h2; refine TL.run 4 rfl ?_; refine TL.nil ?_; exact K.ai () trivial (.b (zaG (zaX h1 h2)).symm .nil) (List.Sublist.refl _)
    · have p1 := of_decide_eq_false h1; refine TL.run 9 rfl ?_; refine TL.nil ?_; exact K.ai () trivial (.b (zaG (zaG h1)).symm .nil) (List.Sublist.refl _)
  · rintro _ _; refine T.ret ?_; subst hk; exact K.aj rfl rfl (fun w' hw => ⟨rfl, hw.isBelow⟩)
def zaZ (c : GPair) : Bool :=
  (((((zai c.A) && (zai c.B)) && (decide (c.A < c.B))) && (zaD c.Offset (-1) 1)) && (zbh c.Low c.High))
theorem zeI (F0 : Frz) (w : World) (hF0 : F0.At w) (c : GPair) : Calls Tryz.prog 56 #[.agg [.int .i64 c.A, .int .i64 c.B, .int .i64 c.Offset, .int .i64 c.Low, .int .i64 c.High].toArray] w fun e w' => e = .returned (.bool (zaZ c)) ∧ Below w.heap.size w w' := by
  obtain ⟨r, hk⟩ : ∃ r, zaZ c = r := ⟨_, rfl⟩; rw [hk]; unfold zaZ at hk; obtain ⟨S0, F1, rfl, hS0, hp0⟩ := zal hF0; refine zam Tryz.func56 rfl rfl rfl hp0 ?_; refine T.sr ?_; refine TL.e (Ew.aA rfl rfl) ?_; rintro _ _ ⟨g1, rfl, rfl⟩; refine TL.run 1 rfl ?_; refine TL.ns (T.seq ?_); refine T.af (ι := Unit) (fun z => [(2, .bool (((((zai c.A) && (zai c.B)) && (decide (c.A < c.B))) && (zaD c.Offset (-1) 1)) && (zbh c.Low c.High)))]) (fun z => [.row g1 68 [.int .i64 c.A, .int .i64 c.B, .int .i64 c.Offset, .int .i64 c.Low, .int .i64 c.High], .fr F1]) (fun z => True) ?_ ?_
  · refine T.region ?_; refine TL.y (Yv.fieldAddr rfl rfl) ?_; refine TL.y (Yv.aa 0 rfl rfl rfl rfl) ?_; refine TL.e (Ew.ag rfl rfl rfl (fun w hw => zbl _ w (hw.fr (i := 1) rfl) c.A)) ?_; rintro _ _ ⟨rfl, rfl⟩; refine TL.run 1 rfl ?_; refine TL.gs rfl rfl rfl (fun h1 => ?_) (fun h1 => ?_)
    · refine TL.y (Yv.fieldAddr rfl rfl) ?_; refine TL.y (Yv.aa 0 rfl rfl rfl rfl) ?_; refine TL.e (Ew.ag rfl rfl rfl (fun w hw => zbl _ w (hw.fr (i := 1) rfl) c.B)) ?_; rintro _ _ ⟨rfl, rfl⟩; refine TL.run 2 rfl ?_; refine TL.gs rfl rfl rfl (fun h2 => ?_) (fun h2 => ?_)
      · refine TL.y (Yv.fieldAddr rfl rfl) ?_; refine TL.y (Yv.aa 0 rfl rfl rfl rfl) ?_; refine TL.y (Yv.fieldAddr rfl rfl) ?_; refine TL.y (Yv.aa 0 rfl rfl rfl rfl) ?_; refine TL.run 3 rfl ?_; refine TL.gs rfl rfl rfl (fun h3 => ?_) (fun h3 => ?_)
        · have p3 := of_decide_eq_true h3; refine TL.y (Yv.fieldAddr rfl rfl) ?_; refine TL.y (Yv.aa 0 rfl rfl rfl rfl) ?_; refine TL.e (Ew.ag rfl rfl rfl (fun w hw => zbq _ w (hw.fr (i := 1) rfl) c.Offset (-1) 1)) ?_; rintro _ _ ⟨rfl, rfl⟩; refine TL.run 2 rfl ?_; refine TL.gs rfl rfl rfl (fun h4 => ?_) (fun h4 => ?_)
          · refine TL.y (Yv.fieldAddr rfl rfl) ?_; refine TL.y (Yv.aa 0 rfl rfl rfl rfl) ?_; refine TL.y (Yv.fieldAddr rfl rfl) ?_; refine TL.y (Yv.aa 0 rfl rfl rfl rfl) ?_; refine TL.e (Ew.ag rfl rfl rfl (fun w hw => zdh _ w (hw.fr (i := 1) rfl) c.Low c.High)) ?_; rintro _ _ ⟨rfl, rfl⟩; refine TL.run 2 rfl ?_; refine TL.nil ?_; exact K.ai () trivial (.b (zdE (zaX (zaX (zaX h1 h2) h3) h4)) .nil) (List.Sublist.refl _)
          · refine TL.run 7 rfl ?_; refine TL.nil ?_; exact K.ai () trivial (.b (zaG (zaX (zaX (zaX h1 h2) h3) h4)).symm .nil) (List.Sublist.refl _)
        · have p3 := of_decide_eq_false h3; refine TL.run 12 rfl ?_; refine TL.nil ?_; exact K.ai () trivial (.b (zaG (zaG (zaX (zaX h1 h2) h3))).symm .nil) (List.Sublist.refl _)
      · refine TL.run 19 rfl ?_; refine TL.nil ?_; exact K.ai () trivial (.b (zaG (zaG (zaG (zaX h1 h2)))).symm .nil) (List.Sublist.refl _)
    · refine TL.run 24 rfl ?_; refine TL.nil ?_; exact K.ai () trivial (.b (zaG (zaG (zaG (zaG h1)))).symm .nil) (List.Sublist.refl _)
  · rintro _ _; refine T.ret ?_; subst hk; exact K.aj rfl rfl (fun w' hw => ⟨rfl, hw.isBelow⟩)
def zbt (a : GPair) (b : GPair) : Int :=
  (zcz [(zad a.A b.A), (zad a.B b.B), (zad a.Offset b.Offset), (zad a.Low b.Low), (zad a.High b.High)])
theorem zeb (F0 : Frz) (w : World) (hF0 : F0.At w) (a : GPair) (b : GPair) : Calls Tryz.prog 58 #[.agg [.int .i64 a.A, .int .i64 a.B, .int .i64 a.Offset, .int .i64 a.Low, .int .i64 a.High].toArray, .agg [.int .i64 b.A, .int .i64 b.B, .int .i64 b.Offset, .int .i64 b.Low, .int .i64 b.High].toArray] w fun e w' => e = .returned (.int .i64 (zbt a b)) ∧ Below w.heap.size w w' := by
  obtain ⟨r, hk⟩ : ∃ r, zbt a b = r := ⟨_, rfl⟩; rw [hk]; unfold zbt at hk; obtain ⟨S0, F1, rfl, hS0, hp0⟩ := zal hF0; refine zam Tryz.func58 rfl rfl rfl hp0 ?_; refine T.sr ?_; refine TL.e (Ew.aA rfl rfl) ?_; rintro _ _ ⟨g2, rfl, rfl⟩; refine TL.e (Ew.aA rfl rfl) ?_; rintro _ _ ⟨g3, rfl, rfl⟩; refine TL.run 1 rfl ?_; refine TL.ns (T.seq ?_); refine T.ax (.still 0 (.still 1 (.still 2 (.still 3 (.still 5 (.still 6 (.still 7 (.still 8 (.still 10 (.still 11 (.still 12 (.still 13 (.still 15 (.still 16 (.still 17 (.still 18 (.still 20 (.still 21 (.still 22 (.still 23 (.eff 4 (.eff 9 (.eff 14 (.eff 19 (.eff 24 (.eff 25 (.eff 26 (.still 27 .done)))))))))))))))))))))))))))) _ (by kernel_rfl) (List.Sublist.refl _) ?_; refine TS.y rfl (Yv.fieldAddr rfl rfl) ?_; refine TS.y rfl (Yv.aa 1 rfl rfl rfl rfl) ?_; refine TS.y rfl (Yv.fieldAddr rfl rfl) ?_; refine TS.y rfl (Yv.aa 0 rfl rfl rfl rfl) ?_; refine TS.y rfl (Yv.fieldAddr rfl rfl) ?_; refine TS.y rfl (Yv.aa 1 rfl rfl rfl rfl) ?_; refine TS.y rfl (Yv.fieldAddr rfl rfl) ?_; refine TS.y rfl (Yv.aa 0 rfl rfl rfl rfl) ?_; refine TS.y rfl (Yv.fieldAddr rfl rfl) ?_; refine TS.y rfl (Yv.aa 1 rfl rfl rfl rfl) ?_; refine TS.y rfl (Yv.fieldAddr rfl rfl) ?_; refine TS.y rfl (Yv.aa 0 rfl rfl rfl rfl) ?_; refine TS.y rfl (Yv.fieldAddr rfl rfl) ?_; refine TS.y rfl (Yv.aa 1 rfl rfl rfl rfl) ?_; refine TS.y rfl (Yv.fieldAddr rfl rfl) ?_; refine TS.y rfl (Yv.aa 0 rfl rfl rfl rfl) ?_; refine TS.y rfl (Yv.fieldAddr rfl rfl) ?_; refine TS.y rfl (Yv.aa 1 rfl rfl rfl rfl) ?_; refine TS.y rfl (Yv.fieldAddr rfl rfl) ?_; refine TS.y rfl (Yv.aa 0 rfl rfl rfl rfl) ?_; refine TS.eff ?_; refine TSo.au rfl (Wt.none rfl) rfl rfl (Ew.ag rfl rfl rfl (fun w hw => zaK _ w (hw.fr (i := 2) rfl) a.A b.A)) ?_; rintro _ _ ⟨rfl, rfl⟩; refine ⟨(fun w hw => hw.sub Sx), ?_⟩; refine TS.eff ?_; refine TSo.au rfl (Wt.none rfl) rfl rfl (Ew.ag rfl rfl rfl (fun w hw => zaK _ w (hw.fr (i := 2) rfl) a.B b.B)) ?_; rintro _ _ ⟨rfl, rfl⟩; refine ⟨(fun w hw => hw.sub Sx), ?_⟩; refine TS.eff ?_; refine TSo.au rfl (Wt.none rfl) rfl rfl (Ew.ag rfl rfl rfl (fun w hw => zaK _ w (hw.fr (i := 2) rfl) a.Offset b.Offset)) ?_; rintro _ _ ⟨rfl, rfl⟩; refine ⟨(fun w hw => hw.sub Sx), ?_⟩; refine TS.eff ?_; refine TSo.au rfl (Wt.none rfl) rfl rfl (Ew.ag rfl rfl rfl (fun w hw => zaK _ w (hw.fr (i := 2) rfl) a.Low b.Low)) ?_; rintro _ _ ⟨rfl, rfl⟩; refine ⟨(fun w hw => hw.sub Sx), ?_⟩; refine TS.eff ?_; refine TSo.au rfl (Wt.none rfl) rfl rfl (Ew.ag rfl rfl rfl (fun w hw => zaK _ w (hw.fr (i := 2) rfl) a.High b.High)) ?_; rintro _ _ ⟨rfl, rfl⟩; refine ⟨(fun w hw => hw.sub Sx), ?_⟩; refine TS.eff ?_; refine TSo.au rfl (Wt.none rfl) rfl rfl (Ew.buildSlice rfl rfl rfl (by decide)) ?_; rintro _ _ ⟨g30, rfl, rfl⟩; refine ⟨(fun w hw => hw.sub Sx), ?_⟩; refine TS.ay (fun w hw => hw.freezeR (i := 3) (j := 0) (by decide) rfl rfl) ?_; rintro F2 ⟨le1_2, hz2⟩; dsimp only [List.set, List.eraseIdx]; have hf2 : SlC F2.toFrz (.slice (some ⟨g30, 0, none⟩) 5 5) 1 ([(zad a.A b.A), (zad a.B b.B), (zad a.Offset b.Offset), (zad a.Low b.Low), (zad a.High b.High)].map eI) := (SlK.lit hz2 rfl (Nat.le_refl _) (by decide)).toF (xs := [(zad a.A b.A), (zad a.B b.B), (zad a.Offset b.Offset), (zad a.Low b.Low), (zad a.High b.High)]) rfl (fun _ => rfl); refine TS.eff ?_; refine TSo.au rfl (Wt.none rfl) rfl rfl (Ew.ag rfl rfl rfl (fun w hw => zdQ _ w (hw.fr (i := 2) rfl) [(zad a.A b.A), (zad a.B b.B), (zad a.Offset b.Offset), (zad a.Low b.Low), (zad a.High b.High)] (.slice (some ⟨g30, 0, none⟩) 5 5) hf2)) ?_; rintro _ _ ⟨rfl, rfl⟩; refine ⟨(fun w hw => (hw.frLe (i := 2) rfl le1_2).sub Sx), ?_⟩; refine TS.run 1 rfl ?_; refine TS.done ?_; refine K.seq (T.ret ?_); subst hk; exact K.aj rfl rfl (fun w' hw => ⟨rfl, hw.isBelow⟩)
def zaY (c : GLoad) : Bool :=
  (((((zai c.To) && (zai c.From)) && (decide (¬ c.To = c.From))) && (zaD c.Weight 1 1073741824)) && (zbh c.Low c.High))
theorem zeX (F0 : Frz) (w : World) (hF0 : F0.At w) (c : GLoad) : Calls Tryz.prog 60 #[.agg [.int .i64 c.To, .int .i64 c.From, .int .i64 c.Weight, .int .i64 c.Low, .int .i64 c.High].toArray] w fun e w' => e = .returned (.bool (zaY c)) ∧ Below w.heap.size w w' := by
  obtain ⟨r, hk⟩ : ∃ r, zaY c = r := ⟨_, rfl⟩; rw [hk]; unfold zaY at hk; obtain ⟨S0, F1, rfl, hS0, hp0⟩ := zal hF0; refine zam Tryz.func60 rfl rfl rfl hp0 ?_; refine T.sr ?_; refine TL.e (Ew.aA rfl rfl) ?_; rintro _ _ ⟨g1, rfl, rfl⟩; refine TL.run 1 rfl ?_; refine TL.ns (T.seq ?_); refine T.af (ι := Unit) (fun z => [(2, .bool (((((zai c.To) && (zai c.From)) && (decide (¬ c.To = c.From))) && (zaD c.Weight 1 1073741824)) && (zbh c.Low c.High)))]) (fun z => [.row g1 70 [.int .i64 c.To, .int .i64 c.From, .int .i64 c.Weight, .int .i64 c.Low, .int .i64 c.High], .fr F1]) (fun z => True) ?_ ?_
  · refine T.region ?_; refine TL.y (Yv.fieldAddr rfl rfl) ?_; refine TL.y (Yv.aa 0 rfl rfl rfl rfl) ?_; refine TL.e (Ew.ag rfl rfl rfl (fun w hw => zbl _ w (hw.fr (i := 1) rfl) c.To)) ?_; rintro _ _ ⟨rfl, rfl⟩; refine TL.run 1 rfl ?_; refine TL.gs rfl rfl rfl (fun h1 => ?_) (fun h1 => ?_)
    · refine TL.y (Yv.fieldAddr rfl rfl) ?_; refine TL.y (Yv.aa 0 rfl rfl rfl rfl) ?_; refine TL.e (Ew.ag rfl rfl rfl (fun w hw => zbl _ w (hw.fr (i := 1) rfl) c.From)) ?_; rintro _ _ ⟨rfl, rfl⟩; refine TL.run 2 rfl ?_; refine TL.gs rfl rfl rfl (fun h2 => ?_) (fun h2 => ?_)
      · refine TL.y (Yv.fieldAddr rfl rfl) ?_; refine TL.y (Yv.aa 0 rfl rfl rfl rfl) ?_; refine TL.y (Yv.fieldAddr rfl rfl) ?_; refine TL.y (Yv.aa 0 rfl rfl rfl rfl) ?_; refine TL.run 3 rfl ?_; refine TL.gs rfl rfl rfl (fun h3 => ?_) (fun h3 => ?_)
        · have p3 := of_decide_eq_true h3; refine TL.y (Yv.fieldAddr rfl rfl) ?_; refine TL.y (Yv.aa 0 rfl rfl rfl rfl) ?_; refine TL.e (Ew.ag rfl rfl rfl (fun w hw => zbq _ w (hw.fr (i := 1) rfl) c.Weight 1 1073741824)) ?_; rintro _ _ ⟨rfl, rfl⟩; refine TL.run 2 rfl ?_; refine TL.gs rfl rfl rfl (fun h4 => ?_) (fun h4 => ?_)
          · refine TL.y (Yv.fieldAddr rfl rfl) ?_; refine TL.y (Yv.aa 0 rfl rfl rfl rfl) ?_; refine TL.y (Yv.fieldAddr rfl rfl) ?_; refine TL.y (Yv.aa 0 rfl rfl rfl rfl) ?_; refine TL.e (Ew.ag rfl rfl rfl (fun w hw => zdh _ w (hw.fr (i := 1) rfl) c.Low c.High)) ?_; rintro _ _ ⟨rfl, rfl⟩; refine TL.run 2 rfl ?_; refine TL.nil ?_; exact K.ai () trivial (.b (zdE (zaX (zaX (zaX h1 h2) h3) h4)) .nil) (List.Sublist.refl _)
          · refine TL.run 7 rfl ?_; refine TL.nil ?_; exact K.ai () trivial (.b (zaG (zaX (zaX (zaX h1 h2) h3) h4)).symm .nil) (List.Sublist.refl _)
        · have p3 := of_decide_eq_false h3; refine TL.run 12 rfl ?_; refine TL.nil ?_; exact K.ai () trivial (.b (zaG (zaG (zaX (zaX h1 h2) h3))).symm .nil) (List.Sublist.refl _)
      · refine TL.run 19 rfl ?_; refine TL.nil ?_; exact K.ai () trivial (.b (zaG (zaG (zaG (zaX h1 h2)))).symm .nil) (List.Sublist.refl _)
    · refine TL.run 24 rfl ?_; refine TL.nil ?_; exact K.ai () trivial (.b (zaG (zaG (zaG (zaG h1)))).symm .nil) (List.Sublist.refl _)
  · rintro _ _; refine T.ret ?_; subst hk; exact K.aj rfl rfl (fun w' hw => ⟨rfl, hw.isBelow⟩)
def zbu (a : GLoad) (b : GLoad) : Int :=
  (zcz [(zad a.To b.To), (zad a.From b.From), (zad a.Weight b.Weight), (zad a.Low b.Low), (zad a.High b.High)])
theorem zea (F0 : Frz) (w : World) (hF0 : F0.At w) (a : GLoad) (b : GLoad) : Calls Tryz.prog 62 #[.agg [.int .i64 a.To, .int .i64 a.From, .int .i64 a.Weight, .int .i64 a.Low, .int .i64 a.High].toArray, .agg [.int .i64 b.To, .int .i64 b.From, .int .i64 b.Weight, .int .i64 b.Low, .int .i64 b.High].toArray] w fun e w' => e = .returned (.int .i64 (zbu a b)) ∧ Below w.heap.size w w' := by
  obtain ⟨r, hk⟩ : ∃ r, zbu a b = r := ⟨_, rfl⟩; rw [hk]; unfold zbu at hk; obtain ⟨S0, F1, rfl, hS0, hp0⟩ := zal hF0; refine zam Tryz.func62 rfl rfl rfl hp0 ?_; refine T.sr ?_; refine TL.e (Ew.aA rfl rfl) ?_; rintro _ _ ⟨g2, rfl, rfl⟩; refine TL.e (Ew.aA rfl rfl) ?_; rintro _ _ ⟨g3, rfl, rfl⟩; refine TL.run 1 rfl ?_; refine TL.ns (T.seq ?_); refine T.ax (.still 0 (.still 1 (.still 2 (.still 3 (.still 5 (.still 6 (.still 7 (.still 8 (.still 10 (.still 11 (.still 12 (.still 13 (.still 15 (.still 16 (.still 17 (.still 18 (.still 20 (.still 21 (.still 22 (.still 23 (.eff 4 (.eff 9 (.eff 14 (.eff 19 (.eff 24 (.eff 25 (.eff 26 (.still 27 .done)))))))))))))))))))))))))))) _ (by kernel_rfl) (List.Sublist.refl _) ?_; refine TS.y rfl (Yv.fieldAddr rfl rfl) ?_; refine TS.y rfl (Yv.aa 1 rfl rfl rfl rfl) ?_; refine TS.y rfl (Yv.fieldAddr rfl rfl) ?_; refine TS.y rfl (Yv.aa 0 rfl rfl rfl rfl) ?_; refine TS.y rfl (Yv.fieldAddr rfl rfl) ?_; refine TS.y rfl (Yv.aa 1 rfl rfl rfl rfl) ?_; refine TS.y rfl (Yv.fieldAddr rfl rfl) ?_; refine TS.y rfl (Yv.aa 0 rfl rfl rfl rfl) ?_; refine TS.y rfl (Yv.fieldAddr rfl rfl) ?_; refine TS.y rfl (Yv.aa 1 rfl rfl rfl rfl) ?_; refine TS.y rfl (Yv.fieldAddr rfl rfl) ?_; refine TS.y rfl (Yv.aa 0 rfl rfl rfl rfl) ?_; refine TS.y rfl (Yv.fieldAddr rfl rfl) ?_; refine TS.y rfl (Yv.aa 1 rfl rfl rfl rfl) ?_; refine TS.y rfl (Yv.fieldAddr rfl rfl) ?_; refine TS.y rfl (Yv.aa 0 rfl rfl rfl rfl) ?_; refine TS.y rfl (Yv.fieldAddr rfl rfl) ?_; refine TS.y rfl (Yv.aa 1 rfl rfl rfl rfl) ?_; refine TS.y rfl (Yv.fieldAddr rfl rfl) ?_; refine TS.y rfl (Yv.aa 0 rfl rfl rfl rfl) ?_; refine TS.eff ?_; refine TSo.au rfl (Wt.none rfl) rfl rfl (Ew.ag rfl rfl rfl (fun w hw => zaK _ w (hw.fr (i := 2) rfl) a.To b.To)) ?_; rintro _ _ ⟨rfl, rfl⟩; refine ⟨(fun w hw => hw.sub Sx), ?_⟩; refine TS.eff ?_; refine TSo.au rfl (Wt.none rfl) rfl rfl (Ew.ag rfl rfl rfl (fun w hw => zaK _ w (hw.fr (i := 2) rfl) a.From b.From)) ?_; rintro _ _ ⟨rfl, rfl⟩; refine ⟨(fun w hw => hw.sub Sx), ?_⟩; refine TS.eff ?_; refine TSo.au rfl (Wt.none rfl) rfl rfl (Ew.ag rfl rfl rfl (fun w hw => zaK _ w (hw.fr (i := 2) rfl) a.Weight b.Weight)) ?_; rintro _ _ ⟨rfl, rfl⟩; refine ⟨(fun w hw => hw.sub Sx), ?_⟩; refine TS.eff ?_; refine TSo.au rfl (Wt.none rfl) rfl rfl (Ew.ag rfl rfl rfl (fun w hw => zaK _ w (hw.fr (i := 2) rfl) a.Low b.Low)) ?_; rintro _ _ ⟨rfl, rfl⟩; refine ⟨(fun w hw => hw.sub Sx), ?_⟩; refine TS.eff ?_; refine TSo.au rfl (Wt.none rfl) rfl rfl (Ew.ag rfl rfl rfl (fun w hw => zaK _ w (hw.fr (i := 2) rfl) a.High b.High)) ?_; rintro _ _ ⟨rfl, rfl⟩; refine ⟨(fun w hw => hw.sub Sx), ?_⟩; refine TS.eff ?_; refine TSo.au rfl (Wt.none rfl) rfl rfl (Ew.buildSlice rfl rfl rfl (by decide)) ?_; rintro _ _ ⟨g30, rfl, rfl⟩; refine ⟨(fun w hw => hw.sub Sx), ?_⟩; refine TS.ay (fun w hw => hw.freezeR (i := 3) (j := 0) (by decide) rfl rfl) ?_; rintro F2 ⟨le1_2, hz2⟩; dsimp only [List.set, List.eraseIdx]; have hf2 : SlC F2.toFrz (.slice (some ⟨g30, 0, none⟩) 5 5) 1 ([(zad a.To b.To), (zad a.From b.From), (zad a.Weight b.Weight), (zad a.Low b.Low), (zad a.High b.High)].map eI) := (SlK.lit hz2 rfl (Nat.le_refl _) (by decide)).toF (xs := [(zad a.To b.To), (zad a.From b.From), (zad a.Weight b.Weight), (zad a.Low b.Low), (zad a.High b.High)]) rfl (fun _ => rfl); refine TS.eff ?_; refine TSo.au rfl (Wt.none rfl) rfl rfl (Ew.ag rfl rfl rfl (fun w hw => zdQ _ w (hw.fr (i := 2) rfl) [(zad a.To b.To), (zad a.From b.From), (zad a.Weight b.Weight), (zad a.Low b.Low), (zad a.High b.High)] (.slice (some ⟨g30, 0, none⟩) 5 5) hf2)) ?_; rintro _ _ ⟨rfl, rfl⟩; refine ⟨(fun w hw => (hw.frLe (i := 2) rfl le1_2).sub Sx), ?_⟩; refine TS.run 1 rfl ?_; refine TS.done ?_; refine K.seq (T.ret ?_); subst hk; exact K.aj rfl rfl (fun w' hw => ⟨rfl, hw.isBelow⟩)
def za4 (c : GCap) : Bool :=
  (((zai c.Station) && (zaD c.Max 0 1099511627776)) && (zbh c.Low c.High))
theorem ze2 (F0 : Frz) (w : World) (hF0 : F0.At w) (c : GCap) : Calls Tryz.prog 64 #[.agg [.int .i64 c.Station, .int .i64 c.Max, .int .i64 c.Low, .int .i64 c.High].toArray] w fun e w' => e = .returned (.bool (za4 c)) ∧ Below w.heap.size w w' := by
  obtain ⟨r, hk⟩ : ∃ r, za4 c = r := ⟨_, rfl⟩; rw [hk]; unfold za4 at hk; obtain ⟨S0, F1, rfl, hS0, hp0⟩ := zal hF0; refine zam Tryz.func64 rfl rfl rfl hp0 ?_; refine T.sr ?_; refine TL.e (Ew.aA rfl rfl) ?_; rintro _ _ ⟨g1, rfl, rfl⟩; refine TL.run 1 rfl ?_; refine TL.ns (T.seq ?_); refine T.af (ι := Unit) (fun z => [(2, .bool (((zai c.Station) && (zaD c.Max 0 1099511627776)) && (zbh c.Low c.High)))]) (fun z => [.row g1 72 [.int .i64 c.Station, .int .i64 c.Max, .int .i64 c.Low, .int .i64 c.High], .fr F1]) (fun z => True) ?_ ?_
  · refine T.region ?_; refine TL.y (Yv.fieldAddr rfl rfl) ?_; refine TL.y (Yv.aa 0 rfl rfl rfl rfl) ?_; refine TL.e (Ew.ag rfl rfl rfl (fun w hw => zbl _ w (hw.fr (i := 1) rfl) c.Station)) ?_; rintro _ _ ⟨rfl, rfl⟩; refine TL.run 1 rfl ?_; refine TL.gs rfl rfl rfl (fun h1 => ?_) (fun h1 => ?_)
    · refine TL.y (Yv.fieldAddr rfl rfl) ?_; refine TL.y (Yv.aa 0 rfl rfl rfl rfl) ?_; refine TL.e (Ew.ag rfl rfl rfl (fun w hw => zbq _ w (hw.fr (i := 1) rfl) c.Max 0 1099511627776)) ?_; rintro _ _ ⟨rfl, rfl⟩; refine TL.run 2 rfl ?_; refine TL.gs rfl rfl rfl (fun h2 => ?_) (fun h2 => ?_)
      · refine TL.y (Yv.fieldAddr rfl rfl) ?_; refine TL.y (Yv.aa 0 rfl rfl rfl rfl) ?_; refine TL.y (Yv.fieldAddr rfl rfl) ?_; refine TL.y (Yv.aa 0 rfl rfl rfl rfl) ?_; refine TL.e (Ew.ag rfl rfl rfl (fun w hw => zdh _ w (hw.fr (i := 1) rfl) c.Low c.High)) ?_; rintro _ _ ⟨rfl, rfl⟩; refine TL.run 2 rfl ?_; refine TL.nil ?_; exact K.ai () trivial (.b (zdE (zaX h1 h2)) .nil) (List.Sublist.refl _)
      · refine TL.run 7 rfl ?_; refine TL.nil ?_; exact K.ai () trivial (.b (zaG (zaX h1 h2)).symm .nil) (List.Sublist.refl _)
    · refine TL.run 12 rfl ?_; refine TL.nil ?_; exact K.ai () trivial (.b (zaG (zaG h1)).symm .nil) (List.Sublist.refl _)
  · rintro _ _; refine T.ret ?_; subst hk; exact K.aj rfl rfl (fun w' hw => ⟨rfl, hw.isBelow⟩)
def zbB (a : GCap) (b : GCap) : Int :=
  (zcz [(zad a.Station b.Station), (zad a.Max b.Max), (zad a.Low b.Low), (zad a.High b.High)])
theorem zel (F0 : Frz) (w : World) (hF0 : F0.At w) (a : GCap) (b : GCap) : Calls Tryz.prog 66 #[.agg [.int .i64 a.Station, .int .i64 a.Max, .int .i64 a.Low, .int .i64 a.High].toArray, .agg [.int .i64 b.Station, .int .i64 b.Max, .int .i64 b.Low, .int .i64 b.High].toArray] w fun e w' => e = .returned (.int .i64 (zbB a b)) ∧ Below w.heap.size w w' := by
  obtain ⟨r, hk⟩ : ∃ r, zbB a b = r := ⟨_, rfl⟩; rw [hk]; unfold zbB at hk; obtain ⟨S0, F1, rfl, hS0, hp0⟩ := zal hF0; refine zam Tryz.func66 rfl rfl rfl hp0 ?_; refine T.sr ?_; refine TL.e (Ew.aA rfl rfl) ?_; rintro _ _ ⟨g2, rfl, rfl⟩; refine TL.e (Ew.aA rfl rfl) ?_; rintro _ _ ⟨g3, rfl, rfl⟩; refine TL.run 1 rfl ?_; refine TL.ns (T.seq ?_); refine T.ax (.still 0 (.still 1 (.still 2 (.still 3 (.still 5 (.still 6 (.still 7 (.still 8 (.still 10 (.still 11 (.still 12 (.still 13 (.still 15 (.still 16 (.still 17 (.still 18 (.eff 4 (.eff 9 (.eff 14 (.eff 19 (.eff 20 (.eff 21 (.still 22 .done))))))))))))))))))))))) _ (by kernel_rfl) (List.Sublist.refl _) ?_; refine TS.y rfl (Yv.fieldAddr rfl rfl) ?_; refine TS.y rfl (Yv.aa 1 rfl rfl rfl rfl) ?_; refine TS.y rfl (Yv.fieldAddr rfl rfl) ?_; refine TS.y rfl (Yv.aa 0 rfl rfl rfl rfl) ?_; refine TS.y rfl (Yv.fieldAddr rfl rfl) ?_; refine TS.y rfl (Yv.aa 1 rfl rfl rfl rfl) ?_; refine TS.y rfl (Yv.fieldAddr rfl rfl) ?_; refine TS.y rfl (Yv.aa 0 rfl rfl rfl rfl) ?_; refine TS.y rfl (Yv.fieldAddr rfl rfl) ?_; refine TS.y rfl (Yv.aa 1 rfl rfl rfl rfl) ?_; refine TS.y rfl (Yv.fieldAddr rfl rfl) ?_; refine TS.y rfl (Yv.aa 0 rfl rfl rfl rfl) ?_; refine TS.y rfl (Yv.fieldAddr rfl rfl) ?_; refine TS.y rfl (Yv.aa 1 rfl rfl rfl rfl) ?_; refine TS.y rfl (Yv.fieldAddr rfl rfl) ?_; refine TS.y rfl (Yv.aa 0 rfl rfl rfl rfl) ?_; refine TS.eff ?_; refine TSo.au rfl (Wt.none rfl) rfl rfl (Ew.ag rfl rfl rfl (fun w hw => zaK _ w (hw.fr (i := 2) rfl) a.Station b.Station)) ?_; rintro _ _ ⟨rfl, rfl⟩; refine ⟨(fun w hw => hw.sub Sx), ?_⟩; refine TS.eff ?_; refine TSo.au rfl (Wt.none rfl) rfl rfl (Ew.ag rfl rfl rfl (fun w hw => zaK _ w (hw.fr (i := 2) rfl) a.Max b.Max)) ?_; rintro _ _ ⟨rfl, rfl⟩; refine ⟨(fun w hw => hw.sub Sx), ?_⟩; refine TS.eff ?_; refine TSo.au rfl (Wt.none rfl) rfl rfl (Ew.ag rfl rfl rfl (fun w hw => zaK _ w (hw.fr (i := 2) rfl) a.Low b.Low)) ?_; rintro _ _ ⟨rfl, rfl⟩; refine ⟨(fun w hw => hw.sub Sx), ?_⟩; refine TS.eff ?_; refine TSo.au rfl (Wt.none rfl) rfl rfl (Ew.ag rfl rfl rfl (fun w hw => zaK _ w (hw.fr (i := 2) rfl) a.High b.High)) ?_; rintro _ _ ⟨rfl, rfl⟩; refine ⟨(fun w hw => hw.sub Sx), ?_⟩; refine TS.eff ?_; refine TSo.au rfl (Wt.none rfl) rfl rfl (Ew.buildSlice rfl rfl rfl (by decide)) ?_; rintro _ _ ⟨g25, rfl, rfl⟩; refine ⟨(fun w hw => hw.sub Sx), ?_⟩; refine TS.ay (fun w hw => hw.freezeR (i := 3) (j := 0) (by decide) rfl rfl) ?_; rintro F2 ⟨le1_2, hz2⟩; dsimp only [List.set, List.eraseIdx]; have hf2 : SlC F2.toFrz (.slice (some ⟨g25, 0, none⟩) 4 4) 1 ([(zad a.Station b.Station), (zad a.Max b.Max), (zad a.Low b.Low), (zad a.High b.High)].map eI) := (SlK.lit hz2 rfl (Nat.le_refl _) (by decide)).toF (xs := [(zad a.Station b.Station), (zad a.Max b.Max), (zad a.Low b.Low), (zad a.High b.High)]) rfl (fun _ => rfl); refine TS.eff ?_; refine TSo.au rfl (Wt.none rfl) rfl rfl (Ew.ag rfl rfl rfl (fun w hw => zdQ _ w (hw.fr (i := 2) rfl) [(zad a.Station b.Station), (zad a.Max b.Max), (zad a.Low b.Low), (zad a.High b.High)] (.slice (some ⟨g25, 0, none⟩) 4 4) hf2)) ?_; rintro _ _ ⟨rfl, rfl⟩; refine ⟨(fun w hw => (hw.frLe (i := 2) rfl le1_2).sub Sx), ?_⟩; refine TS.run 1 rfl ?_; refine TS.done ?_; refine K.seq (T.ret ?_); subst hk; exact K.aj rfl rfl (fun w' hw => ⟨rfl, hw.isBelow⟩)
def zbR (s : List Int) (v_ : Int) : Int :=
  zaH (fun (_ : Unit) =>
    (-1))
  (fun k1 =>
    zag (fun (i_3 : Nat) (next2 : Unit → Int) (_ : Unit) =>
      (bif decide (v_ = (nth s i_3)) then
        (i_3 : Int)
        else
        next2 ()))
    (fun (_ : Unit) =>
      k1 ()) (s.length - 0) 0 ())
theorem zdI (F0 : Frz) (w : World) (hF0 : F0.At w) (s : List Int) (vs : Value) (hs : SlC F0 vs 1 (s.map eI)) (v_ : Int) : Calls Tryz.prog 133 #[vs, .int .i64 v_] w fun e w' => e = .returned (.int .i64 (zbR s v_)) ∧ Below w.heap.size w w' := by
  obtain ⟨r, hk⟩ : ∃ r, zbR s v_ = r := ⟨_, rfl⟩; rw [hk]; unfold zbR at hk; haveI := hs.oneC; obtain ⟨S0, F1, rfl, hS0, hp0⟩ := zal hF0; refine zam Tryz.func133 rfl rfl rfl hp0 ?_; refine T.sr ?_; refine TL.run 1 rfl ?_; refine TL.ns (T.seq (T.sr ?_)); refine TL.run 1 rfl ?_; refine TL.y (Yv.an rfl rfl hs (List.length_map _)) ?_; have hm7 : s.length ≤ 9223372036854775807 := (List.length_map _) ▸ hs.max; refine TL.run 1 rfl ?_; refine TL.ns ?_; have hq := zaf hk; clear hk; obtain ⟨k1, hk1, hk⟩ := hq; (try dsimp only at hk); refine T.af (ι := Unit) (fun z => []) (fun z => [.fr F1]) (fun z => k1 () = r) ?_ ?_
  · have hq := zah hk; clear hk; obtain ⟨f2, kk2, hf2, hkk2, hk⟩ := hq; refine T.block ?_; refine T.loop (ι := Nat) (fun z => [(0, vs), (1, .int .i64 v_), (7, .int .i64 (s.length : Int)), (8, .int .i64 (z : Int))]) (fun z => [.fr F1]) (fun z => zag f2 kk2 (s.length - z) z () = r) (fun z => s.length - z) 0 ?_ ?_ ?_ ?_
    · exact hk
    · exact (.c (.c (.c (.c .nil))))
    · exact List.Sublist.refl _
    · rintro i_3 hk; refine T.sr ?_; refine TL.run 1 rfl ?_; refine TL.ns (T.seq ?_); refine T.cond rfl (fun h4 => ?_) (fun h4 => ?_)
      · have p4 := of_decide_eq_true h4; rw [zas (by omega)] at hk; generalize hn2 : zag f2 kk2 (s.length - (i_3 + 1)) (i_3 + 1) = next2 at hk; rw [← hf2] at hk; (try dsimp only at hk); refine T.skip (K.seq (T.seq (T.block (T.sr ?_)))); refine TL.run 2 rfl ?_; refine TL.nx ?_; refine TL.run 3 rfl ?_; refine TL.y (Yv.al (i := i_3) rfl rfl rfl hs (List.length_map _) rfl (by omega)) ?_; refine TL.y (Yv.as 0 (i := i_3) (j := 0) rfl rfl rfl hs (by omega) rfl rfl) ?_; refine TL.run 1 rfl ?_; refine TL.ns ?_; refine T.cond rfl (fun h5 => ?_) (fun h5 => ?_)
        · have p5 := of_decide_eq_true h5; replace hk := zac hk h5; refine T.sr ?_; refine TL.run 2 rfl ?_; refine TL.ns (T.ret (K.ae (K.then_ret (K.then_ret (K.ae (K.then_ret ?_)))))); subst hk; exact K.aj rfl rfl (fun w' hw => ⟨rfl, hw.isBelow⟩)
        · have p5 := of_decide_eq_false h5; replace hk := zab hk h5; refine T.skip (K.ac (K.seq (T.region ?_))); refine TL.y (Yv.ao rfl rfl rfl (by omega)) ?_; refine TL.run 1 rfl ?_; refine TL.nil ?_; rw [← hn2] at hk; exact K.next (i_3 + 1) hk (by omega) (.c (.c (.c (.c .nil)))) (List.Sublist.refl _)
      · have p4 := of_decide_eq_false h4; rw [zar (by omega), ← hkk2] at hk; (try dsimp only at hk); refine T.exit (K.ab (K.ab (K.ad ?_))); exact K.ai () hk .nil (List.Sublist.refl _)
  · rintro _ hk; rw [← hk1] at hk; (try dsimp only at hk); refine T.sr ?_; refine TL.run 1 rfl ?_; refine TL.ns (T.ret ?_); subst hk; exact K.aj rfl rfl (fun w' hw => ⟨rfl, hw.isBelow⟩)
def zbj (s : List Int) (v_ : Int) : Bool :=
  (decide (0 ≤ (zbR s v_)))
theorem zcL (F0 : Frz) (w : World) (hF0 : F0.At w) (s : List Int) (vs : Value) (hs : SlC F0 vs 1 (s.map eI)) (v_ : Int) : Calls Tryz.prog 108 #[vs, .int .i64 v_] w fun e w' => e = .returned (.bool (zbj s v_)) ∧ Below w.heap.size w w' := by
  obtain ⟨r, hk⟩ : ∃ r, zbj s v_ = r := ⟨_, rfl⟩; rw [hk]; unfold zbj at hk; haveI := hs.oneC; obtain ⟨S0, F1, rfl, hS0, hp0⟩ := zal hF0; refine zam Tryz.func108 rfl rfl rfl hp0 ?_; refine T.sr ?_; refine TL.run 1 rfl ?_; refine TL.nx ?_; refine TL.run 2 rfl ?_; refine TL.e (Ew.ag rfl rfl rfl (fun w hw => zdI _ w (hw.fr (i := 0) rfl) s vs hs v_)) ?_; rintro _ _ ⟨rfl, rfl⟩; refine TL.run 2 rfl ?_; refine TL.ns (T.ret ?_); subst hk; exact K.aj rfl rfl (fun w' hw => ⟨rfl, hw.isBelow⟩)
end Go.Proofs.YtipomhejoajjdaaGreat
