/- Ya Yo: shortened and put together by squeeze.py. -/
import Derived.Test.YtnhdlloidbomdaaGreatQ02
set_option maxRecDepth 100000
set_option maxHeartbeats 4000000
set_option linter.unusedVariables false
set_option linter.unusedSectionVars false
set_option linter.unusedSimpArgs false
namespace Go.Proofs.YtnhdlloidbomdaaGreat
open Go.RowKit
structure GChoice where
  Station : Int
  Channel : Int
deriving DecidableEq, Inhabited
abbrev GChoice.enc (x : GChoice) : List Value := [.int .i64 x.Station, .int .i64 x.Channel]
theorem GChoice.len (x : GChoice) : (GChoice.enc x).length = 2 := rfl
structure GDomain where
  Station : Int
  Channels : List Int
deriving DecidableEq, Inhabited
def GDomain.rep (F : Frz) (c : List Value) (x : GDomain) : Prop := ∃ (v1 : Value), c = [.int .i64 x.Station, v1] ∧ SlC F v1 1 (x.Channels.map eI)
theorem GDomain.mono {F G : Frz} {c : List Value} {x : GDomain} (hle : F.Le G) (h : GDomain.rep F c x) : GDomain.rep G c x := by
  obtain ⟨v1, h0, h2⟩ := h; exact ⟨v1, h0, h2.mono hle⟩
theorem GDomain.len {F : Frz} {c : List Value} {x : GDomain} (h : GDomain.rep F c x) : c.length = 2 := by
  obtain ⟨v1, h0, h2⟩ := h; subst h0; rfl
theorem GDomain.one {F : Frz} {c : List Value} {x : GDomain} (h : GDomain.rep F c x) : OneCs c := by
  obtain ⟨v1, h0, h2⟩ := h; subst h0; haveI := h2.oneC
  infer_instance
theorem GDomain.c0 {F : Frz} {c : List Value} {x : GDomain} (h : GDomain.rep F c x) : c[0]? = some (.int .i64 x.Station) := by
  obtain ⟨v1, h0, h2⟩ := h; subst h0; rfl
theorem GDomain.c1 {F : Frz} {c : List Value} {x : GDomain} (h : GDomain.rep F c x) : c[1]? = some (nth c 1) ∧ SlC F (nth c 1) 1 (x.Channels.map eI) := by
  obtain ⟨v1, h0, h2⟩ := h; subst h0; exact ⟨rfl, h2⟩
theorem GDomain.form {F : Frz} {c : List Value} {x : GDomain} (h : GDomain.rep F c x) : (c.drop 0).take 2 = [.int .i64 x.Station, nth c 1] := by
  obtain ⟨v1, h0, h2⟩ := h; subst h0; rfl
structure GPair where
  A : Int
  B : Int
  Offset : Int
  Low : Int
  High : Int
deriving DecidableEq, Inhabited
abbrev GPair.enc (x : GPair) : List Value := [.int .i64 x.A, .int .i64 x.B, .int .i64 x.Offset, .int .i64 x.Low, .int .i64 x.High]
theorem GPair.len (x : GPair) : (GPair.enc x).length = 5 := rfl
structure GLoad where
  To : Int
  From : Int
  Weight : Int
  Low : Int
  High : Int
deriving DecidableEq, Inhabited
abbrev GLoad.enc (x : GLoad) : List Value := [.int .i64 x.To, .int .i64 x.From, .int .i64 x.Weight, .int .i64 x.Low, .int .i64 x.High]
theorem GLoad.len (x : GLoad) : (GLoad.enc x).length = 5 := rfl
structure GCap where
  Station : Int
  Max : Int
  Low : Int
  High : Int
deriving DecidableEq, Inhabited
abbrev GCap.enc (x : GCap) : List Value := [.int .i64 x.Station, .int .i64 x.Max, .int .i64 x.Low, .int .i64 x.High]
theorem GCap.len (x : GCap) : (GCap.enc x).length = 4 := rfl
structure GRules where
  Pairs : List GPair
  Loads : List GLoad
  Caps : List GCap
deriving DecidableEq, Inhabited
def GRules.rep (F : Frz) (c : List Value) (x : GRules) : Prop := ∃ (v0 : Value) (v1 : Value) (v2 : Value), c = [v0, v1, v2] ∧ SlC F v0 5 (x.Pairs.map GPair.enc) ∧ SlC F v1 5 (x.Loads.map GLoad.enc) ∧ SlC F v2 4 (x.Caps.map GCap.enc)
theorem GRules.mono {F G : Frz} {c : List Value} {x : GRules} (hle : F.Le G) (h : GRules.rep F c x) : GRules.rep G c x := by
  obtain ⟨v0, v1, v2, h0, h1, h2, h3⟩ := h; exact ⟨v0, v1, v2, h0, h1.mono hle, h2.mono hle, h3.mono hle⟩
theorem GRules.len {F : Frz} {c : List Value} {x : GRules} (h : GRules.rep F c x) : c.length = 3 := by
  obtain ⟨v0, v1, v2, h0, h1, h2, h3⟩ := h; subst h0; rfl
theorem GRules.one {F : Frz} {c : List Value} {x : GRules} (h : GRules.rep F c x) : OneCs c := by
  obtain ⟨v0, v1, v2, h0, h1, h2, h3⟩ := h; subst h0; haveI := h1.oneC; haveI := h2.oneC; haveI := h3.oneC
  infer_instance
theorem GRules.c0 {F : Frz} {c : List Value} {x : GRules} (h : GRules.rep F c x) : c[0]? = some (nth c 0) ∧ SlC F (nth c 0) 5 (x.Pairs.map GPair.enc) := by
  obtain ⟨v0, v1, v2, h0, h1, h2, h3⟩ := h; subst h0; exact ⟨rfl, h1⟩
theorem GRules.c1 {F : Frz} {c : List Value} {x : GRules} (h : GRules.rep F c x) : c[1]? = some (nth c 1) ∧ SlC F (nth c 1) 5 (x.Loads.map GLoad.enc) := by
  obtain ⟨v0, v1, v2, h0, h1, h2, h3⟩ := h; subst h0; exact ⟨rfl, h2⟩
theorem GRules.c2 {F : Frz} {c : List Value} {x : GRules} (h : GRules.rep F c x) : c[2]? = some (nth c 2) ∧ SlC F (nth c 2) 4 (x.Caps.map GCap.enc) := by
  obtain ⟨v0, v1, v2, h0, h1, h2, h3⟩ := h; subst h0; exact ⟨rfl, h3⟩
theorem GRules.form {F : Frz} {c : List Value} {x : GRules} (h : GRules.rep F c x) : (c.drop 0).take 3 = [nth c 0, nth c 1, nth c 2] := by
  obtain ⟨v0, v1, v2, h0, h1, h2, h3⟩ := h; subst h0; rfl
structure GProblem where
  Domains : List GDomain
  Rules : GRules
deriving DecidableEq, Inhabited
def GProblem.rep (F : Frz) (c : List Value) (x : GProblem) : Prop := ∃ (v0 : Value) (cs0 : List (List Value)) (v1 : Value) (v2 : Value) (v3 : Value), c = [v0, v1, v2, v3] ∧ SlD GDomain.rep F v0 2 cs0 x.Domains ∧ SlC F v1 5 (x.Rules.Pairs.map GPair.enc) ∧ SlC F v2 5 (x.Rules.Loads.map GLoad.enc) ∧ SlC F v3 4 (x.Rules.Caps.map GCap.enc)
theorem GProblem.mono {F G : Frz} {c : List Value} {x : GProblem} (hle : F.Le G) (h : GProblem.rep F c x) : GProblem.rep G c x := by
  obtain ⟨v0, cs0, v1, v2, v3, h0, h1, h2, h3, h4⟩ := h; exact ⟨v0, cs0, v1, v2, v3, h0, SlD.mono (rep := GDomain.rep) (fun _ _ _ _ => GDomain.mono) h1 hle, h2.mono hle, h3.mono hle, h4.mono hle⟩
theorem GProblem.len {F : Frz} {c : List Value} {x : GProblem} (h : GProblem.rep F c x) : c.length = 4 := by
  obtain ⟨v0, cs0, v1, v2, v3, h0, h1, h2, h3, h4⟩ := h; subst h0; rfl
theorem GProblem.one {F : Frz} {c : List Value} {x : GProblem} (h : GProblem.rep F c x) : OneCs c := by
  obtain ⟨v0, cs0, v1, v2, v3, h0, h1, h2, h3, h4⟩ := h; subst h0; haveI := h1.1.oneC; haveI := h2.oneC; haveI := h3.oneC; haveI := h4.oneC
  infer_instance
theorem GProblem.c0 {F : Frz} {c : List Value} {x : GProblem} (h : GProblem.rep F c x) : c[0]? = some (nth c 0) ∧ ∃ cs, SlD GDomain.rep F (nth c 0) 2 cs x.Domains := by
  obtain ⟨v0, cs0, v1, v2, v3, h0, h1, h2, h3, h4⟩ := h; subst h0; exact ⟨rfl, cs0, h1⟩
theorem GProblem.c1 {F : Frz} {c : List Value} {x : GProblem} (h : GProblem.rep F c x) : c[1]? = some (nth c 1) ∧ SlC F (nth c 1) 5 (x.Rules.Pairs.map GPair.enc) := by
  obtain ⟨v0, cs0, v1, v2, v3, h0, h1, h2, h3, h4⟩ := h; subst h0; exact ⟨rfl, h2⟩
theorem GProblem.c2 {F : Frz} {c : List Value} {x : GProblem} (h : GProblem.rep F c x) : c[2]? = some (nth c 2) ∧ SlC F (nth c 2) 5 (x.Rules.Loads.map GLoad.enc) := by
  obtain ⟨v0, cs0, v1, v2, v3, h0, h1, h2, h3, h4⟩ := h; subst h0; exact ⟨rfl, h3⟩
theorem GProblem.c3 {F : Frz} {c : List Value} {x : GProblem} (h : GProblem.rep F c x) : c[3]? = some (nth c 3) ∧ SlC F (nth c 3) 4 (x.Rules.Caps.map GCap.enc) := by
  obtain ⟨v0, cs0, v1, v2, v3, h0, h1, h2, h3, h4⟩ := h; subst h0; exact ⟨rfl, h4⟩
theorem GProblem.form {F : Frz} {c : List Value} {x : GProblem} (h : GProblem.rep F c x) : (c.drop 0).take 4 = [nth c 0, nth c 1, nth c 2, nth c 3] := by
  obtain ⟨v0, cs0, v1, v2, v3, h0, h1, h2, h3, h4⟩ := h; subst h0; rfl
def zbe (n : Int) : Bool :=
  ((decide (0 ≤ n)) && (decide (n ≤ 511)))
theorem zbT (F0 : Frz) (w : World) (hF0 : F0.At w) (n : Int) : Calls Tryz.prog 31 #[.int .i64 n] w fun e w' => e = .returned (.bool (zbe n)) ∧ Below w.heap.size w w' := by
  obtain ⟨r, hk⟩ : ∃ r, zbe n = r := ⟨_, rfl⟩; rw [hk]; unfold zbe at hk; obtain ⟨S0, F1, rfl, hS0, hp0⟩ := zam hF0; refine zap Tryz.func31 rfl rfl rfl hp0 ?_; refine T.sr ?_; refine TL.run 1 rfl ?_; refine TL.ns (T.seq ?_); refine T.af (ι := Unit) (fun z => [(2, .bool ((decide (0 ≤ n)) && (decide (n ≤ 511))))]) (fun z => [.fr F1]) (fun z => True) ?_ ?_
  · refine T.region ?_; refine TL.run 3 rfl ?_; refine TL.gs rfl rfl rfl (fun h1 => ?_) (fun h1 => ?_)
    · have p1 := of_decide_eq_true h1; refine TL.run 4 rfl ?_; refine TL.nil ?_; exact K.ae () trivial (.b (zcQ h1) .nil) (List.Sublist.refl _)
    · have p1 := of_decide_eq_false h1; refine TL.run 4 rfl ?_; refine TL.nil ?_; exact K.ae () trivial (.b (zaA h1).symm .nil) (List.Sublist.refl _)
  · rintro _ _; refine T.ret ?_; subst hk; exact K.ai rfl rfl (fun w' hw => ⟨rfl, hw.isBelow⟩)
def zbr (l : List GChoice) : Bool :=
  zaI (fun (_ : Unit) =>
    true)
  (fun k1 =>
    zai (fun (i_3 : Nat) (next2 : Unit → Bool) (_ : Unit) =>
      (bif ((((!(zbe ((nth l i_3).Station))) || (decide ((nth l i_3).Channel < 2))) || (decide (51 < (nth l i_3).Channel))) || ((decide (0 < (i_3 : Int))) && (decide ((nth l i_3).Station ≤ (nth l (((i_3 : Int) - 1).toNat)).Station)))) then
        false
        else
        next2 ()))
    (fun (_ : Unit) =>
      k1 ()) (l.length - 0) 0 ())
theorem zdm (F0 : Frz) (w : World) (hF0 : F0.At w) (l : List GChoice) (vl : Value) (hl : SlC F0 vl 2 (l.map GChoice.enc)) : Calls Tryz.prog 12 #[vl] w fun e w' => e = .returned (.bool (zbr l)) ∧ Below w.heap.size w w' := by
  obtain ⟨r, hk⟩ : ∃ r, zbr l = r := ⟨_, rfl⟩; rw [hk]; unfold zbr at hk; haveI := hl.oneC; obtain ⟨S0, F1, rfl, hS0, hp0⟩ := zam hF0; refine zap Tryz.func12 rfl rfl rfl hp0 ?_; refine T.sr ?_; refine TL.run 1 rfl ?_; refine TL.ns (T.seq (T.sr ?_)); refine TL.run 1 rfl ?_; refine TL.ns ?_; have hq := zag hk; clear hk; obtain ⟨k1, hk1, hk⟩ := hq; (try dsimp only at hk); refine T.af (ι := Unit) (fun z => []) (fun z => [.fr F1]) (fun z => k1 () = r) ?_ ?_
  · have hq := zak hk; clear hk; obtain ⟨f2, kk2, hf2, hkk2, hk⟩ := hq; refine T.block ?_; refine T.loop (ι := Nat) (fun z => [(0, vl), (3, .int .i64 (z : Int))]) (fun z => [.fr F1]) (fun z => zai f2 kk2 (l.length - z) z () = r) (fun z => l.length - z) 0 ?_ ?_ ?_ ?_
    · exact hk
    · exact (.c (.c .nil))
    · exact List.Sublist.refl _
    · rintro i_3 hk; refine T.seq (T.sr ?_); refine TL.run 2 rfl ?_; refine TL.y (Yv.an rfl rfl hl (List.length_map _)) ?_; have hm6 : l.length ≤ 9223372036854775807 := (List.length_map _) ▸ hl.max; refine TL.run 1 rfl ?_; refine TL.ns ?_; refine T.cond rfl (fun h4 => ?_) (fun h4 => ?_)
      · have p4 := of_decide_eq_true h4; rw [zat (by omega)] at hk; generalize hn2 : zai f2 kk2 (l.length - (i_3 + 1)) (i_3 + 1) = next2 at hk; rw [← hf2] at hk; (try dsimp only at hk); refine T.skip (K.seq (T.seq (T.block (T.seq ?_)))); refine T.af (ι := Unit) (fun z => [(0, vl), (3, .int .i64 (i_3 : Int)), (50, .bool ((((!(zbe ((nth l i_3).Station))) || (decide ((nth l i_3).Channel < 2))) || (decide (51 < (nth l i_3).Channel))) || ((decide (0 < (i_3 : Int))) && (decide ((nth l i_3).Station ≤ (nth l (((i_3 : Int) - 1).toNat)).Station)))))]) (fun z => [.fr F1]) (fun z => True) ?_ ?_
        · refine T.aw (.still 0 (.still 1 (.still 2 (.still 3 (.still 4 (.eff 5 (.still 6 (.still 7 (.still 8 (.still 9 (.still 10 (.still 11 (.still 12 (.still 13 (.still 14 (.still 15 (.still 16 (.still 17 (.still 18 (.still 19 (.still 20 (.still 21 (.still 22 (.still 23 (.still 24 (.still 25 (.still 26 (.still 27 (.still 28 (.still 29 (.still 30 (.still 31 (.still 32 (.still 33 (.still 34 (.still 35 (.still 36 (.still 37 (.still 38 (.still 39 (.still 40 .done))))))))))))))))))))))))))))))))))))))))) _ (by kernel_rfl) (List.Sublist.refl _) ?_; refine TS.run 2 rfl ?_; refine TS.y rfl (Yv.am (i := i_3) rfl rfl rfl hl (List.length_map _) rfl (by omega)) ?_; refine TS.y rfl (Yv.aE rfl rfl hl (List.length_map _) (by omega)) ?_; refine TS.y rfl (Yv.as 0 (i := i_3) (j := 0) rfl rfl rfl hl (by omega) rfl rfl) ?_; refine TS.eff ?_; refine TSo.ar rfl (Wt.none rfl) rfl rfl (Ew.ag rfl rfl rfl (fun w hw => zbT _ w (hw.fr (i := 0) rfl) ((nth l i_3).Station))) ?_; rintro _ _ ⟨rfl, rfl⟩; refine ⟨(fun w hw => hw.sub Sx), ?_⟩; refine TS.run 2 rfl ?_; refine TS.gs rfl rfl rfl rfl (fun h5 => ?_) (fun h5 => ?_)
          · refine TS.run 33 rfl ?_; refine TS.done ?_; exact K.ae () trivial (.c (.c (.b (zb2 (zb2 (zb2 h5))).symm .nil))) (List.Sublist.refl _)
          · refine TS.run 2 rfl ?_; refine TS.y rfl (Yv.am (i := i_3) rfl rfl rfl hl (List.length_map _) rfl (by omega)) ?_; refine TS.y rfl (Yv.aE rfl rfl hl (List.length_map _) (by omega)) ?_; refine TS.y rfl (Yv.as 0 (i := i_3) (j := 1) rfl rfl rfl hl (by omega) rfl rfl) ?_; refine TS.run 3 rfl ?_; refine TS.gs rfl rfl rfl rfl (fun h6 => ?_) (fun h6 => ?_)
            · have p6 := of_decide_eq_true h6; refine TS.run 25 rfl ?_; refine TS.done ?_; exact K.ae () trivial (.c (.c (.b (zb2 (zb2 (zbz h5 h6))).symm .nil))) (List.Sublist.refl _)
            · have p6 := of_decide_eq_false h6; refine TS.run 2 rfl ?_; refine TS.y rfl (Yv.am (i := i_3) rfl rfl rfl hl (List.length_map _) rfl (by omega)) ?_; refine TS.y rfl (Yv.aE rfl rfl hl (List.length_map _) (by omega)) ?_; refine TS.y rfl (Yv.as 0 (i := i_3) (j := 1) rfl rfl rfl hl (by omega) rfl rfl) ?_; refine TS.run 3 rfl ?_; refine TS.gs rfl rfl rfl rfl (fun h7 => ?_) (fun h7 => ?_)
              · have p7 := of_decide_eq_true h7; refine TS.run 17 rfl ?_; refine TS.done ?_; exact K.ae () trivial (.c (.c (.b (zb2 (zbz (zbz h5 h6) h7)).symm .nil))) (List.Sublist.refl _)
              · have p7 := of_decide_eq_false h7; refine TS.run 3 rfl ?_; refine TS.gs rfl rfl rfl rfl (fun h8 => ?_) (fun h8 => ?_)
                · have p8 := of_decide_eq_true h8; refine TS.run 2 rfl ?_; refine TS.y rfl (Yv.aL rfl rfl rfl (by omega)) ?_; refine TS.y rfl (Yv.am (i := ((i_3 : Int) - 1).toNat) rfl rfl rfl hl (List.length_map _) (by omega) (by omega)) ?_; refine TS.y rfl (Yv.aE rfl rfl hl (List.length_map _) (by omega)) ?_; refine TS.y rfl (Yv.as 0 (i := ((i_3 : Int) - 1).toNat) (j := 0) rfl rfl rfl hl (by omega) rfl rfl) ?_; refine TS.run 2 rfl ?_; refine TS.y rfl (Yv.am (i := i_3) rfl rfl rfl hl (List.length_map _) rfl (by omega)) ?_; refine TS.y rfl (Yv.aE rfl rfl hl (List.length_map _) (by omega)) ?_; refine TS.y rfl (Yv.as 0 (i := i_3) (j := 0) rfl rfl rfl hl (by omega) rfl rfl) ?_; refine TS.run 3 rfl ?_; refine TS.done ?_; exact K.ae () trivial (.c (.c (.b (Eq.trans (zcQ h8) (or_f (zbz (zbz h5 h6) h7))) .nil))) (List.Sublist.refl _)
                · have p8 := of_decide_eq_false h8; refine TS.run 14 rfl ?_; refine TS.done ?_; exact K.ae () trivial (.c (.c (.b (zbz (zbz (zbz h5 h6) h7) (zaA h8)).symm .nil))) (List.Sublist.refl _)
        · rintro _ _; refine T.cond rfl (fun h9 => ?_) (fun h9 => ?_)
          · replace hk := zaa hk h9; refine T.sr ?_; refine TL.run 1 rfl ?_; refine TL.ns (T.ret (K.ah (K.ab (K.ab (K.ah (K.ab ?_)))))); subst hk; exact K.ai rfl rfl (fun w' hw => ⟨rfl, hw.isBelow⟩)
          · have p9 := h9; (try simp only [nfB] at p9); replace hk := zab hk h9; refine T.skip (K.ac (K.seq (T.region ?_))); refine TL.run 1 rfl ?_; refine TL.y (Yv.ao rfl rfl rfl (by omega)) ?_; refine TL.run 1 rfl ?_; refine TL.nil ?_; rw [← hn2] at hk; exact K.next (i_3 + 1) hk (by omega) (.c (.c .nil)) (List.Sublist.refl _)
      · have p4 := of_decide_eq_false h4; rw [zas (by omega), ← hkk2] at hk; (try dsimp only at hk); refine T.exit (K.aa (K.aa (K.ad ?_))); exact K.ae () hk .nil (List.Sublist.refl _)
  · rintro _ hk; rw [← hk1] at hk; (try dsimp only at hk); refine T.sr ?_; refine TL.run 1 rfl ?_; refine TL.ns (T.ret ?_); subst hk; exact K.ai rfl rfl (fun w' hw => ⟨rfl, hw.isBelow⟩)
def zbJ (a : List Int) (b : List Int) : Bool :=
  (bif decide (¬ (a.length : Int) = (b.length : Int)) then
    false
    else
    zaI (fun (_ : Unit) =>
      true)
    (fun k2 =>
      zai (fun (i_4 : Nat) (next3 : Unit → Bool) (_ : Unit) =>
        (bif decide (¬ (nth a i_4) = (nth b i_4)) then
          false
          else
          next3 ()))
      (fun (_ : Unit) =>
        k2 ()) (a.length - 0) 0 ()))
theorem zdF (F0 : Frz) (w : World) (hF0 : F0.At w) (a : List Int) (va : Value) (ha : SlC F0 va 1 (a.map eI)) (b : List Int) (vb : Value) (hb : SlC F0 vb 1 (b.map eI)) : Calls Tryz.prog 15 #[va, vb] w fun e w' => e = .returned (.bool (zbJ a b)) ∧ Below w.heap.size w w' := by
  obtain ⟨r, hk⟩ : ∃ r, zbJ a b = r := ⟨_, rfl⟩; rw [hk]; unfold zbJ at hk; haveI := ha.oneC; haveI := hb.oneC; obtain ⟨S0, F1, rfl, hS0, hp0⟩ := zam hF0; refine zap Tryz.func15 rfl rfl rfl hp0 ?_; refine T.sr ?_; refine TL.run 1 rfl ?_; refine TL.ns (T.seq (T.sr ?_)); refine TL.run 1 rfl ?_; refine TL.y (Yv.an rfl rfl ha (List.length_map _)) ?_; have hm7 : a.length ≤ 9223372036854775807 := (List.length_map _) ▸ ha.max; refine TL.run 1 rfl ?_; refine TL.y (Yv.an rfl rfl hb (List.length_map _)) ?_; have hm9 : b.length ≤ 9223372036854775807 := (List.length_map _) ▸ hb.max; refine TL.run 1 rfl ?_; refine TL.ns ?_; refine T.cond rfl (fun h1 => ?_) (fun h1 => ?_)
  · have p1 := of_decide_eq_true h1; replace hk := zaa hk h1; refine T.sr ?_; refine TL.run 1 rfl ?_; refine TL.ns (T.ret (K.ab ?_)); subst hk; exact K.ai rfl rfl (fun w' hw => ⟨rfl, hw.isBelow⟩)
  · have p1 := of_decide_eq_false h1; replace hk := zab hk h1; refine T.skip (K.seq (T.seq (T.sr ?_))); refine TL.run 1 rfl ?_; refine TL.ns ?_; have hq := zag hk; clear hk; obtain ⟨k2, hk2, hk⟩ := hq; (try dsimp only at hk); refine T.af (ι := Unit) (fun z => []) (fun z => [.fr F1]) (fun z => k2 () = r) ?_ ?_
    · have hq := zak hk; clear hk; obtain ⟨f3, kk3, hf3, hkk3, hk⟩ := hq; refine T.block ?_; refine T.loop (ι := Nat) (fun z => [(0, va), (1, vb), (5, .int .i64 (z : Int))]) (fun z => [.fr F1]) (fun z => zai f3 kk3 (a.length - z) z () = r) (fun z => a.length - z) 0 ?_ ?_ ?_ ?_
      · exact hk
      · exact (.c (.c (.c .nil)))
      · exact List.Sublist.refl _
      · rintro i_4 hk; refine T.seq (T.sr ?_); refine TL.run 2 rfl ?_; refine TL.y (Yv.an rfl rfl ha (List.length_map _)) ?_; refine TL.run 1 rfl ?_; refine TL.ns ?_; refine T.cond rfl (fun h5 => ?_) (fun h5 => ?_)
        · have p5 := of_decide_eq_true h5; rw [zat (by omega)] at hk; generalize hn3 : zai f3 kk3 (a.length - (i_4 + 1)) (i_4 + 1) = next3 at hk; rw [← hf3] at hk; (try dsimp only at hk); refine T.skip (K.seq (T.seq (T.block (T.seq ?_)))); refine T.aw (.still 0 (.still 1 (.still 2 (.still 3 (.still 4 (.still 5 (.still 6 (.still 7 (.still 8 .done))))))))) _ (by kernel_rfl) (List.Sublist.refl _) ?_; refine TS.run 2 rfl ?_; refine TS.y rfl (Yv.am (i := i_4) rfl rfl rfl ha (List.length_map _) rfl (by omega)) ?_; refine TS.y rfl (Yv.as 0 (i := i_4) (j := 0) rfl rfl rfl ha (by omega) rfl rfl) ?_; refine TS.run 2 rfl ?_; refine TS.y rfl (Yv.am (i := i_4) rfl rfl rfl hb (List.length_map _) rfl (by omega)) ?_; refine TS.y rfl (Yv.as 0 (i := i_4) (j := 0) rfl rfl rfl hb (by omega) rfl rfl) ?_; refine TS.run 1 rfl ?_; refine TS.done ?_; refine K.seq ?_; refine T.cond rfl (fun h6 => ?_) (fun h6 => ?_)
          · have p6 := of_decide_eq_true h6; replace hk := zaa hk h6; refine T.sr ?_; refine TL.run 1 rfl ?_; refine TL.ns (T.ret (K.ah (K.ab (K.ab (K.ah (K.ab ?_)))))); subst hk; exact K.ai rfl rfl (fun w' hw => ⟨rfl, hw.isBelow⟩)
          · have p6 := of_decide_eq_false h6; replace hk := zab hk h6; refine T.skip (K.ac (K.seq (T.region ?_))); refine TL.run 1 rfl ?_; refine TL.y (Yv.ao rfl rfl rfl (by omega)) ?_; refine TL.run 1 rfl ?_; refine TL.nil ?_; rw [← hn3] at hk; exact K.next (i_4 + 1) hk (by omega) (.c (.c (.c .nil))) (List.Sublist.refl _)
        · have p5 := of_decide_eq_false h5; rw [zas (by omega), ← hkk3] at hk; (try dsimp only at hk); refine T.exit (K.aa (K.aa (K.ad ?_))); exact K.ae () hk .nil (List.Sublist.refl _)
    · rintro _ hk; rw [← hk2] at hk; (try dsimp only at hk); refine T.sr ?_; refine TL.run 1 rfl ?_; refine TL.ns (T.ret ?_); subst hk; exact K.ai rfl rfl (fun w' hw => ⟨rfl, hw.isBelow⟩)
def za7 (a : List GChoice) (b : List GChoice) : Bool :=
  (bif decide (¬ (a.length : Int) = (b.length : Int)) then
    false
    else
    zaI (fun (_ : Unit) =>
      true)
    (fun k2 =>
      zai (fun (i_4 : Nat) (next3 : Unit → Bool) (_ : Unit) =>
        (bif !(decide ((nth a i_4).Station = (nth b i_4).Station) && decide ((nth a i_4).Channel = (nth b i_4).Channel)) then
          false
          else
          next3 ()))
      (fun (_ : Unit) =>
        k2 ()) (a.length - 0) 0 ()))
theorem zbY (F0 : Frz) (w : World) (hF0 : F0.At w) (a : List GChoice) (va : Value) (ha : SlC F0 va 2 (a.map GChoice.enc)) (b : List GChoice) (vb : Value) (hb : SlC F0 vb 2 (b.map GChoice.enc)) : Calls Tryz.prog 19 #[va, vb] w fun e w' => e = .returned (.bool (za7 a b)) ∧ Below w.heap.size w w' := by
  obtain ⟨r, hk⟩ : ∃ r, za7 a b = r := ⟨_, rfl⟩; rw [hk]; unfold za7 at hk; haveI := ha.oneC; haveI := hb.oneC; obtain ⟨S0, F1, rfl, hS0, hp0⟩ := zam hF0; refine zap Tryz.func19 rfl rfl rfl hp0 ?_; refine T.sr ?_; refine TL.run 1 rfl ?_; refine TL.ns (T.seq (T.sr ?_)); refine TL.run 1 rfl ?_; refine TL.y (Yv.an rfl rfl ha (List.length_map _)) ?_; have hm7 : a.length ≤ 9223372036854775807 := (List.length_map _) ▸ ha.max; refine TL.run 1 rfl ?_; refine TL.y (Yv.an rfl rfl hb (List.length_map _)) ?_; have hm9 : b.length ≤ 9223372036854775807 := (List.length_map _) ▸ hb.max; refine TL.run 1 rfl ?_; refine TL.ns ?_; refine T.cond rfl (fun h1 => ?_) (fun h1 => ?_)
  · have p1 := of_decide_eq_true h1; replace hk := zaa hk h1; refine T.sr ?_; refine TL.run 1 rfl ?_; refine TL.ns (T.ret (K.ab ?_)); subst hk; exact K.ai rfl rfl (fun w' hw => ⟨rfl, hw.isBelow⟩)
  · have p1 := of_decide_eq_false h1; replace hk := zab hk h1; refine T.skip (K.seq (T.seq (T.sr ?_))); refine TL.run 1 rfl ?_; refine TL.ns ?_; have hq := zag hk; clear hk; obtain ⟨k2, hk2, hk⟩ := hq; (try dsimp only at hk); refine T.af (ι := Unit) (fun z => []) (fun z => [.fr F1]) (fun z => k2 () = r) ?_ ?_
    · have hq := zak hk; clear hk; obtain ⟨f3, kk3, hf3, hkk3, hk⟩ := hq; refine T.block ?_; refine T.loop (ι := Nat) (fun z => [(0, va), (1, vb), (5, .int .i64 (z : Int))]) (fun z => [.fr F1]) (fun z => zai f3 kk3 (a.length - z) z () = r) (fun z => a.length - z) 0 ?_ ?_ ?_ ?_
      · exact hk
      · exact (.c (.c (.c .nil)))
      · exact List.Sublist.refl _
      · rintro i_4 hk; refine T.seq (T.sr ?_); refine TL.run 2 rfl ?_; refine TL.y (Yv.an rfl rfl ha (List.length_map _)) ?_; refine TL.run 1 rfl ?_; refine TL.ns ?_; refine T.cond rfl (fun h5 => ?_) (fun h5 => ?_)
        · have p5 := of_decide_eq_true h5; rw [zat (by omega)] at hk; generalize hn3 : zai f3 kk3 (a.length - (i_4 + 1)) (i_4 + 1) = next3 at hk; rw [← hf3] at hk; (try dsimp only at hk); refine T.skip (K.seq (T.seq (T.block (T.seq ?_)))); refine T.aw (.still 0 (.still 1 (.still 2 (.still 3 (.still 4 (.still 5 (.still 6 (.still 7 (.still 8 .done))))))))) _ (by kernel_rfl) (List.Sublist.refl _) ?_; refine TS.run 2 rfl ?_; refine TS.y rfl (Yv.am (i := i_4) rfl rfl rfl ha (List.length_map _) rfl (by omega)) ?_; refine TS.y rfl (Yv.aq 0 (i := i_4) rfl rfl rfl ha (by omega) rfl rfl rfl) ?_; refine TS.run 2 rfl ?_; refine TS.y rfl (Yv.am (i := i_4) rfl rfl rfl hb (List.length_map _) rfl (by omega)) ?_; refine TS.y rfl (Yv.aq 0 (i := i_4) rfl rfl rfl hb (by omega) rfl rfl rfl) ?_; refine TS.y rfl (Yv.bY (by kernel_rfl) rfl rfl rfl) ?_; refine TS.done ?_; refine K.seq ?_; refine T.cond rfl (fun h6 => ?_) (fun h6 => ?_)
          · replace hk := zaa hk h6; refine T.sr ?_; refine TL.run 1 rfl ?_; refine TL.ns (T.ret (K.ah (K.ab (K.ab (K.ah (K.ab ?_)))))); subst hk; exact K.ai rfl rfl (fun w' hw => ⟨rfl, hw.isBelow⟩)
          · have p6 := h6; (try simp only [nfB] at p6); replace hk := zab hk h6; refine T.skip (K.ac (K.seq (T.region ?_))); refine TL.run 1 rfl ?_; refine TL.y (Yv.ao rfl rfl rfl (by omega)) ?_; refine TL.run 1 rfl ?_; refine TL.nil ?_; rw [← hn3] at hk; exact K.next (i_4 + 1) hk (by omega) (.c (.c (.c .nil))) (List.Sublist.refl _)
        · have p5 := of_decide_eq_false h5; rw [zas (by omega), ← hkk3] at hk; (try dsimp only at hk); refine T.exit (K.aa (K.aa (K.ad ?_))); exact K.ae () hk .nil (List.Sublist.refl _)
    · rintro _ hk; rw [← hk2] at hk; (try dsimp only at hk); refine T.sr ?_; refine TL.run 1 rfl ?_; refine TL.ns (T.ret ?_); subst hk; exact K.ai rfl rfl (fun w' hw => ⟨rfl, hw.isBelow⟩)
def zcO (fuel : Nat) (p : GProblem) (domains : Int) (rules : Int) : Option Bool :=
  zaI (fun (_ : Unit) =>
    some ((((decide ((p.Domains.length : Int) ≤ domains)) && (decide ((p.Rules.Pairs.length : Int) ≤ rules))) && (decide ((p.Rules.Loads.length : Int) ≤ rules))) && (decide ((p.Rules.Caps.length : Int) ≤ rules))))
  (fun k1 =>
    zbW (fun (next3 : Int → Option Bool) (i_2 : Int) =>
      (bif ((decide (i_2 < (p.Domains.length : Int))) && (decide (i_2 < 600))) then
        grd (0 ≤ i_2 ∧ i_2 < (p.Domains.length : Int)) <|
        (bif decide (60 < (((nth p.Domains i_2.toNat).Channels).length : Int)) then
          some false
          else
          next3 (i_2 + 1))
        else
        k1 ())) fuel 0)
theorem zfR (F0 : Frz) (w : World) (hF0 : F0.At w) (p : GProblem) (vp_0 : Value) (cp_0 : List (List Value)) (hp_0 : SlD GDomain.rep F0 vp_0 2 cp_0 p.Domains) (vp_1 : Value) (hp_1 : SlC F0 vp_1 5 (p.Rules.Pairs.map GPair.enc)) (vp_2 : Value) (hp_2 : SlC F0 vp_2 5 (p.Rules.Loads.map GLoad.enc)) (vp_3 : Value) (hp_3 : SlC F0 vp_3 4 (p.Rules.Caps.map GCap.enc)) (domains : Int) (rules : Int) (fuel : Nat) (r : Bool) (hr : zcO fuel p domains rules = some r) : Calls Tryz.prog 23 #[.agg [vp_0, vp_1, vp_2, vp_3].toArray, .int .i64 domains, .int .i64 rules] w fun e w' => e = .returned (.bool r) ∧ Below w.heap.size w w' := by
  have hk := hr; unfold zcO at hk; haveI := hp_0.1.oneC; haveI := hp_1.oneC; haveI := hp_2.oneC; haveI := hp_3.oneC; obtain ⟨S0, F1, rfl, hS0, hp0⟩ := zam hF0; refine zap Tryz.func23 rfl rfl rfl hp0 ?_; refine T.sr ?_; refine TL.e (Ew.az rfl rfl) ?_; rintro _ _ ⟨g3, rfl, rfl⟩; refine TL.run 1 rfl ?_; refine TL.ns (T.seq (T.sr ?_)); refine TL.run 1 rfl ?_; refine TL.ns ?_; have hq := zag hk; clear hk; obtain ⟨k1, hk1, hk⟩ := hq; (try dsimp only at hk); refine T.af (ι := Unit) (fun z => [(1, .int .i64 domains), (2, .int .i64 rules), (3, .pointer (some ⟨g3, 0, none⟩))]) (fun z => [.row g3 29 [vp_0, vp_1, vp_2, vp_3], .fr F1]) (fun z => k1 () = some r) ?_ ?_
  · have hq := zcX hk; clear hk; obtain ⟨f3, hf3, hk⟩ := hq; refine T.block ?_; refine T.loop (ι := Nat × Int) (fun z => [(1, .int .i64 domains), (2, .int .i64 rules), (3, .pointer (some ⟨g3, 0, none⟩)), (7, .int .i64 z.2)]) (fun z => [.row g3 29 [vp_0, vp_1, vp_2, vp_3], .fr F1]) (fun z => zbW f3 z.1 z.2 = some r) (fun z => z.1) (fuel, 0) ?_ ?_ ?_ ?_
    · exact hk
    · exact (.c (.c (.c (.c .nil))))
    · exact List.Sublist.refl _
    · rintro ⟨m_4, i_2⟩ hk; (try dsimp only at *); have hq := zc5 hk; clear hk; obtain ⟨m_4', rfl, hk⟩ := hq; generalize hn3 : zbW f3 m_4' = next3 at hk; rw [← hf3] at hk; (try dsimp only at hk); refine T.seq (T.seq ?_); refine T.af (ι := Unit) (fun z => [(1, .int .i64 domains), (2, .int .i64 rules), (3, .pointer (some ⟨g3, 0, none⟩)), (7, .int .i64 i_2), (16, .bool ((decide (i_2 < (p.Domains.length : Int))) && (decide (i_2 < 600))))]) (fun z => [.row g3 29 [vp_0, vp_1, vp_2, vp_3], .fr F1]) (fun z => True) ?_ ?_
      · refine T.region ?_; refine TL.run 1 rfl ?_; refine TL.y (Yv.fieldAddr rfl rfl) ?_; refine TL.y (Yv.a 0 rfl rfl rfl rfl) ?_; refine TL.y (Yv.an rfl rfl hp_0.1 hp_0.2.1) ?_; have hm11 : p.Domains.length ≤ 9223372036854775807 := hp_0.2.1 ▸ hp_0.1.max; refine TL.run 2 rfl ?_; refine TL.gs rfl rfl rfl (fun h5 => ?_) (fun h5 => ?_)
        · have p5 := of_decide_eq_true h5; refine TL.run 3 rfl ?_; refine TL.nil ?_; exact K.ae () trivial (.c (.c (.c (.c (.b (zcQ h5) .nil))))) (List.Sublist.refl _)
        · have p5 := of_decide_eq_false h5; refine TL.run 3 rfl ?_; refine TL.nil ?_; exact K.ae () trivial (.c (.c (.c (.c (.b (zaA h5).symm .nil))))) (List.Sublist.refl _)
      · rintro _ _; have hm11 : p.Domains.length ≤ 9223372036854775807 := hp_0.2.1 ▸ hp_0.1.max; refine T.cond rfl (fun h6 => ?_) (fun h6 => ?_)
        · have p6 := h6; (try simp only [nfB] at p6); replace hk := zaa hk h6; refine T.skip (K.seq (T.seq (T.block (T.seq ?_)))); have hq : (0 ≤ i_2 ∧ i_2 < (p.Domains.length : Int)) ∧ _ := zaq hk; clear hk; obtain ⟨g22, hk⟩ := hq; (try dsimp only at hk); refine T.region ?_; refine TL.y (Yv.fieldAddr rfl rfl) ?_; refine TL.y (Yv.a 0 rfl rfl rfl rfl) ?_; refine TL.run 1 rfl ?_; refine TL.y (Yv.am (i := i_2.toNat) rfl rfl rfl hp_0.1 hp_0.2.1 (by omega) (by omega)) ?_; refine TL.y (Yv.aE rfl rfl hp_0.1 hp_0.2.1 (by omega)) ?_; refine TL.y (Yv.aP 1 (i := i_2.toNat) (j := 1) rfl rfl rfl hp_0.1 hp_0.2.1 (by omega) rfl (GDomain.c1 (hp_0.2.2 i_2.toNat (by omega))).1) ?_; have hd24_1 := (GDomain.c1 (hp_0.2.2 i_2.toNat (by omega))).2; haveI := hd24_1.oneC; refine TL.y (Yv.an rfl rfl hd24_1 (List.length_map _)) ?_; have hm25 : ((nth p.Domains i_2.toNat).Channels).length ≤ 9223372036854775807 := (List.length_map _) ▸ hd24_1.max; refine TL.run 1 rfl ?_; refine TL.ns ?_; refine T.cond rfl (fun h7 => ?_) (fun h7 => ?_)
          · have p7 := of_decide_eq_true h7; replace hk := zaa hk h7; refine T.sr ?_; refine TL.run 1 rfl ?_; refine TL.ns (T.ret (K.ah (K.ab (K.ab (K.ah (K.ab ?_)))))); obtain rfl := Option.some.inj hk; exact K.ai rfl rfl (fun w' hw => ⟨rfl, hw.isBelow⟩)
          · have p7 := of_decide_eq_false h7; replace hk := zab hk h7; refine T.skip (K.ac (K.seq (T.region ?_))); refine TL.run 1 rfl ?_; refine TL.y (Yv.ao rfl rfl rfl (by omega)) ?_; refine TL.run 1 rfl ?_; refine TL.nil ?_; rw [← hn3] at hk; exact K.next (m_4', (i_2 + 1)) hk (by dsimp only; omega) (.c (.c (.c (.c .nil)))) (List.Sublist.refl _)
        · replace hk := zab hk h6; refine T.exit (K.aa (K.aa (K.ad ?_))); exact K.ae () hk (.c (.c (.c .nil))) (List.Sublist.refl _)
  · rintro _ hk; rw [← hk1] at hk; (try dsimp only at hk); refine T.seq ?_; refine T.af (ι := Unit) (fun z => [(6, .bool ((((decide ((p.Domains.length : Int) ≤ domains)) && (decide ((p.Rules.Pairs.length : Int) ≤ rules))) && (decide ((p.Rules.Loads.length : Int) ≤ rules))) && (decide ((p.Rules.Caps.length : Int) ≤ rules))))]) (fun z => [.row g3 29 [vp_0, vp_1, vp_2, vp_3], .fr F1]) (fun z => True) ?_ ?_
    · refine T.region ?_; refine TL.y (Yv.fieldAddr rfl rfl) ?_; refine TL.y (Yv.a 0 rfl rfl rfl rfl) ?_; refine TL.y (Yv.an rfl rfl hp_0.1 hp_0.2.1) ?_; have hm29 : p.Domains.length ≤ 9223372036854775807 := hp_0.2.1 ▸ hp_0.1.max; refine TL.run 3 rfl ?_; refine TL.gs rfl rfl rfl (fun h8 => ?_) (fun h8 => ?_)
      · have p8 := of_decide_eq_true h8; refine TL.y (Yv.fieldAddr rfl rfl) ?_; refine TL.y (Yv.fieldAddr rfl rfl) ?_; refine TL.y (Yv.a 0 rfl rfl rfl rfl) ?_; refine TL.y (Yv.an rfl rfl hp_1 (List.length_map _)) ?_; have hm36 : p.Rules.Pairs.length ≤ 9223372036854775807 := (List.length_map _) ▸ hp_1.max; refine TL.run 4 rfl ?_; refine TL.gs rfl rfl rfl (fun h9 => ?_) (fun h9 => ?_)
        · have p9 := of_decide_eq_true h9; refine TL.y (Yv.fieldAddr rfl rfl) ?_; refine TL.y (Yv.fieldAddr rfl rfl) ?_; refine TL.y (Yv.a 0 rfl rfl rfl rfl) ?_; refine TL.y (Yv.an rfl rfl hp_2 (List.length_map _)) ?_; have hm44 : p.Rules.Loads.length ≤ 9223372036854775807 := (List.length_map _) ▸ hp_2.max; refine TL.run 4 rfl ?_; refine TL.gs rfl rfl rfl (fun h10 => ?_) (fun h10 => ?_)
          · have p10 := of_decide_eq_true h10; refine TL.y (Yv.fieldAddr rfl rfl) ?_; refine TL.y (Yv.fieldAddr rfl rfl) ?_; refine TL.y (Yv.a 0 rfl rfl rfl rfl) ?_; refine TL.y (Yv.an rfl rfl hp_3 (List.length_map _)) ?_; have hm52 : p.Rules.Caps.length ≤ 9223372036854775807 := (List.length_map _) ▸ hp_3.max; refine TL.run 4 rfl ?_; refine TL.nil ?_; exact K.ae () trivial (.b (zcQ (zaW (zaW h8 h9) h10)) .nil) (List.Sublist.refl _)
          · have p10 := of_decide_eq_false h10; refine TL.run 8 rfl ?_; refine TL.nil ?_; exact K.ae () trivial (.b (zaA (zaW (zaW h8 h9) h10)).symm .nil) (List.Sublist.refl _)
        · have p9 := of_decide_eq_false h9; refine TL.run 16 rfl ?_; refine TL.nil ?_; exact K.ae () trivial (.b (zaA (zaA (zaW h8 h9))).symm .nil) (List.Sublist.refl _)
      · have p8 := of_decide_eq_false h8; refine TL.run 24 rfl ?_; refine TL.nil ?_; exact K.ae () trivial (.b (zaA (zaA (zaA h8))).symm .nil) (List.Sublist.refl _)
    · rintro _ _; have hm29 : p.Domains.length ≤ 9223372036854775807 := hp_0.2.1 ▸ hp_0.1.max; have hm36 : p.Rules.Pairs.length ≤ 9223372036854775807 := (List.length_map _) ▸ hp_1.max; have hm44 : p.Rules.Loads.length ≤ 9223372036854775807 := (List.length_map _) ▸ hp_2.max; have hm52 : p.Rules.Caps.length ≤ 9223372036854775807 := (List.length_map _) ▸ hp_3.max; refine T.ret ?_; obtain rfl := Option.some.inj hk; exact K.ai rfl rfl (fun w' hw => ⟨rfl, hw.isBelow⟩)
def zbb (p : GProblem) (n : Int) : Int :=
  zaI (fun (_ : Unit) =>
    (-1))
  (fun k1 =>
    zai (fun (i_3 : Nat) (next2 : Unit → Int) (_ : Unit) =>
      (bif decide ((nth p.Domains i_3).Station = n) then
        (i_3 : Int)
        else
        next2 ()))
    (fun (_ : Unit) =>
      k1 ()) (p.Domains.length - 0) 0 ())
theorem zcJ (F0 : Frz) (w : World) (hF0 : F0.At w) (p : GProblem) (vp_0 : Value) (cp_0 : List (List Value)) (hp_0 : SlD GDomain.rep F0 vp_0 2 cp_0 p.Domains) (vp_1 : Value) (hp_1 : SlC F0 vp_1 5 (p.Rules.Pairs.map GPair.enc)) (vp_2 : Value) (hp_2 : SlC F0 vp_2 5 (p.Rules.Loads.map GLoad.enc)) (vp_3 : Value) (hp_3 : SlC F0 vp_3 4 (p.Rules.Caps.map GCap.enc)) (n : Int) : Calls Tryz.prog 32 #[.agg [vp_0, vp_1, vp_2, vp_3].toArray, .int .i64 n] w fun e w' => e = .returned (.int .i64 (zbb p n)) ∧ Below w.heap.size w w' := by
  obtain ⟨r, hk⟩ : ∃ r, zbb p n = r := ⟨_, rfl⟩; rw [hk]; unfold zbb at hk; haveI := hp_0.1.oneC; haveI := hp_1.oneC; haveI := hp_2.oneC; haveI := hp_3.oneC; obtain ⟨S0, F1, rfl, hS0, hp0⟩ := zam hF0; refine zap Tryz.func32 rfl rfl rfl hp0 ?_; refine T.sr ?_; refine TL.e (Ew.az rfl rfl) ?_; rintro _ _ ⟨g2, rfl, rfl⟩; refine TL.run 1 rfl ?_; refine TL.ns (T.seq (T.sr ?_)); refine TL.run 1 rfl ?_; refine TL.ns ?_; have hq := zag hk; clear hk; obtain ⟨k1, hk1, hk⟩ := hq; (try dsimp only at hk); refine T.af (ι := Unit) (fun z => []) (fun z => [.fr F1]) (fun z => k1 () = r) ?_ ?_
  · have hq := zak hk; clear hk; obtain ⟨f2, kk2, hf2, hkk2, hk⟩ := hq; refine T.block ?_; refine T.loop (ι := Nat) (fun z => [(1, .int .i64 n), (2, .pointer (some ⟨g2, 0, none⟩)), (5, .int .i64 (z : Int))]) (fun z => [.row g2 29 [vp_0, vp_1, vp_2, vp_3], .fr F1]) (fun z => zai f2 kk2 (p.Domains.length - z) z () = r) (fun z => p.Domains.length - z) 0 ?_ ?_ ?_ ?_
    · exact hk
    · exact (.c (.c (.c .nil)))
    · exact List.Sublist.refl _
    · rintro i_3 hk; refine T.seq (T.sr ?_); refine TL.run 1 rfl ?_; refine TL.y (Yv.fieldAddr rfl rfl) ?_; refine TL.y (Yv.a 0 rfl rfl rfl rfl) ?_; refine TL.y (Yv.an rfl rfl hp_0.1 hp_0.2.1) ?_; have hm9 : p.Domains.length ≤ 9223372036854775807 := hp_0.2.1 ▸ hp_0.1.max; refine TL.run 1 rfl ?_; refine TL.ns ?_; refine T.cond rfl (fun h4 => ?_) (fun h4 => ?_)
      · have p4 := of_decide_eq_true h4; rw [zat (by omega)] at hk; generalize hn2 : zai f2 kk2 (p.Domains.length - (i_3 + 1)) (i_3 + 1) = next2 at hk; rw [← hf2] at hk; (try dsimp only at hk); refine T.skip (K.seq (T.seq (T.block (T.sr ?_)))); refine TL.y (Yv.fieldAddr rfl rfl) ?_; refine TL.y (Yv.a 0 rfl rfl rfl rfl) ?_; refine TL.run 1 rfl ?_; refine TL.y (Yv.am (i := i_3) rfl rfl rfl hp_0.1 hp_0.2.1 rfl (by omega)) ?_; refine TL.y (Yv.aE rfl rfl hp_0.1 hp_0.2.1 (by omega)) ?_; refine TL.y (Yv.aP 1 (i := i_3) (j := 0) rfl rfl rfl hp_0.1 hp_0.2.1 (by omega) rfl (GDomain.c0 (hp_0.2.2 i_3 (by omega)))) ?_; refine TL.run 2 rfl ?_; refine TL.ns ?_; refine T.cond rfl (fun h5 => ?_) (fun h5 => ?_)
        · have p5 := of_decide_eq_true h5; replace hk := zaa hk h5; refine T.sr ?_; refine TL.run 2 rfl ?_; refine TL.ns (T.ret (K.ah (K.ab (K.ab (K.ah (K.ab ?_)))))); subst hk; exact K.ai rfl rfl (fun w' hw => ⟨rfl, hw.isBelow⟩)
        · have p5 := of_decide_eq_false h5; replace hk := zab hk h5; refine T.skip (K.ac (K.seq (T.region ?_))); refine TL.run 1 rfl ?_; refine TL.y (Yv.ao rfl rfl rfl (by omega)) ?_; refine TL.run 1 rfl ?_; refine TL.nil ?_; rw [← hn2] at hk; exact K.next (i_3 + 1) hk (by omega) (.c (.c (.c .nil))) (List.Sublist.refl _)
      · have p4 := of_decide_eq_false h4; rw [zas (by omega), ← hkk2] at hk; (try dsimp only at hk); refine T.exit (K.aa (K.aa (K.ad ?_))); refine K.pick [1] rfl (by decide) ?_; exact K.ae () hk .nil (List.Sublist.refl _)
  · rintro _ hk; rw [← hk1] at hk; (try dsimp only at hk); refine T.sr ?_; refine TL.run 1 rfl ?_; refine TL.ns (T.ret ?_); subst hk; exact K.ai rfl rfl (fun w' hw => ⟨rfl, hw.isBelow⟩)
def zaC (l : List GChoice) (n : Int) : Int :=
  zaI (fun (_ : Unit) =>
    0)
  (fun k1 =>
    zai (fun (i_3 : Nat) (next2 : Unit → Int) (_ : Unit) =>
      (bif decide ((nth l i_3).Station = n) then
        ((nth l i_3).Channel)
        else
        next2 ()))
    (fun (_ : Unit) =>
      k1 ()) (l.length - 0) 0 ())
theorem zdu (F0 : Frz) (w : World) (hF0 : F0.At w) (l : List GChoice) (vl : Value) (hl : SlC F0 vl 2 (l.map GChoice.enc)) (n : Int) : Calls Tryz.prog 40 #[vl, .int .i64 n] w fun e w' => e = .returned (.int .i64 (zaC l n)) ∧ Below w.heap.size w w' := by
  obtain ⟨r, hk⟩ : ∃ r, zaC l n = r := ⟨_, rfl⟩; rw [hk]; unfold zaC at hk; haveI := hl.oneC; obtain ⟨S0, F1, rfl, hS0, hp0⟩ := zam hF0; refine zap Tryz.func40 rfl rfl rfl hp0 ?_; refine T.sr ?_; refine TL.run 1 rfl ?_; refine TL.ns (T.seq (T.sr ?_)); refine TL.run 1 rfl ?_; refine TL.ns ?_; have hq := zag hk; clear hk; obtain ⟨k1, hk1, hk⟩ := hq; (try dsimp only at hk); refine T.af (ι := Unit) (fun z => []) (fun z => [.fr F1]) (fun z => k1 () = r) ?_ ?_
  · have hq := zak hk; clear hk; obtain ⟨f2, kk2, hf2, hkk2, hk⟩ := hq; refine T.block ?_; refine T.loop (ι := Nat) (fun z => [(0, vl), (1, .int .i64 n), (5, .int .i64 (z : Int))]) (fun z => [.fr F1]) (fun z => zai f2 kk2 (l.length - z) z () = r) (fun z => l.length - z) 0 ?_ ?_ ?_ ?_
    · exact hk
    · exact (.c (.c (.c .nil)))
    · exact List.Sublist.refl _
    · rintro i_3 hk; refine T.seq (T.sr ?_); refine TL.run 2 rfl ?_; refine TL.y (Yv.an rfl rfl hl (List.length_map _)) ?_; have hm8 : l.length ≤ 9223372036854775807 := (List.length_map _) ▸ hl.max; refine TL.run 1 rfl ?_; refine TL.ns ?_; refine T.cond rfl (fun h4 => ?_) (fun h4 => ?_)
      · have p4 := of_decide_eq_true h4; rw [zat (by omega)] at hk; generalize hn2 : zai f2 kk2 (l.length - (i_3 + 1)) (i_3 + 1) = next2 at hk; rw [← hf2] at hk; (try dsimp only at hk); refine T.skip (K.seq (T.seq (T.block (T.sr ?_)))); refine TL.run 2 rfl ?_; refine TL.y (Yv.am (i := i_3) rfl rfl rfl hl (List.length_map _) rfl (by omega)) ?_; refine TL.y (Yv.aE rfl rfl hl (List.length_map _) (by omega)) ?_; refine TL.y (Yv.as 0 (i := i_3) (j := 0) rfl rfl rfl hl (by omega) rfl rfl) ?_; refine TL.run 2 rfl ?_; refine TL.ns ?_; refine T.cond rfl (fun h5 => ?_) (fun h5 => ?_)
        · have p5 := of_decide_eq_true h5; replace hk := zaa hk h5; refine T.sr ?_; refine TL.run 2 rfl ?_; refine TL.y (Yv.am (i := i_3) rfl rfl rfl hl (List.length_map _) rfl (by omega)) ?_; refine TL.y (Yv.aE rfl rfl hl (List.length_map _) (by omega)) ?_; refine TL.y (Yv.as 0 (i := i_3) (j := 1) rfl rfl rfl hl (by omega) rfl rfl) ?_; refine TL.run 1 rfl ?_; refine TL.ns (T.ret (K.ah (K.ab (K.ab (K.ah (K.ab ?_)))))); subst hk; exact K.ai rfl rfl (fun w' hw => ⟨rfl, hw.isBelow⟩)
        · have p5 := of_decide_eq_false h5; replace hk := zab hk h5; refine T.skip (K.ac (K.seq (T.region ?_))); refine TL.run 1 rfl ?_; refine TL.y (Yv.ao rfl rfl rfl (by omega)) ?_; refine TL.run 1 rfl ?_; refine TL.nil ?_; rw [← hn2] at hk; exact K.next (i_3 + 1) hk (by omega) (.c (.c (.c .nil))) (List.Sublist.refl _)
      · have p4 := of_decide_eq_false h4; rw [zas (by omega), ← hkk2] at hk; (try dsimp only at hk); refine T.exit (K.aa (K.aa (K.ad ?_))); exact K.ae () hk .nil (List.Sublist.refl _)
  · rintro _ hk; rw [← hk1] at hk; (try dsimp only at hk); refine T.sr ?_; refine TL.run 1 rfl ?_; refine TL.ns (T.ret ?_); subst hk; exact K.ai rfl rfl (fun w' hw => ⟨rfl, hw.isBelow⟩)
def zaU (l : List Int) (n : Int) : Bool :=
  zaI (fun (_ : Unit) =>
    false)
  (fun k1 =>
    zai (fun (i_3 : Nat) (next2 : Unit → Bool) (_ : Unit) =>
      (bif decide ((nth l i_3) = n) then
        true
        else
        next2 ()))
    (fun (_ : Unit) =>
      k1 ()) (l.length - 0) 0 ())
theorem ze9 (F0 : Frz) (w : World) (hF0 : F0.At w) (l : List Int) (vl : Value) (hl : SlC F0 vl 1 (l.map eI)) (n : Int) : Calls Tryz.prog 41 #[vl, .int .i64 n] w fun e w' => e = .returned (.bool (zaU l n)) ∧ Below w.heap.size w w' := by
  obtain ⟨r, hk⟩ : ∃ r, zaU l n = r := ⟨_, rfl⟩; rw [hk]; unfold zaU at hk; haveI := hl.oneC; obtain ⟨S0, F1, rfl, hS0, hp0⟩ := zam hF0; refine zap Tryz.func41 rfl rfl rfl hp0 ?_; refine T.sr ?_; refine TL.run 1 rfl ?_; refine TL.ns (T.seq (T.sr ?_)); refine TL.run 1 rfl ?_; refine TL.ns ?_; have hq := zag hk; clear hk; obtain ⟨k1, hk1, hk⟩ := hq; (try dsimp only at hk); refine T.af (ι := Unit) (fun z => []) (fun z => [.fr F1]) (fun z => k1 () = r) ?_ ?_
  · have hq := zak hk; clear hk; obtain ⟨f2, kk2, hf2, hkk2, hk⟩ := hq; refine T.block ?_; refine T.loop (ι := Nat) (fun z => [(0, vl), (1, .int .i64 n), (5, .int .i64 (z : Int))]) (fun z => [.fr F1]) (fun z => zai f2 kk2 (l.length - z) z () = r) (fun z => l.length - z) 0 ?_ ?_ ?_ ?_
    · exact hk
    · exact (.c (.c (.c .nil)))
    · exact List.Sublist.refl _
    · rintro i_3 hk; refine T.seq (T.sr ?_); refine TL.run 2 rfl ?_; refine TL.y (Yv.an rfl rfl hl (List.length_map _)) ?_; have hm8 : l.length ≤ 9223372036854775807 := (List.length_map _) ▸ hl.max; refine TL.run 1 rfl ?_; refine TL.ns ?_; refine T.cond rfl (fun h4 => ?_) (fun h4 => ?_)
      · have p4 := of_decide_eq_true h4; rw [zat (by omega)] at hk; generalize hn2 : zai f2 kk2 (l.length - (i_3 + 1)) (i_3 + 1) = next2 at hk; rw [← hf2] at hk; (try dsimp only at hk); refine T.skip (K.seq (T.seq (T.block (T.sr ?_)))); refine TL.run 2 rfl ?_; refine TL.y (Yv.am (i := i_3) rfl rfl rfl hl (List.length_map _) rfl (by omega)) ?_; refine TL.y (Yv.as 0 (i := i_3) (j := 0) rfl rfl rfl hl (by omega) rfl rfl) ?_; refine TL.run 2 rfl ?_; refine TL.ns ?_; refine T.cond rfl (fun h5 => ?_) (fun h5 => ?_)
        · have p5 := of_decide_eq_true h5; replace hk := zaa hk h5; refine T.sr ?_; refine TL.run 1 rfl ?_; refine TL.ns (T.ret (K.ah (K.ab (K.ab (K.ah (K.ab ?_)))))); subst hk; exact K.ai rfl rfl (fun w' hw => ⟨rfl, hw.isBelow⟩)
        · have p5 := of_decide_eq_false h5; replace hk := zab hk h5; refine T.skip (K.ac (K.seq (T.region ?_))); refine TL.run 1 rfl ?_; refine TL.y (Yv.ao rfl rfl rfl (by omega)) ?_; refine TL.run 1 rfl ?_; refine TL.nil ?_; rw [← hn2] at hk; exact K.next (i_3 + 1) hk (by omega) (.c (.c (.c .nil))) (List.Sublist.refl _)
      · have p4 := of_decide_eq_false h4; rw [zas (by omega), ← hkk2] at hk; (try dsimp only at hk); refine T.exit (K.aa (K.aa (K.ad ?_))); exact K.ae () hk .nil (List.Sublist.refl _)
  · rintro _ hk; rw [← hk1] at hk; (try dsimp only at hk); refine T.sr ?_; refine TL.run 1 rfl ?_; refine TL.ns (T.ret ?_); subst hk; exact K.ai rfl rfl (fun w' hw => ⟨rfl, hw.isBelow⟩)
def zcL (low : Int) (high : Int) : Bool :=
  (((decide (2 ≤ low)) && (decide (low ≤ high))) && (decide (high ≤ 51)))
theorem zdX (F0 : Frz) (w : World) (hF0 : F0.At w) (low : Int) (high : Int) : Calls Tryz.prog 55 #[.int .i64 low, .int .i64 high] w fun e w' => e = .returned (.bool (zcL low high)) ∧ Below w.heap.size w w' := by
  obtain ⟨r, hk⟩ : ∃ r, zcL low high = r := ⟨_, rfl⟩; rw [hk]; unfold zcL at hk; obtain ⟨S0, F1, rfl, hS0, hp0⟩ := zam hF0; refine zap Tryz.func55 rfl rfl rfl hp0 ?_; refine T.sr ?_; refine TL.run 1 rfl ?_; refine TL.ns (T.seq ?_); refine T.af (ι := Unit) (fun z => [(4, .bool (((decide (2 ≤ low)) && (decide (low ≤ high))) && (decide (high ≤ 51))))]) (fun z => [.fr F1]) (fun z => True) ?_ ?_
  · refine T.region ?_; refine TL.run 3 rfl ?_; refine TL.gs rfl rfl rfl (fun h1 => ?_) (fun h1 => ?_)
    · have p1 := of_decide_eq_true h1; refine TL.run 5 rfl ?_; refine TL.gs rfl rfl rfl (fun h2 => ?_) (fun h2 => ?_)
      · have p2 := of_decide_eq_true h2; refine TL.run 4 rfl ?_; refine TL.nil ?_; exact K.ae () trivial (.b (zcQ (zaW h1 h2)) .nil) (List.Sublist.refl _)
      · have p2 := of_decide_eq_false h2; refine TL.run 4 rfl ?_; refine TL.nil ?_; exact K.ae () trivial (.b (zaA (zaW h1 h2)).symm .nil) (List.Sublist.refl _)
    · have p1 := of_decide_eq_false h1; refine TL.run 9 rfl ?_; refine TL.nil ?_; exact K.ae () trivial (.b (zaA (zaA h1)).symm .nil) (List.Sublist.refl _)
  · rintro _ _; refine T.ret ?_; subst hk; exact K.ai rfl rfl (fun w' hw => ⟨rfl, hw.isBelow⟩)
def zbZ (a : List Int) (b : List Int) : Option Bool :=
  zaI (fun (_ : Unit) =>
    some false)
  (fun k1 =>
    zai (fun (i_3 : Nat) (next2 : Unit → Option Bool) (_ : Unit) =>
      grd (0 ≤ (i_3 : Int) ∧ (i_3 : Int) < (b.length : Int)) <|
      (bif decide (¬ (nth a i_3) = (nth b i_3)) then
        some (decide ((nth a i_3) < (nth b i_3)))
        else
        next2 ()))
    (fun (_ : Unit) =>
      k1 ()) (a.length - 0) 0 ())
theorem zdU (F0 : Frz) (w : World) (hF0 : F0.At w) (a : List Int) (va : Value) (ha : SlC F0 va 1 (a.map eI)) (b : List Int) (vb : Value) (hb : SlC F0 vb 1 (b.map eI)) (r : Bool) (hr : zbZ a b = some r) : Calls Tryz.prog 56 #[va, vb] w fun e w' => e = .returned (.bool r) ∧ Below w.heap.size w w' := by
  have hk := hr; unfold zbZ at hk; haveI := ha.oneC; haveI := hb.oneC; obtain ⟨S0, F1, rfl, hS0, hp0⟩ := zam hF0; refine zap Tryz.func56 rfl rfl rfl hp0 ?_; refine T.sr ?_; refine TL.run 1 rfl ?_; refine TL.ns (T.seq (T.sr ?_)); refine TL.run 1 rfl ?_; refine TL.ns ?_; have hq := zag hk; clear hk; obtain ⟨k1, hk1, hk⟩ := hq; (try dsimp only at hk); refine T.af (ι := Unit) (fun z => []) (fun z => [.fr F1]) (fun z => k1 () = some r) ?_ ?_
  · have hq := zak hk; clear hk; obtain ⟨f2, kk2, hf2, hkk2, hk⟩ := hq; refine T.block ?_; refine T.loop (ι := Nat) (fun z => [(0, va), (1, vb), (5, .int .i64 (z : Int))]) (fun z => [.fr F1]) (fun z => zai f2 kk2 (a.length - z) z () = some r) (fun z => a.length - z) 0 ?_ ?_ ?_ ?_
    · exact hk
    · exact (.c (.c (.c .nil)))
    · exact List.Sublist.refl _
    · rintro i_3 hk; refine T.seq (T.sr ?_); refine TL.run 2 rfl ?_; refine TL.y (Yv.an rfl rfl ha (List.length_map _)) ?_; have hm8 : a.length ≤ 9223372036854775807 := (List.length_map _) ▸ ha.max; refine TL.run 1 rfl ?_; refine TL.ns ?_; refine T.cond rfl (fun h4 => ?_) (fun h4 => ?_)
      · have p4 := of_decide_eq_true h4; rw [zat (by omega)] at hk; generalize hn2 : zai f2 kk2 (a.length - (i_3 + 1)) (i_3 + 1) = next2 at hk; rw [← hf2] at hk; (try dsimp only at hk); refine T.skip (K.seq (T.seq (T.block (T.seq ?_)))); have hq : (0 ≤ (i_3 : Int) ∧ (i_3 : Int) < (b.length : Int)) ∧ _ := zaq hk; clear hk; obtain ⟨g18, hk⟩ := hq; (try dsimp only at hk); refine T.aw (.still 0 (.still 1 (.still 2 (.still 3 (.still 4 (.still 5 (.still 6 (.still 7 (.still 8 .done))))))))) _ (by kernel_rfl) (List.Sublist.refl _) ?_; refine TS.run 2 rfl ?_; refine TS.y rfl (Yv.am (i := i_3) rfl rfl rfl ha (List.length_map _) rfl (by omega)) ?_; refine TS.y rfl (Yv.as 0 (i := i_3) (j := 0) rfl rfl rfl ha (by omega) rfl rfl) ?_; refine TS.run 2 rfl ?_; refine TS.y rfl (Yv.am (i := i_3) rfl rfl rfl hb (List.length_map _) rfl (by omega)) ?_; refine TS.y rfl (Yv.as 0 (i := i_3) (j := 0) rfl rfl rfl hb (by omega) rfl rfl) ?_; refine TS.run 1 rfl ?_; refine TS.done ?_; refine K.seq ?_; refine T.cond rfl (fun h5 => ?_) (fun h5 => ?_)
        · have p5 := of_decide_eq_true h5; replace hk := zaa hk h5; refine T.seq ?_; refine T.aw (.still 0 (.still 1 (.still 2 (.still 3 (.still 4 (.still 5 (.still 6 (.still 7 (.still 8 (.still 9 .done)))))))))) _ (by kernel_rfl) (List.Sublist.refl _) ?_; refine TS.run 2 rfl ?_; refine TS.y rfl (Yv.am (i := i_3) rfl rfl rfl ha (List.length_map _) rfl (by omega)) ?_; refine TS.y rfl (Yv.as 0 (i := i_3) (j := 0) rfl rfl rfl ha (by omega) rfl rfl) ?_; refine TS.run 2 rfl ?_; refine TS.y rfl (Yv.am (i := i_3) rfl rfl rfl hb (List.length_map _) rfl (by omega)) ?_; refine TS.y rfl (Yv.as 0 (i := i_3) (j := 0) rfl rfl rfl hb (by omega) rfl rfl) ?_; refine TS.run 2 rfl ?_; refine TS.done ?_; refine K.seq (T.ret (K.ah (K.ab (K.ab (K.ah (K.ab ?_)))))); obtain rfl := Option.some.inj hk; exact K.ai rfl rfl (fun w' hw => ⟨rfl, hw.isBelow⟩)
        · have p5 := of_decide_eq_false h5; replace hk := zab hk h5; refine T.skip (K.ac (K.seq (T.region ?_))); refine TL.run 1 rfl ?_; refine TL.y (Yv.ao rfl rfl rfl (by omega)) ?_; refine TL.run 1 rfl ?_; refine TL.nil ?_; rw [← hn2] at hk; exact K.next (i_3 + 1) hk (by omega) (.c (.c (.c .nil))) (List.Sublist.refl _)
      · have p4 := of_decide_eq_false h4; rw [zas (by omega), ← hkk2] at hk; (try dsimp only at hk); refine T.exit (K.aa (K.aa (K.ad ?_))); exact K.ae () hk .nil (List.Sublist.refl _)
  · rintro _ hk; rw [← hk1] at hk; (try dsimp only at hk); refine T.sr ?_; refine TL.run 1 rfl ?_; refine TL.ns (T.ret ?_); obtain rfl := Option.some.inj hk; exact K.ai rfl rfl (fun w' hw => ⟨rfl, hw.isBelow⟩)
def zbD (x_ : GPair) : List Int :=
  [x_.A, x_.B, x_.Offset, x_.Low, x_.High]
theorem zee (F0 : Frz) (w : World) (hF0 : F0.At w) (x_ : GPair) : Calls Tryz.prog 57 #[.agg [.int .i64 x_.A, .int .i64 x_.B, .int .i64 x_.Offset, .int .i64 x_.Low, .int .i64 x_.High].toArray] w fun e w' => ∃ (y : Value) (G : Frz), (SlC G y 1 ((zbD x_).map eI)) ∧ e = .returned (y) ∧ Fx F0 w G w' := by
  obtain ⟨r, hk⟩ : ∃ r, zbD x_ = r := ⟨_, rfl⟩; rw [hk]; unfold zbD at hk; obtain ⟨S0, F1, rfl, hS0, hp0⟩ := zam hF0; refine zap Tryz.func57 rfl rfl rfl hp0 ?_; refine T.sr ?_; refine TL.e (Ew.az rfl rfl) ?_; rintro _ _ ⟨g1, rfl, rfl⟩; refine TL.run 1 rfl ?_; refine TL.nx ?_; refine TL.y (Yv.fieldAddr rfl rfl) ?_; refine TL.y (Yv.a 0 rfl rfl rfl rfl) ?_; refine TL.y (Yv.fieldAddr rfl rfl) ?_; refine TL.y (Yv.a 0 rfl rfl rfl rfl) ?_; refine TL.y (Yv.fieldAddr rfl rfl) ?_; refine TL.y (Yv.a 0 rfl rfl rfl rfl) ?_; refine TL.y (Yv.fieldAddr rfl rfl) ?_; refine TL.y (Yv.a 0 rfl rfl rfl rfl) ?_; refine TL.y (Yv.fieldAddr rfl rfl) ?_; refine TL.y (Yv.a 0 rfl rfl rfl rfl) ?_; refine TL.e (Ew.buildSlice rfl rfl rfl (by decide)) ?_; rintro _ _ ⟨g13, rfl, rfl⟩; refine TL.run 1 rfl ?_; refine TL.ns (T.ret ?_); refine K.av (fun w hw => hw.freezeR (i := 2) (j := 0) (by decide) rfl rfl) ?_; rintro F2 ⟨le1_2, hz2⟩; dsimp only [List.set, List.eraseIdx]; have hf2 : SlC F2.toFrz (.slice (some ⟨g13, 0, none⟩) 5 5) 1 ([x_.A, x_.B, x_.Offset, x_.Low, x_.High].map eI) := (SlK.lit hz2 rfl (Nat.le_refl _) (by decide)).toF (xs := [x_.A, x_.B, x_.Offset, x_.Low, x_.High]) rfl (fun _ => rfl); subst hk; exact K.ai rfl rfl (fun w' hw => ⟨(.slice (some ⟨g13, 0, none⟩) 5 5), F2.toFrz, hf2, rfl, Fx.of hw (i := 1) rfl hS0 le1_2⟩)
def zbC (x_ : GLoad) : List Int :=
  [x_.To, x_.From, x_.Weight, x_.Low, x_.High]
theorem zed (F0 : Frz) (w : World) (hF0 : F0.At w) (x_ : GLoad) : Calls Tryz.prog 58 #[.agg [.int .i64 x_.To, .int .i64 x_.From, .int .i64 x_.Weight, .int .i64 x_.Low, .int .i64 x_.High].toArray] w fun e w' => ∃ (y : Value) (G : Frz), (SlC G y 1 ((zbC x_).map eI)) ∧ e = .returned (y) ∧ Fx F0 w G w' := by
  obtain ⟨r, hk⟩ : ∃ r, zbC x_ = r := ⟨_, rfl⟩; rw [hk]; unfold zbC at hk; obtain ⟨S0, F1, rfl, hS0, hp0⟩ := zam hF0; refine zap Tryz.func58 rfl rfl rfl hp0 ?_; refine T.sr ?_; refine TL.e (Ew.az rfl rfl) ?_; rintro _ _ ⟨g1, rfl, rfl⟩; refine TL.run 1 rfl ?_; refine TL.nx ?_; refine TL.y (Yv.fieldAddr rfl rfl) ?_; refine TL.y (Yv.a 0 rfl rfl rfl rfl) ?_; refine TL.y (Yv.fieldAddr rfl rfl) ?_; refine TL.y (Yv.a 0 rfl rfl rfl rfl) ?_; refine TL.y (Yv.fieldAddr rfl rfl) ?_; refine TL.y (Yv.a 0 rfl rfl rfl rfl) ?_; refine TL.y (Yv.fieldAddr rfl rfl) ?_; refine TL.y (Yv.a 0 rfl rfl rfl rfl) ?_; refine TL.y (Yv.fieldAddr rfl rfl) ?_; refine TL.y (Yv.a 0 rfl rfl rfl rfl) ?_; refine TL.e (Ew.buildSlice rfl rfl rfl (by decide)) ?_; rintro _ _ ⟨g13, rfl, rfl⟩; refine TL.run 1 rfl ?_; refine TL.ns (T.ret ?_); refine K.av (fun w hw => hw.freezeR (i := 2) (j := 0) (by decide) rfl rfl) ?_; rintro F2 ⟨le1_2, hz2⟩; dsimp only [List.set, List.eraseIdx]; have hf2 : SlC F2.toFrz (.slice (some ⟨g13, 0, none⟩) 5 5) 1 ([x_.To, x_.From, x_.Weight, x_.Low, x_.High].map eI) := (SlK.lit hz2 rfl (Nat.le_refl _) (by decide)).toF (xs := [x_.To, x_.From, x_.Weight, x_.Low, x_.High]) rfl (fun _ => rfl); subst hk; exact K.ai rfl rfl (fun w' hw => ⟨(.slice (some ⟨g13, 0, none⟩) 5 5), F2.toFrz, hf2, rfl, Fx.of hw (i := 1) rfl hS0 le1_2⟩)
def zbP (x_ : GCap) : List Int :=
  [x_.Station, x_.Max, x_.Low, x_.High]
theorem zet (F0 : Frz) (w : World) (hF0 : F0.At w) (x_ : GCap) : Calls Tryz.prog 59 #[.agg [.int .i64 x_.Station, .int .i64 x_.Max, .int .i64 x_.Low, .int .i64 x_.High].toArray] w fun e w' => ∃ (y : Value) (G : Frz), (SlC G y 1 ((zbP x_).map eI)) ∧ e = .returned (y) ∧ Fx F0 w G w' := by
  obtain ⟨r, hk⟩ : ∃ r, zbP x_ = r := ⟨_, rfl⟩; rw [hk]; unfold zbP at hk; obtain ⟨S0, F1, rfl, hS0, hp0⟩ := zam hF0; refine zap Tryz.func59 rfl rfl rfl hp0 ?_; refine T.sr ?_; refine TL.e (Ew.az rfl rfl) ?_; rintro _ _ ⟨g1, rfl, rfl⟩; refine TL.run 1 rfl ?_; refine TL.nx ?_; refine TL.y (Yv.fieldAddr rfl rfl) ?_; refine TL.y (Yv.a 0 rfl rfl rfl rfl) ?_; refine TL.y (Yv.fieldAddr rfl rfl) ?_; refine TL.y (Yv.a 0 rfl rfl rfl rfl) ?_; refine TL.y (Yv.fieldAddr rfl rfl) ?_; refine TL.y (Yv.a 0 rfl rfl rfl rfl) ?_; refine TL.y (Yv.fieldAddr rfl rfl) ?_; refine TL.y (Yv.a 0 rfl rfl rfl rfl) ?_; refine TL.e (Ew.buildSlice rfl rfl rfl (by decide)) ?_; rintro _ _ ⟨g11, rfl, rfl⟩; refine TL.run 1 rfl ?_; refine TL.ns (T.ret ?_); refine K.av (fun w hw => hw.freezeR (i := 2) (j := 0) (by decide) rfl rfl) ?_; rintro F2 ⟨le1_2, hz2⟩; dsimp only [List.set, List.eraseIdx]; have hf2 : SlC F2.toFrz (.slice (some ⟨g11, 0, none⟩) 4 4) 1 ([x_.Station, x_.Max, x_.Low, x_.High].map eI) := (SlK.lit hz2 rfl (Nat.le_refl _) (by decide)).toF (xs := [x_.Station, x_.Max, x_.Low, x_.High]) rfl (fun _ => rfl); subst hk; exact K.ai rfl rfl (fun w' hw => ⟨(.slice (some ⟨g11, 0, none⟩) 4 4), F2.toFrz, hf2, rfl, Fx.of hw (i := 1) rfl hS0 le1_2⟩)
structure GSet where
  words : Vec 8 (BitVec 64)
deriving DecidableEq, Inhabited
abbrev GSet.enc (x : GSet) : List Value := (x.words.1.map U)
theorem GSet.len (x : GSet) : (GSet.enc x).length = 8 := Vec.len
def zbF (x_ : Int) : Bool :=
  (decide (¬ x_ = x_))
theorem zdE (F0 : Frz) (w : World) (hF0 : F0.At w) (x_ : Int) : Calls Tryz.prog 96 #[.int .i64 x_] w fun e w' => e = .returned (.bool (zbF x_)) ∧ Below w.heap.size w w' := by
  obtain ⟨r, hk⟩ : ∃ r, zbF x_ = r := ⟨_, rfl⟩; rw [hk]; unfold zbF at hk; obtain ⟨S0, F1, rfl, hS0, hp0⟩ := zam hF0; refine zap Tryz.func96 rfl rfl rfl hp0 ?_; refine T.sr ?_; refine TL.run 1 rfl ?_; refine TL.nx ?_; refine TL.run 4 rfl ?_; refine TL.ns (T.ret ?_); subst hk; exact K.ai rfl rfl (fun w' hw => ⟨rfl, hw.isBelow⟩)
def zac (x_ : Int) (y : Int) : Int :=
  (bif (zbF x_) then
    (bif (zbF y) then
      0
      else
      (-1))
    else
    (bif (zbF y) then
      1
      else
      (bif decide (x_ < y) then
        (-1)
        else
        (bif decide (y < x_) then
          1
          else
          0))))
theorem zaB (F0 : Frz) (w : World) (hF0 : F0.At w) (x_ : Int) (y : Int) : Calls Tryz.prog 65 #[.int .i64 x_, .int .i64 y] w fun e w' => e = .returned (.int .i64 (zac x_ y)) ∧ Below w.heap.size w w' := by
  obtain ⟨r, hk⟩ : ∃ r, zac x_ y = r := ⟨_, rfl⟩; rw [hk]; unfold zac at hk; obtain ⟨S0, F1, rfl, hS0, hp0⟩ := zam hF0; refine zap Tryz.func65 rfl rfl rfl hp0 ?_; refine T.sr ?_; refine TL.run 1 rfl ?_; refine TL.nx ?_; refine TL.run 1 rfl ?_; refine TL.e (Ew.ag rfl rfl rfl (fun w hw => zdE _ w (hw.fr (i := 0) rfl) x_)) ?_; rintro _ _ ⟨rfl, rfl⟩; refine TL.run 1 rfl ?_; refine TL.nx ?_; refine TL.run 1 rfl ?_; refine TL.e (Ew.ag rfl rfl rfl (fun w hw => zdE _ w (hw.fr (i := 0) rfl) y)) ?_; rintro _ _ ⟨rfl, rfl⟩; refine TL.run 1 rfl ?_; refine TL.ns (T.seq (T.sr ?_)); refine TL.run 1 rfl ?_; refine TL.ns ?_; refine T.cond rfl (fun h1 => ?_) (fun h1 => ?_)
  · replace hk := zaa hk h1; refine T.seq (T.sr ?_); refine TL.run 1 rfl ?_; refine TL.ns ?_; refine T.cond rfl (fun h2 => ?_) (fun h2 => ?_)
    · replace hk := zaa hk h2; refine T.sr ?_; refine TL.run 1 rfl ?_; refine TL.ns (T.ret (K.ab (K.ab ?_))); subst hk; exact K.ai rfl rfl (fun w' hw => ⟨rfl, hw.isBelow⟩)
    · replace hk := zab hk h2; refine T.skip (K.seq (T.sr ?_)); refine TL.run 1 rfl ?_; refine TL.ns (T.ret (K.ab ?_)); subst hk; exact K.ai rfl rfl (fun w' hw => ⟨rfl, hw.isBelow⟩)
  · replace hk := zab hk h1; refine T.skip (K.seq (T.seq (T.sr ?_))); refine TL.run 1 rfl ?_; refine TL.ns ?_; refine T.cond rfl (fun h3 => ?_) (fun h3 => ?_)
    · replace hk := zaa hk h3; refine T.sr ?_; refine TL.run 1 rfl ?_; refine TL.ns (T.ret (K.ab ?_)); subst hk; exact K.ai rfl rfl (fun w' hw => ⟨rfl, hw.isBelow⟩)
    · replace hk := zab hk h3; refine T.skip (K.seq (T.seq (T.sr ?_))); refine TL.run 3 rfl ?_; refine TL.ns ?_; refine T.cond rfl (fun h4 => ?_) (fun h4 => ?_)
      · have p4 := of_decide_eq_true h4; replace hk := zaa hk h4; refine T.sr ?_; refine TL.run 1 rfl ?_; refine TL.ns (T.ret (K.ab ?_)); subst hk; exact K.ai rfl rfl (fun w' hw => ⟨rfl, hw.isBelow⟩)
      · have p4 := of_decide_eq_false h4; replace hk := zab hk h4; refine T.skip (K.seq (T.seq (T.sr ?_))); refine TL.run 3 rfl ?_; refine TL.ns ?_; refine T.cond rfl (fun h5 => ?_) (fun h5 => ?_)
        · have p5 := of_decide_eq_true h5; replace hk := zaa hk h5; refine T.sr ?_; refine TL.run 1 rfl ?_; refine TL.ns (T.ret (K.ab ?_)); subst hk; exact K.ai rfl rfl (fun w' hw => ⟨rfl, hw.isBelow⟩)
        · have p5 := of_decide_eq_false h5; replace hk := zab hk h5; refine T.skip (K.seq (T.sr ?_)); refine TL.run 1 rfl ?_; refine TL.ns (T.ret ?_); subst hk; exact K.ai rfl rfl (fun w' hw => ⟨rfl, hw.isBelow⟩)
def zbn (i : Int) : Bool :=
  ((decide (0 ≤ i)) && (decide (i < 512)))
theorem zdI (F0 : Frz) (w : World) (hF0 : F0.At w) (i : Int) : Calls Tryz.prog 98 #[.int .i64 i] w fun e w' => e = .returned (.bool (zbn i)) ∧ Below w.heap.size w w' := by
  obtain ⟨r, hk⟩ : ∃ r, zbn i = r := ⟨_, rfl⟩; rw [hk]; unfold zbn at hk; obtain ⟨S0, F1, rfl, hS0, hp0⟩ := zam hF0; refine zap Tryz.func98 rfl rfl rfl hp0 ?_; refine T.sr ?_; refine TL.run 1 rfl ?_; refine TL.ns (T.seq ?_); refine T.af (ι := Unit) (fun z => [(2, .bool ((decide (0 ≤ i)) && (decide (i < 512))))]) (fun z => [.fr F1]) (fun z => True) ?_ ?_
  · refine T.region ?_; refine TL.run 3 rfl ?_; refine TL.gs rfl rfl rfl (fun h1 => ?_) (fun h1 => ?_)
    · have p1 := of_decide_eq_true h1; refine TL.run 4 rfl ?_; refine TL.nil ?_; exact K.ae () trivial (.b (zcQ h1) .nil) (List.Sublist.refl _)
    · have p1 := of_decide_eq_false h1; refine TL.run 4 rfl ?_; refine TL.nil ?_; exact K.ae () trivial (.b (zaA h1).symm .nil) (List.Sublist.refl _)
  · rintro _ _; refine T.ret ?_; subst hk; exact K.ai rfl rfl (fun w' hw => ⟨rfl, hw.isBelow⟩)
def zaL (s : GSet) (i : Int) : Option Bool :=
  zaI (fun (x_1 : Bool) =>
    some x_1)
  (fun k2 =>
    (bif (zbn i) then
      grd (0 ≤ i ∧ i ≤ 9223372036854775807 ∧ 1 ≤ (64 : Int)) <|
      grd (0 ≤ (i / 64) ∧ (i / 64) < (8 : Int)) <|
      grd (0 ≤ i ∧ 1 ≤ (64 : Int)) <|
      grd (0 ≤ (i % 64) ∧ (i % 64) < (64 : Int)) <|
      k2 (decide (((((Vec.get s.words ((i / 64).toNat)) >>> ((i % 64).toNat)) &&& (1#64)).toNat : Int) = ((1#64).toNat : Int)))
      else
      k2 false))
theorem zbg (F0 : Frz) (w : World) (hF0 : F0.At w) (s : GSet) (i : Int) (r : Bool) (hr : zaL s i = some r) : Calls Tryz.prog 70 #[.agg (s.words.1.map U).toArray, .int .i64 i] w fun e w' => e = .returned (.bool r) ∧ Below w.heap.size w w' := by
  have hk := hr; unfold zaL at hk; obtain ⟨S0, F1, rfl, hS0, hp0⟩ := zam hF0; refine zap Tryz.func70 rfl rfl rfl hp0 ?_; refine T.sr ?_; refine TL.e (Ew.az rfl rfl) ?_; rintro _ _ ⟨g2, rfl, rfl⟩; refine TL.run 1 rfl ?_; refine TL.ns (T.seq ?_); (try dsimp only at hk); have hq := zag hk; clear hk; obtain ⟨k2, hk2, hk⟩ := hq; (try dsimp only at hk); refine T.af (ι := Bool) (fun z => [(4, .bool z)]) (fun z => [.fr F1]) (fun z => k2 z = some r) ?_ ?_
  · refine T.region ?_; refine TL.run 1 rfl ?_; refine TL.e (Ew.ag rfl rfl rfl (fun w hw => zdI _ w (hw.fr (i := 1) rfl) i)) ?_; rintro _ _ ⟨rfl, rfl⟩; refine TL.run 1 rfl ?_; refine TL.gs rfl rfl rfl (fun h3 => ?_) (fun h3 => ?_)
    · replace hk := zaa hk h3; refine TL.run 1 rfl ?_; have hq : (0 ≤ i ∧ i ≤ 9223372036854775807 ∧ 1 ≤ (64 : Int)) ∧ _ := zaq hk; clear hk; obtain ⟨g9, hk⟩ := hq; refine TL.y (Yv.bE rfl rfl rfl g9) ?_; refine TL.y (Yv.fieldAddr rfl rfl) ?_; have hq : (0 ≤ (i / 64) ∧ (i / 64) < (8 : Int)) ∧ _ := zaq hk; clear hk; obtain ⟨g11, hk⟩ := hq; refine TL.y (Yv.al (i := (i / 64).toNat) rfl rfl rfl (by omega) (by omega)) ?_; refine TL.y (Yv.a 0 rfl rfl rfl (zbs (by omega) (Vec.cell (i := (i / 64).toNat) (by omega)))) ?_; refine TL.run 1 rfl ?_; have hq : (0 ≤ i ∧ 1 ≤ (64 : Int)) ∧ _ := zaq hk; clear hk; obtain ⟨g14, hk⟩ := hq; refine TL.y (Yv.bF rfl rfl rfl g14) ?_; have hq : (0 ≤ (i % 64) ∧ (i % 64) < (64 : Int)) ∧ _ := zaq hk; clear hk; obtain ⟨g15, hk⟩ := hq; refine TL.y (Yv.bf (a := (Vec.get s.words ((i / 64).toNat))) ((i % 64).toNat) rfl rfl rfl (by omega) (by omega)) ?_; refine TL.y (Yv.bT (a := ((Vec.get s.words ((i / 64).toNat)) >>> ((i % 64).toNat))) (b := 1#64) rfl rfl rfl) ?_; refine TL.run 3 rfl ?_; refine TL.nil ?_; refine K.pick [1] rfl (by decide) ?_; exact K.ae (decide (((((Vec.get s.words ((i / 64).toNat)) >>> ((i % 64).toNat)) &&& (1#64)).toNat : Int) = ((1#64).toNat : Int))) hk (.c .nil) (List.Sublist.refl _)
    · replace hk := zab hk h3; refine TL.run 12 rfl ?_; refine TL.nil ?_; refine K.pick [1] rfl (by decide) ?_; exact K.ae false hk (.c .nil) (List.Sublist.refl _)
  · rintro x_1 hk; rw [← hk2] at hk; (try dsimp only at hk); refine T.ret ?_; obtain rfl := Option.some.inj hk; exact K.ai rfl rfl (fun w' hw => ⟨rfl, hw.isBelow⟩)
def zcV (l : List Int) : Option (GSet × Int) :=
  zaI (fun (s3 : Vec 8 (BitVec 64) × Vec 8 (BitVec 64)) =>
    some ((GSet.mk s3.2), 0))
  (fun k3 =>
    zai (fun (i_7 : Nat) (next6 : (Vec 8 (BitVec 64) × Vec 8 (BitVec 64)) → Option (GSet × Int)) (s6 : Vec 8 (BitVec 64) × Vec 8 (BitVec 64)) =>
      (bif !(zbn (nth l i_7)) then
        some ((GSet.mk (Vec.fill 8 (0#64))), 2)
        else
        grd (0 ≤ (nth l i_7) ∧ (nth l i_7) ≤ 9223372036854775807 ∧ 1 ≤ (64 : Int)) <|
        grd (0 ≤ ((nth l i_7) / 64) ∧ ((nth l i_7) / 64) < (8 : Int)) <|
        grd (0 ≤ (nth l i_7) ∧ 1 ≤ (64 : Int)) <|
        grd (0 ≤ ((nth l i_7) % 64) ∧ ((nth l i_7) % 64) < (64 : Int)) <|
        next6 (s6.1, (Vec.put s6.2 (((nth l i_7) / 64).toNat) ((Vec.get s6.2 (((nth l i_7) / 64).toNat)) ||| ((1#64) <<< (((nth l i_7) % 64).toNat)))))))
    (fun (s6 : Vec 8 (BitVec 64) × Vec 8 (BitVec 64)) =>
      k3 (s6.1, s6.2)) (l.length - 0) 0 ((Vec.fill 8 (0#64)), (Vec.fill 8 (0#64))))
theorem zgL (F0 : Frz) (w : World) (hF0 : F0.At w) (l : List Int) (vl : Value) (hl : SlC F0 vl 1 (l.map eI)) (r : GSet × Int) (hr : zcV l = some r) : Calls Tryz.prog 97 #[vl] w fun e w' => e = .returned (.tuple #[.agg (r.1.words.1.map U).toArray, .int .i64 r.2]) ∧ Below w.heap.size w w' := by
  have hk := hr; unfold zcV at hk; haveI := hl.oneC; obtain ⟨S0, F1, rfl, hS0, hp0⟩ := zam hF0; refine zap Tryz.func97 rfl rfl rfl hp0 ?_; refine T.sr ?_; refine TL.e (Ew.aQ (l := ((Vec.fill 8 (0#64)).1.map U)) rfl (by kernel_rfl)) ?_; rintro _ _ ⟨g2, rfl, rfl⟩; refine TL.run 1 rfl ?_; refine TL.nx ?_; refine TL.e (Ew.aQ (l := ((Vec.fill 8 (0#64)).1.map U)) rfl (by kernel_rfl)) ?_; rintro _ _ ⟨g4, rfl, rfl⟩; refine TL.ns (T.seq (T.sr ?_)); refine TL.run 1 rfl ?_; refine TL.y (Yv.an rfl rfl hl (List.length_map _)) ?_; have hm8 : l.length ≤ 9223372036854775807 := (List.length_map _) ▸ hl.max; refine TL.run 1 rfl ?_; refine TL.ns ?_; have hq := zag hk; clear hk; obtain ⟨k3, hk3, hk⟩ := hq; (try dsimp only at hk); refine T.af (ι := Vec 8 (BitVec 64) × Vec 8 (BitVec 64)) (fun z => [(2, .pointer (some ⟨g2, 0, none⟩)), (4, .pointer (some ⟨g4, 0, none⟩))]) (fun z => [.row g2 124 (z.1.1.map U), .row g4 124 (z.2.1.map U), .fr F1]) (fun z => k3 (z.1, z.2) = some r) ?_ ?_
  · have hq := zak hk; clear hk; obtain ⟨f6, kk6, hf6, hkk6, hk⟩ := hq; refine T.block ?_; refine T.pick [1, 0, 2] rfl (by decide) ?_; refine T.loop (ι := Nat × Vec 8 (BitVec 64) × Vec 8 (BitVec 64)) (fun z => [(2, .pointer (some ⟨g2, 0, none⟩)), (4, .pointer (some ⟨g4, 0, none⟩)), (7, vl), (8, .int .i64 (l.length : Int)), (9, .int .i64 (z.1 : Int))]) (fun z => [.row g2 124 (z.2.1.1.map U), .row g4 124 (z.2.2.1.map U), .fr F1]) (fun z => zai f6 kk6 (l.length - z.1) z.1 (z.2.1, z.2.2) = some r) (fun z => l.length - z.1) (0, (Vec.fill 8 (0#64)), (Vec.fill 8 (0#64))) ?_ ?_ ?_ ?_
    · exact hk
    · exact (.c (.c (.c (.c (.c .nil)))))
    · exact List.Sublist.refl _
    · rintro ⟨i_7, c_4, c_5⟩ hk; (try dsimp only at *); refine T.sr ?_; refine TL.run 1 rfl ?_; refine TL.ns (T.seq ?_); refine T.cond rfl (fun h8 => ?_) (fun h8 => ?_)
      · have p8 := of_decide_eq_true h8; rw [zat (by omega)] at hk; generalize hn6 : zai f6 kk6 (l.length - (i_7 + 1)) (i_7 + 1) = next6 at hk; rw [← hf6] at hk; (try dsimp only at hk); refine T.skip (K.seq (T.seq (T.block (T.sr ?_)))); refine TL.y (Yv.am (i := i_7) rfl rfl rfl hl (List.length_map _) rfl (by omega)) ?_; refine TL.y (Yv.as 2 (i := i_7) (j := 0) rfl rfl rfl hl (by omega) rfl rfl) ?_; refine TL.run 1 rfl ?_; refine TL.ns (T.seq (T.sr ?_)); refine TL.run 1 rfl ?_; refine TL.e (Ew.ag rfl rfl rfl (fun w hw => zdI _ w (hw.fr (i := 2) rfl) (nth l i_7))) ?_; rintro _ _ ⟨rfl, rfl⟩; refine TL.run 1 rfl ?_; refine TL.ns ?_; refine T.cond rfl (fun h9 => ?_) (fun h9 => ?_)
        · replace hk := zaa hk h9; refine T.sr ?_; refine TL.y ((Yv.build rfl rfl).eq (v := .agg ((Vec.fill 8 (0#64)).1.map U).toArray) (by kernel_rfl)) ?_; refine TL.e0 (Ew.ak 0 rfl rfl rfl rfl Vec.len (Vec.len.trans Vec.len.symm)) ?_; rintro _ _ ⟨rfl, rfl⟩; refine TL.run 1 rfl ?_; refine TL.ns (T.ret (K.ab (K.ah (K.ab (K.ab (K.ah (K.ab ?_))))))); obtain rfl := Option.some.inj hk; exact K.bm 0 rfl rfl rfl rfl Vec.len (fun w' hw => ⟨rfl, hw.isBelow⟩)
        · replace hk := zab hk h9; refine T.skip (K.seq ?_); have hq : (0 ≤ (nth l i_7) ∧ (nth l i_7) ≤ 9223372036854775807 ∧ 1 ≤ (64 : Int)) ∧ _ := zaq hk; clear hk; obtain ⟨g18, hk⟩ := hq; have hq : (0 ≤ ((nth l i_7) / 64) ∧ ((nth l i_7) / 64) < (8 : Int)) ∧ _ := zaq hk; clear hk; obtain ⟨g20, hk⟩ := hq; have hq : (0 ≤ (nth l i_7) ∧ 1 ≤ (64 : Int)) ∧ _ := zaq hk; clear hk; obtain ⟨g23, hk⟩ := hq; have hq : (0 ≤ ((nth l i_7) % 64) ∧ ((nth l i_7) % 64) < (64 : Int)) ∧ _ := zaq hk; clear hk; obtain ⟨g24, hk⟩ := hq; (try dsimp only at hk); refine T.aw (.still 0 (.still 1 (.still 2 (.still 3 (.still 5 (.still 6 (.still 7 (.still 9 (.eff 4 (.still 8 (.still 10 (.eff 11 .done)))))))))))) [.row g2 124 (c_4.1.map U), .fr F1] (by kernel_rfl) Sx ?_; refine TS.run 1 rfl ?_; refine TS.y rfl (Yv.bE rfl rfl rfl g18) ?_; refine TS.y rfl (Yv.fieldAddr rfl rfl) ?_; refine TS.y rfl (Yv.al (i := ((nth l i_7) / 64).toNat) rfl rfl rfl (by omega) (by omega)) ?_; refine TS.run 1 rfl ?_; refine TS.y rfl (Yv.bF rfl rfl rfl g23) ?_; refine TS.y rfl (Yv.bU (a := 1#64) (((nth l i_7) % 64).toNat) rfl rfl rfl (by omega) (by omega)) ?_; refine TS.y rfl (Yv.fieldAddr rfl rfl) ?_; refine TS.eff ?_; refine TSo.aF rfl (Wt.none rfl) rfl rfl (Yv.a 1 rfl rfl rfl (zbs (by omega) (Vec.cell (i := ((nth l i_7) / 64).toNat) (by omega)))) (fun w hw => hw.sub Sx) ?_; refine TS.y rfl (Yv.cf (a := (Vec.get c_5 (((nth l i_7) / 64).toNat))) (b := ((1#64) <<< (((nth l i_7) % 64).toNat))) rfl rfl rfl) ?_; refine TS.y rfl (Yv.al (i := ((nth l i_7) / 64).toNat) rfl rfl rfl (by omega) (by omega)) ?_; refine TS.eff ?_; refine TSo.aB rfl (Wt.none rfl) rfl (Ew.ay 1 ((Vec.put c_5 (((nth l i_7) / 64).toNat) ((Vec.get c_5 (((nth l i_7) / 64).toNat)) ||| ((1#64) <<< (((nth l i_7) % 64).toNat)))).1.map U) rfl rfl rfl rfl (by rw [Vec.len]; first | omega | (simp only [List.length_cons, List.length_nil]; omega)) (zcP (by omega) (Vec.upd (x := c_5) (f := U) (i := ((nth l i_7) / 64).toNat) (v := ((Vec.get c_5 (((nth l i_7) / 64).toNat)) ||| ((1#64) <<< (((nth l i_7) % 64).toNat)))) (by omega)))) ?_; rintro _ _ ⟨rfl, rfl⟩; refine ⟨(fun w hw => hw.sub Sx), ?_⟩; refine TS.done ?_; refine K.ac (K.seq (T.region ?_)); refine TL.y (Yv.ao rfl rfl rfl (by omega)) ?_; refine TL.run 1 rfl ?_; refine TL.nil ?_; rw [← hn6] at hk; exact K.next ((i_7 + 1), c_4, (Vec.put c_5 (((nth l i_7) / 64).toNat) ((Vec.get c_5 (((nth l i_7) / 64).toNat)) ||| ((1#64) <<< (((nth l i_7) % 64).toNat))))) hk (by dsimp only; omega) (.c (.c (.c (.c (.c .nil))))) (List.Sublist.refl _)
      · have p8 := of_decide_eq_false h8; rw [zas (by omega), ← hkk6] at hk; (try dsimp only at hk); refine T.exit (K.aa (K.aa (K.ad ?_))); exact K.ae (c_4, c_5) hk (.c (.c .nil)) (List.Sublist.refl _)
  · rintro ⟨c_1, c_2⟩ hk; (try dsimp only at *); rw [← hk3] at hk; (try dsimp only at hk); refine T.sr ?_; refine TL.y (Yv.aj 1 rfl rfl rfl Vec.len) ?_; refine TL.e0 (Ew.ak 0 rfl rfl rfl rfl Vec.len (Vec.len.trans Vec.len.symm)) ?_; rintro _ _ ⟨rfl, rfl⟩; refine TL.run 1 rfl ?_; refine TL.ns (T.ret ?_); obtain rfl := Option.some.inj hk; exact K.bm 0 rfl rfl rfl rfl Vec.len (fun w' hw => ⟨rfl, hw.isBelow⟩)
def zcj (vals : List Int) : Int :=
  zaI (fun (_ : Unit) =>
    0)
  (fun k1 =>
    zai (fun (i_3 : Nat) (next2 : Unit → Int) (_ : Unit) =>
      (bif decide (¬ (nth vals i_3) = 0) then
        (nth vals i_3)
        else
        next2 ()))
    (fun (_ : Unit) =>
      k1 ()) (vals.length - 0) 0 ())
theorem zdw (F0 : Frz) (w : World) (hF0 : F0.At w) (vals : List Int) (vvals : Value) (hvals : SlC F0 vvals 1 (vals.map eI)) : Calls Tryz.prog 114 #[vvals] w fun e w' => e = .returned (.int .i64 (zcj vals)) ∧ Below w.heap.size w w' := by
  obtain ⟨r, hk⟩ : ∃ r, zcj vals = r := ⟨_, rfl⟩; rw [hk]; unfold zcj at hk; haveI := hvals.oneC; obtain ⟨S0, F1, rfl, hS0, hp0⟩ := zam hF0; refine zap Tryz.func114 rfl rfl rfl hp0 ?_; refine T.sr ?_; refine TL.run 1 rfl ?_; refine TL.nx ?_; refine TL.run 1 rfl ?_; refine TL.ns (T.seq (T.sr ?_)); refine TL.run 1 rfl ?_; refine TL.y (Yv.an rfl rfl hvals (List.length_map _)) ?_; have hm7 : vals.length ≤ 9223372036854775807 := (List.length_map _) ▸ hvals.max; refine TL.run 1 rfl ?_; refine TL.ns ?_; have hq := zag hk; clear hk; obtain ⟨k1, hk1, hk⟩ := hq; (try dsimp only at hk); refine T.af (ι := Unit) (fun z => [(3, .int .i64 0)]) (fun z => [.fr F1]) (fun z => k1 () = r) ?_ ?_
  · have hq := zak hk; clear hk; obtain ⟨f2, kk2, hf2, hkk2, hk⟩ := hq; refine T.block ?_; refine T.loop (ι := Nat) (fun z => [(3, .int .i64 0), (6, vvals), (7, .int .i64 (vals.length : Int)), (8, .int .i64 (z : Int))]) (fun z => [.fr F1]) (fun z => zai f2 kk2 (vals.length - z) z () = r) (fun z => vals.length - z) 0 ?_ ?_ ?_ ?_
    · exact hk
    · exact (.c (.c (.c (.c .nil))))
    · exact List.Sublist.refl _
    · rintro i_3 hk; refine T.sr ?_; refine TL.run 1 rfl ?_; refine TL.ns (T.seq ?_); refine T.cond rfl (fun h4 => ?_) (fun h4 => ?_)
      · have p4 := of_decide_eq_true h4; rw [zat (by omega)] at hk; generalize hn2 : zai f2 kk2 (vals.length - (i_3 + 1)) (i_3 + 1) = next2 at hk; rw [← hf2] at hk; (try dsimp only at hk); refine T.skip (K.seq (T.seq (T.block (T.sr ?_)))); refine TL.y (Yv.am (i := i_3) rfl rfl rfl hvals (List.length_map _) rfl (by omega)) ?_; refine TL.y (Yv.as 0 (i := i_3) (j := 0) rfl rfl rfl hvals (by omega) rfl rfl) ?_; refine TL.run 1 rfl ?_; refine TL.nx ?_; refine TL.run 3 rfl ?_; refine TL.ns ?_; refine T.cond rfl (fun h5 => ?_) (fun h5 => ?_)
        · have p5 := of_decide_eq_true h5; replace hk := zaa hk h5; refine T.sr ?_; refine TL.run 2 rfl ?_; refine TL.ns (T.ret (K.ah (K.ab (K.ab (K.ah (K.ab ?_)))))); subst hk; exact K.ai rfl rfl (fun w' hw => ⟨rfl, hw.isBelow⟩)
        · have p5 := of_decide_eq_false h5; replace hk := zab hk h5; refine T.skip (K.ac (K.seq (T.region ?_))); refine TL.y (Yv.ao rfl rfl rfl (by omega)) ?_; refine TL.run 1 rfl ?_; refine TL.nil ?_; rw [← hn2] at hk; exact K.next (i_3 + 1) hk (by omega) (.c (.c (.c (.c .nil)))) (List.Sublist.refl _)
      · have p4 := of_decide_eq_false h4; rw [zas (by omega), ← hkk2] at hk; (try dsimp only at hk); refine T.exit (K.aa (K.aa (K.ad ?_))); exact K.ae () hk (.c .nil) (List.Sublist.refl _)
  · rintro _ hk; rw [← hk1] at hk; (try dsimp only at hk); refine T.sr ?_; refine TL.run 2 rfl ?_; refine TL.ns (T.ret ?_); subst hk; exact K.ai rfl rfl (fun w' hw => ⟨rfl, hw.isBelow⟩)
def zan (n : Int) (low : Int) (high : Int) : Bool :=
  ((decide (low ≤ n)) && (decide (n ≤ high)))
theorem zbQ (F0 : Frz) (w : World) (hF0 : F0.At w) (n : Int) (low : Int) (high : Int) : Calls Tryz.prog 76 #[.int .i64 n, .int .i64 low, .int .i64 high] w fun e w' => e = .returned (.bool (zan n low high)) ∧ Below w.heap.size w w' := by
  obtain ⟨r, hk⟩ : ∃ r, zan n low high = r := ⟨_, rfl⟩; rw [hk]; unfold zan at hk; obtain ⟨S0, F1, rfl, hS0, hp0⟩ := zam hF0; refine zap Tryz.func76 rfl rfl rfl hp0 ?_; refine T.sr ?_; refine TL.run 1 rfl ?_; refine TL.ns (T.seq ?_); refine T.af (ι := Unit) (fun z => [(6, .bool ((decide (low ≤ n)) && (decide (n ≤ high))))]) (fun z => [.fr F1]) (fun z => True) ?_ ?_
  · refine T.region ?_; refine TL.run 4 rfl ?_; refine TL.gs rfl rfl rfl (fun h1 => ?_) (fun h1 => ?_)
    · have p1 := of_decide_eq_true h1; refine TL.run 5 rfl ?_; refine TL.nil ?_; exact K.ae () trivial (.b (zcQ h1) .nil) (List.Sublist.refl _)
    · have p1 := of_decide_eq_false h1; refine TL.run 5 rfl ?_; refine TL.nil ?_; exact K.ae () trivial (.b (zaA h1).symm .nil) (List.Sublist.refl _)
  · rintro _ _; refine T.ret ?_; subst hk; exact K.ai rfl rfl (fun w' hw => ⟨rfl, hw.isBelow⟩)
def zah (n : Int) : Bool :=
  (zan n 0 511)
theorem zbo (F0 : Frz) (w : World) (hF0 : F0.At w) (n : Int) : Calls Tryz.prog 75 #[.int .i64 n] w fun e w' => e = .returned (.bool (zah n)) ∧ Below w.heap.size w w' := by
  obtain ⟨r, hk⟩ : ∃ r, zah n = r := ⟨_, rfl⟩; rw [hk]; unfold zah at hk; obtain ⟨S0, F1, rfl, hS0, hp0⟩ := zam hF0; refine zap Tryz.func75 rfl rfl rfl hp0 ?_; refine T.sr ?_; refine TL.run 1 rfl ?_; refine TL.nx ?_; refine TL.run 1 rfl ?_; refine TL.e (Ew.ag rfl rfl rfl (fun w hw => zbQ _ w (hw.fr (i := 0) rfl) n 0 511)) ?_; rintro _ _ ⟨rfl, rfl⟩; refine TL.run 1 rfl ?_; refine TL.ns (T.ret ?_); subst hk; exact K.ai rfl rfl (fun w' hw => ⟨rfl, hw.isBelow⟩)
def zav (l : List GChoice) : Bool :=
  zaI (fun (_ : Unit) =>
    true)
  (fun k1 =>
    zai (fun (i_3 : Nat) (next2 : Unit → Bool) (_ : Unit) =>
      (bif ((!(zah ((nth l i_3).Station))) || (!(zan ((nth l i_3).Channel) 2 51))) then
        false
        else
        (bif ((decide (0 < (i_3 : Int))) && (decide ((nth l i_3).Station ≤ (nth l (((i_3 : Int) - 1).toNat)).Station))) then
          false
          else
          next2 ())))
    (fun (_ : Unit) =>
      k1 ()) (l.length - 0) 0 ())
theorem zdc (F0 : Frz) (w : World) (hF0 : F0.At w) (l : List GChoice) (vl : Value) (hl : SlC F0 vl 2 (l.map GChoice.enc)) : Calls Tryz.prog 38 #[vl] w fun e w' => e = .returned (.bool (zav l)) ∧ Below w.heap.size w w' := by
  obtain ⟨r, hk⟩ : ∃ r, zav l = r := ⟨_, rfl⟩; rw [hk]; unfold zav at hk; haveI := hl.oneC; obtain ⟨S0, F1, rfl, hS0, hp0⟩ := zam hF0; refine zap Tryz.func38 rfl rfl rfl hp0 ?_; refine T.sr ?_; refine TL.run 1 rfl ?_; refine TL.ns (T.seq (T.sr ?_)); refine TL.run 1 rfl ?_; refine TL.y (Yv.an rfl rfl hl (List.length_map _)) ?_; have hm6 : l.length ≤ 9223372036854775807 := (List.length_map _) ▸ hl.max; refine TL.run 1 rfl ?_; refine TL.ns ?_; have hq := zag hk; clear hk; obtain ⟨k1, hk1, hk⟩ := hq; (try dsimp only at hk); refine T.af (ι := Unit) (fun z => []) (fun z => [.fr F1]) (fun z => k1 () = r) ?_ ?_
  · have hq := zak hk; clear hk; obtain ⟨f2, kk2, hf2, hkk2, hk⟩ := hq; refine T.block ?_; refine T.loop (ι := Nat) (fun z => [(0, vl), (5, vl), (6, .int .i64 (l.length : Int)), (7, .int .i64 (z : Int))]) (fun z => [.fr F1]) (fun z => zai f2 kk2 (l.length - z) z () = r) (fun z => l.length - z) 0 ?_ ?_ ?_ ?_
    · exact hk
    · exact (.c (.c (.c (.c .nil))))
    · exact List.Sublist.refl _
    · rintro i_3 hk; refine T.sr ?_; refine TL.run 1 rfl ?_; refine TL.ns (T.seq ?_); refine T.cond rfl (fun h4 => ?_) (fun h4 => ?_)
      · have p4 := of_decide_eq_true h4; rw [zat (by omega)] at hk; generalize hn2 : zai f2 kk2 (l.length - (i_3 + 1)) (i_3 + 1) = next2 at hk; rw [← hf2] at hk; (try dsimp only at hk); refine T.skip (K.seq (T.seq (T.block (T.sr ?_)))); refine TL.run 1 rfl ?_; refine TL.y (Yv.am (i := i_3) rfl rfl rfl hl (List.length_map _) rfl (by omega)) ?_; refine TL.y (Yv.aq 0 (i := i_3) rfl rfl rfl hl (by omega) rfl rfl rfl) ?_; refine TL.e (Ew.alloc rfl) ?_; rintro _ _ ⟨g4, rfl, rfl⟩; refine TL.run 1 rfl ?_; refine TL.e0 (Ew.ak 0 rfl rfl rfl rfl rfl rfl) ?_; rintro _ _ ⟨rfl, rfl⟩; refine TL.ns (T.seq (T.seq ?_)); refine T.af (ι := Unit) (fun z => [(0, vl), (3, .int .i64 (i_3 : Int)), (4, .pointer (some ⟨g4, 0, none⟩)), (5, vl), (6, .int .i64 (l.length : Int)), (7, .int .i64 (i_3 : Int)), (21, .bool ((!(zah ((nth l i_3).Station))) || (!(zan ((nth l i_3).Channel) 2 51))))]) (fun z => [.row g4 60 [.int .i64 ((nth l i_3).Station), .int .i64 ((nth l i_3).Channel)], .fr F1]) (fun z => True) ?_ ?_
        · refine T.region ?_; refine TL.y (Yv.fieldAddr rfl rfl) ?_; refine TL.y (Yv.a 0 rfl rfl rfl rfl) ?_; refine TL.e (Ew.ag rfl rfl rfl (fun w hw => zbo _ w (hw.fr (i := 1) rfl) ((nth l i_3).Station))) ?_; rintro _ _ ⟨rfl, rfl⟩; refine TL.run 2 rfl ?_; refine TL.gs rfl rfl rfl (fun h5 => ?_) (fun h5 => ?_)
          · refine TL.run 5 rfl ?_; refine TL.nil ?_; exact K.ae () trivial (.c (.c (.c (.c (.c (.c (.b (zb2 h5).symm .nil))))))) (List.Sublist.refl _)
          · refine TL.y (Yv.fieldAddr rfl rfl) ?_; refine TL.y (Yv.a 0 rfl rfl rfl rfl) ?_; refine TL.e (Ew.ag rfl rfl rfl (fun w hw => zbQ _ w (hw.fr (i := 1) rfl) ((nth l i_3).Channel) 2 51)) ?_; rintro _ _ ⟨rfl, rfl⟩; refine TL.run 2 rfl ?_; refine TL.nil ?_; exact K.ae () trivial (.c (.c (.c (.c (.c (.c (.b (or_f h5) .nil))))))) (List.Sublist.refl _)
        · rintro _ _; refine T.cond rfl (fun h6 => ?_) (fun h6 => ?_)
          · replace hk := zaa hk h6; refine T.sr ?_; refine TL.run 1 rfl ?_; refine TL.ns (T.ret (K.ab (K.ah (K.ab (K.ab (K.ah (K.ab ?_))))))); subst hk; exact K.ai rfl rfl (fun w' hw => ⟨rfl, hw.isBelow⟩)
          · replace hk := zab hk h6; refine T.skip (K.seq (T.seq ?_)); refine T.af (ι := Unit) (fun z => [(0, vl), (5, vl), (6, .int .i64 (l.length : Int)), (7, .int .i64 (i_3 : Int)), (34, .bool ((decide (0 < (i_3 : Int))) && (decide ((nth l i_3).Station ≤ (nth l (((i_3 : Int) - 1).toNat)).Station))))]) (fun z => [.row g4 60 [.int .i64 ((nth l i_3).Station), .int .i64 ((nth l i_3).Channel)], .fr F1]) (fun z => True) ?_ ?_
            · refine T.aw (.still 0 (.still 1 (.still 2 (.still 3 (.still 4 (.still 5 (.still 6 (.still 7 (.still 8 (.still 9 (.still 10 (.still 11 (.still 12 .done))))))))))))) _ (by kernel_rfl) (List.Sublist.refl _) ?_; refine TS.run 3 rfl ?_; refine TS.gs rfl rfl rfl rfl (fun h7 => ?_) (fun h7 => ?_)
              · have p7 := of_decide_eq_true h7; refine TS.run 2 rfl ?_; refine TS.y rfl (Yv.aL rfl rfl rfl (by omega)) ?_; refine TS.y rfl (Yv.am (i := ((i_3 : Int) - 1).toNat) rfl rfl rfl hl (List.length_map _) (by omega) (by omega)) ?_; refine TS.y rfl (Yv.aE rfl rfl hl (List.length_map _) (by omega)) ?_; refine TS.y rfl (Yv.as 1 (i := ((i_3 : Int) - 1).toNat) (j := 0) rfl rfl rfl hl (by omega) rfl rfl) ?_; refine TS.y rfl (Yv.fieldAddr rfl rfl) ?_; refine TS.y rfl (Yv.a 0 rfl rfl rfl rfl) ?_; refine TS.run 2 rfl ?_; refine TS.done ?_; exact K.ae () trivial (.c (.c (.c (.c (.b (zcQ h7) .nil))))) (List.Sublist.refl _)
              · have p7 := of_decide_eq_false h7; refine TS.run 10 rfl ?_; refine TS.done ?_; exact K.ae () trivial (.c (.c (.c (.c (.b (zaA h7).symm .nil))))) (List.Sublist.refl _)
            · rintro _ _; refine T.cond rfl (fun h8 => ?_) (fun h8 => ?_)
              · have p8 := h8; (try simp only [nfB] at p8); replace hk := zaa hk h8; refine T.sr ?_; refine TL.run 1 rfl ?_; refine TL.ns (T.ret (K.ah (K.ab (K.ab (K.ah (K.ab ?_)))))); subst hk; exact K.ai rfl rfl (fun w' hw => ⟨rfl, hw.isBelow⟩)
              · replace hk := zab hk h8; refine T.skip (K.ac (K.seq (T.region ?_))); refine TL.y (Yv.ao rfl rfl rfl (by omega)) ?_; refine TL.run 1 rfl ?_; refine TL.nil ?_; rw [← hn2] at hk; refine K.pick [1] rfl (by decide) ?_; exact K.next (i_3 + 1) hk (by omega) (.c (.c (.c (.c .nil)))) (List.Sublist.refl _)
      · have p4 := of_decide_eq_false h4; rw [zas (by omega), ← hkk2] at hk; (try dsimp only at hk); refine T.exit (K.aa (K.aa (K.ad ?_))); exact K.ae () hk .nil (List.Sublist.refl _)
  · rintro _ hk; rw [← hk1] at hk; (try dsimp only at hk); refine T.sr ?_; refine TL.run 1 rfl ?_; refine TL.ns (T.ret ?_); subst hk; exact K.ai rfl rfl (fun w' hw => ⟨rfl, hw.isBelow⟩)
def zbf (low : Int) (high : Int) : Bool :=
  (((decide (2 ≤ low)) && (decide (low ≤ high))) && (decide (high ≤ 51)))
theorem zcW (F0 : Frz) (w : World) (hF0 : F0.At w) (low : Int) (high : Int) : Calls Tryz.prog 113 #[.int .i64 low, .int .i64 high] w fun e w' => e = .returned (.bool (zbf low high)) ∧ Below w.heap.size w w' := by
  obtain ⟨r, hk⟩ : ∃ r, zbf low high = r := ⟨_, rfl⟩; rw [hk]; unfold zbf at hk; obtain ⟨S0, F1, rfl, hS0, hp0⟩ := zam hF0; refine zap Tryz.func113 rfl rfl rfl hp0 ?_; refine T.sr ?_; refine TL.run 1 rfl ?_; refine TL.ns (T.seq ?_); refine T.af (ι := Unit) (fun z => [(4, .bool (((decide (2 ≤ low)) && (decide (low ≤ high))) && (decide (high ≤ 51))))]) (fun z => [.fr F1]) (fun z => True) ?_ ?_
  · refine T.region ?_; refine TL.run 3 rfl ?_; refine TL.gs rfl rfl rfl (fun h1 => ?_) (fun h1 => ?_)
    · have p1 := of_decide_eq_true h1; refine TL.run 5 rfl ?_; refine TL.gs rfl rfl rfl (fun h2 => ?_) (fun h2 => ?_)
      · have p2 := of_decide_eq_true h2; refine TL.run 4 rfl ?_; refine TL.nil ?_; exact K.ae () trivial (.b (zcQ (zaW h1 h2)) .nil) (List.Sublist.refl _)
      · have p2 := of_decide_eq_false h2; refine TL.run 4 rfl ?_; refine TL.nil ?_; exact K.ae () trivial (.b (zaA (zaW h1 h2)).symm .nil) (List.Sublist.refl _)
    · have p1 := of_decide_eq_false h1; refine TL.run 9 rfl ?_; refine TL.nil ?_; exact K.ae () trivial (.b (zaA (zaA h1)).symm .nil) (List.Sublist.refl _)
  · rintro _ _; refine T.ret ?_; subst hk; exact K.ai rfl rfl (fun w' hw => ⟨rfl, hw.isBelow⟩)
def za3 (c : GPair) : Bool :=
  (((((zah c.A) && (zah c.B)) && (decide (c.A < c.B))) && (zan c.Offset (-1) 1)) && (zbf c.Low c.High))
theorem zeu (F0 : Frz) (w : World) (hF0 : F0.At w) (c : GPair) : Calls Tryz.prog 87 #[.agg [.int .i64 c.A, .int .i64 c.B, .int .i64 c.Offset, .int .i64 c.Low, .int .i64 c.High].toArray] w fun e w' => e = .returned (.bool (za3 c)) ∧ Below w.heap.size w w' := by
  obtain ⟨r, hk⟩ : ∃ r, za3 c = r := ⟨_, rfl⟩; rw [hk]; unfold za3 at hk; obtain ⟨S0, F1, rfl, hS0, hp0⟩ := zam hF0; refine zap Tryz.func87 rfl rfl rfl hp0 ?_; refine T.sr ?_; refine TL.e (Ew.az rfl rfl) ?_; rintro _ _ ⟨g1, rfl, rfl⟩; refine TL.run 1 rfl ?_; refine TL.ns (T.seq ?_); refine T.af (ι := Unit) (fun z => [(2, .bool (((((zah c.A) && (zah c.B)) && (decide (c.A < c.B))) && (zan c.Offset (-1) 1)) && (zbf c.Low c.High)))]) (fun z => [.row g1 72 [.int .i64 c.A, .int .i64 c.B, .int .i64 c.Offset, .int .i64 c.Low, .int .i64 c.High], .fr F1]) (fun z => True) ?_ ?_
  · refine T.region ?_; refine TL.y (Yv.fieldAddr rfl rfl) ?_; refine TL.y (Yv.a 0 rfl rfl rfl rfl) ?_; refine TL.e (Ew.ag rfl rfl rfl (fun w hw => zbo _ w (hw.fr (i := 1) rfl) c.A)) ?_; rintro _ _ ⟨rfl, rfl⟩; refine TL.run 1 rfl ?_; refine TL.gs rfl rfl rfl (fun h1 => ?_) (fun h1 => ?_)
    · refine TL.y (Yv.fieldAddr rfl rfl) ?_; refine TL.y (Yv.a 0 rfl rfl rfl rfl) ?_; refine TL.e (Ew.ag rfl rfl rfl (fun w hw => zbo _ w (hw.fr (i := 1) rfl) c.B)) ?_; rintro _ _ ⟨rfl, rfl⟩; refine TL.run 2 rfl ?_; refine TL.gs rfl rfl rfl (fun h2 => ?_) (fun h2 => ?_)
      · refine TL.y (Yv.fieldAddr rfl rfl) ?_; refine TL.y (Yv.a 0 rfl rfl rfl rfl) ?_; refine TL.y (Yv.fieldAddr rfl rfl) ?_; refine TL.y (Yv.a 0 rfl rfl rfl rfl) ?_; refine TL.run 3 rfl ?_; refine TL.gs rfl rfl rfl (fun h3 => ?_) (fun h3 => ?_)
        · have p3 := of_decide_eq_true h3; refine TL.y (Yv.fieldAddr rfl rfl) ?_; refine TL.y (Yv.a 0 rfl rfl rfl rfl) ?_; refine TL.e (Ew.ag rfl rfl rfl (fun w hw => zbQ _ w (hw.fr (i := 1) rfl) c.Offset (-1) 1)) ?_; rintro _ _ ⟨rfl, rfl⟩; refine TL.run 2 rfl ?_; refine TL.gs rfl rfl rfl (fun h4 => ?_) (fun h4 => ?_)
          · refine TL.y (Yv.fieldAddr rfl rfl) ?_; refine TL.y (Yv.a 0 rfl rfl rfl rfl) ?_; refine TL.y (Yv.fieldAddr rfl rfl) ?_; refine TL.y (Yv.a 0 rfl rfl rfl rfl) ?_; refine TL.e (Ew.ag rfl rfl rfl (fun w hw => zcW _ w (hw.fr (i := 1) rfl) c.Low c.High)) ?_; rintro _ _ ⟨rfl, rfl⟩; refine TL.run 2 rfl ?_; refine TL.nil ?_; exact K.ae () trivial (.b (zcQ (zaW (zaW (zaW h1 h2) h3) h4)) .nil) (List.Sublist.refl _)
          · refine TL.run 7 rfl ?_; refine TL.nil ?_; exact K.ae () trivial (.b (zaA (zaW (zaW (zaW h1 h2) h3) h4)).symm .nil) (List.Sublist.refl _)
        · have p3 := of_decide_eq_false h3; refine TL.run 12 rfl ?_; refine TL.nil ?_; exact K.ae () trivial (.b (zaA (zaA (zaW (zaW h1 h2) h3))).symm .nil) (List.Sublist.refl _)
      · refine TL.run 19 rfl ?_; refine TL.nil ?_; exact K.ae () trivial (.b (zaA (zaA (zaA (zaW h1 h2)))).symm .nil) (List.Sublist.refl _)
    · refine TL.run 24 rfl ?_; refine TL.nil ?_; exact K.ae () trivial (.b (zaA (zaA (zaA (zaA h1)))).symm .nil) (List.Sublist.refl _)
  · rintro _ _; refine T.ret ?_; subst hk; exact K.ai rfl rfl (fun w' hw => ⟨rfl, hw.isBelow⟩)
def zbj (a : GPair) (b : GPair) : Int :=
  (zcj [(zac a.A b.A), (zac a.B b.B), (zac a.Offset b.Offset), (zac a.Low b.Low), (zac a.High b.High)])
theorem zdL (F0 : Frz) (w : World) (hF0 : F0.At w) (a : GPair) (b : GPair) : Calls Tryz.prog 89 #[.agg [.int .i64 a.A, .int .i64 a.B, .int .i64 a.Offset, .int .i64 a.Low, .int .i64 a.High].toArray, .agg [.int .i64 b.A, .int .i64 b.B, .int .i64 b.Offset, .int .i64 b.Low, .int .i64 b.High].toArray] w fun e w' => e = .returned (.int .i64 (zbj a b)) ∧ Below w.heap.size w w' := by
  obtain ⟨r, hk⟩ : ∃ r, zbj a b = r := ⟨_, rfl⟩; rw [hk]; unfold zbj at hk; obtain ⟨S0, F1, rfl, hS0, hp0⟩ := zam hF0; refine zap Tryz.func89 rfl rfl rfl hp0 ?_; refine T.sr ?_; refine TL.e (Ew.az rfl rfl) ?_; rintro _ _ ⟨g2, rfl, rfl⟩; refine TL.e (Ew.az rfl rfl) ?_; rintro _ _ ⟨g3, rfl, rfl⟩; refine TL.run 1 rfl ?_; refine TL.ns (T.seq ?_); refine T.aw (.still 0 (.still 1 (.still 2 (.still 3 (.still 5 (.still 6 (.still 7 (.still 8 (.still 10 (.still 11 (.still 12 (.still 13 (.still 15 (.still 16 (.still 17 (.still 18 (.still 20 (.still 21 (.still 22 (.still 23 (.eff 4 (.eff 9 (.eff 14 (.eff 19 (.eff 24 (.eff 25 (.eff 26 (.still 27 .done)))))))))))))))))))))))))))) _ (by kernel_rfl) (List.Sublist.refl _) ?_; refine TS.y rfl (Yv.fieldAddr rfl rfl) ?_; refine TS.y rfl (Yv.a 1 rfl rfl rfl rfl) ?_; refine TS.y rfl (Yv.fieldAddr rfl rfl) ?_; refine TS.y rfl (Yv.a 0 rfl rfl rfl rfl) ?_; refine TS.y rfl (Yv.fieldAddr rfl rfl) ?_; refine TS.y rfl (Yv.a 1 rfl rfl rfl rfl) ?_; refine TS.y rfl (Yv.fieldAddr rfl rfl) ?_; refine TS.y rfl (Yv.a 0 rfl rfl rfl rfl) ?_; refine TS.y rfl (Yv.fieldAddr rfl rfl) ?_; refine TS.y rfl (Yv.a 1 rfl rfl rfl rfl) ?_; refine TS.y rfl (Yv.fieldAddr rfl rfl) ?_; refine TS.y rfl (Yv.a 0 rfl rfl rfl rfl) ?_; refine TS.y rfl (Yv.fieldAddr rfl rfl) ?_; refine TS.y rfl (Yv.a 1 rfl rfl rfl rfl) ?_; refine TS.y rfl (Yv.fieldAddr rfl rfl) ?_; refine TS.y rfl (Yv.a 0 rfl rfl rfl rfl) ?_; refine TS.y rfl (Yv.fieldAddr rfl rfl) ?_; refine TS.y rfl (Yv.a 1 rfl rfl rfl rfl) ?_; refine TS.y rfl (Yv.fieldAddr rfl rfl) ?_; refine TS.y rfl (Yv.a 0 rfl rfl rfl rfl) ?_; refine TS.eff ?_; refine TSo.ar rfl (Wt.none rfl) rfl rfl (Ew.ag rfl rfl rfl (fun w hw => zaB _ w (hw.fr (i := 2) rfl) a.A b.A)) ?_; rintro _ _ ⟨rfl, rfl⟩; refine ⟨(fun w hw => hw.sub Sx), ?_⟩; refine TS.eff ?_; refine TSo.ar rfl (Wt.none rfl) rfl rfl (Ew.ag rfl rfl rfl (fun w hw => zaB _ w (hw.fr (i := 2) rfl) a.B b.B)) ?_; rintro _ _ ⟨rfl, rfl⟩; refine ⟨(fun w hw => hw.sub Sx), ?_⟩; refine TS.eff ?_; refine TSo.ar rfl (Wt.none rfl) rfl rfl (Ew.ag rfl rfl rfl (fun w hw => zaB _ w (hw.fr (i := 2) rfl) a.Offset b.Offset)) ?_; rintro _ _ ⟨rfl, rfl⟩; refine ⟨(fun w hw => hw.sub Sx), ?_⟩; refine TS.eff ?_; refine TSo.ar rfl (Wt.none rfl) rfl rfl (Ew.ag rfl rfl rfl (fun w hw => zaB _ w (hw.fr (i := 2) rfl) a.Low b.Low)) ?_; rintro _ _ ⟨rfl, rfl⟩; refine ⟨(fun w hw => hw.sub Sx), ?_⟩; refine TS.eff ?_; refine TSo.ar rfl (Wt.none rfl) rfl rfl (Ew.ag rfl rfl rfl (fun w hw => zaB _ w (hw.fr (i := 2) rfl) a.High b.High)) ?_; rintro _ _ ⟨rfl, rfl⟩; refine ⟨(fun w hw => hw.sub Sx), ?_⟩; refine TS.eff ?_; refine TSo.ar rfl (Wt.none rfl) rfl rfl (Ew.buildSlice rfl rfl rfl (by decide)) ?_; rintro _ _ ⟨g30, rfl, rfl⟩; refine ⟨(fun w hw => hw.sub Sx), ?_⟩; refine TS.av (fun w hw => hw.freezeR (i := 3) (j := 0) (by decide) rfl rfl) ?_; rintro F2 ⟨le1_2, hz2⟩; dsimp only [List.set, List.eraseIdx]; have hf2 : SlC F2.toFrz (.slice (some ⟨g30, 0, none⟩) 5 5) 1 ([(zac a.A b.A), (zac a.B b.B), (zac a.Offset b.Offset), (zac a.Low b.Low), (zac a.High b.High)].map eI) := (SlK.lit hz2 rfl (Nat.le_refl _) (by decide)).toF (xs := [(zac a.A b.A), (zac a.B b.B), (zac a.Offset b.Offset), (zac a.Low b.Low), (zac a.High b.High)]) rfl (fun _ => rfl); refine TS.eff ?_; refine TSo.ar rfl (Wt.none rfl) rfl rfl (Ew.ag rfl rfl rfl (fun w hw => zdw _ w (hw.fr (i := 2) rfl) [(zac a.A b.A), (zac a.B b.B), (zac a.Offset b.Offset), (zac a.Low b.Low), (zac a.High b.High)] (.slice (some ⟨g30, 0, none⟩) 5 5) hf2)) ?_; rintro _ _ ⟨rfl, rfl⟩; refine ⟨(fun w hw => (hw.frLe (i := 2) rfl le1_2).sub Sx), ?_⟩; refine TS.run 1 rfl ?_; refine TS.done ?_; refine K.seq (T.ret ?_); subst hk; exact K.ai rfl rfl (fun w' hw => ⟨rfl, hw.isBelow⟩)
def za4 (c : GLoad) : Bool :=
  (((((zah c.To) && (zah c.From)) && (decide (¬ c.To = c.From))) && (zan c.Weight 1 1073741824)) && (zbf c.Low c.High))
theorem zez (F0 : Frz) (w : World) (hF0 : F0.At w) (c : GLoad) : Calls Tryz.prog 90 #[.agg [.int .i64 c.To, .int .i64 c.From, .int .i64 c.Weight, .int .i64 c.Low, .int .i64 c.High].toArray] w fun e w' => e = .returned (.bool (za4 c)) ∧ Below w.heap.size w w' := by
  obtain ⟨r, hk⟩ : ∃ r, za4 c = r := ⟨_, rfl⟩; rw [hk]; unfold za4 at hk; obtain ⟨S0, F1, rfl, hS0, hp0⟩ := zam hF0; refine zap Tryz.func90 rfl rfl rfl hp0 ?_; refine T.sr ?_; refine TL.e (Ew.az rfl rfl) ?_; rintro _ _ ⟨g1, rfl, rfl⟩; refine TL.run 1 rfl ?_; refine TL.ns (T.seq ?_); refine T.af (ι := Unit) (fun z => [(2, .bool (((((zah c.To) && (zah c.From)) && (decide (¬ c.To = c.From))) && (zan c.Weight 1 1073741824)) && (zbf c.Low c.High)))]) (fun z => [.row g1 74 [.int .i64 c.To, .int .i64 c.From, .int .i64 c.Weight, .int .i64 c.Low, .int .i64 c.High], .fr F1]) (fun z => True) ?_ ?_
  · refine T.region ?_; refine TL.y (Yv.fieldAddr rfl rfl) ?_; refine TL.y (Yv.a 0 rfl rfl rfl rfl) ?_; refine TL.e (Ew.ag rfl rfl rfl (fun w hw => zbo _ w (hw.fr (i := 1) rfl) c.To)) ?_; rintro _ _ ⟨rfl, rfl⟩; refine TL.run 1 rfl ?_; refine TL.gs rfl rfl rfl (fun h1 => ?_) (fun h1 => ?_)
    · refine TL.y (Yv.fieldAddr rfl rfl) ?_; refine TL.y (Yv.a 0 rfl rfl rfl rfl) ?_; refine TL.e (Ew.ag rfl rfl rfl (fun w hw => zbo _ w (hw.fr (i := 1) rfl) c.From)) ?_; rintro _ _ ⟨rfl, rfl⟩; refine TL.run 2 rfl ?_; refine TL.gs rfl rfl rfl (fun h2 => ?_) (fun h2 => ?_)
      · refine TL.y (Yv.fieldAddr rfl rfl) ?_; refine TL.y (Yv.a 0 rfl rfl rfl rfl) ?_; refine TL.y (Yv.fieldAddr rfl rfl) ?_; refine TL.y (Yv.a 0 rfl rfl rfl rfl) ?_; refine TL.run 3 rfl ?_; refine TL.gs rfl rfl rfl (fun h3 => ?_) (fun h3 => ?_)
        · have p3 := of_decide_eq_true h3; refine TL.y (Yv.fieldAddr rfl rfl) ?_; refine TL.y (Yv.a 0 rfl rfl rfl rfl) ?_; refine TL.e (Ew.ag rfl rfl rfl (fun w hw => zbQ _ w (hw.fr (i := 1) rfl) c.Weight 1 1073741824)) ?_; rintro _ _ ⟨rfl, rfl⟩; refine TL.run 2 rfl ?_; refine TL.gs rfl rfl rfl (fun h4 => ?_) (fun h4 => ?_)
          · refine TL.y (Yv.fieldAddr rfl rfl) ?_; refine TL.y (Yv.a 0 rfl rfl rfl rfl) ?_; refine TL.y (Yv.fieldAddr rfl rfl) ?_; refine TL.y (Yv.a 0 rfl rfl rfl rfl) ?_; refine TL.e (Ew.ag rfl rfl rfl (fun w hw => zcW _ w (hw.fr (i := 1) rfl) c.Low c.High)) ?_; rintro _ _ ⟨rfl, rfl⟩; refine TL.run 2 rfl ?_; refine TL.nil ?_; exact K.ae () trivial (.b (zcQ (zaW (zaW (zaW h1 h2) h3) h4)) .nil) (List.Sublist.refl _)
          · refine TL.run 7 rfl ?_; refine TL.nil ?_; exact K.ae () trivial (.b (zaA (zaW (zaW (zaW h1 h2) h3) h4)).symm .nil) (List.Sublist.refl _)
        · have p3 := of_decide_eq_false h3; refine TL.run 12 rfl ?_; refine TL.nil ?_; exact K.ae () trivial (.b (zaA (zaA (zaW (zaW h1 h2) h3))).symm .nil) (List.Sublist.refl _)
      · refine TL.run 19 rfl ?_; refine TL.nil ?_; exact K.ae () trivial (.b (zaA (zaA (zaA (zaW h1 h2)))).symm .nil) (List.Sublist.refl _)
    · refine TL.run 24 rfl ?_; refine TL.nil ?_; exact K.ae () trivial (.b (zaA (zaA (zaA (zaA h1)))).symm .nil) (List.Sublist.refl _)
  · rintro _ _; refine T.ret ?_; subst hk; exact K.ai rfl rfl (fun w' hw => ⟨rfl, hw.isBelow⟩)
def zbk (a : GLoad) (b : GLoad) : Int :=
  (zcj [(zac a.To b.To), (zac a.From b.From), (zac a.Weight b.Weight), (zac a.Low b.Low), (zac a.High b.High)])
theorem zdJ (F0 : Frz) (w : World) (hF0 : F0.At w) (a : GLoad) (b : GLoad) : Calls Tryz.prog 92 #[.agg [.int .i64 a.To, .int .i64 a.From, .int .i64 a.Weight, .int .i64 a.Low, .int .i64 a.High].toArray, .agg [.int .i64 b.To, .int .i64 b.From, .int .i64 b.Weight, .int .i64 b.Low, .int .i64 b.High].toArray] w fun e w' => e = .returned (.int .i64 (zbk a b)) ∧ Below w.heap.size w w' := by
  obtain ⟨r, hk⟩ : ∃ r, zbk a b = r := ⟨_, rfl⟩; rw [hk]; unfold zbk at hk; obtain ⟨S0, F1, rfl, hS0, hp0⟩ := zam hF0; refine zap Tryz.func92 rfl rfl rfl hp0 ?_; refine T.sr ?_; refine TL.e (Ew.az rfl rfl) ?_; rintro _ _ ⟨g2, rfl, rfl⟩; refine TL.e (Ew.az rfl rfl) ?_; rintro _ _ ⟨g3, rfl, rfl⟩; refine TL.run 1 rfl ?_; refine TL.ns (T.seq ?_); refine T.aw (.still 0 (.still 1 (.still 2 (.still 3 (.still 5 (.still 6 (.still 7 (.still 8 (.still 10 (.still 11 (.still 12 (.still 13 (.still 15 (.still 16 (.still 17 (.still 18 (.still 20 (.still 21 (.still 22 (.still 23 (.eff 4 (.eff 9 (.eff 14 (.eff 19 (.eff 24 (.eff 25 (.eff 26 (.still 27 .done)))))))))))))))))))))))))))) _ (by kernel_rfl) (List.Sublist.refl _) ?_; refine TS.y rfl (Yv.fieldAddr rfl rfl) ?_; refine TS.y rfl (Yv.a 1 rfl rfl rfl rfl) ?_; refine TS.y rfl (Yv.fieldAddr rfl rfl) ?_; refine TS.y rfl (Yv.a 0 rfl rfl rfl rfl) ?_; refine TS.y rfl (Yv.fieldAddr rfl rfl) ?_; refine TS.y rfl (Yv.a 1 rfl rfl rfl rfl) ?_; refine TS.y rfl (Yv.fieldAddr rfl rfl) ?_; refine TS.y rfl (Yv.a 0 rfl rfl rfl rfl) ?_; refine TS.y rfl (Yv.fieldAddr rfl rfl) ?_; refine TS.y rfl (Yv.a 1 rfl rfl rfl rfl) ?_; refine TS.y rfl (Yv.fieldAddr rfl rfl) ?_; refine TS.y rfl (Yv.a 0 rfl rfl rfl rfl) ?_; refine TS.y rfl (Yv.fieldAddr rfl rfl) ?_; refine TS.y rfl (Yv.a 1 rfl rfl rfl rfl) ?_; refine TS.y rfl (Yv.fieldAddr rfl rfl) ?_; refine TS.y rfl (Yv.a 0 rfl rfl rfl rfl) ?_; refine TS.y rfl (Yv.fieldAddr rfl rfl) ?_; refine TS.y rfl (Yv.a 1 rfl rfl rfl rfl) ?_; refine TS.y rfl (Yv.fieldAddr rfl rfl) ?_; refine TS.y rfl (Yv.a 0 rfl rfl rfl rfl) ?_; refine TS.eff ?_; refine TSo.ar rfl (Wt.none rfl) rfl rfl (Ew.ag rfl rfl rfl (fun w hw => zaB _ w (hw.fr (i := 2) rfl) a.To b.To)) ?_; rintro _ _ ⟨rfl, rfl⟩; refine ⟨(fun w hw => hw.sub Sx), ?_⟩; refine TS.eff ?_; refine TSo.ar rfl (Wt.none rfl) rfl rfl (Ew.ag rfl rfl rfl (fun w hw => zaB _ w (hw.fr (i := 2) rfl) a.From b.From)) ?_; rintro _ _ ⟨rfl, rfl⟩; refine ⟨(fun w hw => hw.sub Sx), ?_⟩; refine TS.eff ?_; refine TSo.ar rfl (Wt.none rfl) rfl rfl (Ew.ag rfl rfl rfl (fun w hw => zaB _ w (hw.fr (i := 2) rfl) a.Weight b.Weight)) ?_; rintro _ _ ⟨rfl, rfl⟩; refine ⟨(fun w hw => hw.sub Sx), ?_⟩; refine TS.eff ?_; refine TSo.ar rfl (Wt.none rfl) rfl rfl (Ew.ag rfl rfl rfl (fun w hw => zaB _ w (hw.fr (i := 2) rfl) a.Low b.Low)) ?_; rintro _ _ ⟨rfl, rfl⟩; refine ⟨(fun w hw => hw.sub Sx), ?_⟩; refine TS.eff ?_; refine TSo.ar rfl (Wt.none rfl) rfl rfl (Ew.ag rfl rfl rfl (fun w hw => zaB _ w (hw.fr (i := 2) rfl) a.High b.High)) ?_; rintro _ _ ⟨rfl, rfl⟩; refine ⟨(fun w hw => hw.sub Sx), ?_⟩; refine TS.eff ?_; refine TSo.ar rfl (Wt.none rfl) rfl rfl (Ew.buildSlice rfl rfl rfl (by decide)) ?_; rintro _ _ ⟨g30, rfl, rfl⟩; refine ⟨(fun w hw => hw.sub Sx), ?_⟩; refine TS.av (fun w hw => hw.freezeR (i := 3) (j := 0) (by decide) rfl rfl) ?_; rintro F2 ⟨le1_2, hz2⟩; dsimp only [List.set, List.eraseIdx]; have hf2 : SlC F2.toFrz (.slice (some ⟨g30, 0, none⟩) 5 5) 1 ([(zac a.To b.To), (zac a.From b.From), (zac a.Weight b.Weight), (zac a.Low b.Low), (zac a.High b.High)].map eI) := (SlK.lit hz2 rfl (Nat.le_refl _) (by decide)).toF (xs := [(zac a.To b.To), (zac a.From b.From), (zac a.Weight b.Weight), (zac a.Low b.Low), (zac a.High b.High)]) rfl (fun _ => rfl); refine TS.eff ?_; refine TSo.ar rfl (Wt.none rfl) rfl rfl (Ew.ag rfl rfl rfl (fun w hw => zdw _ w (hw.fr (i := 2) rfl) [(zac a.To b.To), (zac a.From b.From), (zac a.Weight b.Weight), (zac a.Low b.Low), (zac a.High b.High)] (.slice (some ⟨g30, 0, none⟩) 5 5) hf2)) ?_; rintro _ _ ⟨rfl, rfl⟩; refine ⟨(fun w hw => (hw.frLe (i := 2) rfl le1_2).sub Sx), ?_⟩; refine TS.run 1 rfl ?_; refine TS.done ?_; refine K.seq (T.ret ?_); subst hk; exact K.ai rfl rfl (fun w' hw => ⟨rfl, hw.isBelow⟩)
def za2 (c : GCap) : Bool :=
  (((zah c.Station) && (zan c.Max 0 1099511627776)) && (zbf c.Low c.High))
theorem zeT (F0 : Frz) (w : World) (hF0 : F0.At w) (c : GCap) : Calls Tryz.prog 93 #[.agg [.int .i64 c.Station, .int .i64 c.Max, .int .i64 c.Low, .int .i64 c.High].toArray] w fun e w' => e = .returned (.bool (za2 c)) ∧ Below w.heap.size w w' := by
  obtain ⟨r, hk⟩ : ∃ r, za2 c = r := ⟨_, rfl⟩; rw [hk]; unfold za2 at hk; obtain ⟨S0, F1, rfl, hS0, hp0⟩ := zam hF0; refine zap Tryz.func93 rfl rfl rfl hp0 ?_; refine T.sr ?_; refine TL.e (Ew.az rfl rfl) ?_; rintro _ _ ⟨g1, rfl, rfl⟩; refine TL.run 1 rfl ?_; refine TL.ns (T.seq ?_); refine T.af (ι := Unit) (fun z => [(2, .bool (((zah c.Station) && (zan c.Max 0 1099511627776)) && (zbf c.Low c.High)))]) (fun z => [.row g1 76 [.int .i64 c.Station, .int .i64 c.Max, .int .i64 c.Low, .int .i64 c.High], .fr F1]) (fun z => True) ?_ ?_
  · refine T.region ?_; refine TL.y (Yv.fieldAddr rfl rfl) ?_; refine TL.y (Yv.a 0 rfl rfl rfl rfl) ?_; refine TL.e (Ew.ag rfl rfl rfl (fun w hw => zbo _ w (hw.fr (i := 1) rfl) c.Station)) ?_; rintro _ _ ⟨rfl, rfl⟩; refine TL.run 1 rfl ?_; refine TL.gs rfl rfl rfl (fun h1 => ?_) (fun h1 => ?_)
    · refine TL.y (Yv.fieldAddr rfl rfl) ?_; refine TL.y (Yv.a 0 rfl rfl rfl rfl) ?_; refine TL.e (Ew.ag rfl rfl rfl (fun w hw => zbQ _ w (hw.fr (i := 1) rfl) c.Max 0 1099511627776)) ?_; rintro _ _ ⟨rfl, rfl⟩; refine TL.run 2 rfl ?_; refine TL.gs rfl rfl rfl (fun h2 => ?_) (fun h2 => ?_)
      · refine TL.y (Yv.fieldAddr rfl rfl) ?_; refine TL.y (Yv.a 0 rfl rfl rfl rfl) ?_; refine TL.y (Yv.fieldAddr rfl rfl) ?_; refine TL.y (Yv.a 0 rfl rfl rfl rfl) ?_; refine TL.e (Ew.ag rfl rfl rfl (fun w hw => zcW _ w (hw.fr (i := 1) rfl) c.Low c.High)) ?_; rintro _ _ ⟨rfl, rfl⟩; refine TL.run 2 rfl ?_; refine TL.nil ?_; exact K.ae () trivial (.b (zcQ (zaW h1 h2)) .nil) (List.Sublist.refl _)
      · refine TL.run 7 rfl ?_; refine TL.nil ?_; exact K.ae () trivial (.b (zaA (zaW h1 h2)).symm .nil) (List.Sublist.refl _)
    · refine TL.run 12 rfl ?_; refine TL.nil ?_; exact K.ae () trivial (.b (zaA (zaA h1)).symm .nil) (List.Sublist.refl _)
  · rintro _ _; refine T.ret ?_; subst hk; exact K.ai rfl rfl (fun w' hw => ⟨rfl, hw.isBelow⟩)
def zbq (a : GCap) (b : GCap) : Int :=
  (zcj [(zac a.Station b.Station), (zac a.Max b.Max), (zac a.Low b.Low), (zac a.High b.High)])
theorem zdQ (F0 : Frz) (w : World) (hF0 : F0.At w) (a : GCap) (b : GCap) : Calls Tryz.prog 95 #[.agg [.int .i64 a.Station, .int .i64 a.Max, .int .i64 a.Low, .int .i64 a.High].toArray, .agg [.int .i64 b.Station, .int .i64 b.Max, .int .i64 b.Low, .int .i64 b.High].toArray] w fun e w' => e = .returned (.int .i64 (zbq a b)) ∧ Below w.heap.size w w' := by
  obtain ⟨r, hk⟩ : ∃ r, zbq a b = r := ⟨_, rfl⟩; rw [hk]; unfold zbq at hk; obtain ⟨S0, F1, rfl, hS0, hp0⟩ := zam hF0; refine zap Tryz.func95 rfl rfl rfl hp0 ?_; refine T.sr ?_; refine TL.e (Ew.az rfl rfl) ?_; rintro _ _ ⟨g2, rfl, rfl⟩; refine TL.e (Ew.az rfl rfl) ?_; rintro _ _ ⟨g3, rfl, rfl⟩; refine TL.run 1 rfl ?_; refine TL.ns (T.seq ?_); refine T.aw (.still 0 (.still 1 (.still 2 (.still 3 (.still 5 (.still 6 (.still 7 (.still 8 (.still 10 (.still 11 (.still 12 (.still 13 (.still 15 (.still 16 (.still 17 (.still 18 (.eff 4 (.eff 9 (.eff 14 (.eff 19 (.eff 20 (.eff 21 (.still 22 .done))))))))))))))))))))))) _ (by kernel_rfl) (List.Sublist.refl _) ?_; refine TS.y rfl (Yv.fieldAddr rfl rfl) ?_; refine TS.y rfl (Yv.a 1 rfl rfl rfl rfl) ?_; refine TS.y rfl (Yv.fieldAddr rfl rfl) ?_; refine TS.y rfl (Yv.a 0 rfl rfl rfl rfl) ?_; refine TS.y rfl (Yv.fieldAddr rfl rfl) ?_; refine TS.y rfl (Yv.a 1 rfl rfl rfl rfl) ?_; refine TS.y rfl (Yv.fieldAddr rfl rfl) ?_; refine TS.y rfl (Yv.a 0 rfl rfl rfl rfl) ?_; refine TS.y rfl (Yv.fieldAddr rfl rfl) ?_; refine TS.y rfl (Yv.a 1 rfl rfl rfl rfl) ?_; refine TS.y rfl (Yv.fieldAddr rfl rfl) ?_; refine TS.y rfl (Yv.a 0 rfl rfl rfl rfl) ?_; refine TS.y rfl (Yv.fieldAddr rfl rfl) ?_; refine TS.y rfl (Yv.a 1 rfl rfl rfl rfl) ?_; refine TS.y rfl (Yv.fieldAddr rfl rfl) ?_; refine TS.y rfl (Yv.a 0 rfl rfl rfl rfl) ?_; refine TS.eff ?_; refine TSo.ar rfl (Wt.none rfl) rfl rfl (Ew.ag rfl rfl rfl (fun w hw => zaB _ w (hw.fr (i := 2) rfl) a.Station b.Station)) ?_; rintro _ _ ⟨rfl, rfl⟩; refine ⟨(fun w hw => hw.sub Sx), ?_⟩; refine TS.eff ?_; refine TSo.ar rfl (Wt.none rfl) rfl rfl (Ew.ag rfl rfl rfl (fun w hw => zaB _ w (hw.fr (i := 2) rfl) a.Max b.Max)) ?_; rintro _ _ ⟨rfl, rfl⟩; refine ⟨(fun w hw => hw.sub Sx), ?_⟩; refine TS.eff ?_; refine TSo.ar rfl (Wt.none rfl) rfl rfl (Ew.ag rfl rfl rfl (fun w hw => zaB _ w (hw.fr (i := 2) rfl) a.Low b.Low)) ?_; rintro _ _ ⟨rfl, rfl⟩; refine ⟨(fun w hw => hw.sub Sx), ?_⟩; refine TS.eff ?_; refine TSo.ar rfl (Wt.none rfl) rfl rfl (Ew.ag rfl rfl rfl (fun w hw => zaB _ w (hw.fr (i := 2) rfl) a.High b.High)) ?_; rintro _ _ ⟨rfl, rfl⟩; refine ⟨(fun w hw => hw.sub Sx), ?_⟩; refine TS.eff ?_; refine TSo.ar rfl (Wt.none rfl) rfl rfl (Ew.buildSlice rfl rfl rfl (by decide)) ?_; rintro _ _ ⟨g25, rfl, rfl⟩; refine ⟨(fun w hw => hw.sub Sx), ?_⟩; refine TS.av (fun w hw => hw.freezeR (i := 3) (j := 0) (by decide) rfl rfl) ?_; rintro F2 ⟨le1_2, hz2⟩; dsimp only [List.set, List.eraseIdx]; have hf2 : SlC F2.toFrz (.slice (some ⟨g25, 0, none⟩) 4 4) 1 ([(zac a.Station b.Station), (zac a.Max b.Max), (zac a.Low b.Low), (zac a.High b.High)].map eI) := (SlK.lit hz2 rfl (Nat.le_refl _) (by decide)).toF (xs := [(zac a.Station b.Station), (zac a.Max b.Max), (zac a.Low b.Low), (zac a.High b.High)]) rfl (fun _ => rfl); refine TS.eff ?_; refine TSo.ar rfl (Wt.none rfl) rfl rfl (Ew.ag rfl rfl rfl (fun w hw => zdw _ w (hw.fr (i := 2) rfl) [(zac a.Station b.Station), (zac a.Max b.Max), (zac a.Low b.Low), (zac a.High b.High)] (.slice (some ⟨g25, 0, none⟩) 4 4) hf2)) ?_; rintro _ _ ⟨rfl, rfl⟩; refine ⟨(fun w hw => (hw.frLe (i := 2) rfl le1_2).sub Sx), ?_⟩; refine TS.run 1 rfl ?_; refine TS.done ?_; refine K.seq (T.ret ?_); subst hk; exact K.ai rfl rfl (fun w' hw => ⟨rfl, hw.isBelow⟩)
def zbm (s : List Int) (v_ : Int) : Int :=
  zaI (fun (_ : Unit) =>
    (-1))
  (fun k1 =>
    zai (fun (i_3 : Nat) (next2 : Unit → Int) (_ : Unit) =>
      (bif decide (v_ = (nth s i_3)) then
        (i_3 : Int)
        else
        next2 ()))
    (fun (_ : Unit) =>
      k1 ()) (s.length - 0) 0 ())
theorem zdf (F0 : Frz) (w : World) (hF0 : F0.At w) (s : List Int) (vs : Value) (hs : SlC F0 vs 1 (s.map eI)) (v_ : Int) : Calls Tryz.prog 77 #[vs, .int .i64 v_] w fun e w' => e = .returned (.int .i64 (zbm s v_)) ∧ Below w.heap.size w w' := by
  obtain ⟨r, hk⟩ : ∃ r, zbm s v_ = r := ⟨_, rfl⟩; rw [hk]; unfold zbm at hk; haveI := hs.oneC; obtain ⟨S0, F1, rfl, hS0, hp0⟩ := zam hF0; refine zap Tryz.func77 rfl rfl rfl hp0 ?_; refine T.sr ?_; refine TL.run 1 rfl ?_; refine TL.ns (T.seq (T.sr ?_)); refine TL.run 1 rfl ?_; refine TL.y (Yv.an rfl rfl hs (List.length_map _)) ?_; have hm7 : s.length ≤ 9223372036854775807 := (List.length_map _) ▸ hs.max; refine TL.run 1 rfl ?_; refine TL.ns ?_; have hq := zag hk; clear hk; obtain ⟨k1, hk1, hk⟩ := hq; (try dsimp only at hk); refine T.af (ι := Unit) (fun z => []) (fun z => [.fr F1]) (fun z => k1 () = r) ?_ ?_
  · have hq := zak hk; clear hk; obtain ⟨f2, kk2, hf2, hkk2, hk⟩ := hq; refine T.block ?_; refine T.loop (ι := Nat) (fun z => [(0, vs), (1, .int .i64 v_), (7, .int .i64 (s.length : Int)), (8, .int .i64 (z : Int))]) (fun z => [.fr F1]) (fun z => zai f2 kk2 (s.length - z) z () = r) (fun z => s.length - z) 0 ?_ ?_ ?_ ?_
    · exact hk
    · exact (.c (.c (.c (.c .nil))))
    · exact List.Sublist.refl _
    · rintro i_3 hk; refine T.sr ?_; refine TL.run 1 rfl ?_; refine TL.ns (T.seq ?_); refine T.cond rfl (fun h4 => ?_) (fun h4 => ?_)
      · have p4 := of_decide_eq_true h4; rw [zat (by omega)] at hk; generalize hn2 : zai f2 kk2 (s.length - (i_3 + 1)) (i_3 + 1) = next2 at hk; rw [← hf2] at hk; (try dsimp only at hk); refine T.skip (K.seq (T.seq (T.block (T.sr ?_)))); refine TL.run 2 rfl ?_; refine TL.nx ?_; refine TL.run 3 rfl ?_; refine TL.y (Yv.am (i := i_3) rfl rfl rfl hs (List.length_map _) rfl (by omega)) ?_; refine TL.y (Yv.as 0 (i := i_3) (j := 0) rfl rfl rfl hs (by omega) rfl rfl) ?_; refine TL.run 1 rfl ?_; refine TL.ns ?_; refine T.cond rfl (fun h5 => ?_) (fun h5 => ?_)
        · have p5 := of_decide_eq_true h5; replace hk := zaa hk h5; refine T.sr ?_; refine TL.run 2 rfl ?_; refine TL.ns (T.ret (K.ah (K.ab (K.ab (K.ah (K.ab ?_)))))); subst hk; exact K.ai rfl rfl (fun w' hw => ⟨rfl, hw.isBelow⟩)
        · have p5 := of_decide_eq_false h5; replace hk := zab hk h5; refine T.skip (K.ac (K.seq (T.region ?_))); refine TL.y (Yv.ao rfl rfl rfl (by omega)) ?_; refine TL.run 1 rfl ?_; refine TL.nil ?_; rw [← hn2] at hk; exact K.next (i_3 + 1) hk (by omega) (.c (.c (.c (.c .nil)))) (List.Sublist.refl _)
      · have p4 := of_decide_eq_false h4; rw [zas (by omega), ← hkk2] at hk; (try dsimp only at hk); refine T.exit (K.aa (K.aa (K.ad ?_))); exact K.ae () hk .nil (List.Sublist.refl _)
  · rintro _ hk; rw [← hk1] at hk; (try dsimp only at hk); refine T.sr ?_; refine TL.run 1 rfl ?_; refine TL.ns (T.ret ?_); subst hk; exact K.ai rfl rfl (fun w' hw => ⟨rfl, hw.isBelow⟩)
def zay (s : List Int) (v_ : Int) : Bool :=
  (decide (0 ≤ (zbm s v_)))
theorem zcp (F0 : Frz) (w : World) (hF0 : F0.At w) (s : List Int) (vs : Value) (hs : SlC F0 vs 1 (s.map eI)) (v_ : Int) : Calls Tryz.prog 39 #[vs, .int .i64 v_] w fun e w' => e = .returned (.bool (zay s v_)) ∧ Below w.heap.size w w' := by
  obtain ⟨r, hk⟩ : ∃ r, zay s v_ = r := ⟨_, rfl⟩; rw [hk]; unfold zay at hk; haveI := hs.oneC; obtain ⟨S0, F1, rfl, hS0, hp0⟩ := zam hF0; refine zap Tryz.func39 rfl rfl rfl hp0 ?_; refine T.sr ?_; refine TL.run 1 rfl ?_; refine TL.nx ?_; refine TL.run 2 rfl ?_; refine TL.e (Ew.ag rfl rfl rfl (fun w hw => zdf _ w (hw.fr (i := 0) rfl) s vs hs v_)) ?_; rintro _ _ ⟨rfl, rfl⟩; refine TL.run 2 rfl ?_; refine TL.ns (T.ret ?_); subst hk; exact K.ai rfl rfl (fun w' hw => ⟨rfl, hw.isBelow⟩)
end Go.Proofs.YtnhdlloidbomdaaGreat
