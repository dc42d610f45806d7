/- Ya: shortened and put together by squeeze.py. -/
import Derived.Test.YtljgejbmimapdaaGreatDoorQ06
set_option maxRecDepth 100000
set_option maxHeartbeats 4000000
set_option linter.unusedVariables false
set_option linter.unusedSectionVars false
set_option linter.unusedSimpArgs false
namespace Go.Proofs.YtljgejbmimapdaaGreatDoor
open Go.RowKit
structure GDomain where
  Station : Int
  Channels : List Int
deriving DecidableEq, Inhabited
def GDomain.rep (F : Frz) (c : List Value) (x : GDomain) : Prop := ∃ (v1 : Value), c = [.int .i64 x.Station, v1] ∧ SlC F v1 1 (x.Channels.map eI)
theorem GDomain.mono {F G : Frz} {c : List Value} {x : GDomain} (hle : F.Le G) (h : GDomain.rep F c x) : GDomain.rep G c x := by
  obtain ⟨v1, h0, h2⟩ := h; exact ⟨v1, h0, h2.mono hle⟩
theorem GDomain.len {F : Frz} {c : List Value} {x : GDomain} (h : GDomain.rep F c x) : c.length = 2 := by
  obtain ⟨v1, h0, h2⟩ := h; subst h0; rfl
theorem GDomain.one {F : Frz} {c : List Value} {x : GDomain} (h : GDomain.rep F c x) : OneCs c := by
  obtain ⟨v1, h0, h2⟩ := h; subst h0; haveI := h2.oneC
  infer_instance
theorem GDomain.c0 {F : Frz} {c : List Value} {x : GDomain} (h : GDomain.rep F c x) : c[0]? = some (.int .i64 x.Station) := by
  obtain ⟨v1, h0, h2⟩ := h; subst h0; rfl
theorem GDomain.c1 {F : Frz} {c : List Value} {x : GDomain} (h : GDomain.rep F c x) : c[1]? = some (nth c 1) ∧ SlC F (nth c 1) 1 (x.Channels.map eI) := by
  obtain ⟨v1, h0, h2⟩ := h; subst h0; exact ⟨rfl, h2⟩
theorem GDomain.form {F : Frz} {c : List Value} {x : GDomain} (h : GDomain.rep F c x) : (c.drop 0).take 2 = [.int .i64 x.Station, nth c 1] := by
  obtain ⟨v1, h0, h2⟩ := h; subst h0; rfl
structure GPair where
  A : Int
  B : Int
  Offset : Int
  Low : Int
  High : Int
deriving DecidableEq, Inhabited
abbrev GPair.enc (x : GPair) : List Value := [.int .i64 x.A, .int .i64 x.B, .int .i64 x.Offset, .int .i64 x.Low, .int .i64 x.High]
theorem GPair.len (x : GPair) : (GPair.enc x).length = 5 := rfl
structure GLoad where
  To : Int
  From : Int
  Weight : Int
  Low : Int
  High : Int
deriving DecidableEq, Inhabited
abbrev GLoad.enc (x : GLoad) : List Value := [.int .i64 x.To, .int .i64 x.From, .int .i64 x.Weight, .int .i64 x.Low, .int .i64 x.High]
theorem GLoad.len (x : GLoad) : (GLoad.enc x).length = 5 := rfl
structure GCap where
  Station : Int
  Max : Int
  Low : Int
  High : Int
deriving DecidableEq, Inhabited
abbrev GCap.enc (x : GCap) : List Value := [.int .i64 x.Station, .int .i64 x.Max, .int .i64 x.Low, .int .i64 x.High]
theorem GCap.len (x : GCap) : (GCap.enc x).length = 4 := rfl
structure GRules where
  Pairs : List GPair
  Loads : List GLoad
  Caps : List GCap
deriving DecidableEq, Inhabited
def GRules.rep (F : Frz) (c : List Value) (x : GRules) : Prop := ∃ (v0 : Value) (v1 : Value) (v2 : Value), c = [v0, v1, v2] ∧ SlC F v0 5 (x.Pairs.map GPair.enc) ∧ SlC F v1 5 (x.Loads.map GLoad.enc) ∧ SlC F v2 4 (x.Caps.map GCap.enc)
theorem GRules.mono {F G : Frz} {c : List Value} {x : GRules} (hle : F.Le G) (h : GRules.rep F c x) : GRules.rep G c x := by
  obtain ⟨v0, v1, v2, h0, h1, h2, h3⟩ := h; exact ⟨v0, v1, v2, h0, h1.mono hle, h2.mono hle, h3.mono hle⟩
theorem GRules.len {F : Frz} {c : List Value} {x : GRules} (h : GRules.rep F c x) : c.length = 3 := by
  obtain ⟨v0, v1, v2, h0, h1, h2, h3⟩ := h; subst h0; rfl
theorem GRules.one {F : Frz} {c : List Value} {x : GRules} (h : GRules.rep F c x) : OneCs c := by
  obtain ⟨v0, v1, v2, h0, h1, h2, h3⟩ := h; subst h0; haveI := h1.oneC; haveI := h2.oneC; haveI := h3.oneC
  infer_instance
theorem GRules.c0 {F : Frz} {c : List Value} {x : GRules} (h : GRules.rep F c x) : c[0]? = some (nth c 0) ∧ SlC F (nth c 0) 5 (x.Pairs.map GPair.enc) := by
  obtain ⟨v0, v1, v2, h0, h1, h2, h3⟩ := h; subst h0; exact ⟨rfl, h1⟩
theorem GRules.c1 {F : Frz} {c : List Value} {x : GRules} (h : GRules.rep F c x) : c[1]? = some (nth c 1) ∧ SlC F (nth c 1) 5 (x.Loads.map GLoad.enc) := by
  obtain ⟨v0, v1, v2, h0, h1, h2, h3⟩ := h; subst h0; exact ⟨rfl, h2⟩
theorem GRules.c2 {F : Frz} {c : List Value} {x : GRules} (h : GRules.rep F c x) : c[2]? = some (nth c 2) ∧ SlC F (nth c 2) 4 (x.Caps.map GCap.enc) := by
  obtain ⟨v0, v1, v2, h0, h1, h2, h3⟩ := h; subst h0; exact ⟨rfl, h3⟩
theorem GRules.form {F : Frz} {c : List Value} {x : GRules} (h : GRules.rep F c x) : (c.drop 0).take 3 = [nth c 0, nth c 1, nth c 2] := by
  obtain ⟨v0, v1, v2, h0, h1, h2, h3⟩ := h; subst h0; rfl
structure GProblem where
  Domains : List GDomain
  Rules : GRules
deriving DecidableEq, Inhabited
def GProblem.rep (F : Frz) (c : List Value) (x : GProblem) : Prop := ∃ (v0 : Value) (cs0 : List (List Value)) (v1 : Value) (v2 : Value) (v3 : Value), c = [v0, v1, v2, v3] ∧ SlD GDomain.rep F v0 2 cs0 x.Domains ∧ SlC F v1 5 (x.Rules.Pairs.map GPair.enc) ∧ SlC F v2 5 (x.Rules.Loads.map GLoad.enc) ∧ SlC F v3 4 (x.Rules.Caps.map GCap.enc)
theorem GProblem.mono {F G : Frz} {c : List Value} {x : GProblem} (hle : F.Le G) (h : GProblem.rep F c x) : GProblem.rep G c x := by
  obtain ⟨v0, cs0, v1, v2, v3, h0, h1, h2, h3, h4⟩ := h; exact ⟨v0, cs0, v1, v2, v3, h0, SlD.mono (rep := GDomain.rep) (fun _ _ _ _ => GDomain.mono) h1 hle, h2.mono hle, h3.mono hle, h4.mono hle⟩
theorem GProblem.len {F : Frz} {c : List Value} {x : GProblem} (h : GProblem.rep F c x) : c.length = 4 := by
  obtain ⟨v0, cs0, v1, v2, v3, h0, h1, h2, h3, h4⟩ := h; subst h0; rfl
theorem GProblem.one {F : Frz} {c : List Value} {x : GProblem} (h : GProblem.rep F c x) : OneCs c := by
  obtain ⟨v0, cs0, v1, v2, v3, h0, h1, h2, h3, h4⟩ := h; subst h0; haveI := h1.1.oneC; haveI := h2.oneC; haveI := h3.oneC; haveI := h4.oneC
  infer_instance
theorem GProblem.c0 {F : Frz} {c : List Value} {x : GProblem} (h : GProblem.rep F c x) : c[0]? = some (nth c 0) ∧ ∃ cs, SlD GDomain.rep F (nth c 0) 2 cs x.Domains := by
  obtain ⟨v0, cs0, v1, v2, v3, h0, h1, h2, h3, h4⟩ := h; subst h0; exact ⟨rfl, cs0, h1⟩
theorem GProblem.c1 {F : Frz} {c : List Value} {x : GProblem} (h : GProblem.rep F c x) : c[1]? = some (nth c 1) ∧ SlC F (nth c 1) 5 (x.Rules.Pairs.map GPair.enc) := by
  obtain ⟨v0, cs0, v1, v2, v3, h0, h1, h2, h3, h4⟩ := h; subst h0; exact ⟨rfl, h2⟩
theorem GProblem.c2 {F : Frz} {c : List Value} {x : GProblem} (h : GProblem.rep F c x) : c[2]? = some (nth c 2) ∧ SlC F (nth c 2) 5 (x.Rules.Loads.map GLoad.enc) := by
  obtain ⟨v0, cs0, v1, v2, v3, h0, h1, h2, h3, h4⟩ := h; subst h0; exact ⟨rfl, h3⟩
theorem GProblem.c3 {F : Frz} {c : List Value} {x : GProblem} (h : GProblem.rep F c x) : c[3]? = some (nth c 3) ∧ SlC F (nth c 3) 4 (x.Rules.Caps.map GCap.enc) := by
  obtain ⟨v0, cs0, v1, v2, v3, h0, h1, h2, h3, h4⟩ := h; subst h0; exact ⟨rfl, h4⟩
theorem GProblem.form {F : Frz} {c : List Value} {x : GProblem} (h : GProblem.rep F c x) : (c.drop 0).take 4 = [nth c 0, nth c 1, nth c 2, nth c 3] := by
  obtain ⟨v0, cs0, v1, v2, v3, h0, h1, h2, h3, h4⟩ := h; subst h0; rfl
structure GChoice where
  Station : Int
  Channel : Int
deriving DecidableEq, Inhabited
abbrev GChoice.enc (x : GChoice) : List Value := [.int .i64 x.Station, .int .i64 x.Channel]
theorem GChoice.len (x : GChoice) : (GChoice.enc x).length = 2 := rfl
def ref17_Find_x (p : GProblem) (n : Int) : Int :=
  joinK (fun (_ : Unit) =>
    (-1))
  (fun k1 =>
    iterK (fun (i_3 : Nat) (next2 : Unit → Int) (_ : Unit) =>
      (bif decide ((nth p.Domains i_3).Station = n) then
        (i_3 : Int)
        else
        next2 ()))
    (fun (_ : Unit) =>
      k1 ()) (p.Domains.length - 0) 0 ())
theorem ref17_Find_c (F0 : Frz) (w : World) (hF0 : F0.At w) (p : GProblem) (vp_0 : Value) (cp_0 : List (List Value)) (hp_0 : SlD GDomain.rep F0 vp_0 2 cp_0 p.Domains) (vp_1 : Value) (hp_1 : SlC F0 vp_1 5 (p.Rules.Pairs.map GPair.enc)) (vp_2 : Value) (hp_2 : SlC F0 vp_2 5 (p.Rules.Loads.map GLoad.enc)) (vp_3 : Value) (hp_3 : SlC F0 vp_3 4 (p.Rules.Caps.map GCap.enc)) (n : Int) : Calls Tryz.prog 15 #[.agg [vp_0, vp_1, vp_2, vp_3].toArray, .int .i64 n] w fun e w' => e = .returned (.int .i64 (ref17_Find_x p n)) ∧ Below w.heap.size w w' := by
  obtain ⟨r, hk⟩ : ∃ r, ref17_Find_x p n = r := ⟨_, rfl⟩; rw [hk]; unfold ref17_Find_x at hk; haveI := hp_0.1.oneC; haveI := hp_1.oneC; haveI := hp_2.oneC; haveI := hp_3.oneC; obtain ⟨S0, F1, rfl, hS0, hp0⟩ := startF_ex hF0; refine calls_T (M := fun _ => False) (hs := [.fr F1]) Tryz.func15 rfl rfl rfl hp0 ?_; refine T.seq (T.region ?_); refine TL.e (Ew.boxA rfl rfl) ?_; rintro _ _ ⟨g2, rfl, rfl⟩; refine TL.run 1 rfl ?_; refine TL.nil (K.seq (T.seq (T.seq (T.region ?_)))); refine TL.run 1 rfl ?_; refine TL.nil (K.seq ?_); have hq := joinK_open hk; clear hk; obtain ⟨k1, hk1, hk⟩ := hq; (try dsimp only at hk); refine T.cutXK (ι := Unit) (fun z => []) (fun z => [.fr F1]) (fun z => k1 () = r) ?_ ?_
  · have hq := iterK_open hk; clear hk; obtain ⟨f2, kk2, hf2, hkk2, hk⟩ := hq; refine T.block ?_; refine T.loop (ι := Nat) (fun z => [(1, .int .i64 n), (2, .pointer (some ⟨g2, 0, none⟩)), (5, .int .i64 (z : Int))]) (fun z => [.row g2 29 [vp_0, vp_1, vp_2, vp_3], .fr F1]) (fun z => iterK f2 kk2 (p.Domains.length - z) z () = r) (fun z => p.Domains.length - z) 0 ?_ ?_ ?_ ?_
    · exact hk
    · exact (.c (.c (.c .nil)))
    · exact List.Sublist.refl _
    · rintro i_3 hk; refine T.seq (T.seq (T.region ?_)); refine TL.run 1 rfl ?_; refine TL.y (Yv.fieldAddr rfl rfl) ?_; refine TL.y (Yv.loadO 0 rfl rfl rfl rfl) ?_; refine TL.y (Yv.lenR rfl rfl hp_0.1 hp_0.2.1) ?_; have hm9 : p.Domains.length ≤ 9223372036854775807 := hp_0.2.1 ▸ hp_0.1.max; refine TL.run 1 rfl ?_; refine TL.nil (K.seq ?_); refine T.cond rfl (fun h4 => ?_) (fun h4 => ?_)
      · have p4 := of_decide_eq_true h4; rw [iterK_lt (by omega)] at hk; generalize hn2 : iterK f2 kk2 (p.Domains.length - (i_3 + 1)) (i_3 + 1) = next2 at hk; rw [← hf2] at hk; (try dsimp only at hk); refine T.skip (K.seq (T.seq (T.block (T.seq (T.region ?_))))); refine TL.y (Yv.fieldAddr rfl rfl) ?_; refine TL.y (Yv.loadO 0 rfl rfl rfl rfl) ?_; refine TL.run 1 rfl ?_; refine TL.y (Yv.idxR (i := i_3) rfl rfl rfl hp_0.1 hp_0.2.1 rfl (by omega)) ?_; refine TL.y (Yv.fldR rfl rfl hp_0.1 hp_0.2.1 (by omega)) ?_; refine TL.y (Yv.loadR 1 (i := i_3) (j := 0) rfl rfl rfl hp_0.1 hp_0.2.1 (by omega) rfl (GDomain.c0 (hp_0.2.2 i_3 (by omega)))) ?_; refine TL.run 2 rfl ?_; refine TL.nil (K.seq ?_); refine T.cond rfl (fun h5 => ?_) (fun h5 => ?_)
        · have p5 := of_decide_eq_true h5; replace hk := condT_open hk h5; refine T.seq (T.region ?_); refine TL.run 2 rfl ?_; refine TL.nil (K.seq (T.ret (K.blk_ret (K.then_ret (K.then_ret (K.blk_ret (K.then_ret ?_))))))); subst hk; exact K.ret1 rfl rfl (fun w' hw => ⟨rfl, hw.isBelow⟩)
        · have p5 := of_decide_eq_false h5; replace hk := condF_open hk h5; refine T.skip (K.blk_normal (K.seq (T.region ?_))); refine TL.run 1 rfl ?_; refine TL.y (Yv.addI rfl rfl rfl (by omega)) ?_; refine TL.run 1 rfl ?_; refine TL.nil ?_; rw [← hn2] at hk; exact K.next (i_3 + 1) hk (by omega) (.c (.c (.c .nil))) (List.Sublist.refl _)
      · have p4 := of_decide_eq_false h4; rw [iterK_ge (by omega), ← hkk2] at hk; (try dsimp only at hk); refine T.exit (K.then_exit (K.then_exit (K.blk_exit_eq ?_))); refine K.pick [1] rfl (by decide) ?_; exact K.atX () hk .nil (List.Sublist.refl _)
  · rintro _ hk; rw [← hk1] at hk; (try dsimp only at hk); refine T.seq (T.region ?_); refine TL.run 1 rfl ?_; refine TL.nil (K.seq (T.ret ?_)); subst hk; exact K.ret1 rfl rfl (fun w' hw => ⟨rfl, hw.isBelow⟩)
def ref17_SameInts_x (a : List Int) (b : List Int) : Bool :=
  (bif decide (¬ (a.length : Int) = (b.length : Int)) then
    false
    else
    joinK (fun (_ : Unit) =>
      true)
    (fun k2 =>
      iterK (fun (i_4 : Nat) (next3 : Unit → Bool) (_ : Unit) =>
        (bif decide (¬ (nth a i_4) = (nth b i_4)) then
          false
          else
          next3 ()))
      (fun (_ : Unit) =>
        k2 ()) (a.length - 0) 0 ()))
theorem ref17_SameInts_c (F0 : Frz) (w : World) (hF0 : F0.At w) (a : List Int) (va : Value) (ha : SlC F0 va 1 (a.map eI)) (b : List Int) (vb : Value) (hb : SlC F0 vb 1 (b.map eI)) : Calls Tryz.prog 35 #[va, vb] w fun e w' => e = .returned (.bool (ref17_SameInts_x a b)) ∧ Below w.heap.size w w' := by
  obtain ⟨r, hk⟩ : ∃ r, ref17_SameInts_x a b = r := ⟨_, rfl⟩; rw [hk]; unfold ref17_SameInts_x at hk; haveI := ha.oneC; haveI := hb.oneC; obtain ⟨S0, F1, rfl, hS0, hp0⟩ := startF_ex hF0; refine calls_T (M := fun _ => False) (hs := [.fr F1]) Tryz.func35 rfl rfl rfl hp0 ?_; refine T.seq (T.region ?_); refine TL.run 1 rfl ?_; refine TL.nil (K.seq (T.seq (T.seq (T.region ?_)))); refine TL.run 1 rfl ?_; refine TL.y (Yv.lenR rfl rfl ha (List.length_map _)) ?_; have hm7 : a.length ≤ 9223372036854775807 := (List.length_map _) ▸ ha.max; refine TL.run 1 rfl ?_; refine TL.y (Yv.lenR rfl rfl hb (List.length_map _)) ?_; have hm9 : b.length ≤ 9223372036854775807 := (List.length_map _) ▸ hb.max; refine TL.run 1 rfl ?_; refine TL.nil (K.seq ?_); refine T.cond rfl (fun h1 => ?_) (fun h1 => ?_)
  · have p1 := of_decide_eq_true h1; replace hk := condT_open hk h1; refine T.seq (T.region ?_); refine TL.run 1 rfl ?_; refine TL.nil (K.seq (T.ret (K.then_ret ?_))); subst hk; exact K.ret1 rfl rfl (fun w' hw => ⟨rfl, hw.isBelow⟩)
  · have p1 := of_decide_eq_false h1; replace hk := condF_open hk h1; refine T.skip (K.seq (T.seq (T.seq (T.region ?_)))); refine TL.run 1 rfl ?_; refine TL.nil (K.seq ?_); have hq := joinK_open hk; clear hk; obtain ⟨k2, hk2, hk⟩ := hq; (try dsimp only at hk); refine T.cutXK (ι := Unit) (fun z => []) (fun z => [.fr F1]) (fun z => k2 () = r) ?_ ?_
    · have hq := iterK_open hk; clear hk; obtain ⟨f3, kk3, hf3, hkk3, hk⟩ := hq; refine T.block ?_; refine T.loop (ι := Nat) (fun z => [(0, va), (1, vb), (5, .int .i64 (z : Int))]) (fun z => [.fr F1]) (fun z => iterK f3 kk3 (a.length - z) z () = r) (fun z => a.length - z) 0 ?_ ?_ ?_ ?_
      · exact hk
      · exact (.c (.c (.c .nil)))
      · exact List.Sublist.refl _
      · rintro i_4 hk; refine T.seq (T.seq (T.region ?_)); refine TL.run 2 rfl ?_; refine TL.y (Yv.lenR rfl rfl ha (List.length_map _)) ?_; refine TL.run 1 rfl ?_; refine TL.nil (K.seq ?_); refine T.cond rfl (fun h5 => ?_) (fun h5 => ?_)
        · have p5 := of_decide_eq_true h5; rw [iterK_lt (by omega)] at hk; generalize hn3 : iterK f3 kk3 (a.length - (i_4 + 1)) (i_4 + 1) = next3 at hk; rw [← hf3] at hk; (try dsimp only at hk); refine T.skip (K.seq (T.seq (T.block (T.seq ?_)))); refine T.draw (.still 0 (.still 1 (.still 2 (.still 3 (.still 4 (.still 5 (.still 6 (.still 7 (.still 8 .done))))))))) _ (by kernel_rfl) (List.Sublist.refl _) ?_; refine TS.run 2 rfl ?_; refine TS.y rfl (Yv.idxR (i := i_4) rfl rfl rfl ha (List.length_map _) rfl (by omega)) ?_; refine TS.y rfl (Yv.loadRF 0 (i := i_4) (j := 0) rfl rfl rfl ha (by omega) rfl rfl) ?_; refine TS.run 2 rfl ?_; refine TS.y rfl (Yv.idxR (i := i_4) rfl rfl rfl hb (List.length_map _) rfl (by omega)) ?_; refine TS.y rfl (Yv.loadRF 0 (i := i_4) (j := 0) rfl rfl rfl hb (by omega) rfl rfl) ?_; refine TS.run 1 rfl ?_; refine TS.done ?_; refine K.seq ?_; refine T.cond rfl (fun h6 => ?_) (fun h6 => ?_)
          · have p6 := of_decide_eq_true h6; replace hk := condT_open hk h6; refine T.seq (T.region ?_); refine TL.run 1 rfl ?_; refine TL.nil (K.seq (T.ret (K.blk_ret (K.then_ret (K.then_ret (K.blk_ret (K.then_ret ?_))))))); subst hk; exact K.ret1 rfl rfl (fun w' hw => ⟨rfl, hw.isBelow⟩)
          · have p6 := of_decide_eq_false h6; replace hk := condF_open hk h6; refine T.skip (K.blk_normal (K.seq (T.region ?_))); refine TL.run 1 rfl ?_; refine TL.y (Yv.addI rfl rfl rfl (by omega)) ?_; refine TL.run 1 rfl ?_; refine TL.nil ?_; rw [← hn3] at hk; exact K.next (i_4 + 1) hk (by omega) (.c (.c (.c .nil))) (List.Sublist.refl _)
        · have p5 := of_decide_eq_false h5; rw [iterK_ge (by omega), ← hkk3] at hk; (try dsimp only at hk); refine T.exit (K.then_exit (K.then_exit (K.blk_exit_eq ?_))); exact K.atX () hk .nil (List.Sublist.refl _)
    · rintro _ hk; rw [← hk2] at hk; (try dsimp only at hk); refine T.seq (T.region ?_); refine TL.run 1 rfl ?_; refine TL.nil (K.seq (T.ret ?_)); subst hk; exact K.ret1 rfl rfl (fun w' hw => ⟨rfl, hw.isBelow⟩)
def ref17_SameDomains_x (a : List GDomain) (b : List GDomain) : Bool :=
  (bif decide (¬ (a.length : Int) = (b.length : Int)) then
    false
    else
    joinK (fun (_ : Unit) =>
      true)
    (fun k2 =>
      iterK (fun (i_4 : Nat) (next3 : Unit → Bool) (_ : Unit) =>
        (bif ((decide (¬ (nth a i_4).Station = (nth b i_4).Station)) || (!(ref17_SameInts_x ((nth a i_4).Channels) ((nth b i_4).Channels)))) then
          false
          else
          next3 ()))
      (fun (_ : Unit) =>
        k2 ()) (a.length - 0) 0 ()))
theorem ref17_SameDomains_c (F0 : Frz) (w : World) (hF0 : F0.At w) (a : List GDomain) (va : Value) (ca : List (List Value)) (ha : SlD GDomain.rep F0 va 2 ca a) (b : List GDomain) (vb : Value) (cb : List (List Value)) (hb : SlD GDomain.rep F0 vb 2 cb b) : Calls Tryz.prog 18 #[va, vb] w fun e w' => e = .returned (.bool (ref17_SameDomains_x a b)) ∧ Below w.heap.size w w' := by
  obtain ⟨r, hk⟩ : ∃ r, ref17_SameDomains_x a b = r := ⟨_, rfl⟩; rw [hk]; unfold ref17_SameDomains_x at hk; haveI := ha.1.oneC; haveI := hb.1.oneC; obtain ⟨S0, F1, rfl, hS0, hp0⟩ := startF_ex hF0; refine calls_T (M := fun _ => False) (hs := [.fr F1]) Tryz.func18 rfl rfl rfl hp0 ?_; refine T.seq (T.region ?_); refine TL.run 1 rfl ?_; refine TL.nil (K.seq (T.seq (T.seq (T.region ?_)))); refine TL.run 1 rfl ?_; refine TL.y (Yv.lenR rfl rfl ha.1 ha.2.1) ?_; have hm7 : a.length ≤ 9223372036854775807 := ha.2.1 ▸ ha.1.max; refine TL.run 1 rfl ?_; refine TL.y (Yv.lenR rfl rfl hb.1 hb.2.1) ?_; have hm9 : b.length ≤ 9223372036854775807 := hb.2.1 ▸ hb.1.max; refine TL.run 1 rfl ?_; refine TL.nil (K.seq ?_); refine T.cond rfl (fun h1 => ?_) (fun h1 => ?_)
  · have p1 := of_decide_eq_true h1; replace hk := condT_open hk h1; refine T.seq (T.region ?_); refine TL.run 1 rfl ?_; refine TL.nil (K.seq (T.ret (K.then_ret ?_))); subst hk; exact K.ret1 rfl rfl (fun w' hw => ⟨rfl, hw.isBelow⟩)
  · have p1 := of_decide_eq_false h1; replace hk := condF_open hk h1; refine T.skip (K.seq (T.seq (T.seq (T.region ?_)))); refine TL.run 1 rfl ?_; refine TL.nil (K.seq ?_); have hq := joinK_open hk; clear hk; obtain ⟨k2, hk2, hk⟩ := hq; (try dsimp only at hk); refine T.cutXK (ι := Unit) (fun z => []) (fun z => [.fr F1]) (fun z => k2 () = r) ?_ ?_
    · have hq := iterK_open hk; clear hk; obtain ⟨f3, kk3, hf3, hkk3, hk⟩ := hq; refine T.block ?_; refine T.loop (ι := Nat) (fun z => [(0, va), (1, vb), (5, .int .i64 (z : Int))]) (fun z => [.fr F1]) (fun z => iterK f3 kk3 (a.length - z) z () = r) (fun z => a.length - z) 0 ?_ ?_ ?_ ?_
      · exact hk
      · exact (.c (.c (.c .nil)))
      · exact List.Sublist.refl _
      · rintro i_4 hk; refine T.seq (T.seq (T.region ?_)); refine TL.run 2 rfl ?_; refine TL.y (Yv.lenR rfl rfl ha.1 ha.2.1) ?_; refine TL.run 1 rfl ?_; refine TL.nil (K.seq ?_); refine T.cond rfl (fun h5 => ?_) (fun h5 => ?_)
        · have p5 := of_decide_eq_true h5; rw [iterK_lt (by omega)] at hk; generalize hn3 : iterK f3 kk3 (a.length - (i_4 + 1)) (i_4 + 1) = next3 at hk; rw [← hf3] at hk; (try dsimp only at hk); refine T.skip (K.seq (T.seq (T.block (T.seq ?_)))); refine T.cutXK (ι := Unit) (fun z => [(0, va), (1, vb), (5, .int .i64 (i_4 : Int)), (41, .bool ((decide (¬ (nth a i_4).Station = (nth b i_4).Station)) || (!(ref17_SameInts_x ((nth a i_4).Channels) ((nth b i_4).Channels)))))]) (fun z => [.fr F1]) (fun z => True) ?_ ?_
          · refine T.draw (.still 0 (.still 1 (.still 2 (.still 3 (.still 4 (.still 5 (.still 6 (.still 7 (.still 8 (.still 9 (.still 10 (.still 11 (.still 12 (.still 13 (.still 14 (.still 15 (.still 16 (.still 17 (.still 18 (.still 19 (.still 20 (.still 21 (.eff 22 (.still 23 (.still 24 .done))))))))))))))))))))))))) _ (by kernel_rfl) (List.Sublist.refl _) ?_; refine TS.run 2 rfl ?_; refine TS.y rfl (Yv.idxR (i := i_4) rfl rfl rfl ha.1 ha.2.1 rfl (by omega)) ?_; refine TS.y rfl (Yv.fldR rfl rfl ha.1 ha.2.1 (by omega)) ?_; refine TS.y rfl (Yv.loadR 0 (i := i_4) (j := 0) rfl rfl rfl ha.1 ha.2.1 (by omega) rfl (GDomain.c0 (ha.2.2 i_4 (by omega)))) ?_; refine TS.run 2 rfl ?_; refine TS.y rfl (Yv.idxR (i := i_4) rfl rfl rfl hb.1 hb.2.1 rfl (by omega)) ?_; refine TS.y rfl (Yv.fldR rfl rfl hb.1 hb.2.1 (by omega)) ?_; refine TS.y rfl (Yv.loadR 0 (i := i_4) (j := 0) rfl rfl rfl hb.1 hb.2.1 (by omega) rfl (GDomain.c0 (hb.2.2 i_4 (by omega)))) ?_; refine TS.run 2 rfl ?_; refine TS.gs rfl rfl rfl rfl (fun h6 => ?_) (fun h6 => ?_)
            · have p6 := of_decide_eq_true h6; refine TS.run 10 rfl ?_; refine TS.eff ?_; refine TSo.off rfl (Wt.not rfl rfl rfl rfl) rfl rfl ?_; refine TS.run 2 rfl ?_; refine TS.done ?_; exact K.atX () trivial (.c (.c (.c (.b (or_tt h6).symm .nil)))) (List.Sublist.refl _)
            · have p6 := of_decide_eq_false h6; refine TS.run 2 rfl ?_; refine TS.y rfl (Yv.idxR (i := i_4) rfl rfl rfl ha.1 ha.2.1 rfl (by omega)) ?_; refine TS.y rfl (Yv.fldR rfl rfl ha.1 ha.2.1 (by omega)) ?_; refine TS.y rfl (Yv.loadR 0 (i := i_4) (j := 1) rfl rfl rfl ha.1 ha.2.1 (by omega) rfl (GDomain.c1 (ha.2.2 i_4 (by omega))).1) ?_; have hd33_1 := (GDomain.c1 (ha.2.2 i_4 (by omega))).2; haveI := hd33_1.oneC; refine TS.run 2 rfl ?_; refine TS.y rfl (Yv.idxR (i := i_4) rfl rfl rfl hb.1 hb.2.1 rfl (by omega)) ?_; refine TS.y rfl (Yv.fldR rfl rfl hb.1 hb.2.1 (by omega)) ?_; refine TS.y rfl (Yv.loadR 0 (i := i_4) (j := 1) rfl rfl rfl hb.1 hb.2.1 (by omega) rfl (GDomain.c1 (hb.2.2 i_4 (by omega))).1) ?_; have hd38_1 := (GDomain.c1 (hb.2.2 i_4 (by omega))).2; haveI := hd38_1.oneC; refine TS.eff ?_; refine TSo.ewG rfl (Wt.some rfl rfl rfl rfl) rfl rfl (Ew.callD rfl rfl rfl (fun w hw => ref17_SameInts_c _ w (hw.fr (i := 0) rfl) ((nth a i_4).Channels) (nth (nth ca i_4) 1) hd33_1 ((nth b i_4).Channels) (nth (nth cb i_4) 1) hd38_1)) ?_; rintro _ _ ⟨rfl, rfl⟩; refine ⟨(fun w hw => hw.sub (by repeat first | exact S0 | exact S1 | refine S2 ?_ | refine S3 ?_)), ?_⟩; refine TS.run 2 rfl ?_; refine TS.done ?_; exact K.atX () trivial (.c (.c (.c (.b (or_f h6) .nil)))) (List.Sublist.refl _)
          · rintro _ _; refine T.cond rfl (fun h7 => ?_) (fun h7 => ?_)
            · have p7 := h7; (try simp only [nfB] at p7); replace hk := condT_open hk h7; refine T.seq (T.region ?_); refine TL.run 1 rfl ?_; refine TL.nil (K.seq (T.ret (K.blk_ret (K.then_ret (K.then_ret (K.blk_ret (K.then_ret ?_))))))); subst hk; exact K.ret1 rfl rfl (fun w' hw => ⟨rfl, hw.isBelow⟩)
            · have p7 := h7; (try simp only [nfB] at p7); replace hk := condF_open hk h7; refine T.skip (K.blk_normal (K.seq (T.region ?_))); refine TL.run 1 rfl ?_; refine TL.y (Yv.addI rfl rfl rfl (by omega)) ?_; refine TL.run 1 rfl ?_; refine TL.nil ?_; rw [← hn3] at hk; exact K.next (i_4 + 1) hk (by omega) (.c (.c (.c .nil))) (List.Sublist.refl _)
        · have p5 := of_decide_eq_false h5; rw [iterK_ge (by omega), ← hkk3] at hk; (try dsimp only at hk); refine T.exit (K.then_exit (K.then_exit (K.blk_exit_eq ?_))); exact K.atX () hk .nil (List.Sublist.refl _)
    · rintro _ hk; rw [← hk2] at hk; (try dsimp only at hk); refine T.seq (T.region ?_); refine TL.run 1 rfl ?_; refine TL.nil (K.seq (T.ret ?_)); subst hk; exact K.ret1 rfl rfl (fun w' hw => ⟨rfl, hw.isBelow⟩)
def ref17_SameList_x (a : List GChoice) (b : List GChoice) : Bool :=
  (bif decide (¬ (a.length : Int) = (b.length : Int)) then
    false
    else
    joinK (fun (_ : Unit) =>
      true)
    (fun k2 =>
      iterK (fun (i_4 : Nat) (next3 : Unit → Bool) (_ : Unit) =>
        (bif !(decide ((nth a i_4).Station = (nth b i_4).Station) && decide ((nth a i_4).Channel = (nth b i_4).Channel)) then
          false
          else
          next3 ()))
      (fun (_ : Unit) =>
        k2 ()) (a.length - 0) 0 ()))
theorem ref17_SameList_c (F0 : Frz) (w : World) (hF0 : F0.At w) (a : List GChoice) (va : Value) (ha : SlC F0 va 2 (a.map GChoice.enc)) (b : List GChoice) (vb : Value) (hb : SlC F0 vb 2 (b.map GChoice.enc)) : Calls Tryz.prog 21 #[va, vb] w fun e w' => e = .returned (.bool (ref17_SameList_x a b)) ∧ Below w.heap.size w w' := by
  obtain ⟨r, hk⟩ : ∃ r, ref17_SameList_x a b = r := ⟨_, rfl⟩; rw [hk]; unfold ref17_SameList_x at hk; haveI := ha.oneC; haveI := hb.oneC; obtain ⟨S0, F1, rfl, hS0, hp0⟩ := startF_ex hF0; refine calls_T (M := fun _ => False) (hs := [.fr F1]) Tryz.func21 rfl rfl rfl hp0 ?_; refine T.seq (T.region ?_); refine TL.run 1 rfl ?_; refine TL.nil (K.seq (T.seq (T.seq (T.region ?_)))); refine TL.run 1 rfl ?_; refine TL.y (Yv.lenR rfl rfl ha (List.length_map _)) ?_; have hm7 : a.length ≤ 9223372036854775807 := (List.length_map _) ▸ ha.max; refine TL.run 1 rfl ?_; refine TL.y (Yv.lenR rfl rfl hb (List.length_map _)) ?_; have hm9 : b.length ≤ 9223372036854775807 := (List.length_map _) ▸ hb.max; refine TL.run 1 rfl ?_; refine TL.nil (K.seq ?_); refine T.cond rfl (fun h1 => ?_) (fun h1 => ?_)
  · have p1 := of_decide_eq_true h1; replace hk := condT_open hk h1; refine T.seq (T.region ?_); refine TL.run 1 rfl ?_; refine TL.nil (K.seq (T.ret (K.then_ret ?_))); subst hk; exact K.ret1 rfl rfl (fun w' hw => ⟨rfl, hw.isBelow⟩)
  · have p1 := of_decide_eq_false h1; replace hk := condF_open hk h1; refine T.skip (K.seq (T.seq (T.seq (T.region ?_)))); refine TL.run 1 rfl ?_; refine TL.nil (K.seq ?_); have hq := joinK_open hk; clear hk; obtain ⟨k2, hk2, hk⟩ := hq; (try dsimp only at hk); refine T.cutXK (ι := Unit) (fun z => []) (fun z => [.fr F1]) (fun z => k2 () = r) ?_ ?_
    · have hq := iterK_open hk; clear hk; obtain ⟨f3, kk3, hf3, hkk3, hk⟩ := hq; refine T.block ?_; refine T.loop (ι := Nat) (fun z => [(0, va), (1, vb), (5, .int .i64 (z : Int))]) (fun z => [.fr F1]) (fun z => iterK f3 kk3 (a.length - z) z () = r) (fun z => a.length - z) 0 ?_ ?_ ?_ ?_
      · exact hk
      · exact (.c (.c (.c .nil)))
      · exact List.Sublist.refl _
      · rintro i_4 hk; refine T.seq (T.seq (T.region ?_)); refine TL.run 2 rfl ?_; refine TL.y (Yv.lenR rfl rfl ha (List.length_map _)) ?_; refine TL.run 1 rfl ?_; refine TL.nil (K.seq ?_); refine T.cond rfl (fun h5 => ?_) (fun h5 => ?_)
        · have p5 := of_decide_eq_true h5; rw [iterK_lt (by omega)] at hk; generalize hn3 : iterK f3 kk3 (a.length - (i_4 + 1)) (i_4 + 1) = next3 at hk; rw [← hf3] at hk; (try dsimp only at hk); refine T.skip (K.seq (T.seq (T.block (T.seq ?_)))); refine T.draw (.still 0 (.still 1 (.still 2 (.still 3 (.still 4 (.still 5 (.still 6 (.still 7 (.still 8 .done))))))))) _ (by kernel_rfl) (List.Sublist.refl _) ?_; refine TS.run 2 rfl ?_; refine TS.y rfl (Yv.idxR (i := i_4) rfl rfl rfl ha (List.length_map _) rfl (by omega)) ?_; refine TS.y rfl (Yv.loadRFA 0 (i := i_4) rfl rfl rfl ha (by omega) rfl rfl rfl) ?_; refine TS.run 2 rfl ?_; refine TS.y rfl (Yv.idxR (i := i_4) rfl rfl rfl hb (List.length_map _) rfl (by omega)) ?_; refine TS.y rfl (Yv.loadRFA 0 (i := i_4) rfl rfl rfl hb (by omega) rfl rfl rfl) ?_; refine TS.y rfl (Yv.neS2 (by kernel_rfl) rfl rfl rfl) ?_; refine TS.done ?_; refine K.seq ?_; refine T.cond rfl (fun h6 => ?_) (fun h6 => ?_)
          · have p6 := h6; (try simp only [nfB] at p6); replace hk := condT_open hk h6; refine T.seq (T.region ?_); refine TL.run 1 rfl ?_; refine TL.nil (K.seq (T.ret (K.blk_ret (K.then_ret (K.then_ret (K.blk_ret (K.then_ret ?_))))))); subst hk; exact K.ret1 rfl rfl (fun w' hw => ⟨rfl, hw.isBelow⟩)
          · have p6 := h6; (try simp only [nfB] at p6); replace hk := condF_open hk h6; refine T.skip (K.blk_normal (K.seq (T.region ?_))); refine TL.run 1 rfl ?_; refine TL.y (Yv.addI rfl rfl rfl (by omega)) ?_; refine TL.run 1 rfl ?_; refine TL.nil ?_; rw [← hn3] at hk; exact K.next (i_4 + 1) hk (by omega) (.c (.c (.c .nil))) (List.Sublist.refl _)
        · have p5 := of_decide_eq_false h5; rw [iterK_ge (by omega), ← hkk3] at hk; (try dsimp only at hk); refine T.exit (K.then_exit (K.then_exit (K.blk_exit_eq ?_))); exact K.atX () hk .nil (List.Sublist.refl _)
    · rintro _ hk; rw [← hk2] at hk; (try dsimp only at hk); refine T.seq (T.region ?_); refine TL.run 1 rfl ?_; refine TL.nil (K.seq (T.ret ?_)); subst hk; exact K.ret1 rfl rfl (fun w' hw => ⟨rfl, hw.isBelow⟩)
def ref17_station_x (n : Int) : Bool :=
  ((decide (0 ≤ n)) && (decide (n ≤ 511)))
theorem ref17_station_c (F0 : Frz) (w : World) (hF0 : F0.At w) (n : Int) : Calls Tryz.prog 30 #[.int .i64 n] w fun e w' => e = .returned (.bool (ref17_station_x n)) ∧ Below w.heap.size w w' := by
  obtain ⟨r, hk⟩ : ∃ r, ref17_station_x n = r := ⟨_, rfl⟩; rw [hk]; unfold ref17_station_x at hk; obtain ⟨S0, F1, rfl, hS0, hp0⟩ := startF_ex hF0; refine calls_T (M := fun _ => False) (hs := [.fr F1]) Tryz.func30 rfl rfl rfl hp0 ?_; refine T.seq (T.region ?_); refine TL.run 1 rfl ?_; refine TL.nil (K.seq (T.seq ?_)); refine T.cutXK (ι := Unit) (fun z => [(2, .bool ((decide (0 ≤ n)) && (decide (n ≤ 511))))]) (fun z => [.fr F1]) (fun z => True) ?_ ?_
  · refine T.region ?_; refine TL.run 3 rfl ?_; refine TL.gs rfl rfl rfl (fun h1 => ?_) (fun h1 => ?_)
    · have p1 := of_decide_eq_true h1; refine TL.run 4 rfl ?_; refine TL.nil ?_; exact K.atX () trivial (.b (and_t h1) .nil) (List.Sublist.refl _)
    · have p1 := of_decide_eq_false h1; refine TL.run 4 rfl ?_; refine TL.nil ?_; exact K.atX () trivial (.b (and_ff h1).symm .nil) (List.Sublist.refl _)
  · rintro _ _; refine T.ret ?_; subst hk; exact K.ret1 rfl rfl (fun w' hw => ⟨rfl, hw.isBelow⟩)
def ref17_Has_x (l : List Int) (n : Int) : Bool :=
  joinK (fun (_ : Unit) =>
    false)
  (fun k1 =>
    iterK (fun (i_3 : Nat) (next2 : Unit → Bool) (_ : Unit) =>
      (bif decide ((nth l i_3) = n) then
        true
        else
        next2 ()))
    (fun (_ : Unit) =>
      k1 ()) (l.length - 0) 0 ())
theorem ref17_Has_c (F0 : Frz) (w : World) (hF0 : F0.At w) (l : List Int) (vl : Value) (hl : SlC F0 vl 1 (l.map eI)) (n : Int) : Calls Tryz.prog 36 #[vl, .int .i64 n] w fun e w' => e = .returned (.bool (ref17_Has_x l n)) ∧ Below w.heap.size w w' := by
  obtain ⟨r, hk⟩ : ∃ r, ref17_Has_x l n = r := ⟨_, rfl⟩; rw [hk]; unfold ref17_Has_x at hk; haveI := hl.oneC; obtain ⟨S0, F1, rfl, hS0, hp0⟩ := startF_ex hF0; refine calls_T (M := fun _ => False) (hs := [.fr F1]) Tryz.func36 rfl rfl rfl hp0 ?_; refine T.seq (T.region ?_); refine TL.run 1 rfl ?_; refine TL.nil (K.seq (T.seq (T.seq (T.region ?_)))); refine TL.run 1 rfl ?_; refine TL.nil (K.seq ?_); have hq := joinK_open hk; clear hk; obtain ⟨k1, hk1, hk⟩ := hq; (try dsimp only at hk); refine T.cutXK (ι := Unit) (fun z => []) (fun z => [.fr F1]) (fun z => k1 () = r) ?_ ?_
  · have hq := iterK_open hk; clear hk; obtain ⟨f2, kk2, hf2, hkk2, hk⟩ := hq; refine T.block ?_; refine T.loop (ι := Nat) (fun z => [(0, vl), (1, .int .i64 n), (5, .int .i64 (z : Int))]) (fun z => [.fr F1]) (fun z => iterK f2 kk2 (l.length - z) z () = r) (fun z => l.length - z) 0 ?_ ?_ ?_ ?_
    · exact hk
    · exact (.c (.c (.c .nil)))
    · exact List.Sublist.refl _
    · rintro i_3 hk; refine T.seq (T.seq (T.region ?_)); refine TL.run 2 rfl ?_; refine TL.y (Yv.lenR rfl rfl hl (List.length_map _)) ?_; have hm8 : l.length ≤ 9223372036854775807 := (List.length_map _) ▸ hl.max; refine TL.run 1 rfl ?_; refine TL.nil (K.seq ?_); refine T.cond rfl (fun h4 => ?_) (fun h4 => ?_)
      · have p4 := of_decide_eq_true h4; rw [iterK_lt (by omega)] at hk; generalize hn2 : iterK f2 kk2 (l.length - (i_3 + 1)) (i_3 + 1) = next2 at hk; rw [← hf2] at hk; (try dsimp only at hk); refine T.skip (K.seq (T.seq (T.block (T.seq (T.region ?_))))); refine TL.run 2 rfl ?_; refine TL.y (Yv.idxR (i := i_3) rfl rfl rfl hl (List.length_map _) rfl (by omega)) ?_; refine TL.y (Yv.loadRF 0 (i := i_3) (j := 0) rfl rfl rfl hl (by omega) rfl rfl) ?_; refine TL.run 2 rfl ?_; refine TL.nil (K.seq ?_); refine T.cond rfl (fun h5 => ?_) (fun h5 => ?_)
        · have p5 := of_decide_eq_true h5; replace hk := condT_open hk h5; refine T.seq (T.region ?_); refine TL.run 1 rfl ?_; refine TL.nil (K.seq (T.ret (K.blk_ret (K.then_ret (K.then_ret (K.blk_ret (K.then_ret ?_))))))); subst hk; exact K.ret1 rfl rfl (fun w' hw => ⟨rfl, hw.isBelow⟩)
        · have p5 := of_decide_eq_false h5; replace hk := condF_open hk h5; refine T.skip (K.blk_normal (K.seq (T.region ?_))); refine TL.run 1 rfl ?_; refine TL.y (Yv.addI rfl rfl rfl (by omega)) ?_; refine TL.run 1 rfl ?_; refine TL.nil ?_; rw [← hn2] at hk; exact K.next (i_3 + 1) hk (by omega) (.c (.c (.c .nil))) (List.Sublist.refl _)
      · have p4 := of_decide_eq_false h4; rw [iterK_ge (by omega), ← hkk2] at hk; (try dsimp only at hk); refine T.exit (K.then_exit (K.then_exit (K.blk_exit_eq ?_))); exact K.atX () hk .nil (List.Sublist.refl _)
  · rintro _ hk; rw [← hk1] at hk; (try dsimp only at hk); refine T.seq (T.region ?_); refine TL.run 1 rfl ?_; refine TL.nil (K.seq (T.ret ?_)); subst hk; exact K.ret1 rfl rfl (fun w' hw => ⟨rfl, hw.isBelow⟩)
def ref17_span_x (low : Int) (high : Int) : Bool :=
  (((decide (2 ≤ low)) && (decide (low ≤ high))) && (decide (high ≤ 51)))
theorem ref17_span_c (F0 : Frz) (w : World) (hF0 : F0.At w) (low : Int) (high : Int) : Calls Tryz.prog 66 #[.int .i64 low, .int .i64 high] w fun e w' => e = .returned (.bool (ref17_span_x low high)) ∧ Below w.heap.size w w' := by
  obtain ⟨r, hk⟩ : ∃ r, ref17_span_x low high = r := ⟨_, rfl⟩; rw [hk]; unfold ref17_span_x at hk; obtain ⟨S0, F1, rfl, hS0, hp0⟩ := startF_ex hF0; refine calls_T (M := fun _ => False) (hs := [.fr F1]) Tryz.func66 rfl rfl rfl hp0 ?_; refine T.seq (T.region ?_); refine TL.run 1 rfl ?_; refine TL.nil (K.seq (T.seq ?_)); refine T.cutXK (ι := Unit) (fun z => [(4, .bool (((decide (2 ≤ low)) && (decide (low ≤ high))) && (decide (high ≤ 51))))]) (fun z => [.fr F1]) (fun z => True) ?_ ?_
  · refine T.region ?_; refine TL.run 3 rfl ?_; refine TL.gs rfl rfl rfl (fun h1 => ?_) (fun h1 => ?_)
    · have p1 := of_decide_eq_true h1; refine TL.run 5 rfl ?_; refine TL.gs rfl rfl rfl (fun h2 => ?_) (fun h2 => ?_)
      · have p2 := of_decide_eq_true h2; refine TL.run 4 rfl ?_; refine TL.nil ?_; exact K.atX () trivial (.b (and_t (and_tx h1 h2)) .nil) (List.Sublist.refl _)
      · have p2 := of_decide_eq_false h2; refine TL.run 4 rfl ?_; refine TL.nil ?_; exact K.atX () trivial (.b (and_ff (and_tx h1 h2)).symm .nil) (List.Sublist.refl _)
    · have p1 := of_decide_eq_false h1; refine TL.run 9 rfl ?_; refine TL.nil ?_; exact K.atX () trivial (.b (and_ff (and_ff h1)).symm .nil) (List.Sublist.refl _)
  · rintro _ _; refine T.ret ?_; subst hk; exact K.ret1 rfl rfl (fun w' hw => ⟨rfl, hw.isBelow⟩)
def ref17_Less_x (a : List Int) (b : List Int) : Option Bool :=
  joinK (fun (_ : Unit) =>
    some false)
  (fun k1 =>
    iterK (fun (i_3 : Nat) (next2 : Unit → Option Bool) (_ : Unit) =>
      grd (0 ≤ (i_3 : Int) ∧ (i_3 : Int) < (b.length : Int)) <|
      (bif decide (¬ (nth a i_3) = (nth b i_3)) then
        some (decide ((nth a i_3) < (nth b i_3)))
        else
        next2 ()))
    (fun (_ : Unit) =>
      k1 ()) (a.length - 0) 0 ())
theorem ref17_Less_c (F0 : Frz) (w : World) (hF0 : F0.At w) (a : List Int) (va : Value) (ha : SlC F0 va 1 (a.map eI)) (b : List Int) (vb : Value) (hb : SlC F0 vb 1 (b.map eI)) (r : Bool) (hr : ref17_Less_x a b = some r) : Calls Tryz.prog 67 #[va, vb] w fun e w' => e = .returned (.bool r) ∧ Below w.heap.size w w' := by
  have hk := hr; unfold ref17_Less_x at hk; haveI := ha.oneC; haveI := hb.oneC; obtain ⟨S0, F1, rfl, hS0, hp0⟩ := startF_ex hF0; refine calls_T (M := fun _ => False) (hs := [.fr F1]) Tryz.func67 rfl rfl rfl hp0 ?_; refine T.seq (T.region ?_); refine TL.run 1 rfl ?_; refine TL.nil (K.seq (T.seq (T.seq (T.region ?_)))); refine TL.run 1 rfl ?_; refine TL.nil (K.seq ?_); have hq := joinK_open hk; clear hk; obtain ⟨k1, hk1, hk⟩ := hq; (try dsimp only at hk); refine T.cutXK (ι := Unit) (fun z => []) (fun z => [.fr F1]) (fun z => k1 () = some r) ?_ ?_
  · have hq := iterK_open hk; clear hk; obtain ⟨f2, kk2, hf2, hkk2, hk⟩ := hq; refine T.block ?_; refine T.loop (ι := Nat) (fun z => [(0, va), (1, vb), (5, .int .i64 (z : Int))]) (fun z => [.fr F1]) (fun z => iterK f2 kk2 (a.length - z) z () = some r) (fun z => a.length - z) 0 ?_ ?_ ?_ ?_
    · exact hk
    · exact (.c (.c (.c .nil)))
    · exact List.Sublist.refl _
    · rintro i_3 hk; refine T.seq (T.seq (T.region ?_)); refine TL.run 2 rfl ?_; refine TL.y (Yv.lenR rfl rfl ha (List.length_map _)) ?_; have hm8 : a.length ≤ 9223372036854775807 := (List.length_map _) ▸ ha.max; refine TL.run 1 rfl ?_; refine TL.nil (K.seq ?_); refine T.cond rfl (fun h4 => ?_) (fun h4 => ?_)
      · have p4 := of_decide_eq_true h4; rw [iterK_lt (by omega)] at hk; generalize hn2 : iterK f2 kk2 (a.length - (i_3 + 1)) (i_3 + 1) = next2 at hk; rw [← hf2] at hk; (try dsimp only at hk); refine T.skip (K.seq (T.seq (T.block (T.seq ?_)))); have hq : (0 ≤ (i_3 : Int) ∧ (i_3 : Int) < (b.length : Int)) ∧ _ := grd_some hk; clear hk; obtain ⟨g18, hk⟩ := hq; (try dsimp only at hk); refine T.draw (.still 0 (.still 1 (.still 2 (.still 3 (.still 4 (.still 5 (.still 6 (.still 7 (.still 8 .done))))))))) _ (by kernel_rfl) (List.Sublist.refl _) ?_; refine TS.run 2 rfl ?_; refine TS.y rfl (Yv.idxR (i := i_3) rfl rfl rfl ha (List.length_map _) rfl (by omega)) ?_; refine TS.y rfl (Yv.loadRF 0 (i := i_3) (j := 0) rfl rfl rfl ha (by omega) rfl rfl) ?_; refine TS.run 2 rfl ?_; refine TS.y rfl (Yv.idxR (i := i_3) rfl rfl rfl hb (List.length_map _) rfl (by omega)) ?_; refine TS.y rfl (Yv.loadRF 0 (i := i_3) (j := 0) rfl rfl rfl hb (by omega) rfl rfl) ?_; refine TS.run 1 rfl ?_; refine TS.done ?_; refine K.seq ?_; refine T.cond rfl (fun h5 => ?_) (fun h5 => ?_)
        · have p5 := of_decide_eq_true h5; replace hk := condT_open hk h5; refine T.seq ?_; refine T.draw (.still 0 (.still 1 (.still 2 (.still 3 (.still 4 (.still 5 (.still 6 (.still 7 (.still 8 (.still 9 .done)))))))))) _ (by kernel_rfl) (List.Sublist.refl _) ?_; refine TS.run 2 rfl ?_; refine TS.y rfl (Yv.idxR (i := i_3) rfl rfl rfl ha (List.length_map _) rfl (by omega)) ?_; refine TS.y rfl (Yv.loadRF 0 (i := i_3) (j := 0) rfl rfl rfl ha (by omega) rfl rfl) ?_; refine TS.run 2 rfl ?_; refine TS.y rfl (Yv.idxR (i := i_3) rfl rfl rfl hb (List.length_map _) rfl (by omega)) ?_; refine TS.y rfl (Yv.loadRF 0 (i := i_3) (j := 0) rfl rfl rfl hb (by omega) rfl rfl) ?_; refine TS.run 2 rfl ?_; refine TS.done ?_; refine K.seq (T.ret (K.blk_ret (K.then_ret (K.then_ret (K.blk_ret (K.then_ret ?_)))))); obtain rfl := Option.some.inj hk; exact K.ret1 rfl rfl (fun w' hw => ⟨rfl, hw.isBelow⟩)
        · have p5 := of_decide_eq_false h5; replace hk := condF_open hk h5; refine T.skip (K.blk_normal (K.seq (T.region ?_))); refine TL.run 1 rfl ?_; refine TL.y (Yv.addI rfl rfl rfl (by omega)) ?_; refine TL.run 1 rfl ?_; refine TL.nil ?_; rw [← hn2] at hk; exact K.next (i_3 + 1) hk (by omega) (.c (.c (.c .nil))) (List.Sublist.refl _)
      · have p4 := of_decide_eq_false h4; rw [iterK_ge (by omega), ← hkk2] at hk; (try dsimp only at hk); refine T.exit (K.then_exit (K.then_exit (K.blk_exit_eq ?_))); exact K.atX () hk .nil (List.Sublist.refl _)
  · rintro _ hk; rw [← hk1] at hk; (try dsimp only at hk); refine T.seq (T.region ?_); refine TL.run 1 rfl ?_; refine TL.nil (K.seq (T.ret ?_)); obtain rfl := Option.some.inj hk; exact K.ret1 rfl rfl (fun w' hw => ⟨rfl, hw.isBelow⟩)
def ref17_PairOf_x (x_ : GPair) : List Int :=
  [x_.A, x_.B, x_.Offset, x_.Low, x_.High]
theorem ref17_PairOf_c (F0 : Frz) (w : World) (hF0 : F0.At w) (x_ : GPair) : Calls Tryz.prog 68 #[.agg [.int .i64 x_.A, .int .i64 x_.B, .int .i64 x_.Offset, .int .i64 x_.Low, .int .i64 x_.High].toArray] w fun e w' => ∃ (y : Value) (G : Frz), (SlC G y 1 ((ref17_PairOf_x x_).map eI)) ∧ e = .returned (y) ∧ Fx F0 w G w' := by
  obtain ⟨r, hk⟩ : ∃ r, ref17_PairOf_x x_ = r := ⟨_, rfl⟩; rw [hk]; unfold ref17_PairOf_x at hk; obtain ⟨S0, F1, rfl, hS0, hp0⟩ := startF_ex hF0; refine calls_T (M := fun _ => False) (hs := [.fr F1]) Tryz.func68 rfl rfl rfl hp0 ?_; refine T.seq (T.region ?_); refine TL.e (Ew.boxA rfl rfl) ?_; rintro _ _ ⟨g1, rfl, rfl⟩; refine TL.run 1 rfl ?_; refine TL.nil (K.seq (T.seq (T.region ?_))); refine TL.y (Yv.fieldAddr rfl rfl) ?_; refine TL.y (Yv.loadO 0 rfl rfl rfl rfl) ?_; refine TL.y (Yv.fieldAddr rfl rfl) ?_; refine TL.y (Yv.loadO 0 rfl rfl rfl rfl) ?_; refine TL.y (Yv.fieldAddr rfl rfl) ?_; refine TL.y (Yv.loadO 0 rfl rfl rfl rfl) ?_; refine TL.y (Yv.fieldAddr rfl rfl) ?_; refine TL.y (Yv.loadO 0 rfl rfl rfl rfl) ?_; refine TL.y (Yv.fieldAddr rfl rfl) ?_; refine TL.y (Yv.loadO 0 rfl rfl rfl rfl) ?_; refine TL.e (Ew.buildSlice rfl rfl rfl (by decide)) ?_; rintro _ _ ⟨g13, rfl, rfl⟩; refine TL.run 1 rfl ?_; refine TL.nil (K.seq (T.ret ?_)); refine K.exH (fun w hw => hw.freezeR (i := 2) (j := 0) (by decide) rfl rfl) ?_; rintro F2 ⟨le1_2, hz2⟩; dsimp only [List.set, List.eraseIdx]; have hf2 : SlC F2.toFrz (.slice (some ⟨g13, 0, none⟩) 5 5) 1 ([x_.A, x_.B, x_.Offset, x_.Low, x_.High].map eI) := (SlK.lit hz2 rfl (Nat.le_refl _) (by decide)).toF (xs := [x_.A, x_.B, x_.Offset, x_.Low, x_.High]) rfl (fun _ => rfl); subst hk; exact K.ret1 rfl rfl (fun w' hw => ⟨(.slice (some ⟨g13, 0, none⟩) 5 5), F2.toFrz, hf2, rfl, Fx.of hw (i := 1) rfl hS0 le1_2⟩)
def ref17_LoadOf_x (x_ : GLoad) : List Int :=
  [x_.To, x_.From, x_.Weight, x_.Low, x_.High]
theorem ref17_LoadOf_c (F0 : Frz) (w : World) (hF0 : F0.At w) (x_ : GLoad) : Calls Tryz.prog 69 #[.agg [.int .i64 x_.To, .int .i64 x_.From, .int .i64 x_.Weight, .int .i64 x_.Low, .int .i64 x_.High].toArray] w fun e w' => ∃ (y : Value) (G : Frz), (SlC G y 1 ((ref17_LoadOf_x x_).map eI)) ∧ e = .returned (y) ∧ Fx F0 w G w' := by
  obtain ⟨r, hk⟩ : ∃ r, ref17_LoadOf_x x_ = r := ⟨_, rfl⟩; rw [hk]; unfold ref17_LoadOf_x at hk; obtain ⟨S0, F1, rfl, hS0, hp0⟩ := startF_ex hF0; refine calls_T (M := fun _ => False) (hs := [.fr F1]) Tryz.func69 rfl rfl rfl hp0 ?_; refine T.seq (T.region ?_); refine TL.e (Ew.boxA rfl rfl) ?_; rintro _ _ ⟨g1, rfl, rfl⟩; refine TL.run 1 rfl ?_; refine TL.nil (K.seq (T.seq (T.region ?_))); refine TL.y (Yv.fieldAddr rfl rfl) ?_; refine TL.y (Yv.loadO 0 rfl rfl rfl rfl) ?_; refine TL.y (Yv.fieldAddr rfl rfl) ?_; refine TL.y (Yv.loadO 0 rfl rfl rfl rfl) ?_; refine TL.y (Yv.fieldAddr rfl rfl) ?_; refine TL.y (Yv.loadO 0 rfl rfl rfl rfl) ?_; refine TL.y (Yv.fieldAddr rfl rfl) ?_; refine TL.y (Yv.loadO 0 rfl rfl rfl rfl) ?_; refine TL.y (Yv.fieldAddr rfl rfl) ?_; refine TL.y (Yv.loadO 0 rfl rfl rfl rfl) ?_; refine TL.e (Ew.buildSlice rfl rfl rfl (by decide)) ?_; rintro _ _ ⟨g13, rfl, rfl⟩; refine TL.run 1 rfl ?_; refine TL.nil (K.seq (T.ret ?_)); refine K.exH (fun w hw => hw.freezeR (i := 2) (j := 0) (by decide) rfl rfl) ?_; rintro F2 ⟨le1_2, hz2⟩; dsimp only [List.set, List.eraseIdx]; have hf2 : SlC F2.toFrz (.slice (some ⟨g13, 0, none⟩) 5 5) 1 ([x_.To, x_.From, x_.Weight, x_.Low, x_.High].map eI) := (SlK.lit hz2 rfl (Nat.le_refl _) (by decide)).toF (xs := [x_.To, x_.From, x_.Weight, x_.Low, x_.High]) rfl (fun _ => rfl); subst hk; exact K.ret1 rfl rfl (fun w' hw => ⟨(.slice (some ⟨g13, 0, none⟩) 5 5), F2.toFrz, hf2, rfl, Fx.of hw (i := 1) rfl hS0 le1_2⟩)
def ref17_CapOf_x (x_ : GCap) : List Int :=
  [x_.Station, x_.Max, x_.Low, x_.High]
theorem ref17_CapOf_c (F0 : Frz) (w : World) (hF0 : F0.At w) (x_ : GCap) : Calls Tryz.prog 70 #[.agg [.int .i64 x_.Station, .int .i64 x_.Max, .int .i64 x_.Low, .int .i64 x_.High].toArray] w fun e w' => ∃ (y : Value) (G : Frz), (SlC G y 1 ((ref17_CapOf_x x_).map eI)) ∧ e = .returned (y) ∧ Fx F0 w G w' := by
  obtain ⟨r, hk⟩ : ∃ r, ref17_CapOf_x x_ = r := ⟨_, rfl⟩; rw [hk]; unfold ref17_CapOf_x at hk; obtain ⟨S0, F1, rfl, hS0, hp0⟩ := startF_ex hF0; refine calls_T (M := fun _ => False) (hs := [.fr F1]) Tryz.func70 rfl rfl rfl hp0 ?_; refine T.seq (T.region ?_); refine TL.e (Ew.boxA rfl rfl) ?_; rintro _ _ ⟨g1, rfl, rfl⟩; refine TL.run 1 rfl ?_; refine TL.nil (K.seq (T.seq (T.region ?_))); refine TL.y (Yv.fieldAddr rfl rfl) ?_; refine TL.y (Yv.loadO 0 rfl rfl rfl rfl) ?_; refine TL.y (Yv.fieldAddr rfl rfl) ?_; refine TL.y (Yv.loadO 0 rfl rfl rfl rfl) ?_; refine TL.y (Yv.fieldAddr rfl rfl) ?_; refine TL.y (Yv.loadO 0 rfl rfl rfl rfl) ?_; refine TL.y (Yv.fieldAddr rfl rfl) ?_; refine TL.y (Yv.loadO 0 rfl rfl rfl rfl) ?_; refine TL.e (Ew.buildSlice rfl rfl rfl (by decide)) ?_; rintro _ _ ⟨g11, rfl, rfl⟩; refine TL.run 1 rfl ?_; refine TL.nil (K.seq (T.ret ?_)); refine K.exH (fun w hw => hw.freezeR (i := 2) (j := 0) (by decide) rfl rfl) ?_; rintro F2 ⟨le1_2, hz2⟩; dsimp only [List.set, List.eraseIdx]; have hf2 : SlC F2.toFrz (.slice (some ⟨g11, 0, none⟩) 4 4) 1 ([x_.Station, x_.Max, x_.Low, x_.High].map eI) := (SlK.lit hz2 rfl (Nat.le_refl _) (by decide)).toF (xs := [x_.Station, x_.Max, x_.Low, x_.High]) rfl (fun _ => rfl); subst hk; exact K.ret1 rfl rfl (fun w' hw => ⟨(.slice (some ⟨g11, 0, none⟩) 4 4), F2.toFrz, hf2, rfl, Fx.of hw (i := 1) rfl hS0 le1_2⟩)
def ref17_ValidList_x (l : List GChoice) : Bool :=
  joinK (fun (_ : Unit) =>
    true)
  (fun k1 =>
    iterK (fun (i_3 : Nat) (next2 : Unit → Bool) (_ : Unit) =>
      (bif ((((!(ref17_station_x ((nth l i_3).Station))) || (decide ((nth l i_3).Channel < 2))) || (decide (51 < (nth l i_3).Channel))) || ((decide (0 < (i_3 : Int))) && (decide ((nth l i_3).Station ≤ (nth l (((i_3 : Int) - 1).toNat)).Station)))) then
        false
        else
        next2 ()))
    (fun (_ : Unit) =>
      k1 ()) (l.length - 0) 0 ())
theorem ref17_ValidList_c (F0 : Frz) (w : World) (hF0 : F0.At w) (l : List GChoice) (vl : Value) (hl : SlC F0 vl 2 (l.map GChoice.enc)) : Calls Tryz.prog 75 #[vl] w fun e w' => e = .returned (.bool (ref17_ValidList_x l)) ∧ Below w.heap.size w w' := by
  obtain ⟨r, hk⟩ : ∃ r, ref17_ValidList_x l = r := ⟨_, rfl⟩; rw [hk]; unfold ref17_ValidList_x at hk; haveI := hl.oneC; obtain ⟨S0, F1, rfl, hS0, hp0⟩ := startF_ex hF0; refine calls_T (M := fun _ => False) (hs := [.fr F1]) Tryz.func75 rfl rfl rfl hp0 ?_; refine T.seq (T.region ?_); refine TL.run 1 rfl ?_; refine TL.nil (K.seq (T.seq (T.seq (T.region ?_)))); refine TL.run 1 rfl ?_; refine TL.nil (K.seq ?_); have hq := joinK_open hk; clear hk; obtain ⟨k1, hk1, hk⟩ := hq; (try dsimp only at hk); refine T.cutXK (ι := Unit) (fun z => []) (fun z => [.fr F1]) (fun z => k1 () = r) ?_ ?_
  · have hq := iterK_open hk; clear hk; obtain ⟨f2, kk2, hf2, hkk2, hk⟩ := hq; refine T.block ?_; refine T.loop (ι := Nat) (fun z => [(0, vl), (3, .int .i64 (z : Int))]) (fun z => [.fr F1]) (fun z => iterK f2 kk2 (l.length - z) z () = r) (fun z => l.length - z) 0 ?_ ?_ ?_ ?_
    · exact hk
    · exact (.c (.c .nil))
    · exact List.Sublist.refl _
    · rintro i_3 hk; refine T.seq (T.seq (T.region ?_)); refine TL.run 2 rfl ?_; refine TL.y (Yv.lenR rfl rfl hl (List.length_map _)) ?_; have hm6 : l.length ≤ 9223372036854775807 := (List.length_map _) ▸ hl.max; refine TL.run 1 rfl ?_; refine TL.nil (K.seq ?_); refine T.cond rfl (fun h4 => ?_) (fun h4 => ?_)
      · have p4 := of_decide_eq_true h4; rw [iterK_lt (by omega)] at hk; generalize hn2 : iterK f2 kk2 (l.length - (i_3 + 1)) (i_3 + 1) = next2 at hk; rw [← hf2] at hk; (try dsimp only at hk); refine T.skip (K.seq (T.seq (T.block (T.seq ?_)))); refine T.cutXK (ι := Unit) (fun z => [(0, vl), (3, .int .i64 (i_3 : Int)), (50, .bool ((((!(ref17_station_x ((nth l i_3).Station))) || (decide ((nth l i_3).Channel < 2))) || (decide (51 < (nth l i_3).Channel))) || ((decide (0 < (i_3 : Int))) && (decide ((nth l i_3).Station ≤ (nth l (((i_3 : Int) - 1).toNat)).Station)))))]) (fun z => [.fr F1]) (fun z => True) ?_ ?_
        · refine T.draw (.still 0 (.still 1 (.still 2 (.still 3 (.still 4 (.eff 5 (.still 6 (.still 7 (.still 8 (.still 9 (.still 10 (.still 11 (.still 12 (.still 13 (.still 14 (.still 15 (.still 16 (.still 17 (.still 18 (.still 19 (.still 20 (.still 21 (.still 22 (.still 23 (.still 24 (.still 25 (.still 26 (.still 27 (.still 28 (.still 29 (.still 30 (.still 31 (.still 32 (.still 33 (.still 34 (.still 35 (.still 36 (.still 37 (.still 38 (.still 39 (.still 40 .done))))))))))))))))))))))))))))))))))))))))) _ (by kernel_rfl) (List.Sublist.refl _) ?_; refine TS.run 2 rfl ?_; refine TS.y rfl (Yv.idxR (i := i_3) rfl rfl rfl hl (List.length_map _) rfl (by omega)) ?_; refine TS.y rfl (Yv.fldR rfl rfl hl (List.length_map _) (by omega)) ?_; refine TS.y rfl (Yv.loadRF 0 (i := i_3) (j := 0) rfl rfl rfl hl (by omega) rfl rfl) ?_; refine TS.eff ?_; refine TSo.ewG rfl (Wt.none rfl) rfl rfl (Ew.callD rfl rfl rfl (fun w hw => ref17_station_c _ w (hw.fr (i := 0) rfl) ((nth l i_3).Station))) ?_; rintro _ _ ⟨rfl, rfl⟩; refine ⟨(fun w hw => hw.sub (by repeat first | exact S0 | exact S1 | refine S2 ?_ | refine S3 ?_)), ?_⟩; refine TS.run 2 rfl ?_; refine TS.gs rfl rfl rfl rfl (fun h5 => ?_) (fun h5 => ?_)
          · have p5 := h5; (try simp only [nfB] at p5); refine TS.run 33 rfl ?_; refine TS.done ?_; exact K.atX () trivial (.c (.c (.b (or_tt (or_tt (or_tt h5))).symm .nil))) (List.Sublist.refl _)
          · have p5 := h5; (try simp only [nfB] at p5); refine TS.run 2 rfl ?_; refine TS.y rfl (Yv.idxR (i := i_3) rfl rfl rfl hl (List.length_map _) rfl (by omega)) ?_; refine TS.y rfl (Yv.fldR rfl rfl hl (List.length_map _) (by omega)) ?_; refine TS.y rfl (Yv.loadRF 0 (i := i_3) (j := 1) rfl rfl rfl hl (by omega) rfl rfl) ?_; refine TS.run 3 rfl ?_; refine TS.gs rfl rfl rfl rfl (fun h6 => ?_) (fun h6 => ?_)
            · have p6 := of_decide_eq_true h6; refine TS.run 25 rfl ?_; refine TS.done ?_; exact K.atX () trivial (.c (.c (.b (or_tt (or_tt (or_fx h5 h6))).symm .nil))) (List.Sublist.refl _)
            · have p6 := of_decide_eq_false h6; refine TS.run 2 rfl ?_; refine TS.y rfl (Yv.idxR (i := i_3) rfl rfl rfl hl (List.length_map _) rfl (by omega)) ?_; refine TS.y rfl (Yv.fldR rfl rfl hl (List.length_map _) (by omega)) ?_; refine TS.y rfl (Yv.loadRF 0 (i := i_3) (j := 1) rfl rfl rfl hl (by omega) rfl rfl) ?_; refine TS.run 3 rfl ?_; refine TS.gs rfl rfl rfl rfl (fun h7 => ?_) (fun h7 => ?_)
              · have p7 := of_decide_eq_true h7; refine TS.run 17 rfl ?_; refine TS.done ?_; exact K.atX () trivial (.c (.c (.b (or_tt (or_fx (or_fx h5 h6) h7)).symm .nil))) (List.Sublist.refl _)
              · have p7 := of_decide_eq_false h7; refine TS.run 3 rfl ?_; refine TS.gs rfl rfl rfl rfl (fun h8 => ?_) (fun h8 => ?_)
                · have p8 := of_decide_eq_true h8; refine TS.run 2 rfl ?_; refine TS.y rfl (Yv.subI rfl rfl rfl (by omega)) ?_; refine TS.y rfl (Yv.idxR (i := ((i_3 : Int) - 1).toNat) rfl rfl rfl hl (List.length_map _) (by omega) (by omega)) ?_; refine TS.y rfl (Yv.fldR rfl rfl hl (List.length_map _) (by omega)) ?_; refine TS.y rfl (Yv.loadRF 0 (i := ((i_3 : Int) - 1).toNat) (j := 0) rfl rfl rfl hl (by omega) rfl rfl) ?_; refine TS.run 2 rfl ?_; refine TS.y rfl (Yv.idxR (i := i_3) rfl rfl rfl hl (List.length_map _) rfl (by omega)) ?_; refine TS.y rfl (Yv.fldR rfl rfl hl (List.length_map _) (by omega)) ?_; refine TS.y rfl (Yv.loadRF 0 (i := i_3) (j := 0) rfl rfl rfl hl (by omega) rfl rfl) ?_; refine TS.run 3 rfl ?_; refine TS.done ?_; exact K.atX () trivial (.c (.c (.b (Eq.trans (and_t h8) (or_f (or_fx (or_fx h5 h6) h7))) .nil))) (List.Sublist.refl _)
                · have p8 := of_decide_eq_false h8; refine TS.run 14 rfl ?_; refine TS.done ?_; exact K.atX () trivial (.c (.c (.b (or_fx (or_fx (or_fx h5 h6) h7) (and_ff h8)).symm .nil))) (List.Sublist.refl _)
        · rintro _ _; refine T.cond rfl (fun h9 => ?_) (fun h9 => ?_)
          · have p9 := h9; (try simp only [nfB] at p9); replace hk := condT_open hk h9; refine T.seq (T.region ?_); refine TL.run 1 rfl ?_; refine TL.nil (K.seq (T.ret (K.blk_ret (K.then_ret (K.then_ret (K.blk_ret (K.then_ret ?_))))))); subst hk; exact K.ret1 rfl rfl (fun w' hw => ⟨rfl, hw.isBelow⟩)
          · have p9 := h9; (try simp only [nfB] at p9); replace hk := condF_open hk h9; refine T.skip (K.blk_normal (K.seq (T.region ?_))); refine TL.run 1 rfl ?_; refine TL.y (Yv.addI rfl rfl rfl (by omega)) ?_; refine TL.run 1 rfl ?_; refine TL.nil ?_; rw [← hn2] at hk; exact K.next (i_3 + 1) hk (by omega) (.c (.c .nil)) (List.Sublist.refl _)
      · have p4 := of_decide_eq_false h4; rw [iterK_ge (by omega), ← hkk2] at hk; (try dsimp only at hk); refine T.exit (K.then_exit (K.then_exit (K.blk_exit_eq ?_))); exact K.atX () hk .nil (List.Sublist.refl _)
  · rintro _ hk; rw [← hk1] at hk; (try dsimp only at hk); refine T.seq (T.region ?_); refine TL.run 1 rfl ?_; refine TL.nil (K.seq (T.ret ?_)); subst hk; exact K.ret1 rfl rfl (fun w' hw => ⟨rfl, hw.isBelow⟩)
end Go.Proofs.YtljgejbmimapdaaGreatDoor
