/- Ye Sh Ks Bt: shortened and put together by squeeze.py. -/
import Derived.Test.YtnhdlloidbomdaaGreatQ05
import Derived.Shelf.Small.Bits
import Derived.Shelf.Small.Wraps
import Derived.Shelf.Sort.Plain
import Derived.Ground.Names2Prog
import Derived.Shelf.Slices.CompactI
import Derived.Shelf.Slices.In.SortNone
import Derived.Test.YtnhdlloidbomdaaGreatProg
import Derived.Sort.OwnSortedInts
import Derived.Lib.SlicesCompact
set_option maxRecDepth 100000
set_option maxHeartbeats 4000000
set_option linter.unusedVariables false
set_option linter.unusedSectionVars false
set_option linter.unusedSimpArgs false
namespace Go.Proofs.YtnhdlloidbomdaaGreat
open Go.RowKit
def zbf (state : BitVec 64) : BitVec 64 × BitVec 64 :=
  ((state + (11400714819323198485#64)), ((((((state + (11400714819323198485#64)) ^^^ ((state + (11400714819323198485#64)) >>> 30)) * (13787848793156543929#64)) ^^^ ((((state + (11400714819323198485#64)) ^^^ ((state + (11400714819323198485#64)) >>> 30)) * (13787848793156543929#64)) >>> 27)) * (10723151780598845931#64)) ^^^ ((((((state + (11400714819323198485#64)) ^^^ ((state + (11400714819323198485#64)) >>> 30)) * (13787848793156543929#64)) ^^^ ((((state + (11400714819323198485#64)) ^^^ ((state + (11400714819323198485#64)) >>> 30)) * (13787848793156543929#64)) >>> 27)) * (10723151780598845931#64)) >>> 31)))
theorem zgg (F0 : Frz) (w : World) (hF0 : F0.At w) (state : BitVec 64) : Calls Tryz.prog 81 #[U state] w fun e w' => e = .returned (.tuple #[U ((zbf state).1), U ((zbf state).2)]) ∧ Below w.heap.size w w' := by
  obtain ⟨r, hk⟩ : ∃ r, zbf state = r := ⟨_, rfl⟩; rw [hk]; unfold zbf at hk; obtain ⟨S0, F1, rfl, hS0, hp0⟩ := zam hF0; refine zar Tryz.func81 rfl rfl rfl hp0 ?_; refine T.sr ?_; refine TL.run 2 rfl ?_; refine TL.nx ?_; refine TL.run 1 rfl ?_; refine TL.y (Yv.bt (a := state) (b := 11400714819323198485#64) rfl rfl rfl) ?_; refine TL.run 1 rfl ?_; refine TL.nx ?_; refine TL.run 2 rfl ?_; refine TL.nx ?_; refine TL.run 2 rfl ?_; refine TL.y (Yv.aU (a := (state + (11400714819323198485#64))) 30 rfl rfl rfl (show (30 : Int) = ((30 : Nat) : Int) from rfl) (by omega)) ?_; refine TL.y (Yv.aW (a := (state + (11400714819323198485#64))) (b := ((state + (11400714819323198485#64)) >>> 30)) rfl rfl rfl) ?_; refine TL.y (Yv.bj (a := ((state + (11400714819323198485#64)) ^^^ ((state + (11400714819323198485#64)) >>> 30))) (b := 13787848793156543929#64) rfl rfl rfl) ?_; refine TL.run 1 rfl ?_; refine TL.nx ?_; refine TL.run 2 rfl ?_; refine TL.y (Yv.aU (a := (((state + (11400714819323198485#64)) ^^^ ((state + (11400714819323198485#64)) >>> 30)) * (13787848793156543929#64))) 27 rfl rfl rfl (show (27 : Int) = ((27 : Nat) : Int) from rfl) (by omega)) ?_; refine TL.y (Yv.aW (a := (((state + (11400714819323198485#64)) ^^^ ((state + (11400714819323198485#64)) >>> 30)) * (13787848793156543929#64))) (b := ((((state + (11400714819323198485#64)) ^^^ ((state + (11400714819323198485#64)) >>> 30)) * (13787848793156543929#64)) >>> 27)) rfl rfl rfl) ?_; refine TL.y (Yv.bj (a := ((((state + (11400714819323198485#64)) ^^^ ((state + (11400714819323198485#64)) >>> 30)) * (13787848793156543929#64)) ^^^ ((((state + (11400714819323198485#64)) ^^^ ((state + (11400714819323198485#64)) >>> 30)) * (13787848793156543929#64)) >>> 27))) (b := 10723151780598845931#64) rfl rfl rfl) ?_; refine TL.run 1 rfl ?_; refine TL.nx ?_; refine TL.run 3 rfl ?_; refine TL.y (Yv.aU (a := (((((state + (11400714819323198485#64)) ^^^ ((state + (11400714819323198485#64)) >>> 30)) * (13787848793156543929#64)) ^^^ ((((state + (11400714819323198485#64)) ^^^ ((state + (11400714819323198485#64)) >>> 30)) * (13787848793156543929#64)) >>> 27)) * (10723151780598845931#64))) 31 rfl rfl rfl (show (31 : Int) = ((31 : Nat) : Int) from rfl) (by omega)) ?_; refine TL.y (Yv.aW (a := (((((state + (11400714819323198485#64)) ^^^ ((state + (11400714819323198485#64)) >>> 30)) * (13787848793156543929#64)) ^^^ ((((state + (11400714819323198485#64)) ^^^ ((state + (11400714819323198485#64)) >>> 30)) * (13787848793156543929#64)) >>> 27)) * (10723151780598845931#64))) (b := ((((((state + (11400714819323198485#64)) ^^^ ((state + (11400714819323198485#64)) >>> 30)) * (13787848793156543929#64)) ^^^ ((((state + (11400714819323198485#64)) ^^^ ((state + (11400714819323198485#64)) >>> 30)) * (13787848793156543929#64)) >>> 27)) * (10723151780598845931#64)) >>> 31)) rfl rfl rfl) ?_; refine TL.run 2 rfl ?_; refine TL.ns (T.ret ?_); subst hk; exact K.aD rfl rfl rfl (fun w' hw => ⟨rfl, hw.isBelow⟩)
def zb3 (fuel : Nat) (state : BitVec 64) (limit : Int) : Option (BitVec 64 × Int) :=
  grd (¬ (BitVec.ofInt 64 limit) = 0#64) <|
  grd (¬ (BitVec.ofInt 64 limit) = 0#64) <|
  zbx (fun (next2 : BitVec 64 → Option (BitVec 64 × Int)) (state_1 : BitVec 64) =>
    (bif decide ((((zbf state_1).2).toNat : Int) ≤ (((18446744073709551615#64) - ((((18446744073709551615#64) % (BitVec.ofInt 64 limit)) + (1#64)) % (BitVec.ofInt 64 limit))).toNat : Int)) then
      grd (¬ (BitVec.ofInt 64 limit) = 0#64) <|
      some ((zbf state_1).1, (wI ((((zbf state_1).2) % (BitVec.ofInt 64 limit)).toNat : Int)))
      else
      next2 ((zbf state_1).1))) fuel state
theorem zeh (F0 : Frz) (w : World) (hF0 : F0.At w) (state : BitVec 64) (limit : Int) (fuel : Nat) (r : BitVec 64 × Int) (hr : zb3 fuel state limit = some r) : Calls Tryz.prog 47 #[U state, .int .i64 limit] w fun e w' => e = .returned (.tuple #[U r.1, .int .i64 r.2]) ∧ Below w.heap.size w w' := by
  have hk := hr; unfold zb3 at hk; obtain ⟨S0, F1, rfl, hS0, hp0⟩ := zam hF0; refine zar Tryz.func47 rfl rfl rfl hp0 ?_; refine T.sr ?_; refine TL.run 2 rfl ?_; refine TL.nx ?_; refine TL.run 1 rfl ?_; refine TL.y (Yv.aR (z := limit) rfl rfl) ?_; refine TL.run 1 rfl ?_; refine TL.ns (T.seq ?_); have hq : (¬ (BitVec.ofInt 64 limit) = 0#64) ∧ _ := zap hk; clear hk; obtain ⟨g13, hk⟩ := hq; have hq : (¬ (BitVec.ofInt 64 limit) = 0#64) ∧ _ := zap hk; clear hk; obtain ⟨g16, hk⟩ := hq; (try dsimp only at hk); refine T.region ?_; refine TL.run 1 rfl ?_; refine TL.y (Yv.bd (a := 18446744073709551615#64) (b := (BitVec.ofInt 64 limit)) rfl rfl rfl g13) ?_; refine TL.y (Yv.bt (a := ((18446744073709551615#64) % (BitVec.ofInt 64 limit))) (b := 1#64) rfl rfl rfl) ?_; refine TL.run 1 rfl ?_; refine TL.y (Yv.bd (a := (((18446744073709551615#64) % (BitVec.ofInt 64 limit)) + (1#64))) (b := (BitVec.ofInt 64 limit)) rfl rfl rfl g16) ?_; refine TL.run 1 rfl ?_; refine TL.ns ?_; have hq := zcu hk; clear hk; obtain ⟨f2, hf2, hk⟩ := hq; refine T.block ?_; refine T.loop (ι := Nat × BitVec 64) (fun z => [(0, U z.2), (6, U (BitVec.ofInt 64 limit)), (7, U ((((18446744073709551615#64) % (BitVec.ofInt 64 limit)) + (1#64)) % (BitVec.ofInt 64 limit)))]) (fun z => [.fr F1]) (fun z => zbx f2 z.1 z.2 = some r) (fun z => z.1) (fuel, state) ?_ ?_ ?_ ?_
  · exact hk
  · exact (.c (.c (.c .nil)))
  · exact List.Sublist.refl _
  · rintro ⟨m_3, state_1⟩ hk; (try dsimp only at *); have hq := zcQ hk; clear hk; obtain ⟨m_3', rfl, hk⟩ := hq; generalize hn2 : zbx f2 m_3' = next2 at hk; rw [← hf2] at hk; (try dsimp only at hk); refine T.block (T.sr ?_); refine TL.run 1 rfl ?_; refine TL.e (Ew.ah rfl rfl rfl (fun w hw => zgg _ w (hw.fr (i := 0) rfl) state_1)) ?_; rintro _ _ ⟨rfl, rfl⟩; refine TL.run 5 rfl ?_; refine TL.nx ?_; refine TL.run 2 rfl ?_; refine TL.nx ?_; refine TL.run 2 rfl ?_; refine TL.y (Yv.bY (a := 18446744073709551615#64) (b := ((((18446744073709551615#64) % (BitVec.ofInt 64 limit)) + (1#64)) % (BitVec.ofInt 64 limit))) rfl rfl rfl) ?_; refine TL.run 1 rfl ?_; refine TL.ns ?_; refine T.cond rfl (fun h4 => ?_) (fun h4 => ?_)
    · replace hk := zaa hk h4; refine T.seq ?_; have hq : (¬ (BitVec.ofInt 64 limit) = 0#64) ∧ _ := zap hk; clear hk; obtain ⟨g30, hk⟩ := hq; (try dsimp only at hk); refine T.aw (.still 0 (.still 1 (.still 2 (.still 3 (.still 4 (.still 5 (.still 6 .done))))))) _ (by kernel_rfl) (List.Sublist.refl _) ?_; refine TS.run 3 rfl ?_; refine TS.y rfl (Yv.bd (a := (zbf state_1).2) (b := (BitVec.ofInt 64 limit)) rfl rfl rfl g30) ?_; refine TS.y rfl (Yv.bf (z := ((((zbf state_1).2) % (BitVec.ofInt 64 limit)).toNat : Int)) rfl rfl) ?_; refine TS.run 2 rfl ?_; refine TS.done ?_; refine K.seq (T.ret (K.ag (K.ab (K.ag ?_)))); obtain rfl := Option.some.inj hk; exact K.aD rfl rfl rfl (fun w' hw => ⟨rfl, hw.isBelow⟩)
    · replace hk := zab hk h4; refine T.skip (K.ac ?_); rw [← hn2] at hk; exact K.next (m_3', (zbf state_1).1) hk (by dsimp only; omega) (.c (.c (.c .nil))) (List.Sublist.refl _)
def zbu (p : GProblem) (l : List GChoice) : Int :=
  zaB (fun (n_1 : Int) =>
    zaB (fun (n_8 : Int) =>
      n_8)
    (fun k9 =>
      zai (fun (i_12 : Nat) (next11 : Int → Int) (n_10 : Int) =>
        (bif (zad p (nth p.Rules.Caps i_12) l) then
          next11 (wI (n_10 + 1))
          else
          next11 n_10))
      (fun (n_10 : Int) =>
        k9 n_10) (p.Rules.Caps.length - 0) 0 n_1))
  (fun k2 =>
    zai (fun (i_5 : Nat) (next4 : Int → Int) (n_3 : Int) =>
      (bif (zaf (nth p.Rules.Pairs i_5) l) then
        next4 (wI (n_3 + 1))
        else
        next4 n_3))
    (fun (n_3 : Int) =>
      k2 n_3) (p.Rules.Pairs.length - 0) 0 0)
theorem zeW (F0 : Frz) (w : World) (hF0 : F0.At w) (p : GProblem) (vp_0 : Value) (cp_0 : List (List Value)) (hp_0 : SlD GDomain.rep F0 vp_0 2 cp_0 p.Domains) (vp_1 : Value) (hp_1 : SlC F0 vp_1 5 (p.Rules.Pairs.map GPair.enc)) (vp_2 : Value) (hp_2 : SlC F0 vp_2 5 (p.Rules.Loads.map GLoad.enc)) (vp_3 : Value) (hp_3 : SlC F0 vp_3 4 (p.Rules.Caps.map GCap.enc)) (l : List GChoice) (vl : Value) (hl : SlC F0 vl 2 (l.map GChoice.enc)) : Calls Tryz.prog 14 #[.agg [vp_0, vp_1, vp_2, vp_3].toArray, vl] w fun e w' => e = .returned (.int .i64 (zbu p l)) ∧ Below w.heap.size w w' := by
  obtain ⟨r, hk⟩ : ∃ r, zbu p l = r := ⟨_, rfl⟩; rw [hk]; unfold zbu at hk; haveI := hp_0.1.oneC; haveI := hp_1.oneC; haveI := hp_2.oneC; haveI := hp_3.oneC; haveI := hl.oneC; obtain ⟨S0, F1, rfl, hS0, hp0⟩ := zam hF0; refine zar Tryz.func14 rfl rfl rfl hp0 ?_; refine T.sr ?_; refine TL.e (Ew.ay rfl rfl) ?_; rintro _ _ ⟨g2, rfl, rfl⟩; refine TL.run 1 rfl ?_; refine TL.nx ?_; refine TL.run 1 rfl ?_; refine TL.ns (T.seq (T.sr ?_)); refine TL.run 1 rfl ?_; refine TL.ns ?_; have hq := zae hk; clear hk; obtain ⟨k2, hk2, hk⟩ := hq; (try dsimp only at hk); refine T.af (ι := Int) (fun z => [(1, vl), (2, .pointer (some ⟨g2, 0, none⟩)), (5, .int .i64 z)]) (fun z => [.row g2 29 [vp_0, vp_1, vp_2, vp_3], .fr F1]) (fun z => k2 z = r) ?_ ?_
  · have hq := zak hk; clear hk; obtain ⟨f4, kk4, hf4, hkk4, hk⟩ := hq; refine T.block ?_; refine T.loop (ι := Nat × Int) (fun z => [(1, vl), (2, .pointer (some ⟨g2, 0, none⟩)), (5, .int .i64 z.2), (6, .int .i64 (z.1 : Int))]) (fun z => [.row g2 29 [vp_0, vp_1, vp_2, vp_3], .fr F1]) (fun z => zai f4 kk4 (p.Rules.Pairs.length - z.1) z.1 z.2 = r) (fun z => p.Rules.Pairs.length - z.1) (0, 0) ?_ ?_ ?_ ?_
    · exact hk
    · exact (.c (.c (.c (.c .nil))))
    · exact List.Sublist.refl _
    · rintro ⟨i_5, n_3⟩ hk; (try dsimp only at *); refine T.seq (T.sr ?_); refine TL.run 1 rfl ?_; refine TL.y (Yv.fieldAddr rfl rfl) ?_; refine TL.y (Yv.fieldAddr rfl rfl) ?_; refine TL.y (Yv.a 0 rfl rfl rfl rfl) ?_; refine TL.y (Yv.an rfl rfl hp_1 (List.length_map _)) ?_; have hm12 : p.Rules.Pairs.length ≤ 9223372036854775807 := (List.length_map _) ▸ hp_1.max; refine TL.run 1 rfl ?_; refine TL.ns ?_; refine T.cond rfl (fun h6 => ?_) (fun h6 => ?_)
      · have p6 := of_decide_eq_true h6; rw [zat (by omega)] at hk; generalize hn4 : zai f4 kk4 (p.Rules.Pairs.length - (i_5 + 1)) (i_5 + 1) = next4 at hk; rw [← hf4] at hk; (try dsimp only at hk); refine T.skip (K.seq (T.seq (T.block (T.sr ?_)))); refine TL.y (Yv.fieldAddr rfl rfl) ?_; refine TL.y (Yv.fieldAddr rfl rfl) ?_; refine TL.y (Yv.a 0 rfl rfl rfl rfl) ?_; refine TL.run 1 rfl ?_; refine TL.y (Yv.am (i := i_5) rfl rfl rfl hp_1 (List.length_map _) rfl (by omega)) ?_; refine TL.y (Yv.aq 1 (i := i_5) rfl rfl rfl hp_1 (by omega) rfl rfl rfl) ?_; refine TL.run 1 rfl ?_; refine TL.e (Ew.ah rfl rfl rfl (fun w hw => zc0 _ w (hw.fr (i := 1) rfl) (nth p.Rules.Pairs i_5) l vl hl)) ?_; rintro _ _ ⟨rfl, rfl⟩; refine TL.ns ?_; refine T.cond rfl (fun h7 => ?_) (fun h7 => ?_)
        · replace hk := zaa hk h7; refine T.region ?_; refine TL.run 3 rfl ?_; refine TL.nil (K.ac (K.seq (T.region ?_))); refine TL.run 1 rfl ?_; refine TL.y (Yv.ao rfl rfl rfl (by omega)) ?_; refine TL.run 1 rfl ?_; refine TL.nil ?_; rw [← hn4] at hk; exact K.next ((i_5 + 1), wI (n_3 + 1)) hk (by dsimp only; omega) (.c (.c (.c (.c .nil)))) (List.Sublist.refl _)
        · replace hk := zab hk h7; refine T.skip (K.ac (K.seq (T.region ?_))); refine TL.run 1 rfl ?_; refine TL.y (Yv.ao rfl rfl rfl (by omega)) ?_; refine TL.run 1 rfl ?_; refine TL.nil ?_; rw [← hn4] at hk; exact K.next ((i_5 + 1), n_3) hk (by dsimp only; omega) (.c (.c (.c (.c .nil)))) (List.Sublist.refl _)
      · have p6 := of_decide_eq_false h6; rw [zas (by omega), ← hkk4] at hk; (try dsimp only at hk); refine T.exit (K.aa (K.aa (K.ad ?_))); exact K.ae n_3 hk (.c (.c (.c .nil))) (List.Sublist.refl _)
  · rintro n_1 hk; rw [← hk2] at hk; (try dsimp only at hk); refine T.seq (T.sr ?_); refine TL.run 1 rfl ?_; refine TL.ns ?_; have hq := zae hk; clear hk; obtain ⟨k9, hk9, hk⟩ := hq; (try dsimp only at hk); refine T.af (ι := Int) (fun z => [(5, .int .i64 z)]) (fun z => [.fr F1]) (fun z => k9 z = r) ?_ ?_
    · have hq := zak hk; clear hk; obtain ⟨f11, kk11, hf11, hkk11, hk⟩ := hq; refine T.block ?_; refine T.loop (ι := Nat × Int) (fun z => [(1, vl), (2, .pointer (some ⟨g2, 0, none⟩)), (5, .int .i64 z.2), (7, .int .i64 (z.1 : Int))]) (fun z => [.row g2 29 [vp_0, vp_1, vp_2, vp_3], .fr F1]) (fun z => zai f11 kk11 (p.Rules.Caps.length - z.1) z.1 z.2 = r) (fun z => p.Rules.Caps.length - z.1) (0, n_1) ?_ ?_ ?_ ?_
      · exact hk
      · exact (.c (.c (.c (.c .nil))))
      · exact List.Sublist.refl _
      · rintro ⟨i_12, n_10⟩ hk; (try dsimp only at *); refine T.seq (T.sr ?_); refine TL.run 1 rfl ?_; refine TL.y (Yv.fieldAddr rfl rfl) ?_; refine TL.y (Yv.fieldAddr rfl rfl) ?_; refine TL.y (Yv.a 0 rfl rfl rfl rfl) ?_; refine TL.y (Yv.an rfl rfl hp_3 (List.length_map _)) ?_; have hm30 : p.Rules.Caps.length ≤ 9223372036854775807 := (List.length_map _) ▸ hp_3.max; refine TL.run 1 rfl ?_; refine TL.ns ?_; refine T.cond rfl (fun h13 => ?_) (fun h13 => ?_)
        · have p13 := of_decide_eq_true h13; rw [zat (by omega)] at hk; generalize hn11 : zai f11 kk11 (p.Rules.Caps.length - (i_12 + 1)) (i_12 + 1) = next11 at hk; rw [← hf11] at hk; (try dsimp only at hk); refine T.skip (K.seq (T.seq (T.block (T.seq ?_)))); refine T.aw (.still 0 (.still 1 (.still 2 (.still 3 (.still 4 (.still 5 (.still 6 (.still 7 (.eff 8 .done))))))))) _ (by kernel_rfl) (List.Sublist.refl _) ?_; refine TS.y rfl (Yv.aj 0 rfl rfl rfl rfl) ?_; refine TS.y rfl (Yv.fieldAddr rfl rfl) ?_; refine TS.y rfl (Yv.fieldAddr rfl rfl) ?_; refine TS.y rfl (Yv.a 0 rfl rfl rfl rfl) ?_; refine TS.run 1 rfl ?_; refine TS.y rfl (Yv.am (i := i_12) rfl rfl rfl hp_3 (List.length_map _) rfl (by omega)) ?_; refine TS.y rfl (Yv.aq 1 (i := i_12) rfl rfl rfl hp_3 (by omega) rfl rfl rfl) ?_; refine TS.run 1 rfl ?_; refine TS.eff ?_; refine TSo.as rfl (Wt.none rfl) rfl rfl (Ew.ah rfl rfl rfl (fun w hw => zdx _ w (hw.fr (i := 1) rfl) p vp_0 cp_0 hp_0 vp_1 hp_1 vp_2 hp_2 vp_3 hp_3 (nth p.Rules.Caps i_12) l vl hl)) ?_; rintro _ _ ⟨rfl, rfl⟩; refine ⟨(fun w hw => hw.sub Sx), ?_⟩; refine TS.done ?_; refine K.seq ?_; refine T.cond rfl (fun h14 => ?_) (fun h14 => ?_)
          · replace hk := zaa hk h14; refine T.region ?_; refine TL.run 3 rfl ?_; refine TL.nil (K.ac (K.seq (T.region ?_))); refine TL.run 1 rfl ?_; refine TL.y (Yv.ao rfl rfl rfl (by omega)) ?_; refine TL.run 1 rfl ?_; refine TL.nil ?_; rw [← hn11] at hk; exact K.next ((i_12 + 1), wI (n_10 + 1)) hk (by dsimp only; omega) (.c (.c (.c (.c .nil)))) (List.Sublist.refl _)
          · replace hk := zab hk h14; refine T.skip (K.ac (K.seq (T.region ?_))); refine TL.run 1 rfl ?_; refine TL.y (Yv.ao rfl rfl rfl (by omega)) ?_; refine TL.run 1 rfl ?_; refine TL.nil ?_; rw [← hn11] at hk; exact K.next ((i_12 + 1), n_10) hk (by dsimp only; omega) (.c (.c (.c (.c .nil)))) (List.Sublist.refl _)
        · have p13 := of_decide_eq_false h13; rw [zas (by omega), ← hkk11] at hk; (try dsimp only at hk); refine T.exit (K.aa (K.aa (K.ad ?_))); refine K.pick [1] rfl (by decide) ?_; exact K.ae n_10 hk (.c .nil) (List.Sublist.refl _)
    · rintro n_8 hk; rw [← hk9] at hk; (try dsimp only at hk); refine T.sr ?_; refine TL.run 2 rfl ?_; refine TL.ns (T.ret ?_); subst hk; exact K.ai rfl rfl (fun w' hw => ⟨rfl, hw.isBelow⟩)
def zcC (p : GProblem) (hints : List GChoice) : Option (List GChoice × Bool) :=
  zaB (fun (out_1 : List GChoice) =>
    some (out_1, true))
  (fun k2 =>
    zai (fun (i_5 : Nat) (next4 : List GChoice → Option (List GChoice × Bool)) (out_3 : List GChoice) =>
      (bif decide ((((nth p.Domains i_5).Channels).length : Int) = 0) then
        some ([], false)
        else
        zaB (fun (c_8 : Int) =>
          grd (room (out_3 ++ [(GChoice.mk ((nth p.Domains i_5).Station) c_8)]).length 16) <|
          next4 (out_3 ++ [(GChoice.mk ((nth p.Domains i_5).Station) c_8)]))
        (fun k9 =>
          (bif !(zbi ((nth p.Domains i_5).Channels) (zax hints ((nth p.Domains i_5).Station))) then
            grd (0 ≤ 0 ∧ 0 < (((nth p.Domains i_5).Channels).length : Int)) <|
            k9 (nth ((nth p.Domains i_5).Channels) 0)
            else
            k9 (zax hints ((nth p.Domains i_5).Station))))))
    (fun (out_3 : List GChoice) =>
      k2 out_3) (p.Domains.length - 0) 0 [])
theorem zeq (F0 : Frz) (w : World) (hF0 : F0.At w) (p : GProblem) (vp_0 : Value) (cp_0 : List (List Value)) (hp_0 : SlD GDomain.rep F0 vp_0 2 cp_0 p.Domains) (vp_1 : Value) (hp_1 : SlC F0 vp_1 5 (p.Rules.Pairs.map GPair.enc)) (vp_2 : Value) (hp_2 : SlC F0 vp_2 5 (p.Rules.Loads.map GLoad.enc)) (vp_3 : Value) (hp_3 : SlC F0 vp_3 4 (p.Rules.Caps.map GCap.enc)) (hints : List GChoice) (vhints : Value) (hhints : SlC F0 vhints 2 (hints.map GChoice.enc)) (r : List GChoice × Bool) (hr : zcC p hints = some r) : Calls Tryz.prog 18 #[.agg [vp_0, vp_1, vp_2, vp_3].toArray, vhints] w fun e w' => ∃ (y : Value) (G : Frz), (SlC G y 2 (r.1.map GChoice.enc)) ∧ e = .returned (.tuple #[y, .bool r.2]) ∧ Fx F0 w G w' := by
  have hk := hr; unfold zcC at hk; haveI := hp_0.1.oneC; haveI := hp_1.oneC; haveI := hp_2.oneC; haveI := hp_3.oneC; haveI := hhints.oneC; obtain ⟨S0, F1, rfl, hS0, hp0⟩ := zam hF0; refine zar Tryz.func18 rfl rfl rfl hp0 ?_; refine T.sr ?_; refine TL.e (Ew.ay rfl rfl) ?_; rintro _ _ ⟨g2, rfl, rfl⟩; refine TL.run 2 rfl ?_; refine TL.nx ?_; refine TL.run 1 rfl ?_; refine TL.slNil 60 2 ?_; refine TL.ns (T.seq (T.sr ?_)); refine TL.run 1 rfl ?_; refine TL.ns ?_; have hq := zae hk; clear hk; obtain ⟨k2, hk2, hk⟩ := hq; (try dsimp only at hk); refine T.af (ι := List GChoice × Value) (fun z => [(6, z.2)]) (fun z => [.sl z.2 60 2 z.1.length (z.1.flatMap GChoice.enc), .fr F1]) (fun z => k2 z.1 = some r ∧ OneC z.2) ?_ ?_
  · have hq := zak hk; clear hk; obtain ⟨f4, kk4, hf4, hkk4, hk⟩ := hq; refine T.block ?_; refine T.loop (ι := Nat × List GChoice × Value) (fun z => [(1, vhints), (2, .pointer (some ⟨g2, 0, none⟩)), (6, z.2.2), (7, .int .i64 (z.1 : Int))]) (fun z => [.sl z.2.2 60 2 z.2.1.length (z.2.1.flatMap GChoice.enc), .row g2 29 [vp_0, vp_1, vp_2, vp_3], .fr F1]) (fun z => zai f4 kk4 (p.Domains.length - z.1) z.1 z.2.1 = some r ∧ OneC z.2.2) (fun z => p.Domains.length - z.1) (0, [], (.slice none 0 0)) ?_ ?_ ?_ ?_
    · exact ⟨hk, inferInstance⟩
    · exact (.c (.c (.c (.c .nil))))
    · exact List.Sublist.refl _
    · rintro ⟨i_5, out_3, vout_3⟩ ⟨hk, oout_3⟩; (try dsimp only at *); refine T.seq (T.sr ?_); refine TL.run 1 rfl ?_; refine TL.y (Yv.fieldAddr rfl rfl) ?_; refine TL.y (Yv.a 1 rfl rfl rfl rfl) ?_; refine TL.y (Yv.an rfl rfl hp_0.1 hp_0.2.1) ?_; have hm13 : p.Domains.length ≤ 9223372036854775807 := hp_0.2.1 ▸ hp_0.1.max; refine TL.run 1 rfl ?_; refine TL.ns ?_; refine T.cond rfl (fun h6 => ?_) (fun h6 => ?_)
      · have p6 := of_decide_eq_true h6; rw [zat (by omega)] at hk; generalize hn4 : zai f4 kk4 (p.Domains.length - (i_5 + 1)) (i_5 + 1) = next4 at hk; rw [← hf4] at hk; (try dsimp only at hk); refine T.skip (K.seq (T.seq (T.block (T.sr ?_)))); refine TL.y (Yv.fieldAddr rfl rfl) ?_; refine TL.y (Yv.a 1 rfl rfl rfl rfl) ?_; refine TL.run 1 rfl ?_; refine TL.y (Yv.am (i := i_5) rfl rfl rfl hp_0.1 hp_0.2.1 rfl (by omega)) ?_; refine TL.y (Yv.aE 2 (i := i_5) (j := 0) rfl rfl rfl hp_0.1 hp_0.2.1 (by omega) rfl (GDomain.form (hp_0.2.2 i_5 (by omega))) rfl) ?_; have hd21_1 := (GDomain.c1 (hp_0.2.2 i_5 (by omega))).2; haveI := hd21_1.oneC; refine TL.e (Ew.alloc rfl) ?_; rintro _ _ ⟨g8, rfl, rfl⟩; refine TL.e0 (Ew.ak 0 rfl rfl rfl rfl rfl rfl) ?_; rintro _ _ ⟨rfl, rfl⟩; refine TL.ns (T.seq (T.sr ?_)); refine TL.y (Yv.fieldAddr rfl rfl) ?_; refine TL.y (Yv.a 0 rfl rfl rfl rfl) ?_; refine TL.y (Yv.an rfl rfl hd21_1 (List.length_map _)) ?_; have hm24 : ((nth p.Domains i_5).Channels).length ≤ 9223372036854775807 := (List.length_map _) ▸ hd21_1.max; refine TL.run 1 rfl ?_; refine TL.ns ?_; refine T.cond rfl (fun h7 => ?_) (fun h7 => ?_)
        · have p7 := of_decide_eq_true h7; replace hk := zaa hk h7; refine T.sr ?_; refine TL.run 2 rfl ?_; refine TL.ns (T.ret (K.ab (K.ag (K.ab (K.ab (K.ag (K.ab ?_))))))); obtain rfl := Option.some.inj hk; exact K.aD rfl rfl rfl (fun w' hw => ⟨(.slice none 0 0), F1.toFrz, (SlC.nil _ 2), rfl, Fx.of hw (i := 3) rfl hS0 (Frz.Le.refl _)⟩)
        · have p7 := of_decide_eq_false h7; replace hk := zab hk h7; refine T.skip (K.seq (T.sr ?_)); refine TL.run 1 rfl ?_; refine TL.y (Yv.fieldAddr rfl rfl) ?_; refine TL.y (Yv.a 0 rfl rfl rfl rfl) ?_; refine TL.e (Ew.ah rfl rfl rfl (fun w hw => zcV _ w (hw.fr (i := 3) rfl) hints vhints hhints ((nth p.Domains i_5).Station))) ?_; rintro _ _ ⟨rfl, rfl⟩; refine TL.run 1 rfl ?_; refine TL.ns (T.seq (T.sr ?_)); refine TL.y (Yv.fieldAddr rfl rfl) ?_; refine TL.y (Yv.a 0 rfl rfl rfl rfl) ?_; refine TL.run 1 rfl ?_; refine TL.e (Ew.ah rfl rfl rfl (fun w hw => zgJ _ w (hw.fr (i := 3) rfl) ((nth p.Domains i_5).Channels) (nth (nth cp_0 i_5) 1) hd21_1 (zax hints ((nth p.Domains i_5).Station)))) ?_; rintro _ _ ⟨rfl, rfl⟩; refine TL.run 1 rfl ?_; refine TL.ns ?_; have hq := zae hk; clear hk; obtain ⟨k9, hk9, hk⟩ := hq; (try dsimp only at hk); refine T.af (ι := Int) (fun z => [(1, vhints), (2, .pointer (some ⟨g2, 0, none⟩)), (6, vout_3), (7, .int .i64 (i_5 : Int)), (8, .pointer (some ⟨g8, 0, none⟩)), (9, .int .i64 z)]) (fun z => [.row g8 68 [.int .i64 ((nth p.Domains i_5).Station), (nth (nth cp_0 i_5) 1)], .sl vout_3 60 2 out_3.length (out_3.flatMap GChoice.enc), .row g2 29 [vp_0, vp_1, vp_2, vp_3], .fr F1]) (fun z => k9 z = some r) ?_ ?_
          · refine T.cond rfl (fun h10 => ?_) (fun h10 => ?_)
            · replace hk := zaa hk h10; have hq : (0 ≤ 0 ∧ 0 < (((nth p.Domains i_5).Channels).length : Int)) ∧ _ := zap hk; clear hk; obtain ⟨g37, hk⟩ := hq; (try dsimp only at hk); refine T.region ?_; refine TL.y (Yv.fieldAddr rfl rfl) ?_; refine TL.y (Yv.a 0 rfl rfl rfl rfl) ?_; refine TL.y (Yv.am (i := 0) rfl rfl rfl hd21_1 (List.length_map _) (show (0 : Int) = ((0 : Nat) : Int) from rfl) (by omega)) ?_; refine TL.y (Yv.ar 3 (i := 0) (j := 0) rfl rfl rfl hd21_1 (by omega) rfl rfl) ?_; refine TL.run 1 rfl ?_; refine TL.nil ?_; exact K.ae (nth ((nth p.Domains i_5).Channels) 0) hk (.c (.c (.c (.c (.c (.c .nil)))))) (List.Sublist.refl _)
            · replace hk := zab hk h10; refine T.skip ?_; exact K.ae (zax hints ((nth p.Domains i_5).Station)) hk (.c (.c (.c (.c (.c (.c .nil)))))) (List.Sublist.refl _)
          · rintro c_8 hk; rw [← hk9] at hk; (try dsimp only at hk); have hq : (room (out_3 ++ [(GChoice.mk ((nth p.Domains i_5).Station) c_8)]).length 16) ∧ _ := zap hk; clear hk; obtain ⟨g45, hk⟩ := hq; (try dsimp only at hk); refine T.region ?_; refine TL.run 1 rfl ?_; refine TL.y (Yv.fieldAddr rfl rfl) ?_; refine TL.y (Yv.a 0 rfl rfl rfl rfl) ?_; refine TL.run 1 rfl ?_; refine TL.y (Yv.build rfl rfl) ?_; refine TL.e (Ew.buildSlice rfl rfl rfl (by decide)) ?_; rintro _ _ ⟨g44, rfl, rfl⟩; refine TL.e (Ew.ax 2 0 rfl rfl rfl rfl rfl rfl (zbB (ys := [(GChoice.mk ((nth p.Domains i_5).Station) c_8)]) rfl) (zbd (enc := GChoice.enc) (xs := out_3) (ys := [(GChoice.mk ((nth p.Domains i_5).Station) c_8)])) g45 (by decide)) ?_; rintro v45 _ ⟨hv45, rfl⟩; refine TL.run 1 rfl ?_; refine TL.nil (K.ac (K.seq (T.region ?_))); refine TL.run 1 rfl ?_; refine TL.y (Yv.ao rfl rfl rfl (by omega)) ?_; refine TL.run 1 rfl ?_; refine TL.nil ?_; rw [← hn4] at hk; refine K.pick [2, 3, 4] rfl (by decide) ?_; exact K.next ((i_5 + 1), (out_3 ++ [(GChoice.mk ((nth p.Domains i_5).Station) c_8)]), v45) ⟨hk, inferInstance⟩ (by dsimp only; omega) (.c (.c (.c (.c .nil)))) (List.Sublist.refl _)
      · have p6 := of_decide_eq_false h6; rw [zas (by omega), ← hkk4] at hk; (try dsimp only at hk); refine T.exit (K.aa (K.aa (K.ad ?_))); refine K.pick [0, 2] rfl (by decide) ?_; exact K.ae (out_3, vout_3) ⟨hk, inferInstance⟩ (.c .nil) (List.Sublist.refl _)
  · rintro ⟨out_1, vout_1⟩ ⟨hk, oout_1⟩; (try dsimp only at *); rw [← hk2] at hk; (try dsimp only at hk); refine T.sr ?_; refine TL.run 3 rfl ?_; refine TL.ns (T.ret ?_); refine K.av (fun w hw => hw.freezeS (i := 1) (j := 0) (by decide) rfl rfl) ?_; rintro F2 ⟨le1_2, hz2⟩; dsimp only [List.set, List.eraseIdx]; have hf2 := hz2.toF rfl GChoice.len; haveI := hf2.oneC; obtain rfl := Option.some.inj hk; exact K.aD rfl rfl rfl (fun w' hw => ⟨vout_1, F2.toFrz, hf2, rfl, Fx.of hw (i := 0) rfl hS0 le1_2⟩)
def zbW (p : GProblem) (l : List GChoice) (n : Int) : Bool :=
  zaB (fun (_ : Unit) =>
    zaB (fun (_ : Unit) =>
      false)
    (fun k8 =>
      zai (fun (i_10 : Nat) (next9 : Unit → Bool) (_ : Unit) =>
        zaB (fun (_ : Unit) =>
          next9 ())
        (fun k12 =>
          (bif !(zad p (nth p.Rules.Caps i_10) l) then
            k12 ()
            else
            (bif decide ((nth p.Rules.Caps i_10).Station = n) then
              true
              else
              zai (fun (k_16 : Nat) (next15 : Unit → Bool) (_ : Unit) =>
                (bif (((((decide ((nth p.Rules.Loads k_16).To = (nth p.Rules.Caps i_10).Station)) && (decide ((nth p.Rules.Loads k_16).From = n))) && (decide ((zax l n) = (zax l ((nth p.Rules.Caps i_10).Station))))) && (decide ((nth p.Rules.Loads k_16).Low ≤ (zax l ((nth p.Rules.Caps i_10).Station))))) && (decide ((zax l ((nth p.Rules.Caps i_10).Station)) ≤ (nth p.Rules.Loads k_16).High))) then
                  true
                  else
                  next15 ()))
              (fun (_ : Unit) =>
                k12 ()) (p.Rules.Loads.length - 0) 0 ()))))
      (fun (_ : Unit) =>
        k8 ()) (p.Rules.Caps.length - 0) 0 ()))
  (fun k1 =>
    zai (fun (i_3 : Nat) (next2 : Unit → Bool) (_ : Unit) =>
      (bif (((decide ((nth p.Rules.Pairs i_3).A = n)) || (decide ((nth p.Rules.Pairs i_3).B = n))) && (zaf (nth p.Rules.Pairs i_3) l)) then
        true
        else
        next2 ()))
    (fun (_ : Unit) =>
      k1 ()) (p.Rules.Pairs.length - 0) 0 ())
theorem ze4 (F0 : Frz) (w : World) (hF0 : F0.At w) (p : GProblem) (vp_0 : Value) (cp_0 : List (List Value)) (hp_0 : SlD GDomain.rep F0 vp_0 2 cp_0 p.Domains) (vp_1 : Value) (hp_1 : SlC F0 vp_1 5 (p.Rules.Pairs.map GPair.enc)) (vp_2 : Value) (hp_2 : SlC F0 vp_2 5 (p.Rules.Loads.map GLoad.enc)) (vp_3 : Value) (hp_3 : SlC F0 vp_3 4 (p.Rules.Caps.map GCap.enc)) (l : List GChoice) (vl : Value) (hl : SlC F0 vl 2 (l.map GChoice.enc)) (n : Int) : Calls Tryz.prog 36 #[.agg [vp_0, vp_1, vp_2, vp_3].toArray, vl, .int .i64 n] w fun e w' => e = .returned (.bool (zbW p l n)) ∧ Below w.heap.size w w' := by
  obtain ⟨r, hk⟩ : ∃ r, zbW p l n = r := ⟨_, rfl⟩; rw [hk]; unfold zbW at hk; haveI := hp_0.1.oneC; haveI := hp_1.oneC; haveI := hp_2.oneC; haveI := hp_3.oneC; haveI := hl.oneC; obtain ⟨S0, F1, rfl, hS0, hp0⟩ := zam hF0; refine zar Tryz.func36 rfl rfl rfl hp0 ?_; refine T.sr ?_; refine TL.e (Ew.ay rfl rfl) ?_; rintro _ _ ⟨g3, rfl, rfl⟩; refine TL.run 1 rfl ?_; refine TL.ns (T.seq (T.sr ?_)); refine TL.run 1 rfl ?_; refine TL.ns ?_; have hq := zae hk; clear hk; obtain ⟨k1, hk1, hk⟩ := hq; (try dsimp only at hk); refine T.af (ι := Unit) (fun z => [(1, vl), (2, .int .i64 n), (3, .pointer (some ⟨g3, 0, none⟩))]) (fun z => [.row g3 29 [vp_0, vp_1, vp_2, vp_3], .fr F1]) (fun z => k1 () = r) ?_ ?_
  · have hq := zak hk; clear hk; obtain ⟨f2, kk2, hf2, hkk2, hk⟩ := hq; refine T.block ?_; refine T.loop (ι := Nat) (fun z => [(1, vl), (2, .int .i64 n), (3, .pointer (some ⟨g3, 0, none⟩)), (7, .int .i64 (z : Int))]) (fun z => [.row g3 29 [vp_0, vp_1, vp_2, vp_3], .fr F1]) (fun z => zai f2 kk2 (p.Rules.Pairs.length - z) z () = r) (fun z => p.Rules.Pairs.length - z) 0 ?_ ?_ ?_ ?_
    · exact hk
    · exact (.c (.c (.c (.c .nil))))
    · exact List.Sublist.refl _
    · rintro i_3 hk; refine T.seq (T.sr ?_); refine TL.run 1 rfl ?_; refine TL.y (Yv.fieldAddr rfl rfl) ?_; refine TL.y (Yv.fieldAddr rfl rfl) ?_; refine TL.y (Yv.a 0 rfl rfl rfl rfl) ?_; refine TL.y (Yv.an rfl rfl hp_1 (List.length_map _)) ?_; have hm18 : p.Rules.Pairs.length ≤ 9223372036854775807 := (List.length_map _) ▸ hp_1.max; refine TL.run 1 rfl ?_; refine TL.ns ?_; refine T.cond rfl (fun h4 => ?_) (fun h4 => ?_)
      · have p4 := of_decide_eq_true h4; rw [zat (by omega)] at hk; generalize hn2 : zai f2 kk2 (p.Rules.Pairs.length - (i_3 + 1)) (i_3 + 1) = next2 at hk; rw [← hf2] at hk; (try dsimp only at hk); refine T.skip (K.seq (T.seq (T.block (T.sr ?_)))); refine TL.y (Yv.fieldAddr rfl rfl) ?_; refine TL.y (Yv.fieldAddr rfl rfl) ?_; refine TL.y (Yv.a 0 rfl rfl rfl rfl) ?_; refine TL.run 1 rfl ?_; refine TL.y (Yv.am (i := i_3) rfl rfl rfl hp_1 (List.length_map _) rfl (by omega)) ?_; refine TL.y (Yv.aq 1 (i := i_3) rfl rfl rfl hp_1 (by omega) rfl rfl rfl) ?_; refine TL.e (Ew.alloc rfl) ?_; rintro _ _ ⟨g8, rfl, rfl⟩; refine TL.e0 (Ew.ak 0 rfl rfl rfl rfl rfl rfl) ?_; rintro _ _ ⟨rfl, rfl⟩; refine TL.ns (T.seq ?_); refine T.af (ι := Unit) (fun z => [(1, vl), (2, .int .i64 n), (3, .pointer (some ⟨g3, 0, none⟩)), (7, .int .i64 (i_3 : Int)), (42, .bool (((decide ((nth p.Rules.Pairs i_3).A = n)) || (decide ((nth p.Rules.Pairs i_3).B = n))) && (zaf (nth p.Rules.Pairs i_3) l)))]) (fun z => [.row g8 72 [.int .i64 ((nth p.Rules.Pairs i_3).A), .int .i64 ((nth p.Rules.Pairs i_3).B), .int .i64 ((nth p.Rules.Pairs i_3).Offset), .int .i64 ((nth p.Rules.Pairs i_3).Low), .int .i64 ((nth p.Rules.Pairs i_3).High)], .row g3 29 [vp_0, vp_1, vp_2, vp_3], .fr F1]) (fun z => True) ?_ ?_
        · refine T.region ?_; refine TL.y (Yv.fieldAddr rfl rfl) ?_; refine TL.y (Yv.a 0 rfl rfl rfl rfl) ?_; refine TL.run 3 rfl ?_; refine TL.gs rfl rfl rfl (fun h5 => ?_) (fun h5 => ?_)
          · have p5 := of_decide_eq_true h5; refine TL.run 6 rfl ?_; refine TL.y (Yv.aj 0 rfl rfl rfl rfl) ?_; refine TL.run 1 rfl ?_; refine TL.e (Ew.ah rfl rfl rfl (fun w hw => zc0 _ w (hw.fr (i := 2) rfl) (nth p.Rules.Pairs i_3) l vl hl)) ?_; rintro _ _ ⟨rfl, rfl⟩; refine TL.run 1 rfl ?_; refine TL.nil ?_; exact K.ae () trivial (.c (.c (.c (.c (.b (zdd (zcw h5)) .nil))))) (List.Sublist.refl _)
          · have p5 := of_decide_eq_false h5; refine TL.y (Yv.fieldAddr rfl rfl) ?_; refine TL.y (Yv.a 0 rfl rfl rfl rfl) ?_; refine TL.run 4 rfl ?_; refine TL.gs rfl rfl rfl (fun h6 => ?_) (fun h6 => ?_)
            · have p6 := of_decide_eq_true h6; refine TL.y (Yv.aj 0 rfl rfl rfl rfl) ?_; refine TL.run 1 rfl ?_; refine TL.e (Ew.ah rfl rfl rfl (fun w hw => zc0 _ w (hw.fr (i := 2) rfl) (nth p.Rules.Pairs i_3) l vl hl)) ?_; rintro _ _ ⟨rfl, rfl⟩; refine TL.run 1 rfl ?_; refine TL.nil ?_; exact K.ae () trivial (.c (.c (.c (.c (.b (zdd (zc2 h5 h6)) .nil))))) (List.Sublist.refl _)
            · have p6 := of_decide_eq_false h6; refine TL.run 4 rfl ?_; refine TL.nil ?_; exact K.ae () trivial (.c (.c (.c (.c (.b (zaD (zc2 h5 h6)).symm .nil))))) (List.Sublist.refl _)
        · rintro _ _; refine T.cond rfl (fun h7 => ?_) (fun h7 => ?_)
          · replace hk := zaa hk h7; refine T.sr ?_; refine TL.run 1 rfl ?_; refine TL.ns (T.ret (K.ag (K.ab (K.ab (K.ag (K.ab ?_)))))); subst hk; exact K.ai rfl rfl (fun w' hw => ⟨rfl, hw.isBelow⟩)
          · replace hk := zab hk h7; refine T.skip (K.ac (K.seq (T.region ?_))); refine TL.run 1 rfl ?_; refine TL.y (Yv.ao rfl rfl rfl (by omega)) ?_; refine TL.run 1 rfl ?_; refine TL.nil ?_; rw [← hn2] at hk; refine K.pick [1, 2] rfl (by decide) ?_; exact K.next (i_3 + 1) hk (by omega) (.c (.c (.c (.c .nil)))) (List.Sublist.refl _)
      · have p4 := of_decide_eq_false h4; rw [zas (by omega), ← hkk2] at hk; (try dsimp only at hk); refine T.exit (K.aa (K.aa (K.ad ?_))); exact K.ae () hk (.c (.c (.c .nil))) (List.Sublist.refl _)
  · rintro _ hk; rw [← hk1] at hk; (try dsimp only at hk); refine T.seq (T.sr ?_); refine TL.run 1 rfl ?_; refine TL.ns ?_; have hq := zae hk; clear hk; obtain ⟨k8, hk8, hk⟩ := hq; (try dsimp only at hk); refine T.af (ι := Unit) (fun z => []) (fun z => [.fr F1]) (fun z => k8 () = r) ?_ ?_
    · have hq := zak hk; clear hk; obtain ⟨f9, kk9, hf9, hkk9, hk⟩ := hq; refine T.block ?_; refine T.loop (ι := Nat) (fun z => [(1, vl), (2, .int .i64 n), (3, .pointer (some ⟨g3, 0, none⟩)), (9, .int .i64 (z : Int))]) (fun z => [.row g3 29 [vp_0, vp_1, vp_2, vp_3], .fr F1]) (fun z => zai f9 kk9 (p.Rules.Caps.length - z) z () = r) (fun z => p.Rules.Caps.length - z) 0 ?_ ?_ ?_ ?_
      · exact hk
      · exact (.c (.c (.c (.c .nil))))
      · exact List.Sublist.refl _
      · rintro i_10 hk; refine T.seq (T.sr ?_); refine TL.run 1 rfl ?_; refine TL.y (Yv.fieldAddr rfl rfl) ?_; refine TL.y (Yv.fieldAddr rfl rfl) ?_; refine TL.y (Yv.a 0 rfl rfl rfl rfl) ?_; refine TL.y (Yv.an rfl rfl hp_3 (List.length_map _)) ?_; have hm47 : p.Rules.Caps.length ≤ 9223372036854775807 := (List.length_map _) ▸ hp_3.max; refine TL.run 1 rfl ?_; refine TL.ns ?_; refine T.cond rfl (fun h11 => ?_) (fun h11 => ?_)
        · have p11 := of_decide_eq_true h11; rw [zat (by omega)] at hk; generalize hn9 : zai f9 kk9 (p.Rules.Caps.length - (i_10 + 1)) (i_10 + 1) = next9 at hk; rw [← hf9] at hk; (try dsimp only at hk); refine T.skip (K.seq (T.seq ?_)); have hq := zae hk; clear hk; obtain ⟨k12, hk12, hk⟩ := hq; (try dsimp only at hk); refine T.af (ι := Unit) (fun z => [(1, vl), (2, .int .i64 n), (3, .pointer (some ⟨g3, 0, none⟩)), (9, .int .i64 (i_10 : Int))]) (fun z => [.row g3 29 [vp_0, vp_1, vp_2, vp_3], .fr F1]) (fun z => k12 () = r) ?_ ?_
          · refine T.block (T.sr ?_); refine TL.y (Yv.fieldAddr rfl rfl) ?_; refine TL.y (Yv.fieldAddr rfl rfl) ?_; refine TL.y (Yv.a 0 rfl rfl rfl rfl) ?_; refine TL.run 1 rfl ?_; refine TL.y (Yv.am (i := i_10) rfl rfl rfl hp_3 (List.length_map _) rfl (by omega)) ?_; refine TL.y (Yv.aq 1 (i := i_10) rfl rfl rfl hp_3 (by omega) rfl rfl rfl) ?_; refine TL.e (Ew.alloc rfl) ?_; rintro _ _ ⟨g10, rfl, rfl⟩; refine TL.e0 (Ew.ak 0 rfl rfl rfl rfl rfl rfl) ?_; rintro _ _ ⟨rfl, rfl⟩; refine TL.ns (T.seq (T.sr ?_)); refine TL.y (Yv.aj 1 rfl rfl rfl rfl) ?_; refine TL.y (Yv.aj 0 rfl rfl rfl rfl) ?_; refine TL.run 1 rfl ?_; refine TL.e (Ew.ah rfl rfl rfl (fun w hw => zdx _ w (hw.fr (i := 2) rfl) p vp_0 cp_0 hp_0 vp_1 hp_1 vp_2 hp_2 vp_3 hp_3 (nth p.Rules.Caps i_10) l vl hl)) ?_; rintro _ _ ⟨rfl, rfl⟩; refine TL.run 1 rfl ?_; refine TL.ns ?_; refine T.cond rfl (fun h13 => ?_) (fun h13 => ?_)
            · replace hk := zaa hk h13; refine T.exit (K.aa (K.ad ?_)); refine K.pick [1, 2] rfl (by decide) ?_; exact K.ae () hk (.c (.c (.c (.c .nil)))) (List.Sublist.refl _)
            · replace hk := zab hk h13; refine T.skip (K.seq (T.seq (T.sr ?_))); refine TL.y (Yv.fieldAddr rfl rfl) ?_; refine TL.y (Yv.a 0 rfl rfl rfl rfl) ?_; refine TL.run 2 rfl ?_; refine TL.ns ?_; refine T.cond rfl (fun h14 => ?_) (fun h14 => ?_)
              · have p14 := of_decide_eq_true h14; replace hk := zaa hk h14; refine T.sr ?_; refine TL.run 1 rfl ?_; refine TL.ns (T.ret (K.ab (K.ag (K.ab (K.ab (K.ag (K.ab ?_))))))); subst hk; exact K.ai rfl rfl (fun w' hw => ⟨rfl, hw.isBelow⟩)
              · have p14 := of_decide_eq_false h14; replace hk := zab hk h14; refine T.skip (K.seq (T.sr ?_)); refine TL.run 1 rfl ?_; refine TL.y (Yv.fieldAddr rfl rfl) ?_; refine TL.y (Yv.a 0 rfl rfl rfl rfl) ?_; refine TL.e (Ew.ah rfl rfl rfl (fun w hw => zcV _ w (hw.fr (i := 2) rfl) l vl hl ((nth p.Rules.Caps i_10).Station))) ?_; rintro _ _ ⟨rfl, rfl⟩; refine TL.run 1 rfl ?_; refine TL.nx ?_; refine TL.run 1 rfl ?_; refine TL.ns ?_; have hq := zak hk; clear hk; obtain ⟨f15, kk15, hf15, hkk15, hk⟩ := hq; refine T.block ?_; refine T.loop (ι := Nat) (fun z => [(1, vl), (2, .int .i64 n), (3, .pointer (some ⟨g3, 0, none⟩)), (9, .int .i64 (i_10 : Int)), (10, .pointer (some ⟨g10, 0, none⟩)), (11, .int .i64 (zax l ((nth p.Rules.Caps i_10).Station))), (12, .int .i64 (z : Int))]) (fun z => [.row g10 76 [.int .i64 ((nth p.Rules.Caps i_10).Station), .int .i64 ((nth p.Rules.Caps i_10).Max), .int .i64 ((nth p.Rules.Caps i_10).Low), .int .i64 ((nth p.Rules.Caps i_10).High)], .row g3 29 [vp_0, vp_1, vp_2, vp_3], .fr F1]) (fun z => zai f15 kk15 (p.Rules.Loads.length - z) z () = r) (fun z => p.Rules.Loads.length - z) 0 ?_ ?_ ?_ ?_
                · exact hk
                · exact (.c (.c (.c (.c (.c (.c (.c .nil)))))))
                · exact List.Sublist.refl _
                · rintro k_16 hk; refine T.seq (T.sr ?_); refine TL.run 1 rfl ?_; refine TL.y (Yv.fieldAddr rfl rfl) ?_; refine TL.y (Yv.fieldAddr rfl rfl) ?_; refine TL.y (Yv.a 1 rfl rfl rfl rfl) ?_; refine TL.y (Yv.an rfl rfl hp_2 (List.length_map _)) ?_; have hm74 : p.Rules.Loads.length ≤ 9223372036854775807 := (List.length_map _) ▸ hp_2.max; refine TL.run 1 rfl ?_; refine TL.ns ?_; refine T.cond rfl (fun h17 => ?_) (fun h17 => ?_)
                  · have p17 := of_decide_eq_true h17; rw [zat (by omega)] at hk; generalize hn15 : zai f15 kk15 (p.Rules.Loads.length - (k_16 + 1)) (k_16 + 1) = next15 at hk; rw [← hf15] at hk; (try dsimp only at hk); refine T.skip (K.seq (T.seq (T.block (T.sr ?_)))); refine TL.y (Yv.fieldAddr rfl rfl) ?_; refine TL.y (Yv.fieldAddr rfl rfl) ?_; refine TL.y (Yv.a 1 rfl rfl rfl rfl) ?_; refine TL.run 1 rfl ?_; refine TL.y (Yv.am (i := k_16) rfl rfl rfl hp_2 (List.length_map _) rfl (by omega)) ?_; refine TL.y (Yv.aq 2 (i := k_16) rfl rfl rfl hp_2 (by omega) rfl rfl rfl) ?_; refine TL.e (Ew.alloc rfl) ?_; rintro _ _ ⟨g13, rfl, rfl⟩; refine TL.e0 (Ew.ak 0 rfl rfl rfl rfl rfl rfl) ?_; rintro _ _ ⟨rfl, rfl⟩; refine TL.ns (T.seq ?_); refine T.af (ι := Unit) (fun z => [(1, vl), (2, .int .i64 n), (3, .pointer (some ⟨g3, 0, none⟩)), (9, .int .i64 (i_10 : Int)), (10, .pointer (some ⟨g10, 0, none⟩)), (11, .int .i64 (zax l ((nth p.Rules.Caps i_10).Station))), (12, .int .i64 (k_16 : Int)), (113, .bool (((((decide ((nth p.Rules.Loads k_16).To = (nth p.Rules.Caps i_10).Station)) && (decide ((nth p.Rules.Loads k_16).From = n))) && (decide ((zax l n) = (zax l ((nth p.Rules.Caps i_10).Station))))) && (decide ((nth p.Rules.Loads k_16).Low ≤ (zax l ((nth p.Rules.Caps i_10).Station))))) && (decide ((zax l ((nth p.Rules.Caps i_10).Station)) ≤ (nth p.Rules.Loads k_16).High))))]) (fun z => [.row g13 74 [.int .i64 ((nth p.Rules.Loads k_16).To), .int .i64 ((nth p.Rules.Loads k_16).From), .int .i64 ((nth p.Rules.Loads k_16).Weight), .int .i64 ((nth p.Rules.Loads k_16).Low), .int .i64 ((nth p.Rules.Loads k_16).High)], .row g10 76 [.int .i64 ((nth p.Rules.Caps i_10).Station), .int .i64 ((nth p.Rules.Caps i_10).Max), .int .i64 ((nth p.Rules.Caps i_10).Low), .int .i64 ((nth p.Rules.Caps i_10).High)], .row g3 29 [vp_0, vp_1, vp_2, vp_3], .fr F1]) (fun z => True) ?_ ?_
                    · refine T.region ?_; refine TL.y (Yv.fieldAddr rfl rfl) ?_; refine TL.y (Yv.a 0 rfl rfl rfl rfl) ?_; refine TL.y (Yv.fieldAddr rfl rfl) ?_; refine TL.y (Yv.a 1 rfl rfl rfl rfl) ?_; refine TL.run 2 rfl ?_; refine TL.gs rfl rfl rfl (fun h18 => ?_) (fun h18 => ?_)
                      · have p18 := of_decide_eq_true h18; refine TL.y (Yv.fieldAddr rfl rfl) ?_; refine TL.y (Yv.a 0 rfl rfl rfl rfl) ?_; refine TL.run 4 rfl ?_; refine TL.gs rfl rfl rfl (fun h19 => ?_) (fun h19 => ?_)
                        · have p19 := of_decide_eq_true h19; refine TL.run 2 rfl ?_; refine TL.e (Ew.ah rfl rfl rfl (fun w hw => zcV _ w (hw.fr (i := 3) rfl) l vl hl n)) ?_; rintro _ _ ⟨rfl, rfl⟩; refine TL.run 4 rfl ?_; refine TL.gs rfl rfl rfl (fun h20 => ?_) (fun h20 => ?_)
                          · have p20 := of_decide_eq_true h20; refine TL.y (Yv.fieldAddr rfl rfl) ?_; refine TL.y (Yv.a 0 rfl rfl rfl rfl) ?_; refine TL.run 4 rfl ?_; refine TL.gs rfl rfl rfl (fun h21 => ?_) (fun h21 => ?_)
                            · have p21 := of_decide_eq_true h21; refine TL.run 1 rfl ?_; refine TL.y (Yv.fieldAddr rfl rfl) ?_; refine TL.y (Yv.a 0 rfl rfl rfl rfl) ?_; refine TL.run 2 rfl ?_; refine TL.nil ?_; exact K.ae () trivial (.c (.c (.c (.c (.c (.c (.c (.b (zdd (za4 (za4 (za4 h18 h19) h20) h21)) .nil)))))))) (List.Sublist.refl _)
                            · have p21 := of_decide_eq_false h21; refine TL.run 5 rfl ?_; refine TL.nil ?_; exact K.ae () trivial (.c (.c (.c (.c (.c (.c (.c (.b (zaD (za4 (za4 (za4 h18 h19) h20) h21)).symm .nil)))))))) (List.Sublist.refl _)
                          · have p20 := of_decide_eq_false h20; refine TL.run 11 rfl ?_; refine TL.nil ?_; exact K.ae () trivial (.c (.c (.c (.c (.c (.c (.c (.b (zaD (zaD (za4 (za4 h18 h19) h20))).symm .nil)))))))) (List.Sublist.refl _)
                        · have p19 := of_decide_eq_false h19; refine TL.run 18 rfl ?_; refine TL.nil ?_; exact K.ae () trivial (.c (.c (.c (.c (.c (.c (.c (.b (zaD (zaD (zaD (za4 h18 h19)))).symm .nil)))))))) (List.Sublist.refl _)
                      · have p18 := of_decide_eq_false h18; refine TL.run 24 rfl ?_; refine TL.nil ?_; exact K.ae () trivial (.c (.c (.c (.c (.c (.c (.c (.b (zaD (zaD (zaD (zaD h18)))).symm .nil)))))))) (List.Sublist.refl _)
                    · rintro _ _; refine T.cond rfl (fun h22 => ?_) (fun h22 => ?_)
                      · have p22 := h22; (try simp only [nfB] at p22); replace hk := zaa hk h22; refine T.sr ?_; refine TL.run 1 rfl ?_; refine TL.ns (T.ret (K.ag (K.ab (K.ab (K.ag (K.ag (K.ab (K.ab (K.ag (K.ab ?_)))))))))); subst hk; exact K.ai rfl rfl (fun w' hw => ⟨rfl, hw.isBelow⟩)
                      · replace hk := zab hk h22; refine T.skip (K.ac (K.seq (T.region ?_))); refine TL.run 1 rfl ?_; refine TL.y (Yv.ao rfl rfl rfl (by omega)) ?_; refine TL.run 1 rfl ?_; refine TL.nil ?_; rw [← hn15] at hk; refine K.pick [1, 2, 3] rfl (by decide) ?_; exact K.next (k_16 + 1) hk (by omega) (.c (.c (.c (.c (.c (.c (.c .nil))))))) (List.Sublist.refl _)
                  · have p17 := of_decide_eq_false h17; rw [zas (by omega), ← hkk15] at hk; (try dsimp only at hk); refine T.exit (K.aa (K.aa (K.ad (K.ac ?_)))); refine K.pick [1, 2] rfl (by decide) ?_; exact K.ae () hk (.c (.c (.c (.c .nil)))) (List.Sublist.refl _)
          · rintro _ hk; rw [← hk12] at hk; (try dsimp only at hk); refine T.region ?_; refine TL.run 1 rfl ?_; refine TL.y (Yv.ao rfl rfl rfl (by omega)) ?_; refine TL.run 1 rfl ?_; refine TL.nil ?_; rw [← hn9] at hk; exact K.next (i_10 + 1) hk (by omega) (.c (.c (.c (.c .nil)))) (List.Sublist.refl _)
        · have p11 := of_decide_eq_false h11; rw [zas (by omega), ← hkk9] at hk; (try dsimp only at hk); refine T.exit (K.aa (K.aa (K.ad ?_))); refine K.pick [1] rfl (by decide) ?_; exact K.ae () hk .nil (List.Sublist.refl _)
    · rintro _ hk; rw [← hk8] at hk; (try dsimp only at hk); refine T.sr ?_; refine TL.run 1 rfl ?_; refine TL.ns (T.ret ?_); subst hk; exact K.ai rfl rfl (fun w' hw => ⟨rfl, hw.isBelow⟩)
def zbX (p : GProblem) (l : List GChoice) : Option (List Int) :=
  zaB (fun (out_1 : List Int) =>
    some out_1)
  (fun k2 =>
    zai (fun (i_5 : Nat) (next4 : List Int → Option (List Int)) (out_3 : List Int) =>
      (bif (zbW p l ((nth p.Domains i_5).Station)) then
        grd (room (out_3 ++ [(nth p.Domains i_5).Station]).length 8) <|
        next4 (out_3 ++ [(nth p.Domains i_5).Station])
        else
        next4 out_3))
    (fun (out_3 : List Int) =>
      k2 out_3) (p.Domains.length - 0) 0 [])
theorem ze2 (F0 : Frz) (w : World) (hF0 : F0.At w) (p : GProblem) (vp_0 : Value) (cp_0 : List (List Value)) (hp_0 : SlD GDomain.rep F0 vp_0 2 cp_0 p.Domains) (vp_1 : Value) (hp_1 : SlC F0 vp_1 5 (p.Rules.Pairs.map GPair.enc)) (vp_2 : Value) (hp_2 : SlC F0 vp_2 5 (p.Rules.Loads.map GLoad.enc)) (vp_3 : Value) (hp_3 : SlC F0 vp_3 4 (p.Rules.Caps.map GCap.enc)) (l : List GChoice) (vl : Value) (hl : SlC F0 vl 2 (l.map GChoice.enc)) (r : List Int) (hr : zbX p l = some r) : Calls Tryz.prog 16 #[.agg [vp_0, vp_1, vp_2, vp_3].toArray, vl] w fun e w' => ∃ (y : Value) (G : Frz), (SlC G y 1 (r.map eI)) ∧ e = .returned (y) ∧ Fx F0 w G w' := by
  have hk := hr; unfold zbX at hk; haveI := hp_0.1.oneC; haveI := hp_1.oneC; haveI := hp_2.oneC; haveI := hp_3.oneC; haveI := hl.oneC; obtain ⟨S0, F1, rfl, hS0, hp0⟩ := zam hF0; refine zar Tryz.func16 rfl rfl rfl hp0 ?_; refine T.sr ?_; refine TL.e (Ew.ay rfl rfl) ?_; rintro _ _ ⟨g2, rfl, rfl⟩; refine TL.run 1 rfl ?_; refine TL.nx ?_; refine TL.run 1 rfl ?_; refine TL.slNil 3 1 ?_; refine TL.ns (T.seq (T.sr ?_)); refine TL.run 1 rfl ?_; refine TL.ns ?_; have hq := zae hk; clear hk; obtain ⟨k2, hk2, hk⟩ := hq; (try dsimp only at hk); refine T.af (ι := List Int × Value) (fun z => [(5, z.2)]) (fun z => [.sl z.2 3 1 z.1.length (z.1.flatMap eI), .fr F1]) (fun z => k2 z.1 = some r ∧ OneC z.2) ?_ ?_
  · have hq := zak hk; clear hk; obtain ⟨f4, kk4, hf4, hkk4, hk⟩ := hq; refine T.block ?_; refine T.loop (ι := Nat × List Int × Value) (fun z => [(1, vl), (2, .pointer (some ⟨g2, 0, none⟩)), (5, z.2.2), (6, .int .i64 (z.1 : Int))]) (fun z => [.sl z.2.2 3 1 z.2.1.length (z.2.1.flatMap eI), .row g2 29 [vp_0, vp_1, vp_2, vp_3], .fr F1]) (fun z => zai f4 kk4 (p.Domains.length - z.1) z.1 z.2.1 = some r ∧ OneC z.2.2) (fun z => p.Domains.length - z.1) (0, [], (.slice none 0 0)) ?_ ?_ ?_ ?_
    · exact ⟨hk, inferInstance⟩
    · exact (.c (.c (.c (.c .nil))))
    · exact List.Sublist.refl _
    · rintro ⟨i_5, out_3, vout_3⟩ ⟨hk, oout_3⟩; (try dsimp only at *); refine T.seq (T.sr ?_); refine TL.run 1 rfl ?_; refine TL.y (Yv.fieldAddr rfl rfl) ?_; refine TL.y (Yv.a 1 rfl rfl rfl rfl) ?_; refine TL.y (Yv.an rfl rfl hp_0.1 hp_0.2.1) ?_; have hm10 : p.Domains.length ≤ 9223372036854775807 := hp_0.2.1 ▸ hp_0.1.max; refine TL.run 1 rfl ?_; refine TL.ns ?_; refine T.cond rfl (fun h6 => ?_) (fun h6 => ?_)
      · have p6 := of_decide_eq_true h6; rw [zat (by omega)] at hk; generalize hn4 : zai f4 kk4 (p.Domains.length - (i_5 + 1)) (i_5 + 1) = next4 at hk; rw [← hf4] at hk; (try dsimp only at hk); refine T.skip (K.seq (T.seq (T.block (T.seq ?_)))); refine T.aw (.still 0 (.still 1 (.still 2 (.still 3 (.still 4 (.still 5 (.still 6 (.still 7 (.eff 8 .done))))))))) _ (by kernel_rfl) (List.Sublist.refl _) ?_; refine TS.y rfl (Yv.aj 1 rfl rfl rfl rfl) ?_; refine TS.run 1 rfl ?_; refine TS.y rfl (Yv.fieldAddr rfl rfl) ?_; refine TS.y rfl (Yv.a 1 rfl rfl rfl rfl) ?_; refine TS.run 1 rfl ?_; refine TS.y rfl (Yv.am (i := i_5) rfl rfl rfl hp_0.1 hp_0.2.1 rfl (by omega)) ?_; refine TS.y rfl (Yv.aG rfl rfl hp_0.1 hp_0.2.1 (by omega)) ?_; refine TS.y rfl (Yv.aP 2 (i := i_5) (j := 0) rfl rfl rfl hp_0.1 hp_0.2.1 (by omega) rfl (GDomain.c0 (hp_0.2.2 i_5 (by omega)))) ?_; refine TS.eff ?_; refine TSo.as rfl (Wt.none rfl) rfl rfl (Ew.ah rfl rfl rfl (fun w hw => ze4 _ w (hw.fr (i := 2) rfl) p vp_0 cp_0 hp_0 vp_1 hp_1 vp_2 hp_2 vp_3 hp_3 l vl hl ((nth p.Domains i_5).Station))) ?_; rintro _ _ ⟨rfl, rfl⟩; refine ⟨(fun w hw => hw.sub Sx), ?_⟩; refine TS.done ?_; refine K.seq ?_; refine T.cond rfl (fun h7 => ?_) (fun h7 => ?_)
        · replace hk := zaa hk h7; have hq : (room (out_3 ++ [(nth p.Domains i_5).Station]).length 8) ∧ _ := zap hk; clear hk; obtain ⟨g31, hk⟩ := hq; (try dsimp only at hk); refine T.region ?_; refine TL.run 1 rfl ?_; refine TL.y (Yv.fieldAddr rfl rfl) ?_; refine TL.y (Yv.a 1 rfl rfl rfl rfl) ?_; refine TL.run 1 rfl ?_; refine TL.y (Yv.am (i := i_5) rfl rfl rfl hp_0.1 hp_0.2.1 rfl (by omega)) ?_; refine TL.y (Yv.aG rfl rfl hp_0.1 hp_0.2.1 (by omega)) ?_; refine TL.y (Yv.aP 2 (i := i_5) (j := 0) rfl rfl rfl hp_0.1 hp_0.2.1 (by omega) rfl (GDomain.c0 (hp_0.2.2 i_5 (by omega)))) ?_; refine TL.e (Ew.buildSlice rfl rfl rfl (by decide)) ?_; rintro _ _ ⟨g30, rfl, rfl⟩; refine TL.e (Ew.ax 1 0 rfl rfl rfl rfl rfl rfl (zbB (ys := [(nth p.Domains i_5).Station]) rfl) (zbd (enc := eI) (xs := out_3) (ys := [(nth p.Domains i_5).Station])) g31 (by decide)) ?_; rintro v31 _ ⟨hv31, rfl⟩; refine TL.run 1 rfl ?_; refine TL.nil (K.ac (K.seq (T.region ?_))); refine TL.run 1 rfl ?_; refine TL.y (Yv.ao rfl rfl rfl (by omega)) ?_; refine TL.run 1 rfl ?_; refine TL.nil ?_; rw [← hn4] at hk; refine K.pick [1, 2, 3] rfl (by decide) ?_; exact K.next ((i_5 + 1), (out_3 ++ [(nth p.Domains i_5).Station]), v31) ⟨hk, inferInstance⟩ (by dsimp only; omega) (.c (.c (.c (.c .nil)))) (List.Sublist.refl _)
        · replace hk := zab hk h7; refine T.skip (K.ac (K.seq (T.region ?_))); refine TL.run 1 rfl ?_; refine TL.y (Yv.ao rfl rfl rfl (by omega)) ?_; refine TL.run 1 rfl ?_; refine TL.nil ?_; rw [← hn4] at hk; exact K.next ((i_5 + 1), out_3, vout_3) ⟨hk, inferInstance⟩ (by dsimp only; omega) (.c (.c (.c (.c .nil)))) (List.Sublist.refl _)
      · have p6 := of_decide_eq_false h6; rw [zas (by omega), ← hkk4] at hk; (try dsimp only at hk); refine T.exit (K.aa (K.aa (K.ad ?_))); refine K.pick [0, 2] rfl (by decide) ?_; exact K.ae (out_3, vout_3) ⟨hk, inferInstance⟩ (.c .nil) (List.Sublist.refl _)
  · rintro ⟨out_1, vout_1⟩ ⟨hk, oout_1⟩; (try dsimp only at *); rw [← hk2] at hk; (try dsimp only at hk); refine T.sr ?_; refine TL.run 2 rfl ?_; refine TL.ns (T.ret ?_); refine K.av (fun w hw => hw.freezeS (i := 1) (j := 0) (by decide) rfl rfl) ?_; rintro F2 ⟨le1_2, hz2⟩; dsimp only [List.set, List.eraseIdx]; have hf2 := hz2.toF rfl (fun _ => rfl); haveI := hf2.oneC; obtain rfl := Option.some.inj hk; exact K.ai rfl rfl (fun w' hw => ⟨vout_1, F2.toFrz, hf2, rfl, Fx.of hw (i := 0) rfl hS0 le1_2⟩)
def zcz (l : List GChoice) (n : Int) (c : Int) : Option (List GChoice) :=
  zaB (fun (out_1 : List GChoice) =>
    some out_1)
  (fun k2 =>
    zai (fun (i_5 : Nat) (next4 : List GChoice → Option (List GChoice)) (out_3 : List GChoice) =>
      zaB (fun (c_7 : Int) =>
        grd (room (out_3 ++ [(GChoice.mk ((nth l i_5).Station) c_7)]).length 16) <|
        next4 (out_3 ++ [(GChoice.mk ((nth l i_5).Station) c_7)]))
      (fun k8 =>
        (bif decide ((nth l i_5).Station = n) then
          k8 c
          else
          k8 ((nth l i_5).Channel))))
    (fun (out_3 : List GChoice) =>
      k2 out_3) (l.length - 0) 0 [])
theorem zeo (F0 : Frz) (w : World) (hF0 : F0.At w) (l : List GChoice) (vl : Value) (hl : SlC F0 vl 2 (l.map GChoice.enc)) (n : Int) (c : Int) (r : List GChoice) (hr : zcz l n c = some r) : Calls Tryz.prog 49 #[vl, .int .i64 n, .int .i64 c] w fun e w' => ∃ (y : Value) (G : Frz), (SlC G y 2 (r.map GChoice.enc)) ∧ e = .returned (y) ∧ Fx F0 w G w' := by
  have hk := hr; unfold zcz at hk; haveI := hl.oneC; obtain ⟨S0, F1, rfl, hS0, hp0⟩ := zam hF0; refine zar Tryz.func49 rfl rfl rfl hp0 ?_; refine T.sr ?_; refine TL.run 1 rfl ?_; refine TL.nx ?_; refine TL.run 1 rfl ?_; refine TL.slNil 60 2 ?_; refine TL.ns (T.seq (T.sr ?_)); refine TL.run 1 rfl ?_; refine TL.ns ?_; have hq := zae hk; clear hk; obtain ⟨k2, hk2, hk⟩ := hq; (try dsimp only at hk); refine T.af (ι := List GChoice × Value) (fun z => [(7, z.2)]) (fun z => [.sl z.2 60 2 z.1.length (z.1.flatMap GChoice.enc), .fr F1]) (fun z => k2 z.1 = some r ∧ OneC z.2) ?_ ?_
  · have hq := zak hk; clear hk; obtain ⟨f4, kk4, hf4, hkk4, hk⟩ := hq; refine T.block ?_; refine T.loop (ι := Nat × List GChoice × Value) (fun z => [(0, vl), (1, .int .i64 n), (2, .int .i64 c), (7, z.2.2), (8, .int .i64 (z.1 : Int))]) (fun z => [.sl z.2.2 60 2 z.2.1.length (z.2.1.flatMap GChoice.enc), .fr F1]) (fun z => zai f4 kk4 (l.length - z.1) z.1 z.2.1 = some r ∧ OneC z.2.2) (fun z => l.length - z.1) (0, [], (.slice none 0 0)) ?_ ?_ ?_ ?_
    · exact ⟨hk, inferInstance⟩
    · exact (.c (.c (.c (.c (.c .nil)))))
    · exact List.Sublist.refl _
    · rintro ⟨i_5, out_3, vout_3⟩ ⟨hk, oout_3⟩; (try dsimp only at *); refine T.seq (T.sr ?_); refine TL.run 2 rfl ?_; refine TL.y (Yv.an rfl rfl hl (List.length_map _)) ?_; have hm12 : l.length ≤ 9223372036854775807 := (List.length_map _) ▸ hl.max; refine TL.run 1 rfl ?_; refine TL.ns ?_; refine T.cond rfl (fun h6 => ?_) (fun h6 => ?_)
      · have p6 := of_decide_eq_true h6; rw [zat (by omega)] at hk; generalize hn4 : zai f4 kk4 (l.length - (i_5 + 1)) (i_5 + 1) = next4 at hk; rw [← hf4] at hk; (try dsimp only at hk); refine T.skip (K.seq (T.seq (T.block (T.sr ?_)))); refine TL.run 2 rfl ?_; refine TL.y (Yv.am (i := i_5) rfl rfl rfl hl (List.length_map _) rfl (by omega)) ?_; refine TL.y (Yv.aq 1 (i := i_5) rfl rfl rfl hl (by omega) rfl rfl rfl) ?_; refine TL.e (Ew.alloc rfl) ?_; rintro _ _ ⟨g9, rfl, rfl⟩; refine TL.e0 (Ew.ak 0 rfl rfl rfl rfl rfl rfl) ?_; rintro _ _ ⟨rfl, rfl⟩; refine TL.ns (T.seq (T.sr ?_)); refine TL.y (Yv.fieldAddr rfl rfl) ?_; refine TL.y (Yv.a 0 rfl rfl rfl rfl) ?_; refine TL.run 2 rfl ?_; refine TL.ns ?_; have hq := zae hk; clear hk; obtain ⟨k8, hk8, hk⟩ := hq; (try dsimp only at hk); refine T.af (ι := Int) (fun z => [(0, vl), (1, .int .i64 n), (2, .int .i64 c), (7, vout_3), (8, .int .i64 (i_5 : Int)), (9, .pointer (some ⟨g9, 0, none⟩))]) (fun z => [.row g9 60 [.int .i64 ((nth l i_5).Station), .int .i64 z], .sl vout_3 60 2 out_3.length (out_3.flatMap GChoice.enc), .fr F1]) (fun z => k8 z = some r) ?_ ?_
        · refine T.cond rfl (fun h9 => ?_) (fun h9 => ?_)
          · have p9 := of_decide_eq_true h9; replace hk := zaa hk h9; refine T.region ?_; refine TL.run 1 rfl ?_; refine TL.y (Yv.fieldAddr rfl rfl) ?_; refine TL.e0 (Ew.aZ 0 rfl rfl rfl rfl (by simp)) ?_; rintro _ _ ⟨rfl, rfl⟩; refine TL.nil ?_; exact K.ae c hk (.c (.c (.c (.c (.c (.c .nil)))))) (List.Sublist.refl _)
          · have p9 := of_decide_eq_false h9; replace hk := zab hk h9; refine T.skip ?_; exact K.ae ((nth l i_5).Channel) hk (.c (.c (.c (.c (.c (.c .nil)))))) (List.Sublist.refl _)
        · rintro c_7 hk; rw [← hk8] at hk; (try dsimp only at hk); have hq : (room (out_3 ++ [(GChoice.mk ((nth l i_5).Station) c_7)]).length 16) ∧ _ := zap hk; clear hk; obtain ⟨g29, hk⟩ := hq; (try dsimp only at hk); refine T.region ?_; refine TL.run 1 rfl ?_; refine TL.y (Yv.aj 0 rfl rfl rfl rfl) ?_; refine TL.e (Ew.buildSlice rfl rfl rfl (by decide)) ?_; rintro _ _ ⟨g28, rfl, rfl⟩; refine TL.e (Ew.ax 2 0 rfl rfl rfl rfl rfl rfl (zbB (ys := [(GChoice.mk ((nth l i_5).Station) c_7)]) rfl) (zbd (enc := GChoice.enc) (xs := out_3) (ys := [(GChoice.mk ((nth l i_5).Station) c_7)])) g29 (by decide)) ?_; rintro v29 _ ⟨hv29, rfl⟩; refine TL.run 1 rfl ?_; refine TL.nil (K.ac (K.seq (T.region ?_))); refine TL.run 1 rfl ?_; refine TL.y (Yv.ao rfl rfl rfl (by omega)) ?_; refine TL.run 1 rfl ?_; refine TL.nil ?_; rw [← hn4] at hk; refine K.pick [2, 3] rfl (by decide) ?_; exact K.next ((i_5 + 1), (out_3 ++ [(GChoice.mk ((nth l i_5).Station) c_7)]), v29) ⟨hk, inferInstance⟩ (by dsimp only; omega) (.c (.c (.c (.c (.c .nil))))) (List.Sublist.refl _)
      · have p6 := of_decide_eq_false h6; rw [zas (by omega), ← hkk4] at hk; (try dsimp only at hk); refine T.exit (K.aa (K.aa (K.ad ?_))); exact K.ae (out_3, vout_3) ⟨hk, inferInstance⟩ (.c .nil) (List.Sublist.refl _)
  · rintro ⟨out_1, vout_1⟩ ⟨hk, oout_1⟩; (try dsimp only at *); rw [← hk2] at hk; (try dsimp only at hk); refine T.sr ?_; refine TL.run 2 rfl ?_; refine TL.ns (T.ret ?_); refine K.av (fun w hw => hw.freezeS (i := 1) (j := 0) (by decide) rfl rfl) ?_; rintro F2 ⟨le1_2, hz2⟩; dsimp only [List.set, List.eraseIdx]; have hf2 := hz2.toF rfl GChoice.len; haveI := hf2.oneC; obtain rfl := Option.some.inj hk; exact K.ai rfl rfl (fun w' hw => ⟨vout_1, F2.toFrz, hf2, rfl, Fx.of hw (i := 0) rfl hS0 le1_2⟩)
def zcT (p : GProblem) (l : List GChoice) (n : Int) : Option (List Int) :=
  grd (0 ≤ (zaq p n) ∧ (zaq p n) < (p.Domains.length : Int)) <|
  zaB (fun (out_1 : List Int) =>
    some out_1)
  (fun k2 =>
    zai (fun (i_6 : Nat) (next5 : (List Int × Int) → Option (List Int)) (s5 : List Int × Int) =>
      zaB (fun (s10 : List Int × Int) =>
        next5 (s10.1, s10.2))
      (fun k10 =>
        (bif decide ((nth ((nth p.Domains ((zaq p n).toNat)).Channels) i_6) = (zax l n)) then
          k10 (s5.1, s5.2)
          else
          (zcz l n (nth ((nth p.Domains ((zaq p n).toNat)).Channels) i_6)).bind fun r41 =>
          zaB (fun (s15 : List Int × Int) =>
            (bif decide ((zbu p r41) = s15.2) then
              grd (room (s15.1 ++ [(nth ((nth p.Domains ((zaq p n).toNat)).Channels) i_6)]).length 8) <|
              k10 ((s15.1 ++ [(nth ((nth p.Domains ((zaq p n).toNat)).Channels) i_6)]), s15.2)
              else
              k10 (s15.1, s15.2)))
          (fun k15 =>
            (bif ((decide ((s5.1.length : Int) = 0)) || (decide ((zbu p r41) < s5.2))) then
              k15 ([], (zbu p r41))
              else
              k15 (s5.1, s5.2))))))
    (fun (s5 : List Int × Int) =>
      k2 s5.1) ((((nth p.Domains ((zaq p n).toNat)).Channels).length) - 0) 0 ([], 0))
theorem zgv (F0 : Frz) (w : World) (hF0 : F0.At w) (p : GProblem) (vp_0 : Value) (cp_0 : List (List Value)) (hp_0 : SlD GDomain.rep F0 vp_0 2 cp_0 p.Domains) (vp_1 : Value) (hp_1 : SlC F0 vp_1 5 (p.Rules.Pairs.map GPair.enc)) (vp_2 : Value) (hp_2 : SlC F0 vp_2 5 (p.Rules.Loads.map GLoad.enc)) (vp_3 : Value) (hp_3 : SlC F0 vp_3 4 (p.Rules.Caps.map GCap.enc)) (l : List GChoice) (vl : Value) (hl : SlC F0 vl 2 (l.map GChoice.enc)) (n : Int) (r : List Int) (hr : zcT p l n = some r) : Calls Tryz.prog 48 #[.agg [vp_0, vp_1, vp_2, vp_3].toArray, vl, .int .i64 n] w fun e w' => ∃ (y : Value) (G : Frz), (SlC G y 1 (r.map eI)) ∧ e = .returned (y) ∧ Fx F0 w G w' := by
  have hk := hr; unfold zcT at hk; haveI := hp_0.1.oneC; haveI := hp_1.oneC; haveI := hp_2.oneC; haveI := hp_3.oneC; haveI := hl.oneC; obtain ⟨S0, F1, rfl, hS0, hp0⟩ := zam hF0; refine zar Tryz.func48 rfl rfl rfl hp0 ?_; refine T.sr ?_; refine TL.e (Ew.ay rfl rfl) ?_; rintro _ _ ⟨g3, rfl, rfl⟩; refine TL.run 1 rfl ?_; refine TL.nx ?_; refine TL.run 1 rfl ?_; refine TL.slNil 3 1 ?_; refine TL.nx ?_; refine TL.run 1 rfl ?_; refine TL.ns (T.seq ?_); have hq : (0 ≤ (zaq p n) ∧ (zaq p n) < (p.Domains.length : Int)) ∧ _ := zap hk; clear hk; obtain ⟨g17, hk⟩ := hq; (try dsimp only at hk); refine T.aw (.still 0 (.still 1 (.still 2 (.still 3 (.eff 4 (.still 5 (.still 6 (.still 7 (.still 8 .done))))))))) _ (by kernel_rfl) (List.Sublist.refl _) ?_; refine TS.y rfl (Yv.fieldAddr rfl rfl) ?_; refine TS.y rfl (Yv.a 1 rfl rfl rfl rfl) ?_; refine TS.y rfl (Yv.aj 1 rfl rfl rfl rfl) ?_; refine TS.run 1 rfl ?_; refine TS.eff ?_; refine TSo.as rfl (Wt.none rfl) rfl rfl (Ew.ah rfl rfl rfl (fun w hw => zcU _ w (hw.fr (i := 2) rfl) p vp_0 cp_0 hp_0 vp_1 hp_1 vp_2 hp_2 vp_3 hp_3 n)) ?_; rintro _ _ ⟨rfl, rfl⟩; refine ⟨(fun w hw => hw.sub Sx), ?_⟩; refine TS.y rfl (Yv.am (i := (zaq p n).toNat) rfl rfl rfl hp_0.1 hp_0.2.1 (by omega) (by omega)) ?_; refine TS.y rfl (Yv.aG rfl rfl hp_0.1 hp_0.2.1 (by omega)) ?_; refine TS.y rfl (Yv.aP 2 (i := (zaq p n).toNat) (j := 1) rfl rfl rfl hp_0.1 hp_0.2.1 (by omega) rfl (GDomain.c1 (hp_0.2.2 ((zaq p n).toNat) (by omega))).1) ?_; have hd19_1 := (GDomain.c1 (hp_0.2.2 ((zaq p n).toNat) (by omega))).2; haveI := hd19_1.oneC; refine TS.run 1 rfl ?_; refine TS.done ?_; refine K.seq (T.seq (T.sr ?_)); refine TL.run 1 rfl ?_; refine TL.ns ?_; have hq := zae hk; clear hk; obtain ⟨k2, hk2, hk⟩ := hq; (try dsimp only at hk); refine T.af (ι := List Int × Value × FzB w (fun _ => False) S0) (fun z => [(7, z.2.1)]) (fun z => [.sl z.2.1 3 1 z.1.length (z.1.flatMap eI), .fr z.2.2]) (fun z => k2 z.1 = some r ∧ OneC z.2.1 ∧ F1.toFrz.Le z.2.2.toFrz) ?_ ?_
  · have hq := zak hk; clear hk; obtain ⟨f5, kk5, hf5, hkk5, hk⟩ := hq; refine T.block ?_; refine T.loop (ι := Nat × List Int × Value × Int × FzB w (fun _ => False) S0) (fun z => [(1, vl), (2, .int .i64 n), (3, .pointer (some ⟨g3, 0, none⟩)), (7, z.2.2.1), (8, .int .i64 z.2.2.2.1), (9, (nth (nth cp_0 ((zaq p n).toNat)) 1)), (10, .int .i64 (z.1 : Int))]) (fun z => [.sl z.2.2.1 3 1 z.2.1.length (z.2.1.flatMap eI), .row g3 29 [vp_0, vp_1, vp_2, vp_3], .fr z.2.2.2.2]) (fun z => zai f5 kk5 ((((nth p.Domains ((zaq p n).toNat)).Channels).length) - z.1) z.1 (z.2.1, z.2.2.2.1) = some r ∧ OneC z.2.2.1 ∧ F1.toFrz.Le z.2.2.2.2.toFrz) (fun z => (((nth p.Domains ((zaq p n).toNat)).Channels).length) - z.1) (0, [], (.slice none 0 0), 0, F1) ?_ ?_ ?_ ?_
    · exact ⟨hk, inferInstance, (Frz.Le.refl _)⟩
    · exact (.c (.c (.c (.c (.c (.c (.c .nil)))))))
    · exact List.Sublist.refl _
    · rintro ⟨i_6, out_3, vout_3, least_4, F3⟩ ⟨hk, oout_3, le1_3⟩; (try dsimp only at *); refine T.seq (T.sr ?_); refine TL.run 2 rfl ?_; refine TL.y (Yv.an rfl rfl (SlC.mono hd19_1 le1_3) (List.length_map _)) ?_; have hm22 : ((nth p.Domains ((zaq p n).toNat)).Channels).length ≤ 9223372036854775807 := (List.length_map _) ▸ (SlC.mono hd19_1 le1_3).max; refine TL.run 1 rfl ?_; refine TL.ns ?_; refine T.cond rfl (fun h7 => ?_) (fun h7 => ?_)
      · have p7 := of_decide_eq_true h7; rw [zat (by omega)] at hk; generalize hn5 : zai f5 kk5 ((((nth p.Domains ((zaq p n).toNat)).Channels).length) - (i_6 + 1)) (i_6 + 1) = next5 at hk; rw [← hf5] at hk; (try dsimp only at hk); refine T.skip (K.seq (T.seq ?_)); have hq := zae hk; clear hk; obtain ⟨k10, hk10, hk⟩ := hq; (try dsimp only at hk); refine T.af (ι := List Int × Value × Int × FzB w (fun _ => False) S0) (fun z => [(1, vl), (2, .int .i64 n), (3, .pointer (some ⟨g3, 0, none⟩)), (7, z.2.1), (8, .int .i64 z.2.2.1), (9, (nth (nth cp_0 ((zaq p n).toNat)) 1)), (10, .int .i64 (i_6 : Int))]) (fun z => [.sl z.2.1 3 1 z.1.length (z.1.flatMap eI), .row g3 29 [vp_0, vp_1, vp_2, vp_3], .fr z.2.2.2]) (fun z => k10 (z.1, z.2.2.1) = some r ∧ OneC z.2.1 ∧ F3.toFrz.Le z.2.2.2.toFrz) ?_ ?_
        · refine T.block (T.seq (T.seq ?_)); refine T.aw (.still 0 (.still 1 (.still 2 (.still 3 (.still 4 (.still 5 (.eff 6 (.still 7 .done)))))))) _ (by kernel_rfl) (List.Sublist.refl _) ?_; refine TS.run 2 rfl ?_; refine TS.y rfl (Yv.am (i := i_6) rfl rfl rfl (SlC.mono hd19_1 le1_3) (List.length_map _) rfl (by omega)) ?_; refine TS.y rfl (Yv.ar 2 (i := i_6) (j := 0) rfl rfl rfl (SlC.mono hd19_1 le1_3) (by omega) rfl rfl) ?_; refine TS.run 2 rfl ?_; refine TS.eff ?_; refine TSo.as rfl (Wt.none rfl) rfl rfl (Ew.ah rfl rfl rfl (fun w hw => zcV _ w (hw.fr (i := 2) rfl) l vl (SlC.mono hl le1_3) n)) ?_; rintro _ _ ⟨rfl, rfl⟩; refine ⟨(fun w hw => hw.sub Sx), ?_⟩; refine TS.run 1 rfl ?_; refine TS.done ?_; refine K.seq ?_; refine T.cond rfl (fun h11 => ?_) (fun h11 => ?_)
          · have p11 := of_decide_eq_true h11; replace hk := zaa hk h11; refine T.exit (K.aa (K.ad ?_)); exact K.ae (out_3, vout_3, least_4, F3) ⟨hk, inferInstance, (Frz.Le.refl _)⟩ (.c (.c (.c (.c (.c (.c (.c .nil))))))) (List.Sublist.refl _)
          · have p11 := of_decide_eq_false h11; replace hk := zab hk h11; refine T.skip (K.seq (T.seq ?_)); have hq := zaj hk; clear hk; obtain ⟨r41, hr41, hk⟩ := hq; (try dsimp only at hk); refine T.aw (.still 0 (.still 1 (.still 2 (.still 3 (.still 4 (.still 5 (.still 6 (.eff 7 (.eff 8 (.still 9 .done)))))))))) _ (by kernel_rfl) (List.Sublist.refl _) ?_; refine TS.y rfl (Yv.aj 1 rfl rfl rfl rfl) ?_; refine TS.run 4 rfl ?_; refine TS.y rfl (Yv.am (i := i_6) rfl rfl rfl (SlC.mono hd19_1 le1_3) (List.length_map _) rfl (by omega)) ?_; refine TS.y rfl (Yv.ar 2 (i := i_6) (j := 0) rfl rfl rfl (SlC.mono hd19_1 le1_3) (by omega) rfl rfl) ?_; refine TS.eff ?_; refine TSo.as rfl (Wt.none rfl) rfl rfl (Ew.aA 2 rfl rfl rfl rfl (fun w hw hF => zeo _ w hF l vl (SlC.mono hl le1_3) n (nth ((nth p.Domains ((zaq p n).toNat)).Channels) i_6) r41 hr41)) ?_; rintro _ _ ⟨v41_0_0, F5, le3_5, hf41_0_0, hq, rfl⟩; obtain rfl := hq.symm; have le1_5 := le1_3.trans le3_5; haveI := hf41_0_0.oneC; refine ⟨(fun w hw => (hw.frLe (i := 2) rfl le3_5).sub Sx), ?_⟩; refine TS.eff ?_; refine TSo.as rfl (Wt.none rfl) rfl rfl (Ew.ah rfl rfl rfl (fun w hw => zeW _ w (hw.fr (i := 2) rfl) p vp_0 cp_0 (SlD.mono (rep := GDomain.rep) (fun _ _ _ _ => GDomain.mono) hp_0 le1_5) vp_1 (SlC.mono hp_1 le1_5) vp_2 (SlC.mono hp_2 le1_5) vp_3 (SlC.mono hp_3 le1_5) r41 v41_0_0 hf41_0_0)) ?_; rintro _ _ ⟨rfl, rfl⟩; refine ⟨(fun w hw => (hw.frLe (i := 2) rfl le3_5).sub Sx), ?_⟩; refine TS.run 1 rfl ?_; refine TS.done ?_; refine K.seq (T.seq (T.seq ?_)); refine T.af (ι := Unit) (fun z => [(1, vl), (2, .int .i64 n), (3, .pointer (some ⟨g3, 0, none⟩)), (7, vout_3), (8, .int .i64 least_4), (9, (nth (nth cp_0 ((zaq p n).toNat)) 1)), (10, .int .i64 (i_6 : Int)), (11, .int .i64 (zbu p r41)), (50, .bool ((decide ((out_3.length : Int) = 0)) || (decide ((zbu p r41) < least_4))))]) (fun z => [.sl vout_3 3 1 out_3.length (out_3.flatMap eI), .row g3 29 [vp_0, vp_1, vp_2, vp_3], .fr F5]) (fun z => True) ?_ ?_
            · refine T.region ?_; refine TL.run 1 rfl ?_; refine TL.y (Yv.aV 0 rfl rfl rfl) ?_; refine TL.run 2 rfl ?_; refine TL.gs rfl rfl rfl (fun h12 => ?_) (fun h12 => ?_)
              · have p12 := of_decide_eq_true h12; refine TL.run 4 rfl ?_; refine TL.nil ?_; exact K.ae () trivial (.c (.c (.c (.c (.c (.c (.c (.c (.b (zcw h12).symm .nil))))))))) (List.Sublist.refl _)
              · have p12 := of_decide_eq_false h12; refine TL.run 4 rfl ?_; refine TL.nil ?_; exact K.ae () trivial (.c (.c (.c (.c (.c (.c (.c (.c (.b (or_f h12) .nil))))))))) (List.Sublist.refl _)
            · rintro _ _; have hq := zae hk; clear hk; obtain ⟨k15, hk15, hk⟩ := hq; (try dsimp only at hk); refine T.af (ι := List Int × Value × Int) (fun z => [(1, vl), (2, .int .i64 n), (3, .pointer (some ⟨g3, 0, none⟩)), (7, z.2.1), (8, .int .i64 z.2.2), (9, (nth (nth cp_0 ((zaq p n).toNat)) 1)), (10, .int .i64 (i_6 : Int)), (11, .int .i64 (zbu p r41))]) (fun z => [.sl z.2.1 3 1 z.1.length (z.1.flatMap eI), .row g3 29 [vp_0, vp_1, vp_2, vp_3], .fr F5]) (fun z => k15 (z.1, z.2.2) = some r ∧ OneC z.2.1) ?_ ?_
              · refine T.cond rfl (fun h16 => ?_) (fun h16 => ?_)
                · replace hk := zaa hk h16; refine T.region ?_; refine TL.run 2 rfl ?_; refine TL.slNil 3 1 ?_; refine TL.run 1 rfl ?_; refine TL.nil ?_; refine K.pick [0, 2, 3] rfl (by decide) ?_; exact K.ae ([], (.slice none 0 0), (zbu p r41)) ⟨hk, inferInstance⟩ (.c (.c (.c (.c (.c (.c (.c (.c .nil)))))))) (List.Sublist.refl _)
                · have p16 := h16; (try simp only [nfB] at p16); replace hk := zab hk h16; refine T.skip ?_; exact K.ae (out_3, vout_3, least_4) ⟨hk, inferInstance⟩ (.c (.c (.c (.c (.c (.c (.c (.c .nil)))))))) (List.Sublist.refl _)
              · rintro ⟨out_13, vout_13, least_14⟩ ⟨hk, oout_13⟩; (try dsimp only at *); rw [← hk15] at hk; (try dsimp only at hk); refine T.sr ?_; refine TL.run 3 rfl ?_; refine TL.ns ?_; refine T.cond rfl (fun h17 => ?_) (fun h17 => ?_)
                · have p17 := of_decide_eq_true h17; replace hk := zaa hk h17; have hq : (room (out_13 ++ [(nth ((nth p.Domains ((zaq p n).toNat)).Channels) i_6)]).length 8) ∧ _ := zap hk; clear hk; obtain ⟨g61, hk⟩ := hq; (try dsimp only at hk); refine T.region ?_; refine TL.run 3 rfl ?_; refine TL.y (Yv.am (i := i_6) rfl rfl rfl (SlC.mono hd19_1 le1_5) (List.length_map _) rfl (by omega)) ?_; refine TL.y (Yv.ar 2 (i := i_6) (j := 0) rfl rfl rfl (SlC.mono hd19_1 le1_5) (by omega) rfl rfl) ?_; refine TL.e (Ew.buildSlice rfl rfl rfl (by decide)) ?_; rintro _ _ ⟨g60, rfl, rfl⟩; refine TL.e (Ew.ax 1 0 rfl rfl rfl rfl rfl rfl (zbB (ys := [(nth ((nth p.Domains ((zaq p n).toNat)).Channels) i_6)]) rfl) (zbd (enc := eI) (xs := out_13) (ys := [(nth ((nth p.Domains ((zaq p n).toNat)).Channels) i_6)])) g61 (by decide)) ?_; rintro v61 _ ⟨hv61, rfl⟩; refine TL.run 1 rfl ?_; refine TL.nil (K.ac ?_); refine K.pick [1, 2, 3] rfl (by decide) ?_; exact K.ae ((out_13 ++ [(nth ((nth p.Domains ((zaq p n).toNat)).Channels) i_6)]), v61, least_14, F5) ⟨hk, inferInstance, le3_5⟩ (.c (.c (.c (.c (.c (.c (.c .nil))))))) (List.Sublist.refl _)
                · have p17 := of_decide_eq_false h17; replace hk := zab hk h17; refine T.skip (K.ac ?_); exact K.ae (out_13, vout_13, least_14, F5) ⟨hk, inferInstance, le3_5⟩ (.c (.c (.c (.c (.c (.c (.c .nil))))))) (List.Sublist.refl _)
        · rintro ⟨out_8, vout_8, least_9, F4⟩ ⟨hk, oout_8, le3_4⟩; (try dsimp only at *); rw [← hk10] at hk; (try dsimp only at hk); have le1_4 := le1_3.trans le3_4; refine T.region ?_; refine TL.run 1 rfl ?_; refine TL.y (Yv.ao rfl rfl rfl (by omega)) ?_; refine TL.run 1 rfl ?_; refine TL.nil ?_; rw [← hn5] at hk; exact K.next ((i_6 + 1), out_8, vout_8, least_9, F4) ⟨hk, inferInstance, le1_4⟩ (by dsimp only; omega) (.c (.c (.c (.c (.c (.c (.c .nil))))))) (List.Sublist.refl _)
      · have p7 := of_decide_eq_false h7; rw [zas (by omega), ← hkk5] at hk; (try dsimp only at hk); refine T.exit (K.aa (K.aa (K.ad ?_))); refine K.pick [0, 2] rfl (by decide) ?_; exact K.ae (out_3, vout_3, F3) ⟨hk, inferInstance, le1_3⟩ (.c .nil) (List.Sublist.refl _)
  · rintro ⟨out_1, vout_1, F2⟩ ⟨hk, oout_1, le1_2⟩; (try dsimp only at *); rw [← hk2] at hk; (try dsimp only at hk); refine T.sr ?_; refine TL.run 2 rfl ?_; refine TL.ns (T.ret ?_); refine K.av (fun w hw => hw.freezeS (i := 1) (j := 0) (by decide) rfl rfl) ?_; rintro F6 ⟨le2_6, hz6⟩; dsimp only [List.set, List.eraseIdx]; have le1_6 := le1_2.trans le2_6; have hf6 := hz6.toF rfl (fun _ => rfl); haveI := hf6.oneC; obtain rfl := Option.some.inj hk; exact K.ai rfl rfl (fun w' hw => ⟨vout_1, F6.toFrz, hf6, rfl, Fx.of hw (i := 0) rfl hS0 le1_6⟩)
def zcZ (fuel : Nat) (p : GProblem) (hints : List GChoice) (seed : Int) (budget : Int) : Option (List GChoice × Int × Bool) :=
  (zcC p hints).bind fun r22 =>
  zbx (fun (next4 : (List GChoice × BitVec 64 × Int) → Option (List GChoice × Int × Bool)) (s4 : List GChoice × BitVec 64 × Int) =>
    zaB (fun (s8 : List GChoice × BitVec 64) =>
      next4 (s8.1, s8.2, wI (s4.2.2 + 1)))
    (fun k8 =>
      (bif decide ((zbu p s4.1) = 0) then
        some (s4.1, s4.2.2, true)
        else
        (bif decide (s4.2.2 = budget) then
          some (s4.1, s4.2.2, false)
          else
          (zbX p s4.1).bind fun r42 =>
          (zb3 fuel s4.2.1 (r42.length : Int)).bind fun r47 =>
          grd (0 ≤ r47.2 ∧ r47.2 < (r42.length : Int)) <|
          (zcT p s4.1 (nth r42 r47.2.toNat)).bind fun r56 =>
          (bif decide ((r56.length : Int) = 0) then
            k8 (s4.1, r47.1)
            else
            (zb3 fuel r47.1 (r56.length : Int)).bind fun r64 =>
            grd (0 ≤ r64.2 ∧ r64.2 < (r56.length : Int)) <|
            (zcz s4.1 (nth r42 r47.2.toNat) (nth r56 r64.2.toNat)).bind fun r76 =>
            k8 (r76, r64.1)))))) fuel (r22.1, (BitVec.ofInt 64 seed), 0)
theorem zf5 (F0 : Frz) (w : World) (hF0 : F0.At w) (p : GProblem) (vp_0 : Value) (cp_0 : List (List Value)) (hp_0 : SlD GDomain.rep F0 vp_0 2 cp_0 p.Domains) (vp_1 : Value) (hp_1 : SlC F0 vp_1 5 (p.Rules.Pairs.map GPair.enc)) (vp_2 : Value) (hp_2 : SlC F0 vp_2 5 (p.Rules.Loads.map GLoad.enc)) (vp_3 : Value) (hp_3 : SlC F0 vp_3 4 (p.Rules.Caps.map GCap.enc)) (hints : List GChoice) (vhints : Value) (hhints : SlC F0 vhints 2 (hints.map GChoice.enc)) (seed : Int) (budget : Int) (fuel : Nat) (r : List GChoice × Int × Bool) (hr : zcZ fuel p hints seed budget = some r) : Calls Tryz.prog 21 #[.agg [vp_0, vp_1, vp_2, vp_3].toArray, vhints, .int .i64 seed, .int .i64 budget] w fun e w' => ∃ (y : Value) (G : Frz), (SlC G y 2 (r.1.map GChoice.enc)) ∧ e = .returned (.tuple #[y, .int .i64 r.2.1, .bool r.2.2]) ∧ Fx F0 w G w' := by
  have hk := hr; unfold zcZ at hk; haveI := hp_0.1.oneC; haveI := hp_1.oneC; haveI := hp_2.oneC; haveI := hp_3.oneC; haveI := hhints.oneC; obtain ⟨S0, F1, rfl, hS0, hp0⟩ := zam hF0; refine zar Tryz.func21 rfl rfl rfl hp0 ?_; refine T.sr ?_; refine TL.e (Ew.ay rfl rfl) ?_; rintro _ _ ⟨g4, rfl, rfl⟩; refine TL.run 3 rfl ?_; refine TL.ns (T.seq ?_); have hq := zaj hk; clear hk; obtain ⟨r22, hr22, hk⟩ := hq; (try dsimp only at hk); refine T.region ?_; refine TL.y (Yv.aj 0 rfl rfl rfl rfl) ?_; refine TL.run 1 rfl ?_; refine TL.e (Ew.aA 1 rfl rfl rfl rfl (fun w hw hF => zeq _ w hF p vp_0 cp_0 hp_0 vp_1 hp_1 vp_2 hp_2 vp_3 hp_3 hints vhints hhints r22 hr22)) ?_; rintro _ _ ⟨v22_0_0, F2, le1_2, hf22_0_0, rfl, rfl⟩; haveI := hf22_0_0.oneC; refine TL.run 5 rfl ?_; refine TL.nx ?_; refine TL.run 1 rfl ?_; refine TL.y (Yv.aR (z := seed) rfl rfl) ?_; refine TL.run 1 rfl ?_; refine TL.nx ?_; refine TL.run 1 rfl ?_; refine TL.ns ?_; have hq := zcu hk; clear hk; obtain ⟨f4, hf4, hk⟩ := hq; refine T.block ?_; refine T.loop (ι := Nat × List GChoice × Value × BitVec 64 × Int × FzB w (fun _ => False) S0) (fun z => [(3, .int .i64 budget), (4, .pointer (some ⟨g4, 0, none⟩)), (11, z.2.2.1), (13, U z.2.2.2.1), (14, .int .i64 z.2.2.2.2.1)]) (fun z => [.row g4 29 [vp_0, vp_1, vp_2, vp_3], .fr z.2.2.2.2.2]) (fun z => zbx f4 z.1 (z.2.1, z.2.2.2.1, z.2.2.2.2.1) = some r ∧ SlC z.2.2.2.2.2.toFrz z.2.2.1 2 (z.2.1.map GChoice.enc) ∧ F2.toFrz.Le z.2.2.2.2.2.toFrz) (fun z => z.1) (fuel, r22.1, v22_0_0, (BitVec.ofInt 64 seed), 0, F2) ?_ ?_ ?_ ?_
  · exact ⟨hk, hf22_0_0, (Frz.Le.refl _)⟩
  · exact (.c (.c (.c (.c (.c .nil)))))
  · exact List.Sublist.refl _
  · rintro ⟨m_5, l_1, vl_1, state_2, moves_3, F3⟩ ⟨hk, hl_1, le2_3⟩; (try dsimp only at *); have le1_3 := le1_2.trans le2_3; haveI := hl_1.oneC; have hq := zcQ hk; clear hk; obtain ⟨m_5', rfl, hk⟩ := hq; generalize hn4 : zbx f4 m_5' = next4 at hk; rw [← hf4] at hk; (try dsimp only at hk); refine T.seq ?_; have hq := zae hk; clear hk; obtain ⟨k8, hk8, hk⟩ := hq; (try dsimp only at hk); refine T.af (ι := List GChoice × Value × BitVec 64 × FzB w (fun _ => False) S0) (fun z => [(3, .int .i64 budget), (4, .pointer (some ⟨g4, 0, none⟩)), (11, z.2.1), (13, U z.2.2.1), (14, .int .i64 moves_3)]) (fun z => [.row g4 29 [vp_0, vp_1, vp_2, vp_3], .fr z.2.2.2]) (fun z => k8 (z.1, z.2.2.1) = some r ∧ SlC z.2.2.2.toFrz z.2.1 2 (z.1.map GChoice.enc) ∧ F3.toFrz.Le z.2.2.2.toFrz) ?_ ?_
    · refine T.block (T.seq (T.sr ?_)); refine TL.y (Yv.aj 0 rfl rfl rfl rfl) ?_; refine TL.run 1 rfl ?_; refine TL.e (Ew.ah rfl rfl rfl (fun w hw => zeW _ w (hw.fr (i := 1) rfl) p vp_0 cp_0 (SlD.mono (rep := GDomain.rep) (fun _ _ _ _ => GDomain.mono) hp_0 le1_3) vp_1 (SlC.mono hp_1 le1_3) vp_2 (SlC.mono hp_2 le1_3) vp_3 (SlC.mono hp_3 le1_3) l_1 vl_1 hl_1)) ?_; rintro _ _ ⟨rfl, rfl⟩; refine TL.run 1 rfl ?_; refine TL.ns ?_; refine T.cond rfl (fun h9 => ?_) (fun h9 => ?_)
      · have p9 := of_decide_eq_true h9; replace hk := zaa hk h9; refine T.sr ?_; refine TL.run 5 rfl ?_; refine TL.ns (T.ret (K.ab (K.ag (K.ab (K.ab (K.ag ?_)))))); obtain rfl := Option.some.inj hk; exact K.bx rfl rfl rfl rfl (fun w' hw => ⟨vl_1, F3.toFrz, hl_1, rfl, Fx.of hw (i := 1) rfl hS0 le1_3⟩)
      · have p9 := of_decide_eq_false h9; replace hk := zab hk h9; refine T.skip (K.seq (T.seq (T.sr ?_))); refine TL.run 3 rfl ?_; refine TL.ns ?_; refine T.cond rfl (fun h10 => ?_) (fun h10 => ?_)
        · have p10 := of_decide_eq_true h10; replace hk := zaa hk h10; refine T.sr ?_; refine TL.run 5 rfl ?_; refine TL.ns (T.ret (K.ab (K.ag (K.ab (K.ab (K.ag ?_)))))); obtain rfl := Option.some.inj hk; exact K.bx rfl rfl rfl rfl (fun w' hw => ⟨vl_1, F3.toFrz, hl_1, rfl, Fx.of hw (i := 1) rfl hS0 le1_3⟩)
        · have p10 := of_decide_eq_false h10; replace hk := zab hk h10; refine T.skip (K.seq (T.seq ?_)); have hq := zaj hk; clear hk; obtain ⟨r42, hr42, hk⟩ := hq; (try dsimp only at hk); refine T.region ?_; refine TL.y (Yv.aj 0 rfl rfl rfl rfl) ?_; refine TL.run 1 rfl ?_; refine TL.e (Ew.aA 1 rfl rfl rfl rfl (fun w hw hF => ze2 _ w hF p vp_0 cp_0 (SlD.mono (rep := GDomain.rep) (fun _ _ _ _ => GDomain.mono) hp_0 le1_3) vp_1 (SlC.mono hp_1 le1_3) vp_2 (SlC.mono hp_2 le1_3) vp_3 (SlC.mono hp_3 le1_3) l_1 vl_1 hl_1 r42 hr42)) ?_; rintro _ _ ⟨v42_0_0, F5, le3_5, hf42_0_0, hq, rfl⟩; obtain rfl := hq.symm; have le1_5 := le1_3.trans le3_5; haveI := hf42_0_0.oneC; refine TL.run 1 rfl ?_; refine TL.nx ?_; refine TL.run 2 rfl ?_; refine TL.ns (T.seq ?_); have hq := zaj hk; clear hk; obtain ⟨r47, hr47, hk⟩ := hq; (try dsimp only at hk); refine T.region ?_; refine TL.run 2 rfl ?_; refine TL.y (Yv.an rfl rfl hf42_0_0 (List.length_map _)) ?_; have hm46 : r42.length ≤ 9223372036854775807 := (List.length_map _) ▸ hf42_0_0.max; refine TL.e (Ew.ah rfl rfl rfl (fun w hw => zeh _ w (hw.fr (i := 1) rfl) state_2 (r42.length : Int) fuel r47 hr47)) ?_; rintro _ _ ⟨rfl, rfl⟩; refine TL.run 5 rfl ?_; refine TL.ns (T.seq ?_); have hq : (0 ≤ r47.2 ∧ r47.2 < (r42.length : Int)) ∧ _ := zap hk; clear hk; obtain ⟨g54, hk⟩ := hq; have hq := zaj hk; clear hk; obtain ⟨r56, hr56, hk⟩ := hq; (try dsimp only at hk); refine T.aw (.still 0 (.still 1 (.still 2 (.still 3 (.still 4 (.still 5 (.eff 6 (.still 7 .done)))))))) _ (by kernel_rfl) (List.Sublist.refl _) ?_; refine TS.y rfl (Yv.aj 0 rfl rfl rfl rfl) ?_; refine TS.run 3 rfl ?_; refine TS.y rfl (Yv.am (i := r47.2.toNat) rfl rfl rfl hf42_0_0 (List.length_map _) (by omega) (by omega)) ?_; refine TS.y rfl (Yv.ar 1 (i := r47.2.toNat) (j := 0) rfl rfl rfl hf42_0_0 (by omega) rfl rfl) ?_; refine TS.eff ?_; refine TSo.as rfl (Wt.none rfl) rfl rfl (Ew.aA 1 rfl rfl rfl rfl (fun w hw hF => zgv _ w hF p vp_0 cp_0 (SlD.mono (rep := GDomain.rep) (fun _ _ _ _ => GDomain.mono) hp_0 le1_5) vp_1 (SlC.mono hp_1 le1_5) vp_2 (SlC.mono hp_2 le1_5) vp_3 (SlC.mono hp_3 le1_5) l_1 vl_1 (SlC.mono hl_1 le3_5) (nth r42 r47.2.toNat) r56 hr56)) ?_; rintro _ _ ⟨v56_0_0, F6, le5_6, hf56_0_0, hq, rfl⟩; obtain rfl := hq.symm; have le3_6 := le3_5.trans le5_6; haveI := hf56_0_0.oneC; refine ⟨(fun w hw => (hw.frLe (i := 1) rfl le5_6).sub Sx), ?_⟩; refine TS.run 1 rfl ?_; refine TS.done ?_; refine K.seq (T.seq (T.sr ?_)); refine TL.run 1 rfl ?_; refine TL.y (Yv.an rfl rfl hf56_0_0 (List.length_map _)) ?_; have hm58 : r56.length ≤ 9223372036854775807 := (List.length_map _) ▸ hf56_0_0.max; refine TL.run 1 rfl ?_; refine TL.ns ?_; refine T.cond rfl (fun h11 => ?_) (fun h11 => ?_)
          · have p11 := of_decide_eq_true h11; replace hk := zaa hk h11; refine T.exit (K.aa (K.ad ?_)); exact K.ae (l_1, vl_1, r47.1, F6) ⟨hk, (SlC.mono hl_1 le3_6), le3_6⟩ (.c (.c (.c (.c (.c .nil))))) (List.Sublist.refl _)
          · have p11 := of_decide_eq_false h11; replace hk := zab hk h11; refine T.skip (K.seq (T.seq ?_)); have hq := zaj hk; clear hk; obtain ⟨r64, hr64, hk⟩ := hq; (try dsimp only at hk); refine T.region ?_; refine TL.run 2 rfl ?_; refine TL.y (Yv.an rfl rfl hf56_0_0 (List.length_map _)) ?_; refine TL.e (Ew.ah rfl rfl rfl (fun w hw => zeh _ w (hw.fr (i := 1) rfl) r47.1 (r56.length : Int) fuel r64 hr64)) ?_; rintro _ _ ⟨rfl, rfl⟩; refine TL.run 5 rfl ?_; refine TL.ns ?_; have hq : (0 ≤ r64.2 ∧ r64.2 < (r56.length : Int)) ∧ _ := zap hk; clear hk; obtain ⟨g74, hk⟩ := hq; have hq := zaj hk; clear hk; obtain ⟨r76, hr76, hk⟩ := hq; (try dsimp only at hk); refine T.aw (.still 0 (.still 1 (.still 2 (.still 3 (.still 4 (.still 5 (.still 6 (.still 7 (.still 8 (.eff 9 (.still 10 .done))))))))))) _ (by kernel_rfl) (List.Sublist.refl _) ?_; refine TS.run 3 rfl ?_; refine TS.y rfl (Yv.am (i := r47.2.toNat) rfl rfl rfl (SlC.mono hf42_0_0 le5_6) (List.length_map _) (by omega) (by omega)) ?_; refine TS.y rfl (Yv.ar 1 (i := r47.2.toNat) (j := 0) rfl rfl rfl (SlC.mono hf42_0_0 le5_6) (by omega) rfl rfl) ?_; refine TS.run 2 rfl ?_; refine TS.y rfl (Yv.am (i := r64.2.toNat) rfl rfl rfl hf56_0_0 (List.length_map _) (by omega) (by omega)) ?_; refine TS.y rfl (Yv.ar 1 (i := r64.2.toNat) (j := 0) rfl rfl rfl hf56_0_0 (by omega) rfl rfl) ?_; refine TS.eff ?_; refine TSo.as rfl (Wt.none rfl) rfl rfl (Ew.aA 1 rfl rfl rfl rfl (fun w hw hF => zeo _ w hF l_1 vl_1 (SlC.mono hl_1 le3_6) (nth r42 r47.2.toNat) (nth r56 r64.2.toNat) r76 hr76)) ?_; rintro _ _ ⟨v76_0_0, F7, le6_7, hf76_0_0, hq, rfl⟩; obtain rfl := hq.symm; have le3_7 := le3_6.trans le6_7; haveI := hf76_0_0.oneC; refine ⟨(fun w hw => (hw.frLe (i := 1) rfl le6_7).sub Sx), ?_⟩; refine TS.run 1 rfl ?_; refine TS.done ?_; refine K.ac ?_; exact K.ae (r76, v76_0_0, r64.1, F7) ⟨hk, hf76_0_0, le3_7⟩ (.c (.c (.c (.c (.c .nil))))) (List.Sublist.refl _)
    · rintro ⟨l_6, vl_6, state_7, F4⟩ ⟨hk, hl_6, le3_4⟩; (try dsimp only at *); rw [← hk8] at hk; (try dsimp only at hk); have le2_4 := le2_3.trans le3_4; haveI := hl_6.oneC; refine T.region ?_; refine TL.run 3 rfl ?_; refine TL.nil ?_; rw [← hn4] at hk; exact K.next (m_5', l_6, vl_6, state_7, wI (moves_3 + 1), F4) ⟨hk, hl_6, le2_4⟩ (by dsimp only; omega) (.c (.c (.c (.c (.c .nil))))) (List.Sublist.refl _)
end Go.Proofs.YtnhdlloidbomdaaGreat
namespace Go.Proofs.YtnhdlloidbomdaaGreat
open Go.Shelf
open Go.RowKit in
open Go.RowKit in
def zg3 : Go.Shelf.Ren := ⟨fun | 189 => 53 | 125 => 83 | 257 => 82 | 128 => 111 | 129 => 112 | 294 => 102 | 295 => 103 | 296 => 104 | 297 => 105 | 298 => 106 | 299 => 107 | 216 => 108 | 300 => 109 | 301 => 110 | 328 => 115 | 329 => 116 | 330 => 117 | 331 => 118 | 332 => 119 | 215 => 96 | 343 => 120 | n => n, fun | 28 => 36 | 3 => 3 | 46 => 141 | 0 => 0 | 51 => 160 | 53 => 102 | 4 => 4 | 183 => 154 | 182 => 153 | 131 => 86 | 5 => 5 | 9 => 9 | 218 => 163 | 222 => 166 | 228 => 168 | 229 => 169 | n => n, fun | n => n⟩
theorem zhN : Go.Proofs.Lays.n189 Tryz.prog zg3 := {
  mixed := by kernel_rfl
  f125 := Tryz.func83.trans (congrArg some (by kernel_rfl))
  f128 := Tryz.func111.trans (congrArg some (by kernel_rfl))
  f129 := Tryz.func112.trans (congrArg some (by kernel_rfl))
  f189 := Tryz.func53.trans (congrArg some (by kernel_rfl))
  f215 := Tryz.func96.trans (congrArg some (by kernel_rfl))
  f216 := Tryz.func108.trans (congrArg some (by kernel_rfl))
  f257 := Tryz.func82.trans (congrArg some (by kernel_rfl))
  f294 := Tryz.func102.trans (congrArg some (by kernel_rfl))
  f295 := Tryz.func103.trans (congrArg some (by kernel_rfl))
  f296 := Tryz.func104.trans (congrArg some (by kernel_rfl))
  f297 := Tryz.func105.trans (congrArg some (by kernel_rfl))
  f298 := Tryz.func106.trans (congrArg some (by kernel_rfl))
  f299 := Tryz.func107.trans (congrArg some (by kernel_rfl))
  f300 := Tryz.func109.trans (congrArg some (by kernel_rfl))
  f301 := Tryz.func110.trans (congrArg some (by kernel_rfl))
  f328 := Tryz.func115.trans (congrArg some (by kernel_rfl))
  f329 := Tryz.func116.trans (congrArg some (by kernel_rfl))
  f330 := Tryz.func117.trans (congrArg some (by kernel_rfl))
  f331 := Tryz.func118.trans (congrArg some (by kernel_rfl))
  f332 := Tryz.func119.trans (congrArg some (by kernel_rfl))
  f343 := Tryz.func120.trans (congrArg some (by kernel_rfl))
  t0 := Tryz.underlying0
  a0 := Tryz.isAgg0
  z0 := Tryz.sizeOf0
  v0 := Tryz.zeroValue0
  t3 := Tryz.underlying3
  a3 := Tryz.isAgg3
  z3 := Tryz.sizeOf3
  v3 := Tryz.zeroValue3
  t4 := Tryz.underlying4
  a4 := Tryz.isAgg4
  z4 := Tryz.sizeOf4
  v4 := Tryz.zeroValue4
  t5 := Tryz.underlying5
  a5 := Tryz.isAgg5
  z5 := Tryz.sizeOf5
  v5 := Tryz.zeroValue5
  t9 := Tryz.underlying9
  a9 := Tryz.isAgg9
  z9 := Tryz.sizeOf9
  v9 := Tryz.zeroValue9
  t28 := Tryz.underlying36
  a28 := Tryz.isAgg36
  z28 := Tryz.sizeOf36
  v28 := Tryz.zeroValue36
  t46 := Tryz.underlying141
  a46 := Tryz.isAgg141
  z46 := Tryz.sizeOf141
  v46 := Tryz.zeroValue141
  t51 := Tryz.underlying160
  a51 := Tryz.isAgg160
  z51 := Tryz.sizeOf160
  v51 := Tryz.zeroValue160
  t53 := Tryz.underlying102
  a53 := Tryz.isAgg102
  z53 := Tryz.sizeOf102
  v53 := Tryz.zeroValue102
  t131 := Tryz.underlying86
  a131 := Tryz.isAgg86
  z131 := Tryz.sizeOf86
  v131 := Tryz.zeroValue86
  t182 := Tryz.underlying153
  a182 := Tryz.isAgg153
  z182 := Tryz.sizeOf153
  v182 := Tryz.zeroValue153
  t183 := Tryz.underlying154
  a183 := Tryz.isAgg154
  z183 := Tryz.sizeOf154
  v183 := Tryz.zeroValue154
  t218 := Tryz.underlying163
  a218 := Tryz.isAgg163
  z218 := Tryz.sizeOf163
  v218 := Tryz.zeroValue163
  t222 := Tryz.underlying166
  a222 := Tryz.isAgg166
  z222 := Tryz.sizeOf166
  v222 := Tryz.zeroValue166
  t228 := Tryz.underlying168
  a228 := Tryz.isAgg168
  z228 := Tryz.sizeOf168
  v228 := Tryz.zeroValue168
  t229 := Tryz.underlying169
  a229 := Tryz.isAgg169
  z229 := Tryz.sizeOf169
  v229 := Tryz.zeroValue169 }
open Go.Sort Go.RowKit in
theorem slices_Sort_int (blk off cap : Nat) (zs : List Int) (w : World) (hH : Holds (Value.int .i64) w blk off zs.toArray) (hblk : blk < w.heap.size) (hsz : zs.length < 4611686018427387904) :
    Calls Tryz.prog 53 #[.slice (some ⟨blk, off, none⟩) zs.length cap] w fun e w' =>
      e = .returned (.tuple #[]) ∧ ∃ n os, w' = grow (putRow (Value.int .i64) (Sort.ahead w n) blk off (zs.mergeSort fun x y => decide (x ≤ y)).toArray) os := Any.slices_Sort_int zhN blk off cap zs w hH hblk hsz
def zfZ : Go.Shelf.Ren := ⟨fun | 20 => 54 | n => n, fun | 22 => 36 | 3 => 3 | 4 => 4 | 0 => 0 | n => n, fun | n => n⟩
theorem zgm : Go.Proofs.Lays2.n20 Tryz.prog zfZ := {
  mixed := by kernel_rfl
  f20 := Tryz.func54.trans (congrArg some (by kernel_rfl))
  t0 := Tryz.underlying0
  a0 := Tryz.isAgg0
  z0 := Tryz.sizeOf0
  v0 := Tryz.zeroValue0
  t3 := Tryz.underlying3
  a3 := Tryz.isAgg3
  z3 := Tryz.sizeOf3
  v3 := Tryz.zeroValue3
  t4 := Tryz.underlying4
  a4 := Tryz.isAgg4
  z4 := Tryz.sizeOf4
  v4 := Tryz.zeroValue4
  t22 := Tryz.underlying36
  a22 := Tryz.isAgg36
  z22 := Tryz.sizeOf36
  v22 := Tryz.zeroValue36
  i3 := by kernel_rfl }
open Go.RowKit Go.Lib Go.Sort in
open Go.RowKit Go.Lib Go.Sort in
theorem slices_Compact_int (blk off cap : Nat) (zs : List Int) (w : World) (hH : Holds (Value.int .i64) w blk off zs.toArray) (hsz : zs.length ≤ 9223372036854775807) (hcap : zs.length ≤ cap) :
    Calls Tryz.prog 54 #[.slice (some ⟨blk, off, none⟩) zs.length cap] w fun e w' => e = .returned (.slice (some ⟨blk, off, none⟩) (Lib.compact zs).length cap) ∧ ∃ q, w' = putRow (Value.int .i64) (Sort.ahead w q) blk off (Lib.compact zs ++ List.replicate (zs.length - (Lib.compact zs).length) 0).toArray := Any.slices_Compact_int zgm blk off cap zs w hH hsz hcap
open Go.RowKit Go.Lib Go.Sort in
theorem slices_Compact_int_empty (a : Option Addr) (cap : Nat) (w : World) :
    Calls Tryz.prog 54 #[.slice a 0 cap] w fun e w' => e = .returned (.slice a 0 cap) ∧ w' = w := Any.slices_Compact_int_empty zgm a cap w
open Go.RowKit Go.Sort in
theorem slices_Sort_int_none (p : Option Addr) (cap : Nat) (w : World) :
    Calls Tryz.prog 53 #[.slice p 0 cap] w fun e w' => e = .returned (.tuple #[]) ∧ w' = w := Any.slices_Sort_int_none zhN p cap w
end Go.Proofs.YtnhdlloidbomdaaGreat
namespace Go.Proofs.YtnhdlloidbomdaaGreat
open Go.RowKit Go.Sort
section
variable {P : Program} {n : Nat} {B D : World} {M S0 : Nat → Prop} {fs : SFs} {hs : HS} {o : Oper} {v : Value}
end
def ins (x : Int) : List Int → List Int
  | [] => [x]
  | y :: r => bif decide (x ≤ y) then x :: y :: r else y :: ins x r
def isort (l : List Int) : List Int := l.foldr ins []
theorem zgb (x : Int) : ∀ l, (ins x l).Perm (x :: l)
  | [] => .refl _
  | y :: r => by
    unfold ins
    cases decide (x ≤ y)
    · exact ((zgb x r).cons y).trans (.swap ..)
    · exact .refl _
theorem zd9 : ∀ l, (isort l).Perm l
  | [] => .refl _
  | x :: l => (zgb x _).trans ((zd9 l).cons x)
theorem zfD (x : Int) : ∀ l : List Int, l.Pairwise (· ≤ ·) → (ins x l).Pairwise (· ≤ ·)
  | [], _ => by simp [ins]
  | y :: r, h => by
    have h2 := List.pairwise_cons.1 h; unfold ins; by_cases hxy : x ≤ y
    · rw [decide_eq_true hxy]; refine List.pairwise_cons.2 ⟨fun z hz => ?_, h⟩; rcases List.mem_cons.1 hz with rfl | hz
      · exact hxy
      · exact Int.le_trans hxy (h2.1 z hz)
    · rw [decide_eq_false hxy]; refine List.pairwise_cons.2 ⟨fun z hz => ?_, zfD x r h2.2⟩; rcases List.mem_cons.1 ((zgb x r).mem_iff.1 hz) with rfl | hz
      · omega
      · exact h2.1 z hz
theorem zdX : ∀ l, (isort l).Pairwise (· ≤ ·)
  | [] => .nil
  | x :: l => zfD x _ (zdX l)
theorem zfk : ∀ {a b : List Int}, a.Perm b → a.Pairwise (· ≤ ·) → b.Pairwise (· ≤ ·) → a = b
  | [], b, h, _, _ => (List.Perm.nil_eq h)
  | x :: a, [], h, _, _ => by cases h.symm.nil_eq
  | x :: a, y :: b, h, ha, hb => by
    have h1 := List.pairwise_cons.1 ha; have h2 := List.pairwise_cons.1 hb; have hx : x ∈ y :: b := h.mem_iff.1 (List.mem_cons_self ..); have hy : y ∈ x :: a := h.mem_iff.2 (List.mem_cons_self ..)
    have e : x = y := by
      rcases List.mem_cons.1 hx with e | hx
      · exact e
      · rcases List.mem_cons.1 hy with e | hy
        · exact e.symm
        · have := h1.1 y hy; have := h2.1 x hx; omega
    subst e; rw [zfk (List.perm_cons x |>.1 h) h1.2 h2.2]
theorem zfd (l : List Int) : (l.mergeSort fun x y => decide (x ≤ y)) = isort l :=
  zfk ((List.mergeSort_perm l _).trans (zd9 l).symm)
    ((List.pairwise_mergeSort (le := fun x y : Int => decide (x ≤ y)) (fun a b c h1 h2 => decide_eq_true (Int.le_trans (of_decide_eq_true h1) (of_decide_eq_true h2))) (fun a b => by
      rcases Int.le_total a b with h | h
      · simp [h]
      · simp [h]) l).imp fun h => of_decide_eq_true h) (zdX l)
theorem zfm (l : List Int) : l.flatMap eI = l.map (Value.int .i64) := by
  induction l with
  | nil => rfl
  | cons x l ih => rw [List.flatMap_cons, ih]; rfl
theorem FxM.one {F0 : Frz} {w w' : World} {E E' : Ent} (hF0 : F0.At w) (hO : Hp w (fps [E]) [E] w) (hA : ∀ g, fps [E] g → ¬ F0.S g) (ho : Only E.fp w w') (hok : E'.ok w') (hfp : ∀ g, E'.fp g → E.fp g ∨ w.heap.size ≤ g) : FxM F0 w (fps [E]) F0 [E'] w' := by
  obtain ⟨S0, G, rfl, hS, h⟩ := zbm hF0 hO hA; refine FxM.of (es := [E']) (Hp.go (es := [E]) (es' := [E']) (hs := [.fr G]) h ho (fun g _ hg => ⟨E, by simp, hg⟩) (fun e he => ?_) (fun e he g hg => ?_) (List.pairwise_singleton _ _)) hS (Frz.Le.refl _)
  · obtain rfl := List.mem_singleton.1 he; exact hok
  · obtain rfl := List.mem_singleton.1 he; exact (hfp g hg).imp (fun h => ⟨E, by simp, h⟩) id
def zgP (l : List Int) : Option (List Int) := grd (l.length < 4611686018427387904) <| some (isort l)
theorem Only.of_grownBy {w w' : World} {v : Value} {e : TypeId} {size k : Nat} {l : List Value} {g : Nat} (h : w.grownBy w' (some g)) (hv : v.ownBlock = some g) : Only (Ent.sl v e size k l).fp w w' :=
  ⟨h.os, h.tape, h.output, h.size, fun k hk hn => h.block k hk fun e => hn (Ent.sl_fp.2 (by rw [hv, e]))⟩
theorem zjq (F0 : Frz) (w : World) (hF0 : F0.At w) (l0_ : List Int) (v0_ : Value) (hO : Hp w (fps [.sl v0_ 3 1 l0_.length (l0_.flatMap eI)]) [.sl v0_ 3 1 l0_.length (l0_.flatMap eI)] w) (hA : ∀ g, fps [.sl v0_ 3 1 l0_.length (l0_.flatMap eI)] g → ¬ F0.S g) (r : List Int) (hr : zgP l0_ = some r) :
    Calls Tryz.prog 53 #[v0_] w fun e w' => ∃ (y : Unit), (True) ∧ e = .returned (.tuple #[]) ∧ FxM F0 w (fps [.sl v0_ 3 1 l0_.length (l0_.flatMap eI)]) F0 [.sl v0_ 3 1 r.length (r.flatMap eI)] w' := by
  obtain ⟨hsz, hr⟩ := zap hr; obtain rfl := Option.some.inj hr; have hk := hO.own _ (List.mem_cons_self ..); have ho := Ent.sl_ok.1 hk; have hl : (isort l0_).length = l0_.length := (zd9 l0_).length_eq; rcases ho.2 with ⟨rfl, h0⟩ | ⟨g, cap, cur, rfl, hb, hg, h1, h2, h3, h4⟩
  · obtain rfl := List.eq_nil_of_length_eq_zero h0; refine (slices_Sort_int_none none 0 w).mono ?_; rintro e w' ⟨rfl, rfl⟩; exact ⟨⟨⟩, trivial, rfl, FxM.one hF0 hO hA (Only.refl _ _) hk fun g h => .inl h⟩
  · rw [Nat.mul_one] at h3 h4; rw [zfm] at h4; refine (slices_Sort_int g 0 cap l0_ w (holds_of_blockI hg h4) (Array.getElem?_eq_some_iff.1 hg).1 hsz).mono ?_; rintro e w' ⟨rfl, n, os, rfl⟩; rw [zfd]; refine ⟨⟨⟩, trivial, rfl, FxM.one hF0 hO hA (Only.of_grownBy (grownBy_sortedI _) rfl) (Ent.sl_ok.2 ?_) fun k h => .inl (Ent.sl_fp.2 (show some g = some k from Ent.sl_fp.1 h))⟩; rw [zfm, hl]; exact ownsRow_sortedI hl (Nat.zero_le _) hg h1 h2 (by omega)
def zfT (l : List Int) : List Int := Lib.compact l
theorem zhp (l : List Int) : (Lib.compact l).length ≤ l.length := by
  unfold Lib.compact Lib.compactUpTo; simpa using List.length_filter_le (Lib.keeps l.toArray) (List.range l.length)
theorem zjt (F0 : Frz) (w : World) (hF0 : F0.At w) (l0_ : List Int) (v0_ : Value) (hO : Hp w (fps [.sl v0_ 3 1 l0_.length (l0_.flatMap eI)]) [.sl v0_ 3 1 l0_.length (l0_.flatMap eI)] w) (hA : ∀ g, fps [.sl v0_ 3 1 l0_.length (l0_.flatMap eI)] g → ¬ F0.S g) :
    Calls Tryz.prog 54 #[v0_] w fun e w' => ∃ (y : Value), (True) ∧ e = .returned y ∧ FxM F0 w (fps [.sl v0_ 3 1 l0_.length (l0_.flatMap eI)]) F0 [.sl y 3 1 (zfT l0_).length ((zfT l0_).flatMap eI)] w' := by
  have hk := hO.own _ (List.mem_cons_self ..); have ho := Ent.sl_ok.1 hk; rcases ho.2 with ⟨rfl, h0⟩ | ⟨g, cap, cur, rfl, hb, hg, h1, h2, h3, h4⟩
  · obtain rfl := List.eq_nil_of_length_eq_zero h0; refine (slices_Compact_int_empty none 0 w).mono ?_; rintro e w' ⟨rfl, rfl⟩; exact ⟨_, trivial, rfl, FxM.one hF0 hO hA (Only.refl _ _) hk fun g h => .inl h⟩
  · rw [Nat.mul_one] at h3 h4; rw [zfm] at h4; refine (slices_Compact_int g 0 cap l0_ w (holds_of_blockI hg h4) (by unfold maxLen at h2; omega) h1).mono ?_; rintro e w' ⟨rfl, q, rfl⟩; rw [← Sort.grow_empty (putRow _ _ _ _ _)]; have hc := zhp l0_; refine ⟨_, trivial, rfl, FxM.one hF0 hO hA (Only.of_grownBy (grownBy_sortedI _) rfl) (Ent.sl_ok.2 ⟨?_, .inr ⟨g, cap, _, rfl, Nat.zero_le _, heap_sortedI _ hg, by unfold zfT; omega, h2, ?_, ?_⟩⟩) fun k h => .inl (Ent.sl_fp.2 (show some g = some k from Ent.sl_fp.1 h))⟩
    · rw [zfm, List.length_map, Nat.mul_one]
    · simp [putCells, h3]
    · have ht := take_putCellsI cur (Lib.compact l0_ ++ List.replicate (l0_.length - (Lib.compact l0_).length) 0) (by simp; omega); rw [zfm, Nat.mul_one]; have h5 := congrArg (List.take (Lib.compact l0_).length) ht; rw [List.take_take, List.map_append, List.take_left' (by rw [List.length_map]), Nat.min_eq_left (by simp)] at h5; exact h5
end Go.Proofs.YtnhdlloidbomdaaGreat
namespace Go.Proofs.YtnhdlloidbomdaaGreat
open Go.RowKit
def SlV {n : Nat} {α : Type} [Inhabited α] (F : Frz) (vs : Vec n Value) (size : Nat) (enc : α → List Value) (ls : Vec n (List α)) : Prop := ∀ i, i < n → SlC F (vs.get i) size ((ls.get i).map enc)
theorem SlV.mono {n : Nat} {α : Type} [Inhabited α] {F G : Frz} {vs : Vec n Value} {size : Nat} {enc : α → List Value} {ls : Vec n (List α)} (h : SlV F vs size enc ls) (hle : F.Le G) : SlV G vs size enc ls := fun i hi => (h i hi).mono hle
theorem SlV.fill {n : Nat} {α : Type} [Inhabited α] (F : Frz) (size : Nat) (enc : α → List Value) : SlV F (Vec.fill n (.slice none 0 0)) size enc (Vec.fill n []) := fun i hi => by
  rw [Vec.get_fill hi, Vec.get_fill hi]; exact SlC.nil F size
theorem SlV.put {n : Nat} {α : Type} [Inhabited α] {F : Frz} {vs : Vec n Value} {size : Nat} {enc : α → List Value} {ls : Vec n (List α)} (h : SlV F vs size enc ls) {a : Nat} {v : Value} {l : List α} (ha : a < n) (hv : SlC F v size (l.map enc)) : SlV F (vs.put a v) size enc (ls.put a l) := fun i hi => by
  rw [Vec.get_put ha, Vec.get_put ha]; by_cases e : i = a
  · rw [if_pos e, if_pos e]; exact hv
  · rw [if_neg e, if_neg e]; exact h i hi
def tabE {n : Nat} {α : Type} [Inhabited α] (e : TypeId) (size : Nat) (enc : α → List Value) (vs : Vec n Value) (ls : Vec n (List α)) : HS := (List.range n).map fun i => .sl (vs.get i) e size (ls.get i).length ((ls.get i).flatMap enc)
theorem zew {n : Nat} {α : Type} [Inhabited α] {e : TypeId} {size : Nat} {enc : α → List Value} {vs : Vec n Value} {ls : Vec n (List α)} {a : Nat} (ha : a < n) : (tabE e size enc vs ls)[a]? = some (.sl (vs.get a) e size (ls.get a).length ((ls.get a).flatMap enc)) := by
  unfold tabE; rw [List.getElem?_map, List.getElem?_range ha]; rfl
theorem ze6 {n : Nat} {α : Type} [Inhabited α] {e : TypeId} {size : Nat} {enc : α → List Value} {vs : Vec n Value} {ls : Vec n (List α)} : (tabE e size enc vs ls).length = n := by unfold tabE; simp
theorem ziX {n : Nat} {α : Type} [Inhabited α] {e : TypeId} {size : Nat} {enc : α → List Value} {vs : Vec n Value} {ls : Vec n (List α)} {a : Nat} {v : Value} {l : List α} (ha : a < n) : (tabE e size enc vs ls).set a (.sl v e size l.length (l.flatMap enc)) = tabE e size enc (vs.put a v) (ls.put a l) := by
  refine List.ext_getElem? fun i => ?_; by_cases hi : i < n
  · rw [zew hi, Vec.get_put ha, Vec.get_put ha]; by_cases e2 : i = a
    · subst e2; rw [List.getElem?_set_self (by rw [ze6]; exact ha), if_pos rfl, if_pos rfl]
    · rw [List.getElem?_set_ne (fun h => e2 h.symm), zew hi, if_neg e2, if_neg e2]
  · rw [List.getElem?_eq_none (by rw [List.length_set, ze6]; omega), List.getElem?_eq_none (by rw [ze6]; omega)]
def FzB.addS {B : World} {M S0 : Nat → Prop} {w : World} (F : FzB B M S0) (hF : F.toFrz.At w) {T : Nat → Prop} (hg : ∀ g, T g → Cb w g) (hb : ∀ g, T g → M g ∨ B.heap.size ≤ g) : FzB B M S0 where
  S k := F.S k ∨ T k
  w := w
  c k hk := by rcases hk with h | h; exact hF.cb h; exact hg k h
  base k hk h1 h2 := by
    rcases hk with h | h
    · rw [hF k h, F.base k h h1 h2]
    · rcases hb k h with h | h
      · exact absurd h h2
      · omega
  new k hk := by
    rcases hk with h | h
    · exact F.new k h
    · exact .inr (hb k h)
section
variable {B D : World} {M S0 : Nat → Prop} {hs hs' : HS} {w : World} {n : Nat} {α : Type} [Inhabited α] {e : TypeId} {size : Nat} {enc : α → List Value} {vs : Vec n Value} {ls : Vec n (List α)} {v : Value}
theorem Hp.tabNil (h : Hp B M hs w) (n : Nat) (e : TypeId) (size : Nat) (enc : α → List Value) : ∃ _y : Unit, True ∧ Hp B M (.bag (tabE (n := n) e size enc (Vec.fill n (.slice none 0 0)) (Vec.fill n [])) :: hs) w := by
  refine ⟨(), trivial, Hp.repl (es := []) (es' := [.bag _]) h (fun x hx => ?_) (fun x hx g hg => ?_) (List.pairwise_singleton _ _)⟩
  · rw [List.mem_singleton.1 hx]
    have hem : ∀ x ∈ tabE (n := n) e size enc (Vec.fill n (.slice none 0 0)) (Vec.fill n []), x = .sl (.slice none 0 0) e size 0 [] := fun x hx => by
      obtain ⟨i, hi, rfl⟩ := List.mem_map.1 hx; rw [Vec.get_fill (List.mem_range.1 hi), Vec.get_fill (List.mem_range.1 hi)]; rfl
    have hok := (h.slNil e size).own (.sl (.slice none 0 0) e size 0 []) (List.mem_cons_self ..); refine Ent.bag_ok.2 ⟨fun x hx => by rw [hem x hx]; exact hok, ?_⟩; refine List.Pairwise.imp_of_mem (R := fun _ _ => True) (fun {a b} ha hb _ g hg => ?_) (List.pairwise_iff_forall_sublist.2 fun _ => trivial); rw [hem a ha] at hg; have := Ent.sl_fp.1 hg
    cases this
  · rw [List.mem_singleton.1 hx] at hg; obtain ⟨x, hx, hg⟩ := Ent.bag_fp.1 hg; obtain ⟨i, hi, rfl⟩ := List.mem_map.1 hx; rw [Vec.get_fill (List.mem_range.1 hi), Vec.get_fill (List.mem_range.1 hi)] at hg; have := Ent.sl_fp.1 hg
    cases this
theorem Hp.openT (h : Hp B M hs w) (i a : Nat) (hi : hs[i]? = some (.bag (tabE e size enc vs ls))) (ha : a < n) [hH : SetAt hs i (.bag ((tabE e size enc vs ls).eraseIdx a)) hs'] : ∃ _y : Unit, True ∧ Hp B M (.sl (vs.get a) e size (ls.get a).length ((ls.get a).flatMap enc) :: hs') w :=
  ⟨(), trivial, by rw [← hH.h]; exact h.openB hi (zew ha)⟩
theorem Hp.closeT {l : List α} (h : Hp B M (.sl v e size l.length (l.flatMap enc) :: hs) w) (i a : Nat) (hi : hs[i]? = some (.bag ((tabE e size enc vs ls).eraseIdx a))) (ha : a < n) [hH : SetAt hs i (.bag (tabE e size enc (vs.put a v) (ls.put a l))) hs'] : ∃ _y : Unit, True ∧ Hp B M hs' w :=
  ⟨(), trivial, by
    rw [← hH.h, ← ziX ha]
    exact h.closeB hi (by rw [ze6]; exact ha)⟩
theorem Hp.front {x : Ent} (h : Hp B M hs w) (j : Nat) (hj : hs[j]? = some x) : Hp B M (x :: hs.eraseIdx j) w := by
  obtain ⟨hl, rfl⟩ := List.getElem?_eq_some_iff.1 hj; exact h.perm (zd8 hs j hl)
theorem Hp.freezeT {i j : Nat} {F : FzB B M S0} (hw : Hp B M hs w) (hij : i ≠ j) (hi : hs[i]? = some (.fr F)) (hj : hs[j]? = some (.bag (tabE e size enc vs ls))) (he : ∀ x, (enc x).length = size) :
    ∃ G : FzB B M S0, (F.toFrz.Le G.toFrz ∧ SlV G.toFrz vs size enc ls) ∧ Hp B M ((hs.set i (.fr G)).eraseIdx j) w := by
  have hF := hw.fr hi; have hok := Ent.bag_ok.1 (hw.get hj); have each : ∀ a, a < n → w.ownsRow 0 e size (vs.get a) (ls.get a).length ((ls.get a).flatMap enc) := fun a ha => Ent.sl_ok.1 (hok.1 _ (List.mem_of_getElem? (zew ha)))
  have hcb : ∀ g, (Ent.bag (tabE e size enc vs ls)).fp g → Cb w g := fun g hg => by
    obtain ⟨x, hx, hg⟩ := Ent.bag_fp.1 hg; obtain ⟨a, ha, rfl⟩ := List.mem_map.1 hx; have := each a (List.mem_range.1 ha); have hfp := Ent.sl_fp.1 hg; rcases this.2 with ⟨h0, _⟩ | ⟨g', cap, cur, h1, hb, hg', _⟩
    · rw [h0] at hfp; cases hfp
    · rw [h1] at hfp; cases hfp; exact ⟨_, _, _, hg'⟩
  have hnew : ∀ g, (Ent.bag (tabE e size enc vs ls)).fp g → M g ∨ B.heap.size ≤ g := fun g hg => hw.new _ (List.mem_of_getElem? hj) g hg; refine ⟨F.addS hF hcb hnew, ⟨fun k hk => ⟨.inl hk, hF k hk⟩, fun a ha => ?_⟩, ?_⟩
  · have ho := each a ha; have hfl : ((ls.get a).flatMap enc).length = (ls.get a).length * size := ho.1; rcases ho.2 with ⟨h0, h1⟩ | ⟨g, cap, cur, h1, hb, hg, hnc, hcm, hcs, htake⟩
    · rw [h0, show ls.get a = [] from List.eq_nil_of_length_eq_zero h1]; exact SlC.nil _ _
    · have hgS : (F.addS hF hcb hnew).S g := .inr (Ent.bag_fp.2 ⟨_, List.mem_of_getElem? (zew ha), Ent.sl_fp.2 (by rw [h1]; rfl)⟩); rw [h1] at ho
      have hK : SlK (F.addS hF hcb hnew).toFrz (.slice (some ⟨g, 0, none⟩) (ls.get a).length cap) size (ls.get a).length ((ls.get a).flatMap enc) := ⟨hfl, _, cap, rfl, hnc, by unfold maxLen at hcm; omega, fun _ => ⟨g, rfl, hgS, fun q hq => by
        show w.cell? _ = _
        rw [Nat.zero_add, World.ownsRow.cellAt ho q (by rw [← hfl]; exact hq)]⟩⟩
      rw [h1]; exact hK.toF rfl he
  · obtain ⟨r, h1, h2⟩ := zeg (a' := .fr (F.addS hF hcb hnew)) hij hi hj; refine Hp.perm ?_ h2.symm; refine Hp.repl (hw.perm h1) ?_ ?_ (List.pairwise_singleton _ _)
    · intro x hx; simp at hx; subst hx; exact Ent.fr_ok.2 (fun k hk => rfl)
    · intro x hx k hk; simp at hx; subst hx; have h := Ent.fr_fp.1 hk; rcases h.1 with h3 | h3
      · exact ⟨_, by simp, Ent.fr_fp.2 ⟨h3, h.2⟩⟩
      · exact ⟨_, by simp, h3⟩
end
end Go.Proofs.YtnhdlloidbomdaaGreat
