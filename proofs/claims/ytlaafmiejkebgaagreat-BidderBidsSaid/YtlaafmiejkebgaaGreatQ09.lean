/- Rk Dh Dm Of: shortened and put together by squeeze.py. -/
import Derived.Test.YtlaafmiejkebgaaGreatQ08
import Derived.Deep.Slices
import Derived.ChangeArms
set_option maxRecDepth 100000
set_option maxHeartbeats 4000000
set_option linter.unusedVariables false
set_option linter.unusedSectionVars false
set_option linter.unusedSimpArgs false
namespace Go.Proofs.YtlaafmiejkebgaaGreat
open Go.RowKit
def eu (F : Nat) : Nat → Bool → List Int → Bool → List Int → Bool
  | 0, _, _, _, _ => false
  | n + 1, a, b, c, d => match zaJ F ⟨a, b⟩ ⟨c, d⟩ with
    | none => false
    | some r => match za0 F r.1 r.1 with
      | none => false
      | some e => match zaO r.2.1 with
        | none => false
        | some s => decide (e = 0) && (decide (s = 0) || eu F n c d r.2.1.Neg r.2.1.Digits)
def by9 (n : Nat) : List Int := if n = 0 then [] else if n < 256 then [(n : Int)] else [((n / 256 : Nat) : Int), ((n % 256 : Nat) : Int)]
def litT (t : Nat) : GRatio := ⟨⟨false, by9 (t / Nat.gcd t 1000)⟩, ⟨false, by9 (1000 / Nat.gcd t 1000)⟩⟩
def chkE (t : Nat) : Bool := decide (zby 100000 (t : Int) 1000 = some (litT t, 0)) && decide (za3 100000 (litT t) = some true) && eu 100000 30 (litT t).Num.Neg (litT t).Num.Digits (litT t).Den.Neg (litT t).Den.Digits
theorem zfI (F : Nat) : ∀ (m n : Nat) (sg : Int) (a : Bool) (b : List Int) (c : Bool) (d : List Int), m ≤ n → eu F m a b c d = true →
    zay (fun (next23 : (Int × Bool × List Int × Bool × List Int × Bool × List Int × Bool × List Int) → Option Int) (s23 : Int × Bool × List Int × Bool × List Int × Bool × List Int × Bool × List Int) =>
          (zaJ F (GInt.mk s23.2.1 s23.2.2.1) (GInt.mk s23.2.2.2.1 s23.2.2.2.2.1)).bind fun r28 =>
          (zaJ F (GInt.mk s23.2.2.2.2.2.1 s23.2.2.2.2.2.2.1) (GInt.mk s23.2.2.2.2.2.2.2.1 s23.2.2.2.2.2.2.2.2)).bind fun r37 =>
          (za0 F r28.1 r37.1).bind fun r43 =>
          (zaO r28.2.1).bind fun r45 =>
          (zaO r37.2.1).bind fun r47 =>
          (bif decide (¬ r43 = 0) then
            some (wI (s23.1 * r43))
            else
            (bif ((decide (r45 = 0)) && (decide (r47 = 0))) then
              some 0
              else
              (bif decide (r45 = 0) then
                some (wI (0 - s23.1))
                else
                (bif decide (r47 = 0) then
                  some s23.1
                  else
                  next23 ((wI (0 - s23.1)), s23.2.2.2.1, s23.2.2.2.2.1, r28.2.1.Neg, r28.2.1.Digits, s23.2.2.2.2.2.2.2.1, s23.2.2.2.2.2.2.2.2, r37.2.1.Neg, r37.2.1.Digits)))))) n (sg, a, b, c, d, a, b, c, d) = some 0
  | 0, n, sg, a, b, c, d, _, h => by cases h
  | m + 1, 0, sg, a, b, c, d, hm, h => absurd hm (by omega)
  | m + 1, n + 1, sg, a, b, c, d, hm, h => by
    rw [eu] at h
    show Option.bind _ _ = _
    (try dsimp only)
    cases h1 : zaJ F ⟨a, b⟩ ⟨c, d⟩ with
    | none => rw [h1] at h; cases h
    | some r =>
      rw [h1] at h; dsimp only at h; rw [Option.bind_some, Option.bind_some]
      cases h2 : za0 F r.1 r.1 with
      | none => rw [h2] at h; cases h
      | some e =>
        rw [h2] at h; dsimp only at h; rw [Option.bind_some]
        cases h3 : zaO r.2.1 with
        | none => rw [h3] at h; cases h
        | some s =>
          rw [h3] at h; dsimp only at h; rw [Option.bind_some, Option.bind_some]; rw [Bool.and_eq_true, Bool.or_eq_true, decide_eq_true_eq, decide_eq_true_eq] at h; obtain ⟨he, hs⟩ := h; rw [decide_eq_false (show ¬ ¬ e = 0 by simp [he]), cond_false]; by_cases h0 : s = 0
          · rw [decide_eq_true h0]; rfl
          · rw [decide_eq_false h0, Bool.and_self, cond_false, cond_false, cond_false]; exact zfI F m n _ _ _ _ _ (by omega) (hs.resolve_left h0)
theorem zgL {F t : Nat} (hF : F = 100000) (h : chkE t = true) : zby F (t : Int) 1000 = some (litT t, 0) ∧ za3 F (litT t) = some true ∧ za8 F (litT t) (litT t) = some 0 := by
  unfold chkE at h; rw [← hF] at h; rw [Bool.and_eq_true, Bool.and_eq_true, decide_eq_true_eq, decide_eq_true_eq] at h; obtain ⟨⟨h1, h2⟩, h3⟩ := h; refine ⟨h1, h2, ?_⟩; unfold za8; rw [h2, Option.bind_some]; simp only [zao]; rw [Bool.not_true, cond_false, Option.bind_some, Bool.not_true, cond_false]; exact zfI F 30 F 1 _ _ _ _ (by omega) h3
abbrev upE (a : Nat) : Prop := ∀ i, i < a → chkE i = true
theorem zac {a m b : Nat} (h : upE a) (h2 : (List.range' a m).all chkE = true) (e : b = a + m) : upE b := fun i hi => by
  by_cases h3 : i < a
  · exact h i h3
  · exact List.all_eq_true.1 h2 i (List.mem_range'_1.2 ⟨by omega, by omega⟩)
theorem up_0 : upE 0 := fun i hi => absurd hi (Nat.not_lt_zero _)
theorem ck_0 : (List.range' 0 7).all chkE = true := by kernel_rfl
theorem up_7 : upE 7 := zac up_0 ck_0 rfl
theorem ck_7 : (List.range' 7 7).all chkE = true := by kernel_rfl
theorem up_14 : upE 14 := zac up_7 ck_7 rfl
theorem ck_14 : (List.range' 14 7).all chkE = true := by kernel_rfl
theorem up_21 : upE 21 := zac up_14 ck_14 rfl
theorem ck_21 : (List.range' 21 7).all chkE = true := by kernel_rfl
theorem up_28 : upE 28 := zac up_21 ck_21 rfl
theorem ck_28 : (List.range' 28 7).all chkE = true := by kernel_rfl
theorem up_35 : upE 35 := zac up_28 ck_28 rfl
theorem ck_35 : (List.range' 35 7).all chkE = true := by kernel_rfl
theorem up_42 : upE 42 := zac up_35 ck_35 rfl
theorem ck_42 : (List.range' 42 7).all chkE = true := by kernel_rfl
theorem up_49 : upE 49 := zac up_42 ck_42 rfl
theorem ck_49 : (List.range' 49 7).all chkE = true := by kernel_rfl
theorem up_56 : upE 56 := zac up_49 ck_49 rfl
theorem ck_56 : (List.range' 56 7).all chkE = true := by kernel_rfl
theorem up_63 : upE 63 := zac up_56 ck_56 rfl
theorem ck_63 : (List.range' 63 7).all chkE = true := by kernel_rfl
theorem up_70 : upE 70 := zac up_63 ck_63 rfl
theorem ck_70 : (List.range' 70 7).all chkE = true := by kernel_rfl
theorem up_77 : upE 77 := zac up_70 ck_70 rfl
theorem ck_77 : (List.range' 77 7).all chkE = true := by kernel_rfl
theorem up_84 : upE 84 := zac up_77 ck_77 rfl
theorem ck_84 : (List.range' 84 7).all chkE = true := by kernel_rfl
theorem up_91 : upE 91 := zac up_84 ck_84 rfl
theorem ck_91 : (List.range' 91 7).all chkE = true := by kernel_rfl
theorem up_98 : upE 98 := zac up_91 ck_91 rfl
theorem ck_98 : (List.range' 98 7).all chkE = true := by kernel_rfl
theorem zhB : upE 105 := zac up_98 ck_98 rfl
theorem zkP : (List.range' 105 7).all chkE = true := by kernel_rfl
theorem zhk : upE 112 := zac zhB zkP rfl
theorem zhS : (List.range' 112 7).all chkE = true := by kernel_rfl
theorem zhL : upE 119 := zac zhk zhS rfl
theorem zkT : (List.range' 119 7).all chkE = true := by kernel_rfl
theorem ziV : upE 126 := zac zhL zkT rfl
theorem zg9 : (List.range' 126 7).all chkE = true := by kernel_rfl
theorem ziI : upE 133 := zac ziV zg9 rfl
theorem zgS : (List.range' 133 7).all chkE = true := by kernel_rfl
theorem zk3 : upE 140 := zac ziI zgS rfl
theorem zk2 : (List.range' 140 7).all chkE = true := by kernel_rfl
theorem zho : upE 147 := zac zk3 zk2 rfl
theorem zli : (List.range' 147 7).all chkE = true := by kernel_rfl
theorem zjz : upE 154 := zac zho zli rfl
theorem zjj : (List.range' 154 7).all chkE = true := by kernel_rfl
theorem ziM : upE 161 := zac zjz zjj rfl
theorem zjk : (List.range' 161 7).all chkE = true := by kernel_rfl
theorem zhe : upE 168 := zac ziM zjk rfl
theorem zjS : (List.range' 168 7).all chkE = true := by kernel_rfl
theorem ziR : upE 175 := zac zhe zjS rfl
theorem zhm : (List.range' 175 7).all chkE = true := by kernel_rfl
theorem zjN : upE 182 := zac ziR zhm rfl
theorem zhy : (List.range' 182 7).all chkE = true := by kernel_rfl
theorem zkv : upE 189 := zac zjN zhy rfl
theorem zjL : (List.range' 189 7).all chkE = true := by kernel_rfl
theorem zj8 : upE 196 := zac zkv zjL rfl
theorem zie : (List.range' 196 7).all chkE = true := by kernel_rfl
theorem zka : upE 203 := zac zj8 zie rfl
theorem zid : (List.range' 203 7).all chkE = true := by kernel_rfl
theorem zgZ : upE 210 := zac zka zid rfl
theorem zkD : (List.range' 210 7).all chkE = true := by kernel_rfl
theorem zj3 : upE 217 := zac zgZ zkD rfl
theorem zhF : (List.range' 217 7).all chkE = true := by kernel_rfl
theorem zjD : upE 224 := zac zj3 zhF rfl
theorem zjl : (List.range' 224 7).all chkE = true := by kernel_rfl
theorem ziz : upE 231 := zac zjD zjl rfl
theorem zhT : (List.range' 231 7).all chkE = true := by kernel_rfl
theorem zjr : upE 238 := zac ziz zhT rfl
theorem zhM : (List.range' 238 7).all chkE = true := by kernel_rfl
theorem zjf : upE 245 := zac zjr zhM rfl
theorem zkh : (List.range' 245 7).all chkE = true := by kernel_rfl
theorem zkB : upE 252 := zac zjf zkh rfl
theorem ziJ : (List.range' 252 7).all chkE = true := by kernel_rfl
theorem zkx : upE 259 := zac zkB ziJ rfl
theorem zkQ : (List.range' 259 7).all chkE = true := by kernel_rfl
theorem zh5 : upE 266 := zac zkx zkQ rfl
theorem zih : (List.range' 266 7).all chkE = true := by kernel_rfl
theorem zgX : upE 273 := zac zh5 zih rfl
theorem zhz : (List.range' 273 7).all chkE = true := by kernel_rfl
theorem ziE : upE 280 := zac zgX zhz rfl
theorem zhw : (List.range' 280 7).all chkE = true := by kernel_rfl
theorem zjY : upE 287 := zac ziE zhw rfl
theorem zjn : (List.range' 287 7).all chkE = true := by kernel_rfl
theorem zhj : upE 294 := zac zjY zjn rfl
theorem zkd : (List.range' 294 7).all chkE = true := by kernel_rfl
theorem zkk : upE 301 := zac zhj zkd rfl
theorem ziP : (List.range' 301 7).all chkE = true := by kernel_rfl
theorem zkW : upE 308 := zac zkk ziP rfl
theorem zhs : (List.range' 308 7).all chkE = true := by kernel_rfl
theorem zkO : upE 315 := zac zkW zhs rfl
theorem zgU : (List.range' 315 7).all chkE = true := by kernel_rfl
theorem zhO : upE 322 := zac zkO zgU rfl
theorem ziq : (List.range' 322 7).all chkE = true := by kernel_rfl
theorem zh3 : upE 329 := zac zhO ziq rfl
theorem zg0 : (List.range' 329 7).all chkE = true := by kernel_rfl
theorem zj9 : upE 336 := zac zh3 zg0 rfl
theorem zj6 : (List.range' 336 7).all chkE = true := by kernel_rfl
theorem zi7 : upE 343 := zac zj9 zj6 rfl
theorem zhD : (List.range' 343 7).all chkE = true := by kernel_rfl
theorem zjJ : upE 350 := zac zi7 zhD rfl
theorem zkA : (List.range' 350 7).all chkE = true := by kernel_rfl
theorem zix : upE 357 := zac zjJ zkA rfl
theorem zjO : (List.range' 357 7).all chkE = true := by kernel_rfl
theorem zkU : upE 364 := zac zix zjO rfl
theorem zil : (List.range' 364 7).all chkE = true := by kernel_rfl
theorem ziW : upE 371 := zac zkU zil rfl
theorem zjI : (List.range' 371 7).all chkE = true := by kernel_rfl
theorem zju : upE 378 := zac ziW zjI rfl
theorem zhP : (List.range' 378 7).all chkE = true := by kernel_rfl
theorem zh6 : upE 385 := zac zju zhP rfl
theorem zh9 : (List.range' 385 7).all chkE = true := by kernel_rfl
theorem zjE : upE 392 := zac zh6 zh9 rfl
theorem zkr : (List.range' 392 7).all chkE = true := by kernel_rfl
theorem zkJ : upE 399 := zac zjE zkr rfl
theorem zkl : (List.range' 399 7).all chkE = true := by kernel_rfl
theorem zhR : upE 406 := zac zkJ zkl rfl
theorem zkZ : (List.range' 406 7).all chkE = true := by kernel_rfl
theorem zlc : upE 413 := zac zhR zkZ rfl
theorem zkt : (List.range' 413 7).all chkE = true := by kernel_rfl
theorem ziX : upE 420 := zac zlc zkt rfl
theorem zis : (List.range' 420 7).all chkE = true := by kernel_rfl
theorem zjP : upE 427 := zac ziX zis rfl
theorem zjo : (List.range' 427 7).all chkE = true := by kernel_rfl
theorem zg1 : upE 434 := zac zjP zjo rfl
theorem zh8 : (List.range' 434 7).all chkE = true := by kernel_rfl
theorem ziN : upE 441 := zac zg1 zh8 rfl
theorem zk8 : (List.range' 441 7).all chkE = true := by kernel_rfl
theorem zj4 : upE 448 := zac ziN zk8 rfl
theorem ziG : (List.range' 448 7).all chkE = true := by kernel_rfl
theorem zhK : upE 455 := zac zj4 ziG rfl
theorem zjK : (List.range' 455 7).all chkE = true := by kernel_rfl
theorem zkG : upE 462 := zac zhK zjK rfl
theorem zhi : (List.range' 462 7).all chkE = true := by kernel_rfl
theorem zjF : upE 469 := zac zkG zhi rfl
theorem zki : (List.range' 469 7).all chkE = true := by kernel_rfl
theorem zg2 : upE 476 := zac zjF zki rfl
theorem zlj : (List.range' 476 7).all chkE = true := by kernel_rfl
theorem zhg : upE 483 := zac zg2 zlj rfl
theorem zlb : (List.range' 483 7).all chkE = true := by kernel_rfl
theorem zi6 : upE 490 := zac zhg zlb rfl
theorem ziu : (List.range' 490 7).all chkE = true := by kernel_rfl
theorem zhH : upE 497 := zac zi6 ziu rfl
theorem zi5 : (List.range' 497 7).all chkE = true := by kernel_rfl
theorem zi0 : upE 504 := zac zhH zi5 rfl
theorem zhl : (List.range' 504 7).all chkE = true := by kernel_rfl
theorem zh7 : upE 511 := zac zi0 zhl rfl
theorem zja : (List.range' 511 7).all chkE = true := by kernel_rfl
theorem zjd : upE 518 := zac zh7 zja rfl
theorem zlf : (List.range' 518 7).all chkE = true := by kernel_rfl
theorem zkn : upE 525 := zac zjd zlf rfl
theorem zhI : (List.range' 525 7).all chkE = true := by kernel_rfl
theorem zhC : upE 532 := zac zkn zhI rfl
theorem zhU : (List.range' 532 7).all chkE = true := by kernel_rfl
theorem zje : upE 539 := zac zhC zhU rfl
theorem zjM : (List.range' 539 7).all chkE = true := by kernel_rfl
theorem zjW : upE 546 := zac zje zjM rfl
theorem zjg : (List.range' 546 7).all chkE = true := by kernel_rfl
theorem ziv : upE 553 := zac zjW zjg rfl
theorem zif : (List.range' 553 7).all chkE = true := by kernel_rfl
theorem zhf : upE 560 := zac ziv zif rfl
theorem zjx : (List.range' 560 7).all chkE = true := by kernel_rfl
theorem zhQ : upE 567 := zac zhf zjx rfl
theorem zin : (List.range' 567 7).all chkE = true := by kernel_rfl
theorem zio : upE 574 := zac zhQ zin rfl
theorem zjB : (List.range' 574 7).all chkE = true := by kernel_rfl
theorem zlg : upE 581 := zac zio zjB rfl
theorem ziH : (List.range' 581 7).all chkE = true := by kernel_rfl
theorem zk0 : upE 588 := zac zlg ziH rfl
theorem zg7 : (List.range' 588 7).all chkE = true := by kernel_rfl
theorem zhJ : upE 595 := zac zk0 zg7 rfl
theorem zlh : (List.range' 595 7).all chkE = true := by kernel_rfl
theorem zgY : upE 602 := zac zhJ zlh rfl
theorem zi3 : (List.range' 602 7).all chkE = true := by kernel_rfl
theorem zhx : upE 609 := zac zgY zi3 rfl
theorem ziY : (List.range' 609 7).all chkE = true := by kernel_rfl
theorem zk7 : upE 616 := zac zhx ziY rfl
theorem zhE : (List.range' 616 7).all chkE = true := by kernel_rfl
theorem zi9 : upE 623 := zac zk7 zhE rfl
theorem zjm : (List.range' 623 7).all chkE = true := by kernel_rfl
theorem zjR : upE 630 := zac zi9 zjm rfl
theorem ziT : (List.range' 630 7).all chkE = true := by kernel_rfl
theorem zhd : upE 637 := zac zjR ziT rfl
theorem zkm : (List.range' 637 7).all chkE = true := by kernel_rfl
theorem zg5 : upE 644 := zac zhd zkm rfl
theorem zg3 : (List.range' 644 7).all chkE = true := by kernel_rfl
theorem zhc : upE 651 := zac zg5 zg3 rfl
theorem zij : (List.range' 651 7).all chkE = true := by kernel_rfl
theorem zkq : upE 658 := zac zhc zij rfl
theorem zkc : (List.range' 658 7).all chkE = true := by kernel_rfl
theorem zht : upE 665 := zac zkq zkc rfl
theorem zgV : (List.range' 665 7).all chkE = true := by kernel_rfl
theorem zkM : upE 672 := zac zht zgV rfl
theorem zhr : (List.range' 672 7).all chkE = true := by kernel_rfl
theorem zhX : upE 679 := zac zkM zhr rfl
theorem zj2 : (List.range' 679 7).all chkE = true := by kernel_rfl
theorem zjh : upE 686 := zac zhX zj2 rfl
theorem zjQ : (List.range' 686 7).all chkE = true := by kernel_rfl
theorem ziK : upE 693 := zac zjh zjQ rfl
theorem zkf : (List.range' 693 7).all chkE = true := by kernel_rfl
theorem zhv : upE 700 := zac ziK zkf rfl
theorem zi1 : (List.range' 700 7).all chkE = true := by kernel_rfl
theorem zjy : upE 707 := zac zhv zi1 rfl
theorem zjv : (List.range' 707 7).all chkE = true := by kernel_rfl
theorem zjA : upE 714 := zac zjy zjv rfl
theorem zla : (List.range' 714 7).all chkE = true := by kernel_rfl
theorem zjZ : upE 721 := zac zjA zla rfl
theorem zib : (List.range' 721 7).all chkE = true := by kernel_rfl
theorem zia : upE 728 := zac zjZ zib rfl
theorem zkR : (List.range' 728 7).all chkE = true := by kernel_rfl
theorem zjV : upE 735 := zac zia zkR rfl
theorem ziy : (List.range' 735 7).all chkE = true := by kernel_rfl
theorem zkX : upE 742 := zac zjV ziy rfl
theorem zig : (List.range' 742 7).all chkE = true := by kernel_rfl
theorem zgT : upE 749 := zac zkX zig rfl
theorem zhp : (List.range' 749 7).all chkE = true := by kernel_rfl
theorem zkS : upE 756 := zac zgT zhp rfl
theorem zle : (List.range' 756 7).all chkE = true := by kernel_rfl
theorem zku : upE 763 := zac zkS zle rfl
theorem zhY : (List.range' 763 7).all chkE = true := by kernel_rfl
theorem zit : upE 770 := zac zku zhY rfl
theorem ziU : (List.range' 770 7).all chkE = true := by kernel_rfl
theorem zkC : upE 777 := zac zit ziU rfl
theorem zjC : (List.range' 777 7).all chkE = true := by kernel_rfl
theorem zgW : upE 784 := zac zkC zjC rfl
theorem zk1 : (List.range' 784 7).all chkE = true := by kernel_rfl
theorem zkV : upE 791 := zac zgW zk1 rfl
theorem ziF : (List.range' 791 7).all chkE = true := by kernel_rfl
theorem zjt : upE 798 := zac zkV ziF rfl
theorem ziA : (List.range' 798 7).all chkE = true := by kernel_rfl
theorem zh4 : upE 805 := zac zjt ziA rfl
theorem ziC : (List.range' 805 7).all chkE = true := by kernel_rfl
theorem zkK : upE 812 := zac zh4 ziC rfl
theorem ziS : (List.range' 812 7).all chkE = true := by kernel_rfl
theorem ziZ : upE 819 := zac zkK ziS rfl
theorem zkj : (List.range' 819 7).all chkE = true := by kernel_rfl
theorem zj5 : upE 826 := zac ziZ zkj rfl
theorem zko : (List.range' 826 7).all chkE = true := by kernel_rfl
theorem ziQ : upE 833 := zac zj5 zko rfl
theorem zjw : (List.range' 833 7).all chkE = true := by kernel_rfl
theorem zg6 : upE 840 := zac ziQ zjw rfl
theorem zjU : (List.range' 840 7).all chkE = true := by kernel_rfl
theorem ziO : upE 847 := zac zg6 zjU rfl
theorem zha : (List.range' 847 7).all chkE = true := by kernel_rfl
theorem zii : upE 854 := zac ziO zha rfl
theorem zk6 : (List.range' 854 7).all chkE = true := by kernel_rfl
theorem zhA : upE 861 := zac zii zk6 rfl
theorem zg8 : (List.range' 861 7).all chkE = true := by kernel_rfl
theorem zhV : upE 868 := zac zhA zg8 rfl
theorem zky : (List.range' 868 7).all chkE = true := by kernel_rfl
theorem ziL : upE 875 := zac zhV zky rfl
theorem zkH : (List.range' 875 7).all chkE = true := by kernel_rfl
theorem zjc : upE 882 := zac ziL zkH rfl
theorem zk5 : (List.range' 882 7).all chkE = true := by kernel_rfl
theorem zic : upE 889 := zac zjc zk5 rfl
theorem zkF : (List.range' 889 7).all chkE = true := by kernel_rfl
theorem zi8 : upE 896 := zac zic zkF rfl
theorem zkb : (List.range' 896 7).all chkE = true := by kernel_rfl
theorem ziB : upE 903 := zac zi8 zkb rfl
theorem zi2 : (List.range' 903 7).all chkE = true := by kernel_rfl
theorem zk4 : upE 910 := zac ziB zi2 rfl
theorem zh2 : (List.range' 910 7).all chkE = true := by kernel_rfl
theorem zik : upE 917 := zac zk4 zh2 rfl
theorem zkw : (List.range' 917 7).all chkE = true := by kernel_rfl
theorem zld : upE 924 := zac zik zkw rfl
theorem zj0 : (List.range' 924 7).all chkE = true := by kernel_rfl
theorem zjX : upE 931 := zac zld zj0 rfl
theorem zjH : (List.range' 931 7).all chkE = true := by kernel_rfl
theorem zk9 : upE 938 := zac zjX zjH rfl
theorem ziD : (List.range' 938 7).all chkE = true := by kernel_rfl
theorem ziw : upE 945 := zac zk9 ziD rfl
theorem zjs : (List.range' 945 7).all chkE = true := by kernel_rfl
theorem zkN : upE 952 := zac ziw zjs rfl
theorem zjb : (List.range' 952 7).all chkE = true := by kernel_rfl
theorem zjG : upE 959 := zac zkN zjb rfl
theorem zj1 : (List.range' 959 7).all chkE = true := by kernel_rfl
theorem zhh : upE 966 := zac zjG zj1 rfl
theorem zhG : (List.range' 966 7).all chkE = true := by kernel_rfl
theorem zhu : upE 973 := zac zhh zhG rfl
theorem zkg : (List.range' 973 7).all chkE = true := by kernel_rfl
theorem zke : upE 980 := zac zhu zkg rfl
theorem zhN : (List.range' 980 7).all chkE = true := by kernel_rfl
theorem zim : upE 987 := zac zke zhN rfl
theorem zh0 : (List.range' 987 7).all chkE = true := by kernel_rfl
theorem zkL : upE 994 := zac zim zh0 rfl
theorem zhW : (List.range' 994 7).all chkE = true := by kernel_rfl
theorem zgG : upE 1001 := zac zkL zhW rfl
theorem zgM {i : Nat} (h : i ≤ 1000) : chkE i = true := zgG i (by omega)
def rt (t : Int) : GRatio := litT t.toNat
theorem rt_x {t : Int} (h1 : 0 ≤ t) (h2 : t ≤ 1000) : zby 100000 t 1000 = some (rt t, 0) ∧ za3 100000 (rt t) = some true ∧ za8 100000 (rt t) (rt t) = some 0 := by
  have h := zgL (F := 100000) (t := t.toNat) rfl (zgM (by omega)); rw [show ((t.toNat : Nat) : Int) = t by omega] at h; exact h
attribute [irreducible] rt
def zc0 (id : Int) (r : GRow) : GBid := ⟨id, r.Product, r.Change, rt r.Point⟩
theorem zfj {α β : Type} [Inhabited α] [Inhabited β] {f : α → β} {xs : List α} {i : Nat} (h : i < xs.length) : nth (xs.map f) i = f (nth xs i) := zer h
theorem zfi {α : Type} [Inhabited α] {xs : List α} {i : Nat} (h : i < xs.length) : nth xs i ∈ xs := by rw [zbb h]; exact List.getElem_mem _
section
variable {p : GBidderPlan} {l : List GProduct} {d blocks starts clocks : List Int}
theorem zfG (h : BidsIn p l d blocks starts clocks) {M : List (Gpoint × Int)} (hM : ChgM p d blocks starts clocks l.length M) (id : Int) : za7 100000 id M = some ((zct p d blocks starts clocks l.length 0).map (zc0 id), 0) := by
  obtain ⟨hs, hq⟩ := zdO h hM; have hlen := zeC p d blocks starts clocks l.length 0; have hn := h.n
  have hkl : (M.map (·.1)).length = (zct p d blocks starts clocks l.length 0).length := by
    have e := congrArg List.length hs; rw [(zbI _).length_eq, List.length_map (f := kyR)] at e; exact e
  generalize zct p d blocks starts clocks l.length 0 = R at *; unfold za7 zdd; rw [zax ⟨hM.nd, by unfold room; rw [hkl]; omega⟩, zax (by rw [hkl]; omega), Option.bind_some, hs]; simp only [zao]
  have key : ∀ m i (out : List GBid), i + m = R.length → out ++ (R.drop i).map (zc0 id) = R.map (zc0 id) → zak (fun (i_6 : Nat) (next5 : List GBid → Option (List GBid × Int)) (bids_4 : List GBid) =>
      (zby 100000 ((nth (R.map kyR) i_6).thousandths) 1000).bind fun r34 =>
      (bif decide (¬ r34.2 = 0) then
        some ([], r34.2)
        else
        grd (room (bids_4 ++ [(GBid.mk id ((nth (R.map kyR) i_6).product) ((qf M (nth (R.map kyR) i_6)).getD 0) (GRatio.mk (GInt.mk r34.1.Num.Neg r34.1.Num.Digits) (GInt.mk r34.1.Den.Neg r34.1.Den.Digits)))]).length 88) <|
        next5 (bids_4 ++ [(GBid.mk id ((nth (R.map kyR) i_6).product) ((qf M (nth (R.map kyR) i_6)).getD 0) (GRatio.mk (GInt.mk r34.1.Num.Neg r34.1.Num.Digits) (GInt.mk r34.1.Den.Neg r34.1.Den.Digits)))])))
    (fun (bids_4 : List GBid) => some (bids_4, 0)) m i out = some (R.map (zc0 id), 0) := by
    intro m
    induction m with
    | zero =>
      intro i out hi ho; rw [List.drop_eq_nil_of_le (by omega), List.map_nil, List.append_nil] at ho; rw [← ho]; rfl
    | succ m ih =>
      intro i out hi ho; (have hir : i < R.length := by omega); obtain ⟨h1, h2, h3⟩ := hq (nth R i) (zfi hir); have h4 := (rt_x h2 h3).1; rw [zbl]; (try dsimp only); rw [zfj hir, h1, show (kyR (nth R i)).thousandths = (nth R i).Point from rfl, h4, Option.bind_some, decide_eq_false (by simp), cond_false]
      have hol : out.length + (R.length - i) = R.length := by
        have := congrArg List.length ho; simpa using this
      rw [zax (by unfold room; rw [List.length_append]; show (out.length + 1) * 88 ≤ _; omega)]; refine ih (i + 1) _ (by omega) ?_; rw [List.append_assoc, ← ho, List.drop_eq_getElem_cons hir, List.map_cons, ← zbb hir]
      rfl
  exact key (R.map kyR).length 0 [] (by rw [List.length_map]; omega) rfl
theorem zey (id : Int) {R : List GRow} (hq : ∀ r ∈ R, 0 ≤ r.Point ∧ r.Point ≤ 1000) : zbM 100000 (R.map (zc0 id)) id R = some true := by
  unfold zbM; rw [List.length_map, decide_eq_false (by simp), cond_false]; simp only [zao]
  have key : ∀ m i, i + m = R.length → zak (fun (i_4 : Nat) (next3 : Unit → Option Bool) (_ : Unit) =>
        (zby 100000 ((nth R i_4).Point) 1000).bind fun r27 =>
          (bif decide (¬ r27.2 = 0) then
            (bif true then some false else next3 ())
            else
            (bif decide (¬ (nth (R.map (zc0 id)) i_4).Bidder = id) then
              (bif true then some false else next3 ())
              else
              (bif decide (¬ (nth (R.map (zc0 id)) i_4).Product = (nth R i_4).Product) then
                (bif true then some false else next3 ())
                else
                (bif decide (¬ (nth (R.map (zc0 id)) i_4).Change = (nth R i_4).Change) then
                  (bif true then some false else next3 ())
                  else
                  (za3 100000 ((nth (R.map (zc0 id)) i_4).Point)).bind fun r73 =>
                  (bif !r73 then
                    (bif true then some false else next3 ())
                    else
                    (za8 100000 ((nth (R.map (zc0 id)) i_4).Point) r27.1).bind fun r83 =>
                    (bif decide (¬ r83 = 0) then some false else next3 ()))))))) (fun _ => some true) m i () = some true := by
    intro m
    induction m with
    | zero => intro i _; rfl
    | succ m ih =>
      intro i hi; (have hir : i < R.length := by omega); obtain ⟨h2, h3⟩ := hq (nth R i) (zfi hir); obtain ⟨h4, h5, h6⟩ := rt_x h2 h3; rw [zbl]; (try dsimp only); rw [zfj hir, h4, Option.bind_some]; rw [show (zc0 id (nth R i)).Bidder = id from rfl, show (zc0 id (nth R i)).Product = (nth R i).Product from rfl, show (zc0 id (nth R i)).Change = (nth R i).Change from rfl, show (zc0 id (nth R i)).Point = rt (nth R i).Point from rfl]; rw [h5, Option.bind_some, h6, Option.bind_some]; rw [decide_eq_false (show ¬ ¬ (0 : Int) = 0 by simp), cond_false, decide_eq_false (show ¬ ¬ id = id by simp), cond_false, decide_eq_false (show ¬ ¬ (nth R i).Product = (nth R i).Product by simp), cond_false, decide_eq_false (show ¬ ¬ (nth R i).Change = (nth R i).Change by simp), cond_false, Bool.not_true, cond_false, cond_false]; exact ih (i + 1) (by omega)
  exact key (R.length - 0) 0 (by omega)
theorem zfv (l : List GProduct) (blocks : List Int) : zbi l blocks = some (zaK l blocks) := by
  unfold zbi zaK zbd; rw [pvalid, Option.bind_some]; by_cases hl : blocks.length = l.length
  · rw [hl]
    cases zaq l
    · rfl
    · rw [decide_eq_false (by simp)]; rfl
  · rw [decide_eq_true (show ¬ (blocks.length : Int) = (l.length : Int) by omega)]
    cases zaq l <;> rfl
theorem zhq {l : List GProduct} {blocks : List Int} (h : zaK l blocks = true) : DemOk l blocks := by
  unfold zaK at h
  cases hc : ((!(zaq l)) || (decide (¬ (blocks.length : Int) = (l.length : Int)))) with
  | true => rw [hc] at h; cases h
  | false =>
    rw [hc, cond_false] at h; rw [Bool.or_eq_false_iff, decide_eq_false_iff_not] at hc; simp only [zao] at h
    rw [show l.length - 0 = l.length from rfl, zdV (fun i => decide (0 ≤ nth blocks i) && decide (nth blocks i ≤ (nth l i).Supply)) (fun i next hi => by
      cases hc2 : ((decide ((nth blocks i) < 0)) || (decide ((nth l i).Supply < (nth blocks i)))) with
      | true =>
        rw [cond_true]; rw [Bool.or_eq_true, decide_eq_true_eq, decide_eq_true_eq] at hc2
        rw [show (decide (0 ≤ nth blocks i) && decide (nth blocks i ≤ (nth l i).Supply)) = false by
          rw [← Bool.not_eq_true, Bool.and_eq_true, decide_eq_true_eq, decide_eq_true_eq]; omega]
        rfl
      | false =>
        rw [cond_false]; rw [Bool.or_eq_false_iff, decide_eq_false_iff_not, decide_eq_false_iff_not] at hc2
        rw [decide_eq_true (by omega), decide_eq_true (by omega)]; rfl), Bool.and_true, List.all_eq_true] at h
    refine ⟨by omega, fun j hj => ?_⟩; have := h j (List.mem_range.2 hj); rw [Bool.and_eq_true, decide_eq_true_eq, decide_eq_true_eq] at this; exact this
theorem loopP {ρ : Type} {n : Nat} (hc : clocks.length = n) (hs : starts.length = n) (x : Option ρ) (k : Unit → Option ρ) : zak (fun (i_9 : Nat) (next8 : Unit → Option ρ) (_ : Unit) =>
          grd (0 ≤ (i_9 : Int) ∧ (i_9 : Int) < (clocks.length : Int)) <|
          grd (0 ≤ (i_9 : Int) ∧ (i_9 : Int) < (starts.length : Int)) <|
          (bif decide ((nth clocks i_9) < (nth starts i_9)) then x else next8 ())) k (n - 0) 0 () = zak (fun (i_7 : Nat) (next6 : Unit → Option ρ) (_ : Unit) =>
        grd (0 ≤ (i_7 : Int) ∧ (i_7 : Int) < (clocks.length : Int)) <|
        (bif decide ((nth clocks i_7) < (nth starts i_7)) then x else next6 ())) k (n - 0) 0 () := by
  refine zcc (n := n) (fun _ _ _ => True) (fun a b => a = b) trivial (fun _ _ _ => rfl) (fun i s t next next' hi _ hn => ?_); (try dsimp only); rw [zax (by omega), zax (by omega), zax (by omega), hn () () trivial]
theorem loopR {n : Nat} (hc : clocks.length = n) : ((∀ j, j < n → nth starts j ≤ nth clocks j) ∧ ∀ {ρ : Type} (x : Option ρ) (k : Unit → Option ρ), zak (fun (i_7 : Nat) (next6 : Unit → Option ρ) (_ : Unit) =>
        grd (0 ≤ (i_7 : Int) ∧ (i_7 : Int) < (clocks.length : Int)) <|
        (bif decide ((nth clocks i_7) < (nth starts i_7)) then x else next6 ())) k (n - 0) 0 () = k ()) ∨ ∀ {ρ : Type} (x : Option ρ) (k : Unit → Option ρ), zak (fun (i_7 : Nat) (next6 : Unit → Option ρ) (_ : Unit) =>
        grd (0 ≤ (i_7 : Int) ∧ (i_7 : Int) < (clocks.length : Int)) <|
        (bif decide ((nth clocks i_7) < (nth starts i_7)) then x else next6 ())) k (n - 0) 0 () = x := by
  have key : ∀ m i, i + m = n → ((∀ j, i ≤ j → j < n → nth starts j ≤ nth clocks j) ∧ ∀ {ρ : Type} (x : Option ρ) (k : Unit → Option ρ), zak (fun (i_7 : Nat) (next6 : Unit → Option ρ) (_ : Unit) =>
        grd (0 ≤ (i_7 : Int) ∧ (i_7 : Int) < (clocks.length : Int)) <|
        (bif decide ((nth clocks i_7) < (nth starts i_7)) then x else next6 ())) k m i () = k ()) ∨ ∀ {ρ : Type} (x : Option ρ) (k : Unit → Option ρ), zak (fun (i_7 : Nat) (next6 : Unit → Option ρ) (_ : Unit) =>
        grd (0 ≤ (i_7 : Int) ∧ (i_7 : Int) < (clocks.length : Int)) <|
        (bif decide ((nth clocks i_7) < (nth starts i_7)) then x else next6 ())) k m i () = x := by
    intro m
    induction m with
    | zero => intro i hi; exact .inl ⟨fun j h1 h2 => by omega, fun _ _ => rfl⟩
    | succ m ih =>
      intro i hi; by_cases hlt : nth clocks i < nth starts i
      · right; intro ρ x k; rw [zbl]; (try dsimp only); rw [zax (by omega), decide_eq_true hlt, cond_true]
      · rcases ih (i + 1) (by omega) with ⟨h1, h2⟩ | h2
        · left; refine ⟨fun j hj hj2 => ?_, fun {ρ} x k => ?_⟩
          · by_cases e : j = i
            · subst e; omega
            · exact h1 j (by omega) hj2
          · rw [zbl]; (try dsimp only); rw [zax (by omega), decide_eq_false hlt, cond_false]; exact h2 x k
        · right; intro ρ x k; rw [zbl]; (try dsimp only); rw [zax (by omega), decide_eq_false hlt, cond_false]; exact h2 x k
  rcases key (n - 0) 0 (by omega) with ⟨h1, h2⟩ | h2
  · exact .inl ⟨fun j hj => h1 j (by omega) hj, fun x k => h2 x k⟩
  · exact .inr fun x k => h2 x k
end
theorem zj7 {F : Nat} (hF : F = 100000) {p : GBidderPlan} {l : List GProduct} {blocks starts clocks : List Int} (hn : l.length ≤ 100) :
    (zbc F p l blocks starts clocks = some ([], 2) ∧ zbO F p l blocks starts clocks = some ([], 2)) ∨
    ∃ d, BidsIn p l d blocks starts clocks ∧ DemOk l d ∧ zaI F p l clocks = some (d, 0) ∧ zbc F p l blocks starts clocks = some ((zct p d blocks starts clocks l.length 0).map (zc0 p.Bidder), 0) ∧ zbO F p l blocks starts clocks = some (zct p d blocks starts clocks l.length 0, 0) ∧ ∃ M, ChgM p d blocks starts clocks l.length M := by
  have hB : zbc F p l blocks starts clocks = (zaN p l).bind fun r23 => bif (!r23) || (!(zaK l blocks)) || (!(zai l starts)) || (!(zai l clocks)) then some ([], 2) else
      zak (fun (i_9 : Nat) (next8 : Unit → Option (List GBid × Int)) (_ : Unit) =>
          grd (0 ≤ (i_9 : Int) ∧ (i_9 : Int) < (clocks.length : Int)) <|
          grd (0 ≤ (i_9 : Int) ∧ (i_9 : Int) < (starts.length : Int)) <|
          (bif decide ((nth clocks i_9) < (nth starts i_9)) then
            some ([], 2)
            else
            next8 ()))
        (fun (_ : Unit) =>
          (zaL F p l clocks).bind fun r62 =>
        (bif decide (¬ r62.2 = 0) then
          some ([], r62.2)
          else
          zak (fun (i_17 : Nat) (next16 : (List (Gpoint × Int)) → Option (List GBid × Int)) (l_15 : List (Gpoint × Int)) =>
              zao (fun (l_19 : List (Gpoint × Int)) =>
                next16 l_19)
              (fun k20 =>
                grd (0 ≤ (i_17 : Int) ∧ (i_17 : Int) < (blocks.length : Int)) <|
                (bif decide ((nth blocks i_17) < (nth r62.1 i_17)) then
                  k20 (qset l_15 (Gpoint.mk (i_17 : Int) 1000) (wI ((nth r62.1 i_17) - (nth blocks i_17))))
                  else
                  grd (0 ≤ (i_17 : Int) ∧ (i_17 : Int) < (starts.length : Int)) <|
                  grd (0 ≤ (i_17 : Int) ∧ (i_17 : Int) < (clocks.length : Int)) <|
                  (zaQ F ([] : List (Gpoint × Int)) p (i_17 : Int) (nth blocks i_17) (nth r62.1 i_17) (nth starts i_17) (nth clocks i_17)).bind fun r108 =>
                  k20 (zek r108 l_15))))
            (fun (l_15 : List (Gpoint × Int)) =>
              (za7 F p.Bidder l_15).bind fun r124 =>
            some (r124.1, r124.2)) (r62.1.length - 0) 0 ([] : List (Gpoint × Int)))) (l.length - 0) 0 () := by
    unfold zbc; rw [zcb]
    congr 1
    funext r23
    rw [zfv]
    cases r23
    · rfl
    · cases zaK l blocks
      · rfl
      · cases zai l starts
        · rfl
        · cases zai l clocks <;> rfl
  rw [hB]; clear hB; unfold zbO; rcases zf9 (p := p) (prices := clocks) (fuel := F) (by omega) hn with ⟨_, hd, hc⟩ | ⟨hb, hvc, hpl, hcl, hcp, d0, hcnt, hdem, h1, h2⟩
  · left; rw [hd, Option.bind_some]; refine ⟨?_, rfl⟩; rcases hc with hc | hc
    · rw [hc]; rfl
    · obtain ⟨b, hb, _⟩ := zcU p l; rw [hb, Option.bind_some, hc, Bool.not_false, Bool.or_true, cond_true]
  · rw [hb, Option.bind_some, h2, Option.bind_some, hvc, Bool.not_true, Bool.or_false, Bool.false_or]; have hR := zdM hpl.prods
    have hdok := zfZ (l := l) (B := p.Budget) (prices := clocks) hpl.budget.1 hcp l.length (csum clocks d0 l.length) d0 (Nat.le_refl _) hdem (by
      (have h12 : ∀ j, j < l.length → 0 ≤ nth d0 j ∧ nth d0 j ≤ 12 := fun j hj => by have := hdem.bd j hj; have := ok12 hR hj; omega); have := zdm hcp h12 l.length (Nat.le_refl _)
      omega) (by
      (have h12 : ∀ j, j < l.length → 0 ≤ nth d0 j ∧ nth d0 j ≤ 12 := fun j hj => by have := hdem.bd j hj; have := ok12 hR hj; omega); have := zdm hcp h12 l.length (Nat.le_refl _)
      omega)
    generalize redL p.Budget clocks l.length (csum clocks d0 l.length) d0 = d at *
    have hbo : zaL F p l clocks = some (d, 0) := by
      unfold zaI at h1; rw [zcb, hb, Option.bind_some, hvc] at h1; generalize zaL F p l clocks = y at h1 ⊢
      cases y with
      | none => cases h1
      | some y => exact h1
    rw [decide_eq_false (show ¬ ¬ (0 : Int) = 0 by simp), Bool.false_or]
    cases hvb : zaK l blocks with
    | false => exact .inl ⟨rfl, rfl⟩
    | true =>
      rw [Bool.not_true, Bool.false_or, Bool.false_or]; have hbd := zhq hvb; rw [zca]; by_cases hsl : ¬ starts.length = l.length
      · rw [decide_eq_false (show ¬ (starts.length : Int) = (l.length : Int) by omega), decide_eq_true (show ¬ (starts.length : Int) = (l.length : Int) by omega)]; exact .inl ⟨rfl, rfl⟩
      · have hsl := Decidable.not_not.1 hsl; rw [decide_eq_true (show (starts.length : Int) = (l.length : Int) by omega), decide_eq_false (show ¬ ¬ (starts.length : Int) = (l.length : Int) by omega), Bool.true_and, Bool.false_or]
        cases hal : zaE starts 549755813888 with
        | false => exact .inl ⟨rfl, rfl⟩
        | true =>
          rw [Bool.not_true, cond_false, cond_false, loopP hcl hsl]; rcases loopR (starts := starts) (clocks := clocks) (n := l.length) hcl with ⟨hsc, hk⟩ | hk
          · right; have hsp := all_iff.1 hal; have hIn : BidsIn p l d blocks starts clocks := ⟨hn, hpl.len, hdok.len, hbd.len, hsl, hcl, fun i hi => by have := hdok.bd i hi; have := ok12 hR hi; omega, fun i hi => by have := hbd.bd i hi; have := ok12 hR hi; omega, fun i hi => ⟨(hpl.vals i (by rw [hpl.len]; exact hi)).2.1, (hsp i (by omega)).1, hsc i hi, (hcp i hi).2⟩⟩; rw [hk, hbo, Option.bind_some]; rw [decide_eq_false (show ¬ ¬ (0 : Int) = 0 by simp), cond_false]
            obtain ⟨M, h5, h6⟩ := zeo hIn (fuel := F) (by omega) (fun (l_15 : List (Gpoint × Int)) =>
              (za7 F p.Bidder l_15).bind fun r124 =>
            some (r124.1, r124.2)) l.length 0 [] (by omega) ⟨.nil, fun x => by
              rw [decide_eq_false (by omega), cond_false]; rfl⟩
            have hdl := hdok.len; have hbe := zfG hIn h6 p.Bidder; rw [← hF] at hbe; refine ⟨d, hIn, hdok, h1, ?_, ?_, M, h6⟩
            · rw [show ((d, (0 : Int)).1.length - 0) = l.length from hdl, h5, hbe, Option.bind_some]
            · simp only [zao]; have hr := zet hIn (fuel := F) (by omega) (fun (out_10 : List GRow) => some (out_10, (0 : Int))) l.length 0 [] (by omega) (Nat.zero_le _); rw [List.nil_append] at hr; simp only [zao] at hr; rw [hk]; exact hr
          · left; simp only [zao]; exact ⟨hk _ _, hk _ _⟩
theorem zfb (F : Nat) (hF : F = 100000) (p : GBidderPlan) (l : List GProduct) (blocks starts clocks : List Int) : zbv F p l blocks starts clocks = some true := by
  have hk := zfK (show 100000 ≤ F by omega); unfold zbv
  cases hc : ((((!(zbw p l)) || (decide (10 < (blocks.length : Int)))) || (decide (10 < (starts.length : Int)))) || (decide (10 < (clocks.length : Int)))) with
  | true => rw [cond_true, hk]; rfl
  | false =>
    simp only [Bool.or_eq_false_iff, Bool.not_eq_false'] at hc; have hl := zgP hc.1.1.1; rw [cond_false]; rcases zj7 hF (p := p) (blocks := blocks) (starts := starts) (clocks := clocks) (show l.length ≤ 100 by omega) with ⟨h1, h2⟩ | ⟨d, hIn, hd, _, h1, h2, M, hM⟩
    · rw [h1, h2, Option.bind_some, Option.bind_some]; simp only [zao]; have hs := zey p.Bidder (R := []) (fun r hr => by cases hr); rw [← hF, List.map_nil] at hs; rw [hs]; simp [hk]
    · rw [h1, h2, Option.bind_some, Option.bind_some]; simp only [zao]; have hs := zey p.Bidder (fun r hr => ((zdO hIn hM).2 r hr).2); rw [← hF] at hs; rw [hs]; simp [hk]
end Go.Proofs.YtlaafmiejkebgaaGreat
namespace Go.Proofs.YtlaafmiejkebgaaGreat
open Go.RowKit Go.ChangeShapes Go.WideShapes Go.Deep
def Opens {H : Type} (enc : TypeId × Value → H) (w : World) (base : Nat) (spare : Nat → Bool) (held : Bool) (t : TypeId) {α : Type} (R : List Value → α → Prop) : Prop :=
  ∀ fuel cs y, DataW.trod enc Tryz.prog w base spare held fuel t cs = some y → ∃ x, R cs x
section
variable {H : Type} {enc : TypeId × Value → H} {w : World} {base : Nat} {spare : Nat → Bool} {held : Bool}
theorem Opens.int {t : TypeId} (ht : Tryz.prog.underlying t = some (.int .i64)) : Opens enc w base spare held t (fun cs (x : Int) => cs = [.int .i64 x]) := fun fuel cs y h => by
  obtain ⟨k, hk, _⟩ := DataW.trod_int ht h; exact ⟨k, hk⟩
theorem zgA {a : Addr} {v : Value} (h : w.cell? a = some v) : Cb w a.block := by
  unfold World.cell? at h
  split at h
  all_goals (first | exact ⟨_, _, _, by assumption⟩ | simp at h | skip)
theorem Opens.any {t e : TypeId} {k : Nat} {α : Type} [Inhabited α] {R : List Value → α → Prop} (ht : Tryz.prog.underlying t = some (.slice e)) (hk : Tryz.prog.cellsOf e = k) (hpos : 0 < k) (ho : Opens enc w base spare held e R) :
    Opens enc w base spare held t (fun cs (l : List α) => ∃ v c, cs = [v] ∧ SlC (Frz.all w) v k c ∧ c.length = l.length ∧ ∀ i, i < l.length → R (nth c i) (nth l i)) := fun fuel cs y h => by
  rcases open_slice ht h with ⟨h0, _⟩ | ⟨a, len, cap, m, n, D, Pl, hcs, hb, hl, hm, hmm, _, hx⟩
  · exact ⟨[], _, [], h0, SlC.nil _ _, rfl, fun i hi => absurd hi (Nat.not_lt_zero i)⟩
  · subst hcs; (have hlm : len ≤ m := by rw [hmm]; split <;> omega)
    have each : ∀ i, i < m → ∃ x : List Value × α, x.1.length = k ∧ R x.1 x.2 ∧ ∀ j, j < k → w.cell? (a.add (i * k + j)) = x.1[j]? := fun i hi => by
      obtain ⟨cs', h1, h2⟩ := hx i hi; rw [hk] at h1; obtain ⟨_, hlen, hcell⟩ := World.cells?_some h1; obtain ⟨x, hR⟩ := ho _ _ _ h2; exact ⟨(cs', x), hlen, hR, fun j hj => by rw [← hcell j hj, add_add]⟩
    obtain ⟨X, hX⟩ := choose_lt each
    have hn : ∀ i, i < len → nth ((List.range len).map fun i => (X i).1) i = (X i).1 := fun i hi => by
      rw [zbb (by simpa using hi)]; simp
    have hn2 : ∀ i, i < len → nth ((List.range len).map fun i => (X i).2) i = (X i).2 := fun i hi => by
      rw [zbb (by simpa using hi)]; simp
    refine ⟨(List.range len).map fun i => (X i).2, _, (List.range len).map fun i => (X i).1, rfl, ⟨some a, cap, by simp, by simpa using hl, by unfold maxLen at hm; omega, fun c hc => ?_, fun hp => ?_⟩, by simp, fun i hi => ?_⟩
    · simp at hc; obtain ⟨i, hi, rfl⟩ := hc; exact (hX i (by omega)).1
    · (have hp' : 0 < len := by simpa using hp); have c0 := (hX 0 (by omega)).2.2 0 hpos; have hx0 := (hX 0 (by omega)).1; rw [List.getElem?_eq_getElem (by omega)] at c0; have hcb := zgA c0; have hs := World.cell?_spot c0; simp [Addr.add] at hs hcb; obtain ⟨b, off, sp⟩ := a; simp at hs hcb; subst hs; refine ⟨b, off, rfl, hcb, fun i hi j hj => ?_⟩; simp at hi; rw [hn i hi] at hj ⊢; have hxi := hX i (by omega); have := hxi.2.2 j (by omega); refine Eq.trans ?_ this
      show w.cell? _ = _
      rw [zcB, Nat.add_assoc]
    · simp at hi; rw [hn i hi, hn2 i hi]; exact (hX i (by omega)).2.1
theorem Opens.slC {t e : TypeId} {k : Nat} {α : Type} [Inhabited α] {en : α → List Value} (ht : Tryz.prog.underlying t = some (.slice e)) (hk : Tryz.prog.cellsOf e = k) (hpos : 0 < k) (ho : Opens enc w base spare held e (fun cs (x : α) => cs = en x)) :
    Opens enc w base spare held t (fun cs (l : List α) => ∃ v, cs = [v] ∧ SlC (Frz.all w) v k (l.map en)) := fun fuel cs y h => by
  obtain ⟨l, v, c, h1, h2, h3, h4⟩ := Opens.any ht hk hpos ho _ _ _ h; refine ⟨l, v, h1, ?_⟩
  have : c = l.map en := by
    apply List.ext_getElem (by simpa using h3); intro i hi hi2; rw [← zbb hi, h4 i (by omega), List.getElem_map, zbb (by omega)]
  rw [← this]; exact h2
theorem Opens.bytes {t e : TypeId} (ht : Tryz.prog.underlying t = some (.slice e)) (he : Tryz.prog.underlying e = some (.int .u8)) (hk : Tryz.prog.cellsOf e = 1) :
    Opens enc w base spare held t (fun cs (l : List Int) => ∃ v, cs = [v] ∧ SlC (Frz.all w) v 1 (l.map (eK .u8)) ∧ ∀ x ∈ l, 0 ≤ x ∧ x ≤ 255) := fun fuel cs y h => by
  have ho : Opens enc w base spare held e (fun cs (x : Int) => cs = eK .u8 x ∧ (0 ≤ x ∧ x ≤ 255)) := fun fuel cs y h => by
    obtain ⟨k, h1, _, h2⟩ := DataW.trod_int he h; refine ⟨k, h1, ?_⟩; (have e1 : IntKind.u8.min = 0 := by decide); (have e2 : IntKind.u8.max = 255 := by decide); simp only [Lit.wf, e1, e2, Bool.and_eq_true, decide_eq_true_eq] at h2; exact h2
  obtain ⟨l, v, c, h1, h2, h3, h4⟩ := Opens.any ht hk (by decide) ho _ _ _ h; refine ⟨l, v, h1, ?_, fun x hx => ?_⟩
  · have : c = l.map (eK .u8) := by
      apply List.ext_getElem (by simpa using h3); intro i hi hi2; rw [← zbb hi, (h4 i (by omega)).1, List.getElem_map, zbb (by omega)]
    rw [← this]; exact h2
  · obtain ⟨i, hi, e⟩ := List.mem_iff_getElem.1 hx; have := (h4 i hi).2; rw [zbb hi, e] at this; exact this
theorem Opens.slD {t e : TypeId} {k : Nat} {α : Type} [Inhabited α] {rep : Frz → List Value → α → Prop} (ht : Tryz.prog.underlying t = some (.slice e)) (hk : Tryz.prog.cellsOf e = k) (hpos : 0 < k) (ho : Opens enc w base spare held e (rep (Frz.all w))) :
    Opens enc w base spare held t (fun cs (l : List α) => ∃ v c, cs = [v] ∧ SlD rep (Frz.all w) v k c l) := fun fuel cs y h => by
  obtain ⟨l, v, c, h1, h2, h3, h4⟩ := Opens.any ht hk hpos ho _ _ _ h; exact ⟨l, v, c, h1, h2, h3, h4⟩
end
end Go.Proofs.YtlaafmiejkebgaaGreat
