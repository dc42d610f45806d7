/- Sh Ks Kn Yq Dp: shortened and put together by squeeze.py. -/
import Derived.Test.YtipomhejoajjdaaGreatQ05
import Derived.Shelf.Small.Bits
import Derived.Shelf.Small.Wraps
import Derived.Shelf.Sort.Plain
import Derived.Ground.Names2Prog
import Derived.Shelf.Slices.CompactI
import Derived.Shelf.Slices.In.SortNone
import Derived.Test.YtipomhejoajjdaaGreatProg
import Derived.Sort.OwnSortedInts
import Derived.Lib.SlicesCompact
import Derived.RecoverIn
set_option maxRecDepth 100000
set_option maxHeartbeats 4000000
set_option linter.unusedVariables false
set_option linter.unusedSectionVars false
set_option linter.unusedSimpArgs false
namespace Go.Proofs.YtipomhejoajjdaaGreat
open Go.Shelf
open Go.RowKit in
open Go.RowKit in
def zgU : Go.Shelf.Ren := ⟨fun | 189 => 106 | 125 => 132 | 257 => 131 | 128 => 150 | 129 => 151 | 294 => 141 | 295 => 142 | 296 => 143 | 297 => 144 | 298 => 145 | 299 => 146 | 216 => 147 | 300 => 148 | 301 => 149 | 328 => 154 | 329 => 155 | 330 => 156 | 331 => 157 | 332 => 158 | 215 => 117 | 343 => 159 | n => n, fun | 28 => 44 | 3 => 3 | 46 => 174 | 0 => 0 | 51 => 188 | 53 => 88 | 4 => 4 | 183 => 181 | 182 => 180 | 131 => 185 | 5 => 5 | 9 => 9 | 218 => 192 | 222 => 196 | 228 => 198 | 229 => 199 | n => n, fun | n => n⟩
theorem zhD : Go.Proofs.Lays.n189 Tryz.prog zgU := {
  mixed := by kernel_rfl
  f125 := Tryz.func132.trans (congrArg some (by kernel_rfl))
  f128 := Tryz.func150.trans (congrArg some (by kernel_rfl))
  f129 := Tryz.func151.trans (congrArg some (by kernel_rfl))
  f189 := Tryz.func106.trans (congrArg some (by kernel_rfl))
  f215 := Tryz.func117.trans (congrArg some (by kernel_rfl))
  f216 := Tryz.func147.trans (congrArg some (by kernel_rfl))
  f257 := Tryz.func131.trans (congrArg some (by kernel_rfl))
  f294 := Tryz.func141.trans (congrArg some (by kernel_rfl))
  f295 := Tryz.func142.trans (congrArg some (by kernel_rfl))
  f296 := Tryz.func143.trans (congrArg some (by kernel_rfl))
  f297 := Tryz.func144.trans (congrArg some (by kernel_rfl))
  f298 := Tryz.func145.trans (congrArg some (by kernel_rfl))
  f299 := Tryz.func146.trans (congrArg some (by kernel_rfl))
  f300 := Tryz.func148.trans (congrArg some (by kernel_rfl))
  f301 := Tryz.func149.trans (congrArg some (by kernel_rfl))
  f328 := Tryz.func154.trans (congrArg some (by kernel_rfl))
  f329 := Tryz.func155.trans (congrArg some (by kernel_rfl))
  f330 := Tryz.func156.trans (congrArg some (by kernel_rfl))
  f331 := Tryz.func157.trans (congrArg some (by kernel_rfl))
  f332 := Tryz.func158.trans (congrArg some (by kernel_rfl))
  f343 := Tryz.func159.trans (congrArg some (by kernel_rfl))
  t0 := Tryz.underlying0
  a0 := Tryz.isAgg0
  z0 := Tryz.sizeOf0
  v0 := Tryz.zeroValue0
  t3 := Tryz.underlying3
  a3 := Tryz.isAgg3
  z3 := Tryz.sizeOf3
  v3 := Tryz.zeroValue3
  t4 := Tryz.underlying4
  a4 := Tryz.isAgg4
  z4 := Tryz.sizeOf4
  v4 := Tryz.zeroValue4
  t5 := Tryz.underlying5
  a5 := Tryz.isAgg5
  z5 := Tryz.sizeOf5
  v5 := Tryz.zeroValue5
  t9 := Tryz.underlying9
  a9 := Tryz.isAgg9
  z9 := Tryz.sizeOf9
  v9 := Tryz.zeroValue9
  t28 := Tryz.underlying44
  a28 := Tryz.isAgg44
  z28 := Tryz.sizeOf44
  v28 := Tryz.zeroValue44
  t46 := Tryz.underlying174
  a46 := Tryz.isAgg174
  z46 := Tryz.sizeOf174
  v46 := Tryz.zeroValue174
  t51 := Tryz.underlying188
  a51 := Tryz.isAgg188
  z51 := Tryz.sizeOf188
  v51 := Tryz.zeroValue188
  t53 := Tryz.underlying88
  a53 := Tryz.isAgg88
  z53 := Tryz.sizeOf88
  v53 := Tryz.zeroValue88
  t131 := Tryz.underlying185
  a131 := Tryz.isAgg185
  z131 := Tryz.sizeOf185
  v131 := Tryz.zeroValue185
  t182 := Tryz.underlying180
  a182 := Tryz.isAgg180
  z182 := Tryz.sizeOf180
  v182 := Tryz.zeroValue180
  t183 := Tryz.underlying181
  a183 := Tryz.isAgg181
  z183 := Tryz.sizeOf181
  v183 := Tryz.zeroValue181
  t218 := Tryz.underlying192
  a218 := Tryz.isAgg192
  z218 := Tryz.sizeOf192
  v218 := Tryz.zeroValue192
  t222 := Tryz.underlying196
  a222 := Tryz.isAgg196
  z222 := Tryz.sizeOf196
  v222 := Tryz.zeroValue196
  t228 := Tryz.underlying198
  a228 := Tryz.isAgg198
  z228 := Tryz.sizeOf198
  v228 := Tryz.zeroValue198
  t229 := Tryz.underlying199
  a229 := Tryz.isAgg199
  z229 := Tryz.sizeOf199
  v229 := Tryz.zeroValue199 }
open Go.Sort Go.RowKit in
theorem slices_Sort_int (blk off cap : Nat) (zs : List Int) (w : World) (hH : Holds (Value.int .i64) w blk off zs.toArray) (hblk : blk < w.heap.size) (hsz : zs.length < 4611686018427387904) :
    Calls Tryz.prog 106 #[.slice (some ⟨blk, off, none⟩) zs.length cap] w fun e w' =>
      e = .returned (.tuple #[]) ∧ ∃ n os, w' = grow (putRow (Value.int .i64) (Sort.ahead w n) blk off (zs.mergeSort fun x y => decide (x ≤ y)).toArray) os := Any.slices_Sort_int zhD blk off cap zs w hH hblk hsz
def zf9 : Go.Shelf.Ren := ⟨fun | 20 => 107 | n => n, fun | 22 => 44 | 3 => 3 | 4 => 4 | 0 => 0 | n => n, fun | n => n⟩
theorem zgF : Go.Proofs.Lays2.n20 Tryz.prog zf9 := {
  mixed := by kernel_rfl
  f20 := Tryz.func107.trans (congrArg some (by kernel_rfl))
  t0 := Tryz.underlying0
  a0 := Tryz.isAgg0
  z0 := Tryz.sizeOf0
  v0 := Tryz.zeroValue0
  t3 := Tryz.underlying3
  a3 := Tryz.isAgg3
  z3 := Tryz.sizeOf3
  v3 := Tryz.zeroValue3
  t4 := Tryz.underlying4
  a4 := Tryz.isAgg4
  z4 := Tryz.sizeOf4
  v4 := Tryz.zeroValue4
  t22 := Tryz.underlying44
  a22 := Tryz.isAgg44
  z22 := Tryz.sizeOf44
  v22 := Tryz.zeroValue44
  i3 := by kernel_rfl }
open Go.RowKit Go.Lib Go.Sort in
open Go.RowKit Go.Lib Go.Sort in
theorem slices_Compact_int (blk off cap : Nat) (zs : List Int) (w : World) (hH : Holds (Value.int .i64) w blk off zs.toArray) (hsz : zs.length ≤ 9223372036854775807) (hcap : zs.length ≤ cap) :
    Calls Tryz.prog 107 #[.slice (some ⟨blk, off, none⟩) zs.length cap] w fun e w' => e = .returned (.slice (some ⟨blk, off, none⟩) (Lib.compact zs).length cap) ∧ ∃ q, w' = putRow (Value.int .i64) (Sort.ahead w q) blk off (Lib.compact zs ++ List.replicate (zs.length - (Lib.compact zs).length) 0).toArray := Any.slices_Compact_int zgF blk off cap zs w hH hsz hcap
open Go.RowKit Go.Lib Go.Sort in
theorem slices_Compact_int_empty (a : Option Addr) (cap : Nat) (w : World) :
    Calls Tryz.prog 107 #[.slice a 0 cap] w fun e w' => e = .returned (.slice a 0 cap) ∧ w' = w := Any.slices_Compact_int_empty zgF a cap w
open Go.RowKit Go.Sort in
theorem slices_Sort_int_none (p : Option Addr) (cap : Nat) (w : World) :
    Calls Tryz.prog 106 #[.slice p 0 cap] w fun e w' => e = .returned (.tuple #[]) ∧ w' = w := Any.slices_Sort_int_none zhD p cap w
end Go.Proofs.YtipomhejoajjdaaGreat
namespace Go.Proofs.YtipomhejoajjdaaGreat
open Go.RowKit Go.Sort
section
variable {P : Program} {n : Nat} {B D : World} {M S0 : Nat → Prop} {fs : SFs} {hs : HS} {o : Oper} {v : Value}
theorem Yv.bA {x : Operand} {t : TypeId} {a : Int} (ho : o.op = .unOp .neg t x) (hx : ev fs x = some (.int .i64 a)) : Yv P n B M fs hs o (.int .i64 (wI (0 - a))) := fun f w ha _ => by
  unfold execOp; simp [ho, ha.ev hx, Op.unary, Op.intArith]
end
def ins (x : Int) : List Int → List Int
  | [] => [x]
  | y :: r => bif decide (x ≤ y) then x :: y :: r else y :: ins x r
def isort (l : List Int) : List Int := l.foldr ins []
theorem zf7 (x : Int) : ∀ l, (ins x l).Perm (x :: l)
  | [] => .refl _
  | y :: r => by
    unfold ins
    cases decide (x ≤ y)
    · exact ((zf7 x r).cons y).trans (.swap ..)
    · exact .refl _
theorem zeZ : ∀ l, (isort l).Perm l
  | [] => .refl _
  | x :: l => (zf7 x _).trans ((zeZ l).cons x)
theorem zfR (x : Int) : ∀ l : List Int, l.Pairwise (· ≤ ·) → (ins x l).Pairwise (· ≤ ·)
  | [], _ => by simp [ins]
  | y :: r, h => by
    have h2 := List.pairwise_cons.1 h; unfold ins; by_cases hxy : x ≤ y
    · rw [decide_eq_true hxy]; refine List.pairwise_cons.2 ⟨fun z hz => ?_, h⟩; rcases List.mem_cons.1 hz with rfl | hz
      · exact hxy
      · exact Int.le_trans hxy (h2.1 z hz)
    · rw [decide_eq_false hxy]; refine List.pairwise_cons.2 ⟨fun z hz => ?_, zfR x r h2.2⟩; rcases List.mem_cons.1 ((zf7 x r).mem_iff.1 hz) with rfl | hz
      · omega
      · exact h2.1 z hz
theorem zfb : ∀ l, (isort l).Pairwise (· ≤ ·)
  | [] => .nil
  | x :: l => zfR x _ (zfb l)
theorem zfF : ∀ {a b : List Int}, a.Perm b → a.Pairwise (· ≤ ·) → b.Pairwise (· ≤ ·) → a = b
  | [], b, h, _, _ => (List.Perm.nil_eq h)
  | x :: a, [], h, _, _ => by cases h.symm.nil_eq
  | x :: a, y :: b, h, ha, hb => by
    have h1 := List.pairwise_cons.1 ha; have h2 := List.pairwise_cons.1 hb; have hx : x ∈ y :: b := h.mem_iff.1 (List.mem_cons_self ..); have hy : y ∈ x :: a := h.mem_iff.2 (List.mem_cons_self ..)
    have e : x = y := by
      rcases List.mem_cons.1 hx with e | hx
      · exact e
      · rcases List.mem_cons.1 hy with e | hy
        · exact e.symm
        · have := h1.1 y hy; have := h2.1 x hx; omega
    subst e; rw [zfF (List.perm_cons x |>.1 h) h1.2 h2.2]
theorem zfv (l : List Int) : (l.mergeSort fun x y => decide (x ≤ y)) = isort l :=
  zfF ((List.mergeSort_perm l _).trans (zeZ l).symm)
    ((List.pairwise_mergeSort (le := fun x y : Int => decide (x ≤ y)) (fun a b c h1 h2 => decide_eq_true (Int.le_trans (of_decide_eq_true h1) (of_decide_eq_true h2))) (fun a b => by
      rcases Int.le_total a b with h | h
      · simp [h]
      · simp [h]) l).imp fun h => of_decide_eq_true h) (zfb l)
theorem zfE (l : List Int) : l.flatMap eI = l.map (Value.int .i64) := by
  induction l with
  | nil => rfl
  | cons x l ih => rw [List.flatMap_cons, ih]; rfl
theorem FxM.one {F0 : Frz} {w w' : World} {E E' : Ent} (hF0 : F0.At w) (hO : Hp w (fps [E]) [E] w) (hA : ∀ g, fps [E] g → ¬ F0.S g) (ho : Only E.fp w w') (hok : E'.ok w') (hfp : ∀ g, E'.fp g → E.fp g ∨ w.heap.size ≤ g) : FxM F0 w (fps [E]) F0 [E'] w' := by
  obtain ⟨S0, G, rfl, hS, h⟩ := zaM hF0 hO hA; refine FxM.of (es := [E']) (Hp.go (es := [E]) (es' := [E']) (hs := [.fr G]) h ho (fun g _ hg => ⟨E, by simp, hg⟩) (fun e he => ?_) (fun e he g hg => ?_) (List.pairwise_singleton _ _)) hS (Frz.Le.refl _)
  · obtain rfl := List.mem_singleton.1 he; exact hok
  · obtain rfl := List.mem_singleton.1 he; exact (hfp g hg).imp (fun h => ⟨E, by simp, h⟩) id
def zhE (l : List Int) : Option (List Int) := grd (l.length < 4611686018427387904) <| some (isort l)
theorem Only.of_grownBy {w w' : World} {v : Value} {e : TypeId} {size k : Nat} {l : List Value} {g : Nat} (h : w.grownBy w' (some g)) (hv : v.ownBlock = some g) : Only (Ent.sl v e size k l).fp w w' :=
  ⟨h.os, h.tape, h.output, h.size, fun k hk hn => h.block k hk fun e => hn (Ent.sl_fp.2 (by rw [hv, e]))⟩
theorem zjc (F0 : Frz) (w : World) (hF0 : F0.At w) (l0_ : List Int) (v0_ : Value) (hO : Hp w (fps [.sl v0_ 3 1 l0_.length (l0_.flatMap eI)]) [.sl v0_ 3 1 l0_.length (l0_.flatMap eI)] w) (hA : ∀ g, fps [.sl v0_ 3 1 l0_.length (l0_.flatMap eI)] g → ¬ F0.S g) (r : List Int) (hr : zhE l0_ = some r) :
    Calls Tryz.prog 106 #[v0_] w fun e w' => ∃ (y : Unit), (True) ∧ e = .returned (.tuple #[]) ∧ FxM F0 w (fps [.sl v0_ 3 1 l0_.length (l0_.flatMap eI)]) F0 [.sl v0_ 3 1 r.length (r.flatMap eI)] w' := by
  obtain ⟨hsz, hr⟩ := zaj hr; obtain rfl := Option.some.inj hr; have hk := hO.own _ (List.mem_cons_self ..); have ho := Ent.sl_ok.1 hk; have hl : (isort l0_).length = l0_.length := (zeZ l0_).length_eq; rcases ho.2 with ⟨rfl, h0⟩ | ⟨g, cap, cur, rfl, hb, hg, h1, h2, h3, h4⟩
  · obtain rfl := List.eq_nil_of_length_eq_zero h0; refine (slices_Sort_int_none none 0 w).mono ?_; rintro e w' ⟨rfl, rfl⟩; exact ⟨⟨⟩, trivial, rfl, FxM.one hF0 hO hA (Only.refl _ _) hk fun g h => .inl h⟩
  · rw [Nat.mul_one] at h3 h4; rw [zfE] at h4; refine (slices_Sort_int g 0 cap l0_ w (holds_of_blockI hg h4) (Array.getElem?_eq_some_iff.1 hg).1 hsz).mono ?_; rintro e w' ⟨rfl, n, os, rfl⟩; rw [zfv]; refine ⟨⟨⟩, trivial, rfl, FxM.one hF0 hO hA (Only.of_grownBy (grownBy_sortedI _) rfl) (Ent.sl_ok.2 ?_) fun k h => .inl (Ent.sl_fp.2 (show some g = some k from Ent.sl_fp.1 h))⟩; rw [zfE, hl]; exact ownsRow_sortedI hl (Nat.zero_le _) hg h1 h2 (by omega)
def zf8 (l : List Int) : List Int := Lib.compact l
theorem zhh (l : List Int) : (Lib.compact l).length ≤ l.length := by
  unfold Lib.compact Lib.compactUpTo; simpa using List.length_filter_le (Lib.keeps l.toArray) (List.range l.length)
theorem zi9 (F0 : Frz) (w : World) (hF0 : F0.At w) (l0_ : List Int) (v0_ : Value) (hO : Hp w (fps [.sl v0_ 3 1 l0_.length (l0_.flatMap eI)]) [.sl v0_ 3 1 l0_.length (l0_.flatMap eI)] w) (hA : ∀ g, fps [.sl v0_ 3 1 l0_.length (l0_.flatMap eI)] g → ¬ F0.S g) :
    Calls Tryz.prog 107 #[v0_] w fun e w' => ∃ (y : Value), (True) ∧ e = .returned y ∧ FxM F0 w (fps [.sl v0_ 3 1 l0_.length (l0_.flatMap eI)]) F0 [.sl y 3 1 (zf8 l0_).length ((zf8 l0_).flatMap eI)] w' := by
  have hk := hO.own _ (List.mem_cons_self ..); have ho := Ent.sl_ok.1 hk; rcases ho.2 with ⟨rfl, h0⟩ | ⟨g, cap, cur, rfl, hb, hg, h1, h2, h3, h4⟩
  · obtain rfl := List.eq_nil_of_length_eq_zero h0; refine (slices_Compact_int_empty none 0 w).mono ?_; rintro e w' ⟨rfl, rfl⟩; exact ⟨_, trivial, rfl, FxM.one hF0 hO hA (Only.refl _ _) hk fun g h => .inl h⟩
  · rw [Nat.mul_one] at h3 h4; rw [zfE] at h4; refine (slices_Compact_int g 0 cap l0_ w (holds_of_blockI hg h4) (by unfold maxLen at h2; omega) h1).mono ?_; rintro e w' ⟨rfl, q, rfl⟩; rw [← Sort.grow_empty (putRow _ _ _ _ _)]; have hc := zhh l0_; refine ⟨_, trivial, rfl, FxM.one hF0 hO hA (Only.of_grownBy (grownBy_sortedI _) rfl) (Ent.sl_ok.2 ⟨?_, .inr ⟨g, cap, _, rfl, Nat.zero_le _, heap_sortedI _ hg, by unfold zf8; omega, h2, ?_, ?_⟩⟩) fun k h => .inl (Ent.sl_fp.2 (show some g = some k from Ent.sl_fp.1 h))⟩
    · rw [zfE, List.length_map, Nat.mul_one]
    · simp [putCells, h3]
    · have ht := take_putCellsI cur (Lib.compact l0_ ++ List.replicate (l0_.length - (Lib.compact l0_).length) 0) (by simp; omega); rw [zfE, Nat.mul_one]; have h5 := congrArg (List.take (Lib.compact l0_).length) ht; rw [List.take_take, List.map_append, List.take_left' (by rw [List.length_map]), Nat.min_eq_left (by simp)] at h5; exact h5
end Go.Proofs.YtipomhejoajjdaaGreat
namespace Go.Proofs.YtipomhejoajjdaaGreat
open Go.RowKit
section
variable {P : Program} {n : Nat} {B D : World} {M : Nat → Prop} {fs : SFs} {hs : HS} {o : Oper} {v : Value}
theorem K.slNil {Q : Exit → Act → World → Prop} {e : Exit} (t : TypeId) (size : Nat) (h : K n B D M Q e fs (.sl (.slice none 0 0) t size 0 [] :: hs)) : K n B D M Q e fs hs := ⟨fun a w ha hw hm => h.out a w ha (hw.slNil t size) hm⟩
def zgI (v : Value) : Prop := ∃ A m c, v = .slice (some A) m c
theorem SlC.nonNil {F : Frz} {k : Nat} {cs : List (List Value)} (h : SlC F v k cs) (hl : 0 < cs.length) : zgI v := by
  obtain ⟨g, off, cap, rfl, _⟩ := h.addr hl; exact ⟨_, _, _, rfl⟩
theorem SlC.nonNilM {α : Type} {F : Frz} {k : Nat} {enc : α → List Value} {xs : List α} (h : SlC F v k (xs.map enc)) (hl : 0 < xs.length) : zgI v := h.nonNil (by rw [List.length_map]; exact hl)
theorem SlD.nonNil {α : Type} [Inhabited α] {rep : Frz → List Value → α → Prop} {F : Frz} {k : Nat} {cs : List (List Value)} {xs : List α} (h : SlD rep F v k cs xs) (hl : 0 < xs.length) : zgI v := h.1.nonNil (by rw [h.2.1]; exact hl)
theorem ziS {t e : TypeId} {w : World} {A : Option Addr} {m c : Nat} (hU : P.underlying t = some (.slice e)) : (Op.equal t (.slice A m c) (.slice none 0 0)).run P w = .ok A.isNone w := by
  unfold Op.equal; rw [show Op.maxDepth = Nat.succ 9999 from rfl]; unfold Op.equalIn
  cases A <;> simp [underlying, hU]
theorem Yv.cc {x y : Operand} {t u e : TypeId} (hU : P.underlying t = some (.slice e)) (ho : o.op = .binOp .eql t x y u) (hx : ev fs x = some v) (hy : ev fs y = some (.slice none 0 0)) (hN : zgI v) : Yv P n B M fs hs o (.bool false) := fun f w ha _ => by
  obtain ⟨A, m, c, rfl⟩ := hN; unfold execOp; simp [ho, ha.ev hx, ha.ev hy, eqGuard, binOp, ziS hU]
theorem Yv.cd {x y : Operand} {t u e : TypeId} (hU : P.underlying t = some (.slice e)) (ho : o.op = .binOp .eql t x y u) (hx : ev fs x = some (.slice none 0 0)) (hy : ev fs y = some (.slice none 0 0)) : Yv P n B M fs hs o (.bool true) := fun f w ha _ => by
  unfold execOp; simp [ho, ha.ev hx, ha.ev hy, eqGuard, binOp, ziS hU]
end
structure Gfault where
  first : Int
deriving DecidableEq, Inhabited
abbrev Gfault.enc (x : Gfault) : List Value := [.int .i64 x.first]
theorem Gfault.len (x : Gfault) : (Gfault.enc x).length = 1 := rfl
structure GWriter where
  fault : Gfault
  out : List Int
deriving DecidableEq, Inhabited
def GWriter.rep (F : Frz) (c : List Value) (x : GWriter) : Prop := ∃ (v1 : Value), c = [.int .i64 x.fault.first, v1] ∧ SlC F v1 1 (x.out.map (eK .u8))
theorem GWriter.mono {F G : Frz} {c : List Value} {x : GWriter} (hle : F.Le G) (h : GWriter.rep F c x) : GWriter.rep G c x := by
  obtain ⟨v1, h0, h2⟩ := h; exact ⟨v1, h0, h2.mono hle⟩
theorem GWriter.len {F : Frz} {c : List Value} {x : GWriter} (h : GWriter.rep F c x) : c.length = 2 := by
  obtain ⟨v1, h0, h2⟩ := h; subst h0; rfl
theorem GWriter.one {F : Frz} {c : List Value} {x : GWriter} (h : GWriter.rep F c x) : OneCs c := by
  obtain ⟨v1, h0, h2⟩ := h; subst h0; haveI := h2.oneC
  infer_instance
theorem GWriter.c0 {F : Frz} {c : List Value} {x : GWriter} (h : GWriter.rep F c x) : c[0]? = some (.int .i64 x.fault.first) := by
  obtain ⟨v1, h0, h2⟩ := h; subst h0; rfl
theorem GWriter.c1 {F : Frz} {c : List Value} {x : GWriter} (h : GWriter.rep F c x) : c[1]? = some (nth c 1) ∧ SlC F (nth c 1) 1 (x.out.map (eK .u8)) := by
  obtain ⟨v1, h0, h2⟩ := h; subst h0; exact ⟨rfl, h2⟩
theorem GWriter.form {F : Frz} {c : List Value} {x : GWriter} (h : GWriter.rep F c x) : (c.drop 0).take 2 = [.int .i64 x.fault.first, nth c 1] := by
  obtain ⟨v1, h0, h2⟩ := h; subst h0; rfl
def zby (fuel : Nat) (l0_ : List Int) (n : BitVec 64) : Option (List Int) :=
  zaH (fun (s3 : List Int × BitVec 64) =>
    grd (room (s3.1 ++ [(IntKind.u8.wrap (s3.2.toNat : Int))]).length 1) <|
    some (s3.1 ++ [(IntKind.u8.wrap (s3.2.toNat : Int))]))
  (fun k3 =>
    zcx (fun (next6 : (List Int × BitVec 64) → Option (List Int)) (s6 : List Int × BitVec 64) =>
      (bif decide (((127#64).toNat : Int) < (s6.2.toNat : Int)) then
        grd (room (s6.1 ++ [(orK .u8 (IntKind.u8.wrap (s6.2.toNat : Int)) 128)]).length 1) <|
        next6 ((s6.1 ++ [(orK .u8 (IntKind.u8.wrap (s6.2.toNat : Int)) 128)]), (s6.2 >>> 7))
        else
        k3 (s6.1, s6.2))) fuel (l0_, n))
theorem zdY (F0 : Frz) (w : World) (hF0 : F0.At w) (l0_ : List Int) (v0_ : Value) (n : BitVec 64) (hO : Hp w (fps [.sl v0_ 5 1 l0_.length (l0_.flatMap (eK .u8))]) [.sl v0_ 5 1 l0_.length (l0_.flatMap (eK .u8))] w) (hA : ∀ g, fps [.sl v0_ 5 1 l0_.length (l0_.flatMap (eK .u8))] g → ¬ F0.S g) (fuel : Nat) (r : List Int) (hr : zby fuel l0_ n = some r) : Calls Tryz.prog 129 #[v0_, U n] w fun e w' => ∃ (y : Value), (True) ∧ e = .returned (y) ∧ FxM F0 w (fps [.sl v0_ 5 1 l0_.length (l0_.flatMap (eK .u8))]) F0 [.sl y 5 1 r.length (r.flatMap (eK .u8))] w' := by
  have hk := hr; unfold zby at hk; haveI := zb2 (hO.own (.sl v0_ 5 1 l0_.length (l0_.flatMap (eK .u8))) (by simp)); have hmx0_ := zch (hO.own (.sl v0_ 5 1 l0_.length (l0_.flatMap (eK .u8))) (by simp)); obtain ⟨S0, F1, rfl, hS0, hp0⟩ := zaM hF0 hO hA; refine zam (hs := [.sl v0_ 5 1 l0_.length (l0_.flatMap (eK .u8)), .fr F1]) Tryz.func129 rfl rfl rfl hp0 ?_; refine T.sr ?_; refine TL.run 1 rfl ?_; refine TL.slNil 5 1 ?_; refine TL.ns (T.seq ?_); have hq := zaf hk; clear hk; obtain ⟨k3, hk3, hk⟩ := hq; (try dsimp only at hk); refine T.af (ι := List Int × Value × BitVec 64) (fun z => [(0, z.2.1), (1, U z.2.2)]) (fun z => [.sl z.2.1 5 1 z.1.length (z.1.flatMap (eK .u8)), .fr F1]) (fun z => k3 (z.1, z.2.2) = some r ∧ OneC z.2.1) ?_ ?_
  · have hq := zdf hk; clear hk; obtain ⟨f6, hf6, hk⟩ := hq; refine T.block ?_; refine T.pick [1, 2] rfl (by decide) ?_; refine T.loop (ι := Nat × List Int × Value × BitVec 64) (fun z => [(0, z.2.2.1), (1, U z.2.2.2)]) (fun z => [.sl z.2.2.1 5 1 z.2.1.length (z.2.1.flatMap (eK .u8)), .fr F1]) (fun z => zcx f6 z.1 (z.2.1, z.2.2.2) = some r ∧ OneC z.2.2.1) (fun z => z.1) (fuel, l0_, v0_, n) ?_ ?_ ?_ ?_
    · exact ⟨hk, inferInstance⟩
    · exact (.c (.c .nil))
    · exact List.Sublist.refl _
    · rintro ⟨m_7, out_4, vout_4, n_5⟩ ⟨hk, oout_4⟩; (try dsimp only at *); have hq := zdz hk; clear hk; obtain ⟨m_7', rfl, hk⟩ := hq; generalize hn6 : zcx f6 m_7' = next6 at hk; rw [← hf6] at hk; (try dsimp only at hk); refine T.seq (T.sr ?_); refine TL.run 2 rfl ?_; refine TL.ns ?_; refine T.cond rfl (fun h8 => ?_) (fun h8 => ?_)
      · replace hk := zac hk h8; refine T.skip (K.seq (T.block (T.seq ?_))); have hq : (room (out_4 ++ [(orK .u8 (IntKind.u8.wrap (n_5.toNat : Int)) 128)]).length 1) ∧ _ := zaj hk; clear hk; obtain ⟨g12, hk⟩ := hq; (try dsimp only at hk); refine T.region ?_; refine TL.run 2 rfl ?_; refine TL.y (Yv.aN (z := (n_5.toNat : Int)) rfl rfl) ?_; refine TL.y (Yv.orK (a := (IntKind.u8.wrap (n_5.toNat : Int))) (b := 128) rfl rfl rfl) ?_; refine TL.e (Ew.buildSlice rfl rfl rfl (by decide)) ?_; rintro _ _ ⟨g11, rfl, rfl⟩; refine TL.e (Ew.av 1 0 rfl rfl rfl rfl rfl rfl (zbF (ys := [(orK .u8 (IntKind.u8.wrap (n_5.toNat : Int)) 128)]) rfl) (zbP (enc := (eK .u8)) (xs := out_4) (ys := [(orK .u8 (IntKind.u8.wrap (n_5.toNat : Int)) 128)])) g12 (by decide)) ?_; rintro v12 _ ⟨hv12, rfl⟩; refine TL.run 1 rfl ?_; refine TL.ns (T.region ?_); refine TL.run 1 rfl ?_; refine TL.y (Yv.bv (a := n_5) 7 rfl rfl rfl (show (7 : Int) = ((7 : Nat) : Int) from rfl) (by omega)) ?_; refine TL.run 1 rfl ?_; refine TL.nil (K.ac ?_); rw [← hn6] at hk; refine K.pick [1, 2] rfl (by decide) ?_; exact K.next (m_7', (out_4 ++ [(orK .u8 (IntKind.u8.wrap (n_5.toNat : Int)) 128)]), v12, (n_5 >>> 7)) ⟨hk, inferInstance⟩ (by dsimp only; omega) (.c (.c .nil)) (List.Sublist.refl _)
      · replace hk := zab hk h8; refine T.exit (K.ab (K.ab (K.ad ?_))); exact K.ai (out_4, vout_4, n_5) ⟨hk, inferInstance⟩ (.c (.c .nil)) (List.Sublist.refl _)
  · rintro ⟨out_1, vout_1, n_2⟩ ⟨hk, oout_1⟩; (try dsimp only at *); rw [← hk3] at hk; (try dsimp only at hk); refine T.seq ?_; have hq : (room (out_1 ++ [(IntKind.u8.wrap (n_2.toNat : Int))]).length 1) ∧ _ := zaj hk; clear hk; obtain ⟨g19, hk⟩ := hq; (try dsimp only at hk); refine T.region ?_; refine TL.run 2 rfl ?_; refine TL.y (Yv.aN (z := (n_2.toNat : Int)) rfl rfl) ?_; refine TL.e (Ew.buildSlice rfl rfl rfl (by decide)) ?_; rintro _ _ ⟨g18, rfl, rfl⟩; refine TL.e (Ew.av 1 0 rfl rfl rfl rfl rfl rfl (zbF (ys := [(IntKind.u8.wrap (n_2.toNat : Int))]) rfl) (zbP (enc := (eK .u8)) (xs := out_1) (ys := [(IntKind.u8.wrap (n_2.toNat : Int))])) g19 (by decide)) ?_; rintro v19 _ ⟨hv19, rfl⟩; refine TL.run 1 rfl ?_; refine TL.ns (T.ret ?_); obtain rfl := Option.some.inj hk; exact K.aj rfl rfl (fun w' hw => ⟨v19, trivial, rfl, FxM.of (hw.pick (idx := [1, 2]) rfl (by decide)) hS0 (Frz.Le.refl _)⟩)
def zcU (fuel : Nat) (l0_ : List Int) (n : Int) : Option (List Int) :=
  (bif decide (n < 0) then
    (zby fuel l0_ (((BitVec.ofInt 64 (wI (0 - (wI (n + 1))))) <<< 1) ||| (1#64))).bind fun r14 =>
    some r14
    else
    (zby fuel l0_ ((BitVec.ofInt 64 n) <<< 1)).bind fun r19 =>
    some r19)
theorem zgl (F0 : Frz) (w : World) (hF0 : F0.At w) (l0_ : List Int) (v0_ : Value) (n : Int) (hO : Hp w (fps [.sl v0_ 5 1 l0_.length (l0_.flatMap (eK .u8))]) [.sl v0_ 5 1 l0_.length (l0_.flatMap (eK .u8))] w) (hA : ∀ g, fps [.sl v0_ 5 1 l0_.length (l0_.flatMap (eK .u8))] g → ¬ F0.S g) (fuel : Nat) (r : List Int) (hr : zcU fuel l0_ n = some r) : Calls Tryz.prog 130 #[v0_, .int .i64 n] w fun e w' => ∃ (y : Value), (True) ∧ e = .returned (y) ∧ FxM F0 w (fps [.sl v0_ 5 1 l0_.length (l0_.flatMap (eK .u8))]) F0 [.sl y 5 1 r.length (r.flatMap (eK .u8))] w' := by
  have hk := hr; unfold zcU at hk; haveI := zb2 (hO.own (.sl v0_ 5 1 l0_.length (l0_.flatMap (eK .u8))) (by simp)); have hmx0_ := zch (hO.own (.sl v0_ 5 1 l0_.length (l0_.flatMap (eK .u8))) (by simp)); obtain ⟨S0, F1, rfl, hS0, hp0⟩ := zaM hF0 hO hA; refine zam (hs := [.sl v0_ 5 1 l0_.length (l0_.flatMap (eK .u8)), .fr F1]) Tryz.func130 rfl rfl rfl hp0 ?_; refine T.sr ?_; refine TL.run 1 rfl ?_; refine TL.ns (T.seq (T.sr ?_)); refine TL.run 2 rfl ?_; refine TL.ns ?_; refine T.cond rfl (fun h1 => ?_) (fun h1 => ?_)
  · have p1 := of_decide_eq_true h1; replace hk := zac hk h1; refine T.seq ?_; have hq := zae hk; clear hk; obtain ⟨r14, hr14, hk⟩ := hq; (try dsimp only at hk); refine T.region ?_; refine TL.run 3 rfl ?_; refine TL.y (Yv.bA rfl rfl) ?_; refine TL.y (Yv.aV (z := (wI (0 - (wI (n + 1))))) rfl rfl) ?_; refine TL.y (Yv.bl (a := (BitVec.ofInt 64 (wI (0 - (wI (n + 1)))))) 1 rfl rfl rfl (show (1 : Int) = ((1 : Nat) : Int) from rfl) (by omega)) ?_; refine TL.y (Yv.bR (a := ((BitVec.ofInt 64 (wI (0 - (wI (n + 1))))) <<< 1)) (b := 1#64) rfl rfl rfl) ?_; refine TL.e (Ew.ak [0, 1] [.sl v0_ 5 1 l0_.length (l0_.flatMap (eK .u8))] [] rfl rfl rfl rfl (by decide) (fun w hw hw2 hF => zdY _ w hF l0_ v0_ (((BitVec.ofInt 64 (wI (0 - (wI (n + 1))))) <<< 1) ||| (1#64)) hw2.takes.1 hw2.takes.2 fuel r14 hr14)) ?_; rintro v14_0_0 _ ⟨_, -, rfl, rfl⟩; dsimp only [List.cons_append, List.nil_append]; refine TL.az 0 rfl ?_; intro iv14_0_0 hmv14_0_0; refine TL.run 1 rfl ?_; refine TL.ns (T.ret (K.then_ret ?_)); obtain rfl := Option.some.inj hk; exact K.aj rfl rfl (fun w' hw => ⟨v14_0_0, trivial, rfl, FxM.of (hw.pick (idx := [0, 1]) rfl (by decide)) hS0 (Frz.Le.refl _)⟩)
  · have p1 := of_decide_eq_false h1; replace hk := zab hk h1; refine T.skip (K.seq (T.seq ?_)); have hq := zae hk; clear hk; obtain ⟨r19, hr19, hk⟩ := hq; (try dsimp only at hk); refine T.region ?_; refine TL.run 2 rfl ?_; refine TL.y (Yv.aV (z := n) rfl rfl) ?_; refine TL.y (Yv.bl (a := (BitVec.ofInt 64 n)) 1 rfl rfl rfl (show (1 : Int) = ((1 : Nat) : Int) from rfl) (by omega)) ?_; refine TL.e (Ew.ak [0, 1] [.sl v0_ 5 1 l0_.length (l0_.flatMap (eK .u8))] [] rfl rfl rfl rfl (by decide) (fun w hw hw2 hF => zdY _ w hF l0_ v0_ ((BitVec.ofInt 64 n) <<< 1) hw2.takes.1 hw2.takes.2 fuel r19 hr19)) ?_; rintro v19_0_0 _ ⟨_, -, rfl, rfl⟩; dsimp only [List.cons_append, List.nil_append]; refine TL.az 0 rfl ?_; intro iv19_0_0 hmv19_0_0; refine TL.run 1 rfl ?_; refine TL.ns (T.ret ?_); obtain rfl := Option.some.inj hk; exact K.aj rfl rfl (fun w' hw => ⟨v19_0_0, trivial, rfl, FxM.of (hw.pick (idx := [0, 1]) rfl (by decide)) hS0 (Frz.Le.refl _)⟩)
def zbb (x0_ : GWriter) : Bool :=
  (decide (x0_.fault.first = 0))
theorem zcg (F0 : Frz) (w : World) (hF0 : F0.At w) (x0_ : GWriter) (g0_ : Nat) (v0_1 : Value) (hO : Hp w (fps [.row g0_ 144 [.int .i64 x0_.fault.first, v0_1], .sl v0_1 5 1 x0_.out.length (x0_.out.flatMap (eK .u8))]) [.row g0_ 144 [.int .i64 x0_.fault.first, v0_1], .sl v0_1 5 1 x0_.out.length (x0_.out.flatMap (eK .u8))] w) (hA : ∀ g, fps [.row g0_ 144 [.int .i64 x0_.fault.first, v0_1], .sl v0_1 5 1 x0_.out.length (x0_.out.flatMap (eK .u8))] g → ¬ F0.S g) : Calls Tryz.prog 126 #[.pointer (some ⟨g0_, 0, none⟩)] w fun e w' => ∃ (y : Unit), (True) ∧ e = .returned (.bool (zbb x0_)) ∧ FxM F0 w (fps [.row g0_ 144 [.int .i64 x0_.fault.first, v0_1], .sl v0_1 5 1 x0_.out.length (x0_.out.flatMap (eK .u8))]) F0 [.row g0_ 144 [.int .i64 x0_.fault.first, v0_1], .sl v0_1 5 1 x0_.out.length (x0_.out.flatMap (eK .u8))] w' := by
  obtain ⟨r, hk⟩ : ∃ r, zbb x0_ = r := ⟨_, rfl⟩; rw [hk]; unfold zbb at hk; haveI := zb2 (hO.own (.sl v0_1 5 1 x0_.out.length (x0_.out.flatMap (eK .u8))) (by simp)); have hmx0_1 := zch (hO.own (.sl v0_1 5 1 x0_.out.length (x0_.out.flatMap (eK .u8))) (by simp)); obtain ⟨S0, F1, rfl, hS0, hp0⟩ := zaM hF0 hO hA; refine zam (hs := [.row g0_ 144 [.int .i64 x0_.fault.first, v0_1], .sl v0_1 5 1 x0_.out.length (x0_.out.flatMap (eK .u8)), .fr F1]) Tryz.func126 rfl rfl rfl hp0 ?_; refine T.sr ?_; refine TL.run 1 rfl ?_; refine TL.ns (T.seq ?_); refine T.af (ι := Unit) (fun z => [(2, .bool (decide (x0_.fault.first = 0)))]) (fun z => [.row g0_ 144 [.int .i64 x0_.fault.first, v0_1], .sl v0_1 5 1 x0_.out.length (x0_.out.flatMap (eK .u8)), .fr F1]) (fun z => True) ?_ ?_
  · refine T.region ?_; refine TL.run 1 rfl ?_; refine TL.y (Yv.bh (e := 144) (by kernel_rfl) rfl rfl rfl) ?_; refine TL.run 3 rfl ?_; refine TL.y (Yv.fieldAddr rfl rfl) ?_; refine TL.y (Yv.fieldAddr rfl rfl) ?_; refine TL.y (Yv.aa 0 rfl rfl rfl rfl) ?_; refine TL.run 3 rfl ?_; refine TL.nil ?_; exact K.ai () trivial (.c .nil) (List.Sublist.refl _)
  · rintro _ _; refine T.ret ?_; subst hk; exact K.aj rfl rfl (fun w' hw => ⟨⟨⟩, trivial, rfl, FxM.of (hw.pick (idx := [0, 1, 2]) rfl (by decide)) hS0 (Frz.Le.refl _)⟩)
def zaI (x0_ : GWriter) (l1_ : List Int) : Option (List Int) :=
  (bif decide (65536 < (l1_.length : Int)) then
    none
    else
    some l1_)
theorem zcc (F0 : Frz) (w : World) (hF0 : F0.At w) (x0_ : GWriter) (g0_ : Nat) (v0_1 : Value) [iv0_1 : OneC v0_1] (l1_ : List Int) (v1_ : Value) (hO : Hp w (fps [.row g0_ 144 [.int .i64 x0_.fault.first, v0_1], .sl v1_ 5 1 l1_.length (l1_.flatMap (eK .u8))]) [.row g0_ 144 [.int .i64 x0_.fault.first, v0_1], .sl v1_ 5 1 l1_.length (l1_.flatMap (eK .u8))] w) (hA : ∀ g, fps [.row g0_ 144 [.int .i64 x0_.fault.first, v0_1], .sl v1_ 5 1 l1_.length (l1_.flatMap (eK .u8))] g → ¬ F0.S g) (r : List Int) (hr : zaI x0_ l1_ = some r) : Calls Tryz.prog 128 #[.pointer (some ⟨g0_, 0, none⟩), v1_] w fun e w' => ∃ (y : Value), (True) ∧ e = .returned (.tuple #[]) ∧ FxM F0 w (fps [.row g0_ 144 [.int .i64 x0_.fault.first, v0_1], .sl v1_ 5 1 l1_.length (l1_.flatMap (eK .u8))]) F0 [.row g0_ 144 [.int .i64 x0_.fault.first, y], .sl y 5 1 r.length (r.flatMap (eK .u8))] w' := by
  have hk := hr; unfold zaI at hk; haveI := zb2 (hO.own (.sl v1_ 5 1 l1_.length (l1_.flatMap (eK .u8))) (by simp)); have hmx1_ := zch (hO.own (.sl v1_ 5 1 l1_.length (l1_.flatMap (eK .u8))) (by simp)); obtain ⟨S0, F1, rfl, hS0, hp0⟩ := zaM hF0 hO hA; refine zam (hs := [.row g0_ 144 [.int .i64 x0_.fault.first, v0_1], .sl v1_ 5 1 l1_.length (l1_.flatMap (eK .u8)), .fr F1]) Tryz.func128 rfl rfl rfl hp0 ?_; refine T.seq (T.sr ?_); refine TL.run 1 rfl ?_; refine TL.y (Yv.bk 1 rfl rfl rfl) ?_; refine TL.run 1 rfl ?_; refine TL.ns ?_; refine T.cond rfl (fun h1 => ?_) (fun h1 => ?_)
  · have p1 := of_decide_eq_true h1; replace hk := zac hk h1; refine T.seq ?_; cases hk
  · have p1 := of_decide_eq_false h1; replace hk := zab hk h1; refine T.skip (K.seq (T.region ?_)); refine TL.run 3 rfl ?_; refine TL.y (Yv.fieldAddr rfl rfl) ?_; refine TL.e0 (Ew.ar 0 rfl rfl rfl rfl (by simp)) ?_; rintro _ _ ⟨rfl, rfl⟩; refine TL.nil ?_; obtain rfl := Option.some.inj hk; exact K.end0 rfl (fun w' hw => ⟨v1_, trivial, rfl, FxM.of (hw.pick (idx := [0, 1, 2]) rfl (by decide)) hS0 (Frz.Le.refl _)⟩)
def zbe (fuel : Nat) (x0_ : GWriter) (n : Int) : Option (List Int) :=
  (bif !(zbb x0_) then
    some x0_.out
    else
    (bif decide (n < 0) then
      none
      else
      (zby fuel x0_.out (BitVec.ofInt 64 n)).bind fun r20 =>
      (zaI x0_ r20).bind fun r21 =>
      some r21))
theorem zdn (F0 : Frz) (w : World) (hF0 : F0.At w) (x0_ : GWriter) (g0_ : Nat) (v0_1 : Value) (n : Int) (hO : Hp w (fps [.row g0_ 144 [.int .i64 x0_.fault.first, v0_1], .sl v0_1 5 1 x0_.out.length (x0_.out.flatMap (eK .u8))]) [.row g0_ 144 [.int .i64 x0_.fault.first, v0_1], .sl v0_1 5 1 x0_.out.length (x0_.out.flatMap (eK .u8))] w) (hA : ∀ g, fps [.row g0_ 144 [.int .i64 x0_.fault.first, v0_1], .sl v0_1 5 1 x0_.out.length (x0_.out.flatMap (eK .u8))] g → ¬ F0.S g) (fuel : Nat) (r : List Int) (hr : zbe fuel x0_ n = some r) : Calls Tryz.prog 99 #[.pointer (some ⟨g0_, 0, none⟩), .int .i64 n] w fun e w' => ∃ (y : Value), (True) ∧ e = .returned (.tuple #[]) ∧ FxM F0 w (fps [.row g0_ 144 [.int .i64 x0_.fault.first, v0_1], .sl v0_1 5 1 x0_.out.length (x0_.out.flatMap (eK .u8))]) F0 [.row g0_ 144 [.int .i64 x0_.fault.first, y], .sl y 5 1 r.length (r.flatMap (eK .u8))] w' := by
  have hk := hr; unfold zbe at hk; haveI := zb2 (hO.own (.sl v0_1 5 1 x0_.out.length (x0_.out.flatMap (eK .u8))) (by simp)); have hmx0_1 := zch (hO.own (.sl v0_1 5 1 x0_.out.length (x0_.out.flatMap (eK .u8))) (by simp)); obtain ⟨S0, F1, rfl, hS0, hp0⟩ := zaM hF0 hO hA; refine zam (hs := [.row g0_ 144 [.int .i64 x0_.fault.first, v0_1], .sl v0_1 5 1 x0_.out.length (x0_.out.flatMap (eK .u8)), .fr F1]) Tryz.func99 rfl rfl rfl hp0 ?_; refine T.seq (T.sr ?_); refine TL.run 1 rfl ?_; refine TL.e (Ew.ak [0, 1, 2] [.row g0_ 144 [.int .i64 x0_.fault.first, v0_1], .sl v0_1 5 1 x0_.out.length (x0_.out.flatMap (eK .u8))] [] rfl rfl rfl rfl (by decide) (fun w hw hw2 hF => zcg _ w hF x0_ g0_ v0_1 hw2.takes.1 hw2.takes.2)) ?_; rintro _ _ ⟨⟨⟩, -, rfl, rfl⟩; dsimp only [List.cons_append, List.nil_append]; refine TL.run 1 rfl ?_; refine TL.ns ?_; refine T.cond rfl (fun h1 => ?_) (fun h1 => ?_)
  · replace hk := zac hk h1; refine T.ret (K.then_ret ?_); obtain rfl := Option.some.inj hk; exact K.ret0 rfl (fun w' hw => ⟨v0_1, trivial, rfl, FxM.of (hw.pick (idx := [0, 1, 2]) rfl (by decide)) hS0 (Frz.Le.refl _)⟩)
  · replace hk := zab hk h1; refine T.skip (K.seq (T.seq (T.sr ?_))); refine TL.run 2 rfl ?_; refine TL.ns ?_; refine T.cond rfl (fun h2 => ?_) (fun h2 => ?_)
    · have p2 := of_decide_eq_true h2; replace hk := zac hk h2; refine T.seq ?_; cases hk
    · have p2 := of_decide_eq_false h2; replace hk := zab hk h2; refine T.skip (K.seq ?_); have hq := zae hk; clear hk; obtain ⟨r20, hr20, hk⟩ := hq; have hq := zae hk; clear hk; obtain ⟨r21, hr21, hk⟩ := hq; (try dsimp only at hk); refine T.region ?_; refine TL.run 3 rfl ?_; refine TL.y (Yv.fieldAddr rfl rfl) ?_; refine TL.y (Yv.aa 0 rfl rfl rfl rfl) ?_; refine TL.run 1 rfl ?_; refine TL.y (Yv.aV (z := n) rfl rfl) ?_; refine TL.e (Ew.ak [1, 2, 0] [.sl v0_1 5 1 x0_.out.length (x0_.out.flatMap (eK .u8))] [.row g0_ 144 [.int .i64 x0_.fault.first, v0_1]] rfl rfl rfl rfl (by decide) (fun w hw hw2 hF => zdY _ w hF x0_.out v0_1 (BitVec.ofInt 64 n) hw2.takes.1 hw2.takes.2 fuel r20 hr20)) ?_; rintro v20_0_0 _ ⟨_, -, rfl, rfl⟩; dsimp only [List.cons_append, List.nil_append]; refine TL.az 0 rfl ?_; intro iv20_0_0 hmv20_0_0; refine TL.e (Ew.ak [2, 0, 1] [.row g0_ 144 [.int .i64 x0_.fault.first, v0_1], .sl v20_0_0 5 1 r20.length (r20.flatMap (eK .u8))] [] rfl rfl rfl rfl (by decide) (fun w hw hw2 hF => zcc _ w hF x0_ g0_ v0_1 r20 v20_0_0 hw2.takes.1 hw2.takes.2 r21 hr21)) ?_; rintro _ _ ⟨v21_0_1, -, rfl, rfl⟩; dsimp only [List.cons_append, List.nil_append]; refine TL.az 1 rfl ?_; intro iv21_0_1 hmv21_0_1; refine TL.nil ?_; obtain rfl := Option.some.inj hk; exact K.end0 rfl (fun w' hw => ⟨v21_0_1, trivial, rfl, FxM.of (hw.pick (idx := [0, 1, 2]) rfl (by decide)) hS0 (Frz.Le.refl _)⟩)
def za7 (fuel : Nat) (x0_ : GWriter) (n : Int) : Option (List Int) :=
  (bif (zbb x0_) then
    (zcU fuel x0_.out n).bind fun r12 =>
    (zaI x0_ r12).bind fun r13 =>
    some r13
    else
    some x0_.out)
theorem zdr (F0 : Frz) (w : World) (hF0 : F0.At w) (x0_ : GWriter) (g0_ : Nat) (v0_1 : Value) (n : Int) (hO : Hp w (fps [.row g0_ 144 [.int .i64 x0_.fault.first, v0_1], .sl v0_1 5 1 x0_.out.length (x0_.out.flatMap (eK .u8))]) [.row g0_ 144 [.int .i64 x0_.fault.first, v0_1], .sl v0_1 5 1 x0_.out.length (x0_.out.flatMap (eK .u8))] w) (hA : ∀ g, fps [.row g0_ 144 [.int .i64 x0_.fault.first, v0_1], .sl v0_1 5 1 x0_.out.length (x0_.out.flatMap (eK .u8))] g → ¬ F0.S g) (fuel : Nat) (r : List Int) (hr : za7 fuel x0_ n = some r) : Calls Tryz.prog 100 #[.pointer (some ⟨g0_, 0, none⟩), .int .i64 n] w fun e w' => ∃ (y : Value), (True) ∧ e = .returned (.tuple #[]) ∧ FxM F0 w (fps [.row g0_ 144 [.int .i64 x0_.fault.first, v0_1], .sl v0_1 5 1 x0_.out.length (x0_.out.flatMap (eK .u8))]) F0 [.row g0_ 144 [.int .i64 x0_.fault.first, y], .sl y 5 1 r.length (r.flatMap (eK .u8))] w' := by
  have hk := hr; unfold za7 at hk; haveI := zb2 (hO.own (.sl v0_1 5 1 x0_.out.length (x0_.out.flatMap (eK .u8))) (by simp)); have hmx0_1 := zch (hO.own (.sl v0_1 5 1 x0_.out.length (x0_.out.flatMap (eK .u8))) (by simp)); obtain ⟨S0, F1, rfl, hS0, hp0⟩ := zaM hF0 hO hA; refine zam (hs := [.row g0_ 144 [.int .i64 x0_.fault.first, v0_1], .sl v0_1 5 1 x0_.out.length (x0_.out.flatMap (eK .u8)), .fr F1]) Tryz.func100 rfl rfl rfl hp0 ?_; refine T.sr ?_; refine TL.run 1 rfl ?_; refine TL.e (Ew.ak [0, 1, 2] [.row g0_ 144 [.int .i64 x0_.fault.first, v0_1], .sl v0_1 5 1 x0_.out.length (x0_.out.flatMap (eK .u8))] [] rfl rfl rfl rfl (by decide) (fun w hw hw2 hF => zcg _ w hF x0_ g0_ v0_1 hw2.takes.1 hw2.takes.2)) ?_; rintro _ _ ⟨⟨⟩, -, rfl, rfl⟩; dsimp only [List.cons_append, List.nil_append]; refine TL.ns ?_; refine T.cond rfl (fun h1 => ?_) (fun h1 => ?_)
  · replace hk := zac hk h1; have hq := zae hk; clear hk; obtain ⟨r12, hr12, hk⟩ := hq; have hq := zae hk; clear hk; obtain ⟨r13, hr13, hk⟩ := hq; (try dsimp only at hk); refine T.region ?_; refine TL.run 3 rfl ?_; refine TL.y (Yv.fieldAddr rfl rfl) ?_; refine TL.y (Yv.aa 0 rfl rfl rfl rfl) ?_; refine TL.run 1 rfl ?_; refine TL.e (Ew.ak [1, 2, 0] [.sl v0_1 5 1 x0_.out.length (x0_.out.flatMap (eK .u8))] [.row g0_ 144 [.int .i64 x0_.fault.first, v0_1]] rfl rfl rfl rfl (by decide) (fun w hw hw2 hF => zgl _ w hF x0_.out v0_1 n hw2.takes.1 hw2.takes.2 fuel r12 hr12)) ?_; rintro v12_0_0 _ ⟨_, -, rfl, rfl⟩; dsimp only [List.cons_append, List.nil_append]; refine TL.az 0 rfl ?_; intro iv12_0_0 hmv12_0_0; refine TL.e (Ew.ak [2, 0, 1] [.row g0_ 144 [.int .i64 x0_.fault.first, v0_1], .sl v12_0_0 5 1 r12.length (r12.flatMap (eK .u8))] [] rfl rfl rfl rfl (by decide) (fun w hw hw2 hF => zcc _ w hF x0_ g0_ v0_1 r12 v12_0_0 hw2.takes.1 hw2.takes.2 r13 hr13)) ?_; rintro _ _ ⟨v13_0_1, -, rfl, rfl⟩; dsimp only [List.cons_append, List.nil_append]; refine TL.az 1 rfl ?_; intro iv13_0_1 hmv13_0_1; refine TL.nil ?_; obtain rfl := Option.some.inj hk; exact K.end0 rfl (fun w' hw => ⟨v13_0_1, trivial, rfl, FxM.of (hw.pick (idx := [0, 1, 2]) rfl (by decide)) hS0 (Frz.Le.refl _)⟩)
  · replace hk := zab hk h1; refine T.skip ?_; obtain rfl := Option.some.inj hk; exact K.end0 rfl (fun w' hw => ⟨v0_1, trivial, rfl, FxM.of (hw.pick (idx := [0, 1, 2]) rfl (by decide)) hS0 (Frz.Le.refl _)⟩)
def zbf (x0_ : GWriter) : Option (List Int × Int) :=
  (bif decide (¬ x0_.fault.first = 0) then
    some ([], x0_.fault.first)
    else
    grd (room ([] ++ x0_.out).length 1) <|
    some (([] ++ x0_.out), 0))
theorem zdu (F0 : Frz) (w : World) (hF0 : F0.At w) (x0_ : GWriter) (g0_ : Nat) (v0_1 : Value) (hO : Hp w (fps [.row g0_ 144 [.int .i64 x0_.fault.first, v0_1], .sl v0_1 5 1 x0_.out.length (x0_.out.flatMap (eK .u8))]) [.row g0_ 144 [.int .i64 x0_.fault.first, v0_1], .sl v0_1 5 1 x0_.out.length (x0_.out.flatMap (eK .u8))] w) (hA : ∀ g, fps [.row g0_ 144 [.int .i64 x0_.fault.first, v0_1], .sl v0_1 5 1 x0_.out.length (x0_.out.flatMap (eK .u8))] g → ¬ F0.S g) (r : List Int × Int) (hr : zbf x0_ = some r) : Calls Tryz.prog 101 #[.pointer (some ⟨g0_, 0, none⟩)] w fun e w' => ∃ (y : Value), (True) ∧ e = .returned (.tuple #[y, .int .i64 r.2]) ∧ FxM F0 w (fps [.row g0_ 144 [.int .i64 x0_.fault.first, v0_1], .sl v0_1 5 1 x0_.out.length (x0_.out.flatMap (eK .u8))]) F0 [.row g0_ 144 [.int .i64 x0_.fault.first, v0_1], .sl v0_1 5 1 x0_.out.length (x0_.out.flatMap (eK .u8)), .sl y 5 1 r.1.length (r.1.flatMap (eK .u8))] w' := by
  have hk := hr; unfold zbf at hk; haveI := zb2 (hO.own (.sl v0_1 5 1 x0_.out.length (x0_.out.flatMap (eK .u8))) (by simp)); have hmx0_1 := zch (hO.own (.sl v0_1 5 1 x0_.out.length (x0_.out.flatMap (eK .u8))) (by simp)); obtain ⟨S0, F1, rfl, hS0, hp0⟩ := zaM hF0 hO hA; refine zam (hs := [.row g0_ 144 [.int .i64 x0_.fault.first, v0_1], .sl v0_1 5 1 x0_.out.length (x0_.out.flatMap (eK .u8)), .fr F1]) Tryz.func101 rfl rfl rfl hp0 ?_; refine T.sr ?_; refine TL.run 1 rfl ?_; refine TL.slNil 5 1 ?_; refine TL.run 1 rfl ?_; refine TL.ns (T.seq (T.sr ?_)); refine TL.run 1 rfl ?_; refine TL.y (Yv.bS (e := 144) (by kernel_rfl) rfl rfl rfl) ?_; refine TL.ns ?_; refine T.be rfl rfl ?_; refine T.skip (K.seq (T.seq (T.sr ?_))); refine TL.run 2 rfl ?_; refine TL.y (Yv.fieldAddr rfl rfl) ?_; refine TL.y (Yv.fieldAddr rfl rfl) ?_; refine TL.y (Yv.aa 1 rfl rfl rfl rfl) ?_; refine TL.run 1 rfl ?_; refine TL.ns ?_; refine T.cond rfl (fun h1 => ?_) (fun h1 => ?_)
  · have p1 := of_decide_eq_true h1; replace hk := zac hk h1; refine T.seq ?_; refine T.ax (.still 0 (.still 1 (.still 2 (.still 3 (.still 4 (.still 5 (.still 6 .done))))))) _ (by kernel_rfl) (List.Sublist.refl _) ?_; refine TS.run 2 rfl ?_; refine TS.y rfl (Yv.fieldAddr rfl rfl) ?_; refine TS.y rfl (Yv.fieldAddr rfl rfl) ?_; refine TS.y rfl (Yv.aa 1 rfl rfl rfl rfl) ?_; refine TS.run 1 rfl ?_; refine TS.slNil 5 1 ?_; refine TS.run 1 rfl ?_; refine TS.done ?_; refine K.seq (T.ret (K.then_ret ?_)); obtain rfl := Option.some.inj hk; exact K.aQ rfl rfl rfl (fun w' hw => ⟨(.slice none 0 0), trivial, rfl, FxM.of (hw.pick (idx := [2, 3, 0, 4]) rfl (by decide)) hS0 (Frz.Le.refl _)⟩)
  · have p1 := of_decide_eq_false h1; replace hk := zab hk h1; refine T.skip (K.seq (T.seq ?_)); have hq : (room ([] ++ x0_.out).length 1) ∧ _ := zaj hk; clear hk; obtain ⟨g21, hk⟩ := hq; (try dsimp only at hk); refine T.region ?_; refine TL.run 2 rfl ?_; refine TL.y (Yv.fieldAddr rfl rfl) ?_; refine TL.y (Yv.aa 1 rfl rfl rfl rfl) ?_; refine TL.slNil 5 1 ?_; refine TL.e (Ew.by 0 3 (zir (fun _ => inferInstance)) rfl rfl rfl rfl rfl (ziB ([] : List Int) x0_.out) (zh5 (enc := (eK .u8)) ([] : List Int) x0_.out) g21 (by decide)) ?_; rintro v21 _ ⟨hv21, rfl⟩; refine TL.run 2 rfl ?_; refine TL.ns (T.ret ?_); obtain rfl := Option.some.inj hk; exact K.aQ rfl rfl rfl (fun w' hw => ⟨v21, trivial, rfl, FxM.of (hw.pick (idx := [2, 3, 0, 4]) rfl (by decide)) hS0 (Frz.Le.refl _)⟩)
def zaA (fuel : Nat) (l : List Int) (xf0_ : GWriter) : Option (List Int) :=
  zag (fun (i_3 : Nat) (next2 : List Int → Option (List Int)) (c_1 : List Int) =>
    (zbe fuel (GWriter.mk (Gfault.mk xf0_.fault.first) c_1) (nth l i_3)).bind fun r12 =>
    next2 r12)
  (fun (c_1 : List Int) =>
    some c_1) (l.length - 0) 0 xf0_.out
theorem zbi (F0 : Frz) (w : World) (hF0 : F0.At w) (l : List Int) (vl : Value) (hl : SlC F0 vl 1 (l.map eI)) (xf0_ : GWriter) (gf0_ : Nat) (vf0_1 : Value) (hO : Hp w (fps [.row gf0_ 144 [.int .i64 xf0_.fault.first, vf0_1], .sl vf0_1 5 1 xf0_.out.length (xf0_.out.flatMap (eK .u8))]) [.row gf0_ 144 [.int .i64 xf0_.fault.first, vf0_1], .sl vf0_1 5 1 xf0_.out.length (xf0_.out.flatMap (eK .u8))] w) (hA : ∀ g, fps [.row gf0_ 144 [.int .i64 xf0_.fault.first, vf0_1], .sl vf0_1 5 1 xf0_.out.length (xf0_.out.flatMap (eK .u8))] g → ¬ F0.S g) (fuel : Nat) (r : List Int) (hr : zaA fuel l xf0_ = some r) : Calls Tryz.prog 98 #[vl, .pointer (some ⟨gf0_, 0, none⟩)] w fun e w' => ∃ (y : Value), (True) ∧ e = .returned (.tuple #[]) ∧ FxM F0 w (fps [.row gf0_ 144 [.int .i64 xf0_.fault.first, vf0_1], .sl vf0_1 5 1 xf0_.out.length (xf0_.out.flatMap (eK .u8))]) F0 [.row gf0_ 144 [.int .i64 xf0_.fault.first, y], .sl y 5 1 r.length (r.flatMap (eK .u8))] w' := by
  have hk := hr; unfold zaA at hk; haveI := hl.oneC; haveI := zb2 (hO.own (.sl vf0_1 5 1 xf0_.out.length (xf0_.out.flatMap (eK .u8))) (by simp)); have hmxf0_1 := zch (hO.own (.sl vf0_1 5 1 xf0_.out.length (xf0_.out.flatMap (eK .u8))) (by simp)); obtain ⟨S0, F1, rfl, hS0, hp0⟩ := zaM hF0 hO hA; refine zam (hs := [.row gf0_ 144 [.int .i64 xf0_.fault.first, vf0_1], .sl vf0_1 5 1 xf0_.out.length (xf0_.out.flatMap (eK .u8)), .fr F1]) Tryz.func98 rfl rfl rfl hp0 ?_; refine T.sr ?_; refine TL.run 1 rfl ?_; refine TL.y (Yv.an rfl rfl hl (List.length_map _)) ?_; have hm6 : l.length ≤ 9223372036854775807 := (List.length_map _) ▸ hl.max; refine TL.run 1 rfl ?_; refine TL.ns ?_; have hq := zah hk; clear hk; obtain ⟨f2, kk2, hf2, hkk2, hk⟩ := hq; refine T.block ?_; refine T.pick [1, 0, 2] rfl (by decide) ?_; refine T.loop (ι := Nat × List Int × Value) (fun z => [(1, .pointer (some ⟨gf0_, 0, none⟩)), (5, vl), (6, .int .i64 (l.length : Int)), (7, .int .i64 (z.1 : Int))]) (fun z => [.sl z.2.2 5 1 z.2.1.length (z.2.1.flatMap (eK .u8)), .row gf0_ 144 [.int .i64 xf0_.fault.first, z.2.2], .fr F1]) (fun z => zag f2 kk2 (l.length - z.1) z.1 z.2.1 = some r ∧ OneC z.2.2) (fun z => l.length - z.1) (0, xf0_.out, vf0_1) ?_ ?_ ?_ ?_
  · exact ⟨hk, inferInstance⟩
  · exact (.c (.c (.c (.c .nil))))
  · exact List.Sublist.refl _
  · rintro ⟨i_3, c_1, vc_1⟩ ⟨hk, oc_1⟩; (try dsimp only at *); refine T.sr ?_; refine TL.run 1 rfl ?_; refine TL.ns (T.seq ?_); refine T.cond rfl (fun h4 => ?_) (fun h4 => ?_)
    · have p4 := of_decide_eq_true h4; rw [zas (by omega)] at hk; generalize hn2 : zag f2 kk2 (l.length - (i_3 + 1)) (i_3 + 1) = next2 at hk; rw [← hf2] at hk; (try dsimp only at hk); refine T.skip (K.seq (T.seq (T.block (T.sr ?_)))); refine TL.y (Yv.al (i := i_3) rfl rfl rfl hl (List.length_map _) rfl (by omega)) ?_; refine TL.y (Yv.as 2 (i := i_3) (j := 0) rfl rfl rfl hl (by omega) rfl rfl) ?_; refine TL.run 1 rfl ?_; refine TL.ns ?_; have hq := zae hk; clear hk; obtain ⟨r12, hr12, hk⟩ := hq; (try dsimp only at hk); refine T.region ?_; refine TL.run 1 rfl ?_; refine TL.e (Ew.ak [1, 0, 2] [.row gf0_ 144 [.int .i64 xf0_.fault.first, vc_1], .sl vc_1 5 1 c_1.length (c_1.flatMap (eK .u8))] [] rfl rfl rfl rfl (by decide) (fun w hw hw2 hF => zdn _ w hF (GWriter.mk (Gfault.mk xf0_.fault.first) c_1) gf0_ vc_1 (nth l i_3) hw2.takes.1 hw2.takes.2 fuel r12 hr12)) ?_; rintro _ _ ⟨v12_0_1, -, rfl, rfl⟩; dsimp only [List.cons_append, List.nil_append]; refine TL.az 1 rfl ?_; intro iv12_0_1 hmv12_0_1; refine TL.nil (K.ac (K.seq (T.region ?_))); refine TL.y (Yv.ao rfl rfl rfl (by omega)) ?_; refine TL.run 1 rfl ?_; refine TL.nil ?_; rw [← hn2] at hk; refine K.pick [1, 0, 2] rfl (by decide) ?_; exact K.next ((i_3 + 1), r12, v12_0_1) ⟨hk, inferInstance⟩ (by dsimp only; omega) (.c (.c (.c (.c .nil)))) (List.Sublist.refl _)
    · have p4 := of_decide_eq_false h4; rw [zar (by omega), ← hkk2] at hk; (try dsimp only at hk); refine T.exit (K.ab (K.ab (K.ad ?_))); obtain rfl := Option.some.inj hk; exact K.end0 rfl (fun w' hw => ⟨vc_1, trivial, rfl, FxM.of (hw.pick (idx := [1, 0, 2]) rfl (by decide)) hS0 (Frz.Le.refl _)⟩)
def zbL (fuel : Nat) (p : GProblem) : Option (List Int × Int) :=
  (zbm p).bind fun r18 =>
  (bif !r18 then
    some ([], 2)
    else
    (zaA fuel [(p.Domains.length : Int)] (GWriter.mk (Gfault.mk 0) [])).bind fun r26 =>
    zaH (fun (c_2 : List Int) =>
      (zaA fuel [(p.Rules.Pairs.length : Int)] (GWriter.mk (Gfault.mk 0) c_2)).bind fun r60 =>
      zaH (fun (c_14 : List Int) =>
        (zaA fuel [(p.Rules.Loads.length : Int)] (GWriter.mk (Gfault.mk 0) c_14)).bind fun r93 =>
        zaH (fun (c_20 : List Int) =>
          (zaA fuel [(p.Rules.Caps.length : Int)] (GWriter.mk (Gfault.mk 0) c_20)).bind fun r122 =>
          zaH (fun (c_26 : List Int) =>
            (zbf (GWriter.mk (Gfault.mk 0) c_26)).bind fun r143 =>
            some (r143.1, r143.2))
          (fun k27 =>
            zag (fun (i_30 : Nat) (next29 : List Int → Option (List Int × Int)) (c_28 : List Int) =>
              (zaA fuel [(nth p.Rules.Caps i_30).Station, (nth p.Rules.Caps i_30).Max, (nth p.Rules.Caps i_30).Low, (nth p.Rules.Caps i_30).High] (GWriter.mk (Gfault.mk 0) c_28)).bind fun r141 =>
              next29 r141)
            (fun (c_28 : List Int) =>
              k27 c_28) (p.Rules.Caps.length - 0) 0 r122))
        (fun k21 =>
          zag (fun (i_24 : Nat) (next23 : List Int → Option (List Int × Int)) (c_22 : List Int) =>
            (zaA fuel [(nth p.Rules.Loads i_24).To, (nth p.Rules.Loads i_24).From, (nth p.Rules.Loads i_24).Weight, (nth p.Rules.Loads i_24).Low, (nth p.Rules.Loads i_24).High] (GWriter.mk (Gfault.mk 0) c_22)).bind fun r114 =>
            next23 r114)
          (fun (c_22 : List Int) =>
            k21 c_22) (p.Rules.Loads.length - 0) 0 r93))
      (fun k15 =>
        zag (fun (i_18 : Nat) (next17 : List Int → Option (List Int × Int)) (c_16 : List Int) =>
          (zaA fuel [(nth p.Rules.Pairs i_18).A, (nth p.Rules.Pairs i_18).B] (GWriter.mk (Gfault.mk 0) c_16)).bind fun r75 =>
          (za7 fuel (GWriter.mk (Gfault.mk 0) r75) ((nth p.Rules.Pairs i_18).Offset)).bind fun r78 =>
          (zaA fuel [(nth p.Rules.Pairs i_18).Low, (nth p.Rules.Pairs i_18).High] (GWriter.mk (Gfault.mk 0) r78)).bind fun r85 =>
          next17 r85)
        (fun (c_16 : List Int) =>
          k15 c_16) (p.Rules.Pairs.length - 0) 0 r60))
    (fun k3 =>
      zag (fun (i_6 : Nat) (next5 : List Int → Option (List Int × Int)) (c_4 : List Int) =>
        zaH (fun (set_8 : Int) =>
          (zaA fuel [(nth p.Domains i_6).Station, set_8] (GWriter.mk (Gfault.mk 0) c_4)).bind fun r52 =>
          next5 r52)
        (fun k9 =>
          zag (fun (i_12 : Nat) (next11 : Int → Option (List Int × Int)) (set_10 : Int) =>
            grd (0 ≤ wI ((nth ((nth p.Domains i_6).Channels) i_12) - 2)) <|
            next11 (orK .i64 set_10 (shlK .i64 1 (wI ((nth ((nth p.Domains i_6).Channels) i_12) - 2)))))
          (fun (set_10 : Int) =>
            k9 set_10) ((((nth p.Domains i_6).Channels).length) - 0) 0 0))
      (fun (c_4 : List Int) =>
        k3 c_4) (p.Domains.length - 0) 0 r26))
theorem zd7 (F0 : Frz) (w : World) (hF0 : F0.At w) (p : GProblem) (vp_0 : Value) (cp_0 : List (List Value)) (hp_0 : SlD GDomain.rep F0 vp_0 2 cp_0 p.Domains) (vp_1 : Value) (hp_1 : SlC F0 vp_1 5 (p.Rules.Pairs.map GPair.enc)) (vp_2 : Value) (hp_2 : SlC F0 vp_2 5 (p.Rules.Loads.map GLoad.enc)) (vp_3 : Value) (hp_3 : SlC F0 vp_3 4 (p.Rules.Caps.map GCap.enc)) (fuel : Nat) (r : List Int × Int) (hr : zbL fuel p = some r) : Calls Tryz.prog 31 #[.agg [vp_0, vp_1, vp_2, vp_3].toArray] w fun e w' => ∃ (y : Value) (G : Frz), (True) ∧ e = .returned (.tuple #[y, .int .i64 r.2]) ∧ FxM F0 w (fps []) G [.sl y 5 1 r.1.length (r.1.flatMap (eK .u8))] w' := by
  have hk := hr; unfold zbL at hk; haveI := hp_0.1.oneC; haveI := hp_1.oneC; haveI := hp_2.oneC; haveI := hp_3.oneC; obtain ⟨S0, F1, rfl, hS0, hp0⟩ := zal hF0; rw [zfG]; refine zam Tryz.func31 rfl rfl rfl hp0 ?_; refine T.sr ?_; refine TL.e (Ew.aA rfl rfl) ?_; rintro _ _ ⟨g1, rfl, rfl⟩; refine TL.run 2 rfl ?_; refine TL.ns (T.seq (T.seq ?_)); have hq := zae hk; clear hk; obtain ⟨r18, hr18, hk⟩ := hq; (try dsimp only at hk); refine T.region ?_; refine TL.y (Yv.am 0 rfl rfl rfl rfl) ?_; refine TL.e (Ew.ag rfl rfl rfl (fun w hw => zcf _ w (hw.fr (i := 1) rfl) p vp_0 cp_0 hp_0 vp_1 hp_1 vp_2 hp_2 vp_3 hp_3 r18 hr18)) ?_; rintro _ _ ⟨rfl, rfl⟩; refine TL.run 1 rfl ?_; refine TL.ns ?_; refine T.cond rfl (fun h1 => ?_) (fun h1 => ?_)
  · replace hk := zac hk h1; refine T.sr ?_; refine TL.run 2 rfl ?_; refine TL.ns (T.ret (K.then_ret ?_)); refine K.slNil 5 1 ?_; obtain rfl := Option.some.inj hk; exact K.aQ rfl rfl rfl (fun w' hw => ⟨(.slice none 0 0), F1.toFrz, trivial, rfl, FxM.of (hw.pick (idx := [0, 2]) rfl (by decide)) hS0 (Frz.Le.refl _)⟩)
  · replace hk := zab hk h1; refine T.skip (K.seq (T.sr ?_)); refine TL.e (Ew.alloc rfl) ?_; rintro _ _ ⟨g4, rfl, rfl⟩; refine TL.slNil 5 1 ?_; refine TL.nx ?_; refine TL.run 2 rfl ?_; refine TL.ns (T.seq ?_); have hq := zae hk; clear hk; obtain ⟨r26, hr26, hk⟩ := hq; (try dsimp only at hk); refine T.region ?_; refine TL.run 1 rfl ?_; refine TL.y (Yv.fieldAddr rfl rfl) ?_; refine TL.y (Yv.aa 2 rfl rfl rfl rfl) ?_; refine TL.y (Yv.an rfl rfl hp_0.1 hp_0.2.1) ?_; have hm24 : p.Domains.length ≤ 9223372036854775807 := hp_0.2.1 ▸ hp_0.1.max; refine TL.e (Ew.buildSlice rfl rfl rfl (by decide)) ?_; rintro _ _ ⟨g25, rfl, rfl⟩; refine TL.ay (fun w hw => hw.freezeR (i := 4) (j := 0) (by decide) rfl rfl) ?_; rintro F2 ⟨le1_2, hz2⟩; dsimp only [List.set, List.eraseIdx]; have hf2 : SlC F2.toFrz (.slice (some ⟨g25, 0, none⟩) 1 1) 1 ([(p.Domains.length : Int)].map eI) := (SlK.lit hz2 rfl (Nat.le_refl _) (by decide)).toF (xs := [(p.Domains.length : Int)]) rfl (fun _ => rfl); refine TL.e (Ew.ak [1, 0, 3, 2] [.row g4 144 [.int .i64 0, (.slice none 0 0)], .sl (.slice none 0 0) 5 1 ([] : List Int).length ([].flatMap (eK .u8))] [.row g1 29 [vp_0, vp_1, vp_2, vp_3]] rfl rfl rfl rfl (by decide) (fun w hw hw2 hF => zbi _ w hF [(p.Domains.length : Int)] (.slice (some ⟨g25, 0, none⟩) 1 1) hf2 (GWriter.mk (Gfault.mk 0) []) g4 (.slice none 0 0) hw2.takes.1 hw2.takes.2 fuel r26 hr26)) ?_; rintro _ _ ⟨v26_0_1, -, rfl, rfl⟩; dsimp only [List.cons_append, List.nil_append]; refine TL.az 1 rfl ?_; intro iv26_0_1 hmv26_0_1; refine TL.ns (T.seq (T.sr ?_)); refine TL.y (Yv.fieldAddr rfl rfl) ?_; refine TL.y (Yv.aa 3 rfl rfl rfl rfl) ?_; refine TL.y (Yv.an rfl rfl (SlD.mono (rep := GDomain.rep) (fun _ _ _ _ => GDomain.mono) hp_0 le1_2).1 (SlD.mono (rep := GDomain.rep) (fun _ _ _ _ => GDomain.mono) hp_0 le1_2).2.1) ?_; refine TL.run 1 rfl ?_; refine TL.ns ?_; have hq := zaf hk; clear hk; obtain ⟨k3, hk3, hk⟩ := hq; (try dsimp only at hk); refine T.af (ι := List Int × Value × FzB w (fun _ => False) S0) (fun z => [(1, .pointer (some ⟨g1, 0, none⟩)), (4, .pointer (some ⟨g4, 0, none⟩)), (5, .func (.func 98) #[] #[.pointer (some ⟨g4, 0, none⟩)])]) (fun z => [.sl z.2.1 5 1 z.1.length (z.1.flatMap (eK .u8)), .row g4 144 [.int .i64 0, z.2.1], .row g1 29 [vp_0, vp_1, vp_2, vp_3], .fr z.2.2]) (fun z => k3 z.1 = some r ∧ OneC z.2.1 ∧ F2.toFrz.Le z.2.2.toFrz) ?_ ?_
    · have hq := zah hk; clear hk; obtain ⟨f5, kk5, hf5, hkk5, hk⟩ := hq; refine T.block ?_; refine T.pick [1, 0, 3, 2] rfl (by decide) ?_; refine T.loop (ι := Nat × List Int × Value × FzB w (fun _ => False) S0) (fun z => [(1, .pointer (some ⟨g1, 0, none⟩)), (4, .pointer (some ⟨g4, 0, none⟩)), (5, .func (.func 98) #[] #[.pointer (some ⟨g4, 0, none⟩)]), (28, vp_0), (29, .int .i64 (p.Domains.length : Int)), (30, .int .i64 (z.1 : Int))]) (fun z => [.sl z.2.2.1 5 1 z.2.1.length (z.2.1.flatMap (eK .u8)), .row g4 144 [.int .i64 0, z.2.2.1], .row g1 29 [vp_0, vp_1, vp_2, vp_3], .fr z.2.2.2]) (fun z => zag f5 kk5 (p.Domains.length - z.1) z.1 z.2.1 = some r ∧ OneC z.2.2.1 ∧ F2.toFrz.Le z.2.2.2.toFrz) (fun z => p.Domains.length - z.1) (0, r26, v26_0_1, F2) ?_ ?_ ?_ ?_
      · exact ⟨hk, inferInstance, (Frz.Le.refl _)⟩
      · exact (.c (.c (.c (.c (.c (.c .nil))))))
      · exact List.Sublist.refl _
      · rintro ⟨i_6, c_4, vc_4, F4⟩ ⟨hk, oc_4, le2_4⟩; (try dsimp only at *); have le1_4 := le1_2.trans le2_4; refine T.sr ?_; refine TL.run 1 rfl ?_; refine TL.ns (T.seq ?_); refine T.cond rfl (fun h7 => ?_) (fun h7 => ?_)
        · have p7 := of_decide_eq_true h7; rw [zas (by omega)] at hk; generalize hn5 : zag f5 kk5 (p.Domains.length - (i_6 + 1)) (i_6 + 1) = next5 at hk; rw [← hf5] at hk; (try dsimp only at hk); refine T.skip (K.seq (T.seq (T.block (T.sr ?_)))); refine TL.y (Yv.al (i := i_6) rfl rfl rfl (SlD.mono (rep := GDomain.rep) (fun _ _ _ _ => GDomain.mono) hp_0 le1_4).1 (SlD.mono (rep := GDomain.rep) (fun _ _ _ _ => GDomain.mono) hp_0 le1_4).2.1 rfl (by omega)) ?_; refine TL.y (Yv.aH 3 (i := i_6) (j := 0) rfl rfl rfl (SlD.mono (rep := GDomain.rep) (fun _ _ _ _ => GDomain.mono) hp_0 le1_4).1 (SlD.mono (rep := GDomain.rep) (fun _ _ _ _ => GDomain.mono) hp_0 le1_4).2.1 (by omega) rfl (GDomain.form ((SlD.mono (rep := GDomain.rep) (fun _ _ _ _ => GDomain.mono) hp_0 le1_4).2.2 i_6 (by omega))) rfl) ?_; have hd33_1 := (GDomain.c1 ((SlD.mono (rep := GDomain.rep) (fun _ _ _ _ => GDomain.mono) hp_0 le1_4).2.2 i_6 (by omega))).2; haveI := hd33_1.oneC; refine TL.e (Ew.alloc rfl) ?_; rintro _ _ ⟨g7, rfl, rfl⟩; refine TL.e0 (Ew.ah 0 rfl rfl rfl rfl rfl rfl) ?_; rintro _ _ ⟨rfl, rfl⟩; refine TL.nx ?_; refine TL.run 1 rfl ?_; refine TL.ns (T.seq (T.sr ?_)); refine TL.y (Yv.fieldAddr rfl rfl) ?_; refine TL.y (Yv.aa 0 rfl rfl rfl rfl) ?_; refine TL.y (Yv.an rfl rfl hd33_1 (List.length_map _)) ?_; have hm36 : ((nth p.Domains i_6).Channels).length ≤ 9223372036854775807 := (List.length_map _) ▸ hd33_1.max; refine TL.run 1 rfl ?_; refine TL.ns ?_; have hq := zaf hk; clear hk; obtain ⟨k9, hk9, hk⟩ := hq; (try dsimp only at hk); refine T.af (ι := Int) (fun z => [(1, .pointer (some ⟨g1, 0, none⟩)), (4, .pointer (some ⟨g4, 0, none⟩)), (5, .func (.func 98) #[] #[.pointer (some ⟨g4, 0, none⟩)]), (7, .pointer (some ⟨g7, 0, none⟩)), (8, .int .i64 z), (28, vp_0), (29, .int .i64 (p.Domains.length : Int)), (30, .int .i64 (i_6 : Int))]) (fun z => [.row g7 66 [.int .i64 ((nth p.Domains i_6).Station), (nth (nth cp_0 i_6) 1)], .sl vc_4 5 1 c_4.length (c_4.flatMap (eK .u8)), .row g4 144 [.int .i64 0, vc_4], .row g1 29 [vp_0, vp_1, vp_2, vp_3], .fr F4]) (fun z => k9 z = some r) ?_ ?_
          · have hq := zah hk; clear hk; obtain ⟨f11, kk11, hf11, hkk11, hk⟩ := hq; refine T.block ?_; refine T.loop (ι := Nat × Int) (fun z => [(1, .pointer (some ⟨g1, 0, none⟩)), (4, .pointer (some ⟨g4, 0, none⟩)), (5, .func (.func 98) #[] #[.pointer (some ⟨g4, 0, none⟩)]), (7, .pointer (some ⟨g7, 0, none⟩)), (8, .int .i64 z.2), (28, vp_0), (29, .int .i64 (p.Domains.length : Int)), (30, .int .i64 (i_6 : Int)), (35, (nth (nth cp_0 i_6) 1)), (36, .int .i64 (((nth p.Domains i_6).Channels).length : Int)), (37, .int .i64 (z.1 : Int))]) (fun z => [.row g7 66 [.int .i64 ((nth p.Domains i_6).Station), (nth (nth cp_0 i_6) 1)], .sl vc_4 5 1 c_4.length (c_4.flatMap (eK .u8)), .row g4 144 [.int .i64 0, vc_4], .row g1 29 [vp_0, vp_1, vp_2, vp_3], .fr F4]) (fun z => zag f11 kk11 ((((nth p.Domains i_6).Channels).length) - z.1) z.1 z.2 = some r) (fun z => (((nth p.Domains i_6).Channels).length) - z.1) (0, 0) ?_ ?_ ?_ ?_
            · exact hk
            · exact (.c (.c (.c (.c (.c (.c (.c (.c (.c (.c (.c .nil)))))))))))
            · exact List.Sublist.refl _
            · rintro ⟨i_12, set_10⟩ hk; (try dsimp only at *); refine T.sr ?_; refine TL.run 1 rfl ?_; refine TL.ns (T.seq ?_); refine T.cond rfl (fun h13 => ?_) (fun h13 => ?_)
              · have p13 := of_decide_eq_true h13; rw [zas (by omega)] at hk; generalize hn11 : zag f11 kk11 ((((nth p.Domains i_6).Channels).length) - (i_12 + 1)) (i_12 + 1) = next11 at hk; rw [← hf11] at hk; (try dsimp only at hk); refine T.skip (K.seq (T.seq (T.block (T.sr ?_)))); refine TL.y (Yv.al (i := i_12) rfl rfl rfl hd33_1 (List.length_map _) rfl (by omega)) ?_; refine TL.y (Yv.as 4 (i := i_12) (j := 0) rfl rfl rfl hd33_1 (by omega) rfl rfl) ?_; refine TL.run 1 rfl ?_; refine TL.ns ?_; have hq : (0 ≤ wI ((nth ((nth p.Domains i_6).Channels) i_12) - 2)) ∧ _ := zaj hk; clear hk; obtain ⟨g44, hk⟩ := hq; (try dsimp only at hk); refine T.region ?_; refine TL.run 3 rfl ?_; refine TL.y (Yv.shlK (a := 1) (b := wI ((nth ((nth p.Domains i_6).Channels) i_12) - 2)) rfl rfl rfl g44) ?_; refine TL.y (Yv.orK (a := set_10) (b := (shlK .i64 1 (wI ((nth ((nth p.Domains i_6).Channels) i_12) - 2)))) rfl rfl rfl) ?_; refine TL.run 1 rfl ?_; refine TL.nil (K.ac (K.seq (T.region ?_))); refine TL.y (Yv.ao rfl rfl rfl (by omega)) ?_; refine TL.run 1 rfl ?_; refine TL.nil ?_; rw [← hn11] at hk; exact K.next ((i_12 + 1), (orK .i64 set_10 (shlK .i64 1 (wI ((nth ((nth p.Domains i_6).Channels) i_12) - 2))))) hk (by dsimp only; omega) (.c (.c (.c (.c (.c (.c (.c (.c (.c (.c (.c .nil))))))))))) (List.Sublist.refl _)
              · have p13 := of_decide_eq_false h13; rw [zar (by omega), ← hkk11] at hk; (try dsimp only at hk); refine T.exit (K.ab (K.ab (K.ad ?_))); exact K.ai set_10 hk (.c (.c (.c (.c (.c (.c (.c (.c .nil)))))))) (List.Sublist.refl _)
          · rintro set_8 hk; rw [← hk9] at hk; (try dsimp only at hk); have hq := zae hk; clear hk; obtain ⟨r52, hr52, hk⟩ := hq; (try dsimp only at hk); refine T.region ?_; refine TL.run 1 rfl ?_; refine TL.y (Yv.fieldAddr rfl rfl) ?_; refine TL.y (Yv.aa 0 rfl rfl rfl rfl) ?_; refine TL.run 1 rfl ?_; refine TL.e (Ew.buildSlice rfl rfl rfl (by decide)) ?_; rintro _ _ ⟨g51, rfl, rfl⟩; refine TL.ay (fun w hw => hw.freezeR (i := 5) (j := 0) (by decide) rfl rfl) ?_; rintro F5 ⟨le4_5, hz5⟩; dsimp only [List.set, List.eraseIdx]; have le2_5 := le2_4.trans le4_5; have hf5 : SlC F5.toFrz (.slice (some ⟨g51, 0, none⟩) 2 2) 1 ([(nth p.Domains i_6).Station, set_8].map eI) := (SlK.lit hz5 rfl (Nat.le_refl _) (by decide)).toF (xs := [(nth p.Domains i_6).Station, set_8]) rfl (fun _ => rfl); refine TL.e (Ew.ak [2, 1, 4, 0, 3] [.row g4 144 [.int .i64 0, vc_4], .sl vc_4 5 1 c_4.length (c_4.flatMap (eK .u8))] [.row g7 66 [.int .i64 ((nth p.Domains i_6).Station), (nth (nth cp_0 i_6) 1)], .row g1 29 [vp_0, vp_1, vp_2, vp_3]] rfl rfl rfl rfl (by decide) (fun w hw hw2 hF => zbi _ w hF [(nth p.Domains i_6).Station, set_8] (.slice (some ⟨g51, 0, none⟩) 2 2) hf5 (GWriter.mk (Gfault.mk 0) c_4) g4 vc_4 hw2.takes.1 hw2.takes.2 fuel r52 hr52)) ?_; rintro _ _ ⟨v52_0_1, -, rfl, rfl⟩; dsimp only [List.cons_append, List.nil_append]; refine TL.az 1 rfl ?_; intro iv52_0_1 hmv52_0_1; refine TL.nil (K.ac (K.seq (T.region ?_))); refine TL.y (Yv.ao rfl rfl rfl (by omega)) ?_; refine TL.run 1 rfl ?_; refine TL.nil ?_; rw [← hn5] at hk; refine K.pick [1, 0, 4, 2] rfl (by decide) ?_; exact K.next ((i_6 + 1), r52, v52_0_1, F5) ⟨hk, inferInstance, le2_5⟩ (by dsimp only; omega) (.c (.c (.c (.c (.c (.c .nil)))))) (List.Sublist.refl _)
        · have p7 := of_decide_eq_false h7; rw [zar (by omega), ← hkk5] at hk; (try dsimp only at hk); refine T.exit (K.ab (K.ab (K.ad ?_))); exact K.ai (c_4, vc_4, F4) ⟨hk, inferInstance, le2_4⟩ (.c (.c (.c .nil))) (List.Sublist.refl _)
    · rintro ⟨c_2, vc_2, F3⟩ ⟨hk, oc_2, le2_3⟩; (try dsimp only at *); rw [← hk3] at hk; (try dsimp only at hk); have le1_3 := le1_2.trans le2_3; refine T.seq ?_; have hq := zae hk; clear hk; obtain ⟨r60, hr60, hk⟩ := hq; (try dsimp only at hk); refine T.region ?_; refine TL.run 1 rfl ?_; refine TL.y (Yv.fieldAddr rfl rfl) ?_; refine TL.y (Yv.fieldAddr rfl rfl) ?_; refine TL.y (Yv.aa 2 rfl rfl rfl rfl) ?_; refine TL.y (Yv.an rfl rfl (SlC.mono hp_1 le1_3) (List.length_map _)) ?_; have hm58 : p.Rules.Pairs.length ≤ 9223372036854775807 := (List.length_map _) ▸ (SlC.mono hp_1 le1_3).max; refine TL.e (Ew.buildSlice rfl rfl rfl (by decide)) ?_; rintro _ _ ⟨g59, rfl, rfl⟩; refine TL.ay (fun w hw => hw.freezeR (i := 4) (j := 0) (by decide) rfl rfl) ?_; rintro F6 ⟨le3_6, hz6⟩; dsimp only [List.set, List.eraseIdx]; have le1_6 := le1_3.trans le3_6; have hf6 : SlC F6.toFrz (.slice (some ⟨g59, 0, none⟩) 1 1) 1 ([(p.Rules.Pairs.length : Int)].map eI) := (SlK.lit hz6 rfl (Nat.le_refl _) (by decide)).toF (xs := [(p.Rules.Pairs.length : Int)]) rfl (fun _ => rfl); refine TL.e (Ew.ak [1, 0, 3, 2] [.row g4 144 [.int .i64 0, vc_2], .sl vc_2 5 1 c_2.length (c_2.flatMap (eK .u8))] [.row g1 29 [vp_0, vp_1, vp_2, vp_3]] rfl rfl rfl rfl (by decide) (fun w hw hw2 hF => zbi _ w hF [(p.Rules.Pairs.length : Int)] (.slice (some ⟨g59, 0, none⟩) 1 1) hf6 (GWriter.mk (Gfault.mk 0) c_2) g4 vc_2 hw2.takes.1 hw2.takes.2 fuel r60 hr60)) ?_; rintro _ _ ⟨v60_0_1, -, rfl, rfl⟩; dsimp only [List.cons_append, List.nil_append]; refine TL.az 1 rfl ?_; intro iv60_0_1 hmv60_0_1; refine TL.ns (T.seq (T.sr ?_)); refine TL.y (Yv.fieldAddr rfl rfl) ?_; refine TL.y (Yv.fieldAddr rfl rfl) ?_; refine TL.y (Yv.aa 3 rfl rfl rfl rfl) ?_; refine TL.y (Yv.an rfl rfl (SlC.mono hp_1 le1_6) (List.length_map _)) ?_; refine TL.run 1 rfl ?_; refine TL.ns ?_; have hq := zaf hk; clear hk; obtain ⟨k15, hk15, hk⟩ := hq; (try dsimp only at hk); refine T.af (ι := List Int × Value × FzB w (fun _ => False) S0) (fun z => [(1, .pointer (some ⟨g1, 0, none⟩)), (4, .pointer (some ⟨g4, 0, none⟩)), (5, .func (.func 98) #[] #[.pointer (some ⟨g4, 0, none⟩)])]) (fun z => [.sl z.2.1 5 1 z.1.length (z.1.flatMap (eK .u8)), .row g4 144 [.int .i64 0, z.2.1], .row g1 29 [vp_0, vp_1, vp_2, vp_3], .fr z.2.2]) (fun z => k15 z.1 = some r ∧ OneC z.2.1 ∧ F6.toFrz.Le z.2.2.toFrz) ?_ ?_
      · have hq := zah hk; clear hk; obtain ⟨f17, kk17, hf17, hkk17, hk⟩ := hq; refine T.block ?_; refine T.pick [1, 0, 3, 2] rfl (by decide) ?_; refine T.loop (ι := Nat × List Int × Value × FzB w (fun _ => False) S0) (fun z => [(1, .pointer (some ⟨g1, 0, none⟩)), (4, .pointer (some ⟨g4, 0, none⟩)), (5, .func (.func 98) #[] #[.pointer (some ⟨g4, 0, none⟩)]), (63, vp_1), (64, .int .i64 (p.Rules.Pairs.length : Int)), (65, .int .i64 (z.1 : Int))]) (fun z => [.sl z.2.2.1 5 1 z.2.1.length (z.2.1.flatMap (eK .u8)), .row g4 144 [.int .i64 0, z.2.2.1], .row g1 29 [vp_0, vp_1, vp_2, vp_3], .fr z.2.2.2]) (fun z => zag f17 kk17 (p.Rules.Pairs.length - z.1) z.1 z.2.1 = some r ∧ OneC z.2.2.1 ∧ F6.toFrz.Le z.2.2.2.toFrz) (fun z => p.Rules.Pairs.length - z.1) (0, r60, v60_0_1, F6) ?_ ?_ ?_ ?_
        · exact ⟨hk, inferInstance, (Frz.Le.refl _)⟩
        · exact (.c (.c (.c (.c (.c (.c .nil))))))
        · exact List.Sublist.refl _
        · rintro ⟨i_18, c_16, vc_16, F8⟩ ⟨hk, oc_16, le6_8⟩; (try dsimp only at *); have le1_8 := le1_6.trans le6_8; refine T.sr ?_; refine TL.run 1 rfl ?_; refine TL.ns (T.seq ?_); refine T.cond rfl (fun h19 => ?_) (fun h19 => ?_)
          · have p19 := of_decide_eq_true h19; rw [zas (by omega)] at hk; generalize hn17 : zag f17 kk17 (p.Rules.Pairs.length - (i_18 + 1)) (i_18 + 1) = next17 at hk; rw [← hf17] at hk; (try dsimp only at hk); refine T.skip (K.seq (T.seq (T.block (T.sr ?_)))); refine TL.y (Yv.al (i := i_18) rfl rfl rfl (SlC.mono hp_1 le1_8) (List.length_map _) rfl (by omega)) ?_; refine TL.y (Yv.aq 3 (i := i_18) rfl rfl rfl (SlC.mono hp_1 le1_8) (by omega) rfl rfl rfl) ?_; refine TL.e (Ew.alloc rfl) ?_; rintro _ _ ⟨g12, rfl, rfl⟩; refine TL.e0 (Ew.ah 0 rfl rfl rfl rfl rfl rfl) ?_; rintro _ _ ⟨rfl, rfl⟩; refine TL.ns (T.seq ?_); have hq := zae hk; clear hk; obtain ⟨r75, hr75, hk⟩ := hq; (try dsimp only at hk); refine T.region ?_; refine TL.run 1 rfl ?_; refine TL.y (Yv.fieldAddr rfl rfl) ?_; refine TL.y (Yv.aa 0 rfl rfl rfl rfl) ?_; refine TL.y (Yv.fieldAddr rfl rfl) ?_; refine TL.y (Yv.aa 0 rfl rfl rfl rfl) ?_; refine TL.e (Ew.buildSlice rfl rfl rfl (by decide)) ?_; rintro _ _ ⟨g74, rfl, rfl⟩; refine TL.ay (fun w hw => hw.freezeR (i := 5) (j := 0) (by decide) rfl rfl) ?_; rintro F9 ⟨le8_9, hz9⟩; dsimp only [List.set, List.eraseIdx]; have le6_9 := le6_8.trans le8_9; have hf9 : SlC F9.toFrz (.slice (some ⟨g74, 0, none⟩) 2 2) 1 ([(nth p.Rules.Pairs i_18).A, (nth p.Rules.Pairs i_18).B].map eI) := (SlK.lit hz9 rfl (Nat.le_refl _) (by decide)).toF (xs := [(nth p.Rules.Pairs i_18).A, (nth p.Rules.Pairs i_18).B]) rfl (fun _ => rfl); refine TL.e (Ew.ak [2, 1, 4, 0, 3] [.row g4 144 [.int .i64 0, vc_16], .sl vc_16 5 1 c_16.length (c_16.flatMap (eK .u8))] [.row g12 68 [.int .i64 ((nth p.Rules.Pairs i_18).A), .int .i64 ((nth p.Rules.Pairs i_18).B), .int .i64 ((nth p.Rules.Pairs i_18).Offset), .int .i64 ((nth p.Rules.Pairs i_18).Low), .int .i64 ((nth p.Rules.Pairs i_18).High)], .row g1 29 [vp_0, vp_1, vp_2, vp_3]] rfl rfl rfl rfl (by decide) (fun w hw hw2 hF => zbi _ w hF [(nth p.Rules.Pairs i_18).A, (nth p.Rules.Pairs i_18).B] (.slice (some ⟨g74, 0, none⟩) 2 2) hf9 (GWriter.mk (Gfault.mk 0) c_16) g4 vc_16 hw2.takes.1 hw2.takes.2 fuel r75 hr75)) ?_; rintro _ _ ⟨v75_0_1, -, rfl, rfl⟩; dsimp only [List.cons_append, List.nil_append]; refine TL.az 1 rfl ?_; intro iv75_0_1 hmv75_0_1; refine TL.ns (T.seq ?_); have hq := zae hk; clear hk; obtain ⟨r78, hr78, hk⟩ := hq; (try dsimp only at hk); refine T.region ?_; refine TL.y (Yv.fieldAddr rfl rfl) ?_; refine TL.y (Yv.aa 3 rfl rfl rfl rfl) ?_; refine TL.e (Ew.ak [0, 1, 2, 3, 4] [.row g4 144 [.int .i64 0, v75_0_1], .sl v75_0_1 5 1 r75.length (r75.flatMap (eK .u8))] [.row g12 68 [.int .i64 ((nth p.Rules.Pairs i_18).A), .int .i64 ((nth p.Rules.Pairs i_18).B), .int .i64 ((nth p.Rules.Pairs i_18).Offset), .int .i64 ((nth p.Rules.Pairs i_18).Low), .int .i64 ((nth p.Rules.Pairs i_18).High)], .row g1 29 [vp_0, vp_1, vp_2, vp_3]] rfl rfl rfl rfl (by decide) (fun w hw hw2 hF => zdr _ w hF (GWriter.mk (Gfault.mk 0) r75) g4 v75_0_1 ((nth p.Rules.Pairs i_18).Offset) hw2.takes.1 hw2.takes.2 fuel r78 hr78)) ?_; rintro _ _ ⟨v78_0_1, -, rfl, rfl⟩; dsimp only [List.cons_append, List.nil_append]; refine TL.az 1 rfl ?_; intro iv78_0_1 hmv78_0_1; refine TL.ns ?_; have hq := zae hk; clear hk; obtain ⟨r85, hr85, hk⟩ := hq; (try dsimp only at hk); refine T.region ?_; refine TL.run 1 rfl ?_; refine TL.y (Yv.fieldAddr rfl rfl) ?_; refine TL.y (Yv.aa 3 rfl rfl rfl rfl) ?_; refine TL.y (Yv.fieldAddr rfl rfl) ?_; refine TL.y (Yv.aa 3 rfl rfl rfl rfl) ?_; refine TL.e (Ew.buildSlice rfl rfl rfl (by decide)) ?_; rintro _ _ ⟨g84, rfl, rfl⟩; refine TL.ay (fun w hw => hw.freezeR (i := 3) (j := 0) (by decide) rfl rfl) ?_; rintro F10 ⟨le9_10, hz10⟩; dsimp only [List.set, List.eraseIdx]; have le6_10 := le6_9.trans le9_10; have hf10 : SlC F10.toFrz (.slice (some ⟨g84, 0, none⟩) 2 2) 1 ([(nth p.Rules.Pairs i_18).Low, (nth p.Rules.Pairs i_18).High].map eI) := (SlK.lit hz10 rfl (Nat.le_refl _) (by decide)).toF (xs := [(nth p.Rules.Pairs i_18).Low, (nth p.Rules.Pairs i_18).High]) rfl (fun _ => rfl); refine TL.e (Ew.ak [0, 1, 2, 3, 4] [.row g4 144 [.int .i64 0, v78_0_1], .sl v78_0_1 5 1 r78.length (r78.flatMap (eK .u8))] [.row g12 68 [.int .i64 ((nth p.Rules.Pairs i_18).A), .int .i64 ((nth p.Rules.Pairs i_18).B), .int .i64 ((nth p.Rules.Pairs i_18).Offset), .int .i64 ((nth p.Rules.Pairs i_18).Low), .int .i64 ((nth p.Rules.Pairs i_18).High)], .row g1 29 [vp_0, vp_1, vp_2, vp_3]] rfl rfl rfl rfl (by decide) (fun w hw hw2 hF => zbi _ w hF [(nth p.Rules.Pairs i_18).Low, (nth p.Rules.Pairs i_18).High] (.slice (some ⟨g84, 0, none⟩) 2 2) hf10 (GWriter.mk (Gfault.mk 0) r78) g4 v78_0_1 hw2.takes.1 hw2.takes.2 fuel r85 hr85)) ?_; rintro _ _ ⟨v85_0_1, -, rfl, rfl⟩; dsimp only [List.cons_append, List.nil_append]; refine TL.az 1 rfl ?_; intro iv85_0_1 hmv85_0_1; refine TL.nil (K.ac (K.seq (T.region ?_))); refine TL.y (Yv.ao rfl rfl rfl (by omega)) ?_; refine TL.run 1 rfl ?_; refine TL.nil ?_; rw [← hn17] at hk; refine K.pick [1, 0, 4, 2] rfl (by decide) ?_; exact K.next ((i_18 + 1), r85, v85_0_1, F10) ⟨hk, inferInstance, le6_10⟩ (by dsimp only; omega) (.c (.c (.c (.c (.c (.c .nil)))))) (List.Sublist.refl _)
          · have p19 := of_decide_eq_false h19; rw [zar (by omega), ← hkk17] at hk; (try dsimp only at hk); refine T.exit (K.ab (K.ab (K.ad ?_))); exact K.ai (c_16, vc_16, F8) ⟨hk, inferInstance, le6_8⟩ (.c (.c (.c .nil))) (List.Sublist.refl _)
      · rintro ⟨c_14, vc_14, F7⟩ ⟨hk, oc_14, le6_7⟩; (try dsimp only at *); rw [← hk15] at hk; (try dsimp only at hk); have le1_7 := le1_6.trans le6_7; refine T.seq ?_; have hq := zae hk; clear hk; obtain ⟨r93, hr93, hk⟩ := hq; (try dsimp only at hk); refine T.region ?_; refine TL.run 1 rfl ?_; refine TL.y (Yv.fieldAddr rfl rfl) ?_; refine TL.y (Yv.fieldAddr rfl rfl) ?_; refine TL.y (Yv.aa 2 rfl rfl rfl rfl) ?_; refine TL.y (Yv.an rfl rfl (SlC.mono hp_2 le1_7) (List.length_map _)) ?_; have hm91 : p.Rules.Loads.length ≤ 9223372036854775807 := (List.length_map _) ▸ (SlC.mono hp_2 le1_7).max; refine TL.e (Ew.buildSlice rfl rfl rfl (by decide)) ?_; rintro _ _ ⟨g92, rfl, rfl⟩; refine TL.ay (fun w hw => hw.freezeR (i := 4) (j := 0) (by decide) rfl rfl) ?_; rintro F11 ⟨le7_11, hz11⟩; dsimp only [List.set, List.eraseIdx]; have le1_11 := le1_7.trans le7_11; have hf11 : SlC F11.toFrz (.slice (some ⟨g92, 0, none⟩) 1 1) 1 ([(p.Rules.Loads.length : Int)].map eI) := (SlK.lit hz11 rfl (Nat.le_refl _) (by decide)).toF (xs := [(p.Rules.Loads.length : Int)]) rfl (fun _ => rfl); refine TL.e (Ew.ak [1, 0, 3, 2] [.row g4 144 [.int .i64 0, vc_14], .sl vc_14 5 1 c_14.length (c_14.flatMap (eK .u8))] [.row g1 29 [vp_0, vp_1, vp_2, vp_3]] rfl rfl rfl rfl (by decide) (fun w hw hw2 hF => zbi _ w hF [(p.Rules.Loads.length : Int)] (.slice (some ⟨g92, 0, none⟩) 1 1) hf11 (GWriter.mk (Gfault.mk 0) c_14) g4 vc_14 hw2.takes.1 hw2.takes.2 fuel r93 hr93)) ?_; rintro _ _ ⟨v93_0_1, -, rfl, rfl⟩; dsimp only [List.cons_append, List.nil_append]; refine TL.az 1 rfl ?_; intro iv93_0_1 hmv93_0_1; refine TL.ns (T.seq (T.sr ?_)); refine TL.y (Yv.fieldAddr rfl rfl) ?_; refine TL.y (Yv.fieldAddr rfl rfl) ?_; refine TL.y (Yv.aa 3 rfl rfl rfl rfl) ?_; refine TL.y (Yv.an rfl rfl (SlC.mono hp_2 le1_11) (List.length_map _)) ?_; refine TL.run 1 rfl ?_; refine TL.ns ?_; have hq := zaf hk; clear hk; obtain ⟨k21, hk21, hk⟩ := hq; (try dsimp only at hk); refine T.af (ι := List Int × Value × FzB w (fun _ => False) S0) (fun z => [(1, .pointer (some ⟨g1, 0, none⟩)), (4, .pointer (some ⟨g4, 0, none⟩)), (5, .func (.func 98) #[] #[.pointer (some ⟨g4, 0, none⟩)])]) (fun z => [.sl z.2.1 5 1 z.1.length (z.1.flatMap (eK .u8)), .row g4 144 [.int .i64 0, z.2.1], .row g1 29 [vp_0, vp_1, vp_2, vp_3], .fr z.2.2]) (fun z => k21 z.1 = some r ∧ OneC z.2.1 ∧ F11.toFrz.Le z.2.2.toFrz) ?_ ?_
        · have hq := zah hk; clear hk; obtain ⟨f23, kk23, hf23, hkk23, hk⟩ := hq; refine T.block ?_; refine T.pick [1, 0, 3, 2] rfl (by decide) ?_; refine T.loop (ι := Nat × List Int × Value × FzB w (fun _ => False) S0) (fun z => [(1, .pointer (some ⟨g1, 0, none⟩)), (4, .pointer (some ⟨g4, 0, none⟩)), (5, .func (.func 98) #[] #[.pointer (some ⟨g4, 0, none⟩)]), (96, vp_2), (97, .int .i64 (p.Rules.Loads.length : Int)), (98, .int .i64 (z.1 : Int))]) (fun z => [.sl z.2.2.1 5 1 z.2.1.length (z.2.1.flatMap (eK .u8)), .row g4 144 [.int .i64 0, z.2.2.1], .row g1 29 [vp_0, vp_1, vp_2, vp_3], .fr z.2.2.2]) (fun z => zag f23 kk23 (p.Rules.Loads.length - z.1) z.1 z.2.1 = some r ∧ OneC z.2.2.1 ∧ F11.toFrz.Le z.2.2.2.toFrz) (fun z => p.Rules.Loads.length - z.1) (0, r93, v93_0_1, F11) ?_ ?_ ?_ ?_
          · exact ⟨hk, inferInstance, (Frz.Le.refl _)⟩
          · exact (.c (.c (.c (.c (.c (.c .nil))))))
          · exact List.Sublist.refl _
          · rintro ⟨i_24, c_22, vc_22, F13⟩ ⟨hk, oc_22, le11_13⟩; (try dsimp only at *); have le1_13 := le1_11.trans le11_13; refine T.sr ?_; refine TL.run 1 rfl ?_; refine TL.ns (T.seq ?_); refine T.cond rfl (fun h25 => ?_) (fun h25 => ?_)
            · have p25 := of_decide_eq_true h25; rw [zas (by omega)] at hk; generalize hn23 : zag f23 kk23 (p.Rules.Loads.length - (i_24 + 1)) (i_24 + 1) = next23 at hk; rw [← hf23] at hk; (try dsimp only at hk); refine T.skip (K.seq (T.seq (T.block (T.sr ?_)))); refine TL.y (Yv.al (i := i_24) rfl rfl rfl (SlC.mono hp_2 le1_13) (List.length_map _) rfl (by omega)) ?_; refine TL.y (Yv.aq 3 (i := i_24) rfl rfl rfl (SlC.mono hp_2 le1_13) (by omega) rfl rfl rfl) ?_; refine TL.e (Ew.alloc rfl) ?_; rintro _ _ ⟨g14, rfl, rfl⟩; refine TL.e0 (Ew.ah 0 rfl rfl rfl rfl rfl rfl) ?_; rintro _ _ ⟨rfl, rfl⟩; refine TL.ns ?_; have hq := zae hk; clear hk; obtain ⟨r114, hr114, hk⟩ := hq; (try dsimp only at hk); refine T.region ?_; refine TL.run 1 rfl ?_; refine TL.y (Yv.fieldAddr rfl rfl) ?_; refine TL.y (Yv.aa 0 rfl rfl rfl rfl) ?_; refine TL.y (Yv.fieldAddr rfl rfl) ?_; refine TL.y (Yv.aa 0 rfl rfl rfl rfl) ?_; refine TL.y (Yv.fieldAddr rfl rfl) ?_; refine TL.y (Yv.aa 0 rfl rfl rfl rfl) ?_; refine TL.y (Yv.fieldAddr rfl rfl) ?_; refine TL.y (Yv.aa 0 rfl rfl rfl rfl) ?_; refine TL.y (Yv.fieldAddr rfl rfl) ?_; refine TL.y (Yv.aa 0 rfl rfl rfl rfl) ?_; refine TL.e (Ew.buildSlice rfl rfl rfl (by decide)) ?_; rintro _ _ ⟨g113, rfl, rfl⟩; refine TL.ay (fun w hw => hw.freezeR (i := 5) (j := 0) (by decide) rfl rfl) ?_; rintro F14 ⟨le13_14, hz14⟩; dsimp only [List.set, List.eraseIdx]; have le11_14 := le11_13.trans le13_14; have hf14 : SlC F14.toFrz (.slice (some ⟨g113, 0, none⟩) 5 5) 1 ([(nth p.Rules.Loads i_24).To, (nth p.Rules.Loads i_24).From, (nth p.Rules.Loads i_24).Weight, (nth p.Rules.Loads i_24).Low, (nth p.Rules.Loads i_24).High].map eI) := (SlK.lit hz14 rfl (Nat.le_refl _) (by decide)).toF (xs := [(nth p.Rules.Loads i_24).To, (nth p.Rules.Loads i_24).From, (nth p.Rules.Loads i_24).Weight, (nth p.Rules.Loads i_24).Low, (nth p.Rules.Loads i_24).High]) rfl (fun _ => rfl); refine TL.e (Ew.ak [2, 1, 4, 0, 3] [.row g4 144 [.int .i64 0, vc_22], .sl vc_22 5 1 c_22.length (c_22.flatMap (eK .u8))] [.row g14 70 [.int .i64 ((nth p.Rules.Loads i_24).To), .int .i64 ((nth p.Rules.Loads i_24).From), .int .i64 ((nth p.Rules.Loads i_24).Weight), .int .i64 ((nth p.Rules.Loads i_24).Low), .int .i64 ((nth p.Rules.Loads i_24).High)], .row g1 29 [vp_0, vp_1, vp_2, vp_3]] rfl rfl rfl rfl (by decide) (fun w hw hw2 hF => zbi _ w hF [(nth p.Rules.Loads i_24).To, (nth p.Rules.Loads i_24).From, (nth p.Rules.Loads i_24).Weight, (nth p.Rules.Loads i_24).Low, (nth p.Rules.Loads i_24).High] (.slice (some ⟨g113, 0, none⟩) 5 5) hf14 (GWriter.mk (Gfault.mk 0) c_22) g4 vc_22 hw2.takes.1 hw2.takes.2 fuel r114 hr114)) ?_; rintro _ _ ⟨v114_0_1, -, rfl, rfl⟩; dsimp only [List.cons_append, List.nil_append]; refine TL.az 1 rfl ?_; intro iv114_0_1 hmv114_0_1; refine TL.nil (K.ac (K.seq (T.region ?_))); refine TL.y (Yv.ao rfl rfl rfl (by omega)) ?_; refine TL.run 1 rfl ?_; refine TL.nil ?_; rw [← hn23] at hk; refine K.pick [1, 0, 4, 2] rfl (by decide) ?_; exact K.next ((i_24 + 1), r114, v114_0_1, F14) ⟨hk, inferInstance, le11_14⟩ (by dsimp only; omega) (.c (.c (.c (.c (.c (.c .nil)))))) (List.Sublist.refl _)
            · have p25 := of_decide_eq_false h25; rw [zar (by omega), ← hkk23] at hk; (try dsimp only at hk); refine T.exit (K.ab (K.ab (K.ad ?_))); exact K.ai (c_22, vc_22, F13) ⟨hk, inferInstance, le11_13⟩ (.c (.c (.c .nil))) (List.Sublist.refl _)
        · rintro ⟨c_20, vc_20, F12⟩ ⟨hk, oc_20, le11_12⟩; (try dsimp only at *); rw [← hk21] at hk; (try dsimp only at hk); have le1_12 := le1_11.trans le11_12; refine T.seq ?_; have hq := zae hk; clear hk; obtain ⟨r122, hr122, hk⟩ := hq; (try dsimp only at hk); refine T.region ?_; refine TL.run 1 rfl ?_; refine TL.y (Yv.fieldAddr rfl rfl) ?_; refine TL.y (Yv.fieldAddr rfl rfl) ?_; refine TL.y (Yv.aa 2 rfl rfl rfl rfl) ?_; refine TL.y (Yv.an rfl rfl (SlC.mono hp_3 le1_12) (List.length_map _)) ?_; have hm120 : p.Rules.Caps.length ≤ 9223372036854775807 := (List.length_map _) ▸ (SlC.mono hp_3 le1_12).max; refine TL.e (Ew.buildSlice rfl rfl rfl (by decide)) ?_; rintro _ _ ⟨g121, rfl, rfl⟩; refine TL.ay (fun w hw => hw.freezeR (i := 4) (j := 0) (by decide) rfl rfl) ?_; rintro F15 ⟨le12_15, hz15⟩; dsimp only [List.set, List.eraseIdx]; have le1_15 := le1_12.trans le12_15; have hf15 : SlC F15.toFrz (.slice (some ⟨g121, 0, none⟩) 1 1) 1 ([(p.Rules.Caps.length : Int)].map eI) := (SlK.lit hz15 rfl (Nat.le_refl _) (by decide)).toF (xs := [(p.Rules.Caps.length : Int)]) rfl (fun _ => rfl); refine TL.e (Ew.ak [1, 0, 3, 2] [.row g4 144 [.int .i64 0, vc_20], .sl vc_20 5 1 c_20.length (c_20.flatMap (eK .u8))] [.row g1 29 [vp_0, vp_1, vp_2, vp_3]] rfl rfl rfl rfl (by decide) (fun w hw hw2 hF => zbi _ w hF [(p.Rules.Caps.length : Int)] (.slice (some ⟨g121, 0, none⟩) 1 1) hf15 (GWriter.mk (Gfault.mk 0) c_20) g4 vc_20 hw2.takes.1 hw2.takes.2 fuel r122 hr122)) ?_; rintro _ _ ⟨v122_0_1, -, rfl, rfl⟩; dsimp only [List.cons_append, List.nil_append]; refine TL.az 1 rfl ?_; intro iv122_0_1 hmv122_0_1; refine TL.ns (T.seq (T.sr ?_)); refine TL.y (Yv.fieldAddr rfl rfl) ?_; refine TL.y (Yv.fieldAddr rfl rfl) ?_; refine TL.y (Yv.aa 3 rfl rfl rfl rfl) ?_; refine TL.y (Yv.an rfl rfl (SlC.mono hp_3 le1_15) (List.length_map _)) ?_; refine TL.run 1 rfl ?_; refine TL.ns ?_; have hq := zaf hk; clear hk; obtain ⟨k27, hk27, hk⟩ := hq; (try dsimp only at hk); refine T.af (ι := List Int × Value × FzB w (fun _ => False) S0) (fun z => [(4, .pointer (some ⟨g4, 0, none⟩))]) (fun z => [.sl z.2.1 5 1 z.1.length (z.1.flatMap (eK .u8)), .row g4 144 [.int .i64 0, z.2.1], .fr z.2.2]) (fun z => k27 z.1 = some r ∧ OneC z.2.1 ∧ F15.toFrz.Le z.2.2.toFrz) ?_ ?_
          · have hq := zah hk; clear hk; obtain ⟨f29, kk29, hf29, hkk29, hk⟩ := hq; refine T.block ?_; refine T.pick [1, 0, 2] rfl (by decide) ?_; refine T.loop (ι := Nat × List Int × Value × FzB w (fun _ => False) S0) (fun z => [(4, .pointer (some ⟨g4, 0, none⟩)), (5, .func (.func 98) #[] #[.pointer (some ⟨g4, 0, none⟩)]), (125, vp_3), (126, .int .i64 (p.Rules.Caps.length : Int)), (127, .int .i64 (z.1 : Int))]) (fun z => [.sl z.2.2.1 5 1 z.2.1.length (z.2.1.flatMap (eK .u8)), .row g4 144 [.int .i64 0, z.2.2.1], .fr z.2.2.2]) (fun z => zag f29 kk29 (p.Rules.Caps.length - z.1) z.1 z.2.1 = some r ∧ OneC z.2.2.1 ∧ F15.toFrz.Le z.2.2.2.toFrz) (fun z => p.Rules.Caps.length - z.1) (0, r122, v122_0_1, F15) ?_ ?_ ?_ ?_
            · exact ⟨hk, inferInstance, (Frz.Le.refl _)⟩
            · exact (.c (.c (.c (.c (.c .nil)))))
            · exact List.Sublist.refl _
            · rintro ⟨i_30, c_28, vc_28, F17⟩ ⟨hk, oc_28, le15_17⟩; (try dsimp only at *); have le1_17 := le1_15.trans le15_17; refine T.sr ?_; refine TL.run 1 rfl ?_; refine TL.ns (T.seq ?_); refine T.cond rfl (fun h31 => ?_) (fun h31 => ?_)
              · have p31 := of_decide_eq_true h31; rw [zas (by omega)] at hk; generalize hn29 : zag f29 kk29 (p.Rules.Caps.length - (i_30 + 1)) (i_30 + 1) = next29 at hk; rw [← hf29] at hk; (try dsimp only at hk); refine T.skip (K.seq (T.seq (T.block (T.sr ?_)))); refine TL.y (Yv.al (i := i_30) rfl rfl rfl (SlC.mono hp_3 le1_17) (List.length_map _) rfl (by omega)) ?_; refine TL.y (Yv.aq 2 (i := i_30) rfl rfl rfl (SlC.mono hp_3 le1_17) (by omega) rfl rfl rfl) ?_; refine TL.e (Ew.alloc rfl) ?_; rintro _ _ ⟨g16, rfl, rfl⟩; refine TL.e0 (Ew.ah 0 rfl rfl rfl rfl rfl rfl) ?_; rintro _ _ ⟨rfl, rfl⟩; refine TL.ns ?_; have hq := zae hk; clear hk; obtain ⟨r141, hr141, hk⟩ := hq; (try dsimp only at hk); refine T.region ?_; refine TL.run 1 rfl ?_; refine TL.y (Yv.fieldAddr rfl rfl) ?_; refine TL.y (Yv.aa 0 rfl rfl rfl rfl) ?_; refine TL.y (Yv.fieldAddr rfl rfl) ?_; refine TL.y (Yv.aa 0 rfl rfl rfl rfl) ?_; refine TL.y (Yv.fieldAddr rfl rfl) ?_; refine TL.y (Yv.aa 0 rfl rfl rfl rfl) ?_; refine TL.y (Yv.fieldAddr rfl rfl) ?_; refine TL.y (Yv.aa 0 rfl rfl rfl rfl) ?_; refine TL.e (Ew.buildSlice rfl rfl rfl (by decide)) ?_; rintro _ _ ⟨g140, rfl, rfl⟩; refine TL.ay (fun w hw => hw.freezeR (i := 4) (j := 0) (by decide) rfl rfl) ?_; rintro F18 ⟨le17_18, hz18⟩; dsimp only [List.set, List.eraseIdx]; have le15_18 := le15_17.trans le17_18; have hf18 : SlC F18.toFrz (.slice (some ⟨g140, 0, none⟩) 4 4) 1 ([(nth p.Rules.Caps i_30).Station, (nth p.Rules.Caps i_30).Max, (nth p.Rules.Caps i_30).Low, (nth p.Rules.Caps i_30).High].map eI) := (SlK.lit hz18 rfl (Nat.le_refl _) (by decide)).toF (xs := [(nth p.Rules.Caps i_30).Station, (nth p.Rules.Caps i_30).Max, (nth p.Rules.Caps i_30).Low, (nth p.Rules.Caps i_30).High]) rfl (fun _ => rfl); refine TL.e (Ew.ak [2, 1, 3, 0] [.row g4 144 [.int .i64 0, vc_28], .sl vc_28 5 1 c_28.length (c_28.flatMap (eK .u8))] [.row g16 72 [.int .i64 ((nth p.Rules.Caps i_30).Station), .int .i64 ((nth p.Rules.Caps i_30).Max), .int .i64 ((nth p.Rules.Caps i_30).Low), .int .i64 ((nth p.Rules.Caps i_30).High)]] rfl rfl rfl rfl (by decide) (fun w hw hw2 hF => zbi _ w hF [(nth p.Rules.Caps i_30).Station, (nth p.Rules.Caps i_30).Max, (nth p.Rules.Caps i_30).Low, (nth p.Rules.Caps i_30).High] (.slice (some ⟨g140, 0, none⟩) 4 4) hf18 (GWriter.mk (Gfault.mk 0) c_28) g4 vc_28 hw2.takes.1 hw2.takes.2 fuel r141 hr141)) ?_; rintro _ _ ⟨v141_0_1, -, rfl, rfl⟩; dsimp only [List.cons_append, List.nil_append]; refine TL.az 1 rfl ?_; intro iv141_0_1 hmv141_0_1; refine TL.nil (K.ac (K.seq (T.region ?_))); refine TL.y (Yv.ao rfl rfl rfl (by omega)) ?_; refine TL.run 1 rfl ?_; refine TL.nil ?_; rw [← hn29] at hk; refine K.pick [1, 0, 2] rfl (by decide) ?_; exact K.next ((i_30 + 1), r141, v141_0_1, F18) ⟨hk, inferInstance, le15_18⟩ (by dsimp only; omega) (.c (.c (.c (.c (.c .nil))))) (List.Sublist.refl _)
              · have p31 := of_decide_eq_false h31; rw [zar (by omega), ← hkk29] at hk; (try dsimp only at hk); refine T.exit (K.ab (K.ab (K.ad ?_))); exact K.ai (c_28, vc_28, F17) ⟨hk, inferInstance, le15_17⟩ (.c .nil) (List.Sublist.refl _)
          · rintro ⟨c_26, vc_26, F16⟩ ⟨hk, oc_26, le15_16⟩; (try dsimp only at *); rw [← hk27] at hk; (try dsimp only at hk); have le1_16 := le1_15.trans le15_16; refine T.seq ?_; have hq := zae hk; clear hk; obtain ⟨r143, hr143, hk⟩ := hq; (try dsimp only at hk); refine T.region ?_; refine TL.e (Ew.ak [1, 0, 2] [.row g4 144 [.int .i64 0, vc_26], .sl vc_26 5 1 c_26.length (c_26.flatMap (eK .u8))] [] rfl rfl rfl rfl (by decide) (fun w hw hw2 hF => zdu _ w hF (GWriter.mk (Gfault.mk 0) c_26) g4 vc_26 hw2.takes.1 hw2.takes.2 r143 hr143)) ?_; rintro _ _ ⟨v143_0_0, -, rfl, rfl⟩; dsimp only [List.cons_append, List.nil_append]; refine TL.az 2 rfl ?_; intro iv143_0_0 hmv143_0_0; refine TL.run 4 rfl ?_; refine TL.ns (T.ret ?_); obtain rfl := Option.some.inj hk; exact K.aQ rfl rfl rfl (fun w' hw => ⟨v143_0_0, F16.toFrz, trivial, rfl, FxM.of (hw.pick (idx := [2, 3]) rfl (by decide)) hS0 le1_16⟩)
def zb5 (a : Int) (b : Int) (xf0_ : Int) (xf1_ : List Int) : Option (List Int) :=
  (bif decide (xf0_ = a) then
    grd (room (xf1_ ++ [b]).length 8) <|
    some (xf1_ ++ [b])
    else
    (bif decide (xf0_ = b) then
      grd (room (xf1_ ++ [a]).length 8) <|
      some (xf1_ ++ [a])
      else
      some xf1_))
theorem zdc (F0 : Frz) (w : World) (hF0 : F0.At w) (a : Int) (b : Int) (xf0_ : Int) (gf0_ : Nat) (xf1_ : List Int) (gf1_ : Nat) (vf1_0 : Value) (hO : Hp w (fps [.row gf0_ 3 [.int .i64 xf0_], .row gf1_ 44 [vf1_0], .sl vf1_0 3 1 xf1_.length (xf1_.flatMap eI)]) [.row gf0_ 3 [.int .i64 xf0_], .row gf1_ 44 [vf1_0], .sl vf1_0 3 1 xf1_.length (xf1_.flatMap eI)] w) (hA : ∀ g, fps [.row gf0_ 3 [.int .i64 xf0_], .row gf1_ 44 [vf1_0], .sl vf1_0 3 1 xf1_.length (xf1_.flatMap eI)] g → ¬ F0.S g) (r : List Int) (hr : zb5 a b xf0_ xf1_ = some r) : Calls Tryz.prog 105 #[.int .i64 a, .int .i64 b, .pointer (some ⟨gf0_, 0, none⟩), .pointer (some ⟨gf1_, 0, none⟩)] w fun e w' => ∃ (y : Value), (True) ∧ e = .returned (.tuple #[]) ∧ FxM F0 w (fps [.row gf0_ 3 [.int .i64 xf0_], .row gf1_ 44 [vf1_0], .sl vf1_0 3 1 xf1_.length (xf1_.flatMap eI)]) F0 [.row gf0_ 3 [.int .i64 xf0_], .row gf1_ 44 [y], .sl y 3 1 r.length (r.flatMap eI)] w' := by
  have hk := hr; unfold zb5 at hk; haveI := zb2 (hO.own (.sl vf1_0 3 1 xf1_.length (xf1_.flatMap eI)) (by simp)); have hmxf1_0 := zch (hO.own (.sl vf1_0 3 1 xf1_.length (xf1_.flatMap eI)) (by simp)); obtain ⟨S0, F1, rfl, hS0, hp0⟩ := zaM hF0 hO hA; refine zam (hs := [.row gf0_ 3 [.int .i64 xf0_], .row gf1_ 44 [vf1_0], .sl vf1_0 3 1 xf1_.length (xf1_.flatMap eI), .fr F1]) Tryz.func105 rfl rfl rfl hp0 ?_; refine T.sr ?_; refine TL.y (Yv.aa 0 rfl rfl rfl rfl) ?_; refine TL.ns (T.block (T.sr ?_)); refine TL.run 3 rfl ?_; refine TL.ns ?_; refine T.cond rfl (fun h1 => ?_) (fun h1 => ?_)
  · have p1 := of_decide_eq_true h1; replace hk := zac hk h1; have hq : (room (xf1_ ++ [b]).length 8) ∧ _ := zaj hk; clear hk; obtain ⟨g13, hk⟩ := hq; (try dsimp only at hk); refine T.region ?_; refine TL.y (Yv.aa 1 rfl rfl rfl rfl) ?_; refine TL.run 1 rfl ?_; refine TL.e (Ew.buildSlice rfl rfl rfl (by decide)) ?_; rintro _ _ ⟨g12, rfl, rfl⟩; refine TL.e (Ew.av 3 0 rfl rfl rfl rfl rfl rfl (zbF (ys := [b]) rfl) (zbP (enc := eI) (xs := xf1_) (ys := [b])) g13 (by decide)) ?_; rintro v13 _ ⟨hv13, rfl⟩; refine TL.e0 (Ew.ar 2 rfl rfl rfl rfl (by simp)) ?_; rintro _ _ ⟨rfl, rfl⟩; refine TL.nil (K.ac ?_); obtain rfl := Option.some.inj hk; exact K.end0 rfl (fun w' hw => ⟨v13, trivial, rfl, FxM.of (hw.pick (idx := [1, 2, 3, 4]) rfl (by decide)) hS0 (Frz.Le.refl _)⟩)
  · have p1 := of_decide_eq_false h1; replace hk := zab hk h1; refine T.sr ?_; refine TL.run 3 rfl ?_; refine TL.ns ?_; refine T.cond rfl (fun h2 => ?_) (fun h2 => ?_)
    · have p2 := of_decide_eq_true h2; replace hk := zac hk h2; have hq : (room (xf1_ ++ [a]).length 8) ∧ _ := zaj hk; clear hk; obtain ⟨g20, hk⟩ := hq; (try dsimp only at hk); refine T.region ?_; refine TL.y (Yv.aa 1 rfl rfl rfl rfl) ?_; refine TL.run 1 rfl ?_; refine TL.e (Ew.buildSlice rfl rfl rfl (by decide)) ?_; rintro _ _ ⟨g19, rfl, rfl⟩; refine TL.e (Ew.av 3 0 rfl rfl rfl rfl rfl rfl (zbF (ys := [a]) rfl) (zbP (enc := eI) (xs := xf1_) (ys := [a])) g20 (by decide)) ?_; rintro v20 _ ⟨hv20, rfl⟩; refine TL.e0 (Ew.ar 2 rfl rfl rfl rfl (by simp)) ?_; rintro _ _ ⟨rfl, rfl⟩; refine TL.nil (K.ac ?_); obtain rfl := Option.some.inj hk; exact K.end0 rfl (fun w' hw => ⟨v20, trivial, rfl, FxM.of (hw.pick (idx := [1, 2, 3, 4]) rfl (by decide)) hS0 (Frz.Le.refl _)⟩)
    · have p2 := of_decide_eq_false h2; replace hk := zab hk h2; refine T.skip (K.ac ?_); obtain rfl := Option.some.inj hk; exact K.end0 rfl (fun w' hw => ⟨vf1_0, trivial, rfl, FxM.of (hw.pick (idx := [0, 1, 2, 3]) rfl (by decide)) hS0 (Frz.Le.refl _)⟩)
def zcY (p : GProblem) (station : Int) : Option (List Int × Int) :=
  (zbm p).bind fun r13 =>
  (bif !r13 then
    some ([], 2)
    else
    (zbC p).bind fun r16 =>
    (zao r16 station).bind fun r18 =>
    (bif !r18 then
      some ([], 9)
      else
      zaH (fun (c_3 : List Int) =>
        zaH (fun (c_9 : List Int) =>
          (zhE c_9).bind fun r52 =>
          some ((zf8 r52), 0))
        (fun k10 =>
          zag (fun (i_13 : Nat) (next12 : List Int → Option (List Int × Int)) (c_11 : List Int) =>
            (zb5 ((nth p.Rules.Loads i_13).To) ((nth p.Rules.Loads i_13).From) station c_11).bind fun r49 =>
            next12 r49)
          (fun (c_11 : List Int) =>
            k10 c_11) (p.Rules.Loads.length - 0) 0 c_3))
      (fun k4 =>
        zag (fun (i_7 : Nat) (next6 : List Int → Option (List Int × Int)) (c_5 : List Int) =>
          (zb5 ((nth p.Rules.Pairs i_7).A) ((nth p.Rules.Pairs i_7).B) station c_5).bind fun r34 =>
          next6 r34)
        (fun (c_5 : List Int) =>
          k4 c_5) (p.Rules.Pairs.length - 0) 0 [])))
theorem zes (F0 : Frz) (w : World) (hF0 : F0.At w) (p : GProblem) (vp_0 : Value) (cp_0 : List (List Value)) (hp_0 : SlD GDomain.rep F0 vp_0 2 cp_0 p.Domains) (vp_1 : Value) (hp_1 : SlC F0 vp_1 5 (p.Rules.Pairs.map GPair.enc)) (vp_2 : Value) (hp_2 : SlC F0 vp_2 5 (p.Rules.Loads.map GLoad.enc)) (vp_3 : Value) (hp_3 : SlC F0 vp_3 4 (p.Rules.Caps.map GCap.enc)) (station : Int) (r : List Int × Int) (hr : zcY p station = some r) : Calls Tryz.prog 37 #[.agg [vp_0, vp_1, vp_2, vp_3].toArray, .int .i64 station] w fun e w' => ∃ (y : Value) (G : Frz), (SlC G y 1 (r.1.map eI)) ∧ e = .returned (.tuple #[y, .int .i64 r.2]) ∧ Fx F0 w G w' := by
  have hk := hr; unfold zcY at hk; haveI := hp_0.1.oneC; haveI := hp_1.oneC; haveI := hp_2.oneC; haveI := hp_3.oneC; obtain ⟨S0, F1, rfl, hS0, hp0⟩ := zal hF0; refine zam Tryz.func37 rfl rfl rfl hp0 ?_; refine T.sr ?_; refine TL.e (Ew.aA rfl rfl) ?_; rintro _ _ ⟨g2, rfl, rfl⟩; refine TL.e (Ew.box rfl rfl) ?_; rintro _ _ ⟨g3, rfl, rfl⟩; refine TL.run 2 rfl ?_; refine TL.ns (T.seq (T.seq ?_)); have hq := zae hk; clear hk; obtain ⟨r13, hr13, hk⟩ := hq; (try dsimp only at hk); refine T.region ?_; refine TL.y (Yv.am 1 rfl rfl rfl rfl) ?_; refine TL.e (Ew.ag rfl rfl rfl (fun w hw => zcf _ w (hw.fr (i := 2) rfl) p vp_0 cp_0 hp_0 vp_1 hp_1 vp_2 hp_2 vp_3 hp_3 r13 hr13)) ?_; rintro _ _ ⟨rfl, rfl⟩; refine TL.run 1 rfl ?_; refine TL.ns ?_; refine T.cond rfl (fun h1 => ?_) (fun h1 => ?_)
  · replace hk := zac hk h1; refine T.sr ?_; refine TL.run 2 rfl ?_; refine TL.ns (T.ret (K.then_ret ?_)); obtain rfl := Option.some.inj hk; exact K.aQ rfl rfl rfl (fun w' hw => ⟨(.slice none 0 0), F1.toFrz, (SlC.nil _ 1), rfl, Fx.of hw (i := 2) rfl hS0 (Frz.Le.refl _)⟩)
  · replace hk := zab hk h1; refine T.skip (K.seq (T.seq (T.seq ?_))); have hq := zae hk; clear hk; obtain ⟨r16, hr16, hk⟩ := hq; have hq := zae hk; clear hk; obtain ⟨r18, hr18, hk⟩ := hq; (try dsimp only at hk); refine T.ax (.still 0 (.still 2 (.eff 1 (.eff 3 (.still 4 .done))))) _ (by kernel_rfl) (List.Sublist.refl _) ?_; refine TS.y rfl (Yv.am 1 rfl rfl rfl rfl) ?_; refine TS.y rfl (Yv.aa 0 rfl rfl rfl rfl) ?_; refine TS.eff ?_; refine TSo.au rfl (Wt.none rfl) rfl rfl (Ew.ag rfl rfl rfl (fun w hw => zcT _ w (hw.fr (i := 2) rfl) p vp_0 cp_0 hp_0 vp_1 hp_1 vp_2 hp_2 vp_3 hp_3 r16 hr16)) ?_; rintro _ _ ⟨rfl, rfl⟩; refine ⟨(fun w hw => hw.sub Sx), ?_⟩; refine TS.eff ?_; refine TSo.au rfl (Wt.none rfl) rfl rfl (Ew.ag rfl rfl rfl (fun w hw => zax _ w (hw.fr (i := 2) rfl) r16 station r18 hr18)) ?_; rintro _ _ ⟨rfl, rfl⟩; refine ⟨(fun w hw => hw.sub Sx), ?_⟩; refine TS.run 1 rfl ?_; refine TS.done ?_; refine K.seq ?_; refine T.cond rfl (fun h2 => ?_) (fun h2 => ?_)
    · replace hk := zac hk h2; refine T.sr ?_; refine TL.run 2 rfl ?_; refine TL.ns (T.ret (K.then_ret ?_)); obtain rfl := Option.some.inj hk; exact K.aQ rfl rfl rfl (fun w' hw => ⟨(.slice none 0 0), F1.toFrz, (SlC.nil _ 1), rfl, Fx.of hw (i := 2) rfl hS0 (Frz.Le.refl _)⟩)
    · replace hk := zab hk h2; refine T.skip (K.seq (T.sr ?_)); refine TL.e (Ew.alloc rfl) ?_; rintro _ _ ⟨g6, rfl, rfl⟩; refine TL.slNil 3 1 ?_; refine TL.nx ?_; refine TL.run 2 rfl ?_; refine TL.ns (T.seq (T.sr ?_)); refine TL.y (Yv.fieldAddr rfl rfl) ?_; refine TL.y (Yv.fieldAddr rfl rfl) ?_; refine TL.y (Yv.aa 3 rfl rfl rfl rfl) ?_; refine TL.y (Yv.an rfl rfl hp_1 (List.length_map _)) ?_; have hm24 : p.Rules.Pairs.length ≤ 9223372036854775807 := (List.length_map _) ▸ hp_1.max; refine TL.run 1 rfl ?_; refine TL.ns ?_; have hq := zaf hk; clear hk; obtain ⟨k4, hk4, hk⟩ := hq; (try dsimp only at hk); refine T.af (ι := List Int × Value) (fun z => [(2, .pointer (some ⟨g2, 0, none⟩)), (6, .pointer (some ⟨g6, 0, none⟩)), (7, .func (.func 105) #[] #[.pointer (some ⟨g3, 0, none⟩), .pointer (some ⟨g6, 0, none⟩)])]) (fun z => [.sl z.2 3 1 z.1.length (z.1.flatMap eI), .row g6 44 [z.2], .row g3 3 [.int .i64 station], .row g2 29 [vp_0, vp_1, vp_2, vp_3], .fr F1]) (fun z => k4 z.1 = some r ∧ OneC z.2) ?_ ?_
      · have hq := zah hk; clear hk; obtain ⟨f6, kk6, hf6, hkk6, hk⟩ := hq; refine T.block ?_; refine T.loop (ι := Nat × List Int × Value) (fun z => [(2, .pointer (some ⟨g2, 0, none⟩)), (6, .pointer (some ⟨g6, 0, none⟩)), (7, .func (.func 105) #[] #[.pointer (some ⟨g3, 0, none⟩), .pointer (some ⟨g6, 0, none⟩)]), (23, vp_1), (24, .int .i64 (p.Rules.Pairs.length : Int)), (25, .int .i64 (z.1 : Int))]) (fun z => [.sl z.2.2 3 1 z.2.1.length (z.2.1.flatMap eI), .row g6 44 [z.2.2], .row g3 3 [.int .i64 station], .row g2 29 [vp_0, vp_1, vp_2, vp_3], .fr F1]) (fun z => zag f6 kk6 (p.Rules.Pairs.length - z.1) z.1 z.2.1 = some r ∧ OneC z.2.2) (fun z => p.Rules.Pairs.length - z.1) (0, [], (.slice none 0 0)) ?_ ?_ ?_ ?_
        · exact ⟨hk, inferInstance⟩
        · exact (.c (.c (.c (.c (.c (.c .nil))))))
        · exact List.Sublist.refl _
        · rintro ⟨i_7, c_5, vc_5⟩ ⟨hk, oc_5⟩; (try dsimp only at *); refine T.sr ?_; refine TL.run 1 rfl ?_; refine TL.ns (T.seq ?_); refine T.cond rfl (fun h8 => ?_) (fun h8 => ?_)
          · have p8 := of_decide_eq_true h8; rw [zas (by omega)] at hk; generalize hn6 : zag f6 kk6 (p.Rules.Pairs.length - (i_7 + 1)) (i_7 + 1) = next6 at hk; rw [← hf6] at hk; (try dsimp only at hk); refine T.skip (K.seq (T.seq (T.block (T.sr ?_)))); refine TL.y (Yv.al (i := i_7) rfl rfl rfl hp_1 (List.length_map _) rfl (by omega)) ?_; refine TL.y (Yv.aq 4 (i := i_7) rfl rfl rfl hp_1 (by omega) rfl rfl rfl) ?_; refine TL.e (Ew.alloc rfl) ?_; rintro _ _ ⟨g9, rfl, rfl⟩; refine TL.e0 (Ew.ah 0 rfl rfl rfl rfl rfl rfl) ?_; rintro _ _ ⟨rfl, rfl⟩; refine TL.ns ?_; have hq := zae hk; clear hk; obtain ⟨r34, hr34, hk⟩ := hq; (try dsimp only at hk); refine T.region ?_; refine TL.run 1 rfl ?_; refine TL.y (Yv.fieldAddr rfl rfl) ?_; refine TL.y (Yv.aa 0 rfl rfl rfl rfl) ?_; refine TL.y (Yv.fieldAddr rfl rfl) ?_; refine TL.y (Yv.aa 0 rfl rfl rfl rfl) ?_; refine TL.e (Ew.ak [3, 2, 1, 5, 0, 4] [.row g3 3 [.int .i64 station], .row g6 44 [vc_5], .sl vc_5 3 1 c_5.length (c_5.flatMap eI)] [.row g9 68 [.int .i64 ((nth p.Rules.Pairs i_7).A), .int .i64 ((nth p.Rules.Pairs i_7).B), .int .i64 ((nth p.Rules.Pairs i_7).Offset), .int .i64 ((nth p.Rules.Pairs i_7).Low), .int .i64 ((nth p.Rules.Pairs i_7).High)], .row g2 29 [vp_0, vp_1, vp_2, vp_3]] rfl rfl rfl rfl (by decide) (fun w hw hw2 hF => zdc _ w hF ((nth p.Rules.Pairs i_7).A) ((nth p.Rules.Pairs i_7).B) station g3 c_5 g6 vc_5 hw2.takes.1 hw2.takes.2 r34 hr34)) ?_; rintro _ _ ⟨v34_0_0, -, rfl, rfl⟩; dsimp only [List.cons_append, List.nil_append]; refine TL.az 2 rfl ?_; intro iv34_0_0 hmv34_0_0; refine TL.nil (K.ac (K.seq (T.region ?_))); refine TL.y (Yv.ao rfl rfl rfl (by omega)) ?_; refine TL.run 1 rfl ?_; refine TL.nil ?_; rw [← hn6] at hk; refine K.pick [2, 1, 0, 5, 3] rfl (by decide) ?_; exact K.next ((i_7 + 1), r34, v34_0_0) ⟨hk, inferInstance⟩ (by dsimp only; omega) (.c (.c (.c (.c (.c (.c .nil)))))) (List.Sublist.refl _)
          · have p8 := of_decide_eq_false h8; rw [zar (by omega), ← hkk6] at hk; (try dsimp only at hk); refine T.exit (K.ab (K.ab (K.ad ?_))); exact K.ai (c_5, vc_5) ⟨hk, inferInstance⟩ (.c (.c (.c .nil))) (List.Sublist.refl _)
      · rintro ⟨c_3, vc_3⟩ ⟨hk, oc_3⟩; (try dsimp only at *); rw [← hk4] at hk; (try dsimp only at hk); refine T.seq (T.sr ?_); refine TL.y (Yv.fieldAddr rfl rfl) ?_; refine TL.y (Yv.fieldAddr rfl rfl) ?_; refine TL.y (Yv.aa 3 rfl rfl rfl rfl) ?_; refine TL.y (Yv.an rfl rfl hp_2 (List.length_map _)) ?_; have hm39 : p.Rules.Loads.length ≤ 9223372036854775807 := (List.length_map _) ▸ hp_2.max; refine TL.run 1 rfl ?_; refine TL.ns ?_; have hq := zaf hk; clear hk; obtain ⟨k10, hk10, hk⟩ := hq; (try dsimp only at hk); refine T.af (ι := List Int × Value) (fun z => [(6, .pointer (some ⟨g6, 0, none⟩))]) (fun z => [.sl z.2 3 1 z.1.length (z.1.flatMap eI), .row g6 44 [z.2], .fr F1]) (fun z => k10 z.1 = some r ∧ OneC z.2) ?_ ?_
        · have hq := zah hk; clear hk; obtain ⟨f12, kk12, hf12, hkk12, hk⟩ := hq; refine T.block ?_; refine T.pick [0, 1, 2, 4] rfl (by decide) ?_; refine T.loop (ι := Nat × List Int × Value) (fun z => [(6, .pointer (some ⟨g6, 0, none⟩)), (7, .func (.func 105) #[] #[.pointer (some ⟨g3, 0, none⟩), .pointer (some ⟨g6, 0, none⟩)]), (38, vp_2), (39, .int .i64 (p.Rules.Loads.length : Int)), (40, .int .i64 (z.1 : Int))]) (fun z => [.sl z.2.2 3 1 z.2.1.length (z.2.1.flatMap eI), .row g6 44 [z.2.2], .row g3 3 [.int .i64 station], .fr F1]) (fun z => zag f12 kk12 (p.Rules.Loads.length - z.1) z.1 z.2.1 = some r ∧ OneC z.2.2) (fun z => p.Rules.Loads.length - z.1) (0, c_3, vc_3) ?_ ?_ ?_ ?_
          · exact ⟨hk, inferInstance⟩
          · exact (.c (.c (.c (.c (.c .nil)))))
          · exact List.Sublist.refl _
          · rintro ⟨i_13, c_11, vc_11⟩ ⟨hk, oc_11⟩; (try dsimp only at *); refine T.sr ?_; refine TL.run 1 rfl ?_; refine TL.ns (T.seq ?_); refine T.cond rfl (fun h14 => ?_) (fun h14 => ?_)
            · have p14 := of_decide_eq_true h14; rw [zas (by omega)] at hk; generalize hn12 : zag f12 kk12 (p.Rules.Loads.length - (i_13 + 1)) (i_13 + 1) = next12 at hk; rw [← hf12] at hk; (try dsimp only at hk); refine T.skip (K.seq (T.seq (T.block (T.sr ?_)))); refine TL.y (Yv.al (i := i_13) rfl rfl rfl hp_2 (List.length_map _) rfl (by omega)) ?_; refine TL.y (Yv.aq 3 (i := i_13) rfl rfl rfl hp_2 (by omega) rfl rfl rfl) ?_; refine TL.e (Ew.alloc rfl) ?_; rintro _ _ ⟨g11, rfl, rfl⟩; refine TL.e0 (Ew.ah 0 rfl rfl rfl rfl rfl rfl) ?_; rintro _ _ ⟨rfl, rfl⟩; refine TL.ns ?_; have hq := zae hk; clear hk; obtain ⟨r49, hr49, hk⟩ := hq; (try dsimp only at hk); refine T.region ?_; refine TL.run 1 rfl ?_; refine TL.y (Yv.fieldAddr rfl rfl) ?_; refine TL.y (Yv.aa 0 rfl rfl rfl rfl) ?_; refine TL.y (Yv.fieldAddr rfl rfl) ?_; refine TL.y (Yv.aa 0 rfl rfl rfl rfl) ?_; refine TL.e (Ew.ak [3, 2, 1, 4, 0] [.row g3 3 [.int .i64 station], .row g6 44 [vc_11], .sl vc_11 3 1 c_11.length (c_11.flatMap eI)] [.row g11 70 [.int .i64 ((nth p.Rules.Loads i_13).To), .int .i64 ((nth p.Rules.Loads i_13).From), .int .i64 ((nth p.Rules.Loads i_13).Weight), .int .i64 ((nth p.Rules.Loads i_13).Low), .int .i64 ((nth p.Rules.Loads i_13).High)]] rfl rfl rfl rfl (by decide) (fun w hw hw2 hF => zdc _ w hF ((nth p.Rules.Loads i_13).To) ((nth p.Rules.Loads i_13).From) station g3 c_11 g6 vc_11 hw2.takes.1 hw2.takes.2 r49 hr49)) ?_; rintro _ _ ⟨v49_0_0, -, rfl, rfl⟩; dsimp only [List.cons_append, List.nil_append]; refine TL.az 2 rfl ?_; intro iv49_0_0 hmv49_0_0; refine TL.nil (K.ac (K.seq (T.region ?_))); refine TL.y (Yv.ao rfl rfl rfl (by omega)) ?_; refine TL.run 1 rfl ?_; refine TL.nil ?_; rw [← hn12] at hk; refine K.pick [2, 1, 0, 3] rfl (by decide) ?_; exact K.next ((i_13 + 1), r49, v49_0_0) ⟨hk, inferInstance⟩ (by dsimp only; omega) (.c (.c (.c (.c (.c .nil))))) (List.Sublist.refl _)
            · have p14 := of_decide_eq_false h14; rw [zar (by omega), ← hkk12] at hk; (try dsimp only at hk); refine T.exit (K.ab (K.ab (K.ad ?_))); refine K.pick [0, 1, 3] rfl (by decide) ?_; exact K.ai (c_11, vc_11) ⟨hk, inferInstance⟩ (.c .nil) (List.Sublist.refl _)
        · rintro ⟨c_9, vc_9⟩ ⟨hk, oc_9⟩; (try dsimp only at *); rw [← hk10] at hk; (try dsimp only at hk); refine T.seq ?_; have hq := zae hk; clear hk; obtain ⟨r52, hr52, hk⟩ := hq; (try dsimp only at hk); refine T.region ?_; refine TL.y (Yv.aa 1 rfl rfl rfl rfl) ?_; refine TL.e (Ew.ak [0, 2, 1] [.sl vc_9 3 1 c_9.length (c_9.flatMap eI)] [.row g6 44 [vc_9]] rfl rfl rfl rfl (by decide) (fun w hw hw2 hF => zjc _ w hF c_9 vc_9 hw2.takes.1 hw2.takes.2 r52 hr52)) ?_; rintro _ _ ⟨⟨⟩, -, rfl, rfl⟩; dsimp only [List.cons_append, List.nil_append]; refine TL.nx ?_; refine TL.y (Yv.aa 2 rfl rfl rfl rfl) ?_; refine TL.e (Ew.ak [0, 1, 2] [.sl vc_9 3 1 r52.length (r52.flatMap eI)] [.row g6 44 [vc_9]] rfl rfl rfl rfl (by decide) (fun w hw hw2 hF => zi9 _ w hF r52 vc_9 hw2.takes.1 hw2.takes.2)) ?_; rintro v54_0_0 _ ⟨_, -, rfl, rfl⟩; dsimp only [List.cons_append, List.nil_append]; refine TL.az 0 rfl ?_; intro iv54_0_0 hmv54_0_0; refine TL.run 2 rfl ?_; refine TL.ns (T.ret ?_); refine K.ay (fun w hw => hw.freezeS (i := 1) (j := 0) (by decide) rfl rfl) ?_; rintro F2 ⟨le1_2, hz2⟩; dsimp only [List.set, List.eraseIdx]; have hf2 := hz2.toF rfl (fun _ => rfl); haveI := hf2.oneC; obtain rfl := Option.some.inj hk; exact K.aQ rfl rfl rfl (fun w' hw => ⟨v54_0_0, F2.toFrz, hf2, rfl, Fx.of hw (i := 0) rfl hS0 le1_2⟩)
inductive Dy (α β : Type) where
  | ok (x : α)
  | er (z : β)
instance {α β : Type} [Inhabited α] : Inhabited (Dy α β) := ⟨.ok default⟩
def zb6 {α β : Type} : Dy α β → Bool
  | .ok _ => true
  | .er _ => false
def okY {α β : Type} [Inhabited α] : Dy α β → α
  | .ok x => x
  | .er _ => default
def erY {α β : Type} [Inhabited β] : Dy α β → β
  | .ok _ => default
  | .er z => z
abbrev dyE (t : TypeId) (k : Int) : List PanicEntry := [{ v := .iface t (.int .i64 k), recovered := false }]
def zhq (P : Program) (fn : Func) (R : Ending → World → Prop) : Exit → Act → World → Prop
  | .normal, a, w | .ret, a, w => LeavesInM Fence.wide 0 P fn a.tmps R a.defers .returning w
  | .panic ch, a, w => ∀ tmps, LeavesInM Fence.wide 0 P fn tmps R a.defers (.panicking ch) w
  | _, _, _ => False
instance (P : Program) (fn : Func) (R : Ending → World → Prop) : NP (zhq P fn R) := ⟨fun c a d v w h => by
  cases d <;> exact h⟩
section
variable {F : Fence} {P : Program} {n : Nat} {B D : World} {M : Nat → Prop} {Q : Exit → Act → World → Prop} {fs : SFs} {hs : HS} {ops : Array Oper} {l rest : List Oper} {ch : List PanicEntry} {id : Nat}
theorem zdZ {f : FuncId} {fn : Func} {c : Code} {args : List Value} {w : World} {R : Ending → World → Prop} (hf : P.funcs[f]? = some fn) (hb : fn.body = some c) (hn : fn.ntmps = n) (hlen : Nat.ble args.length n = true)
    (hh : Hp w M hs w) (h : T Fence.wide P n w w M c (zhq P fn R) (mkFs 0 args) hs) : Calls P f args.toArray w R := by
  (have hle : args.length ≤ n := by simpa using hlen); refine callsIn_wide.1 (callsIn_of_wp_marks (F := Fence.wide) (n := 0) hf hb trivial (wpIn_mono (h.out { tmps := args.toArray ++ Array.replicate (fn.ntmps - args.toArray.size) undef, defers := [] } w ⟨?_, ?_⟩ hh ⟨Kp.refl w, [], rfl, List.nodup_nil, fun _ h => by cases h⟩) ?_))
  · simp [hn]; omega
  · intro t v e; obtain ⟨_, h2⟩ := zeh _ _ _ _ e; rw [Nat.sub_zero] at h2; have ht : t < args.length := (List.getElem?_eq_some_iff.1 h2).1; rw [Array.getElem?_append_left (by simpa using ht)]; simpa using h2
  · intro e a w hq
    cases e <;> first | exact hq | exact hq a.tmps | exact hq.elim
theorem K.pq {fn : Func} {R : Ending → World → Prop} (h : K n B D M (zev P fn R) .ret fs hs) : K n B D M (zhq P fn R) .ret fs hs := ⟨fun a w ha hw hm => h.out a w ha hw hm⟩
theorem K.bV {fn : Func} {R : Ending → World → Prop} (h : K n B D M (zev P fn R) .normal fs hs) : K n B D M (zhq P fn R) .normal fs hs := ⟨fun a w ha hw hm => h.out a w ha hw hm⟩
theorem K.then_panic {N : Act → World → Prop} (h : K n B D M Q (.panic ch) fs hs) : K n B D M (Exit.then N Q) (.panic ch) fs hs := ⟨fun a w ha hw hm => h.out a w ha hw hm⟩
theorem K.aG (h : K n B D M Q (.panic ch) fs hs) : K n B D M (Exit.inBlock id Q) (.panic ch) fs hs := ⟨fun a w ha hw hm => h.out a w ha hw hm⟩
theorem zeL {fn : Func} {R : Ending → World → Prop} {tmps : Array Value} (hv : ∀ w, Hp B M hs w → R (.panicked ch) w) :
    ∀ (rs : List Nat) (w : World), Hp B M hs w → Kp D w → rs.Nodup → (∀ r ∈ rs, w.heap[r]? = some (.deferred (some [])) ∧ B.heap.size ≤ r ∧ D.heap.size ≤ r) → LeavesInM Fence.wide 0 P fn tmps R (rs.map mark) (.panicking ch) w
  | [], w, h, hk, _, _ => hv w h
  | r :: rs, w, h, hk, hn, hr => by
    obtain ⟨h1, h2, h3⟩ := hr r (by simp); have hlt := (Array.getElem?_eq_some_iff.1 h1).1; have ho : Only (· = r) w (w.putObj r (.deferred none)) := ⟨rfl, rfl, rfl, by rw [World.putObj_size]; exact Nat.le_refl _, fun k hk hne => World.putObj_heap_other hne⟩; refine ⟨by simp, .inl ⟨r, w.putObj r (.deferred none), rfl, run_takeDeferred h1, ?_⟩⟩; rw [List.nodup_cons] at hn; refine zeL hv rs _ (h.other ho h2 (h.notMark h1)) ⟨Nat.le_trans hk.size ho.size, fun q c hq => ?_⟩ hn.2 (fun q hq => ?_)
    · have hq' := (Array.getElem?_eq_some_iff.1 hq).1; exact (World.putObj_heap_other (by omega)).trans (hk.keep q c hq)
    · have hq' := hr q (by simp [hq]); exact ⟨(World.putObj_heap_other (fun (e : q = r) => hn.1 (by rw [← e]; exact hq))).trans hq'.1, hq'.2⟩
theorem K.aP {fn : Func} {R : Ending → World → Prop} (h : ∀ w, Hp B M hs w → R (.panicked ch) w) : K n B D M (zhq P fn R) (.panic ch) fs hs :=
  ⟨fun a w ha hw ⟨h0, rs, h1, h2, h3⟩ => by
    intro tmps
    rw [h1]; exact zeL h rs w hw h0 h2 h3⟩
end
section
variable {Fe : Fence} [hFe : Calm Fe] {P : Program} {n : Nat} {B D : World} {M S0 : Nat → Prop} {Q : Exit → Act → World → Prop} {fs : SFs} {hs : HS} {ops : Array Oper} {rest : List Oper} {o : Oper} {v : Value}
def zhd (P : Program) (t : TypeId) : Bool :=
  match P.underlying t with
  | some (.interface _) => false
  | some _ => true
  | none => false
theorem Yv.bp {t : TypeId} {x : Operand} (ho : o.op = .makeInterface t x) (hx : ev fs x = some v) (ht : zhd P t = true) : Yv P n B M fs hs o (.iface t v) := fun a w ha _ => by
  have h1 : (Instr.makeInterface t v).run P w = .ok (.iface t v) w := by
    unfold zhd at ht
    cases hU : P.underlying t with
    | none => rw [hU] at ht; cases ht
    | some d =>
      rw [hU] at ht
      cases d <;> first | (cases ht; done) | simp [Instr.makeInterface, underlying, hU]
  unfold execOp; simp only [ho, ha.ev hx]; rw [Sem.run_bind, h1]; rfl
theorem TL.bq {t : TypeId} {x : Operand} (hg : o.guard = none) (ho : o.op = .panic x) (hx : ev fs x = some (.iface t v)) (k : K n B D M Q (.panic [{ v := .iface t v, recovered := false }]) fs hs) : TL Fe P n B D M ops Q (o :: rest) fs hs :=
  ⟨fun a w ha hp hm => wpListIn_step fun K hK => by
    rw [if_pos (Wt.none hg a ha)]
    have hr : (execOp a.eval o).run P w = .halt (.panic (.iface t v)) w := by
      unfold execOp; simp only [ho, ha.ev hx]
      rfl
    refine zfN (fun c e => by rw [ho] at e; cases e) ?_; rw [hr]
    exact k.out a w ha hp hm⟩
theorem zhc {c : Operand} {xs : Array Operand} {ts : Array TypeId} {f : FuncId} {fst caps : Array Value} {vs : List Value} [hE : Enters P f] (ho : o.op = .call { callee := .value c, args := xs, argTypes := ts }) (hc : ev fs c = some (.func (.func f) fst caps)) (hv : evs fs xs.toList = some vs)
    {a : Act} {w : World} (ha : Fr n fs a) {R : Ending → World → Prop} (C : Calls P f (fst.toList ++ vs ++ caps.toList).toArray w R) {K : Act → World → Prop} (h1 : ∀ v w', R (.returned v) w' → K (a.put o.dst v) w') (h2 : ∀ ch w', R (.panicked ch) w' → Q (.panic ch) a w') (h3 : ∀ w', ¬ R .outgrown w') : o.wpIn Fe 0 P a w K Q := by
  (have h4 : xs.map a.eval = vs.toArray := by rw [← ha.evs hv]; apply Array.ext'; simp)
  have hrun : (execOp a.eval o).run P w = .ok (.enter f (fst.toList ++ vs ++ caps.toList).toArray) w := by
    unfold execOp; have := hE.run (fst.toList ++ vs ++ caps.toList).toArray w; simp only [ho, resolve, ha.ev hc, Deferred.ofValue, h4, invoke, Sem.run_bind, Sem.run_pure, Result.andThen_ok]; rw [← this]
    congr 2
    apply Array.ext'; simp
  refine zfN (zha hrun) ?_; rw [hrun, Oper.uponIn_enter]; refine ⟨(fun h => by rw [hFe.depth] at h; cases h), zff C ?_⟩; intro e w' hR
  cases e with
  | returned v => exact h1 v w' hR
  | panicked ch => exact h2 ch w' hR
  | outgrown => exact absurd hR (h3 w')
theorem TL.aM (idx : List Nat) (bs rs : HS) {ι : Type} {F : FzB B M S0} {φ : ι → Prop} {ch : List PanicEntry} {es : ι → HS} {c : Operand} {xs : Array Operand} {ts : Array TypeId} {f : FuncId} {fst caps : Array Value} {vs : List Value} [hE : Enters P f] (hg : o.guard = none)
    (ho : o.op = .call { callee := .value c, args := xs, argTypes := ts }) (hc : ev fs c = some (.func (.func f) fst caps)) (hv : evs fs xs.toList = some vs) (hp : ze5 hs idx = some (bs ++ .fr F :: rs)) (hn : idx.Nodup)
    (C : ∀ w, Hp B M hs w → Hp B M (bs ++ .fr F :: rs) w → F.toFrz.At w → Calls P f (fst.toList ++ vs ++ caps.toList).toArray w (fun e w' => ∃ y, φ y ∧ e = .panicked ch ∧ FxM F.toFrz w (fps bs) F.toFrz (es y) w'))
    (k : ∀ y, φ y → K n B D M Q (.panic ch) fs (es y ++ .fr F :: rs)) : TL Fe P n B D M ops Q (o :: rest) fs hs :=
  ⟨fun a w ha hw hm => wpListIn_step fun K hK => by
    rw [if_pos (Wt.none hg a ha)]; have hw2 := hw.pick hp hn; have hF : F.toFrz.At w := hw2.fr (i := bs.length) (by simp); refine zhc ho hc hv ha (C w hw hw2 hF) (fun v w' h => ?_) (fun ch2 w' h => ?_) (fun w' h => ?_)
    · obtain ⟨_, _, e, _⟩ := h; cases e
    · obtain ⟨y, hy, e, hx⟩ := h
      cases e
      refine (k y hy).out a w' ha ?_ (hm.next (Kp.only hx.hp.only fun g hg c => ?_))
      · exact Hp.go (es := bs) (es' := es y) hw2 hx.hp.only (fun g _ ⟨e, he, hg⟩ => ⟨e, he, hg⟩) hx.hp.own (fun e he g hg => hx.hp.new e he g hg) hx.hp.apart
      · obtain ⟨e, h1, h2⟩ := hg; exact e.nd (hw2.own e (List.mem_append_left _ h1)) g h2 c
    · obtain ⟨_, _, e, _⟩ := h; cases e⟩
end
end Go.Proofs.YtipomhejoajjdaaGreat
