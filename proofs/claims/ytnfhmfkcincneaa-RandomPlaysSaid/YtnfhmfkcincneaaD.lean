/- The walks of known and of the law RandomNumbers. -/
import Derived.Test.YtnfhmfkcincneaaC
namespace Go.Proofs.Ytnfhmfkcincneaa
open Go.ChangeShapes Go.WideShapes Go.ChangeAt Go.RowKit Go.Deep
set_option maxHeartbeats 1000000

theorem new_src (s : Int) (w : World) :
    Calls Try.prog 8 #[.int .i64 s] w fun e w' => e = .returned (.pointer (some ⟨w.heap.size, 0, none⟩)) ∧ Src w' w.heap.size (IntKind.u64.wrap s) ∧ Only (fun _ => False) w w' :=
  (new_any s w).mono fun e w' ⟨he, hw⟩ => by
    subst hw
    exact ⟨he, Src.new w _, (Only.refl _ _).alloc _⟩
/-- Whatever has changed lies at B or above. -/
abbrev Up (B : Nat) (w w' : World) : Prop := Only (fun k => B ≤ k) w w'
theorem Up.next {B : Nat} {S : Nat → Prop} {w w1 w2 : World} (h : Up B w w1) (k : Only S w1 w2) (hs : ∀ j, S j → B ≤ j) : Up B w w2 := h.trans (k.mono fun j _ hj => hs j hj)
theorem Up.below {B : Nat} {w w' : World} (h : Up B w w') (hB : B ≤ w.heap.size) : Below B w w' := Only.below h hB (fun _ h => h)
theorem wrap0 : IntKind.u64.wrap 0 = 0 := by decide +kernel
theorem wrap5 : IntKind.u64.wrap 5 = 5 := by decide +kernel
theorem wrap7 : IntKind.u64.wrap 7 = 7 := by decide +kernel
theorem kw0 : wordOf 0 = 16294208416658607535 := by decide +kernel
theorem kw1 : wordOf (stepS 0) = 7960286522194355700 := by decide +kernel
theorem kw2 : wordOf (stepS (stepS 0)) = 487617019471545679 := by decide +kernel
theorem one_zero (s : Int) : numV 1 s = 0 := by have := numV_bd (n := 1) (by omega) s; omega
theorem shuf1 (s : Int) : shufL 1 s = [0] := rfl
theorem fork7 : forkS 3 7 = bits .xor .u64 (wordOf 7) 3 := by decide +kernel

set_option maxRecDepth 100000 in
theorem known_any (w : World) : Calls Try.prog 11 #[] w fun e w' => e = .returned (.bool true) ∧ Below w.heap.size w w' := by
  go_enter Try.func11, Try.ntmps11
  go_wp2_with fail
  refine (new_src _ _).mono ?_
  rintro e w1 ⟨rfl, hS, hO⟩
  rw [wrap0] at hS
  have U : Up w.heap.size w w1 := hO.mono (fun _ _ h => h.elim)
  clear hO
  go_wp2_with fail
  refine (word_src _ _ _ hS).mono ?_
  rintro e w2 ⟨rfl, hS2, hO⟩
  replace U := U.next hO (fun j h => by omega)
  rw [kw0]
  clear hS hO
  go_wp2_with fail
  refine (word_src _ _ _ hS2).mono ?_
  rintro e w3 ⟨rfl, hS3, hO⟩
  replace U := U.next hO (fun j h => by omega)
  rw [kw1]
  clear hS2 hO
  go_wp2_with fail
  refine (word_src _ _ _ hS3).mono ?_
  rintro e w4 ⟨rfl, hS4, hO⟩
  replace U := U.next hO (fun j h => by omega)
  rw [kw2]
  clear hS3 hS4 hO
  go_wp2_with fail
  refine (new_src _ _).mono ?_
  rintro e w5 ⟨rfl, hT, hO⟩
  rw [wrap5] at hT
  have z4 := U.size
  have z5 := hT.lt
  replace U := U.next hO (fun j h => h.elim)
  clear hO
  go_wp2_with fail
  refine (new_src _ _).mono ?_
  rintro e w6 ⟨rfl, hU, hO⟩
  rw [wrap7] at hU
  replace U := U.next hO (fun j h => h.elim)
  replace hT := hT.kept hO (fun h => h)
  clear hO
  go_wp2_with fail
  refine (number_ok _ _ _ _ hT (by omega) (by omega)).mono ?_
  rintro e w7 ⟨rfl, hT7, hO⟩
  rw [one_zero]
  replace U := U.next hO (fun j h => by omega)
  replace hU := hU.kept hO (by omega)
  clear hO hT
  go_wp2_with fail
  refine (number_bad _ _ _ _ hT7 (by omega)).mono ?_
  rintro e w' ⟨rfl, rfl⟩
  go_wp2_with fail
  refine (shuffle_ok 1 _ _ _ hT7 (by omega)).mono ?_
  rintro e w8 ⟨rfl, hT8, hL, hO⟩
  have z7 := U.size
  have z8 := hL.lt
  have z9 := hT7.lt
  replace U := U.next hO (fun j h => by omega)
  replace hU := hU.kept hO (by omega)
  rw [shuf1] at hL
  clear hO hT7
  go_wp2_with fail
  refine (shuffle_ok 0 _ _ _ hT8 (by omega)).mono ?_
  rintro e w9 ⟨rfl, hT9, hL9, hO⟩
  replace U := U.next hO (fun j h => by omega)
  replace hU := hU.kept hO (by omega)
  replace hL := hL.kept hO (by omega)
  have hc := hL.cell 0
  simp only [ivs, List.map_cons, List.map_nil, List.getElem?_toArray, List.getElem?_cons_zero] at hc
  clear hO hT8 hL9
  go_wp2_with fail
  refine (shuffle_bad _ _ _ _ hT9 (by omega)).mono ?_
  rintro e w' ⟨rfl, rfl⟩
  clear hT9
  go_wp2_with fail
  clear hc hL
  refine (fork_any _ _ _ _ hU).mono ?_
  rintro e w10 ⟨rfl, hU10, hV, hO⟩
  have z10 := U.size
  replace U := U.next hO (fun j h => by omega)
  clear hO hU10
  go_wp2_with fail
  refine (next_any _ _).mono ?_
  rintro e w' ⟨rfl, rfl⟩
  go_wp2_with fail
  refine (next_any _ _).mono ?_
  rintro e w' ⟨rfl, rfl⟩
  rw [← fork7]
  go_wp2_with fail
  refine (word_src _ _ _ hV).mono ?_
  rintro e w11 ⟨rfl, hV11, hO⟩
  replace U := U.next hO (fun j h => by omega)
  go_wp2_with fail
  go_ret
  exact ⟨rfl, U.below (Nat.le_refl _)⟩
end Go.Proofs.Ytnfhmfkcincneaa
