/- The sample of the law: which states it has. -/
import Derived.Test.YtljgejbmimapdaaDoorM8
set_option linter.unusedVariables false
set_option linter.unusedSimpArgs false
set_option maxRecDepth 100000
namespace Go.Proofs.YtljgejbmimapdaaDoor
open Go.RowKit
def nv : Value := .slice none 0 0
/-- The tables of the sample, without the values. -/
def Y0 : Tb := ⟨[1, 2, 3], ixAt (smp nv nv nv).ds 3, 7, [], (smp nv nv nv).psA 2, [], (smp nv nv nv).csA 1, [], (smp nv nv nv).inA 2, [], (smp nv nv nv).ouA 2⟩
section
variable {a b c : Value} {Y : Tb} (h : TbOf (smp a b c) Y)
include h
theorem sm_ps : Y.ps = Y0.ps := h.ps.trans rfl
theorem sm_cs : Y.cs = Y0.cs := h.cs.trans rfl
theorem sm_in : Y.inn = Y0.inn := h.inn.trans rfl
theorem sm_out : Y.out = Y0.out := h.out.trans rfl
theorem sm_n : Y.n = 3 := h.n
theorem sm_gone (L : Ws) (i : Nat) : goneF Y L i = goneF Y0 L i := by
  have h1 := sm_ps h; have h2 := sm_cs h; have h3 := sm_in h; have h4 := sm_out h
  have e1 : pairsF Y L i = pairsF Y0 L i := by unfold pairsF; rw [h1]
  have e2 : capsF Y L i = capsF Y0 L i := by unfold capsF; rw [h2, h3]
  have e3 : loadsF Y L i = loadsF Y0 L i := by
    unfold loadsF
    rw [h4]
    apply foldl_congr'
    intro x _ s
    unfold loadStep
    rw [h2, h3]
  unfold goneF; rw [e1, e2, e3]
end
def l0 : Ws := [49152#64, 49152#64, 114688#64]
def k1 : Ws := [16384#64, 32768#64, 65536#64]
theorem sm_left (a b c : Value) : (smp a b c).left = l0 := by
  show [maskOf [14, 15], maskOf [14, 15], maskOf [14, 15, 16]] = l0
  decide
theorem sm_ok (a b c : Value) : (smp a b c).ok = true := by
  have e : (smp a b c).ok = (smp nv nv nv).ok := rfl
  rw [e]; decide +kernel
theorem closed0 : ∀ i, i < 3 → nth l0 i ≠ 0#64 ∧ nth l0 i &&& goneF Y0 l0 i = 0#64 := by decide +kernel
theorem closed1 : ∀ i, i < 3 → nth k1 i ≠ 0#64 ∧ nth k1 i &&& goneF Y0 k1 i = 0#64 := by decide +kernel
def stepG (L : Ws) (i : Nat) : Ws := L.set i (nth L i &&& ~~~(goneF Y0 L i))
def t1 : Ws := [16384#64, 49152#64, 114688#64]
def t3 : Ws := [49152#64, 49152#64, 32768#64]
theorem steps1 : stepG (stepG t1 1) 2 = k1 := by decide +kernel
theorem steps3 : nth (stepG (stepG t3 1) 0) 0 = 0#64 := by decide +kernel
section
variable {a b c : Value} {Y : Tb} (h : TbOf (smp a b c) Y)
include h
theorem sm_tok : Y.Ok := h.ok (Pb.good (sm_ok a b c))
theorem sm_closed {K : Ws} (hl : K.length = 3) (hc : ∀ i, i < 3 → nth K i ≠ 0#64 ∧ nth K i &&& goneF Y0 K i = 0#64) : Closed Y K := ⟨by rw [hl, sm_n h], fun i hi => by
  rw [sm_n h] at hi
  have := hc i hi
  exact ⟨this.1, by rw [sm_gone h]; exact this.2⟩⟩
theorem sm_reach {T M : Ws} {i : Nat} (hr : Reach Y T M) (hi : i < 3) : Reach Y T (stepG M i) := by
  unfold stepG
  rw [← sm_gone h]
  exact .step hr (by rw [sm_n h]; exact hi) (fun _ hj => hj)
theorem sm_new {L : Ws} {d : Bool} (hI : Is Y (smp a b c).left L d) : L = l0 ∧ d = false := by
  rw [sm_left] at hI
  exact hI.eq (sm_tok h) (sm_closed h rfl closed0) .refl
theorem sm_check {x : Ch} : checkF Y false x = checkF Y0 false x := by
  unfold checkF atF
  rw [h.ix]; rfl
theorem sm_asm1 : asm Y (smp a b c).left ⟨1, 14⟩ = t1 := by
  unfold asm; rw [sm_check h, sm_left]; decide +kernel
theorem sm_asm3 : asm Y (smp a b c).left ⟨3, 15⟩ = t3 := by
  unfold asm; rw [sm_check h, sm_left]; decide +kernel
theorem sm_fbd1 : fbd Y (smp a b c).left ⟨1, 15⟩ = t1 := by
  unfold fbd; rw [sm_check h, sm_left]; decide +kernel
theorem sm_one {L : Ws} {d : Bool} (hI : Is Y t1 L d) : L = k1 ∧ d = false := by
  refine hI.eq (sm_tok h) (sm_closed h rfl closed1) ?_
  rw [← steps1]
  exact sm_reach h (sm_reach h .refl (by decide)) (by decide)
theorem sm_three {L : Ws} {d : Bool} (hI : Is Y t3 L d) : d = true :=
  hI.conflict (sm_tok h) (i := 0) (by rw [sm_n h]; decide) steps3 (sm_reach h (sm_reach h .refl (by decide)) (by decide))
theorem sm_total : Y.total = 7 := h.total.trans rfl
theorem sm_st : Y.st = [1, 2, 3] := h.st.trans rfl
theorem sm_doms0 : domsF Y l0 Y.n = [(1, [14, 15]), (2, [14, 15]), (3, [14, 15, 16])] := by
  unfold domsF; rw [sm_n h, sm_st h]
  have e : ∀ m : BitVec 64, chansN m = (List.range' 0 64).filter m.getLsbD := fun m => by unfold chansN; rfl
  simp only [e]
  decide +kernel
theorem sm_doms1 : domsF Y k1 Y.n = [(1, [14]), (2, [15]), (3, [16])] := by
  unfold domsF; rw [sm_n h, sm_st h]
  have e : ∀ m : BitVec 64, chansN m = (List.range' 0 64).filter m.getLsbD := fun m => by unfold chansN; rfl
  simp only [e]
  decide +kernel
theorem sm_fix1 : fixF Y k1 Y.n = [⟨1, 14⟩, ⟨2, 15⟩, ⟨3, 16⟩] := by
  unfold fixF; rw [sm_n h, sm_st h]; decide +kernel
theorem sm_rem0 : removedF Y l0 false = 0 := by unfold removedF; rw [sm_total h]; decide +kernel
theorem sm_rem1 : removedF Y k1 false = 4 := by unfold removedF; rw [sm_total h]; decide +kernel
end
theorem dfix_pl (xs : List Dx) : dfix xs xs.length = ((xs.map Dx.pl).filter fun p => decide (p.2.length = 1)).map fun p => ⟨p.1, nth p.2 0⟩ := by
  unfold dfix
  rw [List.take_length, List.filter_map, List.map_map]
  rfl
theorem pl_len {xs : List Dx} {l : List (Int × List Int)} (h : xs.map Dx.pl = l) : xs.length = l.length := by rw [← h, List.length_map]
theorem pl_chs {xs : List Dx} {l : List (Int × List Int)} (h : xs.map Dx.pl = l) (n : Nat) (hl : ∀ p ∈ l, p.2.length ≤ n) : ∀ d ∈ xs, d.chs.length ≤ n := fun d hd => hl (Dx.pl d) (by rw [← h]; exact List.mem_map.2 ⟨d, hd, rfl⟩)
def want : List Ch := [⟨1, 14⟩, ⟨2, 15⟩, ⟨3, 16⟩]
end Go.Proofs.YtljgejbmimapdaaDoor
