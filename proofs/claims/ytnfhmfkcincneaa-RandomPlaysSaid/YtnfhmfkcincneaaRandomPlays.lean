/- For every seed and list of calls the Go function bandplanlaw03.RandomPlays returns true, and leaves its arguments as they were. No condition. -/
import Derived.Test.YtnfhmfkcincneaaW
import Derived.Deep.SlicePairs
namespace Go.Proofs.Ytnfhmfkcincneaa.randomPlays
open Go.ChangeShapes Go.WideShapes Go.ChangeAt Go.RowKit Go.Deep

theorem cellsAct : Try.prog.cellsOf 43 = 2 := by kernel_rfl
theorem cellsInt : Try.prog.cellsOf 3 = 1 := by kernel_rfl
theorem cellsU8 : Try.prog.cellsOf 5 = 1 := by kernel_rfl

theorem acts {H : Type} {enc : TypeId × Value → H} {W : World} {v : Value} {d : DataW H} {p : List MemPlace} {base : Nat}
    (hv : Value.okWide Try.prog W .any base 41 v) (h : DataW.Trod enc Try.prog W 0 (fun _ => true) true 41 v d p) :
    ∃ A len cap, v = .slice A len cap ∧ len ≤ 9223372036854775807 ∧ ActsAt W A len := by
  obtain ⟨a0, len0, cap0, rfl⟩ := okWide_slice Try.underlying41 hv
  obtain ⟨fuel, hf⟩ := h
  rcases open_slice_pairs Try.underlying41 Try.underlying43 cellsAct rfl rfl cellsU8 cellsInt hf with ⟨hcs, _⟩ | ⟨a, len, cap, m, n, V0, V1, D0, D1, P0, P1, hcs, _, hl, hm, hmm, _, hx⟩
  · have e : Value.slice a0 len0 cap0 = .slice none 0 0 := by simpa [Value.cells] using hcs
    exact ⟨none, 0, 0, e, by omega, fun h => absurd h (by omega)⟩
  · have e : Value.slice a0 len0 cap0 = .slice (some a) len cap := by simpa [Value.cells] using hcs
    unfold maxLen at hm
    refine ⟨some a, len, cap, e, by omega, fun hl0 => ?_⟩
    have hm' : m = cap := by simpa using hmm
    have hx0 := (hx 0 (by omega)).1
    have hsp : a.spot = none := by
      cases hs : a.spot with
      | none => rfl
      | some q =>
        have : (a.add (0 * 2)).spot = some q := by simp [Addr.add, hs]
        unfold World.cell? at hx0
        rw [this] at hx0
        split at hx0 <;> simp at hx0
    obtain ⟨bl, off, sp⟩ := a
    simp only at hsp
    subst hsp
    have hadd : ∀ i, (⟨bl, off, none⟩ : Addr).add i = ⟨bl, off + i, none⟩ := fun i => by unfold Addr.add; split <;> simp_all
    refine ⟨bl, off, rfl, ?_, fun i hi => ?_⟩
    · have := cell_lt hx0; rwa [hadd] at this
    · obtain ⟨h0, h1, t0, t1⟩ := hx i (by omega)
      obtain ⟨kd, e0, _, wk⟩ := DataW.trod_int Try.underlying5 t0
      obtain ⟨x, e1, _, wx⟩ := DataW.trod_int Try.underlying3 t1
      simp only [List.cons.injEq, and_true] at e0 e1
      rw [hadd, e0] at h0
      rw [hadd, e1] at h1
      have hb := bounds_u8 wk
      exact ⟨kd, x, h0, by rw [Nat.add_assoc]; exact h1, hb.1, hb.2⟩

set_option maxRecDepth 100000 in
theorem lifted (os : Os) (started : os.Started) (H : Type) (enc : TypeId × Value → H) :
    ReturnsInHanded {} Try.checked os 6 .any (Rows.randomPlaysSpec.pre6 enc Try.prog Try.f6 Rows.randomPlaysRow.domain false) (Rows.randomPlaysSpec.post enc Try.prog Try.f6 false true false false) := by
  refine returnsInHanded_of_change (C := Try.checked) own started (by kernel_rfl) Try.func6
    (ChangeSpec.witness6 (enc := enc) (C := Try.checked) false ⟨#[], #[.int .i64 0, .slice none 0 0], []⟩ 8 (by kernel_rfl) (by kernel_rfl) (by kernel_rfl) (by kernel_rfl)) ?_
  intro W base args ds gs before hval0 hW hcnd _
  have hval : ∀ (j : Nat) t v, Try.f6.params[j]? = some t → args[j]? = some v → Value.okWide Try.prog W .any base t v := hval0
  have hW' := hW
  obtain ⟨p, q, hA0, hV, rfl, hfz, hnd⟩ := hW
  have hA : DataW.TrodAll enc Try.prog W 0 (fun _ => true) true Try.f6.params.toList args.toList ds p := hA0
  rw [Try.params6] at hA hval
  obtain ⟨v0, vs0, d0, ds0, p0, q0, hargs, rfl, rfl, h0, r0⟩ := trodAll_cons hA
  obtain ⟨v1, vs1, d1, ds1, p1, q1, rfl, rfl, rfl, h1, r1⟩ := trodAll_cons r0
  obtain ⟨rfl, rfl, rfl⟩ := trodAll_nil r1
  obtain rfl : args = #[v0, v1] := by cases args; simp_all
  obtain ⟨rfl, rfl⟩ := trodVars_none hV
  obtain ⟨a0, rfl, rfl, rfl, w0⟩ := open_int Try.underlying3 (hval 0 3 v0 rfl rfl) h0
  obtain ⟨A, len, cap, rfl, hm, hAs⟩ := acts (hval 1 41 v1 rfl rfl) h1
  refine (plays_walk a0 A len cap W hm hAs).mono fun e W' ⟨he, hg⟩ => ?_
  subst he
  exact ⟨_, rfl, law_post laid (tb := 4) (by kernel_rfl) Try.underlying4 (by kernel_rfl) rfl rfl rfl rfl hW' hg⟩

theorem proved : Rows.RandomPlaysSaid :=
  OpenClaim.holds_of_wide 6 Try.f6 rfl rfl rfl rfl rfl rfl rfl ⟨rfl, rfl, rfl, rfl, rfl⟩ rfl rfl rfl rfl rfl (by kernel_rfl) Try.func6 (by kernel_rfl)
    (of_decide_eq_true (by kernel_rfl)) (by unfold Func.isWrapper; first | (rw [if_pos (by decide +kernel)]; kernel_rfl) | (rw [if_neg (by decide +kernel)]; exact ⟨rfl, rfl⟩))
    (fun os started H enc _ => lifted os started H enc)
#print axioms proved
end Go.Proofs.Ytnfhmfkcincneaa.randomPlays
