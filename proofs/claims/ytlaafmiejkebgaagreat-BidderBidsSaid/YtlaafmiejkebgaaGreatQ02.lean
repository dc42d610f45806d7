/- Tk Ti Fe Fa Fb Fc Fd Ff Fo Fv Ka Kb Kn Mq Km: shortened and put together by squeeze.py. -/
import Derived.Test.YtlaafmiejkebgaaGreatQ01
import Derived.Laws.Slices
import Derived.Laws.BytesArg
import Derived.Laws.Strings
import Derived.Maps.RangeRun
import Derived.Lib.Tables
set_option maxRecDepth 100000
set_option maxHeartbeats 4000000
set_option linter.unusedVariables false
set_option linter.unusedSectionVars false
set_option linter.unusedSimpArgs false
namespace Go.Proofs.YtlaafmiejkebgaaGreat
open Go.RowKit
theorem zdR {k : Nat} {v : Value} {r : SFs} {t : Nat} : look ((k, v) :: r) t = if k = t then some v else look r t := by
  simp only [look]
  by_cases h : k = t
  · subst h; simp
  · rw [show Nat.beq k t = false from by cases hb : Nat.beq k t with | false => rfl | true => exact absurd (Nat.eq_of_beq_eq_true hb) h, if_neg h]; rfl
theorem zfT {l1 l2 : SFs} (h : l1.Perm l2) : (l1.map Prod.fst).Nodup → ∀ fs t, look (l1 ++ fs) t = look (l2 ++ fs) t := by
  induction h with
  | nil => intros; rfl
  | cons x _ ih =>
    intro hn fs t
    obtain ⟨k, v⟩ := x
    simp only [List.cons_append, zdR]
    rw [ih (by simp only [List.map_cons, List.nodup_cons] at hn; exact hn.2)]
  | swap x y l =>
    intro hn fs t
    obtain ⟨a, u⟩ := x
    obtain ⟨b, v⟩ := y
    simp only [List.map_cons, List.nodup_cons, List.mem_cons, not_or] at hn
    simp only [List.cons_append, zdR]
    by_cases h1 : a = t <;> by_cases h2 : b = t
    · exact absurd (h2.trans h1.symm) hn.1.1
    · simp [h1, h2]
    · simp [h1, h2]
    · simp [h1, h2]
  | trans h1 _ ih1 ih2 =>
    intro hn fs t
    rw [ih1 hn, ih2 ((h1.map Prod.fst).nodup_iff.1 hn)]
section
variable {F : Fence} [hF : Calm F] {P : Program} {n : Nat} {B D : World} {M : Nat → Prop} {Q : Exit → Act → World → Prop} {fs : SFs} {hs hs0 : HS} {ops : Array Oper} {kk : Ord}
theorem TS.aF {gs : SFs} {hs' : HS} {r : Ord} (h1 : Sub fs gs) (hp : hs.Perm hs') (h : TS F P n B D M ops Q hs0 r gs hs') : TS F P n B D M ops Q hs0 r fs hs :=
  ⟨fun a w fuel listed h2 h3 h4 ha hw hw0 hm => h.out a w fuel listed h2 h3 h4 (ha.sub h1) (hw.perm hp) hw0 hm⟩
theorem TS.cc {js : List Nat} (d : Nat → Nat) (V : Nat → Nat → Value) (E : Nat → Nat → Ent)
    (hop : ∀ j ∈ js, ∃ o : Oper, ops[j]? = some o ∧ o.dst = some (d j) ∧ Nat.blt (d j) n = true ∧ look fs (d j) = none ∧ o.guard = none ∧ ∀ fs' hs', Sub fs' fs → Ew P n B M fs' hs' o (fun v hs'' => ∃ g, v = V j g ∧ hs'' = E j g :: hs'))
    (k : ∀ done : List (Nat × Nat), (done.map Prod.fst).Perm js → TS F P n B D M ops Q hs0 kk (done.map (fun p => (d p.1, V p.1 p.2)) ++ fs) (done.map (fun p => E p.1 p.2) ++ hs)) (hsub : hs0.Sublist hs) :
    TS F P n B D M ops Q hs0 (.any js kk) fs hs := by
  have main : ∀ m (rem : List Nat) (done : List (Nat × Nat)) fuel (listed : Array Bool) a w, Region.noSelect ops = true → zcw ops = true → (done.map Prod.fst ++ rem).Perm js →
      zea ops (fun f l => zcA ops kk f l) m rem fuel listed = true → ClosedL .any ops listed → Fr n (done.map (fun p => (d p.1, V p.1 p.2)) ++ fs) a → Hp B M (done.map (fun p => E p.1 p.2) ++ hs) w → Hp B M hs0 w → Mk B D a w →
      zcl F P .any ops Q fuel listed (Hp B M hs0) a w := by
    intro m
    induction m with
    | zero =>
      intro rem done fuel listed a w hns hnd hp hok hcl ha hw hw0 hm
      simp only [zea, Bool.and_eq_true, List.isEmpty_iff] at hok
      obtain ⟨rfl, hok⟩ := hok
      rw [List.append_nil] at hp
      exact (k done hp).out a w fuel listed hns hnd ⟨hok, hcl⟩ ha hw hw0 hm
    | succ m ih =>
      intro rem done fuel listed a w hns hnd hp hok hcl ha hw hw0 hm
      cases fuel with
      | zero => simp [zea] at hok
      | succ fuel =>
        simp only [zea, Bool.and_eq_true, beq_iff_eq, Bool.not_eq_true', List.isEmpty_eq_false_iff, List.all_eq_true] at hok
        refine zcS hok.1 hok.2.1 ?_
        intro q hq
        have hqj : q ∈ js := hp.subset (List.mem_append_right _ hq)
        obtain ⟨o, h1, h2, h3, h4, h5, hE⟩ := hop q hqj
        have hs' : Sub (done.map (fun p => (d p.1, V p.1 p.2)) ++ fs) fs := by
          have : ∀ (l : List (Nat × Nat)), (∀ p ∈ l, p.1 ∈ js) → Sub (l.map (fun p => (d p.1, V p.1 p.2)) ++ fs) fs := by
            intro l
            induction l with
            | nil => intro _; exact Sub.refl
            | cons p r ihr =>
              intro hl t v hv
              simp only [List.map_cons, List.cons_append, zdR]
              by_cases hd : d p.1 = t
              · obtain ⟨_, _, _, _, this, _⟩ := hop p.1 (hl p (by simp))
                rw [hd] at this
                rw [this] at hv; cases hv
              · rw [if_neg hd]; exact ihr (fun x hx => hl x (by simp [hx])) t v hv
          exact this done (fun p hp' => hp.subset (List.mem_append_left _ (List.mem_map.2 ⟨p, hp', rfl⟩)))
        unfold wpOpIn
        simp only [h1, (Wt.none (n := n) (ops := ops) (fs := done.map (fun p => (d p.1, V p.1 p.2)) ++ fs) h5) a ha, if_true]
        refine hE _ _ hs' F hF Q _ a w ha hw ?_
        rintro v w' hs'' hk hp' ⟨g, rfl, rfl⟩
        rw [h2]
        have hsub' : hs0.Sublist (E q g :: (done.map (fun p => E p.1 p.2) ++ hs)) := (hsub.trans (List.sublist_append_right _ _)).trans (List.sublist_cons_self _ _)
        refine ⟨_, fun _ => rfl, hp'.sub hsub', ?_⟩
        exact ih (rem.erase q) ((q, g) :: done) fuel _ _ w' hns hnd (by
          simp only [List.map_cons, List.cons_append]
          have : (q :: (done.map Prod.fst ++ rem.erase q)).Perm (done.map Prod.fst ++ q :: rem.erase q) := List.perm_middle.symm
          exact this.trans (((List.perm_cons_erase hq).symm.append_left _).trans hp)) (hok.2.2 q hq) (hcl.step (by rw [hok.1]; exact hq)) (ha.put h3 _) hp' (hp'.sub hsub') ((hm.next hk).put _ _)
  exact ⟨fun a w fuel listed hns hnd hok ha hw hw0 hm => main js.length js [] fuel listed a w hns hnd (by simp) (by simpa [zcA] using hok.1) hok.2 ha hw hw0 hm⟩
def zft (done : List (Nat × Nat)) (j : Nat) : Nat := match done.find? (fun p => p.1 == j) with | some p => p.2 | none => 0
theorem zeT : ∀ (done : List (Nat × Nat)), (done.map Prod.fst).Nodup → ∀ p ∈ done, zft done p.1 = p.2
  | [], _, p, hp => by cases hp
  | q :: r, hn, p, hp => by
    simp only [List.map_cons, List.nodup_cons] at hn
    unfold zft
    rw [List.find?_cons]
    by_cases h : q.1 = p.1
    · have e : (q.1 == p.1) = true := by simpa using h
      simp only [e]
      rcases List.mem_cons.1 hp with rfl | hp
      · rfl
      · exact absurd (List.mem_map.2 ⟨p, hp, h.symm⟩) hn.1
    · have e : (q.1 == p.1) = false := by simpa using h
      simp only [e]
      rcases List.mem_cons.1 hp with rfl | hp
      · exact absurd rfl h
      · exact zeT r hn.2 p hp
theorem TS.any {js : List Nat} (d : Nat → Nat) (V : Nat → Nat → Value) (E : Nat → Nat → Ent) (hnd : js.Nodup) (hnd2 : (js.map d).Nodup)
    (hop : ∀ j ∈ js, ∃ o : Oper, ops[j]? = some o ∧ o.dst = some (d j) ∧ Nat.blt (d j) n = true ∧ look fs (d j) = none ∧ o.guard = none ∧ ∀ fs' hs', Sub fs' fs → Ew P n B M fs' hs' o (fun v hs'' => ∃ g, v = V j g ∧ hs'' = E j g :: hs'))
    (hsub : hs0.Sublist hs) (k : ∀ gs : Nat → Nat, TS F P n B D M ops Q hs0 kk (js.map (fun j => (d j, V j (gs j))) ++ fs) (js.map (fun j => E j (gs j)) ++ hs)) : TS F P n B D M ops Q hs0 (.any js kk) fs hs := by
  refine TS.cc d V E hop (fun done hp => ?_) hsub
  have hdn : (done.map Prod.fst).Nodup := hp.nodup_iff.2 hnd
  have he : done = (done.map Prod.fst).map (fun j => (j, zft done j)) := by
    rw [List.map_map]
    conv => lhs; rw [← List.map_id done]
    exact List.map_congr_left fun p hp' => by simp [zeT done hdn p hp']
  have hpd : done.Perm (js.map (fun j => (j, zft done j))) := by
    have := hp.map (fun j => (j, zft done j))
    rw [← he] at this
    exact this
  refine TS.aF (fun t v hv => ?_) ?_ (k (zft done))
  · have h1 := hpd.map (fun p => (d p.1, V p.1 p.2))
    rw [List.map_map] at h1
    rw [zfT h1 (by
      rw [List.map_map]
      have := hp.map d
      rw [List.map_map] at this
      exact this.nodup_iff.2 hnd2)]
    exact hv
  · have h1 := hpd.map (fun p => E p.1 p.2)
    rw [List.map_map] at h1
    exact h1.append_right _
end
section
variable {F : Fence} {P : Program} {n : Nat} {B D : World} {M : Nat → Prop} {Q : Exit → Act → World → Prop} {fs : SFs} {hs : HS} {c : Code} {e : Exit} {w : World}
theorem Hp.repl {es es' rest : HS} (h : Hp B M (es ++ rest) w) (hok : ∀ e ∈ es', e.ok w) (hfp : ∀ e ∈ es', ∀ g, e.fp g → ∃ f ∈ es, f.fp g) (hap : es'.Pairwise fun e f => ∀ g, e.fp g → ¬ f.fp g) : Hp B M (es' ++ rest) w :=
  Hp.go (es := es) h (Only.refl (fun _ => False) w) (fun _ _ h => h.elim) hok (fun e he g hg => .inl (hfp e he g hg)) hap
end
end Go.Proofs.YtlaafmiejkebgaaGreat
namespace Go.Proofs.YtlaafmiejkebgaaGreat
instance : Mixed Tryz.prog := ⟨by kernel_rfl⟩
instance : Enters Tryz.prog 10 := ⟨by kernel_rfl⟩
instance : Enters Tryz.prog 100 := ⟨by kernel_rfl⟩
instance : Enters Tryz.prog 101 := ⟨by kernel_rfl⟩
instance : Enters Tryz.prog 102 := ⟨by kernel_rfl⟩
instance : Enters Tryz.prog 103 := ⟨by kernel_rfl⟩
instance : Enters Tryz.prog 104 := ⟨by kernel_rfl⟩
instance : Enters Tryz.prog 105 := ⟨by kernel_rfl⟩
instance : Enters Tryz.prog 106 := ⟨by kernel_rfl⟩
instance : Enters Tryz.prog 107 := ⟨by kernel_rfl⟩
instance : Enters Tryz.prog 108 := ⟨by kernel_rfl⟩
instance : Enters Tryz.prog 109 := ⟨by kernel_rfl⟩
instance : Enters Tryz.prog 11 := ⟨by kernel_rfl⟩
instance : Enters Tryz.prog 110 := ⟨by kernel_rfl⟩
instance : Enters Tryz.prog 111 := ⟨by kernel_rfl⟩
instance : Enters Tryz.prog 112 := ⟨by kernel_rfl⟩
instance : Enters Tryz.prog 113 := ⟨by kernel_rfl⟩
instance : Enters Tryz.prog 114 := ⟨by kernel_rfl⟩
instance : Enters Tryz.prog 115 := ⟨by kernel_rfl⟩
instance : Enters Tryz.prog 116 := ⟨by kernel_rfl⟩
instance : Enters Tryz.prog 117 := ⟨by kernel_rfl⟩
instance : Enters Tryz.prog 118 := ⟨by kernel_rfl⟩
instance : Enters Tryz.prog 119 := ⟨by kernel_rfl⟩
instance : Enters Tryz.prog 12 := ⟨by kernel_rfl⟩
instance : Enters Tryz.prog 120 := ⟨by kernel_rfl⟩
instance : Enters Tryz.prog 121 := ⟨by kernel_rfl⟩
instance : Enters Tryz.prog 122 := ⟨by kernel_rfl⟩
instance : Enters Tryz.prog 123 := ⟨by kernel_rfl⟩
instance : Enters Tryz.prog 124 := ⟨by kernel_rfl⟩
instance : Enters Tryz.prog 125 := ⟨by kernel_rfl⟩
instance : Enters Tryz.prog 126 := ⟨by kernel_rfl⟩
instance : Enters Tryz.prog 127 := ⟨by kernel_rfl⟩
instance : Enters Tryz.prog 128 := ⟨by kernel_rfl⟩
instance : Enters Tryz.prog 13 := ⟨by kernel_rfl⟩
instance : Enters Tryz.prog 14 := ⟨by kernel_rfl⟩
instance : Enters Tryz.prog 15 := ⟨by kernel_rfl⟩
instance : Enters Tryz.prog 16 := ⟨by kernel_rfl⟩
instance : Enters Tryz.prog 17 := ⟨by kernel_rfl⟩
instance : Enters Tryz.prog 18 := ⟨by kernel_rfl⟩
instance : Enters Tryz.prog 19 := ⟨by kernel_rfl⟩
instance : Enters Tryz.prog 2 := ⟨by kernel_rfl⟩
instance : Enters Tryz.prog 20 := ⟨by kernel_rfl⟩
instance : Enters Tryz.prog 21 := ⟨by kernel_rfl⟩
instance : Enters Tryz.prog 22 := ⟨by kernel_rfl⟩
instance : Enters Tryz.prog 23 := ⟨by kernel_rfl⟩
instance : Enters Tryz.prog 24 := ⟨by kernel_rfl⟩
instance : Enters Tryz.prog 25 := ⟨by kernel_rfl⟩
instance : Enters Tryz.prog 26 := ⟨by kernel_rfl⟩
instance : Enters Tryz.prog 27 := ⟨by kernel_rfl⟩
instance : Enters Tryz.prog 28 := ⟨by kernel_rfl⟩
instance : Enters Tryz.prog 29 := ⟨by kernel_rfl⟩
instance : Enters Tryz.prog 3 := ⟨by kernel_rfl⟩
instance : Enters Tryz.prog 30 := ⟨by kernel_rfl⟩
instance : Enters Tryz.prog 31 := ⟨by kernel_rfl⟩
instance : Enters Tryz.prog 32 := ⟨by kernel_rfl⟩
instance : Enters Tryz.prog 33 := ⟨by kernel_rfl⟩
instance : Enters Tryz.prog 34 := ⟨by kernel_rfl⟩
instance : Enters Tryz.prog 35 := ⟨by kernel_rfl⟩
instance : Enters Tryz.prog 36 := ⟨by kernel_rfl⟩
instance : Enters Tryz.prog 37 := ⟨by kernel_rfl⟩
instance : Enters Tryz.prog 38 := ⟨by kernel_rfl⟩
instance : Enters Tryz.prog 39 := ⟨by kernel_rfl⟩
instance : Enters Tryz.prog 4 := ⟨by kernel_rfl⟩
instance : Enters Tryz.prog 40 := ⟨by kernel_rfl⟩
instance : Enters Tryz.prog 41 := ⟨by kernel_rfl⟩
instance : Enters Tryz.prog 42 := ⟨by kernel_rfl⟩
instance : Enters Tryz.prog 43 := ⟨by kernel_rfl⟩
instance : Enters Tryz.prog 44 := ⟨by kernel_rfl⟩
instance : Enters Tryz.prog 45 := ⟨by kernel_rfl⟩
instance : Enters Tryz.prog 46 := ⟨by kernel_rfl⟩
instance : Enters Tryz.prog 47 := ⟨by kernel_rfl⟩
instance : Enters Tryz.prog 48 := ⟨by kernel_rfl⟩
instance : Enters Tryz.prog 49 := ⟨by kernel_rfl⟩
instance : Enters Tryz.prog 5 := ⟨by kernel_rfl⟩
instance : Enters Tryz.prog 50 := ⟨by kernel_rfl⟩
instance : Enters Tryz.prog 51 := ⟨by kernel_rfl⟩
instance : Enters Tryz.prog 52 := ⟨by kernel_rfl⟩
instance : Enters Tryz.prog 53 := ⟨by kernel_rfl⟩
instance : Enters Tryz.prog 54 := ⟨by kernel_rfl⟩
instance : Enters Tryz.prog 55 := ⟨by kernel_rfl⟩
instance : Enters Tryz.prog 56 := ⟨by kernel_rfl⟩
instance : Enters Tryz.prog 57 := ⟨by kernel_rfl⟩
instance : Enters Tryz.prog 58 := ⟨by kernel_rfl⟩
instance : Enters Tryz.prog 59 := ⟨by kernel_rfl⟩
instance : Enters Tryz.prog 6 := ⟨by kernel_rfl⟩
instance : Enters Tryz.prog 60 := ⟨by kernel_rfl⟩
instance : Enters Tryz.prog 61 := ⟨by kernel_rfl⟩
instance : Enters Tryz.prog 62 := ⟨by kernel_rfl⟩
instance : Enters Tryz.prog 63 := ⟨by kernel_rfl⟩
instance : Enters Tryz.prog 64 := ⟨by kernel_rfl⟩
instance : Enters Tryz.prog 65 := ⟨by kernel_rfl⟩
instance : Enters Tryz.prog 66 := ⟨by kernel_rfl⟩
instance : Enters Tryz.prog 67 := ⟨by kernel_rfl⟩
instance : Enters Tryz.prog 68 := ⟨by kernel_rfl⟩
instance : Enters Tryz.prog 69 := ⟨by kernel_rfl⟩
instance : Enters Tryz.prog 7 := ⟨by kernel_rfl⟩
instance : Enters Tryz.prog 70 := ⟨by kernel_rfl⟩
instance : Enters Tryz.prog 71 := ⟨by kernel_rfl⟩
instance : Enters Tryz.prog 72 := ⟨by kernel_rfl⟩
instance : Enters Tryz.prog 73 := ⟨by kernel_rfl⟩
instance : Enters Tryz.prog 74 := ⟨by kernel_rfl⟩
instance : Enters Tryz.prog 75 := ⟨by kernel_rfl⟩
instance : Enters Tryz.prog 76 := ⟨by kernel_rfl⟩
instance : Enters Tryz.prog 77 := ⟨by kernel_rfl⟩
instance : Enters Tryz.prog 78 := ⟨by kernel_rfl⟩
instance : Enters Tryz.prog 79 := ⟨by kernel_rfl⟩
instance : Enters Tryz.prog 8 := ⟨by kernel_rfl⟩
instance : Enters Tryz.prog 80 := ⟨by kernel_rfl⟩
instance : Enters Tryz.prog 81 := ⟨by kernel_rfl⟩
instance : Enters Tryz.prog 82 := ⟨by kernel_rfl⟩
instance : Enters Tryz.prog 83 := ⟨by kernel_rfl⟩
instance : Enters Tryz.prog 84 := ⟨by kernel_rfl⟩
instance : Enters Tryz.prog 85 := ⟨by kernel_rfl⟩
instance : Enters Tryz.prog 86 := ⟨by kernel_rfl⟩
instance : Enters Tryz.prog 87 := ⟨by kernel_rfl⟩
instance : Enters Tryz.prog 88 := ⟨by kernel_rfl⟩
instance : Enters Tryz.prog 89 := ⟨by kernel_rfl⟩
instance : Enters Tryz.prog 9 := ⟨by kernel_rfl⟩
instance : Enters Tryz.prog 90 := ⟨by kernel_rfl⟩
instance : Enters Tryz.prog 91 := ⟨by kernel_rfl⟩
instance : Enters Tryz.prog 92 := ⟨by kernel_rfl⟩
instance : Enters Tryz.prog 93 := ⟨by kernel_rfl⟩
instance : Enters Tryz.prog 94 := ⟨by kernel_rfl⟩
instance : Enters Tryz.prog 95 := ⟨by kernel_rfl⟩
instance : Enters Tryz.prog 96 := ⟨by kernel_rfl⟩
instance : Enters Tryz.prog 97 := ⟨by kernel_rfl⟩
instance : Enters Tryz.prog 98 := ⟨by kernel_rfl⟩
instance : Enters Tryz.prog 99 := ⟨by kernel_rfl⟩
instance : TyA Tryz.prog 122 2 := ⟨by kernel_rfl⟩
instance : TyA Tryz.prog 126 64 := ⟨by kernel_rfl⟩
instance : TyA Tryz.prog 132 1 := ⟨by kernel_rfl⟩
instance : TyA Tryz.prog 24 3 := ⟨by kernel_rfl⟩
instance : TyA Tryz.prog 39 3 := ⟨by kernel_rfl⟩
instance : TyA Tryz.prog 52 3 := ⟨by kernel_rfl⟩
instance : TyA Tryz.prog 66 2 := ⟨by kernel_rfl⟩
instance : TyA Tryz.prog 68 4 := ⟨by kernel_rfl⟩
instance : TyA Tryz.prog 76 5 := ⟨by kernel_rfl⟩
instance : TyA Tryz.prog 81 2 := ⟨by kernel_rfl⟩
instance : TyAr Tryz.prog 126 64 3 1 := ⟨by kernel_rfl⟩
instance : TyAr Tryz.prog 132 1 3 1 := ⟨by kernel_rfl⟩
instance : TyE Tryz.prog 110 81 2 16 ([.int .i64 0, .int .i64 0]) := ⟨by kernel_rfl⟩
instance : TyE Tryz.prog 139 141 1 4 ([.int .u32 0]) := ⟨by kernel_rfl⟩
instance : TyE Tryz.prog 22 26 1 24 ([.slice none 0 0]) := ⟨by kernel_rfl⟩
instance : TyE Tryz.prog 25 76 5 40 ([.int .i64 0, .int .i64 0, .int .i64 0, .int .i64 0, .int .i64 0]) := ⟨by kernel_rfl⟩
instance : TyE Tryz.prog 26 3 1 8 ([.int .i64 0]) := ⟨by kernel_rfl⟩
instance : TyE Tryz.prog 29 70 7 88 ([.int .i64 0, .int .i64 0, .int .i64 0, .bool false, .slice none 0 0, .bool false, .slice none 0 0]) := ⟨by kernel_rfl⟩
instance : TyE Tryz.prog 33 78 3 24 ([.int .i64 0, .int .i64 0, .int .i64 0]) := ⟨by kernel_rfl⟩
instance : TyE Tryz.prog 64 5 1 1 ([.int .u8 0]) := ⟨by kernel_rfl⟩
instance : TyF Tryz.prog 122 0 0 := ⟨by kernel_rfl⟩
instance : TyF Tryz.prog 122 1 1 := ⟨by kernel_rfl⟩
instance : TyF Tryz.prog 24 0 0 := ⟨by kernel_rfl⟩
instance : TyF Tryz.prog 24 1 1 := ⟨by kernel_rfl⟩
instance : TyF Tryz.prog 24 2 2 := ⟨by kernel_rfl⟩
instance : TyF Tryz.prog 39 0 0 := ⟨by kernel_rfl⟩
instance : TyF Tryz.prog 39 1 1 := ⟨by kernel_rfl⟩
instance : TyF Tryz.prog 39 2 2 := ⟨by kernel_rfl⟩
instance : TyF Tryz.prog 52 0 0 := ⟨by kernel_rfl⟩
instance : TyF Tryz.prog 52 1 1 := ⟨by kernel_rfl⟩
instance : TyF Tryz.prog 52 2 2 := ⟨by kernel_rfl⟩
instance : TyF Tryz.prog 66 0 0 := ⟨by kernel_rfl⟩
instance : TyF Tryz.prog 66 1 1 := ⟨by kernel_rfl⟩
instance : TyF Tryz.prog 68 0 0 := ⟨by kernel_rfl⟩
instance : TyF Tryz.prog 68 1 2 := ⟨by kernel_rfl⟩
instance : TyF Tryz.prog 70 0 0 := ⟨by kernel_rfl⟩
instance : TyF Tryz.prog 70 1 1 := ⟨by kernel_rfl⟩
instance : TyF Tryz.prog 70 2 2 := ⟨by kernel_rfl⟩
instance : TyF Tryz.prog 70 3 3 := ⟨by kernel_rfl⟩
instance : TyF Tryz.prog 76 0 0 := ⟨by kernel_rfl⟩
instance : TyF Tryz.prog 76 1 1 := ⟨by kernel_rfl⟩
instance : TyF Tryz.prog 76 2 2 := ⟨by kernel_rfl⟩
instance : TyF Tryz.prog 76 3 3 := ⟨by kernel_rfl⟩
instance : TyF Tryz.prog 76 4 4 := ⟨by kernel_rfl⟩
instance : TyF Tryz.prog 78 0 0 := ⟨by kernel_rfl⟩
instance : TyF Tryz.prog 78 1 1 := ⟨by kernel_rfl⟩
instance : TyF Tryz.prog 78 2 2 := ⟨by kernel_rfl⟩
instance : TyF Tryz.prog 81 0 0 := ⟨by kernel_rfl⟩
instance : TyF Tryz.prog 81 1 1 := ⟨by kernel_rfl⟩
instance : TyI Tryz.prog 109 .u64 := ⟨by kernel_rfl⟩
instance : TyI Tryz.prog 141 .u32 := ⟨by kernel_rfl⟩
instance : TyI Tryz.prog 170 .u64 := ⟨by kernel_rfl⟩
instance : TyI Tryz.prog 3 .i64 := ⟨by kernel_rfl⟩
instance : TyI Tryz.prog 5 .u8 := ⟨by kernel_rfl⟩
instance : TyI Tryz.prog 97 .u64 := ⟨by kernel_rfl⟩
instance : TyPl Tryz.prog 122 0 0 1 := ⟨by kernel_rfl⟩
instance : TyPl Tryz.prog 122 1 1 1 := ⟨by kernel_rfl⟩
instance : TyPl Tryz.prog 24 0 0 1 := ⟨by kernel_rfl⟩
instance : TyPl Tryz.prog 24 1 1 1 := ⟨by kernel_rfl⟩
instance : TyPl Tryz.prog 24 2 2 1 := ⟨by kernel_rfl⟩
instance : TyPl Tryz.prog 39 0 0 1 := ⟨by kernel_rfl⟩
instance : TyPl Tryz.prog 39 1 1 1 := ⟨by kernel_rfl⟩
instance : TyPl Tryz.prog 39 2 2 1 := ⟨by kernel_rfl⟩
instance : TyPl Tryz.prog 52 0 0 1 := ⟨by kernel_rfl⟩
instance : TyPl Tryz.prog 52 1 1 1 := ⟨by kernel_rfl⟩
instance : TyPl Tryz.prog 52 2 2 1 := ⟨by kernel_rfl⟩
instance : TyPl Tryz.prog 66 0 0 1 := ⟨by kernel_rfl⟩
instance : TyPl Tryz.prog 66 1 1 1 := ⟨by kernel_rfl⟩
instance : TyPl Tryz.prog 68 0 0 2 := ⟨by kernel_rfl⟩
instance : TyPl Tryz.prog 68 1 2 2 := ⟨by kernel_rfl⟩
instance : TyPl Tryz.prog 70 0 0 1 := ⟨by kernel_rfl⟩
instance : TyPl Tryz.prog 70 1 1 1 := ⟨by kernel_rfl⟩
instance : TyPl Tryz.prog 70 2 2 1 := ⟨by kernel_rfl⟩
instance : TyPl Tryz.prog 70 3 3 4 := ⟨by kernel_rfl⟩
instance : TyPl Tryz.prog 76 0 0 1 := ⟨by kernel_rfl⟩
instance : TyPl Tryz.prog 76 1 1 1 := ⟨by kernel_rfl⟩
instance : TyPl Tryz.prog 76 2 2 1 := ⟨by kernel_rfl⟩
instance : TyPl Tryz.prog 76 3 3 1 := ⟨by kernel_rfl⟩
instance : TyPl Tryz.prog 78 0 0 1 := ⟨by kernel_rfl⟩
instance : TyPl Tryz.prog 78 1 1 1 := ⟨by kernel_rfl⟩
instance : TyPl Tryz.prog 78 2 2 1 := ⟨by kernel_rfl⟩
instance : TyPl Tryz.prog 81 0 0 1 := ⟨by kernel_rfl⟩
instance : TyPl Tryz.prog 81 1 1 1 := ⟨by kernel_rfl⟩
instance : TyS Tryz.prog 141 := ⟨by kernel_rfl⟩
instance : TyS Tryz.prog 170 := ⟨by kernel_rfl⟩
instance : TyS Tryz.prog 22 := ⟨by kernel_rfl⟩
instance : TyS Tryz.prog 26 := ⟨by kernel_rfl⟩
instance : TyS Tryz.prog 3 := ⟨by kernel_rfl⟩
instance : TyS Tryz.prog 4 := ⟨by kernel_rfl⟩
instance : TyS Tryz.prog 5 := ⟨by kernel_rfl⟩
instance : TyS Tryz.prog 64 := ⟨by kernel_rfl⟩
instance : TyS Tryz.prog 97 := ⟨by kernel_rfl⟩
instance : TySl Tryz.prog 110 81 2 := ⟨by kernel_rfl⟩
instance : TySl Tryz.prog 139 141 1 := ⟨by kernel_rfl⟩
instance : TySl Tryz.prog 22 26 1 := ⟨by kernel_rfl⟩
instance : TySl Tryz.prog 25 76 5 := ⟨by kernel_rfl⟩
instance : TySl Tryz.prog 26 3 1 := ⟨by kernel_rfl⟩
instance : TySl Tryz.prog 29 70 7 := ⟨by kernel_rfl⟩
instance : TySl Tryz.prog 33 78 3 := ⟨by kernel_rfl⟩
instance : TySl Tryz.prog 64 5 1 := ⟨by kernel_rfl⟩
instance : TySt Tryz.prog 122 := ⟨by kernel_rfl⟩
instance : TySt Tryz.prog 24 := ⟨by kernel_rfl⟩
instance : TySt Tryz.prog 39 := ⟨by kernel_rfl⟩
instance : TySt Tryz.prog 52 := ⟨by kernel_rfl⟩
instance : TySt Tryz.prog 66 := ⟨by kernel_rfl⟩
instance : TySt Tryz.prog 68 := ⟨by kernel_rfl⟩
instance : TySt Tryz.prog 70 := ⟨by kernel_rfl⟩
instance : TySt Tryz.prog 76 := ⟨by kernel_rfl⟩
instance : TySt Tryz.prog 78 := ⟨by kernel_rfl⟩
instance : TySt Tryz.prog 81 := ⟨by kernel_rfl⟩
instance : TyZ Tryz.prog 122 ([.bool false, .int .u64 0]) := ⟨by kernel_rfl⟩
instance : TyZ Tryz.prog 126 (List.replicate 64 (.int .i64 0)) := ⟨by kernel_rfl⟩
instance : TyZ Tryz.prog 132 ([.int .i64 0]) := ⟨by kernel_rfl⟩
instance : TyZ Tryz.prog 170 ([.int .u64 0]) := ⟨by kernel_rfl⟩
instance : TyZ Tryz.prog 24 ([.int .i64 0, .int .i64 0, .slice none 0 0]) := ⟨by kernel_rfl⟩
instance : TyZ Tryz.prog 3 ([.int .i64 0]) := ⟨by kernel_rfl⟩
instance : TyZ Tryz.prog 39 ([.int .i64 0, .int .i64 0, .slice none 0 0]) := ⟨by kernel_rfl⟩
instance : TyZ Tryz.prog 52 ([.int .i64 0, .int .i64 0, .slice none 0 0]) := ⟨by kernel_rfl⟩
instance : TyZ Tryz.prog 66 ([.bool false, .slice none 0 0]) := ⟨by kernel_rfl⟩
instance : TyZ Tryz.prog 68 ([.bool false, .slice none 0 0, .bool false, .slice none 0 0]) := ⟨by kernel_rfl⟩
instance : TyZ Tryz.prog 70 ([.int .i64 0, .int .i64 0, .int .i64 0, .bool false, .slice none 0 0, .bool false, .slice none 0 0]) := ⟨by kernel_rfl⟩
instance : TyZ Tryz.prog 76 ([.int .i64 0, .int .i64 0, .int .i64 0, .int .i64 0, .int .i64 0]) := ⟨by kernel_rfl⟩
instance : TyZ Tryz.prog 78 ([.int .i64 0, .int .i64 0, .int .i64 0]) := ⟨by kernel_rfl⟩
instance : TyZ Tryz.prog 81 ([.int .i64 0, .int .i64 0]) := ⟨by kernel_rfl⟩
instance : Zs [.int .i64 0, .int .i64 0, .int .i64 0, .bool false, .slice none 0 0, .bool false, .slice none 0 0] 1 [.int .i64 0, .int .i64 0, .int .i64 0, .bool false, .slice none 0 0, .bool false, .slice none 0 0] := ⟨by kernel_rfl⟩
instance : Zs [.int .i64 0, .int .i64 0, .int .i64 0, .int .i64 0, .int .i64 0] 1 [.int .i64 0, .int .i64 0, .int .i64 0, .int .i64 0, .int .i64 0] := ⟨by kernel_rfl⟩
instance : Zs [.int .i64 0, .int .i64 0, .int .i64 0] 1 [.int .i64 0, .int .i64 0, .int .i64 0] := ⟨by kernel_rfl⟩
instance : Zs [.int .i64 0, .int .i64 0, .int .i64 0] 2 [.int .i64 0, .int .i64 0, .int .i64 0, .int .i64 0, .int .i64 0, .int .i64 0] := ⟨by kernel_rfl⟩
instance : Zs [.int .i64 0, .int .i64 0] 1 [.int .i64 0, .int .i64 0] := ⟨by kernel_rfl⟩
instance : Zs [.int .i64 0] 0 [] := ⟨by kernel_rfl⟩
instance : Zs [.int .i64 0] 1 [.int .i64 0] := ⟨by kernel_rfl⟩
instance : Zs [.int .i64 0] 2 [.int .i64 0, .int .i64 0] := ⟨by kernel_rfl⟩
instance : Zs [.int .i64 0] 3 [.int .i64 0, .int .i64 0, .int .i64 0] := ⟨by kernel_rfl⟩
instance : Zs [.int .i64 0] 4 [.int .i64 0, .int .i64 0, .int .i64 0, .int .i64 0] := ⟨by kernel_rfl⟩
instance : Zs [.int .u32 0] 1 [.int .u32 0] := ⟨by kernel_rfl⟩
instance : Zs [.int .u32 0] 2 [.int .u32 0, .int .u32 0] := ⟨by kernel_rfl⟩
instance : Zs [.slice none 0 0] 1 [.slice none 0 0] := ⟨by kernel_rfl⟩
end Go.Proofs.YtlaafmiejkebgaaGreat
namespace Go.Proofs.YtlaafmiejkebgaaGreat
open Go.RowKit
def zgd (fs : SFs) : Op → Option Value
  | .pick c x y => match ev fs c with
    | some (.bool true) => ev fs x
    | some (.bool false) => ev fs y
    | _ => none
  | op => zfa fs op
def zdc (ops : Array Oper) (fs : SFs) (o : Oper) : Option Bool :=
  match o.guard with
  | none => some true
  | some (j, want) => match (ops[j]?).bind (·.dst) with
    | some d => match look fs d with
      | some (.bool true) => some want
      | some (.bool false) => some (!want)
      | some (.tuple a) => bif a.toList.isEmpty then some false else none
      | _ => none
    | none => none
def zgi (n : Nat) (ops : Array Oper) (fs : SFs) (o : Oper) : Option SFs :=
  match o.dst with
  | none => none
  | some d => bif Nat.blt d n then
      match zdc ops fs o with
      | some true => match zgd fs o.op with
        | some v => some ((d, v) :: fs)
        | none => none
      | some false => some ((d, undef) :: fs)
      | none => none
    else none
def runP (n : Nat) (ops : Array Oper) : Nat → SFs → List Oper → Option (SFs × List Oper)
  | 0, fs, l => some (fs, l)
  | k + 1, fs, o :: l => match zgi n ops fs o with
    | some fs' => runP n ops k fs' l
    | none => none
  | _ + 1, _, [] => none
def runO (n : Nat) (ops : Array Oper) : Nat → SFs → Ord → Option (SFs × Ord)
  | 0, fs, r => some (fs, r)
  | k + 1, fs, .still i r => match ops[i]? with
    | some o => match zgi n ops fs o with
      | some fs' => runO n ops k fs' r
      | none => none
    | none => none
  | _ + 1, _, _ => none
theorem zal {a b : Bool} (h : a = true) : (a || b) = true := by rw [h]; rfl
theorem or_f {a b : Bool} (h : a = false) : b = (a || b) := by rw [h]; rfl
theorem zau {a b c : Bool} (h : a = false) (k : b = c) : (a || b) = c := by rw [h, k]; rfl
theorem zaZ {a b : Bool} (h : a = false) : (a && b) = false := by rw [h]; rfl
theorem zcp {a b : Bool} (h : a = true) : b = (a && b) := by rw [h]; rfl
theorem zcd {a b c : Bool} (h : a = true) (k : b = c) : (a && b) = c := by rw [h, k]; rfl
section
variable {Fe : Fence} [hFe : Calm Fe] {P : Program} {n : Nat} {B D : World} {M S0 : Nat → Prop} {Q : Exit → Act → World → Prop} {fs fs' : SFs} {hs : HS} {ops : Array Oper} {rest l l' : List Oper} {o : Oper} {v val sv : Value}
theorem Yv.bN (h : zgd fs o.op = some v) : Yv P n B M fs hs o v := by
  unfold zgd at h
  split at h
  · rename_i c x y e
    split at h
    · rename_i hc; exact Yv.bQ e hc rfl h
    · rename_i hc; exact Yv.bR e hc rfl h
    · cases h
  · exact Yv.as h
theorem zb5 {b : Bool} (h : zdc ops fs o = some b) : Wt n ops fs o b := by
  unfold zdc at h
  split at h
  · rename_i hg; cases h; exact Wt.none hg
  · rename_i j want hg
    split at h
    · rename_i d hd
      split at h
      · rename_i hl
        obtain rfl := Option.some.inj h
        cases want
        · exact Wt.not hg hd hl rfl
        · exact Wt.some hg hd hl rfl
      · rename_i hl
        obtain rfl := Option.some.inj h
        cases want
        · exact Wt.some hg hd hl rfl
        · exact Wt.not hg hd hl rfl
      · rename_i a hl
        cases ha : a.toList.isEmpty with
        | false => rw [ha] at h; cases h
        | true =>
          rw [ha] at h; cases h
          have : a = #[] := by apply Array.ext'; simpa using ha
          subst this
          exact Wt.undef hg hd hl
      · cases h
    · cases h
theorem zeR (h : zgi n ops fs o = some fs') : ∃ d v, o.dst = some d ∧ Nat.blt d n = true ∧ fs' = (d, v) :: fs ∧ ((zdc ops fs o = some true ∧ zgd fs o.op = some v) ∨ (zdc ops fs o = some false ∧ v = undef)) := by
  unfold zgi at h
  split at h
  · cases h
  · rename_i d hd
    cases hb : Nat.blt d n with
    | false => rw [hb] at h; cases h
    | true =>
      rw [hb] at h
      simp only [cond_true] at h
      split at h
      · rename_i hg
        split at h
        · rename_i v hv; cases h; exact ⟨d, v, hd, hb, rfl, .inl ⟨hg, hv⟩⟩
        · cases h
      · rename_i hg; cases h; exact ⟨d, undef, hd, hb, rfl, .inr ⟨hg, rfl⟩⟩
      · cases h
theorem TL.run : ∀ (k : Nat) {fs fs' : SFs} {l l' : List Oper}, runP n ops k fs l = some (fs', l') → TL Fe P n B D M ops Q l' fs' hs → TL Fe P n B D M ops Q l fs hs
  | 0, fs, fs', l, l', h, t => by simp only [runP, Option.some.injEq, Prod.mk.injEq] at h; rw [h.1, h.2]; exact t
  | k + 1, fs, fs', [], l', h, t => by simp [runP] at h
  | k + 1, fs, fs', o :: r, l', h, t => by
    simp only [runP] at h
    split at h
    · rename_i f1 h1
      obtain ⟨d, v, hd, hb, rfl, h2⟩ := zeR h1
      have ih := TL.run k h t
      rcases h2 with ⟨hg, hv⟩ | ⟨hg, rfl⟩
      · exact TL.yv (zb5 hg) hd hb (Yv.bN hv) ih
      · exact TL.off (zb5 hg) hd hb ih
    · cases h
theorem TS.run [hnp : NP Q] {hs0 : HS} : ∀ (k : Nat) {fs fs' : SFs} {r r' : Ord}, runO n ops k fs r = some (fs', r') → TS Fe P n B D M ops Q hs0 r' fs' hs → TS Fe P n B D M ops Q hs0 r fs hs
  | 0, fs, fs', r, r', h, t => by simp only [runO, Option.some.injEq, Prod.mk.injEq] at h; rw [h.1, h.2]; exact t
  | k + 1, fs, fs', .still i r, r', h, t => by
    simp only [runO] at h
    split at h
    · rename_i o ho
      split at h
      · rename_i f1 h1
        obtain ⟨d, v, hd, hb, rfl, h2⟩ := zeR h1
        have ih := TS.run k h t
        rcases h2 with ⟨hg, hv⟩ | ⟨hg, rfl⟩
        · exact TS.still ho (zb5 hg) hd hb (Yv.bN hv) ih
        · exact TS.bt ho (zb5 hg) hd hb ih
      · cases h
    · cases h
  | k + 1, fs, fs', .done, r', h, t => by simp [runO] at h
  | k + 1, fs, fs', .eff _ _, r', h, t => by simp [runO] at h
  | k + 1, fs, fs', .two _ _ _ _, r', h, t => by simp [runO] at h
  | k + 1, fs, fs', .any _ _, r', h, t => by simp [runO] at h
  | k + 1, fs, fs', .bar _ _, r', h, t => by simp [runO] at h
theorem TL.gs {d j : Nat} {want b : Bool} (hg : o.guard = some (j, want)) (hd : (ops[j]?).bind (·.dst) = some d) (hl : look fs d = some (.bool b)) (h1 : b = true → TL Fe P n B D M ops Q (o :: rest) ((d, .bool true) :: fs) hs) (h2 : b = false → TL Fe P n B D M ops Q (o :: rest) ((d, .bool false) :: fs) hs) : TL Fe P n B D M ops Q (o :: rest) fs hs := by
  cases b with
  | true => exact TL.aF (Sub.cons hl Sub.refl) (List.Sublist.refl _) (h1 rfl)
  | false => exact TL.aF (Sub.cons hl Sub.refl) (List.Sublist.refl _) (h2 rfl)
theorem TS.gs {hs0 : HS} {i d j : Nat} {k : Ord} {want b : Bool} (hi : ops[i]? = some o) (hg : o.guard = some (j, want)) (hd : (ops[j]?).bind (·.dst) = some d) (hl : look fs d = some (.bool b)) (h1 : b = true → TS Fe P n B D M ops Q hs0 (.still i k) ((d, .bool true) :: fs) hs) (h2 : b = false → TS Fe P n B D M ops Q hs0 (.still i k) ((d, .bool false) :: fs) hs) : TS Fe P n B D M ops Q hs0 (.still i k) fs hs := by
  cases b with
  | true => exact TS.aF (Sub.cons hl Sub.refl) (List.Perm.refl _) (h1 rfl)
  | false => exact TS.aF (Sub.cons hl Sub.refl) (List.Perm.refl _) (h2 rfl)
theorem TSo.gs {hs0 : HS} {i d j : Nat} {k : Ord} {want b : Bool} (hi : ops[i]? = some o) (hg : o.guard = some (j, want)) (hd : (ops[j]?).bind (·.dst) = some d) (hl : look fs d = some (.bool b)) (h1 : b = true → TSo Fe P n B D M ops Q hs0 i k ((d, .bool true) :: fs) hs) (h2 : b = false → TSo Fe P n B D M ops Q hs0 i k ((d, .bool false) :: fs) hs) : TSo Fe P n B D M ops Q hs0 i k fs hs := by
  cases b with
  | true => exact ⟨fun a w fuel listed x1 x2 x3 ha hw hw0 hm => (h1 rfl).out a w fuel listed x1 x2 x3 (ha.sub (Sub.cons hl Sub.refl)) hw hw0 hm⟩
  | false => exact ⟨fun a w fuel listed x1 x2 x3 ha hw hw0 hm => (h2 rfl).out a w fuel listed x1 x2 x3 (ha.sub (Sub.cons hl Sub.refl)) hw hw0 hm⟩
theorem Sub.c {gs : SFs} {t : Nat} {v : Value} (k : Sub fs gs) (h : look fs t = some v := by rfl) : Sub fs ((t, v) :: gs) := Sub.cons h k
theorem Sub.i {gs : SFs} {t : Nat} {q : IntKind} {a b : Int} (e : a = b) (k : Sub fs gs) (h : look fs t = some (.int q a) := by rfl) : Sub fs ((t, .int q b) :: gs) := Sub.consI h e k
theorem Sub.b {gs : SFs} {t : Nat} {a b : Bool} (e : a = b) (k : Sub fs gs) (h : look fs t = some (.bool a) := by rfl) : Sub fs ((t, .bool b) :: gs) := Sub.consB h e k
theorem T.sr {F : Fence} {l : List Oper} {id : Nat} {y : Code} (h : TL F P n B D M l.toArray (Exit.then (y.wpIn F 0 P Q) Q) l fs hs) : T F P n B D M (.seq (.region id l.toArray false) y) Q fs hs := T.seq (T.region h)
theorem TL.ns {F : Fence} {y : Code} (h : T F P n B D M y Q fs hs) : TL F P n B D M ops (Exit.then (y.wpIn F 0 P Q) Q) [] fs hs := TL.nil (K.seq h)
theorem TL.nx {F : Fence} {l : List Oper} {id : Nat} {y : Code} (h : TL F P n B D M l.toArray (Exit.then (y.wpIn F 0 P Q) Q) l fs hs) : TL F P n B D M ops (Exit.then ((Code.seq (.region id l.toArray false) y).wpIn F 0 P Q) Q) [] fs hs := TL.ns (T.sr h)
theorem TL.y {d : Nat} (h : Yv P n B M fs hs o v) (k : TL Fe P n B D M ops Q rest ((d, v) :: fs) hs) (hw : zdc ops fs o = some true := by rfl) (hd : o.dst = some d := by rfl) (hb : Nat.blt d n = true := by rfl) : TL Fe P n B D M ops Q (o :: rest) fs hs := TL.yv (zb5 hw) hd hb h k
theorem TL.e {d : Nat} {Φ : Value → HS → Prop} (h : Ew P n B M fs hs o Φ) (k : ∀ v hs', Φ v hs' → TL Fe P n B D M ops Q rest ((d, v) :: fs) hs') (hw : zdc ops fs o = some true := by rfl) (hd : o.dst = some d := by rfl) (hb : Nat.blt d n = true := by rfl) : TL Fe P n B D M ops Q (o :: rest) fs hs := TL.ew (zb5 hw) hd hb h k
theorem TL.e0 {Φ : Value → HS → Prop} (h : Ew P n B M fs hs o Φ) (k : ∀ v hs', Φ v hs' → TL Fe P n B D M ops Q rest fs hs') (hw : zdc ops fs o = some true := by rfl) (hd : o.dst = none := by rfl) : TL Fe P n B D M ops Q (o :: rest) fs hs := TL.bY (zb5 hw) hd h k
theorem TS.y [hnp : NP Q] {hs0 : HS} {i : Nat} {k : Ord} {d : Nat} (hi : ops[i]? = some o) (hy : Yv P n B M fs hs0 o v) (h : TS Fe P n B D M ops Q hs0 k ((d, v) :: fs) hs) (hw : zdc ops fs o = some true := by rfl) (hd : o.dst = some d := by rfl) (hb : Nat.blt d n = true := by rfl) : TS Fe P n B D M ops Q hs0 (.still i k) fs hs := TS.still hi (zb5 hw) hd hb hy h
end
def Cb (w : World) (g : Nat) : Prop := ∃ cs t p, w.heap[g]? = some (.cells cs t p)
theorem Cb.lt {w : World} {g : Nat} (h : Cb w g) : g < w.heap.size := by
  obtain ⟨_, _, _, e⟩ := h; exact (Array.getElem?_eq_some_iff.1 e).1
structure Frz where
  S : Nat → Prop
  w : World
  c : ∀ g, S g → Cb w g
def Frz.Le (F G : Frz) : Prop := ∀ g, F.S g → G.S g ∧ G.w.heap[g]? = F.w.heap[g]?
def Frz.At (F : Frz) (w : World) : Prop := ∀ g, F.S g → w.heap[g]? = F.w.heap[g]?
theorem Frz.Le.refl (F : Frz) : F.Le F := fun _ h => ⟨h, rfl⟩
theorem Frz.Le.trans {F G H : Frz} (h : F.Le G) (k : G.Le H) : F.Le H := fun g hg => ⟨(k g (h g hg).1).1, ((k g (h g hg).1).2).trans (h g hg).2⟩
theorem Frz.At.le {F G : Frz} {w : World} (k : G.At w) (h : F.Le G) : F.At w := fun g hg => (k g (h g hg).1).trans (h g hg).2
theorem Frz.At.cb {F : Frz} {w : World} (h : F.At w) {g : Nat} (hg : F.S g) : Cb w g := by
  obtain ⟨a, b, c, e⟩ := F.c g hg; exact ⟨a, b, c, (h g hg).trans e⟩
theorem Frz.At.below {F : Frz} {w w' : World} (h : F.At w) (hb : Below w.heap.size w w') : F.At w' := fun g hg => (hb.block g (h.cb hg).lt).trans (h g hg)
def Frz.all (w : World) : Frz := ⟨Cb w, w, fun _ h => h⟩
theorem Frz.all_at (w : World) : (Frz.all w).At w := fun _ _ => rfl
def Frz.none (w : World) : Frz := ⟨fun _ => False, w, fun _ h => h.elim⟩
structure Fx (F : Frz) (w : World) (G : Frz) (w' : World) : Prop where
  le : F.Le G
  at_ : G.At w'
  new : ∀ g, G.S g → F.S g ∨ w.heap.size ≤ g
  bel : Below w.heap.size w w'
theorem Fx.refl {F : Frz} {w w' : World} (h : F.At w) (hb : Below w.heap.size w w') : Fx F w F w' := ⟨.refl F, h.below hb, fun _ h => .inl h, hb⟩
structure FzB (B : World) (M S0 : Nat → Prop) extends Frz where
  base : ∀ g, S g → g < B.heap.size → ¬ M g → w.heap[g]? = B.heap[g]?
  new : ∀ g, S g → S0 g ∨ M g ∨ B.heap.size ≤ g
@[irreducible] def Ent.fr {B : World} {M S0 : Nat → Prop} (F : FzB B M S0) : Ent where
  fp g := F.S g ∧ (M g ∨ B.heap.size ≤ g)
  ok w := ∀ g, F.S g ∧ (M g ∨ B.heap.size ≤ g) → w.heap[g]? = F.w.heap[g]?
  loc h k := fun g hg => (h g hg).trans (k g hg)
  lt h g hg := by
    obtain ⟨_, _, _, e⟩ := F.c g hg.1; exact (Array.getElem?_eq_some_iff.1 ((h g hg).trans e)).1
  nd h g hg c := by
    obtain ⟨_, _, _, e⟩ := F.c g hg.1; rw [(h g hg).trans e]; simp
section
variable {B w w' : World} {M S0 : Nat → Prop} {hs hs' : HS} {F G : FzB B M S0}
theorem Ent.fr_fp {k : Nat} : (Ent.fr F).fp k ↔ F.S k ∧ (M k ∨ B.heap.size ≤ k) := by unfold Ent.fr; exact Iff.rfl
theorem Ent.fr_ok : (Ent.fr F).ok w ↔ ∀ g, F.S g ∧ (M g ∨ B.heap.size ≤ g) → w.heap[g]? = F.w.heap[g]? := by unfold Ent.fr; exact Iff.rfl
theorem Hp.fr {i : Nat} (hw : Hp B M hs w) (hi : hs[i]? = some (.fr F)) : F.toFrz.At w := fun g hg => by
  by_cases h : M g ∨ B.heap.size ≤ g
  · exact Ent.fr_ok.1 (hw.get hi) g ⟨hg, h⟩
  · have h1 : g < B.heap.size := by
      rcases Nat.lt_or_ge g B.heap.size with h2 | h2
      · exact h2
      · exact absurd (.inr h2) h
    have h2 : ¬ M g := fun k => h (.inl k); rw [hw.base g h1 h2, F.base g hg h1 h2]
def Frz.inB {F : Frz} {w : World} (hF : F.At w) (M : Nat → Prop) : FzB w M F.S := ⟨F, fun g hg _ _ => (hF g hg).symm, fun g hg => .inl hg⟩
theorem Hp.startF {F : Frz} {w : World} (hF : F.At w) : Hp w (fun _ => False) [.fr (Frz.inB hF (fun _ => False))] w := by
  have hno : ∀ g, ¬ (Ent.fr (Frz.inB hF (fun _ => False))).fp g := fun g hg => by
    have h := Ent.fr_fp.1 hg; rcases h.2 with h2 | h2
    · exact h2
    · exact absurd (hF.cb h.1).lt (by omega)
  exact ⟨rfl, rfl, rfl, Nat.le_refl _, fun _ _ _ => rfl, fun e he => by simp at he; subst he; exact Ent.fr_ok.2 (fun g hg => absurd (Ent.fr_fp.2 hg) (hno g)), fun e he g hg => by simp at he; subst he; exact absurd hg (hno g), List.pairwise_singleton _ _⟩
theorem Hp.startFM {F : Frz} {w : World} {es : HS} (hF : F.At w) (h : Hp w (fps es) es w) (hM : ∀ g, fps es g → ¬ F.S g) : Hp w (fps es) (es ++ [.fr (Frz.inB hF (fps es))]) w := by
  have hno : ∀ g, ¬ (Ent.fr (Frz.inB hF (fps es))).fp g := fun g hg => by
    have h := Ent.fr_fp.1 hg; rcases h.2 with h2 | h2
    · exact hM g h2 h.1
    · exact absurd (hF.cb h.1).lt (by omega)
  refine ⟨rfl, rfl, rfl, Nat.le_refl _, fun _ _ _ => rfl, fun e he => ?_, fun e he g hg => ?_, ?_⟩
  · rcases List.mem_append.1 he with he | he
    · exact h.own e he
    · simp at he; subst he; exact Ent.fr_ok.2 (fun g hg => absurd (Ent.fr_fp.2 hg) (hno g))
  · rcases List.mem_append.1 he with he | he
    · exact h.new e he g hg
    · simp at he; subst he; exact absurd hg (hno g)
  · exact List.pairwise_append.2 ⟨h.apart, List.pairwise_singleton _ _, fun e he f hf g hg hfg => by simp at hf; subst hf; exact hno g hfg⟩
theorem Hp.frLe {i : Nat} (hw : Hp B M hs w) (hi : hs[i]? = some (.fr G)) (h : F.toFrz.Le G.toFrz) : Hp B M (hs.set i (.fr F)) w :=
  hw.updAt (w' := w) hi (Only.refl _ _) (S := fun _ => False) (fun _ _ h => h.elim) (Ent.fr_ok.2 (fun g hg => ((hw.fr hi).le h) g hg.1)) (fun g hg => .inl (Ent.fr_fp.2 ⟨(h g (Ent.fr_fp.1 hg).1).1, (Ent.fr_fp.1 hg).2⟩))
end
theorem zag {F : Frz} {w : World} (hF : F.At w) : ∃ (S0 : Nat → Prop) (G : FzB w (fun _ => False) S0), G.toFrz = F ∧ (∀ g, S0 g → F.S g) ∧ Hp w (fun _ => False) [.fr G] w := ⟨F.S, Frz.inB hF _, rfl, fun _ h => h, Hp.startF hF⟩
theorem Fx.of {F : Frz} {w w' : World} {S0 : Nat → Prop} {hs : HS} {i : Nat} {G : FzB w (fun _ => False) S0} (hw : Hp w (fun _ => False) hs w') (hi : hs[i]? = some (.fr G)) (hS : ∀ g, S0 g → F.S g) (hle : F.Le G.toFrz) : Fx F w G.toFrz w' :=
  ⟨hle, hw.fr hi, fun g hg => (G.new g hg).imp (hS g) (fun h => h.elim (fun h => h.elim) id), hw.isBelow⟩
def SlC (F : Frz) (v : Value) (size : Nat) (cs : List (List Value)) : Prop :=
  ∃ (A : Option Addr) (cap : Nat), v = .slice A cs.length cap ∧ cs.length ≤ cap ∧ cap ≤ 9223372036854775807 ∧ (∀ c ∈ cs, c.length = size) ∧ (0 < cs.length → ∃ g off, A = some ⟨g, off, none⟩ ∧ F.S g ∧ ∀ i, i < cs.length → Cs F.w g (off + i * size) (nth cs i))
theorem zd9 {w w' : World} {g p : Nat} (h : w'.heap[g]? = w.heap[g]?) : w'.cell? ⟨g, p, none⟩ = w.cell? ⟨g, p, none⟩ := by
  unfold World.cell?; simp only [h]
theorem Cs.at {F : Frz} {w : World} (h : F.At w) {g p : Nat} {l : List Value} (hg : F.S g) (hc : Cs F.w g p l) : Cs w g p l := fun j hj => by
  rw [zd9 (h g hg)]; exact hc j hj
theorem SlC.mono {F G : Frz} {v : Value} {size : Nat} {cs : List (List Value)} (h : SlC F v size cs) (hle : F.Le G) : SlC G v size cs := by
  obtain ⟨A, cap, h1, h2, h3, h4, h5⟩ := h; refine ⟨A, cap, h1, h2, h3, h4, fun hl => ?_⟩; obtain ⟨g, off, h6, h7, h8⟩ := h5 hl; exact ⟨g, off, h6, (hle g h7).1, fun i hi j hj => by rw [zd9 (hle g h7).2]; exact h8 i hi j hj⟩
theorem SlC.max {F : Frz} {v : Value} {size : Nat} {cs : List (List Value)} (h : SlC F v size cs) : cs.length ≤ 9223372036854775807 := by
  obtain ⟨A, cap, h1, h2, h3, _⟩ := h; omega
theorem SlC.nil (F : Frz) (size : Nat) : SlC F (.slice none 0 0) size [] := ⟨none, 0, rfl, Nat.le_refl _, by omega, (fun _ h => by cases h), (fun h => absurd h (Nat.lt_irrefl 0))⟩
def zdp (v : Value) (k : Nat) : Value := match v with
  | .slice (some a) _ _ => .pointer (some (a.add k))
  | _ => .pointer none
theorem zbL {g off n cap k : Nat} : zdp (.slice (some ⟨g, off, none⟩) n cap) k = .pointer (some ⟨g, off + k, none⟩) := by
  show Value.pointer (some (Addr.add ⟨g, off, none⟩ k)) = _
  rw [zcB]
theorem SlC.addr {F : Frz} {v : Value} {size : Nat} {cs : List (List Value)} (h : SlC F v size cs) (hl : 0 < cs.length) : ∃ g off cap, v = .slice (some ⟨g, off, none⟩) cs.length cap ∧ F.S g ∧ ∀ i, i < cs.length → Cs F.w g (off + i * size) (nth cs i) := by
  obtain ⟨A, cap, h1, h2, h3, h4, h5⟩ := h; obtain ⟨g, off, rfl, h7, h8⟩ := h5 hl; exact ⟨g, off, cap, h1, h7, h8⟩
theorem SlC.row {F : Frz} {v : Value} {size : Nat} {cs : List (List Value)} (h : SlC F v size cs) {i : Nat} (hi : i < cs.length) : (nth cs i).length = size := by
  obtain ⟨A, cap, h1, h2, h3, h4, h5⟩ := h; rw [zbb hi]; exact h4 _ (List.getElem_mem hi)
section
variable {Fe : Fence} [hFe : Calm Fe] {P : Program} {n : Nat} {B D : World} {M S0 : Nat → Prop} {Q : Exit → Act → World → Prop} {fs : SFs} {hs : HS} {ops : Array Oper} {rest : List Oper} {o : Oper} {v val : Value}
theorem Yv.am {F : Frz} {t e k size m : Nat} {cs : List (List Value)} {x : Operand} [hT : TySl P t e k] (ho : o.op = .call { callee := .builtin .len, args := #[x], argTypes := #[t] }) (hx : ev fs x = some v) (h : SlC F v size cs) (hm : cs.length = m) : Yv P n B M fs hs o (.int .i64 (m : Int)) := by
  obtain ⟨A, cap, h1, _⟩ := h; subst h1 hm; exact Yv.be ho hx
theorem Yv.an {F : Frz} {t e k i m : Nat} {z : Int} {q : IntKind} {cs : List (List Value)} {x y : Operand} [hT : TySl P t e k] (ho : o.op = .indexAddr t x y) (hx : ev fs x = some v) (hy : ev fs y = some (.int q z)) (h : SlC F v k cs) (hm : cs.length = m) (hz : z = (i : Int)) (hi : i < m) : Yv P n B M fs hs o (zdp v (i * k)) := by
  subst hm; obtain ⟨g, off, cap, rfl, _⟩ := h.addr (by omega); rw [zbL]; exact Yv.bi ho hx hy hz hi
theorem Yv.aP {F : Frz} {s f off p k m : Nat} {cs : List (List Value)} {x : Operand} [hT : TyF P s f off] (ho : o.op = .fieldAddr s x f) (hx : ev fs x = some (zdp v p)) (h : SlC F v k cs) (hm : cs.length = m) (hi : 0 < m) : Yv P n B M fs hs o (zdp v (p + off)) := by
  subst hm; obtain ⟨g, o', cap, rfl, _⟩ := h.addr (by omega); rw [zbL] at hx ⊢; exact (Yv.fieldAddr ho hx).eq (by rw [Nat.add_assoc])
theorem Yv.aI (ix : Nat) {F : FzB B M S0} {t : TypeId} [hT : TyS P t] {k i j p m : Nat} {cs : List (List Value)} {x : Operand} (ho : o.op = .load t x) (hx : ev fs x = some (zdp v p)) (hF : hs[ix]? = some (.fr F)) (h : SlC F.toFrz v k cs) (hm : cs.length = m) (hi : i < m) (hp : p = i * k + j) (hv : (nth cs i)[j]? = some val) : Yv P n B M fs hs o val := by
  subst hm hp; obtain ⟨g, off, cap, rfl, hg, hc⟩ := h.addr (by omega); rw [zbL] at hx; intro a w ha hw; refine zdX ho (ha.ev hx) ?_; have := Cs.at (hw.fr hF) hg (hc i hi) j (List.getElem?_eq_some_iff.1 hv).1; rw [show off + (i * k + j) = off + i * k + j by omega, this, hv]
theorem Yv.bg (ix : Nat) {F : FzB B M S0} {t : TypeId} {q : Nat} [hT : TyA P t q] {k i j p m : Nat} {cs : List (List Value)} {l : List Value} {x : Operand} (ho : o.op = .load t x) (hx : ev fs x = some (zdp v p)) (hF : hs[ix]? = some (.fr F)) (h : SlC F.toFrz v k cs) (hm : cs.length = m) (hi : i < m) (hp : p = i * k + j) (hv : ((nth cs i).drop j).take q = l) (hl : l.length = q) : Yv P n B M fs hs o (.agg l.toArray) := by
  subst hm hp; obtain ⟨g, off, cap, rfl, hg, hc⟩ := h.addr (by omega); rw [zbL] at hx; intro a w ha hw; refine zdg ho (ha.ev hx) (fun b hb => ?_) hl
  have hlen : j + b < (nth cs i).length := by
    have := congrArg List.length hv; simp at this; omega
  have := Cs.at (hw.fr hF) hg (hc i hi) (j + b) hlen; rw [show off + (i * k + j) + b = off + i * k + (j + b) by omega, this, ← hv, List.getElem?_take_of_lt (by omega), List.getElem?_drop]
def SlK (F : Frz) (v : Value) (size n : Nat) (l : List Value) : Prop :=
  l.length = n * size ∧ ∃ (A : Option Addr) (cap : Nat), v = .slice A n cap ∧ n ≤ cap ∧ cap ≤ 9223372036854775807 ∧ (0 < n → ∃ g, A = some ⟨g, 0, none⟩ ∧ F.S g ∧ Cs F.w g 0 l)
def FzB.addB {w : World} (F : FzB B M S0) (hF : F.toFrz.At w) {g : Nat} (hg : Cb w g) (hb : M g ∨ B.heap.size ≤ g) : FzB B M S0 where
  S k := F.S k ∨ k = g
  w := w
  c k hk := by rcases hk with h | rfl; exact hF.cb h; exact hg
  base k hk h1 h2 := by
    rcases hk with h | rfl
    · rw [hF k h, F.base k h h1 h2]
    · rcases hb with h | h
      · exact absurd h h2
      · omega
  new k hk := by
    rcases hk with h | rfl
    · exact F.new k h
    · exact .inr hb
theorem FzB.addB_le {w : World} (F : FzB B M S0) (hF : F.toFrz.At w) {g : Nat} (hg : Cb w g) (hb : M g ∨ B.heap.size ≤ g) : F.toFrz.Le (F.addB hF hg hb).toFrz := fun k hk => ⟨.inl hk, hF k hk⟩
theorem zd4 {i j : Nat} {a b a' : Ent} (hij : i ≠ j) (hi : hs[i]? = some a) (hj : hs[j]? = some b) : ∃ r : HS, hs.Perm ([a, b] ++ r) ∧ ((hs.set i a').eraseIdx j).Perm ([a'] ++ r) := by
  have h1 := zdH hi; (have hj' : (hs.set i a')[j]? = some b := by rw [List.getElem?_set_ne hij]; exact hj); have h2 := zdH hj'; have h3 := zeD (e' := a') hi
  -- b lies in the rest
  have hb : b ∈ hs.eraseIdx i := by
    rw [List.mem_eraseIdx_iff_getElem?]; exact ⟨j, fun e => hij e.symm, hj⟩
  obtain ⟨r1, r2, hr⟩ := List.append_of_mem hb; refine ⟨r1 ++ r2, ?_, ?_⟩
  · refine h1.trans ?_; rw [hr]; exact (List.perm_middle.cons a)
  · have h4 : (b :: (hs.set i a').eraseIdx j).Perm (b :: ([a'] ++ (r1 ++ r2))) := by
      refine h2.symm.trans (h3.symm.trans ?_); rw [hr]; exact (List.perm_middle.cons a').trans (List.Perm.swap _ _ _)
    exact (List.perm_cons b).1 h4
theorem Hp.freezeB {w : World} {i j : Nat} {F : FzB B M S0} {e : Ent} (hw : Hp B M hs w) (hij : i ≠ j) (hi : hs[i]? = some (.fr F)) (hj : hs[j]? = some e) {g : Nat} (hfp : e.fp g) (hg : Cb w g) :
    ∃ G : FzB B M S0, F.toFrz.Le G.toFrz ∧ G.S g ∧ G.w = w ∧ Hp B M ((hs.set i (.fr G)).eraseIdx j) w := by
  have hF := hw.fr hi; have hb := hw.new e (List.mem_of_getElem? hj) g hfp; refine ⟨F.addB hF hg hb, F.addB_le hF hg hb, .inr rfl, rfl, ?_⟩; obtain ⟨r, h1, h2⟩ := zd4 (a' := .fr (F.addB hF hg hb)) hij hi hj; refine Hp.perm ?_ h2.symm; refine Hp.repl (hw.perm h1) ?_ ?_ (List.pairwise_singleton _ _)
  · intro x hx; simp at hx; subst hx; exact Ent.fr_ok.2 (fun k hk => rfl)
  · intro x hx k hk; simp at hx; subst hx; have h := Ent.fr_fp.1 hk; rcases h.1 with h3 | h3
    · exact ⟨_, by simp, Ent.fr_fp.2 ⟨h3, h.2⟩⟩
    · subst h3; exact ⟨e, by simp, hfp⟩
theorem Hp.drop {w : World} (hw : Hp B M hs w) (j : Nat) : Hp B M (hs.eraseIdx j) w := hw.sub (List.eraseIdx_sublist _ _)
theorem zff {α : Type} {l : List α} {i : Nat} {a : α} (h : l[i]? = some a) : l.set i a = l := by
  obtain ⟨hi, rfl⟩ := List.getElem?_eq_some_iff.1 h; exact List.set_getElem_self hi
theorem Hp.freezeS {w : World} {i j : Nat} {F : FzB B M S0} {e : TypeId} {size k : Nat} {l : List Value} (hw : Hp B M hs w) (hij : i ≠ j) (hi : hs[i]? = some (.fr F)) (hj : hs[j]? = some (.sl v e size k l)) :
    ∃ G : FzB B M S0, (F.toFrz.Le G.toFrz ∧ SlK G.toFrz v size k l) ∧ Hp B M ((hs.set i (.fr G)).eraseIdx j) w := by
  have ho := Ent.sl_ok.1 (hw.get hj); rcases ho.2 with ⟨rfl, h0⟩ | ⟨g, cap, cur, rfl, hb, hg, hnc, hcm, hcs, htake⟩
  · subst h0; exact ⟨F, ⟨.refl _, ho.1, none, 0, rfl, Nat.le_refl _, by omega, fun h => by omega⟩, by rw [zff hi]; exact hw.drop j⟩
  · obtain ⟨G, h1, h2, h3, h4⟩ := hw.freezeB hij hi hj (g := g) (Ent.sl_fp.2 rfl) ⟨_, _, _, hg⟩; refine ⟨G, ⟨h1, ho.1, _, cap, rfl, hnc, by unfold maxLen at hcm; omega, fun _ => ⟨g, rfl, h2, fun q hq => ?_⟩⟩, h4⟩; rw [h3, Nat.zero_add, World.ownsRow.cellAt ho q (by rw [← ho.1]; exact hq)]
theorem Hp.freezeR {w : World} {i j : Nat} {F : FzB B M S0} {e : TypeId} {g : Nat} {l : List Value} (hw : Hp B M hs w) (hij : i ≠ j) (hi : hs[i]? = some (.fr F)) (hj : hs[j]? = some (.row g e l)) :
    ∃ G : FzB B M S0, (F.toFrz.Le G.toFrz ∧ G.S g ∧ Cs G.w g 0 l) ∧ Hp B M ((hs.set i (.fr G)).eraseIdx j) w := by
  have ho := Ent.row_ok.1 (hw.get hj); obtain ⟨G, h1, h2, h3, h4⟩ := hw.freezeB hij hi hj (g := g) (Ent.row_fp.2 rfl) ⟨_, _, _, ho⟩; exact ⟨G, ⟨h1, h2, fun q hq => by rw [h3, Nat.zero_add, zde ho]⟩, h4⟩
theorem SlK.lit {F : Frz} {g k c size : Nat} {l : List Value} (h : F.S g ∧ Cs F.w g 0 l) (hl : l.length = k * size) (hc : k ≤ c) (hm : c ≤ 9223372036854775807) : SlK F (.slice (some ⟨g, 0, none⟩) k c) size k l := ⟨hl, _, c, rfl, hc, hm, fun _ => ⟨g, rfl, h.1, h.2⟩⟩
theorem zer {α β : Type} [Inhabited α] [Inhabited β] {f : α → β} {xs : List α} {i : Nat} (h : i < xs.length) : nth (xs.map f) i = f (nth xs i) := by
  rw [zbb (by simpa using h), zbb h, List.getElem_map]
theorem zd3 {size : Nat} : ∀ (cs : List (List Value)), (∀ c ∈ cs, c.length = size) → ∀ i, i < cs.length → ∀ j, j < size → (cs.flatten)[i * size + j]? = (nth cs i)[j]?
  | c :: r, h, 0, _, j, hj => by
    have := h c (by simp); simp only [List.flatten_cons, Nat.zero_mul, Nat.zero_add]; rw [List.getElem?_append_left (by omega)]; rfl
  | c :: r, h, i + 1, hi, j, hj => by
    have hc := h c (by simp); simp only [List.flatten_cons]; rw [List.getElem?_append_right (by rw [hc, Nat.add_mul]; omega), hc]; (have e : (i + 1) * size + j - size = i * size + j := by rw [Nat.add_mul]; omega); rw [e, zd3 r (fun c' h' => h c' (by simp [h'])) i (by simpa using hi) j hj]; simp [nth]
def OwnD {α : Type} [Inhabited α] (rep : Frz → List Value → α → Prop) (F : Frz) (size : Nat) (cs : List (List Value)) (xs : List α) : Prop := cs.length = xs.length ∧ (∀ c ∈ cs, c.length = size) ∧ ∀ i, i < xs.length → rep F (nth cs i) (nth xs i)
def SlD {α : Type} [Inhabited α] (rep : Frz → List Value → α → Prop) (F : Frz) (v : Value) (size : Nat) (cs : List (List Value)) (xs : List α) : Prop := SlC F v size cs ∧ cs.length = xs.length ∧ ∀ i, i < xs.length → rep F (nth cs i) (nth xs i)
theorem SlD.mono {α : Type} [Inhabited α] {rep : Frz → List Value → α → Prop} (hm : ∀ F G c x, F.Le G → rep F c x → rep G c x) {F G : Frz} {size : Nat} {cs : List (List Value)} {xs : List α} (h : SlD rep F v size cs xs) (hle : F.Le G) : SlD rep G v size cs xs := ⟨h.1.mono hle, h.2.1, fun i hi => hm _ _ _ _ hle (h.2.2 i hi)⟩
theorem OwnD.mono {α : Type} [Inhabited α] {rep : Frz → List Value → α → Prop} (hm : ∀ F G c x, F.Le G → rep F c x → rep G c x) {F G : Frz} {size : Nat} {cs : List (List Value)} {xs : List α} (h : OwnD rep F size cs xs) (hle : F.Le G) : OwnD rep G size cs xs := ⟨h.1, h.2.1, fun i hi => hm _ _ _ _ hle (h.2.2 i hi)⟩
theorem OwnD.nil {α : Type} [Inhabited α] (rep : Frz → List Value → α → Prop) (F : Frz) (size : Nat) : OwnD rep F size [] [] := ⟨rfl, (fun _ h => by cases h), fun i hi => absurd hi (Nat.not_lt_zero i)⟩
theorem zdi {α : Type} [Inhabited α] {xs ys : List α} {i : Nat} (h : i < xs.length) : nth (xs ++ ys) i = nth xs i := by
  rw [zbb (by simp; omega), zbb h, List.getElem_append_left h]
theorem zcV {α : Type} [Inhabited α] {xs : List α} {y : α} {i : Nat} (h : i = xs.length) : nth (xs ++ [y]) i = y := by
  subst h; simp [nth]
theorem OwnD.snoc {α : Type} [Inhabited α] {rep : Frz → List Value → α → Prop} {F : Frz} {size : Nat} {cs : List (List Value)} {xs : List α} {c : List Value} {x : α} (h : OwnD rep F size cs xs) (hc : rep F c x) (hl : c.length = size) : OwnD rep F size (cs ++ [c]) (xs ++ [x]) := by
  refine ⟨by simp [h.1], fun d hd => ?_, fun i hi => ?_⟩
  · rcases List.mem_append.1 hd with hd | hd
    · exact h.2.1 d hd
    · simp at hd; subst hd; exact hl
  · simp at hi; rcases Nat.lt_or_ge i xs.length with h1 | h1
    · rw [zdi h1, zdi (by rw [h.1]; exact h1)]; exact h.2.2 i h1
    · have h2 := h.1; rw [zcV (show i = cs.length by omega), zcV (show i = xs.length by omega)]; exact hc
theorem SlK.toC {F : Frz} {size k : Nat} {l : List Value} {cs : List (List Value)} (h : SlK F v size k l) (hl : l = cs.flatten) (hk : k = cs.length) (hs : ∀ c ∈ cs, c.length = size) : SlC F v size cs := by
  obtain ⟨h1, A, cap, h2, h3, h4, h5⟩ := h; subst hk hl; refine ⟨A, cap, h2, h3, h4, hs, fun hp => ?_⟩; obtain ⟨g, hA, hg, hc⟩ := h5 hp; refine ⟨g, 0, hA, hg, fun i hi j hj => ?_⟩; (have hrow : (nth cs i).length = size := by rw [zbb hi]; exact hs _ (List.getElem_mem hi))
  have hlt : i * size + j < cs.flatten.length := by
    rw [h1]; have : (i + 1) * size ≤ cs.length * size := Nat.mul_le_mul_right _ hi; rw [Nat.add_mul] at this; omega
  have := hc (i * size + j) hlt; rw [Nat.zero_add] at this ⊢; rw [this, zd3 cs hs i hi j (by omega)]
theorem SlK.toF {α : Type} {F : Frz} {size k : Nat} {enc : α → List Value} {xs : List α} (h : SlK F v size k (xs.flatMap enc)) (hk : k = xs.length) (he : ∀ x, (enc x).length = size) : SlC F v size (xs.map enc) :=
  h.toC (List.flatMap_def ..) (by simpa using hk) (fun c hc => by obtain ⟨x, _, rfl⟩ := List.mem_map.1 hc; exact he x)
theorem SlK.toD {α : Type} [Inhabited α] {rep : Frz → List Value → α → Prop} {F : Frz} {size k : Nat} {cs : List (List Value)} {xs : List α} (h : SlK F v size k cs.flatten) (ho : OwnD rep F size cs xs) (hk : k = xs.length) : SlD rep F v size cs xs :=
  ⟨h.toC rfl (by rw [ho.1]; exact hk) ho.2.1, ho.1, ho.2.2⟩
theorem T.conv {c : Code} {hs' : HS} (h1 : ∀ w, Hp B M hs w → Hp B M hs' w) (h : T Fe P n B D M c Q fs hs') : T Fe P n B D M c Q fs hs := ⟨fun a w ha hw hm => h.out a w ha (h1 w hw) hm⟩
theorem T.az {ι : Type} {φ : ι → Prop} {c : Code} {hs' : ι → HS} (h1 : ∀ w, Hp B M hs w → ∃ x, φ x ∧ Hp B M (hs' x) w) (h : ∀ x, φ x → T Fe P n B D M c Q fs (hs' x)) : T Fe P n B D M c Q fs hs := ⟨fun a w ha hw hm => by
  obtain ⟨x, hx, hw'⟩ := h1 w hw; exact (h x hx).out a w ha hw' hm⟩
theorem TL.az {ι : Type} {φ : ι → Prop} {l : List Oper} {hs' : ι → HS} (h1 : ∀ w, Hp B M hs w → ∃ x, φ x ∧ Hp B M (hs' x) w) (h : ∀ x, φ x → TL Fe P n B D M ops Q l fs (hs' x)) : TL Fe P n B D M ops Q l fs hs := ⟨fun a w ha hw hm => by
  obtain ⟨x, hx, hw'⟩ := h1 w hw; exact (h x hx).out a w ha hw' hm⟩
theorem K.az {ι : Type} {φ : ι → Prop} {e : Exit} {hs' : ι → HS} (h1 : ∀ w, Hp B M hs w → ∃ x, φ x ∧ Hp B M (hs' x) w) (h : ∀ x, φ x → K n B D M Q e fs (hs' x)) : K n B D M Q e fs hs := ⟨fun a w ha hw hm => by
  obtain ⟨x, hx, hw'⟩ := h1 w hw; exact (h x hx).out a w ha hw' hm⟩
theorem TS.az {ι : Type} {φ : ι → Prop} {hs0 : HS} {r : Ord} {hs' : ι → HS} (h1 : ∀ w, Hp B M hs w → ∃ x, φ x ∧ Hp B M (hs' x) w) (h : ∀ x, φ x → TS Fe P n B D M ops Q hs0 r fs (hs' x)) : TS Fe P n B D M ops Q hs0 r fs hs := ⟨fun a w fuel listed h2 h3 h4 ha hw h5 hm => by
  obtain ⟨x, hx, hw'⟩ := h1 w hw; exact (h x hx).out a w fuel listed h2 h3 h4 ha hw' h5 hm⟩
theorem TSo.ay {hs0 : HS} {i : Nat} {k : Ord} {d : Nat} {Φ : Value → HS → Prop} (hi : ops[i]? = some o) (hwt : Wt n ops fs o true) (hd : o.dst = some d) (hb : Nat.blt d n = true) (h : Ew P n B M fs hs o Φ) (h2 : ∀ v hs', Φ v hs' → (∀ w, Hp B M hs' w → Hp B M hs0 w) ∧ TS Fe P n B D M ops Q hs0 k ((d, v) :: fs) hs') : TSo Fe P n B D M ops Q hs0 i k fs hs :=
  ⟨fun a w fuel listed hns hnd hok ha hw hw0 hm => by
    unfold wpOpIn; simp only [hi, hwt a ha, if_true]; refine h Fe hFe Q _ a w ha hw fun v w' hs' hk hp' hΦ => ?_; rw [hd]
    exact ⟨_, fun _ => rfl, (h2 v hs' hΦ).1 _ hp', (h2 v hs' hΦ).2.out _ w' fuel _ hns hnd hok (ha.put hb v) hp' ((h2 v hs' hΦ).1 _ hp') ((hm.next hk).put _ _)⟩⟩
theorem Fx.up {F : FzB B M S0} {w w' : World} {G : Frz} (h : Fx F.toFrz w G w') (hw : Hp B M hs w) : ∃ G' : FzB B M S0, G'.toFrz = G := by
  refine ⟨⟨G, fun g hg hb hM => ?_, fun g hg => ?_⟩, rfl⟩
  · rcases h.new g hg with h1 | h1
    · rw [(h.le g h1).2, F.base g h1 hb hM]
    · have := hw.size; omega
  · rcases h.new g hg with h1 | h1
    · exact F.new g h1
    · have := hw.size; exact .inr (.inr (by omega))
theorem Ew.ao (i : Nat) {ι : Type} {F : FzB B M S0} {φ : ι → Frz → Prop} {val : ι → Value} {hs' : FzB B M S0 → HS} {c : Operand} {xs : Array Operand} {ts : Array TypeId} {f : FuncId} {fst caps : Array Value} {vs : List Value} [hE : Enters P f] (ho : o.op = .call { callee := .value c, args := xs, argTypes := ts }) (hc : ev fs c = some (.func (.func f) fst caps)) (hv : evs fs xs.toList = some vs) (hi : hs[i]? = some (.fr F))
    (C : ∀ w, Hp B M hs w → F.toFrz.At w → Calls P f (fst.toList ++ vs ++ caps.toList).toArray w (fun e w' => ∃ y G, φ y G ∧ e = .returned (val y) ∧ Fx F.toFrz w G w')) [hH : ∀ G, SetAt hs i (.fr G) (hs' G)] : Ew P n B M fs hs o (fun v hs'' => ∃ y, ∃ G : FzB B M S0, F.toFrz.Le G.toFrz ∧ φ y G.toFrz ∧ v = val y ∧ hs'' = hs' G) :=
  Ew.call ho hc hv fun w hp => (C w hp (hp.fr hi)).mono fun e w' ⟨y, G, hy, he, hx⟩ => by
    obtain ⟨G', rfl⟩ := hx.up hp; refine ⟨val y, hs' G', he, Kp.below hx.bel, ?_, y, G', hx.le, hy, rfl, rfl⟩; rw [← (hH G').h]; refine hp.updAt hi (S := fun _ => False) (.of_below_new hx.bel _) (fun _ _ h => h.elim) (Ent.fr_ok.2 (fun g hg => hx.at_ g hg.1)) (fun g hg => ?_); have h := Ent.fr_fp.1 hg; rcases hx.new g h.1 with h1 | h1
    · exact .inl (Ent.fr_fp.2 ⟨h1, h.2⟩)
    · exact .inr h1
end
def zak {σ ρ : Type} (f : Nat → (σ → ρ) → σ → ρ) (k : σ → ρ) : Nat → Nat → σ → ρ
  | 0, _, s => k s
  | m + 1, i, s => f i (zak f k m (i + 1)) s
def zcs {σ ρ : Type} (f : Nat → (σ → ρ) → σ → ρ) (k : σ → ρ) : Nat → σ → ρ
  | 0, s => k s
  | m + 1, s => f m (zcs f k m) s
def zay {σ ρ : Type} (f : (σ → Option ρ) → σ → Option ρ) : Nat → σ → Option ρ
  | 0, _ => none
  | m + 1, s => f (zay f m) s
def zao {σ ρ : Type} (k : σ → ρ) (e : (σ → ρ) → ρ) : ρ := e k
def grd {ρ : Type} (c : Prop) [Decidable c] (x : Option ρ) : Option ρ := if c then x else none
section
variable {σ ρ : Type}
theorem zaC {f : Nat → (σ → ρ) → σ → ρ} {k : σ → ρ} {n i : Nat} {s : σ} (h : i < n) : zak f k (n - i) i s = f i (zak f k (n - (i + 1)) (i + 1)) s := by
  rw [show n - i = (n - (i + 1)) + 1 by omega]; rfl
theorem zaB {f : Nat → (σ → ρ) → σ → ρ} {k : σ → ρ} {n i : Nat} {s : σ} (h : n ≤ i) : zak f k (n - i) i s = k s := by
  rw [show n - i = 0 by omega]; rfl
theorem zan {f : Nat → (σ → ρ) → σ → ρ} {k : σ → ρ} {m i : Nat} {s : σ} {R : ρ} (h : zak f k m i s = R) : ∃ f' k', f = f' ∧ k = k' ∧ zak f' k' m i s = R := ⟨f, k, rfl, rfl, h⟩
theorem zcP {f : Nat → (σ → ρ) → σ → ρ} {k : σ → ρ} {m : Nat} {s : σ} {R : ρ} (h : zcs f k m s = R) : ∃ f' k', f = f' ∧ k = k' ∧ zcs f' k' m s = R := ⟨f, k, rfl, rfl, h⟩
theorem za1 {f : (σ → Option ρ) → σ → Option ρ} {m : Nat} {s : σ} {R : Option ρ} (h : zay f m s = R) : ∃ f', f = f' ∧ zay f' m s = R := ⟨f, rfl, h⟩
theorem zae {k : σ → ρ} {e : (σ → ρ) → ρ} {R : ρ} (h : zao k e = R) : ∃ k', k = k' ∧ e k' = R := ⟨k, rfl, h⟩
theorem zba {f : (σ → Option ρ) → σ → Option ρ} {m : Nat} {s : σ} {r : ρ} (h : zay f m s = some r) : ∃ m', m = m' + 1 ∧ f (zay f m') s = some r := by
  cases m with
  | zero => cases h
  | succ m => exact ⟨m, rfl, h⟩
theorem zaf {c : Prop} [Decidable c] {x : Option ρ} {r : ρ} (h : grd c x = some r) : c ∧ x = some r := by
  unfold grd at h; split at h
  · exact ⟨by assumption, h⟩
  · cases h
theorem zax {c : Prop} [Decidable c] {x : Option ρ} (h : c) : grd c x = x := by unfold grd; rw [if_pos h]
theorem zad {α : Type} {x : Option α} {f : α → Option ρ} {r : ρ} (h : x.bind f = some r) : ∃ a, x = some a ∧ f a = some r := by
  cases x with
  | none => cases h
  | some a => exact ⟨a, rfl, h⟩
end
section
variable {Fe : Fence} [hFe : Calm Fe] {P : Program} {n : Nat} {B D : World} {M : Nat → Prop} {Q : Exit → Act → World → Prop} {fs : SFs} {hs : HS} {ops : Array Oper} {rest : List Oper} {o : Oper} {v val sv : Value}
theorem Hp.slAddr {w : World} {j k size : Nat} {e : TypeId} {l : List Value} (hw : Hp B M hs w) (hj : hs[j]? = some (.sl v e size k l)) (hk : 0 < k) : ∃ g cap, v = .slice (some ⟨g, 0, none⟩) k cap := by
  rcases (Ent.sl_ok.1 (hw.get hj)).2 with ⟨_, h0⟩ | ⟨g, cap, _, e, _⟩
  · omega
  · exact ⟨g, cap, e⟩
theorem Yv.ar (j : Nat) {t e k i m : Nat} {z : Int} {q : IntKind} {l : List Value} {x y : Operand} {e' : TypeId} [hT : TySl P t e k] (ho : o.op = .indexAddr t x y) (hx : ev fs x = some sv) (hy : ev fs y = some (.int q z)) (hj : hs[j]? = some (.sl sv e' k m l)) (hz : z = (i : Int)) (hi : i < m) : Yv P n B M fs hs o (zdp sv (i * k)) := fun a w ha hw => by
  obtain ⟨g, cap, rfl⟩ := hw.slAddr hj (by omega); rw [zbL]; exact Yv.bi (B := B) (M := M) (hs := hs) ho hx hy hz hi a w ha hw
theorem Yv.au (j : Nat) {t e : TypeId} [hT : TyS P t] {p size k : Nat} {l : List Value} {x : Operand} (ho : o.op = .load t x) (hx : ev fs x = some (zdp sv p)) (hj : hs[j]? = some (.sl sv e size k l)) (hk : 0 < k) (hv : l[p]? = some val) : Yv P n B M fs hs o val := fun a w ha hw => by
  obtain ⟨g, cap, rfl⟩ := hw.slAddr hj hk; rw [zbL, Nat.zero_add] at hx; exact Yv.bT (B := B) (M := M) (hs := hs) j ho hx hj hv a w ha hw
theorem Yv.bx (j : Nat) {t e : TypeId} {q : Nat} [hT : TyA P t q] {p size k : Nat} {l m : List Value} {x : Operand} (ho : o.op = .load t x) (hx : ev fs x = some (zdp sv p)) (hj : hs[j]? = some (.sl sv e size k l)) (hk : 0 < k) (hm : (l.drop p).take m.length = m) (hl : m.length = q) : Yv P n B M fs hs o (.agg m.toArray) := fun a w ha hw => by
  obtain ⟨g, cap, rfl⟩ := hw.slAddr hj hk; rw [zbL, Nat.zero_add] at hx; exact Yv.bE (B := B) (M := M) (hs := hs) j ho hx hj hm hl a w ha hw
theorem Ew.by (j : Nat) {t e : TypeId} [hT : TyS P t] {x y : Operand} {p k size : Nat} {l l' : List Value} {hs' : HS} [hv : OneC val] (ho : o.op = .store t x y) (hx : ev fs x = some (zdp sv p)) (hy : ev fs y = some val)
    (hj : hs[j]? = some (.sl sv e size k l)) (hk : 0 < k) (hp : p < l.length) (hl : l.set p val = l') [hH : SetAt hs j (.sl sv e size k l') hs'] : Ew P n B M fs hs o (fun v hs'' => v = undef ∧ hs'' = hs') := fun F hF Q K a w ha hw => by
  obtain ⟨g, cap, rfl⟩ := hw.slAddr hj hk; rw [zbL, Nat.zero_add] at hx; subst hl; exact Ew.bG (B := B) (M := M) (hs := hs) j ho hx hy hj hp F hF Q K a w ha hw
theorem zaD {α : Type} [Inhabited α] {enc : α → List Value} {size : Nat} (he : ∀ x, (enc x).length = size) {xs : List α} {i j p : Nat} (hi : i < xs.length) (hj : j < size) (hp : p = i * size + j) : (xs.flatMap enc)[p]? = (enc (nth xs i))[j]? := by
  subst hp; rw [zcy enc size he xs i hi j hj, zbb hi]
theorem zf1 {α : Type} [Inhabited α] {enc : α → List Value} {size : Nat} (he : ∀ x, (enc x).length = size) {xs : List α} {i : Nat} (hi : i < xs.length) : ((xs.flatMap enc).drop (i * size)).take (enc (nth xs i)).length = enc (nth xs i) := by
  apply List.ext_getElem?; intro j; rcases Nat.lt_or_ge j size with h | h
  · rw [List.getElem?_take_of_lt (by rw [he]; exact h), List.getElem?_drop, zcy enc size he xs i hi j h, zbb hi]
  · rw [List.getElem?_eq_none (by simp [he]; omega), List.getElem?_eq_none (by rw [he]; exact h)]
theorem Ew.bj (i : Nat) {s x : Operand} {t e : TypeId} {size bytes m c k k' g off : Nat} {z l news l' : List Value} {hs' : Value → HS} [hT : TyE P t e size bytes z] (h1 : ∀ v ∈ news, v.oneCell' = true) (ho : o.op = .call { callee := .builtin .append, args := #[s, x], argTypes := #[t, t] })
    (hs1 : ev fs s = some sv) (hx : ev fs x = some (.slice (some ⟨g, off, none⟩) m c)) (hi : hs[i]? = some (.sl sv e size k l)) (hj : ∀ w, Hp B M hs w → Cs w g off news) (hl : news.length = m * size) (hk : k + m = k') (hl' : l ++ news = l') (hb : k' * bytes ≤ 140737488355328) (hbs : 0 < bytes)
    [hH : ∀ v', SetAt hs i (.sl v' e size k' l') (hs' v')] : Ew P n B M fs hs o (fun v hs'' => OneC v ∧ hs'' = hs' v) := Ew.aC fun a w ha hp => by
  obtain ⟨inf, zv, hU, hinf, hz, hzc, rfl, rfl, hzs, hpos⟩ := hT.get; subst hk hl'; have hkm : k + m ≤ 140737488355328 := Nat.le_trans (Nat.le_mul_of_pos_right _ hbs) hb
  have hnews : ∀ q u, news[q]? = some u → w.cell? ((⟨g, off, none⟩ : Addr).add q) = some u := by
    intro q u hq; rw [zcB]; exact (hj w hp q (List.getElem?_eq_some_iff.1 hq).1).trans hq
  obtain ⟨v', w', hr, hown, hgr, _, hat⟩ := run_append_own_at (P := P) w 0 t o.type e inf zv inf.size inf.bytes hU hinf hz rfl rfl hzs hpos sv k l (Ent.sl_ok.1 (hp.get hi)) ⟨g, off, none⟩ m c news hl hnews h1 (by unfold maxLen; omega) hb (Nat.zero_le _); refine ⟨v', w', hs' v', ?_, ?_, ?_, ?_, rfl⟩
  · unfold execOp; simp [ho, resolve, invoke, builtin, ha.ev hs1, ha.ev hx, hr]
  · exact Kp.only (zco hgr) (fun g hg c => (Ent.sl sv e inf.size k l).nd (hp.get hi) g (Ent.sl_fp.2 hg) c)
  · rw [← (hH v').h]; refine hp.updAt hi (zco hgr) (fun q _ hq => Ent.sl_fp.2 hq) (Ent.sl_ok.2 hown) (fun q hq => ?_); have := Ent.sl_fp.1 hq; rcases hat with h | h
    · exact .inl (Ent.sl_fp.2 (by rw [← h]; exact this))
    · rw [h] at this; simp at this; exact .inr (by omega)
  · rcases hown.2 with ⟨rfl, _⟩ | ⟨_, _, _, rfl, _⟩ <;> exact ⟨rfl⟩
theorem Ew.aQ (i j : Nat) {s x : Operand} {t e u : TypeId} {size bytes m c k k' g : Nat} {z l news l' : List Value} {hs' : Value → HS} [hT : TyE P t e size bytes z] [h1 : OneCs news] (ho : o.op = .call { callee := .builtin .append, args := #[s, x], argTypes := #[t, t] })
    (hs1 : ev fs s = some sv) (hx : ev fs x = some (.slice (some ⟨g, 0, none⟩) m c)) (hi : hs[i]? = some (.sl sv e size k l)) (hj : hs[j]? = some (.row g u news)) (hl : news.length = m * size) (hk : k + m = k') (hl' : l ++ news = l') (hb : k' * bytes ≤ 140737488355328) (hbs : 0 < bytes)
    [hH : ∀ v', SetAt hs i (.sl v' e size k' l') (hs' v')] : Ew P n B M fs hs o (fun v hs'' => OneC v ∧ hs'' = hs' v) :=
  Ew.bj i h1.h ho hs1 hx hi (fun w hw => Cs.of_row (Ent.row_ok.1 (hw.get hj)) (by simp)) hl hk hl' hb hbs
end
abbrev eI (x : Int) : List Value := [.int .i64 x]
abbrev eK (k : IntKind) (x : Int) : List Value := [.int k x]
abbrev wI (x : Int) : Int := IntKind.i64.wrap x
abbrev room (n bytes : Nat) : Prop := n * bytes ≤ 140737488355328
theorem zab {ρ : Type} {b : Bool} {x y R : ρ} (h : (bif b then x else y) = R) (hb : b = true) : x = R := by subst hb; exact h
theorem zaa {ρ : Type} {b : Bool} {x y R : ρ} (h : (bif b then x else y) = R) (hb : b = false) : y = R := by subst hb; exact h
theorem SlC.oneC {F : Frz} {v : Value} {size : Nat} {cs : List (List Value)} (h : SlC F v size cs) : OneC v := by
  obtain ⟨A, cap, rfl, _⟩ := h; exact ⟨rfl⟩
theorem SlD.nil {α : Type} [Inhabited α] (rep : Frz → List Value → α → Prop) (F : Frz) (size : Nat) : SlD rep F (.slice none 0 0) size [] [] := ⟨SlC.nil F size, rfl, fun i hi => absurd hi (Nat.not_lt_zero i)⟩
theorem zdG {α : Type} {enc : α → List Value} {xs ys : List α} : xs.flatMap enc ++ ys.flatMap enc = (xs ++ ys).flatMap enc := (List.flatMap_append ..).symm
theorem zfL {cs ds : List (List Value)} : cs.flatten ++ ds.flatten = (cs ++ ds).flatten := (List.flatten_append ..).symm
theorem zgF {α : Type} {enc : α → List Value} {xs : List α} (h : ∀ x, OneCs (enc x)) : ∀ c ∈ xs.map enc, ∀ v ∈ c, v.oneCell' = true := fun c hc => by
  obtain ⟨x, _, rfl⟩ := List.mem_map.1 hc; exact (h x).h
def zdD (hs : HS) : List Nat → Option HS
  | [] => some []
  | i :: r => match hs[i]? with
    | some e => match zdD hs r with
      | some l => some (e :: l)
      | none => none
    | none => none
section
variable {B w : World} {M : Nat → Prop} {hs hs' : HS}
theorem zc6 : ∀ {idx : List Nat} {hs' : HS}, zdD hs idx = some hs' → ∀ e ∈ hs', ∃ i ∈ idx, hs[i]? = some e
  | [], hs', h, e, he => by simp only [zdD] at h; cases h; cases he
  | i :: r, hs', h, e, he => by
    simp only [zdD] at h
    split at h
    · rename_i x hx
      split at h
      · rename_i l hl
        cases h
        rcases List.mem_cons.1 he with rfl | he
        · exact ⟨i, by simp, hx⟩
        · obtain ⟨j, hj, hje⟩ := zc6 hl e he; exact ⟨j, by simp [hj], hje⟩
      · cases h
    · cases h
theorem Hp.two (hw : Hp B M hs w) {i j : Nat} {e f : Ent} (hij : i ≠ j) (hi : hs[i]? = some e) (hj : hs[j]? = some f) (g : Nat) (he : e.fp g) : ¬ f.fp g := by
  obtain ⟨hi', rfl⟩ := List.getElem?_eq_some_iff.1 hi; obtain ⟨hj', rfl⟩ := List.getElem?_eq_some_iff.1 hj; have h := List.pairwise_iff_getElem.1 hw.apart; rcases Nat.lt_or_ge i j with h1 | h1
  · exact h i j hi' hj' h1 g he
  · exact fun hf => h j i hj' hi' (by omega) g hf he
theorem zdZ (hw : Hp B M hs w) : ∀ {idx : List Nat} {hs' : HS}, zdD hs idx = some hs' → idx.Nodup → hs'.Pairwise fun e f => ∀ g, e.fp g → ¬ f.fp g
  | [], hs', h, _ => by simp only [zdD] at h; cases h; exact .nil
  | i :: r, hs', h, hn => by
    simp only [zdD] at h
    split at h
    · rename_i x hx
      split at h
      · rename_i l hl
        cases h
        rw [List.nodup_cons] at hn; refine List.Pairwise.cons (fun f hf g hg => ?_) (zdZ hw hl hn.2); obtain ⟨j, hj, hje⟩ := zc6 hl f hf; exact hw.two (i := i) (j := j) (fun e => hn.1 (by rw [e]; exact hj)) hx hje g hg
      · cases h
    · cases h
theorem Hp.pick {idx : List Nat} (hw : Hp B M hs w) (h : zdD hs idx = some hs') (hn : idx.Nodup) : Hp B M hs' w :=
  ⟨hw.os, hw.tape, hw.output, hw.size, hw.base, fun e he => by obtain ⟨i, _, hi⟩ := zc6 h e he; exact hw.get hi, fun e he => by
    obtain ⟨i, _, hi⟩ := zc6 h e he; exact hw.new e (List.mem_of_getElem? hi), zdZ hw h hn⟩
end
section
variable {Fe : Fence} [hFe : Calm Fe] {P : Program} {n : Nat} {B D : World} {M S0 : Nat → Prop} {Q : Exit → Act → World → Prop} {fs : SFs} {hs : HS} {ops : Array Oper} {rest : List Oper} {o : Oper} {v val sv : Value}
theorem T.pick (idx : List Nat) {c : Code} {hs' : HS} (h : zdD hs idx = some hs') (hn : idx.Nodup) (k : T Fe P n B D M c Q fs hs') : T Fe P n B D M c Q fs hs := ⟨fun a w ha hw hm => k.out a w ha (hw.pick h hn) hm⟩
theorem K.pick (idx : List Nat) {e : Exit} {hs' : HS} (h : zdD hs idx = some hs') (hn : idx.Nodup) (k : K n B D M Q e fs hs') : K n B D M Q e fs hs := ⟨fun a w ha hw hm => k.out a w ha (hw.pick h hn) hm⟩
theorem T.ae {ι : Type} {x y : Code} (G : ι → SFs) (H : ι → HS) (φ : ι → Prop) (h : T Fe P n B D M x (Exit.then (fun a w => ∃ i, φ i ∧ At n B D M (G i) (H i) a w) Q) fs hs) (k : ∀ i, φ i → T Fe P n B D M y Q (G i) (H i)) : T Fe P n B D M x (Exit.then (y.wpIn Fe 0 P Q) Q) fs hs :=
  ⟨fun a w ha hw hm => wpIn_mono (h.out a w ha hw hm) fun e a w hq => by
    cases e <;> first | (obtain ⟨i, hi, h1, h2, h3⟩ := hq; exact (k i hi).out a w h1 h2 h3) | exact hq⟩
theorem TSo.aA {hs0 : HS} {i : Nat} {k : Ord} {d : Nat} (hi : ops[i]? = some o) (hwt : Wt n ops fs o true) (hd : o.dst = some d) (hb : Nat.blt d n = true) (hy : Yv P n B M fs hs o v) (h2 : ∀ w, Hp B M hs w → Hp B M hs0 w) (h : TS Fe P n B D M ops Q hs0 k ((d, v) :: fs) hs) : TSo Fe P n B D M ops Q hs0 i k fs hs :=
  TSo.ay hi hwt hd hb (Ew.yv hy) (by rintro _ _ ⟨rfl, rfl⟩; exact ⟨h2, h⟩)
theorem TSo.ewG0 {hs0 : HS} {i : Nat} {k : Ord} {Φ : Value → HS → Prop} (hi : ops[i]? = some o) (hwt : Wt n ops fs o true) (hd : o.dst = none) (h : Ew P n B M fs hs o Φ) (h2 : ∀ v hs', Φ v hs' → (∀ w, Hp B M hs' w → Hp B M hs0 w) ∧ TS Fe P n B D M ops Q hs0 k fs hs') : TSo Fe P n B D M ops Q hs0 i k fs hs :=
  ⟨fun a w fuel listed hns hnd hok ha hw hw0 hm => by
    unfold wpOpIn; simp only [hi, hwt a ha, if_true]; refine h Fe hFe Q _ a w ha hw fun v w' hs' hk hp' hΦ => ?_; rw [hd]
    exact ⟨_, fun _ => rfl, (h2 v hs' hΦ).1 _ hp', (h2 v hs' hΦ).2.out _ w' fuel _ hns hnd hok (ha.put_none v) hp' ((h2 v hs' hΦ).1 _ hp') ((hm.next hk).put _ _)⟩⟩
theorem TSb.ewG0 {i : Nat} {k : Ord} {Φ : Value → HS → Prop} (hs1 : HS) (hi : ops[i]? = some o) (hwt : Wt n ops fs o true) (hd : o.dst = none) (h : Ew P n B M fs hs o Φ) (h2 : ∀ v hs', Φ v hs' → (∀ w, Hp B M hs' w → Hp B M hs1 w) ∧ TS Fe P n B D M ops Q hs1 k fs hs') : TSb Fe P n B D M ops Q i k fs hs :=
  ⟨fun a w fuel listed hns hnd hok ha hw hm => by
    unfold wpOpIn; simp only [hi, hwt a ha, if_true]; refine h Fe hFe Q _ a w ha hw fun v w' hs' hk hp' hΦ => ?_; rw [hd]
    exact ⟨_, (h2 v hs' hΦ).1 _ hp', (h2 v hs' hΦ).2.out _ w' fuel _ hns hnd hok (ha.put_none v) hp' ((h2 v hs' hΦ).1 _ hp') ((hm.next hk).put _ _)⟩⟩
theorem TS.slNil {hs0 : HS} {r : Ord} (e : TypeId) (size : Nat) (h : TS Fe P n B D M ops Q hs0 r fs (.sl (.slice none 0 0) e size 0 [] :: hs)) : TS Fe P n B D M ops Q hs0 r fs hs := ⟨fun a w fuel listed h2 h3 h4 ha hw h5 hm => h.out a w fuel listed h2 h3 h4 ha (hw.slNil e size) h5 hm⟩
theorem TSo.slNil {hs0 : HS} {i : Nat} {r : Ord} (e : TypeId) (size : Nat) (h : TSo Fe P n B D M ops Q hs0 i r fs (.sl (.slice none 0 0) e size 0 [] :: hs)) : TSo Fe P n B D M ops Q hs0 i r fs hs := ⟨fun a w fuel listed h2 h3 h4 ha hw h5 hm => h.out a w fuel listed h2 h3 h4 ha (hw.slNil e size) h5 hm⟩
theorem Yv.ai (ix : Nat) {F : FzB B M S0} {α : Type} [Inhabited α] {enc : α → List Value} {t : TypeId} [hT : TyS P t] {k i j p : Nat} {xs : List α} {x : Operand} (ho : o.op = .load t x) (hx : ev fs x = some (zdp v p)) (hF : hs[ix]? = some (.fr F)) (h : SlC F.toFrz v k (xs.map enc)) (hi : i < xs.length) (hp : p = i * k + j) (hv : (enc (nth xs i))[j]? = some val) : Yv P n B M fs hs o val :=
  Yv.aI ix (i := i) (j := j) ho hx hF h (List.length_map _) hi hp (by rw [zer hi]; exact hv)
theorem Yv.aR (ix : Nat) {F : FzB B M S0} {α : Type} [Inhabited α] {enc : α → List Value} {t : TypeId} {q : Nat} [hT : TyA P t q] {k i p : Nat} {xs : List α} {x : Operand} {l : List Value} (ho : o.op = .load t x) (hx : ev fs x = some (zdp v p)) (hF : hs[ix]? = some (.fr F)) (h : SlC F.toFrz v k (xs.map enc)) (hi : i < xs.length) (hp : p = i * k) (hv : (enc (nth xs i)) = l) (hl : l.length = q) : Yv P n B M fs hs o (.agg l.toArray) :=
  Yv.bg ix (i := i) (j := 0) ho hx hF h (List.length_map _) hi hp (by rw [zer hi, hv, List.drop_zero, List.take_of_length_le (by omega)]) hl
theorem zdP {t e ty : TypeId} {k : Nat} {w : World} [hT : TySl P t e k] {b : Option Addr} {m c : Nat} {A : Option Addr} {c2 : Nat} (hc : m ≤ c) : (Builtin.append_ #[t, t] ty #[.slice b m c, .slice A 0 c2]).run P w = .ok (.slice b m c) w := by
  have h := hT.h; unfold zdY at h
  split at h
  · rename_i el hU
    cases hi' : P.info? el with
    | none => rw [hi'] at h; cases h
    | some inf =>
      rw [hi'] at h
      cases h
      unfold Builtin.append_
      cases A <;> cases b <;> simp [underlying, hU, sizeOf, typeInfo, hi', Builtin.lenOf, hc, Builtin.firstCells, loadCells, loadCellsFrom, storeCells]
  · cases h
theorem Cs.flat {w : World} {g off size : Nat} {cs : List (List Value)} (hp : 0 < size) (hr : ∀ c ∈ cs, c.length = size) (h : ∀ i, i < cs.length → Cs w g (off + i * size) (nth cs i)) : Cs w g off cs.flatten := fun q hq => by
  have hl : cs.flatten.length = cs.length * size := by
    clear h hq
    induction cs with
    | nil => simp
    | cons c r ih => rw [List.flatten_cons, List.length_append, ih (fun c' h' => hr c' (by simp [h'])), hr c (by simp), List.length_cons, Nat.add_mul]; omega
  (have hi : q / size < cs.length := by rw [Nat.div_lt_iff_lt_mul hp]; omega); have hj : q % size < size := Nat.mod_lt _ hp; (have e : q / size * size + q % size = q := by rw [Nat.mul_comm]; exact Nat.div_add_mod q size); (have hrow : (nth cs (q / size)).length = size := by rw [zbb hi]; exact hr _ (List.getElem_mem hi)); have h1 := h (q / size) hi (q % size) (by omega); have h2 := zd3 cs hr (q / size) hi (q % size) hj; rw [e] at h2; rw [h2, ← h1]
  congr 2
  omega
theorem Ew.bz (i ix : Nat) {F : FzB B M S0} {s x : Operand} {t e : TypeId} {size bytes k k' : Nat} {z l l' : List Value} {cs : List (List Value)} {hs' : Value → HS} [hT : TyE P t e size bytes z] [hT2 : TySl P t e size] (h1 : ∀ c ∈ cs, ∀ v ∈ c, v.oneCell' = true) (ho : o.op = .call { callee := .builtin .append, args := #[s, x], argTypes := #[t, t] })
    (hs1 : ev fs s = some sv) (hx : ev fs x = some v) (hi : hs[i]? = some (.sl sv e size k l)) (hF : hs[ix]? = some (.fr F)) (h : SlC F.toFrz v size cs) (hk : k + cs.length = k') (hl' : l ++ cs.flatten = l') (hb : k' * bytes ≤ 140737488355328) (hbs : 0 < bytes)
    [hH : ∀ v', SetAt hs i (.sl v' e size k' l') (hs' v')] : Ew P n B M fs hs o (fun v hs'' => OneC v ∧ hs'' = hs' v) := by
  obtain ⟨inf, zv, hU, hinf, hz, hzc, h6, h7, hzs, hpos⟩ := hT.get; rcases Nat.eq_zero_or_pos cs.length with h0 | h0
  · obtain rfl := List.eq_nil_of_length_eq_zero h0; obtain ⟨A, cap, hv, _⟩ := h; subst hk; simp at hl' hv; subst hl' hv; refine Ew.aC fun a w ha hp => ?_; have ho' := Ent.sl_ok.1 (hp.get hi)
    obtain ⟨b, c, rfl, hc⟩ : ∃ b c, sv = .slice b k c ∧ k ≤ c := by
      rcases ho'.2 with ⟨rfl, h0⟩ | ⟨g, cap, cur, rfl, hb, hg, hnc, _⟩
      · exact ⟨none, 0, by rw [h0], by omega⟩
      · exact ⟨_, cap, rfl, hnc⟩
    refine ⟨.slice b k c, w, hs' (.slice b k c), ?_, Kp.refl w, ?_, ⟨rfl⟩, rfl⟩
    · unfold execOp; simp [ho, resolve, invoke, builtin, ha.ev hs1, ha.ev hx, zdP (P := P) (t := t) hc]
    · rw [← (hH _).h]; simp only [List.length_nil, Nat.add_zero]; rw [zff hi]; exact hp
  · obtain ⟨g, off, cap, rfl, hg, hc⟩ := h.addr h0; (have hr : ∀ c ∈ cs, c.length = size := by obtain ⟨_, _, _, _, _, h4, _⟩ := h; exact h4); refine Ew.bj i (news := cs.flatten) (fun v hv => ?_) ho hs1 hx hi (fun w hw => Cs.flat (by omega) hr (fun i hi => Cs.at (hw.fr hF) hg (hc i hi))) ?_ hk hl' hb hbs
    · obtain ⟨c, hc', hv'⟩ := List.mem_flatten.1 hv; exact h1 c hc' v hv'
    · clear hc hl' hx hk h1 h0 h
      induction cs with
      | nil => simp
      | cons c r ih => rw [List.flatten_cons, List.length_append, ih (fun c' h' => hr c' (by simp [h'])), hr c (by simp), List.length_cons, Nat.add_mul]; omega
end
theorem zd0 {α : Type} {xs ys : List α} {m : Nat} (h : ys.length = m) : xs.length + m = (xs ++ ys).length := by rw [List.length_append, h]
theorem zb1 {P : Program} {d : Nat} {t : TypeId} {k k' : IntKind} {a b : Int} {w : World} (hU : P.underlying t = some (.int k')) : (Op.equalIn (d + 1) t (.int k a) (.int k b)).run P w = .ok (decide (a = b)) w := by
  rw [Op.equalIn]; simp [underlying, hU]
  rfl
def fInt (P : Program) (f : Field) (j : Nat) : Bool := (!(f.name == "_")) && (f.offset == j) && (zfy P f.type == some (false, 1)) && (match P.underlying f.type with | some (.int _) => true | _ => false)
theorem zfd {P : Program} {f : Field} {j : Nat} (h : fInt P f j = true) : f.name ≠ "_" ∧ f.offset = j ∧ (∀ w, (isAgg f.type).run P w = .ok false w) ∧ ∃ k, P.underlying f.type = some (.int k) := by
  unfold fInt at h; simp only [Bool.and_eq_true, Bool.not_eq_true', beq_eq_false_iff_ne, beq_iff_eq] at h; refine ⟨h.1.1.1, h.1.1.2, fun w => (zcI h.1.2 w).1, ?_⟩; have := h.2
  split at this
  · exact ⟨_, by assumption⟩
  · cases this
def zfU (P : Program) (t : TypeId) : Bool := match P.underlying t with
  | some (.struct fs) => match fs.toList with
    | [f0, f1] => (fInt P f0 0 && fInt P f1 1) && (!P.stoodInHeld t && !P.eqGuardType P.depth t)
    | _ => false
  | _ => false
theorem zgh {P : Program} {t : TypeId} (h : zfU P t = true) (a0 a1 b0 b1 : Int) (w : World) : (Op.equal t (.agg [.int .i64 a0, .int .i64 a1].toArray) (.agg [.int .i64 b0, .int .i64 b1].toArray)).run P w = .ok (decide (a0 = b0) && decide (a1 = b1)) w := by
  unfold zfU at h
  split at h
  · rename_i fs hU
    split at h
    · rename_i f0 f1 hl; simp only [Bool.and_eq_true, Bool.not_eq_true'] at h; obtain ⟨⟨h0, h1⟩, hs, _⟩ := h; (obtain rfl : fs = #[f0, f1] := by apply Array.ext'; simpa using hl); obtain ⟨n0, o0, g0, k0, u0⟩ := zfd h0; obtain ⟨n1, o1, g1, k1, u1⟩ := zfd h1; unfold Op.equal; rw [show Op.maxDepth = (9998 + 1) + 1 from rfl, Op.equalIn]; simp only [underlying, Sem.run_bind, run_program, Result.andThen_ok, hU, Sem.run_pure, hs, Bool.false_eq_true, if_false]; by_cases e0 : a0 = b0
      case neg => simp [part, n0, o0, g0, zb1 u0, n1, o1, g1, zb1 u1, e0]
      case pos =>
        by_cases e1 : a1 = b1
        case neg => simp [part, n0, o0, g0, zb1 u0, n1, o1, g1, zb1 u1, e0, e1]
        simp [part, n0, o0, g0, zb1 u0, n1, o1, g1, zb1 u1, e0, e1]
    · cases h
  · cases h
section
variable {P : Program} {n : Nat} {B : World} {M : Nat → Prop} {fs : SFs} {hs : HS} {o : Oper}
end
section
variable {P : Program} {n : Nat} {B : World} {M : Nat → Prop} {fs : SFs} {hs : HS} {o : Oper}
end
section
variable {P : Program} {n : Nat} {B : World} {M : Nat → Prop} {fs : SFs} {hs : HS} {o : Oper}
end
section
variable {P : Program} {n : Nat} {B : World} {M : Nat → Prop} {fs : SFs} {hs : HS} {o : Oper}
end
def zbT (v : Value) (l h k : Nat) : Value := match v with
  | .slice a _ cap => sliced a l h cap k
  | x => x
theorem SlC.slice {F : Frz} {v : Value} {size : Nat} {cs : List (List Value)} (h : SlC F v size cs) {l i : Nat} (hl : l ≤ i) (hi : i ≤ cs.length) : SlC F (zbT v l i size) size ((cs.take i).drop l) := by
  obtain ⟨A, cap, rfl, h2, h3, h4, h5⟩ := h; (have hlen : ((cs.take i).drop l).length = i - l := by rw [List.length_drop, List.length_take]; omega); have hmem : ∀ c ∈ (cs.take i).drop l, c ∈ cs := fun c hc => List.mem_of_mem_take (List.mem_of_mem_drop hc); refine ⟨if cap = l then A else A.map (·.add (l * size)), cap - l, ?_, by omega, by omega, fun c hc => h4 c (hmem c hc), fun hp => ?_⟩
  · rw [hlen]; rfl
  · rw [hlen] at hp; obtain ⟨g, off, rfl, hg, hc⟩ := h5 (by omega); rw [if_neg (by omega)]; refine ⟨g, off + l * size, by simp [zcB], hg, fun j hj => ?_⟩; rw [hlen] at hj; have h6 := hc (l + j) (by omega)
    have e : nth ((cs.take i).drop l) j = nth cs (l + j) := by
      rw [zbb (by omega), zbb (by omega), List.getElem_drop, List.getElem_take]
    rw [e, show off + l * size + j * size = off + (l + j) * size by rw [Nat.add_mul]; omega]; exact h6
theorem SlD.slice {α : Type} [Inhabited α] {rep : Frz → List Value → α → Prop} {F : Frz} {v : Value} {size : Nat} {cs : List (List Value)} {xs : List α} (h : SlD rep F v size cs xs) {l i : Nat} (hl : l ≤ i) (hi : i ≤ xs.length) : SlD rep F (zbT v l i size) size ((cs.take i).drop l) ((xs.take i).drop l) := by
  refine ⟨h.1.slice hl (by rw [h.2.1]; exact hi), ?_, fun j hj => ?_⟩
  · rw [List.length_drop, List.length_take, List.length_drop, List.length_take, h.2.1]
  · have hj' := hj; rw [List.length_drop, List.length_take] at hj'
    have e : nth ((cs.take i).drop l) j = nth cs (l + j) := by
      rw [zbb (by rw [List.length_drop, List.length_take, h.2.1]; omega), zbb (by rw [h.2.1]; omega), List.getElem_drop, List.getElem_take]
    have e' : nth ((xs.take i).drop l) j = nth xs (l + j) := by
      rw [zbb hj, zbb (by omega), List.getElem_drop, List.getElem_take]
    rw [e, e']; exact h.2.2 _ (by omega)
section
variable {F : Frz} {v : Value} {size : Nat}
theorem SlC.sliceh {α : Type} {enc : α → List Value} {xs : List α} (h : SlC F v size (xs.map enc)) {i : Nat} (hi : i ≤ xs.length) : SlC F (zbT v 0 i size) size ((xs.take i).map enc) := by
  have := h.slice (l := 0) (i := i) (Nat.zero_le _) (by rw [List.length_map]; exact hi)
  rwa [List.drop_zero, ← List.map_take] at this
theorem SlC.slicel {α : Type} {enc : α → List Value} {xs : List α} (h : SlC F v size (xs.map enc)) {l : Nat} (hl : l ≤ xs.length) : SlC F (zbT v l xs.length size) size ((xs.drop l).map enc) := by
  have := h.slice (l := l) (i := xs.length) hl (by rw [List.length_map]; exact Nat.le_refl _)
  rwa [List.take_of_length_le (by rw [List.length_map]; exact Nat.le_refl _), ← List.map_drop] at this
variable {α : Type} [Inhabited α] {rep : Frz → List Value → α → Prop} {cs : List (List Value)} {xs : List α}
theorem SlD.sliceh (h : SlD rep F v size cs xs) {i : Nat} (hi : i ≤ xs.length) : SlD rep F (zbT v 0 i size) size (cs.take i) (xs.take i) := by
  have := h.slice (l := 0) (Nat.zero_le _) hi
  rwa [List.drop_zero, List.drop_zero] at this
theorem SlD.slicel (h : SlD rep F v size cs xs) {l : Nat} (hl : l ≤ xs.length) : SlD rep F (zbT v l xs.length size) size (cs.drop l) (xs.drop l) := by
  have := h.slice (l := l) (i := xs.length) hl (Nat.le_refl _)
  rwa [List.take_of_length_le (by rw [h.2.1]; exact Nat.le_refl _), List.take_of_length_le (Nat.le_refl _)] at this
end
section
variable {P : Program} {n : Nat} {B : World} {M : Nat → Prop} {fs : SFs} {hs : HS} {o : Oper} {v : Value}
theorem TySl.elem {t e k : Nat} (h : TySl P t e k) : P.underlying t = some (.slice (P.elem t)) ∧ ∀ w, (sizeOf (P.elem t)).run P w = .ok k w := by
  have h := h.h; unfold zdY at h
  split at h
  · rename_i el hU; (have he : P.elem t = el := by unfold Program.elem; rw [hU])
    cases hi' : P.info? el with
    | none => rw [hi'] at h; cases h
    | some inf =>
      rw [hi'] at h
      cases h
      refine ⟨by rw [he]; exact hU, fun w => ?_⟩; rw [he]; simp [sizeOf, typeInfo, hi']
  · cases h
theorem Yv.bA {F : Frz} {t e k i m : Nat} {z : Int} {q : IntKind} {cs : List (List Value)} {x y : Operand} [hT : TySl P t e k] (ho : o.op = .slice t x none (some y) none) (hx : ev fs x = some v) (hy : ev fs y = some (.int q z)) (h : SlC F v k cs) (hm : cs.length = m) (hz : z = (i : Int)) (hi : i ≤ m) : Yv P n B M fs hs o (zbT v 0 i k) := fun a w ha _ => by
  subst hm hz; obtain ⟨A, cap, rfl, h2, h3, h4, h5⟩ := h; unfold execOp; have := run_slice_h (P := P) w t A cs.length cap hT.elem.1 q (i : Int) (by omega) (by omega); simp [ho, ha.ev hx, ha.ev hy, run_sliceAt_slice w t _ _ _ _ hT.elem.1, this, hT.elem.2, zbT]
theorem Yv.cd {F : Frz} {t e k l m : Nat} {z : Int} {q : IntKind} {cs : List (List Value)} {x y : Operand} [hT : TySl P t e k] (ho : o.op = .slice t x (some y) none none) (hx : ev fs x = some v) (hy : ev fs y = some (.int q z)) (h : SlC F v k cs) (hm : cs.length = m) (hz : z = (l : Int)) (hl : l ≤ m) : Yv P n B M fs hs o (zbT v l m k) := fun a w ha _ => by
  subst hm hz; obtain ⟨A, cap, rfl, h2, h3, h4, h5⟩ := h; unfold execOp; have := run_slice_l (P := P) w t A cs.length cap hT.elem.1 q (l : Int) (by omega) (by omega); simp [ho, ha.ev hx, ha.ev hy, run_sliceAt_slice w t _ _ _ _ hT.elem.1, this, hT.elem.2, zbT]
end
structure FxM (F : Frz) (w : World) (M : Nat → Prop) (G : Frz) (es : HS) (w' : World) : Prop where
  le : F.Le G
  at_ : G.At w'
  hp : Hp w M es w'
  new : ∀ g, G.S g → F.S g ∨ M g ∨ w.heap.size ≤ g
  ap : ∀ e ∈ es, ∀ g, e.fp g → ¬ G.S g
theorem zgO : fps [] = fun _ => False := by funext g; unfold fps; simp
section
variable {B w w' : World} {M S0 : Nat → Prop} {hs : HS} {F : FzB B M S0}
theorem FxM.of {F0 : Frz} {es : HS} {G : FzB B M S0} (hw : Hp B M (es ++ [Ent.fr G]) w') (hS : ∀ g, S0 g → F0.S g) (hle : F0.Le G.toFrz) : FxM F0 B M G.toFrz es w' := by
  have h1 := hw; have h2 := List.pairwise_append.1 h1.apart; refine ⟨hle, hw.fr (i := es.length) (by simp), hw.sub (List.sublist_append_left _ _), fun g hg => (G.new g hg).imp (hS g) id, fun e he g hg hS => ?_⟩; refine h2.2.2 e he (.fr G) (by simp) g hg (Ent.fr_fp.2 ⟨hS, ?_⟩); exact h1.new e (List.mem_append_left _ he) g hg
theorem FxM.up {M' : Nat → Prop} {G : Frz} {es : HS} (h : FxM F.toFrz w M' G es w') (hw : Hp B M hs w) (hM : ∀ g, M' g → M g ∨ B.heap.size ≤ g) : ∃ G' : FzB B M S0, G'.toFrz = G := by
  refine ⟨⟨G, fun g hg hb hm => ?_, fun g hg => ?_⟩, rfl⟩
  · rcases h.new g hg with h1 | h1 | h1
    · rw [(h.le g h1).2, F.base g h1 hb hm]
    · rcases hM g h1 with h2 | h2
      · exact absurd h2 hm
      · omega
    · have := hw.size; omega
  · rcases h.new g hg with h1 | h1 | h1
    · exact F.new g h1
    · exact .inr (hM g h1)
    · have := hw.size; exact .inr (.inr (by omega))
end
section
variable {P : Program} {n : Nat} {B D : World} {M S0 : Nat → Prop} {fs : SFs} {hs : HS} {o : Oper} {v : Value}
theorem Ew.aZ (idx : List Nat) (bs rest : HS) {ι : Type} {F : FzB B M S0} {φ : ι → Frz → Prop} {val : ι → Value} {es : ι → HS} {c : Operand} {xs : Array Operand} {ts : Array TypeId} {f : FuncId} {fst caps : Array Value} {vs : List Value} [hE : Enters P f]
    (ho : o.op = .call { callee := .value c, args := xs, argTypes := ts }) (hc : ev fs c = some (.func (.func f) fst caps)) (hv : evs fs xs.toList = some vs) (hp : zdD hs idx = some (bs ++ .fr F :: rest)) (hn : idx.Nodup)
    (C : ∀ w, Hp B M hs w → Hp B M (bs ++ .fr F :: rest) w → F.toFrz.At w → Calls P f (fst.toList ++ vs ++ caps.toList).toArray w (fun e w' => ∃ y G, φ y G ∧ e = .returned (val y) ∧ FxM F.toFrz w (fps bs) G (es y) w')) :
    Ew P n B M fs hs o (fun v hs'' => ∃ y, ∃ G : FzB B M S0, F.toFrz.Le G.toFrz ∧ φ y G.toFrz ∧ v = val y ∧ hs'' = es y ++ .fr G :: rest) :=
  Ew.call ho hc hv fun w hw => by
    have hw2 := hw.pick hp hn; have hF : F.toFrz.At w := hw2.fr (i := bs.length) (by simp); refine (C w hw hw2 hF).mono fun e w' ⟨y, G, hy, he, hx⟩ => ?_; have hM : ∀ g, fps bs g → M g ∨ B.heap.size ≤ g := fun g ⟨e, he, hg⟩ => hw2.new e (List.mem_append_left _ he) g hg; obtain ⟨G', rfl⟩ := hx.up hw2 hM; refine ⟨val y, es y ++ .fr G' :: rest, he, Kp.only hx.hp.only (fun g hg c => ?_), ?_, y, G', hx.le, hy, rfl, rfl⟩
    · obtain ⟨e, h1, h2⟩ := hg; exact e.nd (hw2.own e (List.mem_append_left _ h1)) g h2 c
    · (have h3 : Hp B M ((bs ++ [.fr F]) ++ rest) w := by rw [List.append_assoc]; exact hw2); have h4 := Hp.go (es := bs ++ [.fr F]) (es' := es y ++ [.fr G']) h3 hx.hp.only (fun g _ ⟨e, he, hg⟩ => ⟨e, List.mem_append_left _ he, hg⟩) (fun e he => ?_) (fun e he g hg => ?_) ?_
      · rw [List.append_assoc] at h4; exact h4
      · rcases List.mem_append.1 he with he | he
        · exact hx.hp.own e he
        · simp at he; subst he; exact Ent.fr_ok.2 (fun g hg => hx.at_ g hg.1)
      · rcases List.mem_append.1 he with he | he
        · rcases hx.hp.new e he g hg with ⟨f, hf, hfg⟩ | h5
          · exact .inl ⟨f, List.mem_append_left _ hf, hfg⟩
          · exact .inr h5
        · simp at he; subst he; have h6 := Ent.fr_fp.1 hg; rcases hx.new g h6.1 with h7 | ⟨f, hf, hfg⟩ | h7
          · exact .inl ⟨.fr F, by simp, Ent.fr_fp.2 ⟨h7, h6.2⟩⟩
          · exact .inl ⟨f, List.mem_append_left _ hf, hfg⟩
          · exact .inr h7
      · exact List.pairwise_append.2 ⟨hx.hp.apart, List.pairwise_singleton _ _, fun e he f hf g hg hfg => by
          simp at hf; subst hf
          exact hx.ap e he g hg (Ent.fr_fp.1 hfg).1⟩
theorem Ew.aL (idx : List Nat) (bs rest : HS) {ι : Type} {F : FzB B M S0} {φ : ι → Prop} {val : ι → Value} {es : ι → HS} {c : Operand} {xs : Array Operand} {ts : Array TypeId} {f : FuncId} {fst caps : Array Value} {vs : List Value} [hE : Enters P f]
    (ho : o.op = .call { callee := .value c, args := xs, argTypes := ts }) (hc : ev fs c = some (.func (.func f) fst caps)) (hv : evs fs xs.toList = some vs) (hp : zdD hs idx = some (bs ++ .fr F :: rest)) (hn : idx.Nodup)
    (C : ∀ w, Hp B M hs w → Hp B M (bs ++ .fr F :: rest) w → F.toFrz.At w → Calls P f (fst.toList ++ vs ++ caps.toList).toArray w (fun e w' => ∃ y, φ y ∧ e = .returned (val y) ∧ FxM F.toFrz w (fps bs) F.toFrz (es y) w')) :
    Ew P n B M fs hs o (fun v hs'' => ∃ y, φ y ∧ v = val y ∧ hs'' = es y ++ .fr F :: rest) :=
  Ew.call ho hc hv fun w hw => by
    have hw2 := hw.pick hp hn; have hF : F.toFrz.At w := hw2.fr (i := bs.length) (by simp); refine (C w hw hw2 hF).mono fun e w' ⟨y, hy, he, hx⟩ => ?_; refine ⟨val y, es y ++ .fr F :: rest, he, Kp.only hx.hp.only (fun g hg c => ?_), ?_, y, hy, rfl, rfl⟩
    · obtain ⟨e, h1, h2⟩ := hg; exact e.nd (hw2.own e (List.mem_append_left _ h1)) g h2 c
    · exact Hp.go (es := bs) (es' := es y) hw2 hx.hp.only (fun g _ ⟨e, he, hg⟩ => ⟨e, he, hg⟩) hx.hp.own (fun e he g hg => hx.hp.new e he g hg) hx.hp.apart
end
section
variable {w : World} {bs : HS} {F : Frz}
theorem zbp (hF : F.At w) (h : Hp w (fps bs) bs w) (hA : ∀ g, fps bs g → ¬ F.S g) : ∃ (S0 : Nat → Prop) (G : FzB w (fps bs) S0), G.toFrz = F ∧ (∀ g, S0 g → F.S g) ∧ Hp w (fps bs) (bs ++ [Ent.fr G]) w := ⟨F.S, Frz.inB hF _, rfl, fun _ h => h, Hp.startFM hF h hA⟩
variable {B : World} {M S0 : Nat → Prop} {G : FzB B M S0} {rest : HS}
theorem Hp.takes (h : Hp B M (bs ++ .fr G :: rest) w) : Hp w (fps bs) bs w ∧ ∀ g, fps bs g → ¬ G.toFrz.S g := by
  have h1 : Hp B M bs w := h.sub (List.sublist_append_left _ _); refine ⟨Hp.startL h1.own h1.apart, fun g ⟨e, he, hg⟩ hS => ?_⟩; exact (List.pairwise_append.1 h.apart).2.2 e he (.fr G) (by simp) g hg (Ent.fr_fp.2 ⟨hS, h1.new e he g hg⟩)
end
theorem Tab.pos {w : World} (h : Tab w) : 0 < w.heap.size := by
  have h0 := h 0 (by decide); unfold World.cell? at h0; rcases Nat.eq_zero_or_pos w.heap.size with e | e
  · rw [Array.getElem?_eq_none (by omega)] at h0; simp at h0
  · exact e
abbrev vI (z : Int) : Value := .int .i64 z
abbrev Vec (n : Nat) (α : Type) := { l : List α // l.length = n }
def Vec.fill {α : Type} (n : Nat) (v : α) : Vec n α := ⟨List.replicate n v, List.length_replicate⟩
instance {n : Nat} {α : Type} [Inhabited α] : Inhabited (Vec n α) := ⟨Vec.fill n default⟩
def Vec.get {n : Nat} {α : Type} [Inhabited α] (x : Vec n α) (i : Nat) : α := nth x.1 i
def Vec.put {n : Nat} {α : Type} (x : Vec n α) (i : Nat) (v : α) : Vec n α := ⟨x.1.set i v, by rw [List.length_set, x.2]⟩
theorem Vec.get_fill {α : Type} [Inhabited α] {n i : Nat} {v : α} (h : i < n) : (Vec.fill n v).get i = v := by
  unfold Vec.get Vec.fill; rw [zbb (by simpa using h)]; simp
theorem Vec.get_put {α : Type} [Inhabited α] {n i j : Nat} {x : Vec n α} {v : α} (h : i < n) : (x.put i v).get j = if j = i then v else x.get j := by
  unfold Vec.get Vec.put; (have hx : i < x.1.length := by rw [x.2]; exact h); unfold nth; rw [List.getD_eq_getElem?_getD, List.getD_eq_getElem?_getD]; by_cases e : j = i
  · rw [if_pos e, e, List.getElem?_set_self hx]; rfl
  · rw [if_neg e, List.getElem?_set_ne (fun h => e h.symm)]
section
variable {α : Type} [Inhabited α] {n i j m p : Nat} {x : Vec n α} {f : α → Value} {a b l r : List Value} {v : Value}
theorem Vec.len : (x.1.map f).length = n := by rw [List.length_map, x.2]
theorem Vec.cell (h : i < n) : (x.1.map f)[i]? = some (f (x.get i)) := by
  unfold Vec.get; rw [List.getElem?_map, List.getElem?_eq_getElem (by rw [x.2]; exact h), zbb (by rw [x.2]; exact h)]; rfl
theorem Vec.upd {v : α} (h : i < n) : (x.1.map f).set i (f v) = (x.put i v).1.map f := by
  show _ = (x.1.set i v).map f
  rw [List.map_set]
theorem zgo (hp : p = i) (h : l[i]? = some v) : l[p]? = some v := by rw [hp]; exact h
theorem upd_p {u : Value} (hp : p = i) (h : l.set i u = r) : l.set p u = r := by rw [hp]; exact h
instance OneCs.vmap {β : Type} {g : β → Value} {y : List β} [h : ∀ z, OneC (g z)] : OneCs (y.map g) := ⟨fun z hz => by obtain ⟨b, _, rfl⟩ := List.mem_map.1 hz; exact (h b).h⟩
instance OneCs.cat [h : OneCs a] [k : OneCs b] : OneCs (a ++ b) := ⟨fun z hz => (List.mem_append.1 hz).elim (h.h z) (k.h z)⟩
end
section
variable {P : Program} {n : Nat} {B D : World} {M : Nat → Prop} {fs : SFs} {hs : HS} {o : Oper} {v : Value}
theorem Ew.bI {t : TypeId} {z l : List Value} [hT : TyZ P t z] (ho : o.op = .alloc t) (hz : z = l) : Ew P n B M fs hs o (fun v hs' => ∃ g, v = .pointer (some ⟨g, 0, none⟩) ∧ hs' = .row g t l :: hs) := by
  subst hz; exact Ew.alloc ho
end
theorem zd7 {w : World} {v : Value} {e : TypeId} {size k : Nat} {l : List Value} (h : (Ent.sl v e size k l).ok w) : OneC v := by
  rcases (Ent.sl_ok.1 h).2 with ⟨rfl, _⟩ | ⟨g, cap, cur, rfl, _⟩ <;> exact inferInstance
section
variable {P : Program} {n : Nat} {B : World} {M : Nat → Prop} {fs : SFs} {hs : HS} {o : Oper}
theorem zef {w : World} {v : Value} {e : TypeId} {size k : Nat} {l : List Value} (h : (Ent.sl v e size k l).ok w) : k ≤ 9223372036854775807 := by
  have ho := Ent.sl_ok.1 h; rcases ho.2 with ⟨rfl, h0⟩ | ⟨g, cap, cur, rfl, hb, hg, hnc, hcm, hcs, htake⟩
  · omega
  · unfold maxLen at hcm; omega
theorem Ew.bh {t e : TypeId} {size bytes : Nat} {z : List Value} [hT : TyE P t e size bytes z] (ho : o.op = .buildSlice t 0 #[]) : Ew P n B M fs hs o (fun v hs' => ∃ g, v = .slice (some ⟨g, 0, none⟩) 0 0 ∧ hs' = .sl (.slice (some ⟨g, 0, none⟩) 0 0) e size 0 [] :: hs) := Ew.aC fun a w ha hp => by
  obtain ⟨i, zv, hU, hi, hz, hzc, rfl, rfl, hzs, hpos⟩ := hT.get; refine ⟨_, w.alloc (.cells #[] e), _, ?_, Kp.alloc w _, hp.fresh ((Below.refl _ _).alloc (Nat.le_refl _) _) (Ent.sl_ok.2 (World.ownsRow_made (base := 0) (e := e) (size := i.size) w #[] 0 (Nat.zero_le _) (by unfold maxLen; omega) (by simp))) (fun g hg => ?_), w.heap.size, rfl, rfl⟩
  · unfold execOp; simp [ho, Instr.buildSlice, underlying, hU, sizeOf, typeInfo, hi, Instr.fill, newRow]; rw [show Array.range 0 = #[] from by simp [Array.range]]; simp
  · have := Ent.sl_fp.1 hg; simp [Value.ownBlock] at this; omega
end
section
variable {Fe : Fence} [hFe : Calm Fe] {P : Program} {n : Nat} {B D : World} {M S0 : Nat → Prop} {Q : Exit → Act → World → Prop} {fs : SFs} {hs : HS} {ops : Array Oper}
theorem TL.aJ {l : List Oper} {v : Value} {e : TypeId} {size k : Nat} {cs : List Value} (j : Nat) (hj : hs[j]? = some (.sl v e size k cs)) (h : OneC v → k ≤ 9223372036854775807 → TL Fe P n B D M ops Q l fs hs) : TL Fe P n B D M ops Q l fs hs :=
  TL.az (ι := Unit) (φ := fun _ => OneC v ∧ k ≤ 9223372036854775807) (hs' := fun _ => hs) (fun w hw => ⟨(), ⟨zd7 (hw.get hj), zef (hw.get hj)⟩, hw⟩) (fun _ hx => h hx.1 hx.2)
theorem TS.aJ {hs0 : HS} {r : Ord} {v : Value} {e : TypeId} {size k : Nat} {cs : List Value} (j : Nat) (hj : hs[j]? = some (.sl v e size k cs)) (h : OneC v → k ≤ 9223372036854775807 → TS Fe P n B D M ops Q hs0 r fs hs) : TS Fe P n B D M ops Q hs0 r fs hs :=
  TS.az (ι := Unit) (φ := fun _ => OneC v ∧ k ≤ 9223372036854775807) (hs' := fun _ => hs) (fun w hw => ⟨(), ⟨zd7 (hw.get hj), zef (hw.get hj)⟩, hw⟩) (fun _ hx => h hx.1 hx.2)
end
structure Bor (F : Frz) (E : Ent) (w : World) (F' : Frz) : Prop where
  le : F.Le F'
  at_ : F'.At w
  new : ∀ g, F'.S g → F.S g ∨ E.fp g
section
variable {B w : World} {M S0 : Nat → Prop} {hs bs rest : HS} {F : FzB B M S0} {G : FzB B M S0} {F' : Frz}
theorem Hp.bor {i j : Nat} {v : Value} {e : TypeId} {size k : Nat} {l : List Value} (hw : Hp B M hs w) (hi : hs[i]? = some (.fr F)) (hj : hs[j]? = some (.sl v e size k l)) : ∃ F' : Frz, Bor F.toFrz (.sl v e size k l) w F' ∧ SlK F' v size k l := by
  have hF := hw.fr hi; have ho := Ent.sl_ok.1 (hw.get hj); rcases ho.2 with ⟨rfl, h0⟩ | ⟨g, cap, cur, rfl, hb, hg, hnc, hcm, hcs, htake⟩
  · subst h0; exact ⟨F.toFrz, ⟨.refl _, hF, fun g h => .inl h⟩, ho.1, none, 0, rfl, Nat.le_refl _, by omega, fun h => by omega⟩
  · refine ⟨⟨fun k => F.S k ∨ k = g, w, fun k hk => ?_⟩, ⟨fun k hk => ⟨.inl hk, hF k hk⟩, fun k _ => rfl, fun k hk => hk.imp id fun e => Ent.sl_fp.2 (by rw [e]; rfl)⟩, ho.1, _, cap, rfl, hnc, by unfold maxLen at hcm; omega, fun _ => ⟨g, rfl, .inr rfl, fun q hq => ?_⟩⟩
    · rcases hk with h | rfl
      · exact hF.cb h
      · exact ⟨_, _, _, hg⟩
    · rw [Nat.zero_add, World.ownsRow.cellAt ho q (by rw [← ho.1]; exact hq)]
end
theorem zaA {α : Type} [Inhabited α] {enc : α → List Value} {size : Nat} (he : ∀ x, (enc x).length = size) : ∀ {xs : List α} {i j p : Nat} {v : Value} {x : α}, i < xs.length → j < size → p = i * size + j → (enc (nth xs i)).set j v = enc x → (xs.flatMap enc).set p v = (xs.set i x).flatMap enc
  | y :: r, 0, j, p, v, x, _, hj, hp, h => by
    (obtain rfl : p = j := by omega); rw [List.flatMap_cons, List.set_append_left _ _ (by rw [he]; exact hj), List.set_cons_zero, List.flatMap_cons]; rw [← h]; rfl
  | y :: r, i + 1, j, p, v, x, hi, hj, hp, h => by
    rw [List.flatMap_cons, List.set_append_right _ _ (by rw [he, hp, Nat.add_mul]; omega), List.set_cons_succ, List.flatMap_cons]; rw [zaA he (xs := r) (i := i) (j := j) (x := x) (by simpa using hi) hj (by rw [he, hp, Nat.add_mul]; omega) (by rw [← h]; rfl)]
theorem zar {α : Type} {enc : α → List Value} {size : Nat} (he : ∀ x, (enc x).length = size) : ∀ {xs : List α} {i j p : Nat}, i < xs.length → j < size → p = i * size + j → p < (xs.flatMap enc).length
  | y :: r, 0, j, p, _, hj, hp => by rw [List.flatMap_cons, List.length_append, he]; omega
  | y :: r, i + 1, j, p, hi, hj, hp => by
    have := zar he (xs := r) (i := i) (j := j) (p := i * size + j) (by simpa using hi) hj rfl; rw [List.flatMap_cons, List.length_append, he]; rw [hp, Nat.add_mul]; omega
section
variable {P : Program} {n : Nat} {B D : World} {M : Nat → Prop} {fs : SFs} {hs : HS} {o : Oper} {v val sv : Value}
theorem Ew.aq (j : Nat) {t e : TypeId} [hT : TyS P t] {x y : Operand} {p k k' size : Nat} {l l' : List Value} {hs' : HS} [hv : OneC val] (ho : o.op = .store t x y) (hx : ev fs x = some (zdp sv p)) (hy : ev fs y = some val)
    (hj : hs[j]? = some (.sl sv e size k l)) (hk : 0 < k) (hp : p < l.length) (hl : l.set p val = l') (hkk : k' = k) [hH : SetAt hs j (.sl sv e size k' l') hs'] : Ew P n B M fs hs o (fun v hs'' => v = undef ∧ hs'' = hs') := by
  subst hkk; exact Ew.by j ho hx hy hj hk hp hl
end
section
variable {P : Program} {n : Nat} {B D : World} {M : Nat → Prop} {fs : SFs} {hs : HS} {v v2 : Value}
theorem T.aJ {Fe : Fence} [hFe : Calm Fe] {Q : Exit → Act → World → Prop} {c : Code} {e : TypeId} {size k : Nat} {cs : List Value} (j : Nat) (hj : hs[j]? = some (.sl v e size k cs)) (h : OneC v → k ≤ 9223372036854775807 → T Fe P n B D M c Q fs hs) : T Fe P n B D M c Q fs hs :=
  T.az (ι := Unit) (φ := fun _ => OneC v ∧ k ≤ 9223372036854775807) (hs' := fun _ => hs) (fun w hw => ⟨(), ⟨zd7 (hw.get hj), zef (hw.get hj)⟩, hw⟩) (fun _ hx => h hx.1 hx.2)
end
def orK (k : IntKind) (a b : Int) : Int := k.wrap ((BitVec.ofInt k.bits a ||| BitVec.ofInt k.bits b).toNat : Int)
def remK (k : IntKind) (a b : Int) : Int := a.tmod b
def shlK (k : IntKind) (a b : Int) : Int := k.wrap (a * 2 ^ (min b.toNat k.bits))
def shrK (k : IntKind) (a b : Int) : Int := a.fdiv (2 ^ (min b.toNat k.bits))
theorem zfQ (z : Int) : IntKind.u64.wrap z = ((BitVec.ofInt 64 z).toNat : Int) := by
  rw [BitVec.toNat_ofInt]; simp only [IntKind.wrap, IntKind.signed, IntKind.bits, Bool.false_and]; simp; omega
theorem zf5 {α : Type} [Inhabited α] {enc : α → List Value} {size : Nat} (he : ∀ y, (enc y).length = size) (hs : 0 < size) (x : α) (n : Nat) : (madeCells (enc x).toArray (n * size)).toList = (List.replicate n x).flatMap enc := by
  apply List.ext_getElem?; intro i; (have hl : ((List.replicate n x).flatMap enc).length = n * size := by rw [zcR enc size he]; simp); by_cases hi : i < n * size
  · have hq : i / size < n := Nat.div_lt_of_lt_mul (by rw [Nat.mul_comm]; exact hi); have hj : i % size < size := Nat.mod_lt _ hs; have e : i = i / size * size + i % size := (Nat.div_add_mod' i size).symm
    have e2 : ((List.replicate n x).flatMap enc)[i]? = (enc x)[i % size]? := by
      conv => lhs; rw [e]
      rw [zcy enc size he _ _ (by simpa using hq) _ hj]; simp
    rw [e2]; (have hj2 : i % size < (enc x).length := by rw [he]; exact hj); simp [madeCells, hi, he, List.getElem?_eq_getElem hj2]
  · rw [List.getElem?_eq_none (by simp [madeCells]; omega), List.getElem?_eq_none (by rw [hl]; omega)]
section
variable {P : Program} {n : Nat} {B D : World} {M S0 : Nat → Prop} {fs : SFs} {hs : HS} {o : Oper} {v : Value}
theorem Ew.aM {α : Type} [Inhabited α] {t e : TypeId} {size bytes n' : Nat} {z : List Value} {x y : Operand} {q q' : IntKind} {xi : Int} {enc : α → List Value} {u : α} [hT : TyE P t e size bytes z] (ho : o.op = .makeSlice t x y) (hx : ev fs x = some (.int q xi)) (hy : ev fs y = some (.int q' xi)) (hn : xi = (n' : Int)) (hr : room n' bytes) (hb : 0 < bytes) (hp : 0 < size) (he : ∀ v, (enc v).length = size) (hz : enc u = z) :
    Ew P n B M fs hs o (fun v hs' => OneC v ∧ hs' = .sl v e size (List.replicate n' u).length ((List.replicate n' u).flatMap enc) :: hs) := fun F hF Q K a w ha hw k => by
  have hle : n' ≤ 140737488355328 := Nat.le_trans (Nat.le_mul_of_pos_right _ hb) hr; refine Ew.makeSlice ho hx hy hn hn (by omega) (by rw [Nat.mul_comm]; have h := hr; unfold room at h; omega) F hF Q K a w ha hw (fun v w' hs' h1 h2 h3 => ?_); obtain ⟨g, rfl, rfl⟩ := h3; refine k _ w' _ h1 ?_ ⟨⟨rfl⟩, rfl⟩; rw [← zf5 he hp u n', hz, List.length_replicate]; exact h2
theorem Yv.orK {x y : Operand} {t u : TypeId} {k : IntKind} {a b : Int} (ho : o.op = .binOp .or t x y u) (hx : ev fs x = some (.int k a)) (hy : ev fs y = some (.int k b)) : Yv P n B M fs hs o (.int k (orK k a b)) := fun f w ha _ => by
  unfold execOp; simp [ho, ha.ev hx, ha.ev hy, eqGuard, binOp, Op.intBits, Go.Proofs.YtlaafmiejkebgaaGreat.orK]
theorem Yv.remK {x y : Operand} {t u : TypeId} {k : IntKind} {a b : Int} (ho : o.op = .binOp .rem t x y u) (hx : ev fs x = some (.int k a)) (hy : ev fs y = some (.int k b)) (hb : b ≠ 0) : Yv P n B M fs hs o (.int k (remK k a b)) := fun f w ha _ => by
  unfold execOp; simp [ho, ha.ev hx, ha.ev hy, eqGuard, binOp, Op.intDiv, hb, Go.Proofs.YtlaafmiejkebgaaGreat.remK]
theorem Yv.shlK {x y : Operand} {t u : TypeId} {k k' : IntKind} {a b : Int} (ho : o.op = .binOp .shl t x y u) (hx : ev fs x = some (.int k a)) (hy : ev fs y = some (.int k' b)) (hb : 0 ≤ b) : Yv P n B M fs hs o (.int k (shlK k a b)) := fun f w ha _ => by
  unfold execOp; simp [ho, ha.ev hx, ha.ev hy, eqGuard, binOp, Op.shift, Go.Proofs.YtlaafmiejkebgaaGreat.shlK, Int.not_lt.2 hb]
theorem Yv.shrK {x y : Operand} {t u : TypeId} {k k' : IntKind} {a b : Int} (ho : o.op = .binOp .shr t x y u) (hx : ev fs x = some (.int k a)) (hy : ev fs y = some (.int k' b)) (hb : 0 ≤ b) : Yv P n B M fs hs o (.int k (shrK k a b)) := fun f w ha _ => by
  unfold execOp; simp [ho, ha.ev hx, ha.ev hy, eqGuard, binOp, Op.shift, Go.Proofs.YtlaafmiejkebgaaGreat.shrK, Int.not_lt.2 hb]
theorem Yv.aD {s t : TypeId} {k k' : IntKind} {z : Int} {x : Operand} [hS : TyI P s k'] [hT : TyI P t k] (ho : o.op = .convert s t x) (hx : ev fs x = some (.int k' z)) : Yv P n B M fs hs o (.int k (k.wrap z)) := fun a w ha _ => by
  have h := hT.h; have h' := hS.h; unfold zjT at h h'
  split at h
  · rename_i q hU
    cases h
    split at h'
    · rename_i q' hU'
      cases h'
      unfold execOp; simp [ho, ha.ev hx, convert, underlying, hU, hU', Conv.intToInt]
    · cases h'
  · cases h
theorem Yv.aE {s t : TypeId} {k' : IntKind} {z : Int} {x : Operand} [hS : TyI P s k'] [hT : TyI P t .u64] (ho : o.op = .convert s t x) (hx : ev fs x = some (.int k' z)) : Yv P n B M fs hs o (U (BitVec.ofInt 64 z)) := (Yv.aD ho hx).eq (by rw [zfQ])
end
section
variable {P : Program} {n : Nat} {B D : World} {M : Nat → Prop} {fs : SFs} {hs : HS} {o : Oper} {v : Value}
theorem K.slNil {Q : Exit → Act → World → Prop} {e : Exit} (t : TypeId) (size : Nat) (h : K n B D M Q e fs (.sl (.slice none 0 0) t size 0 [] :: hs)) : K n B D M Q e fs hs := ⟨fun a w ha hw hm => h.out a w ha (hw.slNil t size) hm⟩
theorem Yv.ce {x y : Operand} {t u : TypeId} {a b : BitVec 64} (ho : o.op = .binOp .rem t x y u) (hx : ev fs x = some (U a)) (hy : ev fs y = some (U b)) (hb : ¬ b = 0#64) : Yv P n B M fs hs o (U (a % b)) :=
  (Yv.remK (k := .u64) (a := (a.toNat : Int)) (b := (b.toNat : Int)) ho hx hy (fun h => hb (BitVec.eq_of_toNat_eq (Int.ofNat.inj h)))).eq (by
    show Value.int .u64 ((a.toNat : Int).tmod (b.toNat : Int)) = .int .u64 (((a % b).toNat : Nat) : Int)
    rw [Int.tmod_eq_emod_of_nonneg (Int.natCast_nonneg _), BitVec.toNat_umod]; rfl)
def zkI (v : Value) : Prop := ∃ A m c, v = .slice (some A) m c
def NilI {α : Type} (v : Value) (l : List α) : Prop := (l = [] ∧ v = .slice none 0 0) ∨ (l ≠ [] ∧ zkI v)
theorem NilI.nil {α : Type} : NilI (.slice none 0 0) ([] : List α) := .inl ⟨rfl, rfl⟩
end
open Go.ChangeMaps (setBlock)
def qput {κ α : Type} [DecidableEq κ] (f : κ → Option α) (k : κ) (v : α) : κ → Option α := fun j => bif decide (j = k) then some v else f j
def qf {κ α : Type} [DecidableEq κ] (m : List (κ × α)) : κ → Option α := fun k => (m.find? fun e => decide (e.1 = k)).map (·.2)
def qset {κ α : Type} [DecidableEq κ] (m : List (κ × α)) (k : κ) (v : α) : List (κ × α) := bif m.any (fun e => decide (e.1 = k)) then m.map (fun e => bif decide (e.1 = k) then (k, v) else e) else m ++ [(k, v)]
theorem zcx {κ α : Type} [DecidableEq κ] (m : List (κ × α)) (k : κ) (v : α) : qf (qset m k v) = qput (qf m) k v := by
  have hmap : ∀ (m : List (κ × α)) (j : κ), ((m.map fun e => bif decide (e.1 = k) then (k, v) else e).find? fun e => decide (e.1 = j)).map (·.2) = bif decide (j = k) && m.any (fun e => decide (e.1 = k)) then some v else (m.find? fun e => decide (e.1 = j)).map (·.2) := by
    intro m j
    induction m with
    | nil => simp
    | cons e r ih =>
      rw [List.map_cons, List.find?_cons, List.find?_cons, List.any_cons]; by_cases h1 : e.1 = k
      · rw [decide_eq_true h1, cond_true, Bool.true_or, Bool.and_true]; by_cases h2 : j = k
        · subst h2; simp [h1]
        · have h3 : ¬ k = j := fun h => h2 h.symm; have h4 : ¬ e.1 = j := fun h => h3 (h1.symm.trans h); simp only [h3, h4, h2, decide_false, cond_false, Bool.false_and] at ih ⊢; exact ih
      · rw [decide_eq_false h1, cond_false, Bool.false_or]; by_cases h4 : e.1 = j
        · have h2 : ¬ j = k := fun h => h1 (h4.trans h); simp [h4, h2]
        · simp only [h4, decide_false]; exact ih
  funext j
  unfold qset qput
  cases ha : m.any (fun e => decide (e.1 = k)) with
  | true =>
    rw [cond_true]
    show ((m.map _).find? _).map _ = _
    rw [hmap m j, ha, Bool.and_true]; rfl
  | false =>
    rw [cond_false]
    show ((m ++ [(k, v)]).find? fun e => decide (e.1 = j)).map (·.2) = _
    rw [List.find?_append]; by_cases h2 : j = k
    · subst h2; (have h3 : (m.find? fun e => decide (e.1 = j)) = none := List.find?_eq_none.2 fun e he h => by rw [List.any_eq_false] at ha; exact ha e he h); rw [h3]; simp
    · have h3 : ¬ k = j := fun h => h2 h.symm; rw [decide_eq_false h2, cond_false]; simp only [List.find?_cons, h3, decide_false, List.find?_nil, Option.or_none]; rfl
theorem qf_some {κ α : Type} [DecidableEq κ] {m : List (κ × α)} {k : κ} : (qf m k).isSome = true ↔ k ∈ m.map (·.1) := by
  unfold qf; rw [Option.isSome_map, List.find?_isSome, List.mem_map]; constructor
  · rintro ⟨e, he, h⟩; exact ⟨e, he, of_decide_eq_true h⟩
  · rintro ⟨e, he, h⟩; exact ⟨e, he, decide_eq_true h⟩
structure MapF {κ α : Type} (kV : κ → Value) (enc : α → Value) (es : Array MapEntry) (clock : Nat) (f : κ → Option α) : Prop where
  st : MapKept.Stamped es clock
  ent : ∀ e ∈ es.toList, ∃ k v, e.key = kV k ∧ e.val = enc v ∧ f k = some v
  all : ∀ k v, f k = some v → ∃ e ∈ es.toList, e.key = kV k
  ij : ∀ a b, kV a = kV b → a = b
class TyMf (P : Program) (mt : TypeId) (et : outParam TypeId) {κ α : outParam Type} (kV : outParam (κ → Value)) (enc : outParam (α → Value)) (z : outParam α) : Prop where
  h : ∃ kt, P.underlying mt = some (.map kt et) ∧ (∀ (c : κ) b w, (Instr.checkKey b 10000 kt (kV c)).run P w = .ok () w) ∧ (∀ a b w, ∃ r : Bool, (Op.equal kt (kV a) (kV b)).run P w = .ok r w ∧ (r = true ↔ a = b)) ∧ (∀ c w, (Instr.findKey kt (kV c) []).run P w = .ok none w) ∧ (∀ c e r w, (Instr.findKey kt (kV c) (e :: r)).run P w = (Instr.findAsking kt (kV c) (e :: r) 0).run P w) ∧ (∀ a b, kV a = kV b → a = b) ∧ (∀ c, Instr.sameBits 10000 (kV c) (kV c) = true) ∧ ∀ w, (zeroValue et).run P w = .ok (enc z) w
section
variable {P : Program} {κ α : Type} [DecidableEq κ] {kV : κ → Value} {enc : α → Value} {es : Array MapEntry} {clock : Nat} {f : κ → Option α} {w : World} {g : Nat} {mt kt et : TypeId} {z : α}
theorem zh1 (heq : ∀ a b w, ∃ r : Bool, (Op.equal kt (kV a) (kV b)).run P w = .ok r w ∧ (r = true ↔ a = b)) (c : κ) (w : World) : ∀ (l : List MapEntry) (i : Nat), (∀ e ∈ l, ∃ k v, e.key = kV k ∧ e.val = enc v ∧ f k = some v) →
    (∃ j e v, (Instr.findAsking kt (kV c) l i).run P w = .ok (some (i + j, enc v)) w ∧ l[j]? = some e ∧ e.key = kV c ∧ e.val = enc v ∧ f c = some v) ∨ ((Instr.findAsking kt (kV c) l i).run P w = .ok none w ∧ ∀ e ∈ l, ∀ k, e.key = kV k → k ≠ c)
  | [], i, _ => .inr ⟨rfl, fun e he => by cases he⟩
  | e :: r, i, h => by
    obtain ⟨d, v, hd, hv, hf⟩ := h e (by simp); obtain ⟨b, he, hb⟩ := heq c d w
    cases b with
    | true =>
      obtain rfl := hb.1 rfl; refine .inl ⟨0, e, v, ?_, rfl, hd, hv, hf⟩; unfold Instr.findAsking; rw [hd]; simp [he, hv]
    | false =>
      (have hcd : c ≠ d := fun q => by have := hb.2 q; cases this)
      have hstep : (Instr.findAsking kt (kV c) (e :: r) i).run P w = (Instr.findAsking kt (kV c) r (i + 1)).run P w := by
        rw [Instr.findAsking, hd]; simp [he]
      rcases zh1 heq c w r (i + 1) (fun x hx => h x (by simp [hx])) with ⟨j, x, u, h1, h2, h3, h4, h5⟩ | ⟨h1, h2⟩
      · exact .inl ⟨j + 1, x, u, by rw [hstep, h1, Nat.add_assoc, Nat.add_comm 1 j], by simpa using h2, h3, h4, h5⟩
      · refine .inr ⟨by rw [hstep, h1], fun x hx k hk => ?_⟩; rcases List.mem_cons.1 hx with rfl | hx
        · intro q; subst q; obtain ⟨b2, e2, hb2⟩ := heq k d w; rw [he] at e2; (have hb3 : b2 = false := by cases e2; rfl); have : (kV k) = kV d := hk.symm.trans hd; obtain ⟨b4, e4, hb4⟩ := heq k k w; rw [this] at e4; have h6 := hb4.2 rfl; subst h6; rw [← this, this] at e4; (have h7 : (Op.equal kt (kV k) (kV d)).run P w = .ok true w := by rw [this]; exact e4); rw [he] at h7; cases h7
        · exact h2 x hx k hk
theorem MapF.find [hT : TyMf P mt et kV enc z] (h : MapF kV enc es clock f) (c : κ) (w : World) : ∃ kt, P.underlying mt = some (.map kt et) ∧ ((∃ j e v, (Instr.findKey kt (kV c) es.toList).run P w = .ok (some (j, enc v)) w ∧ es[j]? = some e ∧ e.key = kV c ∧ e.val = enc v ∧ f c = some v) ∨ ((Instr.findKey kt (kV c) es.toList).run P w = .ok none w ∧ f c = none ∧ ∀ e ∈ es.toList, e.key ≠ kV c)) := by
  obtain ⟨kt, hm, hk, heq, hf0, hf1, hinj, hsb, hz⟩ := hT.h; have h0 := zh1 (P := P) (kt := kt) (enc := enc) (f := f) heq c w es.toList 0 h.ent
  have hrun : ∀ l : List MapEntry, (Instr.findKey kt (kV c) l).run P w = (Instr.findAsking kt (kV c) l 0).run P w
    | [] => (hf0 c w).trans rfl
    | e :: r => hf1 c e r w
  refine ⟨kt, hm, ?_⟩; rcases h0 with ⟨j, e, v, h1, h2, h3, h4, h5⟩ | ⟨h1, h2⟩
  · exact .inl ⟨j, e, v, by rw [hrun, h1, Nat.zero_add], by simpa using h2, h3, h4, h5⟩
  · refine .inr ⟨by rw [hrun, h1], ?_, fun e he hek => h2 e he c hek rfl⟩
    cases hf : f c with
    | none => rfl
    | some v => obtain ⟨e, he, hek⟩ := h.all c v hf; exact absurd rfl (h2 e he c hek)
theorem zeE [hT : TyMf P mt et kV enc z] (hb : w.heap[g]? = some (.map es clock)) (h : MapF kV enc es clock f) (k : κ) (c : Bool) :
    (Instr.lookup mt (.map (some g)) (kV k) c).run P w = .ok (if c then .tuple #[enc ((f k).getD z), .bool (f k).isSome] else enc ((f k).getD z)) w := by
  obtain ⟨kt, hm, hk, heq, hf0, hf1, hinj, hsb, hz⟩ := hT.h; obtain ⟨kt', hm', h0⟩ := h.find (P := P) (mt := mt) k w; (obtain rfl : kt' = kt := by rw [hm] at hm'; cases hm'; rfl); rcases h0 with ⟨j, e, v, h1, _, _, _, h2⟩ | ⟨h1, h2, _⟩
  · cases c <;> simp [Instr.lookup, run_underlying hm, MapKept.run_getObj_map hb, hk, h1, h2, Result.andThen]
  · cases c <;> simp [Instr.lookup, run_underlying hm, MapKept.run_getObj_map hb, hk, h1, hz, h2, Result.andThen]
theorem zcn (f : κ → Option α) (k : κ) (v : α) : qput f k v k = some v := by simp [qput]
theorem zbB (f : κ → Option α) {k j : κ} (v : α) (h : j ≠ k) : qput f k v j = f j := by simp [qput, h]
theorem zf2 [hT : TyMf P mt et kV enc z] (hb : w.heap[g]? = some (.map es clock)) (h : MapF kV enc es clock f) (k : κ) (v : α) :
    ∃ es' clock', (Instr.mapUpdate mt (.map (some g)) (kV k) (enc v)).run P w = .ok () { w with heap := w.heap.setIfInBounds g (.map es' clock') } ∧ MapF kV enc es' clock' (qput f k v) := by
  obtain ⟨kt, hm, hk, heq, hf0, hf1, hinj, hsb, hz⟩ := hT.h; obtain ⟨kt', hm', h0⟩ := h.find (P := P) (mt := mt) k w; (obtain rfl : kt' = kt := by rw [hm] at hm'; cases hm'; rfl); rcases h0.symm with ⟨h1, h2, h3⟩ | ⟨j, e, v0, h1, hj, h3, h4, h2⟩
  · refine ⟨es.push { key := kV k, val := enc v, born := clock }, clock + 1, ?_, MapKept.stamped_push h.st h3, fun e he => ?_, fun j u hj => ?_, h.ij⟩
    · simp [Instr.mapUpdate, run_underlying hm, MapKept.run_getObj_map hb, hk, h1, MapKept.run_setObj_map _ hb, Result.andThen]
    · rw [Array.toList_push] at he; rcases List.mem_append.1 he with he | he
      · obtain ⟨i, u, h5, h6, h7⟩ := h.ent e he; exact ⟨i, u, h5, h6, by rw [zbB f v (fun q => h3 e he (by rw [h5, q]))]; exact h7⟩
      · simp at he; subst he; exact ⟨k, v, rfl, rfl, zcn f k v⟩
    · rw [Array.toList_push]; by_cases hjk : j = k
      · exact ⟨_, List.mem_append.2 (.inr (List.mem_singleton.2 rfl)), by rw [hjk]⟩
      · rw [zbB f v hjk] at hj; obtain ⟨e, he, hek⟩ := h.all j u hj; exact ⟨e, by simp [he], hek⟩
  · have hget : ∀ i, (es.modify j fun e => { e with key := kV k, val := enc v }).toList[i]? = if j = i then es[i]?.map (fun e => { e with key := kV k, val := enc v }) else es[i]? := fun i => by
      rw [Array.getElem?_toList, Array.getElem?_modify]
    have hkeys : ∀ (a b : Nat) (e1 e2 : MapEntry), es[a]? = some e1 → es[b]? = some e2 → e1.key = e2.key → a = b := fun a b e1 e2 ha hb hab => by
      have hn := h.st.2.2; (have ha' : (es.toList.map (·.key))[a]? = some e1.key := by rw [List.getElem?_map, Array.getElem?_toList, ha]; rfl); (have hb' : (es.toList.map (·.key))[b]? = some e2.key := by rw [List.getElem?_map, Array.getElem?_toList, hb]; rfl); have la := (List.getElem?_eq_some_iff.1 ha').1; exact (List.getElem?_inj la hn).1 (by rw [ha', hb', hab])
    refine ⟨es.modify j fun e => { e with key := kV k, val := enc v }, clock, ?_, MapKept.stamped_modify h.st j _ (fun _ _ => rfl) (fun e' _ he' => by rw [hj] at he'; cases he'; exact h3.symm), fun e' he' => ?_, fun i u hi => ?_, h.ij⟩
    · simp [Instr.mapUpdate, run_underlying hm, MapKept.run_getObj_map hb, hk, h1, hj, h3, Instr.keyThatStays, hsb, MapKept.run_setObj_map _ hb, Result.andThen]
    · obtain ⟨i, hi⟩ := List.mem_iff_getElem?.1 he'; rw [hget] at hi
      split at hi
      · rw [Option.map_eq_some_iff] at hi; obtain ⟨e0, _, rfl⟩ := hi; exact ⟨k, v, rfl, rfl, zcn f k v⟩
      · rename_i hne; obtain ⟨a, u, h5, h6, h7⟩ := h.ent e' (List.mem_of_getElem? (by rw [Array.getElem?_toList]; exact hi)); refine ⟨a, u, h5, h6, ?_⟩; rw [zbB f v (fun q => hne (hkeys j i e e' hj hi (by rw [h3, h5, q])))]; exact h7
    · by_cases hik : i = k
      · exact ⟨{ e with key := kV k, val := enc v }, List.mem_iff_getElem?.2 ⟨j, by rw [hget, if_pos rfl, hj]; rfl⟩, by rw [hik]⟩
      · rw [zbB f v hik] at hi; obtain ⟨e0, he0, hk0⟩ := h.all i u hi; obtain ⟨a, ha⟩ := List.mem_iff_getElem?.1 he0; by_cases hja : j = a
        · subst hja; rw [Array.getElem?_toList, hj] at ha; obtain rfl := Option.some.inj ha; rw [h3] at hk0; exact absurd (h.ij _ _ hk0).symm hik
        · exact ⟨e0, List.mem_iff_getElem?.2 ⟨a, by rw [hget, if_neg hja, ← Array.getElem?_toList]; exact ha⟩, hk0⟩
end
@[irreducible] def Ent.mf {κ α : Type} (kV : κ → Value) (enc : α → Value) (g : Nat) (f : κ → Option α) : Ent where
  fp := (· = g)
  ok w := ∃ es clock, w.heap[g]? = some (.map es clock) ∧ MapF kV enc es clock f
  loc h k := by obtain ⟨es, cl, h1, h2⟩ := k; exact ⟨es, cl, (h g rfl).trans h1, h2⟩
  lt h k e := by obtain ⟨es, cl, h1, h2⟩ := h; subst e; exact (Array.getElem?_eq_some_iff.1 h1).1
  nd h k e c := by obtain ⟨es, cl, h1, h2⟩ := h; subst e; rw [h1]; simp
theorem Ent.mf_fp {κ α : Type} {kV : κ → Value} {enc : α → Value} {g : Nat} {f : κ → Option α} {k : Nat} : (Ent.mf kV enc g f).fp k ↔ k = g := by unfold Ent.mf; exact Iff.rfl
theorem Ent.mf_ok {κ α : Type} {kV : κ → Value} {enc : α → Value} {g : Nat} {f : κ → Option α} {w : World} : (Ent.mf kV enc g f).ok w ↔ ∃ es clock, w.heap[g]? = some (.map es clock) ∧ MapF kV enc es clock f := by unfold Ent.mf; exact Iff.rfl
structure SweepF {κ α : Type} (kV : κ → Value) (enc : α → Value) (g r : Nat) (f : κ → Option α) (left : κ → Bool) (cnt : Nat) (cur : Option κ) (w : World) : Prop where
  ex : ∃ es clock seen, w.heap[g]? = some (.map es clock) ∧ w.heap[r]? = some (.mapIter (some g) clock seen clock) ∧ MapF kV enc es clock f ∧ cnt = (leftOf es seen).size ∧
    (∀ k, left k = true ↔ ∃ e ∈ (leftOf es seen).toList, e.key = kV k) ∧ ∀ k, cur = some k → ∃ e ∈ es.toList, ∃ s : Array Nat, seen = s.push e.born ∧ e.key = kV k
@[irreducible] def Ent.ns {κ α : Type} (kV : κ → Value) (enc : α → Value) (g r : Nat) (f : κ → Option α) (left : κ → Bool) (cnt : Nat) (cur : Option κ) : Ent where
  fp k := k = g ∨ k = r
  ok := SweepF kV enc g r f left cnt cur
  loc h k := by obtain ⟨es, cl, seen, h1, h2, h3⟩ := k.ex; exact ⟨es, cl, seen, (h g (.inl rfl)).trans h1, (h r (.inr rfl)).trans h2, h3⟩
  lt h k e := by
    obtain ⟨es, cl, seen, h1, h2, h3⟩ := h.ex; rcases e with rfl | rfl
    · exact (Array.getElem?_eq_some_iff.1 h1).1
    · exact (Array.getElem?_eq_some_iff.1 h2).1
  nd h k e c := by
    obtain ⟨es, cl, seen, h1, h2, h3⟩ := h.ex; rcases e with rfl | rfl
    · rw [h1]; simp
    · rw [h2]; simp
theorem Ent.ns_fp {κ α : Type} {kV : κ → Value} {enc : α → Value} {g r : Nat} {f : κ → Option α} {left : κ → Bool} {cnt : Nat} {cur : Option κ} {k : Nat} : (Ent.ns kV enc g r f left cnt cur).fp k ↔ k = g ∨ k = r := by unfold Ent.ns; exact Iff.rfl
theorem Ent.ns_ok {κ α : Type} {kV : κ → Value} {enc : α → Value} {g r : Nat} {f : κ → Option α} {left : κ → Bool} {cnt : Nat} {cur : Option κ} {w : World} : (Ent.ns kV enc g r f left cnt cur).ok w ↔ SweepF kV enc g r f left cnt cur w := by unfold Ent.ns; exact Iff.rfl
section
variable {P : Program} {n : Nat} {B D : World} {M : Nat → Prop} {F : Fence} [hF : Calm F] {Q : Exit → Act → World → Prop} {fs : SFs} {hs : HS} {ops : Array Oper} {rest : List Oper} {o : Oper} {κ α : Type} [DecidableEq κ] {kV : κ → Value} {enc : α → Value} {f : κ → Option α} {g r : Nat} {mt kt et : TypeId} {z : α}
theorem Ew.bJ [hT : TyMf P mt et kV enc z] (ho : o.op = .makeMap mt none) : Ew P n B M fs hs o (fun v hs' => ∃ g, v = .map (some g) ∧ hs' = .mf kV enc g (fun _ => none) :: hs) := Ew.aC fun a w ha hp => by
  obtain ⟨kt, hm, hk, heq, hf0, hf1, hinj, hsb, hz⟩ := hT.h; refine ⟨_, w.alloc (.map #[] 0), _, ?_, Kp.alloc w _, hp.fresh ((Below.refl _ _).alloc (Nat.le_refl _) _) (Ent.mf_ok.2 ⟨#[], 0, (MapKept.heap_alloc w _).1, MapKept.stamped_empty 0, fun e he => by simp at he, fun c v hc => (by cases hc), hinj⟩) (fun g hg => by rw [Ent.mf_fp.1 hg]; exact Nat.le_refl _), w.heap.size, rfl, rfl⟩; unfold execOp; simp [ho, Instr.makeMap, run_underlying hm, Result.andThen]
theorem Ew.bB [hT : TyMf P mt et kV enc z] (i : Nat) {x y u : Operand} {k : κ} {v : α} {hs' : HS} (ho : o.op = .mapUpdate mt x y u) (hx : ev fs x = some (.map (some g))) (hy : ev fs y = some (kV k)) (hu : ev fs u = some (enc v)) (hi : hs[i]? = some (.mf kV enc g f)) [hH : SetAt hs i (.mf kV enc g (qput f k v)) hs'] : Ew P n B M fs hs o (fun v hs'' => v = undef ∧ hs'' = hs') := Ew.aO fun a w ha hp => by
  obtain ⟨es, clock, hb, hS⟩ := Ent.mf_ok.1 (hp.get hi); obtain ⟨es', cl', h1, h2⟩ := zf2 (P := P) (mt := mt) hb hS k v; have hlt := (Array.getElem?_eq_some_iff.1 hb).1
  have hon : Only (· = g) w { w with heap := w.heap.setIfInBounds g (.map es' cl') } := ⟨rfl, rfl, rfl, by simp, fun k hk hn => by
    simp only [Array.getElem?_setIfInBounds]
    rw [if_neg (fun e => hn e.symm)]⟩
  refine ⟨_, hs', ?_, Kp.only hon (fun k e c => by subst e; rw [hb]; simp), ?_, rfl, rfl⟩
  · unfold execOp; simp [ho, ha.ev hx, ha.ev hy, ha.ev hu, h1, Result.andThen]
  · rw [← hH.h]; exact hp.updAt hi hon (fun k _ hk => Ent.mf_fp.2 hk) (Ent.mf_ok.2 ⟨es', cl', by simp [hlt], h2⟩) (fun k hk => .inl (Ent.mf_fp.2 (Ent.mf_fp.1 hk)))
theorem Yv.bC [hT : TyMf P mt et kV enc z] (i : Nat) {x y : Operand} {k : κ} (ho : o.op = .lookup mt x y false) (hx : ev fs x = some (.map (some g))) (hy : ev fs y = some (kV k)) (hi : hs[i]? = some (.mf kV enc g f)) : Yv P n B M fs hs o (enc ((f k).getD z)) := fun a w ha hp => by
  obtain ⟨es, clock, hb, hS⟩ := Ent.mf_ok.1 (hp.get hi); unfold execOp; simp [ho, ha.ev hx, ha.ev hy, zeE (P := P) (mt := mt) hb hS k false, Result.andThen]
theorem Ew.bk [hT : TyMf P mt et kV enc z] (i : Nat) {x : Operand} (ho : o.op = .range mt x) (hx : ev fs x = some (.map (some g))) (hi : hs[i]? = some (.mf kV enc g f)) : Ew P n B M fs hs o (fun v hs' => ∃ r c, v = .pointer (some ⟨r, 0, none⟩) ∧ hs' = hs.set i (.ns kV enc g r f (fun k => (f k).isSome) c none)) := Ew.aC fun a w ha hp => by
  obtain ⟨kt, hm, hk, heq, hf0, hf1, hinj, hsb, hz⟩ := hT.h; obtain ⟨es, clock, hb, hS⟩ := Ent.mf_ok.1 (hp.get hi); have hlt := (Array.getElem?_eq_some_iff.1 hb).1; have hon : Only (fun _ => False) w (w.alloc (.mapIter (some g) clock #[] clock)) := ⟨rfl, rfl, rfl, by rw [show (w.alloc (.mapIter (some g) clock #[] clock)).heap = w.heap.push (.mapIter (some g) clock #[] clock) from rfl]; simp, fun k hk _ => heap_alloc_old w _ hk⟩
  have hl : leftOf es #[] = es := by
    unfold leftOf; exact Array.filter_eq_self.2 (fun e _ => by simp)
  refine ⟨_, w.alloc (.mapIter (some g) clock #[] clock), _, ?_, Kp.alloc w _, hp.updAt hi hon (fun k _ hk => hk.elim) (Ent.ns_ok.2 ⟨⟨es, clock, #[], (heap_alloc_old w _ hlt).trans hb, heap_alloc_new w _, hS, by rw [hl], fun k => ?_, fun k hk => by cases hk⟩⟩) (fun k hk => ?_), w.heap.size, es.size, rfl, rfl⟩
  · unfold execOp; simp [ho, ha.ev hx, run_range_map w mt kt et g es clock hm hb, Result.andThen]
  · rw [hl]; constructor
    · intro hk; obtain ⟨v, hv⟩ := Option.isSome_iff_exists.1 hk; exact hS.all k v hv
    · rintro ⟨e, he, hek⟩; obtain ⟨j, v, h1, h2, h3⟩ := hS.ent e he; rw [hek] at h1; obtain rfl : k = j := hS.ij _ _ h1; rw [h3]; rfl
  · rcases Ent.ns_fp.1 hk with rfl | rfl
    · exact .inl (Ent.mf_fp.2 rfl)
    · exact .inr (Nat.le_refl _)
theorem leftOf_push {es : Array MapEntry} {seen : Array Nat} {b : Nat} {x : MapEntry} : x ∈ (leftOf es (seen.push b)).toList ↔ x ∈ (leftOf es seen).toList ∧ x.born ≠ b := by
  unfold leftOf; simp; constructor
  · rintro ⟨h1, h2, h3⟩; exact ⟨⟨h1, h2⟩, h3⟩
  · rintro ⟨⟨h1, h2⟩, h3⟩; exact ⟨h1, h2, h3⟩
theorem zfD {es : Array MapEntry} {seen : Array Nat} {e : MapEntry} (he : e ∈ (leftOf es seen).toList) : (leftOf es (seen.push e.born)).size < (leftOf es seen).size := by
  rw [← Array.length_toList, ← Array.length_toList]; unfold leftOf at he ⊢; rw [Array.toList_filter] at he ⊢; rw [Array.toList_filter]; have hm := List.mem_filter.1 he; exact filter_lt (fun x => !seen.contains x.born) (fun x => !(seen.push e.born).contains x.born) (fun x hx => by simp at hx ⊢; exact hx.1) e (by simpa using hm.2) (by simp) es.toList hm.1
theorem MapF.inj {es : Array MapEntry} {clock : Nat} (h : MapF kV enc es clock f) {x y : MapEntry} (hx : x ∈ es.toList) (hy : y ∈ es.toList) : (x.born = y.born ↔ x.key = y.key) := by
  obtain ⟨a, ha⟩ := List.mem_iff_getElem?.1 hx; obtain ⟨b, hb⟩ := List.mem_iff_getElem?.1 hy
  have key : ∀ {β : Type} (q : MapEntry → β), (es.toList.map q).Nodup → q x = q y → a = b := fun q hn hq => by
    (have ha' : (es.toList.map q)[a]? = some (q x) := by rw [List.getElem?_map, ha]; rfl); (have hb' : (es.toList.map q)[b]? = some (q y) := by rw [List.getElem?_map, hb]; rfl); exact (List.getElem?_inj (List.getElem?_eq_some_iff.1 ha').1 hn).1 (by rw [ha', hb', hq])
  constructor
  · intro q; have := key (·.born) h.st.2.1 q; subst this; rw [ha] at hb; cases hb; rfl
  · intro q; have := key (·.key) h.st.2.2 q; subst this; rw [ha] at hb; cases hb; rfl
variable {left : κ → Bool} {cnt : Nat} {cur : Option κ}
theorem mem_leftOf {es : Array MapEntry} {seen : Array Nat} {x : MapEntry} : x ∈ (leftOf es seen).toList ↔ x ∈ es.toList ∧ x.born ∉ seen := by
  unfold leftOf; simp
theorem Ew.br {x : Operand} (ho : o.op = .next x false) (hx : ev fs x = some (.pointer (some ⟨r, 0, none⟩))) : Ew P n B M fs (.ns kV enc g r f left cnt cur :: hs) o (fun v hs' => (v = .tuple #[.bool false] ∧ hs' = .ns kV enc g r f left cnt cur :: hs ∧ ∀ k, left k = false) ∨ ∃ k u c, v = .tuple #[.bool true, kV k, enc u] ∧ hs' = .ns kV enc g r f (fun j => left j && !decide (j = k)) c (some k) :: hs ∧ left k = true ∧ f k = some u ∧ c < cnt) := Ew.aC fun a w ha hp => by
  obtain ⟨es, clock, seen, hb, hr, hS, hc, hl, hcur⟩ := (Ent.ns_ok.1 (hp.get (i := 0) rfl)).ex; (have hrg : r ≠ g := fun e => by rw [e, hb] at hr; cases hr); rcases run_next_at (P := P) w o.type r g clock clock seen es clock hr hb hS.st.1 (Nat.le_refl _) with ⟨h0, h1⟩ | ⟨e, he, w1, hw1, h1⟩
  · refine ⟨_, w, _, ?_, Kp.refl w, hp, .inl ⟨rfl, rfl, fun k => ?_⟩⟩
    · unfold execOp; simp [ho, ha.ev hx, h1, Result.andThen]
    · cases hk : left k with
      | false => rfl
      | true =>
        obtain ⟨e, he, _⟩ := (hl k).1 hk; rw [Array.eq_empty_of_size_eq_zero h0] at he; simp at he
  · have hes := (mem_leftOf.1 he).1; obtain ⟨k, u, h2, h3, h4⟩ := hS.ent e hes; have hlt := (Array.getElem?_eq_some_iff.1 hr).1; (have hh : w1.heap = w.heap := by rcases hw1 with rfl | rfl <;> rfl)
    have hw' : (setBlock w1 r (.mapIter (some g) clock (seen.push e.born) clock)).heap = w.heap.setIfInBounds r (.mapIter (some g) clock (seen.push e.born) clock) := by
      unfold setBlock; simp [hh]
    have hon : Only (· = r) w (setBlock w1 r (.mapIter (some g) clock (seen.push e.born) clock)) := ⟨by rcases hw1 with rfl | rfl <;> rfl, by rcases hw1 with rfl | rfl <;> rfl, by rcases hw1 with rfl | rfl <;> rfl, by rw [hw']; simp, fun k hk hn => by
      rw [hw']; simp only [Array.getElem?_setIfInBounds]
      rw [if_neg (fun e => hn e.symm)]⟩
    refine ⟨_, _, .ns kV enc g r f (fun j => left j && !decide (j = k)) (leftOf es (seen.push e.born)).size (some k) :: hs, ?_, Kp.only hon (fun k e c => by subst e; rw [hr]; simp), hp.updAt (i := 0) rfl hon (fun k _ hk => Ent.ns_fp.2 (.inr hk)) (Ent.ns_ok.2 ⟨⟨es, clock, seen.push e.born, by rw [hw']; simp [hrg]; exact hb, by rw [hw']; simp [hlt], hS, rfl, fun j => ?_, fun j hj => ?_⟩⟩) (fun k hk => .inl (Ent.ns_fp.2 (Ent.ns_fp.1 hk))), .inr ⟨k, u, _, rfl, rfl, (hl k).2 ⟨e, he, h2⟩, h4, ?_⟩⟩
    · unfold execOp; simp [ho, ha.ev hx, h1, h2, h3, Result.andThen]
    · simp only [Bool.and_eq_true, Bool.not_eq_true', decide_eq_false_iff_not, hl]; constructor
      · rintro ⟨⟨x, hx1, hx2⟩, hjk⟩; refine ⟨x, leftOf_push.2 ⟨hx1, fun q => hjk ?_⟩, hx2⟩; have := (hS.inj (mem_leftOf.1 hx1).1 hes).1 q; rw [hx2, h2] at this; exact hS.ij _ _ this
      · rintro ⟨x, hx1, hx2⟩; obtain ⟨hx3, hx4⟩ := leftOf_push.1 hx1; refine ⟨⟨x, hx3, hx2⟩, fun q => hx4 ((hS.inj (mem_leftOf.1 hx3).1 hes).2 (by rw [hx2, h2, q]))⟩
    · cases hj
      exact ⟨e, hes, seen, rfl, h2⟩
    · rw [hc]; exact zfD he
theorem Yv.bm (i : Nat) {x : Operand} {k : κ} {u : α} (ho : o.op = .entry x) (hx : ev fs x = some (.pointer (some ⟨r, 0, none⟩))) (hi : hs[i]? = some (.ns kV enc g r f left cnt (some k))) (hu : f k = some u) : Yv P n B M fs hs o (.tuple #[kV k, enc u]) := fun a w ha hp => by
  obtain ⟨es, clock, seen, hb, hr, hS, hc, hl, hcur⟩ := (Ent.ns_ok.1 (hp.get hi)).ex; obtain ⟨e, he, s, rfl, hek⟩ := hcur k rfl; obtain ⟨k', u', h2, h3, h4⟩ := hS.ent e he; rw [hek] at h2; obtain rfl : k = k' := hS.ij _ _ h2; rw [hu] at h4; obtain rfl := Option.some.inj h4; unfold execOp; simp [ho, ha.ev hx, run_entry_at w r g clock s es clock e hr hb he hS.st.2.1, hek, h3, Result.andThen]
theorem Hp.nsEnd {w : World} {f' : κ → Option α} (h : f = f') (hp : Hp B M (.ns kV enc g r f left cnt cur :: hs) w) : Hp B M (.mf kV enc g f' :: hs) w := by
  subst h; obtain ⟨es, clock, seen, hb, hr, hS, _⟩ := (Ent.ns_ok.1 (hp.get (i := 0) rfl)).ex; exact hp.updAt (i := 0) rfl (Only.refl (fun _ => False) w) (fun _ _ h => h.elim) (Ent.mf_ok.2 ⟨es, clock, hb, hS⟩) (fun k hk => .inl (Ent.ns_fp.2 (.inl (Ent.mf_fp.1 hk))))
theorem TL.nsEnd {l : List Oper} {f' : κ → Option α} (h : f = f') (k : TL F P n B D M ops Q l fs (.mf kV enc g f' :: hs)) : TL F P n B D M ops Q l fs (.ns kV enc g r f left cnt cur :: hs) := ⟨fun a w ha hw hm => k.out a w ha (Hp.nsEnd h hw) hm⟩
end
theorem zez {c l : List Value} {n j q : Nat} (h : (c.drop 0).take n = l) (hj : j + q ≤ n) : (c.drop j).take q = (l.drop j).take q := by
  subst h; rw [List.drop_zero, List.drop_take, List.take_take, Nat.min_eq_left (by omega)]
section
variable {P : Program} {n : Nat} {B D : World} {M S0 : Nat → Prop} {fs : SFs} {hs : HS} {o : Oper} {v : Value}
theorem Yv.len8 {t : TypeId} {y : Operand} {k : IntKind} {i : Int} (hU : P.underlying t = some .string) (ho : o.op = .index t (.const (.string Lib.len8tab)) y) (hy : ev fs y = some (.int k i)) (h : 0 ≤ i ∧ i ≤ 255) : Yv P n B M fs hs o (.int .u8 (Lib.len8 i)) := fun f w ha _ => by
  have h1 := Lib.run_index_len8tab (P := P) w t k i hU h.1 h.2; have hx0 : ev fs (.const (.string Lib.len8tab)) = some (.string Lib.len8tab) := rfl; generalize Lib.len8tab = T at *; unfold execOp; simp [ho, ha.ev hy, ha.ev hx0]; rw [h1]; rfl
theorem Yv.bn {x : Operand} {t : TypeId} {a : Int} (ho : o.op = .unOp .neg t x) (hx : ev fs x = some (.int .i64 a)) : Yv P n B M fs hs o (.int .i64 (wI (0 - a))) := fun f w ha _ => by
  unfold execOp; simp [ho, ha.ev hx, Op.unary, Op.intArith]
def quoK (k : IntKind) (a b : Int) : Int := k.wrap (a.tdiv b)
theorem Yv.quoK {x y : Operand} {t u : TypeId} {k : IntKind} {a b : Int} (ho : o.op = .binOp .quo t x y u) (hx : ev fs x = some (.int k a)) (hy : ev fs y = some (.int k b)) (hb : b ≠ 0) : Yv P n B M fs hs o (.int k (quoK k a b)) := fun f w ha _ => by
  unfold execOp; simp [ho, ha.ev hx, ha.ev hy, eqGuard, binOp, Op.intDiv, hb, Go.Proofs.YtlaafmiejkebgaaGreat.quoK]
theorem Yv.cf {x y : Operand} {t u : TypeId} {a b : BitVec 64} (ho : o.op = .binOp .quo t x y u) (hx : ev fs x = some (U a)) (hy : ev fs y = some (U b)) (hb : ¬ b = 0#64) : Yv P n B M fs hs o (U (a / b)) :=
  (Yv.quoK (k := .u64) (a := (a.toNat : Int)) (b := (b.toNat : Int)) ho hx hy (fun h => hb (BitVec.eq_of_toNat_eq (Int.ofNat.inj h)))).eq (by
    unfold Go.Proofs.YtlaafmiejkebgaaGreat.quoK; rw [zfQ]
    show Value.int .u64 _ = .int .u64 (((a / b).toNat : Nat) : Int)
    rw [show (a.toNat : Int).tdiv (b.toNat : Int) = ((a.toNat / b.toNat : Nat) : Int) from rfl, BitVec.ofInt_natCast, BitVec.toNat_udiv, BitVec.toNat_ofNat, Nat.mod_eq_of_lt (Nat.lt_of_le_of_lt (Nat.div_le_self _ _) a.isLt)])
theorem K.bO {Q : Exit → Act → World → Prop} {x : Exit} {hs' : HS} (h : hs = hs') (k : K n B D M Q x fs hs') : K n B D M Q x fs hs := h ▸ k
theorem K.aW (i j : Nat) {fn : Func} {R : Ending → World → Prop} {t u t2 u2 : TypeId} {s r g k s2 g2 k2 : Nat} {l l2 : List Value} {x : Value} [hT : TyA P t k] [hT2 : TyA P t2 k2] (hr : fn.results = #[.cell s t, .cell s2 t2, .tmp r]) (hv : look fs s = some (.pointer (some ⟨g, 0, none⟩))) (hv2 : look fs s2 = some (.pointer (some ⟨g2, 0, none⟩))) (hx : look fs r = some x) (hi : hs[i]? = some (.row g u l)) (hj : hs[j]? = some (.row g2 u2 l2)) (hl : l.length = k) (hl2 : l2.length = k2) (h : ∀ w, Hp B M hs w → R (.returned (.tuple #[.agg l.toArray, .agg l2.toArray, x])) w) : K n B D M (zc8 P fn R) .ret fs hs :=
  (K.aT (fun a w ha hw => by
    have h1 := zcv (P := P) (t := t) (Ent.row_ok.1 (hw.get hi)) hl; have h2 := zcv (P := P) (t := t2) (Ent.row_ok.1 (hw.get hj)) hl2
    simp [results, hr, ha.get s _ hv, ha.get s2 _ hv2, ha.get r _ hx, asAddr, h1, h2]) h).1
end
end Go.Proofs.YtlaafmiejkebgaaGreat
