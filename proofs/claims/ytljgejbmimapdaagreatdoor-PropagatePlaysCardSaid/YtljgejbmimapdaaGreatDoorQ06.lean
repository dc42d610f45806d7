/- M5 M6 M7 Pm Pw Fa Fb Fc Fd Ca: shortened and put together by squeeze.py. -/
import Derived.Test.YtljgejbmimapdaaGreatDoorQ05
set_option maxRecDepth 100000
set_option maxHeartbeats 4000000
set_option linter.unusedVariables false
set_option linter.unusedSectionVars false
set_option linter.unusedSimpArgs false
namespace Go.Proofs.YtljgejbmimapdaaGreatDoor
open Go.RowKit
def dE (d : Dx) : Ent := .sl d.v 3 1 d.chs.length (d.chs.flatMap Ie)
def domsF (Y : Tb) (L : Ws) (k : Nat) : List (Int × List Int) := (List.range k).map fun i => (nth Y.st i, (chansN (nth L i)).map fun j : Nat => (j : Int))
def Dx.pl (d : Dx) : Int × List Int := (d.st, d.chs)
def fillD (xs : List Dx) (n : Nat) : List Value := xs.flatMap Dx.cells ++ (List.replicate (n - xs.length) (default : Dx)).flatMap Dx.cells
theorem cellsD_len (xs : List Dx) : (xs.flatMap Dx.cells).length = xs.length * 2 := flat_len Dx.cells 2 (fun _ => rfl) xs
theorem fillD_len {xs : List Dx} {n : Nat} (h : xs.length ≤ n) : (fillD xs n).length = n * 2 := by
  unfold fillD; rw [List.length_append, cellsD_len, cellsD_len, List.length_replicate]; omega
theorem fillD_store {xs : List Dx} {n p : Nat} {d : Dx} (h : xs.length < n) (hp : p = xs.length * 2) : (fillD xs n).take p ++ [.int .i64 d.st, d.v] ++ (fillD xs n).drop (p + [Value.int .i64 d.st, d.v].length) = fillD (xs ++ [d]) n := by
  subst hp
  have e : fillD xs n = xs.flatMap Dx.cells ++ (Dx.cells default ++ (List.replicate (n - (xs.length + 1)) (default : Dx)).flatMap Dx.cells) := by
    unfold fillD; rw [show n - xs.length = (n - (xs.length + 1)) + 1 by omega, List.replicate_succ, List.flatMap_cons]
  rw [e, List.take_left' (cellsD_len xs), ← List.append_assoc, List.drop_left' (by rw [List.length_append, cellsD_len]; rfl)]; unfold fillD; rw [List.flatMap_append, List.length_append]
  rfl
theorem made_two (n : Nat) : (madeCells [Value.int .i64 0, .slice none 0 0].toArray (n * 2)).toList = fillD [] n := by
  apply List.ext_getElem?; intro i; unfold fillD; simp only [List.flatMap_nil, List.nil_append, List.length_nil, Nat.sub_zero]; by_cases h : i < n * 2
  · have h2 := flat_get Dx.cells 2 (fun _ => rfl) (List.replicate n (default : Dx)) (i / 2) (by rw [List.length_replicate]; omega) (i % 2) (by omega); rw [show i / 2 * 2 + i % 2 = i by omega] at h2; rw [h2, List.getElem_replicate]; simp only [madeCells]; rcases Nat.mod_two_eq_zero_or_one i with hm | hm <;> simp [h, hm, Dx.cells, default, instInhabitedDx]
  · rw [List.getElem?_eq_none (by simp [madeCells]; omega), List.getElem?_eq_none (by rw [cellsD_len, List.length_replicate]; omega)]
theorem domsF_succ {Y : Tb} {L : Ws} {k : Nat} : domsF Y L (k + 1) = domsF Y L k ++ [(nth Y.st k, (chansN (nth L k)).map fun j : Nat => (j : Int))] := by
  unfold domsF; rw [List.range_succ, List.map_append]; rfl
theorem DomsAt.own {B w : World} {M : Nat → Prop} {hs : HS} {v : Value} {xs : List Dx} {e : TypeId} (hw : Hp B M hs w) (i j : Nat) (hi : hs[i]? = some (.sl v e 2 xs.length (xs.flatMap Dx.cells))) (hj : hs[j]? = some (.bag (xs.map dE))) : DomsAt w v xs where
  sl := SlOf.own (enc := Dx.cells) (size := 2) (fun _ => rfl) (Ent.sl_ok.1 (hw.get hi)) rfl
  each d hd := by
    have h1 : (Ent.sl d.v 3 1 d.chs.length (d.chs.flatMap Ie)).ok w := (Ent.bag_ok.1 (hw.get hj)).1 (dE d) (List.mem_map.2 ⟨d, hd, rfl⟩); exact SlOf.own (enc := Ie) (size := 1) (fun _ => rfl) (Ent.sl_ok.1 h1) rfl
theorem fillD_full {xs : List Dx} : fillD xs xs.length = xs.flatMap Dx.cells := by unfold fillD; simp
theorem domains_bad (sp : Nat) (Y : Tb) (L : Ws) (w : World) (h : StateAt w sp Y L true) : Calls Tryz.prog 19 #[.pointer (some ⟨sp, 0, none⟩)] w fun e w' => e = .returned (.slice none 0 0) ∧ Below w.heap.size w w' := by
  have hcon := h.con; refine calls_T (M := fun _ => False) (hs := []) Tryz.func19 rfl rfl rfl (Hp.refl _ _) ?_; refine T.seq (T.region ?_); refine TL.run 1 rfl ?_; refine TL.nil (K.seq (T.seq (T.seq (T.region ?_)))); refine TL.run 1 rfl ?_; (refine TL.ew (Wt.none rfl) rfl rfl (Ew.callD rfl rfl rfl (fun w hw => missing_ret sp Y L true w (h.kept hw))) ?_; rintro _ _ ⟨rfl, rfl⟩); refine TL.run 1 rfl ?_; refine TL.yv (Wt.some rfl rfl rfl rfl) rfl rfl (Yv.pur rfl) ?_; refine TL.yv (Wt.some rfl rfl rfl rfl) rfl rfl (Yv.pur rfl) ?_; refine TL.yv (Wt.some rfl rfl rfl rfl) rfl rfl (Yv.fieldAddr rfl rfl) ?_; refine TL.yv (Wt.some rfl rfl rfl rfl) rfl rfl (Yv.loadB rfl rfl hcon (fun h => h)) ?_; refine TL.run 1 rfl ?_; refine TL.nil (K.seq ?_); refine T.condT rfl rfl ?_; refine T.seq (T.region ?_); refine TL.run 1 rfl ?_; refine TL.nil (K.seq (T.ret (K.then_ret ?_))); refine K.ret1 rfl rfl (fun w' hw => ⟨?_, hw.isBelow⟩)
  rfl
theorem domains_ok (sp : Nat) (Y : Tb) (L : Ws) (w : World) (h : StateAt w sp Y L false) (hok : Y.Ok) : Calls Tryz.prog 19 #[.pointer (some ⟨sp, 0, none⟩)] w fun e w' => ∃ y : Value × List Dx, y.2.map Dx.pl = domsF Y L Y.n ∧ e = .returned y.1 ∧ Hp w (fun _ => False) [.sl y.1 57 2 y.2.length (y.2.flatMap Dx.cells), .bag (y.2.map dE)] w' := by
  obtain ⟨tp, hsp0, hT⟩ := h.tb; obtain ⟨vL, hsp1, hL⟩ := h.left; obtain ⟨AL, capL, rfl, hLs⟩ := hL.op; have hLn := h.len; have hcon := h.con; obtain ⟨vS, hS0, hS⟩ := hT.st; obtain ⟨AS, capS, rfl, hSs⟩ := hS.op; have hn512 := hok.n; have hstn : Y.st.length = Y.n := rfl; refine calls_T (M := fun _ => False) (hs := []) Tryz.func19 rfl rfl rfl (Hp.refl _ _) ?_; refine T.seq (T.region ?_); refine TL.run 1 rfl ?_; refine TL.nil (K.seq (T.seq (T.seq (T.region ?_)))); refine TL.run 1 rfl ?_; (refine TL.ew (Wt.none rfl) rfl rfl (Ew.callD rfl rfl rfl (fun w hw => missing_ret sp Y L false w (h.kept hw))) ?_; rintro _ _ ⟨rfl, rfl⟩); refine TL.run 1 rfl ?_; refine TL.yv (Wt.some rfl rfl rfl rfl) rfl rfl (Yv.pur rfl) ?_; refine TL.yv (Wt.some rfl rfl rfl rfl) rfl rfl (Yv.pur rfl) ?_; refine TL.yv (Wt.some rfl rfl rfl rfl) rfl rfl (Yv.fieldAddr rfl rfl) ?_; refine TL.yv (Wt.some rfl rfl rfl rfl) rfl rfl (Yv.loadB rfl rfl hcon (fun h => h)) ?_; refine TL.run 1 rfl ?_; refine TL.nil (K.seq ?_); refine T.condF rfl rfl ?_; refine T.skip (K.seq (T.seq (T.region ?_))); refine TL.run 2 rfl ?_; refine TL.y (Yv.fieldAddr rfl rfl) ?_; refine TL.y (Yv.loadB rfl rfl hsp1 (fun h => h)) ?_; refine TL.y (Yv.lenSl rfl rfl) ?_; (refine TL.ew (Wt.none rfl) rfl rfl (Ew.makeSlice rfl rfl rfl rfl rfl (by omega) (by omega)) ?_; rintro _ _ ⟨g19, rfl, rfl⟩); refine TL.run 1 rfl ?_; refine TL.nil (K.seq (T.seq (T.seq ?_))); rw [made_two]; refine T.bag0 [] (fun _ _ he => by cases he) (fun _ he => by cases he) ?_; refine T.permH (List.Perm.swap _ _ _) ?_; refine T.region ?_; refine TL.run 2 rfl ?_; refine TL.y (Yv.fieldAddr rfl rfl) ?_; refine TL.y (Yv.loadB rfl rfl hsp1 (fun h => h)) ?_; refine TL.y (Yv.lenSl rfl rfl) ?_; refine TL.run 1 rfl ?_; refine TL.nil (K.seq (T.block ?_)); refine T.loop (ι := List Dx) (fun xs => [(0, .pointer (some ⟨sp, 0, none⟩)), (3, sV g19 L.length), (23, .slice AL L.length capL), (24, .int .i64 (L.length : Int)), (25, .int .i64 (xs.length : Int))]) (fun xs => [.sl (sV g19 L.length) 57 2 L.length (fillD xs L.length), .bag (xs.map dE)]) (fun xs => xs.length ≤ L.length ∧ xs.map Dx.pl = domsF Y L xs.length) (fun xs => L.length - xs.length) [] ?_ ?_ ?_ ?_
  · exact ⟨Nat.zero_le _, rfl⟩
  · exact (by repeat (first | exact Sub.nil | refine Sub.cons rfl ?_))
  · exact (by repeat first | exact S0 | exact S1 | refine S2 ?_ | refine S3 ?_)
  · intro xs hphi; obtain ⟨hxl, hxs⟩ := hphi; refine T.seq (T.region ?_); refine TL.run 1 rfl ?_; refine TL.nil (K.seq (T.seq ?_)); refine T.cond rfl (fun h1 => ?_) (fun h1 => ?_)
    · have p1 := h1; (try simp only [nfB] at p1); obtain ⟨gL, oL, rfl, hc⟩ := hLs (by omega); have hk := hc xs.length (by omega); simp only [Le] at hk; obtain ⟨gS, oS, rfl, hcS⟩ := hSs (by omega); have hkS := hcS xs.length (by omega); simp only [Ie] at hkS; refine T.skip (K.seq (T.seq (T.block (T.seq (T.region ?_))))); refine TL.run 1 rfl ?_; refine TL.y (Yv.indexSl rfl rfl rfl rfl (by omega)) ?_; refine TL.y (Yv.loadC (j := 0) rfl rfl hk rfl rfl (fun h => h)) ?_; refine TL.run 2 rfl ?_; refine TL.nil (K.seq ?_); refine T.draw (.still 0 (.still 1 (.still 2 (.still 3 (.still 4 (.still 5 (.still 6 (.still 7 (.still 8 (.still 9 (.still 10 (.still 11 (.still 12 (.eff 13 (.still 14 (.still 15 (.eff 16 .done))))))))))))))))) [.bag (xs.map dE)] (by kernel_rfl) (by repeat first | exact S0 | exact S1 | refine S2 ?_ | refine S3 ?_) ?_; refine TS.run 4 rfl ?_; refine TS.y rfl (Yv.fieldAddr rfl rfl) ?_; refine TS.y rfl (Yv.loadB rfl rfl hsp0 (fun h => h)) ?_; refine TS.run 1 rfl ?_; refine TS.y rfl (Yv.fieldAddr rfl rfl) ?_; refine TS.y rfl (Yv.loadB rfl rfl hS0 (fun h => h)) ?_; refine TS.run 1 rfl ?_; refine TS.y rfl (Yv.indexSl rfl rfl rfl rfl (by omega)) ?_; refine TS.y rfl (Yv.loadC (j := 0) rfl rfl hkS rfl rfl (fun h => h)) ?_; refine TS.run 1 rfl ?_; refine TS.eff ?_; (refine TSo.ew rfl (Wt.none rfl) rfl rfl (Ew.callH rfl rfl rfl (fun w hw => channels_ret _ w (h.tab.keptF hw))) ?_; rintro v43 _ ⟨_, hv43, rfl, rfl⟩; refine ⟨(by repeat first | exact S0 | exact S1 | refine S2 ?_ | refine S3 ?_), ?_⟩); refine TS.y rfl (Yv.build rfl rfl) ?_; refine TS.y rfl (Yv.indexSl rfl rfl rfl rfl (by omega)) ?_; refine TS.eff ?_; (refine TSo.ew0 rfl (Wt.none rfl) rfl (Ew.storeSA 1 rfl rfl rfl rfl rfl (by rw [fillD_len (by omega)]; simp; omega)) ?_; rintro _ _ ⟨rfl, rfl⟩; refine ⟨(by repeat first | exact S0 | exact S1 | refine S2 ?_ | refine S3 ?_), ?_⟩); refine TS.done ?_; refine K.blk_normal (K.seq (T.region ?_)); refine TL.y (Yv.addI rfl rfl rfl (by omega)) ?_; refine TL.run 1 rfl ?_; refine TL.nil ?_; refine K.intoBE 1 ((xs ++ [(Dx.mk (nth Y.st xs.length) v43 ((chansN (nth L xs.length)).map fun j : Nat => (j : Int)))]).map dE) rfl (by rw [List.map_append]; simp only [List.map_cons, List.map_nil, dE, List.length_map]; rw [← nums_flat]) ?_; exact K.next (xs ++ [(Dx.mk (nth Y.st xs.length) v43 ((chansN (nth L xs.length)).map fun j : Nat => (j : Int)))]) ⟨by simp; omega, by rw [List.map_append, hxs, List.length_append]; exact domsF_succ.symm⟩ (by simp; omega) (by repeat (first | exact Sub.nil | refine Sub.cons rfl ?_ | (refine Sub.consI rfl (by simp) ?_))) (by rw [← fillD_store (p := 0 + xs.length * 2) (d := (Dx.mk (nth Y.st xs.length) v43 ((chansN (nth L xs.length)).map fun j : Nat => (j : Int)))) (by omega) (by omega)]; exact (by repeat first | exact S0 | exact S1 | refine S2 ?_ | refine S3 ?_))
    · have p1 := h1; (try simp only [nfB] at p1); refine T.exit (K.then_exit (K.then_exit (K.blk_exit_eq (K.seq (T.seq (T.region ?_)))))); refine TL.run 2 rfl ?_; refine TL.nil (K.seq (T.ret ?_)); exact K.ret1 rfl rfl (fun w' hw => ⟨(sV g19 L.length, xs), by rw [hxs, show xs.length = Y.n by omega], rfl, by rw [show L.length = xs.length by omega, fillD_full] at hw; rw [show L.length = xs.length by omega]; exact hw⟩)
end Go.Proofs.YtljgejbmimapdaaGreatDoor
namespace Go.Proofs.YtljgejbmimapdaaGreatDoor
open Go.RowKit
theorem eq3 (i j : Int) (n : Nat) (w : World) : (Op.equalIn (n + 1) 3 (.int .i64 i) (.int .i64 j)).run Tryz.prog w = .ok (i == j) w := by
  unfold Op.equalIn; simp [underlying, Tryz.underlying3]
theorem stoodC : Tryz.prog.stoodInHeld 46 = false := by kernel_rfl
theorem eqgC : Tryz.prog.eqGuardType Tryz.prog.depth 46 = false := by kernel_rfl
theorem ptc0 (a b : Int) (w : World) : (part 3 #[.int .i64 a, .int .i64 b] 0).run Tryz.prog w = .ok (.int .i64 a) w := by kernel_rfl
theorem ptc1 (a b : Int) (w : World) : (part 3 #[.int .i64 a, .int .i64 b] 1).run Tryz.prog w = .ok (.int .i64 b) w := by kernel_rfl
theorem equal_ch (x y : Ch) (w : World) : (Op.equal 46 (.agg x.cells.toArray) (.agg y.cells.toArray)).run Tryz.prog w = .ok (decide (x = y)) w := by
  obtain ⟨a, b⟩ := x; obtain ⟨a', b'⟩ := y; have e3 : ∀ (i j : Int) w, (Op.equalIn 9999 3 (.int .i64 i) (.int .i64 j)).run Tryz.prog w = .ok (i == j) w := fun i j => eq3 i j 9998; unfold Op.equal Ch.cells; rw [show Op.maxDepth = 9998 + 1 + 1 from rfl]; unfold Op.equalIn; simp [underlying, Tryz.underlying46, stoodC, ptc0, ptc1, e3]; by_cases h1 : a = a' <;> by_cases h2 : b = b' <;> simp [h1, h2]
section
variable {n : Nat} {B : World} {M : Nat → Prop} {fs : SFs} {hs : HS} {o : Oper}
theorem Yv.neCh {x y : Operand} {u : TypeId} {a b : Ch} (ho : o.op = .binOp .neq 46 x y u) (hx : ev fs x = some (.agg a.cells.toArray)) (hy : ev fs y = some (.agg b.cells.toArray)) : Yv Tryz.prog n B M fs hs o (.bool (!decide (a = b))) := fun f w ha _ => by
  have he := equal_ch a b w; unfold execOp
  have hg : (eqGuard .neq 46 x y (.agg a.cells.toArray) (.agg b.cells.toArray)).run Tryz.prog w = .ok () w := by
    simp [eqGuard, eqgC]
  simp only [ho, ha.ev hx, ha.ev hy, Sem.run_bind, hg, Result.andThen_ok]; simp only [binOp, Sem.run_bind, he, Result.andThen_ok, Sem.run_pure]
end
theorem same_end {α : Type} [Inhabited α] [DecidableEq α] {xs ys : List α} {k : Nat} (hl : (xs.length : Int) = (ys.length : Int)) (h : ∀ j, j < k → nth xs j = nth ys j) (hk : xs.length ≤ k) : decide (xs = ys) = true := by
  apply decide_eq_true; apply List.ext_getElem (by omega); intro j h1 h2; have := h j (by omega)
  rwa [nth_eq h1, nth_eq h2] at this
theorem same_not {α : Type} [Inhabited α] [DecidableEq α] {xs ys : List α} {k : Nat} (h : ¬ nth xs k = nth ys k) : decide (xs = ys) = false := decide_eq_false fun e => h (by rw [e])
theorem same_len {α : Type} [DecidableEq α] {xs ys : List α} (h : ¬ (xs.length : Int) = (ys.length : Int)) : decide (xs = ys) = false := decide_eq_false fun e => h (by rw [e])
theorem sameInts_ret (xs ys : List Int) (v v2 : Value) (w : World) (h : SlOf w v Ie 1 xs) (h2 : SlOf w v2 Ie 1 ys) (hl : xs.length ≤ 9223372036854775807) : Calls Tryz.prog 35 #[v, v2] w fun e w' => e = .returned (.bool (decide (xs = ys))) ∧ Below w.heap.size w w' := by
  obtain ⟨A, cap, rfl, hsl⟩ := h.op; obtain ⟨A2, cap2, rfl, hsl2⟩ := h2.op; refine calls_T (M := fun _ => False) (hs := []) Tryz.func35 rfl rfl rfl (Hp.refl _ _) ?_; refine T.seq (T.region ?_); refine TL.run 1 rfl ?_; refine TL.nil (K.seq (T.seq (T.seq (T.region ?_)))); refine TL.run 1 rfl ?_; refine TL.y (Yv.lenSl rfl rfl) ?_; refine TL.run 1 rfl ?_; refine TL.y (Yv.lenSl rfl rfl) ?_; refine TL.run 1 rfl ?_; refine TL.nil (K.seq ?_); refine T.cond rfl (fun h1 => ?_) (fun h1 => ?_)
  · have p1 := h1; (try simp only [nfB] at p1); refine T.seq (T.region ?_); refine TL.run 1 rfl ?_; refine TL.nil (K.seq (T.ret (K.then_ret ?_))); exact K.ret1 rfl rfl (fun w' hw => ⟨by rw [same_len (by assumption)], hw.isBelow⟩)
  · have p1 := h1; (try simp only [nfB] at p1); refine T.skip (K.seq (T.seq (T.seq (T.region ?_)))); refine TL.run 1 rfl ?_; refine TL.nil (K.seq (T.block ?_)); refine T.loop (ι := Nat) (fun k => [(0, .slice A xs.length cap), (1, .slice A2 ys.length cap2), (5, .int .i64 (k : Int))]) (fun k => []) (fun k => k ≤ xs.length ∧ ∀ j, j < k → nth xs j = nth ys j) (fun k => xs.length - k) 0 ?_ ?_ ?_ ?_
    · exact ⟨by omega, fun j hj => by omega⟩
    · exact (by repeat (first | exact Sub.nil | refine Sub.cons rfl ?_))
    · exact (by repeat first | exact S0 | exact S1 | refine S2 ?_ | refine S3 ?_)
    · intro k hphi; obtain ⟨hkl, hall⟩ := hphi; refine T.seq (T.seq (T.region ?_)); refine TL.run 2 rfl ?_; refine TL.y (Yv.lenSl rfl rfl) ?_; refine TL.run 1 rfl ?_; refine TL.nil (K.seq ?_); refine T.cond rfl (fun h2 => ?_) (fun h2 => ?_)
      · have p2 := h2; (try simp only [nfB] at p2); obtain ⟨g, off, rfl, hc⟩ := hsl (by omega); obtain ⟨g2, off2, rfl, hc2⟩ := hsl2 (by omega); have hk := hc k (by omega); have hk2 := hc2 k (by omega); simp only [Ie] at hk hk2; refine T.skip (K.seq (T.seq (T.block (T.seq ?_)))); refine T.draw (.still 0 (.still 1 (.still 2 (.still 3 (.still 4 (.still 5 (.still 6 (.still 7 (.still 8 .done))))))))) _ (by kernel_rfl) (List.Sublist.refl _) ?_; refine TS.run 2 rfl ?_; refine TS.y rfl (Yv.indexSl rfl rfl rfl rfl (by omega)) ?_; refine TS.y rfl (Yv.loadC (j := 0) rfl rfl hk rfl rfl (fun h => h)) ?_; refine TS.run 2 rfl ?_; refine TS.y rfl (Yv.indexSl rfl rfl rfl rfl (by omega)) ?_; refine TS.y rfl (Yv.loadC (j := 0) rfl rfl hk2 rfl rfl (fun h => h)) ?_; refine TS.run 1 rfl ?_; refine TS.done ?_; refine K.seq ?_; refine T.cond rfl (fun h3 => ?_) (fun h3 => ?_)
        · have p3 := h3; (try simp only [nfB] at p3); refine T.seq (T.region ?_); refine TL.run 1 rfl ?_; refine TL.nil (K.seq (T.ret (K.blk_ret (K.then_ret (K.then_ret (K.blk_ret (K.then_ret ?_))))))); exact K.ret1 rfl rfl (fun w' hw => ⟨by rw [same_not (k := k) (by simpa using h3)], hw.isBelow⟩)
        · have p3 := h3; (try simp only [nfB] at p3); refine T.skip (K.blk_normal (K.seq (T.region ?_))); refine TL.run 1 rfl ?_; refine TL.y (Yv.addI rfl rfl rfl (by omega)) ?_; refine TL.run 1 rfl ?_; refine TL.nil ?_; exact K.next (k + 1) ⟨by omega, upto_succ hall (by simpa using h3)⟩ (by omega) (by repeat (first | exact Sub.nil | refine Sub.cons rfl ?_)) (by repeat first | exact S0 | exact S1 | refine S2 ?_ | refine S3 ?_)
      · have p2 := h2; (try simp only [nfB] at p2); refine T.exit (K.then_exit (K.then_exit (K.blk_exit_eq (K.seq (T.seq (T.region ?_)))))); refine TL.run 1 rfl ?_; refine TL.nil (K.seq (T.ret ?_)); exact K.ret1 rfl rfl (fun w' hw => ⟨by rw [same_end (by omega) hall (by omega)], hw.isBelow⟩)
theorem sameList_ret (xs ys : List Ch) (v v2 : Value) (w : World) (h : SlOf w v Ch.cells 2 xs) (h2 : SlOf w v2 Ch.cells 2 ys) (hl : xs.length ≤ 9223372036854775807) : Calls Tryz.prog 21 #[v, v2] w fun e w' => e = .returned (.bool (decide (xs = ys))) ∧ Below w.heap.size w w' := by
  obtain ⟨A, cap, rfl, hsl⟩ := h.op; obtain ⟨A2, cap2, rfl, hsl2⟩ := h2.op; refine calls_T (M := fun _ => False) (hs := []) Tryz.func21 rfl rfl rfl (Hp.refl _ _) ?_; refine T.seq (T.region ?_); refine TL.run 1 rfl ?_; refine TL.nil (K.seq (T.seq (T.seq (T.region ?_)))); refine TL.run 1 rfl ?_; refine TL.y (Yv.lenSl rfl rfl) ?_; refine TL.run 1 rfl ?_; refine TL.y (Yv.lenSl rfl rfl) ?_; refine TL.run 1 rfl ?_; refine TL.nil (K.seq ?_); refine T.cond rfl (fun h1 => ?_) (fun h1 => ?_)
  · have p1 := h1; (try simp only [nfB] at p1); refine T.seq (T.region ?_); refine TL.run 1 rfl ?_; refine TL.nil (K.seq (T.ret (K.then_ret ?_))); exact K.ret1 rfl rfl (fun w' hw => ⟨by rw [same_len (by assumption)], hw.isBelow⟩)
  · have p1 := h1; (try simp only [nfB] at p1); refine T.skip (K.seq (T.seq (T.seq (T.region ?_)))); refine TL.run 1 rfl ?_; refine TL.nil (K.seq (T.block ?_)); refine T.loop (ι := Nat) (fun k => [(0, .slice A xs.length cap), (1, .slice A2 ys.length cap2), (5, .int .i64 (k : Int))]) (fun k => []) (fun k => k ≤ xs.length ∧ ∀ j, j < k → nth xs j = nth ys j) (fun k => xs.length - k) 0 ?_ ?_ ?_ ?_
    · exact ⟨by omega, fun j hj => by omega⟩
    · exact (by repeat (first | exact Sub.nil | refine Sub.cons rfl ?_))
    · exact (by repeat first | exact S0 | exact S1 | refine S2 ?_ | refine S3 ?_)
    · intro k hphi; obtain ⟨hkl, hall⟩ := hphi; refine T.seq (T.seq (T.region ?_)); refine TL.run 2 rfl ?_; refine TL.y (Yv.lenSl rfl rfl) ?_; refine TL.run 1 rfl ?_; refine TL.nil (K.seq ?_); refine T.cond rfl (fun h2 => ?_) (fun h2 => ?_)
      · have p2 := h2; (try simp only [nfB] at p2); obtain ⟨g, off, rfl, hc⟩ := hsl (by omega); obtain ⟨g2, off2, rfl, hc2⟩ := hsl2 (by omega); have hk := hc k (by omega); have hk2 := hc2 k (by omega); refine T.skip (K.seq (T.seq (T.block (T.seq ?_)))); refine T.draw (.still 0 (.still 1 (.still 2 (.still 3 (.still 4 (.still 5 (.still 6 (.still 7 (.still 8 .done))))))))) _ (by kernel_rfl) (List.Sublist.refl _) ?_; refine TS.run 2 rfl ?_; refine TS.y rfl (Yv.indexSl rfl rfl rfl rfl (by omega)) ?_; refine TS.y rfl (Yv.loadAB rfl rfl hk rfl (fun h => h)) ?_; refine TS.run 2 rfl ?_; refine TS.y rfl (Yv.indexSl rfl rfl rfl rfl (by omega)) ?_; refine TS.y rfl (Yv.loadAB rfl rfl hk2 rfl (fun h => h)) ?_; refine TS.y rfl (Yv.neCh rfl rfl rfl) ?_; refine TS.done ?_; refine K.seq ?_; refine T.cond rfl (fun h3 => ?_) (fun h3 => ?_)
        · have p3 := h3; (try simp only [nfB] at p3); refine T.seq (T.region ?_); refine TL.run 1 rfl ?_; refine TL.nil (K.seq (T.ret (K.blk_ret (K.then_ret (K.then_ret (K.blk_ret (K.then_ret ?_))))))); exact K.ret1 rfl rfl (fun w' hw => ⟨by rw [same_not (k := k) (by simpa using h3)], hw.isBelow⟩)
        · have p3 := h3; (try simp only [nfB] at p3); refine T.skip (K.blk_normal (K.seq (T.region ?_))); refine TL.run 1 rfl ?_; refine TL.y (Yv.addI rfl rfl rfl (by omega)) ?_; refine TL.run 1 rfl ?_; refine TL.nil ?_; exact K.next (k + 1) ⟨by omega, upto_succ hall (by simpa using h3)⟩ (by omega) (by repeat (first | exact Sub.nil | refine Sub.cons rfl ?_)) (by repeat first | exact S0 | exact S1 | refine S2 ?_ | refine S3 ?_)
      · have p2 := h2; (try simp only [nfB] at p2); refine T.exit (K.then_exit (K.then_exit (K.blk_exit_eq (K.seq (T.seq (T.region ?_)))))); refine TL.run 1 rfl ?_; refine TL.nil (K.seq (T.ret ?_)); exact K.ret1 rfl rfl (fun w' hw => ⟨by rw [same_end (by omega) hall (by omega)], hw.isBelow⟩)
instance : Inhabited (Int × List Int) := ⟨(0, [])⟩
theorem nth_map {α β : Type} [Inhabited α] [Inhabited β] {f : α → β} {xs : List α} {k : Nat} (h : k < xs.length) : nth (xs.map f) k = f (nth xs k) := by simp [nth, h]
theorem sameDomains_ret (xs ys : List Dx) (v v2 : Value) (w : World) (h : DomsAt w v xs) (h2 : DomsAt w v2 ys) (hl : xs.length ≤ 9223372036854775807) (hlc : ∀ d ∈ xs, d.chs.length ≤ 9223372036854775807) : Calls Tryz.prog 18 #[v, v2] w fun e w' => e = .returned (.bool (decide (xs.map Dx.pl = ys.map Dx.pl))) ∧ Below w.heap.size w w' := by
  obtain ⟨A, cap, rfl, hsl⟩ := h.sl.op; obtain ⟨A2, cap2, rfl, hsl2⟩ := h2.sl.op; refine calls_T (M := fun _ => False) (hs := []) Tryz.func18 rfl rfl rfl (Hp.refl _ _) ?_; refine T.seq (T.region ?_); refine TL.run 1 rfl ?_; refine TL.nil (K.seq (T.seq (T.seq (T.region ?_)))); refine TL.run 1 rfl ?_; refine TL.y (Yv.lenSl rfl rfl) ?_; refine TL.run 1 rfl ?_; refine TL.y (Yv.lenSl rfl rfl) ?_; refine TL.run 1 rfl ?_; refine TL.nil (K.seq ?_); refine T.cond rfl (fun h1 => ?_) (fun h1 => ?_)
  · have p1 := h1; (try simp only [nfB] at p1); refine T.seq (T.region ?_); refine TL.run 1 rfl ?_; refine TL.nil (K.seq (T.ret (K.then_ret ?_))); exact K.ret1 rfl rfl (fun w' hw => ⟨by rw [same_len (by rw [List.length_map, List.length_map]; assumption)], hw.isBelow⟩)
  · have p1 := h1; (try simp only [nfB] at p1); refine T.skip (K.seq (T.seq (T.seq (T.region ?_)))); refine TL.run 1 rfl ?_; refine TL.nil (K.seq (T.block ?_)); refine T.loop (ι := Nat) (fun k => [(0, .slice A xs.length cap), (1, .slice A2 ys.length cap2), (5, .int .i64 (k : Int))]) (fun k => []) (fun k => k ≤ xs.length ∧ ∀ j, j < k → nth (xs.map Dx.pl) j = nth (ys.map Dx.pl) j) (fun k => xs.length - k) 0 ?_ ?_ ?_ ?_
    · exact ⟨by omega, fun j hj => by omega⟩
    · exact (by repeat (first | exact Sub.nil | refine Sub.cons rfl ?_))
    · exact (by repeat first | exact S0 | exact S1 | refine S2 ?_ | refine S3 ?_)
    · intro k hphi; obtain ⟨hkl, hall⟩ := hphi; refine T.seq (T.seq (T.region ?_)); refine TL.run 2 rfl ?_; refine TL.y (Yv.lenSl rfl rfl) ?_; refine TL.run 1 rfl ?_; refine TL.nil (K.seq ?_); refine T.cond rfl (fun h2 => ?_) (fun h2 => ?_)
      · have p2 := h2; (try simp only [nfB] at p2); obtain ⟨g, off, rfl, hc⟩ := hsl (by omega); obtain ⟨g2, off2, rfl, hc2⟩ := hsl2 (by omega); have hk := hc k (by omega); have hk2 := hc2 k (by omega); simp only [Dx.cells] at hk hk2; refine T.skip (K.seq (T.seq (T.block (T.seq ?_)))); refine T.draw (.still 0 (.still 1 (.still 2 (.still 3 (.still 4 (.still 5 (.still 6 (.still 7 (.still 8 (.still 9 (.still 10 (.still 11 (.still 12 (.still 13 (.still 14 (.still 15 (.still 16 (.still 17 (.still 18 (.still 19 (.still 20 (.still 21 (.eff 22 (.still 23 (.still 24 .done))))))))))))))))))))))))) _ (by kernel_rfl) (List.Sublist.refl _) ?_; refine TS.run 2 rfl ?_; refine TS.y rfl (Yv.indexSl rfl rfl rfl rfl (by omega)) ?_; refine TS.y rfl (Yv.fieldAddr rfl rfl) ?_; refine TS.y rfl (Yv.loadC (j := 0) rfl rfl hk rfl rfl (fun h => h)) ?_; refine TS.run 2 rfl ?_; refine TS.y rfl (Yv.indexSl rfl rfl rfl rfl (by omega)) ?_; refine TS.y rfl (Yv.fieldAddr rfl rfl) ?_; refine TS.y rfl (Yv.loadC (j := 0) rfl rfl hk2 rfl rfl (fun h => h)) ?_; refine TS.run 2 rfl ?_; refine TS.gsplit rfl rfl rfl rfl (fun h3 => ?_) (fun h3 => ?_)
        · have p3 := h3; (try simp only [nfB] at p3); refine TS.stillOff rfl (Wt.not rfl rfl rfl h3) rfl rfl ?_; refine TS.stillOff rfl (Wt.not rfl rfl rfl h3) rfl rfl ?_; refine TS.stillOff rfl (Wt.not rfl rfl rfl h3) rfl rfl ?_; refine TS.stillOff rfl (Wt.not rfl rfl rfl h3) rfl rfl ?_; refine TS.stillOff rfl (Wt.not rfl rfl rfl h3) rfl rfl ?_; refine TS.stillOff rfl (Wt.not rfl rfl rfl h3) rfl rfl ?_; refine TS.stillOff rfl (Wt.not rfl rfl rfl h3) rfl rfl ?_; refine TS.stillOff rfl (Wt.not rfl rfl rfl h3) rfl rfl ?_; refine TS.stillOff rfl (Wt.not rfl rfl rfl h3) rfl rfl ?_; refine TS.stillOff rfl (Wt.not rfl rfl rfl h3) rfl rfl ?_; refine TS.eff ?_; refine TSo.off rfl (Wt.not rfl rfl rfl h3) rfl rfl ?_; refine TS.stillOff rfl (Wt.not rfl rfl rfl h3) rfl rfl ?_; refine TS.y rfl (Yv.pickT rfl rfl h3 rfl) ?_; refine TS.done ?_; refine K.seq ?_; refine T.condT rfl rfl ?_; refine T.seq (T.region ?_); refine TL.run 1 rfl ?_; refine TL.nil (K.seq (T.ret (K.blk_ret (K.then_ret (K.then_ret (K.blk_ret (K.then_ret ?_))))))); exact K.ret1 rfl rfl (fun w' hw => ⟨by rw [same_not (k := k) (by rw [nth_map (by omega), nth_map (by omega)]; unfold Dx.pl; simp_all)], hw.isBelow⟩)
        · have p3 := h3; (try simp only [nfB] at p3); refine TS.still rfl (Wt.some rfl rfl rfl h3) rfl rfl (Yv.pur rfl) ?_; refine TS.still rfl (Wt.some rfl rfl rfl h3) rfl rfl (Yv.pur rfl) ?_; refine TS.still rfl (Wt.some rfl rfl rfl h3) rfl rfl (Yv.indexSl rfl rfl rfl rfl (by omega)) ?_; refine TS.still rfl (Wt.some rfl rfl rfl h3) rfl rfl (Yv.fieldAddr rfl rfl) ?_; refine TS.still rfl (Wt.some rfl rfl rfl h3) rfl rfl (Yv.loadC (j := 1) rfl rfl hk rfl rfl (fun h => h)) ?_; refine TS.still rfl (Wt.some rfl rfl rfl h3) rfl rfl (Yv.pur rfl) ?_; refine TS.still rfl (Wt.some rfl rfl rfl h3) rfl rfl (Yv.pur rfl) ?_; refine TS.still rfl (Wt.some rfl rfl rfl h3) rfl rfl (Yv.indexSl rfl rfl rfl rfl (by omega)) ?_; refine TS.still rfl (Wt.some rfl rfl rfl h3) rfl rfl (Yv.fieldAddr rfl rfl) ?_; refine TS.still rfl (Wt.some rfl rfl rfl h3) rfl rfl (Yv.loadC (j := 1) rfl rfl hk2 rfl rfl (fun h => h)) ?_; refine TS.eff ?_; (refine TSo.ew rfl (Wt.some rfl rfl rfl h3) rfl rfl (Ew.callD rfl rfl rfl (fun w hw => sameInts_ret (nth xs k).chs (nth ys k).chs _ _ w ((h.at (k := k) (by omega)).kept hw) ((h2.at (k := k) (by omega)).kept hw) (hlc _ (nth_mem (by omega))))) ?_; rintro _ _ ⟨rfl, rfl⟩; refine ⟨(by repeat first | exact S0 | exact S1 | refine S2 ?_ | refine S3 ?_), ?_⟩); refine TS.still rfl (Wt.some rfl rfl rfl h3) rfl rfl (Yv.pur rfl) ?_; refine TS.y rfl (Yv.pickF rfl rfl h3 rfl) ?_; refine TS.done ?_; refine K.seq ?_; refine T.cond rfl (fun h4 => ?_) (fun h4 => ?_)
          · have p4 := h4; (try simp only [nfB] at p4); refine T.seq (T.region ?_); refine TL.run 1 rfl ?_; refine TL.nil (K.seq (T.ret (K.blk_ret (K.then_ret (K.then_ret (K.blk_ret (K.then_ret ?_))))))); exact K.ret1 rfl rfl (fun w' hw => ⟨by rw [same_not (k := k) (by rw [nth_map (by omega), nth_map (by omega)]; unfold Dx.pl; simp_all)], hw.isBelow⟩)
          · have p4 := h4; (try simp only [nfB] at p4); refine T.skip (K.blk_normal (K.seq (T.region ?_))); refine TL.run 1 rfl ?_; refine TL.y (Yv.addI rfl rfl rfl (by omega)) ?_; refine TL.run 1 rfl ?_; refine TL.nil ?_; exact K.next (k + 1) ⟨by omega, upto_succ hall (by rw [nth_map (by omega), nth_map (by omega)]; unfold Dx.pl; simp_all)⟩ (by omega) (by repeat (first | exact Sub.nil | refine Sub.cons rfl ?_)) (by repeat first | exact S0 | exact S1 | refine S2 ?_ | refine S3 ?_)
      · have p2 := h2; (try simp only [nfB] at p2); refine T.exit (K.then_exit (K.then_exit (K.blk_exit_eq (K.seq (T.seq (T.region ?_)))))); refine TL.run 1 rfl ?_; refine TL.nil (K.seq (T.ret ?_)); exact K.ret1 rfl rfl (fun w' hw => ⟨by rw [same_end (by rw [List.length_map, List.length_map]; omega) hall (by rw [List.length_map]; omega)], hw.isBelow⟩)
def chOk (xs : List Ch) (k : Nat) : Bool := inB (nth xs k).st 0 511 && (inB (nth xs k).ch 2 51 && !(decide (0 < (k : Int)) && decide ((nth xs k).st ≤ (nth xs (k - 1)).st)))
def listOk (xs : List Ch) : Bool := (List.range xs.length).all (chOk xs)
theorem validList_ret (xs : List Ch) (v : Value) (w : World) (h : ChsAt w v xs) (hl : xs.length ≤ 9223372036854775807) : Calls Tryz.prog 45 #[v] w fun e w' => e = .returned (.bool (listOk xs)) ∧ Below w.heap.size w w' := by
  obtain ⟨A, cap, rfl, hsl⟩ := h.op; refine calls_T (M := fun _ => False) (hs := []) Tryz.func45 rfl rfl rfl (Hp.refl _ _) ?_; refine T.seq (T.region ?_); refine TL.run 1 rfl ?_; refine TL.nil (K.seq (T.seq (T.seq (T.region ?_)))); refine TL.run 1 rfl ?_; refine TL.y (Yv.lenSl rfl rfl) ?_; refine TL.run 1 rfl ?_; refine TL.nil (K.seq (T.block ?_)); refine T.loop (ι := Nat) (fun k => [(0, .slice A xs.length cap), (5, .slice A xs.length cap), (6, .int .i64 (xs.length : Int)), (7, .int .i64 (k : Int))]) (fun k => []) (fun k => k ≤ xs.length ∧ ∀ j, j < k → chOk xs j = true) (fun k => xs.length - k) 0 ?_ ?_ ?_ ?_
  · exact ⟨by omega, fun j hj => by omega⟩
  · exact (by repeat (first | exact Sub.nil | refine Sub.cons rfl ?_))
  · exact (by repeat first | exact S0 | exact S1 | refine S2 ?_ | refine S3 ?_)
  · intro k hphi; obtain ⟨hkl, hall⟩ := hphi; refine T.seq (T.region ?_); refine TL.run 1 rfl ?_; refine TL.nil (K.seq (T.seq ?_)); refine T.cond rfl (fun h1 => ?_) (fun h1 => ?_)
    · have p1 := h1; (try simp only [nfB] at p1); obtain ⟨g, off, rfl, hc⟩ := hsl (by omega); have hk := hc k (by omega); have hk1 := hc (k - 1) (by omega); simp only [Ch.cells] at hk hk1; refine T.skip (K.seq (T.seq (T.block (T.seq (T.region ?_))))); refine TL.run 1 rfl ?_; refine TL.y (Yv.indexSl rfl rfl rfl rfl (by omega)) ?_; refine TL.y (Yv.loadAB rfl rfl hk rfl (fun h => h)) ?_; (refine TL.ew (Wt.none rfl) rfl rfl (Ew.alloc rfl) ?_; rintro _ _ ⟨g4, rfl, rfl⟩); refine TL.run 1 rfl ?_; (refine TL.ew0 (Wt.none rfl) rfl (Ew.storeAll 0 rfl rfl rfl rfl rfl rfl) ?_; rintro _ _ ⟨rfl, rfl⟩); refine TL.nil (K.seq (T.seq (T.seq (T.region ?_)))); refine TL.y (Yv.fieldAddr rfl rfl) ?_; refine TL.y (Yv.loadO 0 rfl rfl rfl rfl) ?_; (refine TL.ew (Wt.none rfl) rfl rfl (Ew.callD rfl rfl rfl (fun w hw => isStation_ret _ _)) ?_; rintro _ _ ⟨rfl, rfl⟩); refine TL.run 2 rfl ?_; refine TL.gsplit rfl rfl rfl (fun h2 => ?_) (fun h2 => ?_)
      · have p2 := h2; (try simp only [nfB] at p2); refine TL.off (Wt.not rfl rfl rfl h2) rfl rfl ?_; refine TL.off (Wt.not rfl rfl rfl h2) rfl rfl ?_; refine TL.off (Wt.not rfl rfl rfl h2) rfl rfl ?_; refine TL.off (Wt.not rfl rfl rfl h2) rfl rfl ?_; refine TL.y (Yv.pickT rfl rfl h2 rfl) ?_; refine TL.nil (K.seq ?_); refine T.condT rfl rfl ?_; refine T.seq (T.region ?_); refine TL.run 1 rfl ?_; refine TL.nil (K.seq (T.ret (K.then_ret (K.blk_ret (K.then_ret (K.then_ret (K.blk_ret (K.then_ret ?_)))))))); refine K.ret1 rfl rfl (fun w' hw => ⟨?_, hw.isBelow⟩); exact ret_bool (range_false k (by omega) (by simp only [chOk, *, Bool.not_true, Bool.not_false, Bool.or_false, Bool.false_or, Bool.or_true, Bool.true_or, Bool.and_false, Bool.false_and, Bool.true_and, Bool.and_true, Bool.or_self, Bool.and_self, Bool.not_not, decide_true, decide_false, not_true_eq_false, not_false_eq_true, cond_true, cond_false])).symm
      · have p2 := h2; (try simp only [nfB] at p2); refine TL.yv (Wt.some rfl rfl rfl h2) rfl rfl (Yv.fieldAddr rfl rfl) ?_; refine TL.yv (Wt.some rfl rfl rfl h2) rfl rfl (Yv.loadO 0 rfl rfl rfl rfl) ?_; (refine TL.ew (Wt.some rfl rfl rfl h2) rfl rfl (Ew.callD rfl rfl rfl (fun w hw => between_ret _ _ _ _)) ?_; rintro _ _ ⟨rfl, rfl⟩); refine TL.yv (Wt.some rfl rfl rfl h2) rfl rfl (Yv.pur rfl) ?_; refine TL.y (Yv.pickF rfl rfl h2 rfl) ?_; refine TL.nil (K.seq ?_); refine T.cond rfl (fun h3 => ?_) (fun h3 => ?_)
        · have p3 := h3; (try simp only [nfB] at p3); refine T.seq (T.region ?_); refine TL.run 1 rfl ?_; refine TL.nil (K.seq (T.ret (K.then_ret (K.blk_ret (K.then_ret (K.then_ret (K.blk_ret (K.then_ret ?_)))))))); refine K.ret1 rfl rfl (fun w' hw => ⟨?_, hw.isBelow⟩); exact ret_bool (range_false k (by omega) (by simp only [chOk, *, Bool.not_true, Bool.not_false, Bool.or_false, Bool.false_or, Bool.or_true, Bool.true_or, Bool.and_false, Bool.false_and, Bool.true_and, Bool.and_true, Bool.or_self, Bool.and_self, Bool.not_not, decide_true, decide_false, not_true_eq_false, not_false_eq_true, cond_true, cond_false])).symm
        · have p3 := h3; (try simp only [nfB] at p3); refine T.skip (K.seq (T.seq ?_)); refine T.draw (.still 0 (.still 1 (.still 2 (.still 3 (.still 4 (.still 5 (.still 6 (.still 7 (.still 8 (.still 9 (.still 10 (.still 11 (.still 12 .done))))))))))))) _ (by kernel_rfl) (List.Sublist.refl _) ?_; refine TS.run 3 rfl ?_; refine TS.gsplit rfl rfl rfl rfl (fun h4 => ?_) (fun h4 => ?_)
          · have p4 := h4; (try simp only [nfB] at p4); refine TS.still rfl (Wt.some rfl rfl rfl h4) rfl rfl (Yv.pur rfl) ?_; refine TS.still rfl (Wt.some rfl rfl rfl h4) rfl rfl (Yv.pur rfl) ?_; refine TS.still rfl (Wt.some rfl rfl rfl h4) rfl rfl (Yv.subI rfl rfl rfl (by omega)) ?_; refine TS.still rfl (Wt.some rfl rfl rfl h4) rfl rfl (Yv.indexSl rfl rfl rfl (show (k : Int) - 1 = ((k - 1 : Nat) : Int) from by omega) (by omega)) ?_; refine TS.still rfl (Wt.some rfl rfl rfl h4) rfl rfl (Yv.fieldAddr rfl rfl) ?_; refine TS.still rfl (Wt.some rfl rfl rfl h4) rfl rfl (Yv.loadC rfl rfl hk1 rfl rfl (fun h => h)) ?_; refine TS.still rfl (Wt.some rfl rfl rfl h4) rfl rfl (Yv.fieldAddr rfl rfl) ?_; refine TS.still rfl (Wt.some rfl rfl rfl h4) rfl rfl (Yv.loadO 0 rfl rfl rfl rfl) ?_; refine TS.still rfl (Wt.some rfl rfl rfl h4) rfl rfl (Yv.pur rfl) ?_; refine TS.y rfl (Yv.pickT rfl rfl h4 rfl) ?_; refine TS.done ?_; refine K.seq ?_; refine T.cond rfl (fun h5 => ?_) (fun h5 => ?_)
            · have p5 := h5; (try simp only [nfB] at p5); refine T.seq (T.region ?_); refine TL.run 1 rfl ?_; refine TL.nil (K.seq (T.ret (K.blk_ret (K.then_ret (K.then_ret (K.blk_ret (K.then_ret ?_))))))); refine K.ret1 rfl rfl (fun w' hw => ⟨?_, hw.isBelow⟩); exact ret_bool (range_false k (by omega) (by simp only [chOk, *, Bool.not_true, Bool.not_false, Bool.or_false, Bool.false_or, Bool.or_true, Bool.true_or, Bool.and_false, Bool.false_and, Bool.true_and, Bool.and_true, Bool.or_self, Bool.and_self, Bool.not_not, decide_true, decide_false, not_true_eq_false, not_false_eq_true, cond_true, cond_false])).symm
            · have p5 := h5; (try simp only [nfB] at p5); refine T.skip (K.blk_normal (K.seq (T.region ?_))); refine TL.y (Yv.addI rfl rfl rfl (by omega)) ?_; refine TL.run 1 rfl ?_; refine TL.nil ?_; refine K.next (k + 1) ⟨by omega, upto_succ hall (by simp only [chOk, *, Bool.not_true, Bool.not_false, Bool.or_false, Bool.false_or, Bool.or_true, Bool.true_or, Bool.and_false, Bool.false_and, Bool.true_and, Bool.and_true, Bool.or_self, Bool.and_self, Bool.not_not, decide_true, decide_false, not_true_eq_false, not_false_eq_true, cond_true, cond_false])⟩ (by omega) (by repeat (first | exact Sub.nil | refine Sub.cons rfl ?_)) (by repeat first | exact S0 | exact S1 | refine S2 ?_ | refine S3 ?_)
          · have p4 := h4; (try simp only [nfB] at p4); refine TS.stillOff rfl (Wt.not rfl rfl rfl h4) rfl rfl ?_; refine TS.stillOff rfl (Wt.not rfl rfl rfl h4) rfl rfl ?_; refine TS.stillOff rfl (Wt.not rfl rfl rfl h4) rfl rfl ?_; refine TS.stillOff rfl (Wt.not rfl rfl rfl h4) rfl rfl ?_; refine TS.stillOff rfl (Wt.not rfl rfl rfl h4) rfl rfl ?_; refine TS.stillOff rfl (Wt.not rfl rfl rfl h4) rfl rfl ?_; refine TS.stillOff rfl (Wt.not rfl rfl rfl h4) rfl rfl ?_; refine TS.stillOff rfl (Wt.not rfl rfl rfl h4) rfl rfl ?_; refine TS.stillOff rfl (Wt.not rfl rfl rfl h4) rfl rfl ?_; refine TS.y rfl (Yv.pickF rfl rfl h4 rfl) ?_; refine TS.done ?_; refine K.seq ?_; refine T.condF rfl rfl ?_; refine T.skip (K.blk_normal (K.seq (T.region ?_))); refine TL.y (Yv.addI rfl rfl rfl (by omega)) ?_; refine TL.run 1 rfl ?_; refine TL.nil ?_; refine K.next (k + 1) ⟨by omega, upto_succ hall (by simp only [chOk, *, Bool.not_true, Bool.not_false, Bool.or_false, Bool.false_or, Bool.or_true, Bool.true_or, Bool.and_false, Bool.false_and, Bool.true_and, Bool.and_true, Bool.or_self, Bool.and_self, Bool.not_not, decide_true, decide_false, not_true_eq_false, not_false_eq_true, cond_true, cond_false])⟩ (by omega) (by repeat (first | exact Sub.nil | refine Sub.cons rfl ?_)) (by repeat first | exact S0 | exact S1 | refine S2 ?_ | refine S3 ?_)
    · have p1 := h1; (try simp only [nfB] at p1); refine T.exit (K.then_exit (K.then_exit (K.blk_exit_eq (K.seq (T.seq (T.region ?_)))))); refine TL.run 1 rfl ?_; refine TL.nil (K.seq (T.ret ?_)); refine K.ret1 rfl rfl (fun w' hw => ⟨?_, hw.isBelow⟩); exact ret_bool (range_end hall (by omega)).symm
end Go.Proofs.YtljgejbmimapdaaGreatDoor
namespace Go.Proofs.YtljgejbmimapdaaGreatDoor
open Go.RowKit
def dfix (xs : List Dx) (k : Nat) : List Ch := ((xs.take k).filter fun d => decide (d.chs.length = 1)).map fun d => ⟨d.st, nth d.chs 0⟩
theorem dfix_succ {xs : List Dx} {k : Nat} (h : k < xs.length) : dfix xs (k + 1) = dfix xs k ++ (if (nth xs k).chs.length = 1 then [⟨(nth xs k).st, nth (nth xs k).chs 0⟩] else []) := by
  unfold dfix; rw [List.take_succ_eq_append_getElem h, nth_eq h, List.filter_append, List.map_append]
  congr 1
  by_cases h1 : xs[k].chs.length = 1 <;> simp [h1]
theorem dfix_len {xs : List Dx} {k : Nat} : (dfix xs k).length ≤ xs.length := by
  unfold dfix; rw [List.length_map]; refine Nat.le_trans (List.length_filter_le _ _) ?_; rw [List.length_take]; omega
theorem dfixed_ret (xs : List Dx) (v : Value) (w : World) (h : DomsAt w v xs) (hl : xs.length ≤ 100000) : Calls Tryz.prog 22 #[v] w fun e w' => ∃ v : Value, True ∧ e = .returned v ∧ Hp w (fun _ => False) [.sl v 46 2 (dfix xs xs.length).length ((dfix xs xs.length).flatMap Ch.cells)] w' := by
  obtain ⟨A, cap, rfl, hsl⟩ := h.sl.op; refine calls_T (M := fun _ => False) (hs := []) Tryz.func22 rfl rfl rfl (Hp.refl _ _) ?_; refine T.seq (T.region ?_); refine TL.run 1 rfl ?_; refine TL.nil (K.seq (T.seq (T.region ?_))); refine TL.run 1 rfl ?_; refine TL.nil (K.seq (T.seq (T.seq (T.region ?_)))); refine TL.run 1 rfl ?_; refine TL.nil (K.seq (T.block ?_)); refine T.slNil 46 2 ?_; refine T.loop (ι := Nat × Value) (fun x => [(0, .slice A xs.length cap), (3, x.2), (4, .int .i64 (x.1 : Int))]) (fun x => [.sl x.2 46 2 (dfix xs x.1).length ((dfix xs x.1).flatMap Ch.cells)]) (fun x => x.1 ≤ xs.length) (fun x => xs.length - x.1) (0, .slice none 0 0) ?_ ?_ ?_ ?_
  · exact Nat.zero_le _
  · exact (by repeat (first | exact Sub.nil | refine Sub.cons rfl ?_))
  · exact (by repeat first | exact S0 | exact S1 | refine S2 ?_ | refine S3 ?_)
  · intro x hphi; obtain ⟨k, v⟩ := x; dsimp only at hphi ⊢; have hfl := dfix_len (xs := xs) (k := k); refine T.seq (T.seq (T.region ?_)); refine TL.run 2 rfl ?_; refine TL.y (Yv.lenSl rfl rfl) ?_; refine TL.run 1 rfl ?_; refine TL.nil (K.seq ?_); refine T.cond rfl (fun h1 => ?_) (fun h1 => ?_)
    · have p1 := h1; (try simp only [nfB] at p1); obtain ⟨g, off, rfl, hc⟩ := hsl (by omega); have hk := hc k (by omega); obtain ⟨Ad, capd, hvd, hsd⟩ := (h.at (k := k) (by omega)).op; simp only [Dx.cells, hvd] at hk; refine T.skip (K.seq (T.seq (T.block (T.seq (T.region ?_))))); refine TL.run 2 rfl ?_; refine TL.y (Yv.indexSl rfl rfl rfl rfl (by omega)) ?_; refine TL.y (Yv.fieldAddr rfl rfl) ?_; refine TL.y (Yv.loadC (j := 1) rfl rfl hk rfl rfl (fun h => h)) ?_; refine TL.y (Yv.lenSl rfl rfl) ?_; refine TL.run 1 rfl ?_; refine TL.nil (K.seq ?_); refine T.cond rfl (fun h2 => ?_) (fun h2 => ?_)
      · have p2 := h2; (try simp only [nfB] at p2); obtain ⟨gd, od, rfl, hcd⟩ := hsd (by omega); have hk0 := hcd 0 (by omega); simp only [Ie] at hk0; refine T.draw (.still 0 (.still 1 (.still 2 (.still 3 (.still 4 (.still 5 (.still 6 (.still 7 (.still 8 (.still 9 (.still 10 (.still 11 (.still 12 (.still 13 (.eff 14 (.eff 15 (.still 16 .done))))))))))))))))) [] (by kernel_rfl) (by repeat first | exact S0 | exact S1 | refine S2 ?_ | refine S3 ?_) ?_; refine TS.run 3 rfl ?_; refine TS.y rfl (Yv.indexSl rfl rfl rfl rfl (by omega)) ?_; refine TS.y rfl (Yv.fieldAddr rfl rfl) ?_; refine TS.y rfl (Yv.loadC (j := 0) rfl rfl hk rfl rfl (fun h => h)) ?_; refine TS.run 2 rfl ?_; refine TS.y rfl (Yv.indexSl rfl rfl rfl rfl (by omega)) ?_; refine TS.y rfl (Yv.fieldAddr rfl rfl) ?_; refine TS.y rfl (Yv.loadC (j := 1) rfl rfl hk rfl rfl (fun h => h)) ?_; refine TS.y rfl (Yv.indexSl rfl rfl rfl (show (0 : Int) = ((0 : Nat) : Int) from rfl) (by omega)) ?_; refine TS.y rfl (Yv.loadC (j := 0) rfl rfl hk0 rfl rfl (fun h => h)) ?_; refine TS.y rfl (Yv.build rfl rfl) ?_; refine TS.eff ?_; (refine TSo.ew rfl (Wt.none rfl) rfl rfl (Ew.buildSlice rfl rfl rfl (by decide)) ?_; rintro _ _ ⟨g32, rfl, rfl⟩; refine ⟨(by repeat first | exact S0 | exact S1 | refine S2 ?_ | refine S3 ?_), ?_⟩); refine TS.eff ?_; (refine TSo.ew rfl (Wt.none rfl) rfl rfl (Ew.append 1 0 rfl rfl rfl rfl rfl rfl (by omega) (by omega)) ?_; rintro v33 _ ⟨hv33, rfl⟩; refine ⟨(by repeat first | exact S0 | exact S1 | refine S2 ?_ | refine S3 ?_), ?_⟩); refine TS.run 1 rfl ?_; refine TS.done ?_; refine K.blk_normal (K.seq (T.region ?_)); refine TL.run 1 rfl ?_; refine TL.y (Yv.addI rfl rfl rfl (by omega)) ?_; refine TL.run 1 rfl ?_; refine TL.nil ?_; exact K.next (k + 1, v33) (by dsimp only; omega) (by dsimp only; omega) (by repeat (first | exact Sub.nil | refine Sub.cons rfl ?_)) (by dsimp only; rw [dfix_succ (by omega), if_pos (by omega), List.length_append, List.flatMap_append]; exact (by repeat first | exact S0 | exact S1 | refine S2 ?_ | refine S3 ?_))
      · have p2 := h2; (try simp only [nfB] at p2); refine T.skip (K.blk_normal (K.seq (T.region ?_))); refine TL.run 1 rfl ?_; refine TL.y (Yv.addI rfl rfl rfl (by omega)) ?_; refine TL.run 1 rfl ?_; refine TL.nil ?_; exact K.next (k + 1, v) (by dsimp only; omega) (by dsimp only; omega) (by repeat (first | exact Sub.nil | refine Sub.cons rfl ?_)) (by dsimp only; rw [dfix_succ (by omega), if_neg (by omega), List.append_nil]; exact (by repeat first | exact S0 | exact S1 | refine S2 ?_ | refine S3 ?_))
    · have p1 := h1; (try simp only [nfB] at p1); refine T.exit (K.then_exit (K.then_exit (K.blk_exit_eq (K.seq (T.seq (T.region ?_)))))); refine TL.run 2 rfl ?_; refine TL.nil (K.seq (T.ret ?_)); exact K.ret1 rfl rfl (fun w' hw => ⟨_, trivial, rfl, by rw [show k = xs.length by omega] at hw; exact hw.sub (by repeat first | exact S0 | exact S1 | refine S2 ?_ | refine S3 ?_)⟩)
def smp (a b c : Value) : Pb := { ds := [⟨1, a, [14, 15]⟩, ⟨2, b, [14, 15]⟩, ⟨3, c, [14, 15, 16]⟩], ps := [⟨1, 2, 0, 14, 51⟩, ⟨2, 3, 0, 14, 51⟩], ls := [⟨3, 1, 2, 14, 51⟩, ⟨3, 2, 2, 14, 51⟩], cs := [⟨3, 1, 14, 51⟩] }
abbrev sL (g n : Nat) : Value := .slice (some ⟨g, 0, none⟩) n n
structure Smp where
  a : Nat
  b : Nat
  c : Nat
  d : Nat
  p : Nat
  l : Nat
  k : Nat
def Smp.pb (s : Smp) : Pb := smp (sL s.a 2) (sL s.b 2) (sL s.c 3)
def Smp.val (s : Smp) : List Value := [sL s.d 3, sL s.p 2, sL s.l 2, sL s.k 1]
def Smp.hs (s : Smp) : HS := [.row s.k 83 (s.pb.cs.flatMap Cp.cells), .row s.l 81 (s.pb.ls.flatMap Ld.cells), .row s.p 79 (s.pb.ps.flatMap Pr.cells), .row s.d 57 (s.pb.ds.flatMap Dx.cells), .row s.c 3 ([14, 15, 16].flatMap Ie), .row s.b 3 ([14, 15].flatMap Ie), .row s.a 3 ([14, 15].flatMap Ie)]
theorem Smp.prob {B w : World} {M : Nat → Prop} {hs : HS} (s : Smp) (h : Hp B M (s.hs ++ hs) w) : ProbAt w (sL s.d 3) (sL s.p 2) (sL s.l 2) (sL s.k 1) s.pb := by
  have hk := Ent.row_ok.1 (h.own (.row s.k 83 (s.pb.cs.flatMap Cp.cells)) (by simp [Smp.hs])); have hl := Ent.row_ok.1 (h.own (.row s.l 81 (s.pb.ls.flatMap Ld.cells)) (by simp [Smp.hs])); have hp := Ent.row_ok.1 (h.own (.row s.p 79 (s.pb.ps.flatMap Pr.cells)) (by simp [Smp.hs])); have hd := Ent.row_ok.1 (h.own (.row s.d 57 (s.pb.ds.flatMap Dx.cells)) (by simp [Smp.hs])); have hc := Ent.row_ok.1 (h.own (.row s.c 3 ([14, 15, 16].flatMap Ie)) (by simp [Smp.hs])); have hb := Ent.row_ok.1 (h.own (.row s.b 3 ([14, 15].flatMap Ie)) (by simp [Smp.hs])); have ha := Ent.row_ok.1 (h.own (.row s.a 3 ([14, 15].flatMap Ie)) (by simp [Smp.hs])); refine ⟨⟨SlOf.lit (enc := Dx.cells) (size := 2) (fun _ => rfl) s.pb.ds hd rfl rfl, fun d hd' => ?_⟩, ⟨SlOf.lit (enc := Pr.cells) (size := 5) (fun _ => rfl) s.pb.ps hp rfl rfl, SlOf.lit (enc := Ld.cells) (size := 5) (fun _ => rfl) s.pb.ls hl rfl rfl, SlOf.lit (enc := Cp.cells) (size := 4) (fun _ => rfl) s.pb.cs hk rfl rfl, by simp [Smp.pb, smp], by simp [Smp.pb, smp], by simp [Smp.pb, smp]⟩, by simp [Smp.pb, smp], fun d hd' => ?_⟩
  · simp only [Smp.pb, smp, List.mem_cons, List.not_mem_nil, or_false] at hd'; rcases hd' with rfl | rfl | rfl
    · exact SlOf.lit (enc := Ie) (size := 1) (fun _ => rfl) [14, 15] ha rfl rfl
    · exact SlOf.lit (enc := Ie) (size := 1) (fun _ => rfl) [14, 15] hb rfl rfl
    · exact SlOf.lit (enc := Ie) (size := 1) (fun _ => rfl) [14, 15, 16] hc rfl rfl
  · simp only [Smp.pb, smp, List.mem_cons, List.not_mem_nil, or_false] at hd'; rcases hd' with rfl | rfl | rfl <;> simp
theorem sample_ret (w : World) : Calls Tryz.prog 16 #[] w fun e w' => ∃ s : Smp, True ∧ e = .returned (.agg s.val.toArray) ∧ Hp w (fun _ => False) s.hs w' := by
  refine calls_T (M := fun _ => False) (hs := []) Tryz.func16 rfl rfl rfl (Hp.refl _ _) ?_; refine T.seq (T.region ?_); (refine TL.ew (Wt.none rfl) rfl rfl (Ew.alloc rfl) ?_; rintro _ _ ⟨g0, rfl, rfl⟩); refine TL.nil (K.seq (T.seq (T.region ?_))); (refine TL.ew (Wt.none rfl) rfl rfl (Ew.buildSlice rfl rfl rfl (by decide)) ?_; rintro _ _ ⟨g1, rfl, rfl⟩); refine TL.y (Yv.build rfl rfl) ?_; (refine TL.ew (Wt.none rfl) rfl rfl (Ew.buildSlice rfl rfl rfl (by decide)) ?_; rintro _ _ ⟨g3, rfl, rfl⟩); refine TL.y (Yv.build rfl rfl) ?_; (refine TL.ew (Wt.none rfl) rfl rfl (Ew.buildSlice rfl rfl rfl (by decide)) ?_; rintro _ _ ⟨g5, rfl, rfl⟩); refine TL.y (Yv.build rfl rfl) ?_; (refine TL.ew (Wt.none rfl) rfl rfl (Ew.buildSlice rfl rfl rfl (by decide)) ?_; rintro _ _ ⟨g7, rfl, rfl⟩); refine TL.y (Yv.build rfl rfl) ?_; refine TL.y (Yv.build rfl rfl) ?_; (refine TL.ew (Wt.none rfl) rfl rfl (Ew.buildSlice rfl rfl rfl (by decide)) ?_; rintro _ _ ⟨g10, rfl, rfl⟩); refine TL.y (Yv.build rfl rfl) ?_; refine TL.y (Yv.build rfl rfl) ?_; (refine TL.ew (Wt.none rfl) rfl rfl (Ew.buildSlice rfl rfl rfl (by decide)) ?_; rintro _ _ ⟨g13, rfl, rfl⟩); refine TL.y (Yv.build rfl rfl) ?_; (refine TL.ew (Wt.none rfl) rfl rfl (Ew.buildSlice rfl rfl rfl (by decide)) ?_; rintro _ _ ⟨g15, rfl, rfl⟩); refine TL.y (Yv.build rfl rfl) ?_; refine TL.y (Yv.build rfl rfl) ?_; (refine TL.ew0 (Wt.none rfl) rfl (Ew.storeAll 7 rfl rfl rfl rfl rfl rfl) ?_; rintro _ _ ⟨rfl, rfl⟩); refine TL.nil (K.seq (T.ret ?_)); exact K.retC 7 rfl rfl rfl rfl (fun w' hw => ⟨⟨g1, g3, g5, g7, g10, g13, g15⟩, trivial, rfl, hw.sub (by repeat first | exact S0 | exact S1 | refine S2 ?_ | refine S3 ?_)⟩)
end Go.Proofs.YtljgejbmimapdaaGreatDoor
namespace Go.Proofs.YtljgejbmimapdaaGreatDoor
open Go.RowKit
theorem foldBit {α : Type} {f : BitVec 64 → α → BitVec 64} {h : α → Bool} {j : Nat} (hf : ∀ g x, (f g x).getLsbD j = (g.getLsbD j || h x)) : ∀ (l : List α) (g : BitVec 64), (l.foldl f g).getLsbD j = (g.getLsbD j || l.any h)
  | [], g => by simp
  | x :: r, g => by rw [List.foldl_cons, foldBit hf r, hf, List.any_cons, Bool.or_assoc]
theorem foldBitM {α : Type} {f : BitVec 64 → α → BitVec 64} {h : α → Bool} {j : Nat} : ∀ (l : List α) (g : BitVec 64), (∀ x ∈ l, ∀ g, (f g x).getLsbD j = (g.getLsbD j || h x)) → (l.foldl f g).getLsbD j = (g.getLsbD j || l.any h)
  | [], g, _ => by simp
  | x :: r, g, hf => by rw [List.foldl_cons, foldBitM r _ (fun y hy => hf y (by simp [hy])), hf x (by simp), List.any_cons, Bool.or_assoc]
theorem one_bit {c j : Nat} (hj : j < 64) : (1#64 <<< c).getLsbD j = decide (c = j) := by
  rw [BitVec.getLsbD_shiftLeft, BitVec.getLsbD_one]; by_cases h : c = j
  · subst h; simp [hj]
  · by_cases h2 : j < c
    · simp [h2, h]
    · simp [hj, h]; omega
theorem or_bit {g : BitVec 64} {c j : Nat} (hj : j < 64) : (g ||| 1#64 <<< c).getLsbD j = (g.getLsbD j || decide (c = j)) := by rw [BitVec.getLsbD_or, one_bit hj]
def pairHit (L : Ws) (i j : Nat) (x : Pr) : Bool :=
  if x.a = (i : Int) then decide ((only L x.b.toNat : Int) ≠ 0 ∧ x.lo ≤ (only L x.b.toNat : Int) - x.off ∧ (only L x.b.toNat : Int) - x.off ≤ x.hi ∧ ((only L x.b.toNat : Int) - x.off).toNat = j)
  else decide (x.lo ≤ (only L x.a.toNat : Int) ∧ (only L x.a.toNat : Int) ≤ x.hi ∧ ((only L x.a.toNat : Int) + x.off).toNat = j)
theorem pairs_bit {Y : Tb} {L : Ws} {i j : Nat} (hj : j < 64) : (pairsF Y L i).getLsbD j = (Y.ps i).any (pairHit L i j) := by
  unfold pairsF; rw [foldBit (h := pairHit L i j) (fun g x => ?_), BitVec.getLsbD_zero, Bool.false_or]; unfold pairStep pairHit
  split
  · split
    · rename_i h; rw [or_bit hj]; congr 1; exact decide_eq_decide.2 ⟨fun hh => ⟨h.1, h.2.1, h.2.2, hh⟩, fun hh => hh.2.2.2⟩
    · rename_i h; have : ¬ ((only L x.b.toNat : Int) ≠ 0 ∧ x.lo ≤ (only L x.b.toNat : Int) - x.off ∧ (only L x.b.toNat : Int) - x.off ≤ x.hi ∧ ((only L x.b.toNat : Int) - x.off).toNat = j) := fun hh => h ⟨hh.1, hh.2.1, hh.2.2.1⟩; rw [decide_eq_false this, Bool.or_false]
  · split
    · rename_i h; rw [or_bit hj]; simp [h]
    · rename_i h; have : ¬ (x.lo ≤ (only L x.a.toNat : Int) ∧ (only L x.a.toNat : Int) ≤ x.hi ∧ ((only L x.a.toNat : Int) + x.off).toNat = j) := fun hh => h ⟨hh.1, hh.2.1⟩; rw [decide_eq_false this, Bool.or_false]
theorem capStep_bit {f : Nat → Int} {g : BitVec 64} {x : Cp} {j : Nat} (hj : j < 64) (hlo : 0 ≤ x.lo) (hhi : 0 ≤ x.hi) : (capStep f g x).getLsbD j = (g.getLsbD j || decide (x.lo ≤ (j : Int) ∧ (j : Int) ≤ x.hi ∧ x.mx < f j)) := by
  unfold capStep; rw [foldBit (h := fun d => decide (x.mx < f d) && decide (d = j)) (fun g d => ?_)]
  · congr 1
    rw [Bool.eq_iff_iff, List.any_eq_true, decide_eq_true_eq]; constructor
    · rintro ⟨d, hd, h⟩; obtain ⟨h1, h2⟩ := List.mem_range'_1.1 hd; simp only [Bool.and_eq_true, decide_eq_true_eq] at h; obtain ⟨h3, rfl⟩ := h; exact ⟨by omega, by omega, h3⟩
    · rintro ⟨h1, h2, h3⟩; exact ⟨j, List.mem_range'_1.2 ⟨by omega, by omega⟩, by simp [h3]⟩
  · unfold capBit
    split
    · rename_i h; rw [or_bit hj]; simp [h]
    · rename_i h; simp [h]
theorem caps_bit {Y : Tb} {L : Ws} {i j : Nat} (hok : Y.Ok) (hi : i < Y.n) (hj : j < 64) : (capsF Y L i).getLsbD j = (Y.cs i).any fun x => decide (x.lo ≤ (j : Int) ∧ (j : Int) ≤ x.hi ∧ x.mx < lossOf L (Y.inn i) j) := by
  unfold capsF; rw [foldBitM (h := fun x => decide (x.lo ≤ (j : Int) ∧ (j : Int) ≤ x.hi ∧ x.mx < lossOf L (Y.inn i) j)) _ _ (fun x hx g => by have := (hok.cs i hi).2 x hx; exact capStep_bit hj (by omega) (by omega)), BitVec.getLsbD_zero, Bool.false_or]
def loadHit (Y : Tb) (L : Ws) (i j : Nat) (x : Ld) : Bool := decide (x.lo ≤ (only L x.to.toNat : Int) ∧ (only L x.to.toNat : Int) ≤ x.hi ∧ only L x.to.toNat = j ∧ ∃ c ∈ Y.cs x.to.toNat, (c.lo ≤ (j : Int) ∧ (j : Int) ≤ c.hi) ∧ c.mx < sumOf L i j (Y.inn x.to.toNat))
theorem lim_bit {lost : Int} {d j : Nat} {l : List Cp} {g : BitVec 64} (hj : j < 64) : (l.foldl (limStep lost d) g).getLsbD j = (g.getLsbD j || (decide (d = j) && decide (∃ c ∈ l, (c.lo ≤ (d : Int) ∧ (d : Int) ≤ c.hi) ∧ c.mx < lost))) := by
  rw [foldBit (h := fun c => decide (d = j) && decide ((c.lo ≤ (d : Int) ∧ (d : Int) ≤ c.hi) ∧ c.mx < lost)) (fun g c => ?_)]
  · congr 1
    rw [Bool.eq_iff_iff, List.any_eq_true]; simp only [Bool.and_eq_true, decide_eq_true_eq]; constructor
    · rintro ⟨c, hc, h1, h2⟩; exact ⟨h1, c, hc, h2⟩
    · rintro ⟨h1, c, hc, h2⟩; exact ⟨c, hc, h1, h2⟩
  · unfold limStep
    split
    · rename_i h; rw [or_bit hj]; simp [h]
    · rename_i h; simp [h]
theorem loads_bit {Y : Tb} {L : Ws} {i j : Nat} (hj : j < 64) : (loadsF Y L i).getLsbD j = (Y.out i).any (loadHit Y L i j) := by
  unfold loadsF; rw [foldBit (h := loadHit Y L i j) (fun g x => ?_), BitVec.getLsbD_zero, Bool.false_or]; unfold loadStep
  split
  · rename_i h; rcases h with h | h
    · rw [show loadHit Y L i j x = false from decide_eq_false (fun hh => by omega), Bool.or_false]
    · cases hh : loadHit Y L i j x with
      | false => rw [Bool.or_false]
      | true =>
        have := of_decide_eq_true hh; rw [this.2.2.1] at h; rw [h]; rfl
  · rename_i h; rw [lim_bit hj]
    congr 1
    unfold loadHit; rw [Bool.eq_iff_iff]; simp only [Bool.and_eq_true, decide_eq_true_eq]; constructor
    · rintro ⟨rfl, hc⟩; exact ⟨by omega, by omega, rfl, hc⟩
    · rintro ⟨_, _, rfl, hc⟩; exact ⟨rfl, hc⟩
def Le' (S M : Ws) : Prop := ∀ i j, (nth S i).getLsbD j = true → (nth M i).getLsbD j = true
theorem only_mono {a b : BitVec 64} (hs : ∀ j, a.getLsbD j = true → b.getLsbD j = true) (ha : a ≠ 0#64) (h : onlyB b ≠ 0) : onlyB a = onlyB b := by
  by_cases e : a = b
  · rw [e]
  · exact absurd (two_bits hs e ha) h
section
variable {Y : Tb} {S M : Ws}
theorem onlyW (hle : Le' S M) (hne : ∀ i, i < Y.n → nth S i ≠ 0#64) {k : Nat} (hk : k < Y.n) (h : only M k ≠ 0) : only S k = only M k := only_mono (hle k) (hne k hk) h
theorem loss_mono (hok : Y.Ok) (hle : Le' S M) (hne : ∀ i, i < Y.n → nth S i ≠ 0#64) {d : Nat} (hd : d ≠ 0) : ∀ (l : List Ld), (∀ x ∈ l, 0 ≤ x.fr ∧ x.fr < Y.n ∧ 1 ≤ x.wt) → ∀ f f' : Nat → Int, f d ≤ f' d → l.foldl (lossStep M) f d ≤ l.foldl (lossStep S) f' d
  | [], _, f, f', h => h
  | x :: r, hx, f, f', h => by
    rw [List.foldl_cons, List.foldl_cons]; refine loss_mono hok hle hne hd r (fun y hy => hx y (by simp [hy])) _ _ ?_; have h1 := hx x (by simp); unfold lossStep; by_cases hh : x.lo ≤ (only M x.fr.toNat : Int) ∧ (only M x.fr.toNat : Int) ≤ x.hi ∧ only M x.fr.toNat = d
    · have e := onlyW (Y := Y) hle hne (k := x.fr.toNat) (by omega) (by omega); rw [if_pos hh, if_pos (by rw [e]; exact hh)]; omega
    · rw [if_neg hh]; split <;> omega
theorem sum_mono (hok : Y.Ok) (hle : Le' S M) (hne : ∀ i, i < Y.n → nth S i ≠ 0#64) {i d : Nat} (hd : d ≠ 0) : ∀ (l : List Ld), (∀ x ∈ l, 0 ≤ x.fr ∧ x.fr < Y.n ∧ 1 ≤ x.wt) → ∀ s s' : Int, s ≤ s' → l.foldl (sumStep M i d) s ≤ l.foldl (sumStep S i d) s'
  | [], _, s, s', h => h
  | x :: r, hx, s, s', h => by
    rw [List.foldl_cons, List.foldl_cons]; refine sum_mono hok hle hne hd r (fun y hy => hx y (by simp [hy])) _ _ ?_; have h1 := hx x (by simp); unfold sumStep; by_cases hh : (x.lo ≤ (d : Int) ∧ (d : Int) ≤ x.hi) ∧ (x.fr = (i : Int) ∨ only M x.fr.toNat = d)
    · rw [if_pos hh, if_pos ⟨hh.1, by
        rcases hh.2 with h2 | h2
        · exact .inl h2
        · exact .inr (by rw [onlyW (Y := Y) hle hne (k := x.fr.toNat) (by omega) (by omega)]; exact h2)⟩]
      omega
    · rw [if_neg hh]; split <;> omega
theorem gone_mono (hok : Y.Ok) (hle : Le' S M) (hne : ∀ i, i < Y.n → nth S i ≠ 0#64) {i j : Nat} (hi : i < Y.n) (h : (goneF Y M i).getLsbD j = true) : (goneF Y S i).getLsbD j = true := by
  have hj : j < 64 := BitVec.lt_of_getLsbD h; unfold goneF at h ⊢; rw [BitVec.getLsbD_or, BitVec.getLsbD_or, pairs_bit hj, caps_bit hok hi hj, loads_bit hj, Bool.or_eq_true, Bool.or_eq_true, List.any_eq_true, List.any_eq_true, List.any_eq_true] at h ⊢; rcases h with (⟨x, hx, h⟩ | ⟨x, hx, h⟩) | ⟨x, hx, h⟩
  · refine .inl (.inl ⟨x, hx, ?_⟩); have hr := (hok.ps i hi).2 x hx; unfold pairHit at h ⊢
    split at h
    · rename_i ha; rw [if_pos ha]; have h1 := of_decide_eq_true h; have e := onlyW (Y := Y) hle hne (k := x.b.toNat) (by omega) (by omega); rw [e]; exact h
    · rename_i ha; rw [if_neg ha]; have h1 := of_decide_eq_true h; have e := onlyW (Y := Y) hle hne (k := x.a.toNat) (by omega) (by omega); rw [e]; exact h
  · refine .inl (.inr ⟨x, hx, ?_⟩); have hr := (hok.cs i hi).2 x hx; have h1 := of_decide_eq_true h; have hm := loss_mono hok hle hne (d := j) (by omega) (Y.inn i) (fun y hy => by have := (hok.inn i hi).2 y hy; omega) (fun _ => 0) (fun _ => 0) (Int.le_refl _); exact decide_eq_true ⟨h1.1, h1.2.1, by have : lossOf M (Y.inn i) j ≤ lossOf S (Y.inn i) j := hm; omega⟩
  · refine .inr ⟨x, hx, ?_⟩; have hr := (hok.out i hi).2 x hx; have h1 := of_decide_eq_true h; obtain ⟨h2, h3, h4, c, hc, h5, h6⟩ := h1; have e := onlyW (Y := Y) hle hne (k := x.to.toNat) (by omega) (by omega); have hm := sum_mono hok hle hne (i := i) (d := j) (by omega) (Y.inn x.to.toNat) (fun y hy => by have := (hok.inn _ (show x.to.toNat < Y.n by omega)).2 y hy; omega) 0 0 (Int.le_refl _); exact decide_eq_true ⟨by rw [e]; exact h2, by rw [e]; exact h3, by rw [e]; exact h4, c, hc, h5, by have : sumOf M i j (Y.inn x.to.toNat) ≤ sumOf S i j (Y.inn x.to.toNat) := hm; omega⟩
structure Closed (Y : Tb) (S : Ws) : Prop where
  len : S.length = Y.n
  calm : ∀ i, i < Y.n → Calm1 Y S i
theorem Closed.ne (h : Closed Y S) : ∀ i, i < Y.n → nth S i ≠ 0#64 := fun i hi => (h.calm i hi).1
theorem Closed.keep (hok : Y.Ok) (h : Closed Y S) {L : Ws} (hl : L.length = Y.n) (hle : Le' S L) (hr : Reach Y L M) : Le' S M := by
  induction hr with
  | refl => exact hle
  | @step M' k b hr hk hb ih =>
    intro i j hij; rw [set_nth (by rw [hr.len, hl]; exact hk)]
    split
    · rename_i e; subst e; rw [BitVec.getLsbD_and, ih i j hij, BitVec.getLsbD_not, Bool.true_and]; have hj : j < 64 := BitVec.lt_of_getLsbD hij
      cases hbj : b.getLsbD j with
      | false => simp [hj]
      | true =>
        have h1 := gone_mono hok ih h.ne hk (hb j hbj); have h2 := congrArg (fun v => BitVec.getLsbD v j) (h.calm i hk).2; simp only [BitVec.getLsbD_and, BitVec.getLsbD_zero] at h2; rw [hij, h1] at h2
        cases h2
    · exact ih i j hij
structure Is (Y : Tb) (T L : Ws) (c : Bool) : Prop where
  tlen : T.length = Y.n
  len : L.length = Y.n
  sub : Le' L T
  best : ∀ S, Closed Y S → Le' S T → Le' S L
  bad : c = true → ∃ i, i < Y.n ∧ nth L i = 0#64
  good : c = false → Closed Y L
theorem Is.of {T L : Ws} {c : Bool} (hok : Y.Ok) (hl : T.length = Y.n) (h : SPost Y T L c) : Is Y T L c :=
  ⟨hl, h.2.1, h.1.sub hl, fun S hS hle => hS.keep hok hl hle h.1, h.2.2.1, fun hc => ⟨h.2.1, h.2.2.2 hc⟩⟩
theorem Le'.antisymm (h1 : Le' S M) (h2 : Le' M S) (hl : S.length = M.length) : S = M := by
  apply List.ext_getElem hl; intro i hi1 hi2; have a1 := h1 i; have a2 := h2 i; rw [nth_eq hi1, nth_eq hi2] at a1 a2; apply BitVec.eq_of_getLsbD_eq; intro j _
  cases h : S[i].getLsbD j with
  | true => rw [a1 j h]
  | false =>
    cases h' : M[i].getLsbD j with
    | false => rfl
    | true => rw [a2 j h'] at h; cases h
theorem Is.cut {T L L' : Ws} {c : Bool} {i : Nat} {g : BitVec 64} (hok : Y.Ok) (hi : i < Y.n) (h : Is Y T L false) (k : Is Y (cutL L i g) L' c) : Is Y (cutL T i g) L' c where
  tlen := by unfold cutL; rw [List.length_set, h.tlen]
  len := k.len
  sub a j hj := by
    have h1 := k.sub a j hj; unfold cutL at h1 ⊢; rw [set_nth (by rw [h.len]; exact hi)] at h1; rw [set_nth (by rw [h.tlen]; exact hi)]
    split at h1
    · rename_i e; rw [if_pos e]; rw [BitVec.getLsbD_and, Bool.and_eq_true] at h1 ⊢; exact ⟨h.sub _ _ h1.1, h1.2⟩
    · rename_i e; rw [if_neg e]; exact h.sub _ _ h1
  best S hS hle := k.best S hS (fun a j hj => by
    have h0 : Le' S T := fun a j hj => by
      have := hle a j hj; unfold cutL at this; rw [set_nth (by rw [h.tlen]; exact hi)] at this
      split at this
      · rename_i e; subst e; rw [BitVec.getLsbD_and, Bool.and_eq_true] at this; exact this.1
      · exact this
    have h1 := h.best S hS h0 a j hj; have h2 := hle a j hj; unfold cutL at h2 ⊢; rw [set_nth (by rw [h.tlen]; exact hi)] at h2; rw [set_nth (by rw [h.len]; exact hi)]
    split at h2
    · rename_i e; rw [if_pos e]; subst e; rw [BitVec.getLsbD_and, Bool.and_eq_true] at h2 ⊢; exact ⟨h1, h2.2⟩
    · rename_i e; rw [if_neg e]; exact h1)
  bad := k.bad
  good := k.good
theorem Is.eq {T L K : Ws} {c : Bool} (hok : Y.Ok) (h : Is Y T L c) (hK : Closed Y K) (hr : Reach Y T K) : L = K ∧ c = false := by
  have hKT : Le' K T := hr.sub h.tlen; have h1 := h.best K hK hKT
  have hc : c = false := by
    cases c with
    | false => rfl
    | true =>
      obtain ⟨i, hi, h0⟩ := h.bad rfl; exfalso; apply hK.ne i hi; apply BitVec.eq_of_getLsbD_eq; intro j _
      cases hh : (nth K i).getLsbD j with
      | false => rw [BitVec.getLsbD_zero]
      | true => have := h1 i j hh; rw [h0, BitVec.getLsbD_zero] at this; cases this
  subst hc; exact ⟨Le'.antisymm ((h.good rfl).keep hok h.tlen h.sub hr) h1 (by rw [h.len, hK.len]), rfl⟩
theorem Is.conflict {T L K : Ws} {c : Bool} {i : Nat} (hok : Y.Ok) (h : Is Y T L c) (hi : i < Y.n) (h0 : nth K i = 0#64) (hr : Reach Y T K) : c = true := by
  cases c with
  | true => rfl
  | false =>
    have hL := h.good rfl; have h1 := hL.keep hok h.tlen h.sub hr; exfalso; apply hL.ne i hi; apply BitVec.eq_of_getLsbD_eq; intro j _
    cases hh : (nth L i).getLsbD j with
    | false => rw [BitVec.getLsbD_zero]
    | true => have := h1 i j hh; rw [h0, BitVec.getLsbD_zero] at this; cases this
end
end Go.Proofs.YtljgejbmimapdaaGreatDoor
namespace Go.Proofs.YtljgejbmimapdaaGreatDoor
open Go.RowKit
def lessL : List Int → List Int → Bool
  | a :: x, b :: y => if a = b then lessL x y else decide (a < b)
  | _, _ => false
theorem lessL_drop {x y : List Int} {k : Nat} (h : k < x.length) (h2 : k < y.length) : lessL (x.drop k) (y.drop k) = if nth x k = nth y k then lessL (x.drop (k + 1)) (y.drop (k + 1)) else decide (nth x k < nth y k) := by
  rw [List.drop_eq_getElem_cons h, List.drop_eq_getElem_cons h2, nth_eq h, nth_eq h2]; rfl
def findD (ds : List Dx) (s : Int) : Int := match ds.findIdx? (fun d => decide (d.st = s)) with | some i => (i : Int) | none => -1
theorem inB_iff {n a b : Int} : inB n a b = true ↔ a ≤ n ∧ n ≤ b := by simp [inB]
def refPr (xs : List Pr) (k : Nat) : Bool := decide ((inB (nth xs k).a 0 511 = true ∧ inB (nth xs k).b 0 511 = true ∧ (nth xs k).a < (nth xs k).b ∧ -1 ≤ (nth xs k).off ∧ (nth xs k).off ≤ 1 ∧ rngB (nth xs k).lo (nth xs k).hi = true) ∧ (0 < k → lessL [(nth xs (k - 1)).a, (nth xs (k - 1)).b, (nth xs (k - 1)).off, (nth xs (k - 1)).lo, (nth xs (k - 1)).hi] [(nth xs k).a, (nth xs k).b, (nth xs k).off, (nth xs k).lo, (nth xs k).hi] = true))
def refLd (xs : List Ld) (k : Nat) : Bool := decide ((inB (nth xs k).to 0 511 = true ∧ inB (nth xs k).fr 0 511 = true ∧ ¬ (nth xs k).to = (nth xs k).fr ∧ 1 ≤ (nth xs k).wt ∧ (nth xs k).wt ≤ 1073741824 ∧ rngB (nth xs k).lo (nth xs k).hi = true) ∧ (0 < k → lessL [(nth xs (k - 1)).to, (nth xs (k - 1)).fr, (nth xs (k - 1)).wt, (nth xs (k - 1)).lo, (nth xs (k - 1)).hi] [(nth xs k).to, (nth xs k).fr, (nth xs k).wt, (nth xs k).lo, (nth xs k).hi] = true))
def refCp (xs : List Cp) (k : Nat) : Bool := decide ((inB (nth xs k).st 0 511 = true ∧ 0 ≤ (nth xs k).mx ∧ (nth xs k).mx ≤ 1099511627776 ∧ rngB (nth xs k).lo (nth xs k).hi = true) ∧ (0 < k → lessL [(nth xs (k - 1)).st, (nth xs (k - 1)).mx, (nth xs (k - 1)).lo, (nth xs (k - 1)).hi] [(nth xs k).st, (nth xs k).mx, (nth xs k).lo, (nth xs k).hi] = true))
def rulesR (P : Pb) : Bool := decide (P.ps.length ≤ 4096 ∧ P.ls.length ≤ 1024 ∧ P.cs.length ≤ 1024) && ((List.range P.ps.length).all (refPr P.ps) && ((List.range P.ls.length).all (refLd P.ls) && (List.range P.cs.length).all (refCp P.cs)))
def refCh (cs : List Int) (j : Nat) : Bool := decide (2 ≤ nth cs j ∧ nth cs j ≤ 51 ∧ (0 < j → nth cs (j - 1) < nth cs j))
def refDo (ds : List Dx) (k : Nat) : Bool := decide ((inB (nth ds k).st 0 511 = true ∧ (0 < k → (nth ds (k - 1)).st < (nth ds k).st) ∧ (nth ds k).chs.length ≤ 50) ∧ (List.range (nth ds k).chs.length).all (refCh (nth ds k).chs) = true)
def refFp (P : Pb) (k : Nat) : Bool := decide (0 ≤ findD P.ds (nth P.ps k).a ∧ 0 ≤ findD P.ds (nth P.ps k).b)
def refFl (P : Pb) (k : Nat) : Bool := decide (0 ≤ findD P.ds (nth P.ls k).to ∧ 0 ≤ findD P.ds (nth P.ls k).fr)
def refFc (P : Pb) (k : Nat) : Bool := decide (0 ≤ findD P.ds (nth P.cs k).st)
def validR (P : Pb) : Bool := decide (P.ds.length ≤ 512) && (rulesR P && ((List.range P.ds.length).all (refDo P.ds) && ((List.range P.ps.length).all (refFp P) && ((List.range P.ls.length).all (refFl P) && (List.range P.cs.length).all (refFc P)))))
theorem incB_pos {α : Type} [Inhabited α] {c : α → α → Int} {xs : List α} : incB c xs = true ↔ ∀ k, 0 < k → k < xs.length → c (nth xs (k - 1)) (nth xs k) < 0 := by
  unfold incB; rw [List.all_eq_true]; constructor
  · intro h k h0 hk; have := h k (List.mem_range.2 hk); simp only [Bool.or_eq_true, decide_eq_true_eq, Bool.not_eq_true', decide_eq_false_iff_not] at this; omega
  · intro h k hk; simp only [Bool.or_eq_true, decide_eq_true_eq, Bool.not_eq_true', decide_eq_false_iff_not]; by_cases h0 : k = 0
    · exact .inl h0
    · have := h k (by omega) (List.mem_range.1 hk); exact .inr (by omega)
theorem rangeAll {f : Nat → Bool} {n : Nat} : (List.range n).all f = true ↔ ∀ k, k < n → f k = true := by
  rw [List.all_eq_true]; exact ⟨fun h k hk => h k (List.mem_range.2 hk), fun h k hk => h k (List.mem_range.1 hk)⟩
theorem cmpI_lt0 {a b : Int} : cmpI a b < 0 ↔ a < b := by unfold cmpI; split <;> (try split) <;> omega
theorem cmpI_zero {a b : Int} : cmpI a b = 0 ↔ a = b := by unfold cmpI; split <;> (try split) <;> omega
theorem less_or : ∀ (xs ys : List Int), xs.length = ys.length → (lessL xs ys = true ↔ orL (List.zipWith cmpI xs ys) < 0)
  | [], [], _ => by simp [lessL, orL]
  | a :: x, b :: y, h => by
    have ih := less_or x y (by simpa using h); unfold lessL; rw [List.zipWith_cons_cons]; unfold orL; by_cases e : a = b
    · rw [if_pos e, if_pos (cmpI_zero.2 e)]; exact ih
    · rw [if_neg e, if_neg (fun hh => e (cmpI_zero.1 hh)), cmpI_lt0, decide_eq_true_eq]
  | [], _ :: _, h => by simp at h
  | _ :: _, [], h => by simp at h
theorem refPr_iff {xs : List Pr} {k : Nat} : refPr xs k = true ↔ (nth xs k).ok = true ∧ (0 < k → Pr.cmp (nth xs (k - 1)) (nth xs k) < 0) := by
  have e := less_or [(nth xs (k - 1)).a, (nth xs (k - 1)).b, (nth xs (k - 1)).off, (nth xs (k - 1)).lo, (nth xs (k - 1)).hi] [(nth xs k).a, (nth xs k).b, (nth xs k).off, (nth xs k).lo, (nth xs k).hi] rfl; simp only [refPr, decide_eq_true_eq, e, Pr.ok, Bool.and_eq_true, inB_iff, Pr.cmp, List.zipWith, and_assoc]
theorem refLd_iff {xs : List Ld} {k : Nat} : refLd xs k = true ↔ (nth xs k).ok = true ∧ (0 < k → Ld.cmp (nth xs (k - 1)) (nth xs k) < 0) := by
  have e := less_or [(nth xs (k - 1)).to, (nth xs (k - 1)).fr, (nth xs (k - 1)).wt, (nth xs (k - 1)).lo, (nth xs (k - 1)).hi] [(nth xs k).to, (nth xs k).fr, (nth xs k).wt, (nth xs k).lo, (nth xs k).hi] rfl; simp only [refLd, decide_eq_true_eq, e, Ld.ok, Bool.and_eq_true, inB_iff, Ld.cmp, List.zipWith, and_assoc]
theorem refCp_iff {xs : List Cp} {k : Nat} : refCp xs k = true ↔ (nth xs k).ok = true ∧ (0 < k → Cp.cmp (nth xs (k - 1)) (nth xs k) < 0) := by
  have e := less_or [(nth xs (k - 1)).st, (nth xs (k - 1)).mx, (nth xs (k - 1)).lo, (nth xs (k - 1)).hi] [(nth xs k).st, (nth xs k).mx, (nth xs k).lo, (nth xs k).hi] rfl; simp only [refCp, decide_eq_true_eq, e, Cp.ok, Bool.and_eq_true, inB_iff, Cp.cmp, List.zipWith, and_assoc]
theorem both_iff {α : Type} [Inhabited α] {r : List α → Nat → Bool} {q : α → Bool} {c : α → α → Int} {xs : List α} (h : ∀ k, r xs k = true ↔ q (nth xs k) = true ∧ (0 < k → c (nth xs (k - 1)) (nth xs k) < 0)) : (List.range xs.length).all (r xs) = true ↔ allB q xs = true ∧ incB c xs = true := by
  rw [rangeAll, allB_iff, incB_pos]; exact ⟨fun hh => ⟨fun k hk => ((h k).1 (hh k hk)).1, fun k h0 hk => ((h k).1 (hh k hk)).2 h0⟩, fun hh k hk => (h k).2 ⟨hh.1 k hk, fun h0 => hh.2 k h0 hk⟩⟩
theorem rulesR_eq (P : Pb) : rulesR P = P.rulesOk := by
  rw [Bool.eq_iff_iff]; simp only [rulesR, Pb.rulesOk, Bool.and_eq_true, decide_eq_true_eq, both_iff (r := refPr) (q := Pr.ok) (c := Pr.cmp) (xs := P.ps) (fun k => refPr_iff), both_iff (r := refLd) (q := Ld.ok) (c := Ld.cmp) (xs := P.ls) (fun k => refLd_iff), both_iff (r := refCp) (q := Cp.ok) (c := Cp.cmp) (xs := P.cs) (fun k => refCp_iff)]; constructor
  · rintro ⟨⟨h1, h2, h3⟩, ⟨h4, h5⟩, ⟨h6, h7⟩, h8, h9⟩; exact ⟨by omega, h4, h5, by omega, h6, h7, by omega, h8, h9⟩
  · rintro ⟨h1, h4, h5, h2, h6, h7, h3, h8, h9⟩; exact ⟨⟨by omega, by omega, by omega⟩, ⟨h4, h5⟩, ⟨h6, h7⟩, h8, h9⟩
theorem inc_most {f : Nat → Int} {lo hi : Int} {n : Nat} (h0 : ∀ k, k < n → lo ≤ f k ∧ f k ≤ hi) (h : ∀ k, 0 < k → k < n → f (k - 1) < f k) : (n : Int) ≤ hi - lo + 1 ∨ n = 0 := by
  have key : ∀ k, k < n → lo + (k : Int) ≤ f k := by
    intro k
    induction k with
    | zero => intro hk; have := h0 0 hk; omega
    | succ k ih => intro hk; have := ih (by omega); have := h (k + 1) (by omega) hk; rw [Nat.add_sub_cancel] at this; omega
  rcases Nat.eq_zero_or_pos n with h1 | h1
  · exact .inr h1
  · have := key (n - 1) (by omega); have := h0 (n - 1) (by omega); exact .inl (by omega)
theorem findD_iff {ds : List Dx} {s : Int} : 0 ≤ findD ds s ↔ ∃ i, i < ds.length ∧ (nth ds i).st = s := by
  unfold findD
  cases hf : ds.findIdx? (fun d => decide (d.st = s)) with
  | none =>
    refine ⟨fun h => by simp at h, fun ⟨i, hi, h⟩ => ?_⟩; rw [List.findIdx?_eq_none_iff] at hf; have := hf (nth ds i) (nth_mem hi); simp [h] at this
  | some i =>
    refine ⟨fun _ => ?_, fun _ => by simp⟩; obtain ⟨hi, h1, _⟩ := List.findIdx?_eq_some_iff_getElem.1 hf; exact ⟨i, hi, by rw [nth_eq hi]; simpa using h1⟩
theorem has_iff {P : Pb} (hst : ∀ d ∈ P.ds, 0 ≤ d.st ∧ d.st ≤ 511) {s : Int} : P.has s = true ↔ 0 ≤ findD P.ds s := by
  unfold Pb.has; rw [setOf_has (P.ds.map fun d : Dx => d.st) (fun y hy => by obtain ⟨d, hd, rfl⟩ := List.mem_map.1 hy; exact hst d hd), findD_iff, List.mem_map]; constructor
  · rintro ⟨d, hd, rfl⟩; obtain ⟨i, hi, rfl⟩ := List.mem_iff_getElem.1 hd; exact ⟨i, hi, by rw [nth_eq hi]⟩
  · rintro ⟨i, hi, rfl⟩; exact ⟨_, nth_mem hi, rfl⟩
theorem refCh_iff {cs : List Int} : (List.range cs.length).all (refCh cs) = true ↔ allB (fun c => inB c 2 51) cs = true ∧ incB cmpI cs = true := by
  refine both_iff (r := refCh) (q := fun c => inB c 2 51) (c := cmpI) fun k => ?_; simp only [refCh, decide_eq_true_eq, inB_iff, cmpI_lt0, and_assoc]
theorem validR_eq (P : Pb) : validR P = P.ok := by
  rw [Bool.eq_iff_iff]; simp only [validR, Pb.ok, Bool.and_eq_true, decide_eq_true_eq, rulesR_eq, rangeAll, allB_iff, incB_pos, cmpI_lt0, refDo, refFp, refFl, refFc, Dx.ok]
  have stOf : (∀ k, k < P.ds.length → inB (nth P.ds k).st 0 511 = true) → ∀ d ∈ P.ds, 0 ≤ d.st ∧ d.st ≤ 511 := fun h d hd => by
    obtain ⟨i, hi, rfl⟩ := List.mem_iff_getElem.1 hd; have := inB_iff.1 (h i hi)
    rwa [nth_eq hi] at this
  constructor
  · rintro ⟨h1, h2, h3, h4, h5, h6⟩; have hst := stOf fun k hk => (h3 k hk).1.1; refine ⟨fun k hk => ⟨(h3 k hk).1.1, ?_⟩, h2, fun k h0 hk => (h3 k hk).1.2.1 h0, fun k hk => ⟨(has_iff hst).2 (h4 k hk).1, (has_iff hst).2 (h4 k hk).2⟩, fun k hk => ⟨(has_iff hst).2 (h5 k hk).1, (has_iff hst).2 (h5 k hk).2⟩, fun k hk => (has_iff hst).2 (h6 k hk)⟩; have := refCh_iff.1 (rangeAll.2 (h3 k hk).2); simp only [allB_iff, incB_pos, cmpI_lt0] at this; exact this
  · rintro ⟨h1, h2, h3, h4, h5, h6⟩; have hst := stOf fun k hk => (h1 k hk).1; refine ⟨?_, h2, fun k hk => ⟨⟨(h1 k hk).1, fun h0 => h3 k h0 hk, ?_⟩, ?_⟩, fun k hk => ⟨(has_iff hst).1 (h4 k hk).1, (has_iff hst).1 (h4 k hk).2⟩, fun k hk => ⟨(has_iff hst).1 (h5 k hk).1, (has_iff hst).1 (h5 k hk).2⟩, fun k hk => (has_iff hst).1 (h6 k hk)⟩
    · have := inc_most (f := fun k => (nth P.ds k).st) (lo := 0) (hi := 511) (n := P.ds.length) (fun k hk => inB_iff.1 (h1 k hk).1) h3; omega
    · have := inc_most (f := nth (nth P.ds k).chs) (lo := 2) (hi := 51) (n := (nth P.ds k).chs.length) (fun j hj => inB_iff.1 ((h1 k hk).2.1 j hj)) (h1 k hk).2.2; omega
    · exact rangeAll.1 (refCh_iff.2 (by simp only [allB_iff, incB_pos, cmpI_lt0]; exact (h1 k hk).2))
end Go.Proofs.YtljgejbmimapdaaGreatDoor
namespace Go.Proofs.YtljgejbmimapdaaGreatDoor
open Go.RowKit
def Cb (w : World) (g : Nat) : Prop := ∃ cs t p, w.heap[g]? = some (.cells cs t p)
theorem Cb.lt {w : World} {g : Nat} (h : Cb w g) : g < w.heap.size := by
  obtain ⟨_, _, _, e⟩ := h; exact (Array.getElem?_eq_some_iff.1 e).1
structure Frz where
  S : Nat → Prop
  w : World
  c : ∀ g, S g → Cb w g
def Frz.Le (F G : Frz) : Prop := ∀ g, F.S g → G.S g ∧ G.w.heap[g]? = F.w.heap[g]?
def Frz.At (F : Frz) (w : World) : Prop := ∀ g, F.S g → w.heap[g]? = F.w.heap[g]?
theorem Frz.Le.refl (F : Frz) : F.Le F := fun _ h => ⟨h, rfl⟩
theorem Frz.Le.trans {F G H : Frz} (h : F.Le G) (k : G.Le H) : F.Le H := fun g hg => ⟨(k g (h g hg).1).1, ((k g (h g hg).1).2).trans (h g hg).2⟩
theorem Frz.At.le {F G : Frz} {w : World} (k : G.At w) (h : F.Le G) : F.At w := fun g hg => (k g (h g hg).1).trans (h g hg).2
theorem Frz.At.cb {F : Frz} {w : World} (h : F.At w) {g : Nat} (hg : F.S g) : Cb w g := by
  obtain ⟨a, b, c, e⟩ := F.c g hg; exact ⟨a, b, c, (h g hg).trans e⟩
theorem Frz.At.below {F : Frz} {w w' : World} (h : F.At w) (hb : Below w.heap.size w w') : F.At w' := fun g hg => (hb.block g (h.cb hg).lt).trans (h g hg)
def Frz.all (w : World) : Frz := ⟨Cb w, w, fun _ h => h⟩
theorem Frz.all_at (w : World) : (Frz.all w).At w := fun _ _ => rfl
def Frz.none (w : World) : Frz := ⟨fun _ => False, w, fun _ h => h.elim⟩
structure Fx (F : Frz) (w : World) (G : Frz) (w' : World) : Prop where
  le : F.Le G
  at_ : G.At w'
  new : ∀ g, G.S g → F.S g ∨ w.heap.size ≤ g
  bel : Below w.heap.size w w'
theorem Fx.refl {F : Frz} {w w' : World} (h : F.At w) (hb : Below w.heap.size w w') : Fx F w F w' := ⟨.refl F, h.below hb, fun _ h => .inl h, hb⟩
structure FzB (B : World) (M S0 : Nat → Prop) extends Frz where
  base : ∀ g, S g → g < B.heap.size → ¬ M g → w.heap[g]? = B.heap[g]?
  new : ∀ g, S g → S0 g ∨ M g ∨ B.heap.size ≤ g
@[irreducible] def Ent.fr {B : World} {M S0 : Nat → Prop} (F : FzB B M S0) : Ent where
  fp g := F.S g ∧ (M g ∨ B.heap.size ≤ g)
  ok w := ∀ g, F.S g ∧ (M g ∨ B.heap.size ≤ g) → w.heap[g]? = F.w.heap[g]?
  loc h k := fun g hg => (h g hg).trans (k g hg)
  lt h g hg := by
    obtain ⟨_, _, _, e⟩ := F.c g hg.1; exact (Array.getElem?_eq_some_iff.1 ((h g hg).trans e)).1
  nd h g hg c := by
    obtain ⟨_, _, _, e⟩ := F.c g hg.1; rw [(h g hg).trans e]; simp
section
variable {B w w' : World} {M S0 : Nat → Prop} {hs hs' : HS} {F G : FzB B M S0}
theorem Ent.fr_fp {k : Nat} : (Ent.fr F).fp k ↔ F.S k ∧ (M k ∨ B.heap.size ≤ k) := by unfold Ent.fr; exact Iff.rfl
theorem Ent.fr_ok : (Ent.fr F).ok w ↔ ∀ g, F.S g ∧ (M g ∨ B.heap.size ≤ g) → w.heap[g]? = F.w.heap[g]? := by unfold Ent.fr; exact Iff.rfl
theorem Hp.fr {i : Nat} (hw : Hp B M hs w) (hi : hs[i]? = some (.fr F)) : F.toFrz.At w := fun g hg => by
  by_cases h : M g ∨ B.heap.size ≤ g
  · exact Ent.fr_ok.1 (hw.get hi) g ⟨hg, h⟩
  · have h1 : g < B.heap.size := by
      rcases Nat.lt_or_ge g B.heap.size with h2 | h2
      · exact h2
      · exact absurd (.inr h2) h
    have h2 : ¬ M g := fun k => h (.inl k); rw [hw.base g h1 h2, F.base g hg h1 h2]
def Frz.inB {F : Frz} {w : World} (hF : F.At w) (M : Nat → Prop) : FzB w M F.S := ⟨F, fun g hg _ _ => (hF g hg).symm, fun g hg => .inl hg⟩
theorem Hp.startF {F : Frz} {w : World} (hF : F.At w) : Hp w (fun _ => False) [.fr (Frz.inB hF (fun _ => False))] w := by
  have hno : ∀ g, ¬ (Ent.fr (Frz.inB hF (fun _ => False))).fp g := fun g hg => by
    have h := Ent.fr_fp.1 hg; rcases h.2 with h2 | h2
    · exact h2
    · exact absurd (hF.cb h.1).lt (by omega)
  exact ⟨rfl, rfl, rfl, Nat.le_refl _, fun _ _ _ => rfl, fun e he => by simp at he; subst he; exact Ent.fr_ok.2 (fun g hg => absurd (Ent.fr_fp.2 hg) (hno g)), fun e he g hg => by simp at he; subst he; exact absurd hg (hno g), List.pairwise_singleton _ _⟩
theorem Hp.startFM {F : Frz} {w : World} {es : HS} (hF : F.At w) (h : Hp w (fps es) es w) (hM : ∀ g, fps es g → ¬ F.S g) : Hp w (fps es) (es ++ [.fr (Frz.inB hF (fps es))]) w := by
  have hno : ∀ g, ¬ (Ent.fr (Frz.inB hF (fps es))).fp g := fun g hg => by
    have h := Ent.fr_fp.1 hg; rcases h.2 with h2 | h2
    · exact hM g h2 h.1
    · exact absurd (hF.cb h.1).lt (by omega)
  refine ⟨rfl, rfl, rfl, Nat.le_refl _, fun _ _ _ => rfl, fun e he => ?_, fun e he g hg => ?_, ?_⟩
  · rcases List.mem_append.1 he with he | he
    · exact h.own e he
    · simp at he; subst he; exact Ent.fr_ok.2 (fun g hg => absurd (Ent.fr_fp.2 hg) (hno g))
  · rcases List.mem_append.1 he with he | he
    · exact h.new e he g hg
    · simp at he; subst he; exact absurd hg (hno g)
  · exact List.pairwise_append.2 ⟨h.apart, List.pairwise_singleton _ _, fun e he f hf g hg hfg => by simp at hf; subst hf; exact hno g hfg⟩
theorem Hp.frLe {i : Nat} (hw : Hp B M hs w) (hi : hs[i]? = some (.fr G)) (h : F.toFrz.Le G.toFrz) : Hp B M (hs.set i (.fr F)) w :=
  hw.updAt (w' := w) hi (Only.refl _ _) (S := fun _ => False) (fun _ _ h => h.elim) (Ent.fr_ok.2 (fun g hg => ((hw.fr hi).le h) g hg.1)) (fun g hg => .inl (Ent.fr_fp.2 ⟨(h g (Ent.fr_fp.1 hg).1).1, (Ent.fr_fp.1 hg).2⟩))
end
theorem startF_ex {F : Frz} {w : World} (hF : F.At w) : ∃ (S0 : Nat → Prop) (G : FzB w (fun _ => False) S0), G.toFrz = F ∧ (∀ g, S0 g → F.S g) ∧ Hp w (fun _ => False) [.fr G] w := ⟨F.S, Frz.inB hF _, rfl, fun _ h => h, Hp.startF hF⟩
theorem Fx.of {F : Frz} {w w' : World} {S0 : Nat → Prop} {hs : HS} {i : Nat} {G : FzB w (fun _ => False) S0} (hw : Hp w (fun _ => False) hs w') (hi : hs[i]? = some (.fr G)) (hS : ∀ g, S0 g → F.S g) (hle : F.Le G.toFrz) : Fx F w G.toFrz w' :=
  ⟨hle, hw.fr hi, fun g hg => (G.new g hg).imp (hS g) (fun h => h.elim (fun h => h.elim) id), hw.isBelow⟩
def SlC (F : Frz) (v : Value) (size : Nat) (cs : List (List Value)) : Prop :=
  ∃ (A : Option Addr) (cap : Nat), v = .slice A cs.length cap ∧ cs.length ≤ cap ∧ cap ≤ 9223372036854775807 ∧ (∀ c ∈ cs, c.length = size) ∧ (0 < cs.length → ∃ g off, A = some ⟨g, off, none⟩ ∧ F.S g ∧ ∀ i, i < cs.length → Cs F.w g (off + i * size) (nth cs i))
theorem cell_block {w w' : World} {g p : Nat} (h : w'.heap[g]? = w.heap[g]?) : w'.cell? ⟨g, p, none⟩ = w.cell? ⟨g, p, none⟩ := by
  unfold World.cell?; simp only [h]
theorem Cs.at {F : Frz} {w : World} (h : F.At w) {g p : Nat} {l : List Value} (hg : F.S g) (hc : Cs F.w g p l) : Cs w g p l := fun j hj => by
  rw [cell_block (h g hg)]; exact hc j hj
theorem SlC.mono {F G : Frz} {v : Value} {size : Nat} {cs : List (List Value)} (h : SlC F v size cs) (hle : F.Le G) : SlC G v size cs := by
  obtain ⟨A, cap, h1, h2, h3, h4, h5⟩ := h; refine ⟨A, cap, h1, h2, h3, h4, fun hl => ?_⟩; obtain ⟨g, off, h6, h7, h8⟩ := h5 hl; exact ⟨g, off, h6, (hle g h7).1, fun i hi j hj => by rw [cell_block (hle g h7).2]; exact h8 i hi j hj⟩
theorem SlC.max {F : Frz} {v : Value} {size : Nat} {cs : List (List Value)} (h : SlC F v size cs) : cs.length ≤ 9223372036854775807 := by
  obtain ⟨A, cap, h1, h2, h3, _⟩ := h; omega
theorem SlC.nil (F : Frz) (size : Nat) : SlC F (.slice none 0 0) size [] := ⟨none, 0, rfl, Nat.le_refl _, by omega, (fun _ h => by cases h), (fun h => absurd h (Nat.lt_irrefl 0))⟩
def vAddr (v : Value) (k : Nat) : Value := match v with
  | .slice (some a) _ _ => .pointer (some (a.add k))
  | _ => .pointer none
theorem vAddr_some {g off n cap k : Nat} : vAddr (.slice (some ⟨g, off, none⟩) n cap) k = .pointer (some ⟨g, off + k, none⟩) := by
  show Value.pointer (some (Addr.add ⟨g, off, none⟩ k)) = _
  rw [add_off]
theorem SlC.addr {F : Frz} {v : Value} {size : Nat} {cs : List (List Value)} (h : SlC F v size cs) (hl : 0 < cs.length) : ∃ g off cap, v = .slice (some ⟨g, off, none⟩) cs.length cap ∧ F.S g ∧ ∀ i, i < cs.length → Cs F.w g (off + i * size) (nth cs i) := by
  obtain ⟨A, cap, h1, h2, h3, h4, h5⟩ := h; obtain ⟨g, off, rfl, h7, h8⟩ := h5 hl; exact ⟨g, off, cap, h1, h7, h8⟩
theorem SlC.row {F : Frz} {v : Value} {size : Nat} {cs : List (List Value)} (h : SlC F v size cs) {i : Nat} (hi : i < cs.length) : (nth cs i).length = size := by
  obtain ⟨A, cap, h1, h2, h3, h4, h5⟩ := h; rw [nth_eq hi]; exact h4 _ (List.getElem_mem hi)
section
variable {Fe : Fence} [hFe : Calm Fe] {P : Program} {n : Nat} {B D : World} {M S0 : Nat → Prop} {Q : Exit → Act → World → Prop} {fs : SFs} {hs : HS} {ops : Array Oper} {rest : List Oper} {o : Oper} {v val : Value}
theorem Yv.lenR {F : Frz} {t e k size m : Nat} {cs : List (List Value)} {x : Operand} [hT : TySl P t e k] (ho : o.op = .call { callee := .builtin .len, args := #[x], argTypes := #[t] }) (hx : ev fs x = some v) (h : SlC F v size cs) (hm : cs.length = m) : Yv P n B M fs hs o (.int .i64 (m : Int)) := by
  obtain ⟨A, cap, h1, _⟩ := h; subst h1 hm; exact Yv.lenSl ho hx
theorem Yv.idxR {F : Frz} {t e k i m : Nat} {z : Int} {q : IntKind} {cs : List (List Value)} {x y : Operand} [hT : TySl P t e k] (ho : o.op = .indexAddr t x y) (hx : ev fs x = some v) (hy : ev fs y = some (.int q z)) (h : SlC F v k cs) (hm : cs.length = m) (hz : z = (i : Int)) (hi : i < m) : Yv P n B M fs hs o (vAddr v (i * k)) := by
  subst hm; obtain ⟨g, off, cap, rfl, _⟩ := h.addr (by omega); rw [vAddr_some]; exact Yv.indexSl ho hx hy hz hi
theorem Yv.fldR {F : Frz} {s f off p k m : Nat} {cs : List (List Value)} {x : Operand} [hT : TyF P s f off] (ho : o.op = .fieldAddr s x f) (hx : ev fs x = some (vAddr v p)) (h : SlC F v k cs) (hm : cs.length = m) (hi : 0 < m) : Yv P n B M fs hs o (vAddr v (p + off)) := by
  subst hm; obtain ⟨g, o', cap, rfl, _⟩ := h.addr (by omega); rw [vAddr_some] at hx ⊢; exact (Yv.fieldAddr ho hx).eq (by rw [Nat.add_assoc])
theorem Yv.loadR (ix : Nat) {F : FzB B M S0} {t : TypeId} [hT : TyS P t] {k i j p m : Nat} {cs : List (List Value)} {x : Operand} (ho : o.op = .load t x) (hx : ev fs x = some (vAddr v p)) (hF : hs[ix]? = some (.fr F)) (h : SlC F.toFrz v k cs) (hm : cs.length = m) (hi : i < m) (hp : p = i * k + j) (hv : (nth cs i)[j]? = some val) : Yv P n B M fs hs o val := by
  subst hm hp; obtain ⟨g, off, cap, rfl, hg, hc⟩ := h.addr (by omega); rw [vAddr_some] at hx; intro a w ha hw; refine run_load1 ho (ha.ev hx) ?_; have := Cs.at (hw.fr hF) hg (hc i hi) j (List.getElem?_eq_some_iff.1 hv).1; rw [show off + (i * k + j) = off + i * k + j by omega, this, hv]
theorem Yv.loadRA (ix : Nat) {F : FzB B M S0} {t : TypeId} {q : Nat} [hT : TyA P t q] {k i j p m : Nat} {cs : List (List Value)} {l : List Value} {x : Operand} (ho : o.op = .load t x) (hx : ev fs x = some (vAddr v p)) (hF : hs[ix]? = some (.fr F)) (h : SlC F.toFrz v k cs) (hm : cs.length = m) (hi : i < m) (hp : p = i * k + j) (hv : ((nth cs i).drop j).take q = l) (hl : l.length = q) : Yv P n B M fs hs o (.agg l.toArray) := by
  subst hm hp; obtain ⟨g, off, cap, rfl, hg, hc⟩ := h.addr (by omega); rw [vAddr_some] at hx; intro a w ha hw; refine run_loadA ho (ha.ev hx) (fun b hb => ?_) hl
  have hlen : j + b < (nth cs i).length := by
    have := congrArg List.length hv; simp at this; omega
  have := Cs.at (hw.fr hF) hg (hc i hi) (j + b) hlen; rw [show off + (i * k + j) + b = off + i * k + (j + b) by omega, this, ← hv, List.getElem?_take_of_lt (by omega), List.getElem?_drop]
def SlK (F : Frz) (v : Value) (size n : Nat) (l : List Value) : Prop :=
  l.length = n * size ∧ ∃ (A : Option Addr) (cap : Nat), v = .slice A n cap ∧ n ≤ cap ∧ cap ≤ 9223372036854775807 ∧ (0 < n → ∃ g, A = some ⟨g, 0, none⟩ ∧ F.S g ∧ Cs F.w g 0 l)
def FzB.addB {w : World} (F : FzB B M S0) (hF : F.toFrz.At w) {g : Nat} (hg : Cb w g) (hb : M g ∨ B.heap.size ≤ g) : FzB B M S0 where
  S k := F.S k ∨ k = g
  w := w
  c k hk := by rcases hk with h | rfl; exact hF.cb h; exact hg
  base k hk h1 h2 := by
    rcases hk with h | rfl
    · rw [hF k h, F.base k h h1 h2]
    · rcases hb with h | h
      · exact absurd h h2
      · omega
  new k hk := by
    rcases hk with h | rfl
    · exact F.new k h
    · exact .inr hb
theorem FzB.addB_le {w : World} (F : FzB B M S0) (hF : F.toFrz.At w) {g : Nat} (hg : Cb w g) (hb : M g ∨ B.heap.size ≤ g) : F.toFrz.Le (F.addB hF hg hb).toFrz := fun k hk => ⟨.inl hk, hF k hk⟩
theorem erase_set_perm {i j : Nat} {a b a' : Ent} (hij : i ≠ j) (hi : hs[i]? = some a) (hj : hs[j]? = some b) : ∃ r : HS, hs.Perm ([a, b] ++ r) ∧ ((hs.set i a').eraseIdx j).Perm ([a'] ++ r) := by
  have h1 := set_perm hi; (have hj' : (hs.set i a')[j]? = some b := by rw [List.getElem?_set_ne hij]; exact hj); have h2 := set_perm hj'; have h3 := set_perm' (e' := a') hi
  -- b lies in the rest
  have hb : b ∈ hs.eraseIdx i := by
    rw [List.mem_eraseIdx_iff_getElem?]; exact ⟨j, fun e => hij e.symm, hj⟩
  obtain ⟨r1, r2, hr⟩ := List.append_of_mem hb; refine ⟨r1 ++ r2, ?_, ?_⟩
  · refine h1.trans ?_; rw [hr]; exact (List.perm_middle.cons a)
  · have h4 : (b :: (hs.set i a').eraseIdx j).Perm (b :: ([a'] ++ (r1 ++ r2))) := by
      refine h2.symm.trans (h3.symm.trans ?_); rw [hr]; exact (List.perm_middle.cons a').trans (List.Perm.swap _ _ _)
    exact (List.perm_cons b).1 h4
theorem Hp.freezeB {w : World} {i j : Nat} {F : FzB B M S0} {e : Ent} (hw : Hp B M hs w) (hij : i ≠ j) (hi : hs[i]? = some (.fr F)) (hj : hs[j]? = some e) {g : Nat} (hfp : e.fp g) (hg : Cb w g) :
    ∃ G : FzB B M S0, F.toFrz.Le G.toFrz ∧ G.S g ∧ G.w = w ∧ Hp B M ((hs.set i (.fr G)).eraseIdx j) w := by
  have hF := hw.fr hi; have hb := hw.new e (List.mem_of_getElem? hj) g hfp; refine ⟨F.addB hF hg hb, F.addB_le hF hg hb, .inr rfl, rfl, ?_⟩; obtain ⟨r, h1, h2⟩ := erase_set_perm (a' := .fr (F.addB hF hg hb)) hij hi hj; refine Hp.perm ?_ h2.symm; refine Hp.repl (hw.perm h1) ?_ ?_ (List.pairwise_singleton _ _)
  · intro x hx; simp at hx; subst hx; exact Ent.fr_ok.2 (fun k hk => rfl)
  · intro x hx k hk; simp at hx; subst hx; have h := Ent.fr_fp.1 hk; rcases h.1 with h3 | h3
    · exact ⟨_, by simp, Ent.fr_fp.2 ⟨h3, h.2⟩⟩
    · subst h3; exact ⟨e, by simp, hfp⟩
theorem Hp.drop {w : World} (hw : Hp B M hs w) (j : Nat) : Hp B M (hs.eraseIdx j) w := hw.sub (List.eraseIdx_sublist _ _)
theorem set_same {α : Type} {l : List α} {i : Nat} {a : α} (h : l[i]? = some a) : l.set i a = l := by
  obtain ⟨hi, rfl⟩ := List.getElem?_eq_some_iff.1 h; exact List.set_getElem_self hi
theorem Hp.freezeS {w : World} {i j : Nat} {F : FzB B M S0} {e : TypeId} {size k : Nat} {l : List Value} (hw : Hp B M hs w) (hij : i ≠ j) (hi : hs[i]? = some (.fr F)) (hj : hs[j]? = some (.sl v e size k l)) :
    ∃ G : FzB B M S0, (F.toFrz.Le G.toFrz ∧ SlK G.toFrz v size k l) ∧ Hp B M ((hs.set i (.fr G)).eraseIdx j) w := by
  have ho := Ent.sl_ok.1 (hw.get hj); rcases ho.2 with ⟨rfl, h0⟩ | ⟨g, cap, cur, rfl, hb, hg, hnc, hcm, hcs, htake⟩
  · subst h0; exact ⟨F, ⟨.refl _, ho.1, none, 0, rfl, Nat.le_refl _, by omega, fun h => by omega⟩, by rw [set_same hi]; exact hw.drop j⟩
  · obtain ⟨G, h1, h2, h3, h4⟩ := hw.freezeB hij hi hj (g := g) (Ent.sl_fp.2 rfl) ⟨_, _, _, hg⟩; refine ⟨G, ⟨h1, ho.1, _, cap, rfl, hnc, by unfold maxLen at hcm; omega, fun _ => ⟨g, rfl, h2, fun q hq => ?_⟩⟩, h4⟩; rw [h3, Nat.zero_add, World.ownsRow.cellAt ho q (by rw [← ho.1]; exact hq)]
theorem Hp.freezeR {w : World} {i j : Nat} {F : FzB B M S0} {e : TypeId} {g : Nat} {l : List Value} (hw : Hp B M hs w) (hij : i ≠ j) (hi : hs[i]? = some (.fr F)) (hj : hs[j]? = some (.row g e l)) :
    ∃ G : FzB B M S0, (F.toFrz.Le G.toFrz ∧ G.S g ∧ Cs G.w g 0 l) ∧ Hp B M ((hs.set i (.fr G)).eraseIdx j) w := by
  have ho := Ent.row_ok.1 (hw.get hj); obtain ⟨G, h1, h2, h3, h4⟩ := hw.freezeB hij hi hj (g := g) (Ent.row_fp.2 rfl) ⟨_, _, _, ho⟩; exact ⟨G, ⟨h1, h2, fun q hq => by rw [h3, Nat.zero_add, row_cell ho]⟩, h4⟩
theorem SlK.lit {F : Frz} {g k c size : Nat} {l : List Value} (h : F.S g ∧ Cs F.w g 0 l) (hl : l.length = k * size) (hc : k ≤ c) (hm : c ≤ 9223372036854775807) : SlK F (.slice (some ⟨g, 0, none⟩) k c) size k l := ⟨hl, _, c, rfl, hc, hm, fun _ => ⟨g, rfl, h.1, h.2⟩⟩
theorem nth_mapF {α β : Type} [Inhabited α] [Inhabited β] {f : α → β} {xs : List α} {i : Nat} (h : i < xs.length) : nth (xs.map f) i = f (nth xs i) := by
  rw [nth_eq (by simpa using h), nth_eq h, List.getElem_map]
theorem flat_take {size : Nat} : ∀ (cs : List (List Value)), (∀ c ∈ cs, c.length = size) → ∀ i, i < cs.length → ∀ j, j < size → (cs.flatten)[i * size + j]? = (nth cs i)[j]?
  | c :: r, h, 0, _, j, hj => by
    have := h c (by simp); simp only [List.flatten_cons, Nat.zero_mul, Nat.zero_add]; rw [List.getElem?_append_left (by omega)]; rfl
  | c :: r, h, i + 1, hi, j, hj => by
    have hc := h c (by simp); simp only [List.flatten_cons]; rw [List.getElem?_append_right (by rw [hc, Nat.add_mul]; omega), hc]; (have e : (i + 1) * size + j - size = i * size + j := by rw [Nat.add_mul]; omega); rw [e, flat_take r (fun c' h' => h c' (by simp [h'])) i (by simpa using hi) j hj]; simp [nth]
def OwnD {α : Type} [Inhabited α] (rep : Frz → List Value → α → Prop) (F : Frz) (size : Nat) (cs : List (List Value)) (xs : List α) : Prop := cs.length = xs.length ∧ (∀ c ∈ cs, c.length = size) ∧ ∀ i, i < xs.length → rep F (nth cs i) (nth xs i)
def SlD {α : Type} [Inhabited α] (rep : Frz → List Value → α → Prop) (F : Frz) (v : Value) (size : Nat) (cs : List (List Value)) (xs : List α) : Prop := SlC F v size cs ∧ cs.length = xs.length ∧ ∀ i, i < xs.length → rep F (nth cs i) (nth xs i)
theorem SlD.mono {α : Type} [Inhabited α] {rep : Frz → List Value → α → Prop} (hm : ∀ F G c x, F.Le G → rep F c x → rep G c x) {F G : Frz} {size : Nat} {cs : List (List Value)} {xs : List α} (h : SlD rep F v size cs xs) (hle : F.Le G) : SlD rep G v size cs xs := ⟨h.1.mono hle, h.2.1, fun i hi => hm _ _ _ _ hle (h.2.2 i hi)⟩
theorem OwnD.mono {α : Type} [Inhabited α] {rep : Frz → List Value → α → Prop} (hm : ∀ F G c x, F.Le G → rep F c x → rep G c x) {F G : Frz} {size : Nat} {cs : List (List Value)} {xs : List α} (h : OwnD rep F size cs xs) (hle : F.Le G) : OwnD rep G size cs xs := ⟨h.1, h.2.1, fun i hi => hm _ _ _ _ hle (h.2.2 i hi)⟩
theorem OwnD.nil {α : Type} [Inhabited α] (rep : Frz → List Value → α → Prop) (F : Frz) (size : Nat) : OwnD rep F size [] [] := ⟨rfl, (fun _ h => by cases h), fun i hi => absurd hi (Nat.not_lt_zero i)⟩
theorem nth_append_lt {α : Type} [Inhabited α] {xs ys : List α} {i : Nat} (h : i < xs.length) : nth (xs ++ ys) i = nth xs i := by
  rw [nth_eq (by simp; omega), nth_eq h, List.getElem_append_left h]
theorem nth_append_len {α : Type} [Inhabited α] {xs : List α} {y : α} {i : Nat} (h : i = xs.length) : nth (xs ++ [y]) i = y := by
  subst h; simp [nth]
theorem OwnD.snoc {α : Type} [Inhabited α] {rep : Frz → List Value → α → Prop} {F : Frz} {size : Nat} {cs : List (List Value)} {xs : List α} {c : List Value} {x : α} (h : OwnD rep F size cs xs) (hc : rep F c x) (hl : c.length = size) : OwnD rep F size (cs ++ [c]) (xs ++ [x]) := by
  refine ⟨by simp [h.1], fun d hd => ?_, fun i hi => ?_⟩
  · rcases List.mem_append.1 hd with hd | hd
    · exact h.2.1 d hd
    · simp at hd; subst hd; exact hl
  · simp at hi; rcases Nat.lt_or_ge i xs.length with h1 | h1
    · rw [nth_append_lt h1, nth_append_lt (by rw [h.1]; exact h1)]; exact h.2.2 i h1
    · have h2 := h.1; rw [nth_append_len (show i = cs.length by omega), nth_append_len (show i = xs.length by omega)]; exact hc
theorem SlK.toC {F : Frz} {size k : Nat} {l : List Value} {cs : List (List Value)} (h : SlK F v size k l) (hl : l = cs.flatten) (hk : k = cs.length) (hs : ∀ c ∈ cs, c.length = size) : SlC F v size cs := by
  obtain ⟨h1, A, cap, h2, h3, h4, h5⟩ := h; subst hk hl; refine ⟨A, cap, h2, h3, h4, hs, fun hp => ?_⟩; obtain ⟨g, hA, hg, hc⟩ := h5 hp; refine ⟨g, 0, hA, hg, fun i hi j hj => ?_⟩; (have hrow : (nth cs i).length = size := by rw [nth_eq hi]; exact hs _ (List.getElem_mem hi))
  have hlt : i * size + j < cs.flatten.length := by
    rw [h1]; have : (i + 1) * size ≤ cs.length * size := Nat.mul_le_mul_right _ hi; rw [Nat.add_mul] at this; omega
  have := hc (i * size + j) hlt; rw [Nat.zero_add] at this ⊢; rw [this, flat_take cs hs i hi j (by omega)]
theorem SlK.toF {α : Type} {F : Frz} {size k : Nat} {enc : α → List Value} {xs : List α} (h : SlK F v size k (xs.flatMap enc)) (hk : k = xs.length) (he : ∀ x, (enc x).length = size) : SlC F v size (xs.map enc) :=
  h.toC (List.flatMap_def ..) (by simpa using hk) (fun c hc => by obtain ⟨x, _, rfl⟩ := List.mem_map.1 hc; exact he x)
theorem SlK.toD {α : Type} [Inhabited α] {rep : Frz → List Value → α → Prop} {F : Frz} {size k : Nat} {cs : List (List Value)} {xs : List α} (h : SlK F v size k cs.flatten) (ho : OwnD rep F size cs xs) (hk : k = xs.length) : SlD rep F v size cs xs :=
  ⟨h.toC rfl (by rw [ho.1]; exact hk) ho.2.1, ho.1, ho.2.2⟩
theorem T.conv {c : Code} {hs' : HS} (h1 : ∀ w, Hp B M hs w → Hp B M hs' w) (h : T Fe P n B D M c Q fs hs') : T Fe P n B D M c Q fs hs := ⟨fun a w ha hw hm => h.out a w ha (h1 w hw) hm⟩
theorem T.exH {ι : Type} {φ : ι → Prop} {c : Code} {hs' : ι → HS} (h1 : ∀ w, Hp B M hs w → ∃ x, φ x ∧ Hp B M (hs' x) w) (h : ∀ x, φ x → T Fe P n B D M c Q fs (hs' x)) : T Fe P n B D M c Q fs hs := ⟨fun a w ha hw hm => by
  obtain ⟨x, hx, hw'⟩ := h1 w hw; exact (h x hx).out a w ha hw' hm⟩
theorem TL.exH {ι : Type} {φ : ι → Prop} {l : List Oper} {hs' : ι → HS} (h1 : ∀ w, Hp B M hs w → ∃ x, φ x ∧ Hp B M (hs' x) w) (h : ∀ x, φ x → TL Fe P n B D M ops Q l fs (hs' x)) : TL Fe P n B D M ops Q l fs hs := ⟨fun a w ha hw hm => by
  obtain ⟨x, hx, hw'⟩ := h1 w hw; exact (h x hx).out a w ha hw' hm⟩
theorem K.exH {ι : Type} {φ : ι → Prop} {e : Exit} {hs' : ι → HS} (h1 : ∀ w, Hp B M hs w → ∃ x, φ x ∧ Hp B M (hs' x) w) (h : ∀ x, φ x → K n B D M Q e fs (hs' x)) : K n B D M Q e fs hs := ⟨fun a w ha hw hm => by
  obtain ⟨x, hx, hw'⟩ := h1 w hw; exact (h x hx).out a w ha hw' hm⟩
theorem TS.exH {ι : Type} {φ : ι → Prop} {hs0 : HS} {r : Ord} {hs' : ι → HS} (h1 : ∀ w, Hp B M hs w → ∃ x, φ x ∧ Hp B M (hs' x) w) (h : ∀ x, φ x → TS Fe P n B D M ops Q hs0 r fs (hs' x)) : TS Fe P n B D M ops Q hs0 r fs hs := ⟨fun a w fuel listed h2 h3 h4 ha hw h5 hm => by
  obtain ⟨x, hx, hw'⟩ := h1 w hw; exact (h x hx).out a w fuel listed h2 h3 h4 ha hw' h5 hm⟩
theorem TSo.ewG {hs0 : HS} {i : Nat} {k : Ord} {d : Nat} {Φ : Value → HS → Prop} (hi : ops[i]? = some o) (hwt : Wt n ops fs o true) (hd : o.dst = some d) (hb : Nat.blt d n = true) (h : Ew P n B M fs hs o Φ) (h2 : ∀ v hs', Φ v hs' → (∀ w, Hp B M hs' w → Hp B M hs0 w) ∧ TS Fe P n B D M ops Q hs0 k ((d, v) :: fs) hs') : TSo Fe P n B D M ops Q hs0 i k fs hs :=
  ⟨fun a w fuel listed hns hnd hok ha hw hw0 hm => by
    unfold wpOpIn; simp only [hi, hwt a ha, if_true]; refine h Fe hFe Q _ a w ha hw fun v w' hs' hk hp' hΦ => ?_; rw [hd]
    exact ⟨(h2 v hs' hΦ).1 _ hp', (h2 v hs' hΦ).2.out _ w' fuel _ hns hnd hok (ha.put hb v) hp' ((h2 v hs' hΦ).1 _ hp') ((hm.next hk).put _ _)⟩⟩
theorem Fx.up {F : FzB B M S0} {w w' : World} {G : Frz} (h : Fx F.toFrz w G w') (hw : Hp B M hs w) : ∃ G' : FzB B M S0, G'.toFrz = G := by
  refine ⟨⟨G, fun g hg hb hM => ?_, fun g hg => ?_⟩, rfl⟩
  · rcases h.new g hg with h1 | h1
    · rw [(h.le g h1).2, F.base g h1 hb hM]
    · have := hw.size; omega
  · rcases h.new g hg with h1 | h1
    · exact F.new g h1
    · have := hw.size; exact .inr (.inr (by omega))
theorem Ew.callR (i : Nat) {ι : Type} {F : FzB B M S0} {φ : ι → Frz → Prop} {val : ι → Value} {hs' : FzB B M S0 → HS} {c : Operand} {xs : Array Operand} {ts : Array TypeId} {f : FuncId} {fst caps : Array Value} {vs : List Value} [hE : Enters P f] (ho : o.op = .call { callee := .value c, args := xs, argTypes := ts }) (hc : ev fs c = some (.func (.func f) fst caps)) (hv : evs fs xs.toList = some vs) (hi : hs[i]? = some (.fr F))
    (C : ∀ w, Hp B M hs w → F.toFrz.At w → Calls P f (fst.toList ++ vs ++ caps.toList).toArray w (fun e w' => ∃ y G, φ y G ∧ e = .returned (val y) ∧ Fx F.toFrz w G w')) [hH : ∀ G, SetAt hs i (.fr G) (hs' G)] : Ew P n B M fs hs o (fun v hs'' => ∃ y, ∃ G : FzB B M S0, F.toFrz.Le G.toFrz ∧ φ y G.toFrz ∧ v = val y ∧ hs'' = hs' G) :=
  Ew.call ho hc hv fun w hp => (C w hp (hp.fr hi)).mono fun e w' ⟨y, G, hy, he, hx⟩ => by
    obtain ⟨G', rfl⟩ := hx.up hp; refine ⟨val y, hs' G', he, Kp.below hx.bel, ?_, y, G', hx.le, hy, rfl, rfl⟩; rw [← (hH G').h]; refine hp.updAt hi (S := fun _ => False) (.of_below_new hx.bel _) (fun _ _ h => h.elim) (Ent.fr_ok.2 (fun g hg => hx.at_ g hg.1)) (fun g hg => ?_); have h := Ent.fr_fp.1 hg; rcases hx.new g h.1 with h1 | h1
    · exact .inl (Ent.fr_fp.2 ⟨h1, h.2⟩)
    · exact .inr h1
end
end Go.Proofs.YtljgejbmimapdaaGreatDoor
namespace Go.Proofs.YtljgejbmimapdaaGreatDoor
open Go.RowKit
def iterK {σ ρ : Type} (f : Nat → (σ → ρ) → σ → ρ) (k : σ → ρ) : Nat → Nat → σ → ρ
  | 0, _, s => k s
  | m + 1, i, s => f i (iterK f k m (i + 1)) s
def iterD {σ ρ : Type} (f : Nat → (σ → ρ) → σ → ρ) (k : σ → ρ) : Nat → σ → ρ
  | 0, s => k s
  | m + 1, s => f m (iterD f k m) s
def whileK {σ ρ : Type} (f : (σ → Option ρ) → σ → Option ρ) : Nat → σ → Option ρ
  | 0, _ => none
  | m + 1, s => f (whileK f m) s
def joinK {σ ρ : Type} (k : σ → ρ) (e : (σ → ρ) → ρ) : ρ := e k
def grd {ρ : Type} (c : Prop) [Decidable c] (x : Option ρ) : Option ρ := if c then x else none
section
variable {σ ρ : Type}
theorem iterK_lt {f : Nat → (σ → ρ) → σ → ρ} {k : σ → ρ} {n i : Nat} {s : σ} (h : i < n) : iterK f k (n - i) i s = f i (iterK f k (n - (i + 1)) (i + 1)) s := by
  rw [show n - i = (n - (i + 1)) + 1 by omega]; rfl
theorem iterK_ge {f : Nat → (σ → ρ) → σ → ρ} {k : σ → ρ} {n i : Nat} {s : σ} (h : n ≤ i) : iterK f k (n - i) i s = k s := by
  rw [show n - i = 0 by omega]; rfl
theorem iterK_open {f : Nat → (σ → ρ) → σ → ρ} {k : σ → ρ} {m i : Nat} {s : σ} {R : ρ} (h : iterK f k m i s = R) : ∃ f' k', f = f' ∧ k = k' ∧ iterK f' k' m i s = R := ⟨f, k, rfl, rfl, h⟩
theorem iterD_open {f : Nat → (σ → ρ) → σ → ρ} {k : σ → ρ} {m : Nat} {s : σ} {R : ρ} (h : iterD f k m s = R) : ∃ f' k', f = f' ∧ k = k' ∧ iterD f' k' m s = R := ⟨f, k, rfl, rfl, h⟩
theorem whileK_open {f : (σ → Option ρ) → σ → Option ρ} {m : Nat} {s : σ} {R : Option ρ} (h : whileK f m s = R) : ∃ f', f = f' ∧ whileK f' m s = R := ⟨f, rfl, h⟩
theorem joinK_open {k : σ → ρ} {e : (σ → ρ) → ρ} {R : ρ} (h : joinK k e = R) : ∃ k', k = k' ∧ e k' = R := ⟨k, rfl, h⟩
theorem whileK_pos {f : (σ → Option ρ) → σ → Option ρ} {m : Nat} {s : σ} {r : ρ} (h : whileK f m s = some r) : ∃ m', m = m' + 1 ∧ f (whileK f m') s = some r := by
  cases m with
  | zero => cases h
  | succ m => exact ⟨m, rfl, h⟩
theorem grd_some {c : Prop} [Decidable c] {x : Option ρ} {r : ρ} (h : grd c x = some r) : c ∧ x = some r := by
  unfold grd at h; split at h
  · exact ⟨by assumption, h⟩
  · cases h
theorem grd_pos {c : Prop} [Decidable c] {x : Option ρ} (h : c) : grd c x = x := by unfold grd; rw [if_pos h]
theorem bind_open {α : Type} {x : Option α} {f : α → Option ρ} {r : ρ} (h : x.bind f = some r) : ∃ a, x = some a ∧ f a = some r := by
  cases x with
  | none => cases h
  | some a => exact ⟨a, rfl, h⟩
theorem iterK_inv {f : Nat → (σ → ρ) → σ → ρ} {k : σ → ρ} {n : Nat} {s : σ} (I : Nat → σ → Prop) (post : ρ → Prop) (h0 : I 0 s) (hk : ∀ s, I n s → post (k s)) (hf : ∀ i s next, i < n → I i s → (∀ s', I (i + 1) s' → post (next s')) → post (f i next s)) : post (iterK f k n 0 s) := by
  have key : ∀ m i s, i + m = n → I i s → post (iterK f k m i s) := by
    intro m
    induction m with
    | zero => intro i s e hI; rw [show i = n by omega] at hI; exact hk s hI
    | succ m ih => intro i s e hI; exact hf i s _ (by omega) hI (fun s' hs' => ih (i + 1) s' (by omega) hs')
  exact key n 0 s (by omega) h0
theorem iterD_inv {f : Nat → (σ → ρ) → σ → ρ} {k : σ → ρ} {n : Nat} {s : σ} (I : Nat → σ → Prop) (post : ρ → Prop) (h0 : I n s) (hk : ∀ s, I 0 s → post (k s)) (hf : ∀ i s next, i < n → I (i + 1) s → (∀ s', I i s' → post (next s')) → post (f i next s)) : post (iterD f k n s) := by
  have key : ∀ m s, m ≤ n → I m s → post (iterD f k m s) := by
    intro m
    induction m with
    | zero => intro s _ hI; exact hk s hI
    | succ m ih => intro s e hI; exact hf m s _ (by omega) hI (fun s' hs' => ih s' (by omega) hs')
  exact key n s (Nat.le_refl _) h0
theorem whileK_inv {f : (σ → Option ρ) → σ → Option ρ} {m : Nat} {s : σ} (I : σ → Prop) (μ : σ → Nat) (post : Option ρ → Prop) (h0 : I s) (hm : μ s < m) (hf : ∀ s next, I s → (∀ s', I s' → μ s' < μ s → post (next s')) → post (f next s)) : post (whileK f m s) := by
  induction m generalizing s with
  | zero => omega
  | succ m ih => exact hf s _ h0 (fun s' hs' hl => ih hs' (by omega))
end
section
variable {Fe : Fence} [hFe : Calm Fe] {P : Program} {n : Nat} {B D : World} {M : Nat → Prop} {Q : Exit → Act → World → Prop} {fs : SFs} {hs : HS} {ops : Array Oper} {rest : List Oper} {o : Oper} {v val sv : Value}
theorem Ew.appendG (i : Nat) {s x : Operand} {t e : TypeId} {size bytes m c k k' g off : Nat} {z l news l' : List Value} {hs' : Value → HS} [hT : TyE P t e size bytes z] (h1 : ∀ v ∈ news, v.oneCell' = true) (ho : o.op = .call { callee := .builtin .append, args := #[s, x], argTypes := #[t, t] })
    (hs1 : ev fs s = some sv) (hx : ev fs x = some (.slice (some ⟨g, off, none⟩) m c)) (hi : hs[i]? = some (.sl sv e size k l)) (hj : ∀ w, Hp B M hs w → Cs w g off news) (hl : news.length = m * size) (hk : k + m = k') (hl' : l ++ news = l') (hb : k' * bytes ≤ 140737488355328) (hbs : 0 < bytes)
    [hH : ∀ v', SetAt hs i (.sl v' e size k' l') (hs' v')] : Ew P n B M fs hs o (fun v hs'' => OneC v ∧ hs'' = hs' v) := Ew.of_val fun a w ha hp => by
  obtain ⟨inf, zv, hU, hinf, hz, hzc, rfl, rfl, hzs, hpos⟩ := hT.get; subst hk hl'; have hkm : k + m ≤ 140737488355328 := Nat.le_trans (Nat.le_mul_of_pos_right _ hbs) hb
  have hnews : ∀ q u, news[q]? = some u → w.cell? ((⟨g, off, none⟩ : Addr).add q) = some u := by
    intro q u hq; rw [add_off]; exact (hj w hp q (List.getElem?_eq_some_iff.1 hq).1).trans hq
  obtain ⟨v', w', hr, hown, hgr, _, hat⟩ := run_append_own_at (P := P) w 0 t o.type e inf zv inf.size inf.bytes hU hinf hz rfl rfl hzs hpos sv k l (Ent.sl_ok.1 (hp.get hi)) ⟨g, off, none⟩ m c news hl hnews h1 (by unfold maxLen; omega) hb (Nat.zero_le _); refine ⟨v', w', hs' v', ?_, ?_, ?_, ?_, rfl⟩
  · unfold execOp; simp [ho, resolve, invoke, builtin, ha.ev hs1, ha.ev hx, hr]
  · exact Kp.only (only_grown hgr) (fun g hg c => (Ent.sl sv e inf.size k l).nd (hp.get hi) g (Ent.sl_fp.2 hg) c)
  · rw [← (hH v').h]; refine hp.updAt hi (only_grown hgr) (fun q _ hq => Ent.sl_fp.2 hq) (Ent.sl_ok.2 hown) (fun q hq => ?_); have := Ent.sl_fp.1 hq; rcases hat with h | h
    · exact .inl (Ent.sl_fp.2 (by rw [← h]; exact this))
    · rw [h] at this; simp at this; exact .inr (by omega)
  · rcases hown.2 with ⟨rfl, _⟩ | ⟨_, _, _, rfl, _⟩ <;> exact ⟨rfl⟩
theorem Ew.appendL (i j : Nat) {s x : Operand} {t e u : TypeId} {size bytes m c k k' g : Nat} {z l news l' : List Value} {hs' : Value → HS} [hT : TyE P t e size bytes z] [h1 : OneCs news] (ho : o.op = .call { callee := .builtin .append, args := #[s, x], argTypes := #[t, t] })
    (hs1 : ev fs s = some sv) (hx : ev fs x = some (.slice (some ⟨g, 0, none⟩) m c)) (hi : hs[i]? = some (.sl sv e size k l)) (hj : hs[j]? = some (.row g u news)) (hl : news.length = m * size) (hk : k + m = k') (hl' : l ++ news = l') (hb : k' * bytes ≤ 140737488355328) (hbs : 0 < bytes)
    [hH : ∀ v', SetAt hs i (.sl v' e size k' l') (hs' v')] : Ew P n B M fs hs o (fun v hs'' => OneC v ∧ hs'' = hs' v) :=
  Ew.appendG i h1.h ho hs1 hx hi (fun w hw => Cs.of_row (Ent.row_ok.1 (hw.get hj)) (by simp)) hl hk hl' hb hbs
end
end Go.Proofs.YtljgejbmimapdaaGreatDoor
namespace Go.Proofs.YtljgejbmimapdaaGreatDoor
open Go.RowKit
abbrev eI (x : Int) : List Value := [.int .i64 x]
abbrev wI (x : Int) : Int := IntKind.i64.wrap x
abbrev room (n bytes : Nat) : Prop := n * bytes ≤ 140737488355328
theorem condT_open {ρ : Type} {b : Bool} {x y R : ρ} (h : (bif b then x else y) = R) (hb : b = true) : x = R := by subst hb; exact h
theorem condF_open {ρ : Type} {b : Bool} {x y R : ρ} (h : (bif b then x else y) = R) (hb : b = false) : y = R := by subst hb; exact h
theorem SlC.oneC {F : Frz} {v : Value} {size : Nat} {cs : List (List Value)} (h : SlC F v size cs) : OneC v := by
  obtain ⟨A, cap, rfl, _⟩ := h; exact ⟨rfl⟩
theorem SlD.nil {α : Type} [Inhabited α] (rep : Frz → List Value → α → Prop) (F : Frz) (size : Nat) : SlD rep F (.slice none 0 0) size [] [] := ⟨SlC.nil F size, rfl, fun i hi => absurd hi (Nat.not_lt_zero i)⟩
theorem flat_app {α : Type} {enc : α → List Value} {xs ys : List α} : xs.flatMap enc ++ ys.flatMap enc = (xs ++ ys).flatMap enc := (List.flatMap_append ..).symm
theorem flat_app2 {cs ds : List (List Value)} : cs.flatten ++ ds.flatten = (cs ++ ds).flatten := (List.flatten_append ..).symm
theorem flat_appS {α : Type} {enc : α → List Value} {xs ys : List α} : xs.flatMap enc ++ (ys.map enc).flatten = (xs ++ ys).flatMap enc := by
  rw [List.flatMap_append, ← List.flatMap_def]
theorem len_appS {α β : Type} {f : α → β} {xs ys : List α} : xs.length + (ys.map f).length = (xs ++ ys).length := by simp
theorem one_map {α : Type} {enc : α → List Value} {xs : List α} (h : ∀ x, OneCs (enc x)) : ∀ c ∈ xs.map enc, ∀ v ∈ c, v.oneCell' = true := fun c hc => by
  obtain ⟨x, _, rfl⟩ := List.mem_map.1 hc; exact (h x).h
def pickL (hs : HS) : List Nat → Option HS
  | [] => some []
  | i :: r => match hs[i]? with
    | some e => match pickL hs r with
      | some l => some (e :: l)
      | none => none
    | none => none
section
variable {B w : World} {M : Nat → Prop} {hs hs' : HS}
theorem pickL_mem : ∀ {idx : List Nat} {hs' : HS}, pickL hs idx = some hs' → ∀ e ∈ hs', ∃ i ∈ idx, hs[i]? = some e
  | [], hs', h, e, he => by simp only [pickL] at h; cases h; cases he
  | i :: r, hs', h, e, he => by
    simp only [pickL] at h
    split at h
    · rename_i x hx
      split at h
      · rename_i l hl
        cases h
        rcases List.mem_cons.1 he with rfl | he
        · exact ⟨i, by simp, hx⟩
        · obtain ⟨j, hj, hje⟩ := pickL_mem hl e he; exact ⟨j, by simp [hj], hje⟩
      · cases h
    · cases h
theorem Hp.two (hw : Hp B M hs w) {i j : Nat} {e f : Ent} (hij : i ≠ j) (hi : hs[i]? = some e) (hj : hs[j]? = some f) (g : Nat) (he : e.fp g) : ¬ f.fp g := by
  obtain ⟨hi', rfl⟩ := List.getElem?_eq_some_iff.1 hi; obtain ⟨hj', rfl⟩ := List.getElem?_eq_some_iff.1 hj; have h := List.pairwise_iff_getElem.1 hw.apart; rcases Nat.lt_or_ge i j with h1 | h1
  · exact h i j hi' hj' h1 g he
  · exact fun hf => h j i hj' hi' (by omega) g hf he
theorem pickL_apart (hw : Hp B M hs w) : ∀ {idx : List Nat} {hs' : HS}, pickL hs idx = some hs' → idx.Nodup → hs'.Pairwise fun e f => ∀ g, e.fp g → ¬ f.fp g
  | [], hs', h, _ => by simp only [pickL] at h; cases h; exact .nil
  | i :: r, hs', h, hn => by
    simp only [pickL] at h
    split at h
    · rename_i x hx
      split at h
      · rename_i l hl
        cases h
        rw [List.nodup_cons] at hn; refine List.Pairwise.cons (fun f hf g hg => ?_) (pickL_apart hw hl hn.2); obtain ⟨j, hj, hje⟩ := pickL_mem hl f hf; exact hw.two (i := i) (j := j) (fun e => hn.1 (by rw [e]; exact hj)) hx hje g hg
      · cases h
    · cases h
theorem Hp.pick {idx : List Nat} (hw : Hp B M hs w) (h : pickL hs idx = some hs') (hn : idx.Nodup) : Hp B M hs' w :=
  ⟨hw.os, hw.tape, hw.output, hw.size, hw.base, fun e he => by obtain ⟨i, _, hi⟩ := pickL_mem h e he; exact hw.get hi, fun e he => by
    obtain ⟨i, _, hi⟩ := pickL_mem h e he; exact hw.new e (List.mem_of_getElem? hi), pickL_apart hw h hn⟩
end
section
variable {Fe : Fence} [hFe : Calm Fe] {P : Program} {n : Nat} {B D : World} {M S0 : Nat → Prop} {Q : Exit → Act → World → Prop} {fs : SFs} {hs : HS} {ops : Array Oper} {rest : List Oper} {o : Oper} {v val sv : Value}
theorem T.pick (idx : List Nat) {c : Code} {hs' : HS} (h : pickL hs idx = some hs') (hn : idx.Nodup) (k : T Fe P n B D M c Q fs hs') : T Fe P n B D M c Q fs hs := ⟨fun a w ha hw hm => k.out a w ha (hw.pick h hn) hm⟩
theorem K.pick (idx : List Nat) {e : Exit} {hs' : HS} (h : pickL hs idx = some hs') (hn : idx.Nodup) (k : K n B D M Q e fs hs') : K n B D M Q e fs hs := ⟨fun a w ha hw hm => k.out a w ha (hw.pick h hn) hm⟩
theorem T.cutXK {ι : Type} {x y : Code} (G : ι → SFs) (H : ι → HS) (φ : ι → Prop) (h : T Fe P n B D M x (Exit.then (fun a w => ∃ i, φ i ∧ At n B D M (G i) (H i) a w) Q) fs hs) (k : ∀ i, φ i → T Fe P n B D M y Q (G i) (H i)) : T Fe P n B D M x (Exit.then (y.wpIn Fe 0 P Q) Q) fs hs :=
  ⟨fun a w ha hw hm => wpIn_mono (h.out a w ha hw hm) fun e a w hq => by
    cases e <;> first | (obtain ⟨i, hi, h1, h2, h3⟩ := hq; exact (k i hi).out a w h1 h2 h3) | exact hq⟩
theorem TSo.yvG {hs0 : HS} {i : Nat} {k : Ord} {d : Nat} (hi : ops[i]? = some o) (hwt : Wt n ops fs o true) (hd : o.dst = some d) (hb : Nat.blt d n = true) (hy : Yv P n B M fs hs o v) (h2 : ∀ w, Hp B M hs w → Hp B M hs0 w) (h : TS Fe P n B D M ops Q hs0 k ((d, v) :: fs) hs) : TSo Fe P n B D M ops Q hs0 i k fs hs :=
  TSo.ewG hi hwt hd hb (Ew.yv hy) (by rintro _ _ ⟨rfl, rfl⟩; exact ⟨h2, h⟩)
theorem TSo.ewG0 {hs0 : HS} {i : Nat} {k : Ord} {Φ : Value → HS → Prop} (hi : ops[i]? = some o) (hwt : Wt n ops fs o true) (hd : o.dst = none) (h : Ew P n B M fs hs o Φ) (h2 : ∀ v hs', Φ v hs' → (∀ w, Hp B M hs' w → Hp B M hs0 w) ∧ TS Fe P n B D M ops Q hs0 k fs hs') : TSo Fe P n B D M ops Q hs0 i k fs hs :=
  ⟨fun a w fuel listed hns hnd hok ha hw hw0 hm => by
    unfold wpOpIn; simp only [hi, hwt a ha, if_true]; refine h Fe hFe Q _ a w ha hw fun v w' hs' hk hp' hΦ => ?_; rw [hd]
    exact ⟨(h2 v hs' hΦ).1 _ hp', (h2 v hs' hΦ).2.out _ w' fuel _ hns hnd hok (ha.put_none v) hp' ((h2 v hs' hΦ).1 _ hp') ((hm.next hk).put _ _)⟩⟩
theorem TS.slNil {hs0 : HS} {r : Ord} (e : TypeId) (size : Nat) (h : TS Fe P n B D M ops Q hs0 r fs (.sl (.slice none 0 0) e size 0 [] :: hs)) : TS Fe P n B D M ops Q hs0 r fs hs := ⟨fun a w fuel listed h2 h3 h4 ha hw h5 hm => h.out a w fuel listed h2 h3 h4 ha (hw.slNil e size) h5 hm⟩
theorem TSo.slNil {hs0 : HS} {i : Nat} {r : Ord} (e : TypeId) (size : Nat) (h : TSo Fe P n B D M ops Q hs0 i r fs (.sl (.slice none 0 0) e size 0 [] :: hs)) : TSo Fe P n B D M ops Q hs0 i r fs hs := ⟨fun a w fuel listed h2 h3 h4 ha hw h5 hm => h.out a w fuel listed h2 h3 h4 ha (hw.slNil e size) h5 hm⟩
theorem Yv.loadRF (ix : Nat) {F : FzB B M S0} {α : Type} [Inhabited α] {enc : α → List Value} {t : TypeId} [hT : TyS P t] {k i j p : Nat} {xs : List α} {x : Operand} (ho : o.op = .load t x) (hx : ev fs x = some (vAddr v p)) (hF : hs[ix]? = some (.fr F)) (h : SlC F.toFrz v k (xs.map enc)) (hi : i < xs.length) (hp : p = i * k + j) (hv : (enc (nth xs i))[j]? = some val) : Yv P n B M fs hs o val :=
  Yv.loadR ix (i := i) (j := j) ho hx hF h (List.length_map _) hi hp (by rw [nth_mapF hi]; exact hv)
theorem Yv.loadRFA (ix : Nat) {F : FzB B M S0} {α : Type} [Inhabited α] {enc : α → List Value} {t : TypeId} {q : Nat} [hT : TyA P t q] {k i p : Nat} {xs : List α} {x : Operand} {l : List Value} (ho : o.op = .load t x) (hx : ev fs x = some (vAddr v p)) (hF : hs[ix]? = some (.fr F)) (h : SlC F.toFrz v k (xs.map enc)) (hi : i < xs.length) (hp : p = i * k) (hv : (enc (nth xs i)) = l) (hl : l.length = q) : Yv P n B M fs hs o (.agg l.toArray) :=
  Yv.loadRA ix (i := i) (j := 0) ho hx hF h (List.length_map _) hi hp (by rw [nth_mapF hi, hv, List.drop_zero, List.take_of_length_le (by omega)]) hl
theorem Yv.loadRFP (ix : Nat) {F : FzB B M S0} {α : Type} [Inhabited α] {enc : α → List Value} {t : TypeId} {q : Nat} [hT : TyA P t q] {k i j p : Nat} {xs : List α} {x : Operand} {l : List Value} (ho : o.op = .load t x) (hx : ev fs x = some (vAddr v p)) (hF : hs[ix]? = some (.fr F)) (h : SlC F.toFrz v k (xs.map enc)) (hi : i < xs.length) (hp : p = i * k + j) (hv : ((enc (nth xs i)).drop j).take q = l) (hl : l.length = q) : Yv P n B M fs hs o (.agg l.toArray) :=
  Yv.loadRA ix (i := i) (j := j) ho hx hF h (List.length_map _) hi hp (by rw [nth_mapF hi]; exact hv) hl
theorem run_append_none {t e ty : TypeId} {k : Nat} {w : World} [hT : TySl P t e k] {b : Option Addr} {m c : Nat} {A : Option Addr} {c2 : Nat} (hc : m ≤ c) : (Builtin.append_ #[t, t] ty #[.slice b m c, .slice A 0 c2]).run P w = .ok (.slice b m c) w := by
  have h := hT.h; unfold tySlice at h
  split at h
  · rename_i el hU
    cases hi' : P.info? el with
    | none => rw [hi'] at h; cases h
    | some inf =>
      rw [hi'] at h
      cases h
      unfold Builtin.append_
      cases A <;> cases b <;> simp [underlying, hU, sizeOf, typeInfo, hi', Builtin.lenOf, hc, Builtin.firstCells, loadCells, loadCellsFrom, storeCells]
  · cases h
theorem Cs.flat {w : World} {g off size : Nat} {cs : List (List Value)} (hp : 0 < size) (hr : ∀ c ∈ cs, c.length = size) (h : ∀ i, i < cs.length → Cs w g (off + i * size) (nth cs i)) : Cs w g off cs.flatten := fun q hq => by
  have hl : cs.flatten.length = cs.length * size := by
    clear h hq
    induction cs with
    | nil => simp
    | cons c r ih => rw [List.flatten_cons, List.length_append, ih (fun c' h' => hr c' (by simp [h'])), hr c (by simp), List.length_cons, Nat.add_mul]; omega
  (have hi : q / size < cs.length := by rw [Nat.div_lt_iff_lt_mul hp]; omega); have hj : q % size < size := Nat.mod_lt _ hp; (have e : q / size * size + q % size = q := by rw [Nat.mul_comm]; exact Nat.div_add_mod q size); (have hrow : (nth cs (q / size)).length = size := by rw [nth_eq hi]; exact hr _ (List.getElem_mem hi)); have h1 := h (q / size) hi (q % size) (by omega); have h2 := flat_take cs hr (q / size) hi (q % size) hj; rw [e] at h2; rw [h2, ← h1]
  congr 2
  omega
theorem Ew.appendS (i ix : Nat) {F : FzB B M S0} {s x : Operand} {t e : TypeId} {size bytes k k' : Nat} {z l l' : List Value} {cs : List (List Value)} {hs' : Value → HS} [hT : TyE P t e size bytes z] [hT2 : TySl P t e size] (h1 : ∀ c ∈ cs, ∀ v ∈ c, v.oneCell' = true) (ho : o.op = .call { callee := .builtin .append, args := #[s, x], argTypes := #[t, t] })
    (hs1 : ev fs s = some sv) (hx : ev fs x = some v) (hi : hs[i]? = some (.sl sv e size k l)) (hF : hs[ix]? = some (.fr F)) (h : SlC F.toFrz v size cs) (hk : k + cs.length = k') (hl' : l ++ cs.flatten = l') (hb : k' * bytes ≤ 140737488355328) (hbs : 0 < bytes)
    [hH : ∀ v', SetAt hs i (.sl v' e size k' l') (hs' v')] : Ew P n B M fs hs o (fun v hs'' => OneC v ∧ hs'' = hs' v) := by
  obtain ⟨inf, zv, hU, hinf, hz, hzc, h6, h7, hzs, hpos⟩ := hT.get; rcases Nat.eq_zero_or_pos cs.length with h0 | h0
  · obtain rfl := List.eq_nil_of_length_eq_zero h0; obtain ⟨A, cap, hv, _⟩ := h; subst hk; simp at hl' hv; subst hl' hv; refine Ew.of_val fun a w ha hp => ?_; have ho' := Ent.sl_ok.1 (hp.get hi)
    obtain ⟨b, c, rfl, hc⟩ : ∃ b c, sv = .slice b k c ∧ k ≤ c := by
      rcases ho'.2 with ⟨rfl, h0⟩ | ⟨g, cap, cur, rfl, hb, hg, hnc, _⟩
      · exact ⟨none, 0, by rw [h0], by omega⟩
      · exact ⟨_, cap, rfl, hnc⟩
    refine ⟨.slice b k c, w, hs' (.slice b k c), ?_, Kp.refl w, ?_, ⟨rfl⟩, rfl⟩
    · unfold execOp; simp [ho, resolve, invoke, builtin, ha.ev hs1, ha.ev hx, run_append_none (P := P) (t := t) hc]
    · rw [← (hH _).h]; simp only [List.length_nil, Nat.add_zero]; rw [set_same hi]; exact hp
  · obtain ⟨g, off, cap, rfl, hg, hc⟩ := h.addr h0; (have hr : ∀ c ∈ cs, c.length = size := by obtain ⟨_, _, _, _, _, h4, _⟩ := h; exact h4); refine Ew.appendG i (news := cs.flatten) (fun v hv => ?_) ho hs1 hx hi (fun w hw => Cs.flat (by omega) hr (fun i hi => Cs.at (hw.fr hF) hg (hc i hi))) ?_ hk hl' hb hbs
    · obtain ⟨c, hc', hv'⟩ := List.mem_flatten.1 hv; exact h1 c hc' v hv'
    · clear hc hl' hx hk h1 h0 h
      induction cs with
      | nil => simp
      | cons c r ih => rw [List.flatten_cons, List.length_append, ih (fun c' h' => hr c' (by simp [h'])), hr c (by simp), List.length_cons, Nat.add_mul]; omega
end
end Go.Proofs.YtljgejbmimapdaaGreatDoor
namespace Go.Proofs.YtljgejbmimapdaaGreatDoor
open Go.RowKit
theorem len_lit {α : Type} {xs ys : List α} {m : Nat} (h : ys.length = m) : xs.length + m = (xs ++ ys).length := by rw [List.length_append, h]
theorem equalIn_int {P : Program} {d : Nat} {t : TypeId} {k k' : IntKind} {a b : Int} {w : World} (hU : P.underlying t = some (.int k')) : (Op.equalIn (d + 1) t (.int k a) (.int k b)).run P w = .ok (decide (a = b)) w := by
  rw [Op.equalIn]; simp [underlying, hU]
  rfl
def fInt (P : Program) (f : Field) (j : Nat) : Bool := (!(f.name == "_")) && (f.offset == j) && (tyAgg P f.type == some (false, 1)) && (match P.underlying f.type with | some (.int _) => true | _ => false)
theorem fInt_get {P : Program} {f : Field} {j : Nat} (h : fInt P f j = true) : f.name ≠ "_" ∧ f.offset = j ∧ (∀ w, (isAgg f.type).run P w = .ok false w) ∧ ∃ k, P.underlying f.type = some (.int k) := by
  unfold fInt at h; simp only [Bool.and_eq_true, Bool.not_eq_true', beq_eq_false_iff_ne, beq_iff_eq] at h; refine ⟨h.1.1.1, h.1.1.2, fun w => (tyAgg_run h.1.2 w).1, ?_⟩; have := h.2
  split at this
  · exact ⟨_, by assumption⟩
  · cases this
def tyInts2 (P : Program) (t : TypeId) : Bool := match P.underlying t with
  | some (.struct fs) => match fs.toList with
    | [f0, f1] => (fInt P f0 0 && fInt P f1 1) && (!P.stoodInHeld t && !P.eqGuardType P.depth t)
    | _ => false
  | _ => false
theorem equal_s2 {P : Program} {t : TypeId} (h : tyInts2 P t = true) (a0 a1 b0 b1 : Int) (w : World) : (Op.equal t (.agg [.int .i64 a0, .int .i64 a1].toArray) (.agg [.int .i64 b0, .int .i64 b1].toArray)).run P w = .ok (decide (a0 = b0) && decide (a1 = b1)) w := by
  unfold tyInts2 at h
  split at h
  · rename_i fs hU
    split at h
    · rename_i f0 f1 hl; simp only [Bool.and_eq_true, Bool.not_eq_true'] at h; obtain ⟨⟨h0, h1⟩, hs, _⟩ := h; (obtain rfl : fs = #[f0, f1] := by apply Array.ext'; simpa using hl); obtain ⟨n0, o0, g0, k0, u0⟩ := fInt_get h0; obtain ⟨n1, o1, g1, k1, u1⟩ := fInt_get h1; unfold Op.equal; rw [show Op.maxDepth = (9998 + 1) + 1 from rfl, Op.equalIn]; simp only [underlying, Sem.run_bind, run_program, Result.andThen_ok, hU, Sem.run_pure, hs, Bool.false_eq_true, if_false]; by_cases e0 : a0 = b0
      case neg => simp [part, n0, o0, g0, equalIn_int u0, n1, o1, g1, equalIn_int u1, e0]
      case pos =>
        by_cases e1 : a1 = b1
        case neg => simp [part, n0, o0, g0, equalIn_int u0, n1, o1, g1, equalIn_int u1, e0, e1]
        simp [part, n0, o0, g0, equalIn_int u0, n1, o1, g1, equalIn_int u1, e0, e1]
    · cases h
  · cases h
theorem guard_s2 {P : Program} {t : TypeId} (h : tyInts2 P t = true) : P.eqGuardType P.depth t = false := by
  unfold tyInts2 at h
  split at h
  · split at h
    · simp only [Bool.and_eq_true, Bool.not_eq_true'] at h; exact h.2.2
    · cases h
  · cases h
section
variable {P : Program} {n : Nat} {B : World} {M : Nat → Prop} {fs : SFs} {hs : HS} {o : Oper}
theorem Yv.neS2 {x y : Operand} {t u : TypeId} {a0 a1 b0 b1 : Int} (hU : tyInts2 P t = true) (ho : o.op = .binOp .neq t x y u) (hx : ev fs x = some (.agg [.int .i64 a0, .int .i64 a1].toArray)) (hy : ev fs y = some (.agg [.int .i64 b0, .int .i64 b1].toArray)) : Yv P n B M fs hs o (.bool (!(decide (a0 = b0) && decide (a1 = b1)))) := fun f w ha _ => by
  have := equal_s2 hU a0 a1 b0 b1 w; have hg := guard_s2 hU; unfold execOp; simp only [ho, ha.ev hx, ha.ev hy, eqGuard, binOp]; simp [this, hg]
end
section
variable {P : Program} {n : Nat} {B : World} {M : Nat → Prop} {fs : SFs} {hs : HS} {o : Oper}
end
section
variable {P : Program} {n : Nat} {B : World} {M : Nat → Prop} {fs : SFs} {hs : HS} {o : Oper}
end
section
variable {P : Program} {n : Nat} {B : World} {M : Nat → Prop} {fs : SFs} {hs : HS} {o : Oper}
end
end Go.Proofs.YtljgejbmimapdaaGreatDoor
namespace Go.Proofs.YtljgejbmimapdaaGreatDoor
open Go.RowKit
section
variable {σ ρ α : Type}
theorem iterK_any {f : Nat → (Unit → Bool) → Unit → Bool} {k : Unit → Bool} {n : Nat} (q : Nat → Bool) (hf : ∀ i next, i < n → f i next () = (q i || next ())) : iterK f k n 0 () = ((List.range n).any q || k ()) := by
  have key : ∀ m i, i + m = n → iterK f k m i () = ((List.range' i m).any q || k ()) := by
    intro m
    induction m with
    | zero => intro i _; simp [iterK]
    | succ m ih =>
      intro i e
      show f i (iterK f k m (i + 1)) () = _
      rw [hf i _ (by omega), ih (i + 1) (by omega), List.range'_succ, List.any_cons, Bool.or_assoc]
  rw [key n 0 (by omega), List.range_eq_range']
theorem iterK_all {f : Nat → (Unit → Bool) → Unit → Bool} {k : Unit → Bool} {n : Nat} (q : Nat → Bool) (hf : ∀ i next, i < n → f i next () = (q i && next ())) : iterK f k n 0 () = ((List.range n).all q && k ()) := by
  have key : ∀ m i, i + m = n → iterK f k m i () = ((List.range' i m).all q && k ()) := by
    intro m
    induction m with
    | zero => intro i _; simp [iterK]
    | succ m ih =>
      intro i e
      show f i (iterK f k m (i + 1)) () = _
      rw [hf i _ (by omega), ih (i + 1) (by omega), List.range'_succ, List.all_cons, Bool.and_assoc]
  rw [key n 0 (by omega), List.range_eq_range']
theorem iterK_fold {f : Nat → (σ → ρ) → σ → ρ} {k : σ → ρ} {n : Nat} {s : σ} (g : Nat → σ → σ) (hf : ∀ i next s, i < n → f i next s = next (g i s)) : iterK f k n 0 s = k ((List.range n).foldl (fun s i => g i s) s) := by
  have key : ∀ m i s, i + m = n → iterK f k m i s = k ((List.range' i m).foldl (fun s i => g i s) s) := by
    intro m
    induction m with
    | zero => intro i s _; rfl
    | succ m ih =>
      intro i s e
      show f i (iterK f k m (i + 1)) s = _
      rw [hf i _ _ (by omega), ih (i + 1) _ (by omega), List.range'_succ, List.foldl_cons]
  rw [key n 0 s (by omega), List.range_eq_range']
theorem iterK_foldI {f : Nat → (σ → ρ) → σ → ρ} {k : σ → ρ} {n : Nat} {s : σ} (I : Nat → σ → Prop) (g : Nat → σ → σ) (h0 : I 0 s) (hI : ∀ i s, i < n → I i s → I (i + 1) (g i s)) (hf : ∀ i next s, i < n → I i s → f i next s = next (g i s)) : iterK f k n 0 s = k ((List.range n).foldl (fun s i => g i s) s) ∧ I n ((List.range n).foldl (fun s i => g i s) s) := by
  have key : ∀ m i s, i + m = n → I i s → iterK f k m i s = k ((List.range' i m).foldl (fun s i => g i s) s) ∧ I n ((List.range' i m).foldl (fun s i => g i s) s) := by
    intro m
    induction m with
    | zero => intro i s e hs; rw [show i = n by omega] at hs; exact ⟨rfl, hs⟩
    | succ m ih =>
      intro i s e hs; have := ih (i + 1) (g i s) (by omega) (hI i s (by omega) hs); rw [List.range'_succ, List.foldl_cons]; refine ⟨?_, this.2⟩; rw [← this.1]; exact hf i _ s (by omega) hs
  rw [List.range_eq_range']; exact key n 0 s (by omega) h0
theorem range_any {l : List α} [Inhabited α] {q : α → Bool} : ((List.range l.length).any fun i => q (nth l i)) = l.any q := by
  rw [Bool.eq_iff_iff, List.any_eq_true, List.any_eq_true]; constructor
  · rintro ⟨i, hi, h⟩; exact ⟨nth l i, by rw [nth_eq (List.mem_range.1 hi)]; exact List.getElem_mem _, h⟩
  · rintro ⟨x, hx, h⟩; obtain ⟨i, hi, rfl⟩ := List.mem_iff_getElem.1 hx; exact ⟨i, List.mem_range.2 hi, by rw [nth_eq hi]; exact h⟩
theorem range_all {l : List α} [Inhabited α] {q : α → Bool} : ((List.range l.length).all fun i => q (nth l i)) = l.all q := by
  have h := range_any (l := l) (q := fun x => !q x); rw [Bool.eq_iff_iff, List.all_eq_true, List.all_eq_true]; constructor
  · intro h x hx; obtain ⟨i, hi, rfl⟩ := List.mem_iff_getElem.1 hx; have := h i (List.mem_range.2 hi)
    rwa [nth_eq hi] at this
  · intro h i hi; have hi := List.mem_range.1 hi; rw [nth_eq hi]; exact h _ (List.getElem_mem _)
theorem range_foldl {l : List α} [Inhabited α] {g : σ → α → σ} {s : σ} : (List.range l.length).foldl (fun s i => g s (nth l i)) s = l.foldl g s := by
  have e : l = (List.range l.length).map (nth l) := by
    apply List.ext_getElem
    · simp
    · intro i h1 h2; simp [nth_eq h1]
  conv => rhs; rw [e, List.foldl_map]
theorem wI_in {x : Int} (h : -9223372036854775808 ≤ x ∧ x ≤ 9223372036854775807) : wI x = x := IntWalk.i64_in _ h
theorem foldl_snoc {l : List α} {β : Type} {g : α → β} {s : List β} : l.foldl (fun s x => s ++ [g x]) s = s ++ l.map g := by
  induction l generalizing s with
  | nil => simp
  | cons x r ih => rw [List.foldl_cons, ih]; simp
theorem foldl_filt {l : List α} {β : Type} {q : α → Bool} {g : α → β} {s : List β} : l.foldl (fun s x => bif q x then s ++ [g x] else s) s = s ++ (l.filter q).map g := by
  induction l generalizing s with
  | nil => simp
  | cons x r ih =>
    rw [List.foldl_cons, ih, List.filter_cons]
    cases q x <;> simp
theorem foldl_snd {l : List α} {β γ : Type} {g : γ → α → γ} {a : β} {b : γ} : l.foldl (fun s x => (s.1, g s.2 x)) (a, b) = (a, l.foldl g b) := by
  induction l generalizing b with
  | nil => rfl
  | cons x r ih => rw [List.foldl_cons, List.foldl_cons]; exact ih
end
end Go.Proofs.YtljgejbmimapdaaGreatDoor
