/- St Fv Sz Ka Yb: shortened and put together by squeeze.py. -/
import Derived.Test.YtogbggmckmnlfaaGreatDoorQ07
set_option maxRecDepth 100000
set_option maxHeartbeats 4000000
set_option linter.unusedVariables false
set_option linter.unusedSectionVars false
set_option linter.unusedSimpArgs false
namespace Go.Proofs.YtogbggmckmnlfaaGreatDoor
open Go.RowKit
abbrev st2L (k:SK)(v:Value)(L:Ws)(b:Bool):HS:=[.row k.sp 188 [.pointer (some ⟨k.tp,0,none⟩),v, .bool b], .sl v 80 1 k.Y.n (Ws.cells L)]
abbrev eG (k:SK)(v:Value)(L:Ws)(b:Bool):Ent:= .bag (st2L k v L b)
def TbF (F:Frz)(k:SK):Prop:=∀g,jK k.w0 g→F.S g∧F.w.heap[g]?=k.w0.heap[g]?
theorem TbF.mono {F G:Frz}{k:SK}(h:TbF F k)(hle:F.Le G):TbF G k:=fun g hg=>⟨(hle g (h g hg).1).1,(hle g (h g hg).1).2.trans (h g hg).2⟩
theorem TbF.fz {F:Frz}{k:SK}{w:World}(h:TbF F k)(hF:F.At w):Fz k.w0 w:=fun g hg=>(hF g (h g hg).1).trans (h g hg).2
theorem zgJ:∀L:Ws,L.flatMap Le=Ws.cells L
 | []=>rfl
 |b :: r=>by
  rw [List.flatMap_cons,zgJ r];rfl
section
variable {p:GProblem}{m:List GDomain×Bool}{k:SK}{v:Value}{L:Ws}{b:Bool}{w w':World}{F F0:Frz}
theorem SI.gl (h:SI p m k L)(gl:GL):SI p m { k with gl:=gl } L:=⟨h.pb,h.tb,h.len,h.good,h.bad⟩
theorem SI.sp (h:SI p m k L)(sp:Nat):SI p m { k with sp:=sp } L:=⟨h.pb,h.tb,h.len,h.good,h.bad⟩
theorem SI.n512 (h:SI p m k L):k.Y.n≤512:=h.ok.n
theorem zcY {g:Nat}{t:TypeId}{l:List Value}{i:Nat}{x:Value}(h:(Ent.row g t l).ok w)(hx:l[i]?=some x):w.cell? ⟨g,i,none⟩=some x:=by rw [jS (c4.1 h)];exact hx
theorem zhS (h:SI p m k L)(hok:(eG k v L b).ok w)(hf:Fz k.w0 w)(htab:Tab w):StateAt w k.sp k.Y L b:=by
 have h1:=(dp.1 hok).1;have hr:=h1 (.row k.sp 188 [.pointer (some ⟨k.tp,0,none⟩),v, .bool b]) a8;have hl:=cX.1 (h1 (.sl v 80 1 k.Y.n (Ws.cells L)) a8);refine ⟨htab,⟨k.tp,zcY hr rfl,h.tb.later hf⟩,⟨v,zcY hr rfl,?_⟩,h.len,zcY hr rfl⟩;refine SlOf.own (enc:=Le) (size:=1) (fun _=>rfl) (xs:=L) (e:=80) (k:=k.Y.n) ?_ h.len.symm;rw [zgJ];exact hl
theorem zpi (h:SI p m k L)(hok:(eG k v L b).ok w)(hn:0<k.Y.n):∃gl:GL,v=sG gl k.Y.n:=by
 have h1:=(dp.1 hok).1;have hl:=cX.1 (h1 (.sl v 80 1 k.Y.n (Ws.cells L)) a8);rcases hl.2 with ⟨_,h0⟩|⟨g,cap,cur,rfl,_⟩
 ·omega
 ·exact ⟨⟨g,cap⟩,rfl⟩
theorem zoL {gl:GL}(hok:(eG k (sG gl k.Y.n) L b).ok w)(hf:Fz k.w0 w)(hap:∀g,(eG k (sG gl k.Y.n) L b).fp g→¬jK k.w0 g):(jb { k with gl:=gl } L b).ok w:=by
 obtain ⟨h1,h2⟩:=dp.1 hok;refine dp.2 ⟨fun e he=>?_,?_⟩
 ·simp at he;rcases he with rfl|rfl|rfl
  ·exact h1 _ a8
  ·exact h1 _ a8
  ·exact fD.2 hf
 ·show ([dH k.sp gl k.tp k.Y.n b,fe gl k.Y.n L]++[Ent.fz k.w0]).Pairwise _
  refine List.pairwise_append.2 ⟨h2,List.pairwise_singleton _ _,fun e he f hf' g hg hfg=>?_⟩;simp only [List.mem_singleton] at hf';subst hf';exact hap g (dk.2 ⟨e,he,hg⟩) (eZ.1 hfg)
theorem zpL {gl:GL}{L':Ws}{b':Bool}(hf:Fz k.w0 w)(h:Hp w (jb { k with gl:=gl } L b).fp [jb { k with gl:=gl } L' b'] w'):Hp w (eG k (sG gl k.Y.n) L b).fp [eG k (sG gl k.Y.n) L' b'] w':=by
 have hok:=h.own (jb { k with gl:=gl } L' b') a8;obtain ⟨h1,h2⟩:=dp.1 hok;have h3:([dH k.sp gl k.tp k.Y.n b',fe gl k.Y.n L']++[Ent.fz k.w0]).Pairwise fun e f=>∀g,e.fp g→¬f.fp g:=h2;obtain ⟨a1,a2,a3⟩:=List.pairwise_append.1 h3;have hf':Fz k.w0 w':=fD.1 (h1 (.fz k.w0) a8);have hsp:∀g,(eG k (sG gl k.Y.n) L' b').fp g↔∃e∈[dH k.sp gl k.tp k.Y.n b',fe gl k.Y.n L'],e.fp g:=fun g=>dk;have hfp:∀g,(eG k (sG gl k.Y.n) L b).fp g↔∃e∈[dH k.sp gl k.tp k.Y.n b,fe gl k.Y.n L],e.fp g:=fun g=>dk
 have hE:∀g,(jb { k with gl:=gl } L b).fp g↔(eG k (sG gl k.Y.n) L b).fp g∨jK k.w0 g:=fun g=>by
  rw [hfp,dk];simp only [List.mem_cons,List.not_mem_nil,or_false,exists_eq_or_imp,exists_eq_left,eZ];exact or_assoc.symm
 refine ⟨h.os,h.tape,h.output,h.size,fun g hg hn=>?_,fun e he=>?_,fun e he g hg=>?_,List.pairwise_singleton _ _⟩
 ·by_cases hc:jK k.w0 g
  ·rw [hf' g hc,hf g hc]
  ·exact h.base g hg (fun hh=>((hE g).1 hh).elim hn hc)
 ·simp at he;subst he;exact q5a
 ·simp at he;subst he;have hg':=(hsp g).1 hg;obtain ⟨x,hx,hxg⟩:=hg';rcases h.new (jb { k with gl:=gl } L' b') a8 g (dk.2 ⟨x,by simp at hx ⊢;rcases hx with h|h <;> simp [h],hxg⟩) with h4|h4
  ·rcases (hE g).1 h4 with h5|h5
   ·exact .inl h5
   ·exact absurd (eZ.2 h5) (a3 x hx (.fz k.w0) a8 g hxg)
  ·exact .inr h4
theorem zfb (h:SI p m k L)(tf:TbF F k)(hok:(eG k v L (!m.2)).ok w)(hF:F.At w)(htab:Tab w):Calls Tryz.prog 144 #[.pointer (some ⟨k.sp,0,none⟩)] w fun e w'=>e= .returned (.bool (!m.2))∧Below w.heap.size w w':=zi2 (zhS h hok (tf.fz hF) htab)
theorem znd (h:SI p m k L)(tf:TbF F k)(hok:(eG k v L (!m.2)).ok w)(hF:F.At w)(htab:Tab w):Calls Tryz.prog 160 #[.pointer (some ⟨k.sp,0,none⟩)] w fun e w'=>∃(y:Value) (G:Frz),SlC G y 2 ((jj m).map cQ)∧e= .returned y∧Fx F w G w':=zmg hF h (zhS h hok (tf.fz hF) htab)
theorem zpA (h:SI p m k L)(tf:TbF F k)(hok:(eG k v L (!m.2)).ok w)(hF:F.At w)(htab:Tab w)(c:GChoice):Calls Tryz.prog 161 #[.pointer (some ⟨k.sp,0,none⟩), .agg [.int .i64 c.Station, .int .i64 c.Channel].toArray] w fun e w'=>e= .returned (.bool (zhu m c))∧Below w.heap.size w w':=zoz h (zhS h hok (tf.fz hF) htab) c
theorem znZ (kp : Bool) (num : FuncId) (h : SI p m k L) (tf : TbF F k) (hok : (eG k v L (!m.2)).ok w) (hF : F.At w) (hap : ∀ g, (eG k v L (!m.2)).fp g → ¬ F.S g) (htab : Tab w) {fuel : Nat} (c : GChoice) {r : (List GDomain × Bool) × Int} (hr : na fuel p m kp c = some r)
    (hE : (gJ k.Y (!m.2) c.b).2 ≠ 0 → Calls Tryz.prog num #[.pointer (some ⟨k.sp, 0, none⟩), .agg (Ch.cells c.b).toArray] w fun e w' => e = .returned (.int .i64 (gJ k.Y (!m.2) c.b).2) ∧ Below w.heap.size w w')
    (hO : ∀ gl : GL, SI p m { k with gl := gl } L → (jb { k with gl := gl } L (!m.2)).ok w → Calls Tryz.prog num #[.pointer (some ⟨k.sp, 0, none⟩), .agg [.int .i64 c.Station, .int .i64 c.Channel].toArray] w fun e w' => ∃ L', SI p r.1 { k with gl := gl } L' ∧ e = .returned (.int .i64 r.2) ∧ Hp w (jb { k with gl := gl } L (!m.2)).fp [jb { k with gl := gl } L' (!r.1.2)] w') :
    Calls Tryz.prog num #[.pointer (some ⟨k.sp, 0, none⟩), .agg [.int .i64 c.Station, .int .i64 c.Channel].toArray] w fun e w' => ∃ L', SI p r.1 k L' ∧ e = .returned (.int .i64 r.2) ∧ Hp w (eG k v L (!m.2)).fp [eG k v L' (!r.1.2)] w' := by
  have hfit := zmp h (c := c)
  have keepE : ∀ {n : Int}, r = (m, n) → (gJ k.Y (!m.2) c.b).2 = n → n ≠ 0 → Calls Tryz.prog num #[.pointer (some ⟨k.sp, 0, none⟩), .agg [.int .i64 c.Station, .int .i64 c.Channel].toArray] w fun e w' => ∃ L', SI p r.1 k L' ∧ e = .returned (.int .i64 r.2) ∧ Hp w (eG k v L (!m.2)).fp [eG k v L' (!r.1.2)] w' := by
    intro n hr hc hn; subst hr;refine (hE (by rw [hc]; exact hn)).mono ?_; rintro e w' ⟨rfl, hb⟩; exact ⟨L, h, by rw [hc], (Hp.start hok).below hb⟩
  by_cases hn : 0 < k.Y.n
  · obtain ⟨gl, rfl⟩ := zpi h hok hn;refine (hO gl (h.gl gl) (zoL hok (tf.fz hF) (fun g hg hc => hap g hg (tf g hc).1))).mono ?_; rintro e w' ⟨L', h1, rfl, h2⟩; exact ⟨L', ⟨h1.pb, h1.tb, h1.len, h1.good, h1.bad⟩, rfl, zpL (tf.fz hF) h2⟩
  · unfold na at hr
    cases hg : mO c with
    | false => rw [hg] at hr hfit; exact keepE (Option.some.inj hr).symm (by rw [hfit]; rfl) a6
    | true =>
      rw [hg] at hr hfit; simp only [Bool.not_true, cond_false] at hr hfit
      cases hm : m.2 with
      | false => rw [hm] at hr hfit; rw [← hm]; exact keepE (Option.some.inj hr).symm (by rw [hm]; rw [hfit]; rfl) a6
      | true =>
        rw [hm] at hr hfit; simp only [Bool.not_true, cond_false] at hr hfit
        cases hh : gy p c.Station with
        | false => rw [hh] at hr hfit; rw [← hm]; exact keepE (Option.some.inj hr).symm (by rw [hm, Bool.not_true, hfit]; rfl) a6
        | true =>
          obtain ⟨P, rfl, _, hY⟩ := h.pb; obtain ⟨i, hi, _⟩ := (zdO hY).1 hh; omega
theorem zmU (h : SI p m k L) (tf : TbF F k) (hok : (eG k v L (!m.2)).ok w) (hF : F.At w) (hap : ∀ g, (eG k v L (!m.2)).fp g → ¬ F.S g) (htab : Tab w) {fuel : Nat} (hf : 100000 ≤ fuel) (c : GChoice) {r : (List GDomain × Bool) × Int} (hr : na fuel p m true c = some r) :
    Calls Tryz.prog 145 #[.pointer (some ⟨k.sp, 0, none⟩), .agg [.int .i64 c.Station, .int .i64 c.Channel].toArray] w fun e w' => ∃ L', SI p r.1 k L' ∧ e = .returned (.int .i64 r.2) ∧ Hp w (eG k v L (!m.2)).fp [eG k v L' (!r.1.2)] w' := by
  obtain ⟨P, hP, hok', hY⟩ := h.pb; exact znZ true _ h tf hok hF hap htab c hr (fun he => zhL k.sp k.Y L (!m.2) c.b w (zhS h hok (tf.fz hF) htab) (k.Y.ix512 h.ok hY.ixn) he) (fun gl h1 h2 => zmI h1 h2 htab hf c hr)
theorem zmy (h : SI p m k L) (tf : TbF F k) (hok : (eG k v L (!m.2)).ok w) (hF : F.At w) (hap : ∀ g, (eG k v L (!m.2)).fp g → ¬ F.S g) (htab : Tab w) {fuel : Nat} (hf : 100000 ≤ fuel) (c : GChoice) {r : (List GDomain × Bool) × Int} (hr : na fuel p m false c = some r) :
    Calls Tryz.prog 148 #[.pointer (some ⟨k.sp, 0, none⟩), .agg [.int .i64 c.Station, .int .i64 c.Channel].toArray] w fun e w' => ∃ L', SI p r.1 k L' ∧ e = .returned (.int .i64 r.2) ∧ Hp w (eG k v L (!m.2)).fp [eG k v L' (!r.1.2)] w' := by
  obtain ⟨P, hP, hok', hY⟩ := h.pb; exact znZ false _ h tf hok hF hap htab c hr (fun he => zhK k.sp k.Y L (!m.2) c.b w (zhS h hok (tf.fz hF) htab) (k.Y.ix512 h.ok hY.ixn) he) (fun gl h1 h2 => zmj h1 h2 htab hf c hr)
theorem zo3 (hF:F0.At w)(h:SI p m k L)(hw:Hp w (fun _=>False) [jb k L b] w'):∃G,TbF G k∧FxM F0 w (dF []) G [eG k (sG k.gl k.Y.n) L b] w':=by
 have hok:=hw.own (jb k L b) a8;obtain ⟨h1,h2⟩:=dp.1 hok;have h3:([dH k.sp k.gl k.tp k.Y.n b,fe k.gl k.Y.n L]++[Ent.fz k.w0]).Pairwise fun e f=>∀g,e.fp g→¬f.fp g:=h2;obtain ⟨a1,a2,a3⟩:=List.pairwise_append.1 h3;have hf':Fz k.w0 w':=fD.1 (h1 (.fz k.w0) a8);have hb:=hw.isBelow;have hF':=hF.below hb;have hnew:∀g,jK k.w0 g→w.heap.size≤g:=fun g hg=>(hw.new (jb k L b) a8 g (dk.2 ⟨.fz k.w0,by simp,eZ.2 hg⟩)).elim (fun h=>h.elim) id
 have hnew2:∀g,(eG k (sG k.gl k.Y.n) L b).fp g→w.heap.size≤g:=fun g hg=>by
  obtain ⟨e,he,hg⟩:=dk.1 hg;exact (hw.new (jb k L b) a8 g (dk.2 ⟨e,by simp at he ⊢;rcases he with h|h <;> simp [h],hg⟩)).elim (fun h=>h.elim) id
 refine ⟨⟨fun g=>F0.S g∨jK k.w0 g,w',fun g hg=>?_⟩,fun g hg=>⟨.inr hg,hf' g hg⟩,⟨fun g hg=>⟨.inl hg,hF' g hg⟩,fun g _=>rfl,?_,fun g hg=>hg.imp id (fun h=> .inr (hnew g h)),fun e he g hg hS=>?_⟩⟩
 ·rcases hg with hg|hg
  ·exact hF'.cb hg
  ·obtain ⟨cs,t,q,e⟩:=hg;exact ⟨cs,t,q,(hf' g ⟨cs,t,q,e⟩).trans e⟩
 ·rw [zg5];refine ⟨hw.os,hw.tape,hw.output,hw.size,hw.base,fun e he=>?_,fun e he g hg=>?_,List.pairwise_singleton _ _⟩
  ·simp at he;subst he;exact q5a
  ·simp at he;subst he;exact .inr (hnew2 g hg)
 ·simp at he;subst he;rcases hS with hS|hS
  ·have:=(hF.cb hS).lt;have:=hnew2 g hg;omega
  ·obtain ⟨e,he,hg⟩:=dk.1 hg;exact a3 e he (.fz k.w0) a8 g hg (eZ.2 hS)
theorem zpT {vd vp vl vc : Value} {cd : List (List Value)} (hF0 : F0.At w) (h : PbF F0 vd cd vp vl vc p) (htab : Tab w) (hv : gW p = true) {fuel : Nat} (hf : 100000 ≤ fuel) {r : List GDomain × Bool} (hr : zbl fuel p p.Domains = some r) :
    Calls Tryz.prog 117 #[.agg [vd, vp, vl, vc].toArray] w fun e w' => ∃ (y : SK × Value × Ws) (G : Frz), (SI p r y.1 y.2.2 ∧ TbF G y.1) ∧ e = .returned (.tuple #[.pointer (some ⟨y.1.sp, 0, none⟩), .int .i64 0]) ∧ FxM F0 w (dF []) G [eG y.1 y.2.1 y.2.2 (!r.2)] w' := by
  refine (zpr hF0 h htab hv hf hr).mono ?_; rintro e w' ⟨⟨k, L⟩, hs, rfl, hw⟩; obtain ⟨G, h1, h2⟩ := zo3 hF0 hs hw; exact ⟨(k, sG k.gl k.Y.n, L), G, ⟨hs, h1⟩, rfl, h2⟩
theorem zlK (h : SI p m k L) (tf : TbF F k) (hok : (eG k v L (!m.2)).ok w) (hF : F.At w) (htab : Tab w) : Calls Tryz.prog 82 #[.pointer (some ⟨k.sp, 0, none⟩)] w fun e w' => ∃ (y : SK × Value) (G : Frz), (SI p m y.1 L ∧ TbF G y.1) ∧ e = .returned (.pointer (some ⟨y.1.sp, 0, none⟩)) ∧ FxM F w (dF []) G [eG y.1 y.2 L (!m.2)] w' := by
  have hs := zhS h hok (tf.fz hF) htab; have h1 := (dp.1 hok).1; have hr := h1 (.row k.sp 188 [.pointer (some ⟨k.tp, 0, none⟩), v, .bool (!m.2)]) a8; have hl := h1 (.sl v 80 1 k.Y.n (Ws.cells L)) a8; have hn := h.n512
  -- what is there is frozen for the time of the call
  have hC : SlC (Frz.all w) v 1 (L.map Le) := by
    have hl2 := hl; rw [← zgJ] at hl2; exact (jw (G := Frz.all w) hl2 rfl (fun g _ hc => hc)).toF h.len.symm (fun _ => rfl)
  haveI := hC.oneC; refine Calls.mono (R := fun e w' => ∃ (y : Nat × Value), OneC y.2 ∧ e = .returned (.pointer (some ⟨y.1, 0, none⟩)) ∧ Hp w (fun _ => False) [.row y.1 188 [.pointer (some ⟨k.tp, 0, none⟩), y.2, .bool (!m.2)], .sl y.2 80 1 k.Y.n (Ws.cells L)] w') ?_ ?_
  · obtain ⟨S0, F1, hF1, hS0, hp0⟩ := eY (jG w); rw [← hF1] at hC;refine dv (M := fun _ => False) (hs := [.fr F1]) Tryz.func82 rfl rfl rfl hp0 ?_;refine ju ?_;refine cW (cN rfl rfl rfl (fun w' hw => zcP k.sp k.Y L (!m.2) w' (hs.kept hw))) ?_; rintro _ _ ⟨rfl, rfl⟩;refine nH ?_;refine jM ?_;refine dM (sN 0 8 (sN 9 4 (.eff 8 (.still 13 (.eff 14 (.still 15 .done)))))) [.fr F1] a7 (List.Sublist.refl _) ?_;refine jT ?_;refine cT rfl (dV rfl rfl (zcY (i := 0) hr rfl) (fun h => h)) ?_;refine jT ?_;refine cT rfl (dV rfl rfl (zcY (i := 1) hr rfl) (fun h => h)) ?_;refine jT ?_;refine cT rfl (dV rfl rfl (zcY (i := 2) hr rfl) (fun h => h)) ?_;refine TS.slNil 80 1 ?_;refine dD ?_;refine c6 rfl (Wt.none) rfl rfl (l7 0 1 (F := F1) (k' := k.Y.n) (l' := Ws.cells L) (zjN (enc := Le) (fun x => inferInstanceAs (OneCs [U x]))) rfl rfl rfl rfl rfl hC (by rw [List.length_map, h.len]; omega) (by rw [List.nil_append, ← List.flatMap_def, zgJ]) a5 a6) ?_; rintro v' _ ⟨hv', rfl⟩; refine ⟨fun w hw => hw.sub (List.sublist_cons_self _ _), ?_⟩;refine cT rfl (Yv.build) ?_;refine dD ?_;refine c6 rfl (Wt.none) rfl rfl (dI) ?_; rintro _ _ ⟨g, rfl, rfl⟩; refine ⟨fun w hw => hw.sub Sx, ?_⟩;refine q4q ?_; exact cZ rfl rfl (fun w' hw => ⟨(g, v'), hv', rfl, hw.sub Sx⟩)
  · rintro e w' ⟨⟨g, v'⟩, hv', rfl, hw⟩; refine ⟨({ k with sp := g }, v'), F, ⟨h.sp g, tf⟩, rfl, ⟨Frz.Le.refl _, hF.below hw.isBelow, ?_, fun g hg => .inl hg, fun e he q hq hS => ?_⟩⟩
    · rw [zg5]; exact zjO hw
    · simp at he; subst he; have h2 := (zjO hw).new _ a8 q hq; have := (hF.cb hS).lt; rcases h2 with h2 | h2
      · exact h2
      · omega
end
abbrev vI (z:Int):Value:= .int .i64 z
abbrev Vec (n:Nat)(α:Type):={ l:List α // l.length=n }
def Vec.fill {α:Type}(n:Nat)(v:α):Vec n α:=⟨List.replicate n v,List.length_replicate⟩
instance {n:Nat} {α:Type} [Inhabited α]:Inhabited (Vec n α):=⟨Vec.fill n default⟩
def Vec.get {n:Nat}{α:Type}[Inhabited α](x:Vec n α)(i:Nat):α:=cK x.1 i
def Vec.put {n:Nat}{α:Type}(x:Vec n α)(i:Nat)(v:α):Vec n α:=⟨x.1.set i v,by rw [List.length_set,x.2]⟩
theorem gN {α:Type}[Inhabited α]{n i:Nat}{v:α}(h:i<n):(Vec.fill n v).get i=v:=by
 unfold Vec.get Vec.fill;rw [dQ (by simpa using h)];simp
theorem fK {α:Type}[Inhabited α]{n i j:Nat}{x:Vec n α}{v:α}(h:i<n):(x.put i v).get j=if j=i then v else x.get j:=by
 unfold Vec.get Vec.put; (have hx:i<x.1.length:=by rw [x.2];exact h);unfold cK;rw [List.getD_eq_getElem?_getD,List.getD_eq_getElem?_getD];by_cases e:j=i
 ·rw [if_pos e,e,List.getElem?_set_self hx];rfl
 ·rw [if_neg e,List.getElem?_set_ne (fun h=>e h.symm)]
section
variable {α:Type}[Inhabited α]{n i j m p:Nat}{x:Vec n α}{f:α→Value}{a b l r:List Value}{v:Value}
theorem Vec.len:(x.1.map f).length=n:=by rw [List.length_map,x.2]
theorem Vec.cell (h:i<n):(x.1.map f)[i]?=some (f (x.get i)):=by
 unfold Vec.get;rw [List.getElem?_map,List.getElem?_eq_getElem (by rw [x.2];exact h),dQ (by rw [x.2];exact h)];rfl
theorem Vec.upd {v:α}(h:i<n):(x.1.map f).set i (f v)=(x.put i v).1.map f:=by
 show _=(x.1.set i v).map f
 rw [List.map_set]
theorem lZ (hp:p=i)(h:l[i]?=some v):l[p]?=some v:=by rw [hp];exact h
theorem zhq {u:Value}(hp:p=i)(h:l.set i u=r):l.set p u=r:=by rw [hp];exact h
theorem zpd (ha:a.length=m)(hi:i<m)(h:a[i]?=some v):(a++b)[i]?=some v:=by
 rw [List.getElem?_append_left a5];exact h
theorem zd8 (ha:a.length=m)(h:b[j]?=some v):(a++b)[m+j]?=some v:=by
 rw [List.getElem?_append_right a5,ha,show m+j - m=j by omega];exact h
theorem zhV {u:Value}(ha:a.length=m)(h:b.set j u=r):(a++b).set (m+j) u=a++r:=by
 rw [List.set_append_right _ _ a5,ha,show m+j - m=j by omega,h]
theorem zol (ha:a.length=m):(((a++b).drop 0).take a.length)=a:=by simp
theorem zdx {k:Nat}(ha:a.length=m)(hb:b.length=k):(a++b).length=m+k:=by rw [List.length_append,ha,hb]
instance OneCs.vmap {β:Type} {g:β→Value} {y:List β} [h:∀z,OneC (g z)]:OneCs (y.map g):=⟨fun z hz=>by obtain ⟨b,_,rfl⟩:=List.mem_map.1 hz;exact (h b).h⟩
instance OneCs.cat [h:OneCs a] [k:OneCs b]:OneCs (a++b):=⟨fun z hz=>(List.mem_append.1 hz).elim (h.h z) (k.h z)⟩
end
section
variable {P:Program}{n:Nat}{B D:World}{M:Nat→Prop}{fs:dY}{hs:HS}{o:Oper}{v:Value}
theorem mq {t:TypeId}{z l:List Value}[hT:TyZ P t z](ho:o.op= .alloc t)(hz:z=l):Ew P n B M fs hs o (fun v hs'=>∃g,v= .pointer (some ⟨g,0,none⟩)∧hs'= .row g t l :: hs):=by
 subst hz;exact Ew.alloc ho
theorem zer {place:Nat→Option (Nat×Nat)}{l l1 m:List Value}{l2:Array Value}{i off size:Nat}{v:Value}{ps:List (Nat×Value)}(hp:place i=some (off,size))(hc:v.cells=m.toArray)(hs:m.length=size)(h1:zdZ l off m=l1)(hb:off+m.length≤l.length)(h2:Instr.fill place l1.toArray ps=some l2):Instr.fill place l.toArray ((i,v) :: ps)=some l2:=by
 obtain ⟨l2'⟩:=l2;haveI:Place place i off size:=⟨hp⟩;haveI:Cells v m:=⟨hc⟩;haveI:Splice l off m l1:=⟨h1,hb⟩;haveI:Fill place l1 ps l2':=⟨h2⟩;haveI:LenIs m size:=⟨hs⟩;exact (inferInstance:Fill place l ((i,v) :: ps) l2').h
theorem zfR {l r:List Value}{off:Nat}{v:Value}(h:off<l.length)(hr:l.set off v=r):zdZ l off [v]=r:=by
 rw [←hr];exact zf2 l off v h
theorem zhR {a b m:List Value}(h:a.length=m.length):zdZ (a++b) 0 m=m++b:=by
 simp [zdZ,←h]
theorem Yv.bQ {t:TypeId}{ps:Array (Nat×Operand)}{vs:List (Nat×Value)}{z l0 l:List Value}[hS:TySt P t][hZ:TyZ P t z](ho:o.op= .build t ps)(hv:evPs fs ps.toList=some vs)(hz:z=l0)(hF:Instr.fill (zg1 P t) l0.toArray vs=some l.toArray):Yv P n B M fs hs o (.agg l.toArray):=by
 subst hz;haveI:Fill (zg1 P t) z vs l:=⟨hF⟩;exact Yv.build ho hv
end
section
variable {B:World}{M S0:Nat→Prop}{hs:HS}{F:FzB B M S0}
def FzB.addE {w:World}(F:FzB B M S0)(hF:F.toFrz.At w)(T:Nat→Prop)(hc:∀g,T g→Cb w g)(hb:∀g,T g→M g∨B.heap.size≤g):FzB B M S0 where
 S k:=F.S k∨T k
 w:=w
 c k hk:=hk.elim (fun h=>hF.cb h) (hc k)
 base k hk h1 h2:=by
  rcases hk with h|h
  ·rw [hF k h,F.base k h h1 h2]
  ·rcases hb k h with h3|h3
   ·exact absurd h3 h2
   ·omega
 new k hk:=hk.elim (F.new k) (fun h=> .inr (hb k h))
theorem Hp.freezeE {w : World} {i j : Nat} {e : Ent} (hw : Hp B M hs w) (hij : i ≠ j) (hi : hs[i]? = some (.fr F)) (hj : hs[j]? = some e) (hc : ∀ g, e.fp g → Cb w g) :
    ∃ G : FzB B M S0, F.toFrz.Le G.toFrz ∧ (∀ w', G.toFrz.At w' → e.ok w') ∧ Hp B M ((hs.set i (.fr G)).eraseIdx j) w := by
  have hF := hw.fr hi; have hb := hw.new e (List.mem_of_getElem? hj); refine ⟨F.addE hF e.fp hc hb, fun k hk => ⟨.inl hk, hF k hk⟩, fun w' hw' => e.loc (fun g hg => hw' g (.inr hg)) (hw.get hj), ?_⟩; obtain ⟨r, h1, h2⟩ := ze6 (a' := .fr (F.addE hF e.fp hc hb)) hij hi hj;refine Hp.perm ?_ h2.symm; refine i4 (hw.perm h1) ?_ ?_ (List.pairwise_singleton _ _)
  · intro x hx; simp at hx; subst hx; exact fc.2 (fun k hk => rfl)
  · intro x hx k hk; simp at hx; subst hx; have h := dz.1 hk; rcases h.1 with h3 | h3
    · exact ⟨_, by simp, dz.2 ⟨h3, h.2⟩⟩
    · exact ⟨e, by simp, h3⟩
end
theorem zpC {k:SK}{v:Value}{L:Ws}{b:Bool}{w:World}(h:(eG k v L b).ok w):∀g,(eG k v L b).fp g→Cb w g:=fun g hg=>by
 have h1:=(dp.1 h).1;obtain ⟨e,he,hg⟩:=dk.1 hg;simp at he;rcases he with rfl|rfl
 ·have:=cU.1 hg;subst this;exact ⟨_,_,_,c4.1 (h1 _ (List.mem_cons_self ..))⟩
 ·have h2:=de.1 hg;rcases (cX.1 (h1 (.sl v 80 1 k.Y.n (Ws.cells L)) a8)).2 with ⟨rfl,_⟩|⟨g',cap,cur,rfl,_,hgg,_⟩
  ·cases h2
  ·simp [Value.ownBlock] at h2;subst h2;exact ⟨_,_,_,hgg⟩
def SzF (F:Frz)(k:SK)(v:Value)(L:Ws)(b:Bool):Prop:=∀w,F.At w→(eG k v L b).ok w
theorem SzF.mono {F G:Frz}{k:SK}{v:Value}{L:Ws}{b:Bool}(h:SzF F k v L b)(hle:F.Le G):SzF G k v L b:=fun w hw=>h w (hw.le hle)
theorem Hp.freezeSt {B w : World} {M S0 : Nat → Prop} {hs : HS} {F : FzB B M S0} {i j : Nat} {k : SK} {v : Value} {L : Ws} {b : Bool} (hw : Hp B M hs w) (hij : i ≠ j) (hi : hs[i]? = some (.fr F)) (hj : hs[j]? = some (eG k v L b)) :
    ∃ G : FzB B M S0, (F.toFrz.Le G.toFrz ∧ SzF G.toFrz k v L b) ∧ Hp B M ((hs.set i (.fr G)).eraseIdx j) w := by
  obtain ⟨G, h1, h2, h3⟩ := hw.freezeE hij hi hj (zpC (hw.get hj)); exact ⟨G, ⟨h1, h2⟩, h3⟩
section
variable {P:Program}{n:Nat}{B:World}{M:Nat→Prop}{fs:dY}{hs:HS}{o:Oper}
theorem lz {w:World}{v:Value}{e:TypeId}{size k:Nat}{l:List Value}(h:(Ent.sl v e size k l).ok w):k≤9223372036854775807:=by
 have ho:=cX.1 h;rcases ho.2 with ⟨rfl,h0⟩|⟨g,cap,cur,rfl,hb,hg,hnc,hcm,hcs,htake⟩
 ·omega
 ·unfold maxLen at hcm;omega
theorem Ew.bh {t e:TypeId}{size bytes:Nat}{z:List Value}[hT:TyE P t e size bytes z](ho:o.op= .buildSlice t 0 #[]):Ew P n B M fs hs o (fun v hs'=>∃g,v= .slice (some ⟨g,0,none⟩) 0 0∧hs'= .sl (.slice (some ⟨g,0,none⟩) 0 0) e size 0 [] :: hs):=gT fun a w ha hp=>by
 obtain ⟨i,zv,hU,hi,hz,hzc,rfl,rfl,hzs,hpos⟩:=hT.get;refine ⟨_,w.alloc (.cells #[] e),_,?_,Kp.alloc w _,hp.fresh ((Below.refl _ _).alloc (Nat.le_refl _) _) (cX.2 (World.ownsRow_made (base:=0) (e:=e) (size:=i.size) w #[] 0 (Nat.zero_le _) (by unfold maxLen;omega) a8)) (fun g hg=>?_),w.heap.size,rfl,rfl⟩
 ·unfold execOp;simp [ho,Instr.buildSlice,underlying,hU,sizeOf,typeInfo,hi,Instr.fill,newRow];rw [show Array.range 0= #[] from by simp [Array.range]];simp
 ·have:=de.1 hg;simp [Value.ownBlock] at this;omega
end
section
variable {Fe:Fence}[hFe:Calm Fe]{P:Program}{n:Nat}{B D:World}{M S0:Nat→Prop}{Q:Exit→Act→World→Prop}{fs:dY}{hs:HS}{ops:Array Oper}
theorem gb {l:List Oper}{v:Value}{e:TypeId}{size k:Nat}{cs:List Value}(j:Nat)(hj:hs[j]?=some (.sl v e size k cs))(h:OneC v→k≤9223372036854775807→TL Fe P n B D M ops Q l fs hs):TL Fe P n B D M ops Q l fs hs:=
 kj (ι:=Unit) (φ:=fun _=>OneC v∧k≤9223372036854775807) (hs':=fun _=>hs) (fun w hw=>⟨(),⟨lA (hw.get hj),lz (hw.get hj)⟩,hw⟩) (fun _ hx=>h hx.1 hx.2)
theorem nM {hs0:HS}{r:Ord}{v:Value}{e:TypeId}{size k:Nat}{cs:List Value}(j:Nat)(hj:hs[j]?=some (.sl v e size k cs))(h:OneC v→k≤9223372036854775807→TS Fe P n B D M ops Q hs0 r fs hs):TS Fe P n B D M ops Q hs0 r fs hs:=
 TS.aV (ι:=Unit) (φ:=fun _=>OneC v∧k≤9223372036854775807) (hs':=fun _=>hs) (fun w hw=>⟨(),⟨lA (hw.get hj),lz (hw.get hj)⟩,hw⟩) (fun _ hx=>h hx.1 hx.2)
end
structure Bor (F:Frz) (E:Ent) (w:World) (F':Frz):Prop where
 le:F.Le F'
 at_:F'.At w
 new:∀g,F'.S g→F.S g∨E.fp g
section
variable {B w:World}{M S0:Nat→Prop}{hs bs rest:HS}{F:FzB B M S0}{G:FzB B M S0}{F':Frz}
theorem Hp.bor {i j:Nat}{v:Value}{e:TypeId}{size k:Nat}{l:List Value}(hw:Hp B M hs w)(hi:hs[i]?=some (.fr F))(hj:hs[j]?=some (.sl v e size k l)):∃F':Frz,Bor F.toFrz (.sl v e size k l) w F'∧SlK F' v size k l:=by
 have hF:=hw.fr hi;have ho:=cX.1 (hw.get hj);rcases ho.2 with ⟨rfl,h0⟩|⟨g,cap,cur,rfl,hb,hg,hnc,hcm,hcs,htake⟩
 ·subst h0;exact ⟨F.toFrz,⟨.refl _,hF,fun g h=> .inl h⟩,ho.1,none,0,rfl,Nat.le_refl _,by omega,fun h=>by omega⟩
 ·refine ⟨⟨fun k=>F.S k∨k=g,w,fun k hk=>?_⟩,⟨fun k hk=>⟨.inl hk,hF k hk⟩,fun k _=>rfl,fun k hk=>hk.imp id fun e=>de.2 (by rw [e];rfl)⟩,ho.1,_,cap,rfl,hnc,by unfold maxLen at hcm;omega,fun _=>⟨g,rfl, .inr rfl,fun q hq=>?_⟩⟩
  ·rcases hk with h|rfl
   ·exact hF.cb h
   ·exact ⟨_,_,_,hg⟩
  ·rw [Nat.zero_add,World.ownsRow.cellAt ho q (by rw [←ho.1];exact hq)]
end
theorem zi1 {α:Type}[Inhabited α]{enc:α→List Value}{size:Nat}(he:∀x,(enc x).length=size):∀ {xs:List α} {i j p:Nat} {v:Value} {x:α},i<xs.length→j<size→p=i*size+j→(enc (cK xs i)).set j v=enc x→(xs.flatMap enc).set p v=(xs.set i x).flatMap enc
 |y :: r,0,j,p,v,x,_,hj,hp,h=>by
  (obtain rfl:p=j:=by omega);rw [List.flatMap_cons,List.set_append_left _ _ (by rw [he];exact hj),List.set_cons_zero,List.flatMap_cons];rw [←h];rfl
 |y :: r,i+1,j,p,v,x,hi,hj,hp,h=>by
  rw [List.flatMap_cons,List.set_append_right _ _ (by rw [he,hp,Nat.add_mul];omega),List.set_cons_succ,List.flatMap_cons];rw [zi1 he (xs:=r) (i:=i) (j:=j) (x:=x) (by simpa using hi) hj (by rw [he,hp,Nat.add_mul];omega) (by rw [←h];rfl)]
theorem zhP {α:Type}{enc:α→List Value}{size:Nat}(he:∀x,(enc x).length=size):∀ {xs:List α} {i j p:Nat},i<xs.length→j<size→p=i*size+j→p<(xs.flatMap enc).length
 |y :: r,0,j,p,_,hj,hp=>by rw [List.flatMap_cons,List.length_append,he];omega
 |y :: r,i+1,j,p,hi,hj,hp=>by
  have:=zhP he (xs:=r) (i:=i) (j:=j) (p:=i*size+j) (by simpa using hi) hj rfl;rw [List.flatMap_cons,List.length_append,he];rw [hp,Nat.add_mul];omega
theorem znx {α:Type}{enc:α→List Value}{xs:List α}(h:∀x,OneCs (enc x)):∀v∈xs.flatMap enc,v.oneCell'=true:=fun v hv=>by
 obtain ⟨x,_,hx⟩:=List.mem_flatMap.1 hv;exact (h x).h v hx
theorem znv {α:Type}(xs ys:List α):xs.length+ys.length=(xs++ys).length:=(List.length_append ..).symm
theorem zmm {α:Type}{enc:α→List Value}(xs ys:List α):xs.flatMap enc++ys.flatMap enc=(xs++ys).flatMap enc:=(List.flatMap_append ..).symm
section
variable {P:Program}{n:Nat}{B D:World}{M:Nat→Prop}{fs:dY}{hs:HS}{o:Oper}{v val sv:Value}
theorem Ew.bR (j : Nat) {t e : TypeId} [hT : TyS P t] {x y : Operand} {p k k' size : Nat} {l l' : List Value} {hs' : HS} [hv : OneC val] (ho : o.op = .store t x y) (hx : ev fs x = some (mV sv p)) (hy : ev fs y = some val)
    (hj : hs[j]? = some (.sl sv e size k l)) (hk : 0 < k) (hp : p < l.length) (hl : l.set p val = l') (hkk : k' = k) [hH : SetAt hs j (.sl sv e size k' l') hs'] : Ew P n B M fs hs o (fun v hs'' => v = undef ∧ hs'' = hs') := by
  subst hkk; exact Ew.bU j ho hx hy hj hk hp hl
theorem Ew.bV (i j : Nat) {s x : Operand} {t e e2 : TypeId} {size bytes m k k' : Nat} {z l l2 l' : List Value} {hs' : Value → HS} [hT : TyE P t e size bytes z] [hT2 : TySl P t e size] (h1 : ∀ v ∈ l2, v.oneCell' = true) (ho : o.op = .call { callee := .builtin .append, args := #[s, x], argTypes := #[t, t] })
    (hs1 : ev fs s = some sv) (hx : ev fs x = some v) (hi : hs[i]? = some (.sl sv e size k l)) (hj : hs[j]? = some (.sl v e2 size m l2)) (hk : k + m = k') (hl' : l ++ l2 = l') (hb : k' * bytes ≤ 140737488355328) (hbs : 0 < bytes)
    [hH : ∀ v', SetAt hs i (.sl v' e size k' l') (hs' v')] : Ew P n B M fs hs o (fun v hs'' => OneC v ∧ hs'' = hs' v) := fun F hF Q K a w ha hw => by
  have ho2 := cX.1 (hw.get hj); have hl2 := ho2.1; rcases Nat.eq_zero_or_pos m with h0 | h0
  · subst h0; obtain rfl : l2 = [] := List.eq_nil_of_length_eq_zero a5
    obtain ⟨A, c2, rfl⟩ : ∃ A c2, v = .slice A 0 c2 := by
      rcases ho2.2 with ⟨rfl, _⟩ | ⟨g, cap, cur, rfl, _⟩
      · exact ⟨_, _, rfl⟩
      · exact ⟨_, _, rfl⟩
    subst hk; rw [List.append_nil] at hl'; subst hl'; refine (gT fun a w ha hp => ?_ : Ew P n B M fs hs o (fun v hs'' => OneC v ∧ hs'' = hs' v)) F hF Q K a w ha hw; have ho' := cX.1 (hp.get hi)
    obtain ⟨b, c, rfl, hc⟩ : ∃ b c, sv = .slice b k c ∧ k ≤ c := by
      rcases ho'.2 with ⟨rfl, h0⟩ | ⟨g, cap, cur, rfl, hb, hg, hnc, _⟩
      · exact ⟨none, 0, by rw [h0], by omega⟩
      · exact ⟨_, cap, rfl, hnc⟩
    refine ⟨.slice b k c, w, hs' (.slice b k c), ?_, Kp.refl w, ?_, ⟨rfl⟩, rfl⟩
    · unfold execOp; simp [ho, resolve, invoke, builtin, ha.ev hs1, ha.ev hx, zeD (P := P) (t := t) hc]
    · rw [← (hH _).h];simp only [Nat.add_zero]; rw [zix hi]; exact hp
  · obtain ⟨g, cap, rfl⟩ := hw.slAddr hj h0
    exact nE i (news := l2) h1 ho hs1 hx hi (fun w hw q hq => by
      have h3 := cX.1 (hw.get hj)
      rw [Nat.zero_add, World.ownsRow.cellAt h3 q (by rw [← h3.1]; exact hq)]) hl2 hk hl' hb hbs F hF Q K a w ha hw
end
section
variable {P:Program}{n:Nat}{B D:World}{M:Nat→Prop}{fs:dY}{hs:HS}{v v2:Value}
theorem T.aU {Fe:Fence}[hFe:Calm Fe]{Q:Exit→Act→World→Prop}{c:Code}{e:TypeId}{size k:Nat}{cs:List Value}(j:Nat)(hj:hs[j]?=some (.sl v e size k cs))(h:OneC v→k≤9223372036854775807→T Fe P n B D M c Q fs hs):T Fe P n B D M c Q fs hs:=
 mA (ι:=Unit) (φ:=fun _=>OneC v∧k≤9223372036854775807) (hs':=fun _=>hs) (fun w hw=>⟨(),⟨lA (hw.get hj),lz (hw.get hj)⟩,hw⟩) (fun _ hx=>h hx.1 hx.2)
end
def za2 (r_:GRules):Option Bool:=
 (bif (((decide (4096<(r_.Pairs.length:Int)))||(decide (1024<(r_.Loads.length:Int))))||(decide (1024<(r_.Caps.length:Int)))) then
  some false
  else
  dJ (fun (_:Unit)=>
   dJ (fun (_:Unit)=>
    dJ (fun (_:Unit)=>
     some true)
    (fun k32=>
     c8 (fun (i_34:Nat) (next33:Unit→Option Bool) (_:Unit)=>
      dJ (fun (x_36:Bool)=>
       (bif x_36 then
        some false
        else
        next33 ()))
      (fun k37=>
       (bif !(j0 ((cK r_.Caps i_34).Station)) then
        k37 true
        else
        (bif decide ((cK r_.Caps i_34).Max<0) then
         k37 true
         else
         (bif decide (1099511627776<(cK r_.Caps i_34).Max) then
          k37 true
          else
          (bif !(nW ((cK r_.Caps i_34).Low) ((cK r_.Caps i_34).High)) then
           k37 true
           else
           (bif decide (0<(i_34:Int)) then
            (l9 (ln (cK r_.Caps (((i_34:Int) - 1).toNat))) (ln (cK r_.Caps i_34))).bind fun r200=>
            k37 (!r200)
            else
            k37 false)))))))
     (fun (_:Unit)=>
      k32 ()) (r_.Caps.length - 0) 0 ()))
   (fun k18=>
    c8 (fun (i_20:Nat) (next19:Unit→Option Bool) (_:Unit)=>
     dJ (fun (x_22:Bool)=>
      (bif x_22 then
       some false
       else
       next19 ()))
     (fun k23=>
      (bif !(j0 ((cK r_.Loads i_20).To)) then
       k23 true
       else
       (bif !(j0 ((cK r_.Loads i_20).From)) then
        k23 true
        else
        (bif decide ((cK r_.Loads i_20).To=(cK r_.Loads i_20).From) then
         k23 true
         else
         (bif decide ((cK r_.Loads i_20).Weight<1) then
          k23 true
          else
          (bif decide (1073741824<(cK r_.Loads i_20).Weight) then
           k23 true
           else
           (bif !(nW ((cK r_.Loads i_20).Low) ((cK r_.Loads i_20).High)) then
            k23 true
            else
            (bif decide (0<(i_20:Int)) then
             (l9 (lm (cK r_.Loads (((i_20:Int) - 1).toNat))) (lm (cK r_.Loads i_20))).bind fun r149=>
             k23 (!r149)
             else
             k23 false)))))))))
    (fun (_:Unit)=>
     k18 ()) (r_.Loads.length - 0) 0 ()))
  (fun k4=>
   c8 (fun (i_6:Nat) (next5:Unit→Option Bool) (_:Unit)=>
    dJ (fun (x_8:Bool)=>
     (bif x_8 then
      some false
      else
      next5 ()))
    (fun k9=>
     (bif !(j0 ((cK r_.Pairs i_6).A)) then
      k9 true
      else
      (bif !(j0 ((cK r_.Pairs i_6).B)) then
       k9 true
       else
       (bif decide ((cK r_.Pairs i_6).B≤(cK r_.Pairs i_6).A) then
        k9 true
        else
        (bif decide ((cK r_.Pairs i_6).Offset<(-1)) then
         k9 true
         else
         (bif decide (1<(cK r_.Pairs i_6).Offset) then
          k9 true
          else
          (bif !(nW ((cK r_.Pairs i_6).Low) ((cK r_.Pairs i_6).High)) then
           k9 true
           else
           (bif decide (0<(i_6:Int)) then
            (l9 (lh (cK r_.Pairs (((i_6:Int) - 1).toNat))) (lh (cK r_.Pairs i_6))).bind fun r85=>
            k9 (!r85)
            else
            k9 false)))))))))
   (fun (_:Unit)=>
    k4 ()) (r_.Pairs.length - 0) 0 ()))
theorem zfj (F0:Frz)(w:World)(hF0:F0.At w)(r_:GRules)(vr__0:Value)(hr__0:SlC F0 vr__0 5 (r_.Pairs.map cP))(vr__1:Value)(hr__1:SlC F0 vr__1 5 (r_.Loads.map cR))(vr__2:Value)(hr__2:SlC F0 vr__2 4 (r_.Caps.map cV))(r:Bool)(hr:za2 r_=some r):Calls Tryz.prog 55 #[.agg [vr__0,vr__1,vr__2].toArray] w fun e w'=>e= .returned (.bool r)∧Below w.heap.size w w':=by
 have hk:=hr;unfold za2 at hk;haveI:=hr__0.oneC;haveI:=hr__1.oneC;haveI:=hr__2.oneC;obtain ⟨S0,F1,rfl,hS0,hp0⟩:=eY hF0;refine dv Tryz.func55 rfl rfl rfl hp0 ?_;refine iW ?_;rintro _ _ ⟨g1,rfl,rfl⟩;refine df ?_;refine kF ?_;refine da (ι:=Unit) (fun z=>[(1, .pointer (some ⟨g1,0,none⟩)),(24, .bool (((decide (4096<(r_.Pairs.length:Int)))||(decide (1024<(r_.Loads.length:Int))))||(decide (1024<(r_.Caps.length:Int)))))]) (fun z=>[.row g1 27 [vr__0,vr__1,vr__2], .fr F1]) (fun z=>True) ?_ ?_
 ·refine mw ?_;refine cM (dg rfl rfl hr__0 (List.length_map _)) ?_;have hm11:r_.Pairs.length≤9223372036854775807:=(List.length_map _)▸hr__0.max;refine eg ?_;refine dl rfl rfl rfl (fun h1=>?_) (fun h1=>?_)
  ·have p1:=of_decide_eq_true h1;refine TL.run 11 rfl ?_;refine ff ?_;exact cS () trivial (.c (.b (jl (jl h1)).symm .nil)) (List.Sublist.refl _)
  ·have p1:=of_decide_eq_false h1;refine ei ?_;refine cM (dg rfl rfl hr__1 (List.length_map _)) ?_;have hm16:r_.Loads.length≤9223372036854775807:=(List.length_map _)▸hr__1.max;refine eR ?_;refine dl rfl rfl rfl (fun h2=>?_) (fun h2=>?_)
   ·have p2:=of_decide_eq_true h2;refine mm ?_;exact cS () trivial (.c (.b (jl (jR h1 h2)).symm .nil)) (List.Sublist.refl _)
   ·have p2:=of_decide_eq_false h2;refine ei ?_;refine cM (dg rfl rfl hr__2 (List.length_map _)) ?_;have hm22:r_.Caps.length≤9223372036854775807:=(List.length_map _)▸hr__2.max;refine eg ?_;refine ff ?_;exact cS () trivial (.c (.b (io (jR h1 h2)) .nil)) (List.Sublist.refl _)
 ·rintro _ _;have hm11:r_.Pairs.length≤9223372036854775807:=(List.length_map _)▸hr__0.max;have hm16:r_.Loads.length≤9223372036854775807:=(List.length_map _)▸hr__1.max;have hm22:r_.Caps.length≤9223372036854775807:=(List.length_map _)▸hr__2.max;refine T.cond rfl (fun h3=>?_) (fun h3=>?_)
  ·replace hk:=dt hk h3;refine iN ?_;obtain rfl:=Option.some.inj hk;exact eh
  ·have p3:=h3; (try simp only [cY] at p3);replace hk:=dr hk h3;refine ka ?_;refine dB ?_;have hq:=ek hk;clear hk;obtain ⟨k4,hk4,hk⟩:=hq; (try dsimp only at hk);refine da (ι:=FzB w (fun _=>False) S0) (fun z=>[(1, .pointer (some ⟨g1,0,none⟩))]) (fun z=>[.row g1 27 [vr__0,vr__1,vr__2], .fr z]) (fun z=>k4 ()=some r∧F1.toFrz.Le z.toFrz) ?_ ?_
   ·have hq:=fB hk;clear hk;obtain ⟨f5,kk5,hf5,hkk5,hk⟩:=hq;refine fj ?_;refine T.loop (ι:=Nat×FzB w (fun _=>False) S0) (fun z=>[(1, .pointer (some ⟨g1,0,none⟩)),(3, .int .i64 (z.1:Int))]) (fun z=>[.row g1 27 [vr__0,vr__1,vr__2], .fr z.2]) (fun z=>c8 f5 kk5 (r_.Pairs.length - z.1) z.1 ()=some r∧F1.toFrz.Le z.2.toFrz) (fun z=>r_.Pairs.length - z.1) (0,F1) ?_ ?_ ?_ ?_
    ·exact ⟨hk,(Frz.Le.refl _)⟩
    ·exact q4x
    ·exact eW
    ·rintro ⟨i_6,F3⟩ ⟨hk,le1_3⟩; (try dsimp only at *);refine kO ?_;refine ei ?_;refine cM (dg rfl rfl (SlC.mono hr__0 le1_3) (List.length_map _)) ?_;refine dB ?_;refine T.cond rfl (fun h7=>?_) (fun h7=>?_)
     ·have p7:=of_decide_eq_true h7;rw [fx a5] at hk;generalize hn5:c8 f5 kk5 (r_.Pairs.length - (i_6+1)) (i_6+1)=next5 at hk;rw [←hf5] at hk; (try dsimp only at hk);refine fS ?_;refine q4e ?_;refine cM (dh (i:=i_6) rfl rfl rfl (SlC.mono hr__0 le1_3) (List.length_map _) rfl a5) ?_;refine cM (ef 1 (i:=i_6) rfl rfl rfl (SlC.mono hr__0 le1_3) a5) ?_;refine gV ?_;rintro _ _ ⟨g4,rfl,rfl⟩;refine mL ?_; (try dsimp only at hk);have hq:=ek hk;clear hk;obtain ⟨k9,hk9,hk⟩:=hq; (try dsimp only at hk);refine da (ι:=Bool×FzB w (fun _=>False) S0) (fun z=>[(1, .pointer (some ⟨g1,0,none⟩)),(3, .int .i64 (i_6:Int)),(88, .bool z.1)]) (fun z=>[.row g1 27 [vr__0,vr__1,vr__2], .fr z.2]) (fun z=>k9 z.1=some r∧F3.toFrz.Le z.2.toFrz) ?_ ?_
      ·refine q07 ?_;refine c6 rfl (Wt.none) rfl rfl (cN rfl rfl rfl (fun w hw=>zbq _ w (hw.fr (i:=2) rfl) ((cK r_.Pairs i_6).A))) ?_;refine ms ?_;refine dA rfl rfl rfl rfl (fun h10=>?_) (fun h10=>?_)
       ·replace hk:=dt hk h10;refine gQ ?_;refine jv ?_;refine TS.run 24 rfl ?_;refine mH ?_;exact q4y
       ·replace hk:=dr hk h10;refine mW ?_;refine c6 rfl (Wt.some) rfl rfl (cN rfl rfl rfl (fun w hw=>zbq _ w (hw.fr (i:=2) rfl) ((cK r_.Pairs i_6).B))) ?_;refine jL ?_;refine gv ?_;refine dA rfl rfl rfl rfl (fun h11=>?_) (fun h11=>?_)
        ·replace hk:=dt hk h11;refine TS.run 21 rfl ?_;refine mH ?_;exact q4y
        ·replace hk:=dr hk h11;refine fH ?_;refine fH ?_;refine gv ?_;refine dA rfl rfl rfl rfl (fun h12=>?_) (fun h12=>?_)
         ·have p12:=of_decide_eq_true h12;replace hk:=dt hk h12;refine TS.run 14 rfl ?_;refine mH ?_;exact q4y
         ·have p12:=of_decide_eq_false h12;replace hk:=dr hk h12;refine fH ?_;refine gv ?_;refine dA rfl rfl rfl rfl (fun h13=>?_) (fun h13=>?_)
          ·have p13:=of_decide_eq_true h13;replace hk:=dt hk h13;refine TS.run 9 rfl ?_;refine mH ?_;exact q4y
          ·have p13:=of_decide_eq_false h13;replace hk:=dr hk h13;refine fH ?_;refine gv ?_;refine dA rfl rfl rfl rfl (fun h14=>?_) (fun h14=>?_)
           ·have p14:=of_decide_eq_true h14;replace hk:=dt hk h14;refine TS.run 4 rfl ?_;refine mH ?_;exact q4y
           ·have p14:=of_decide_eq_false h14;replace hk:=dr hk h14;refine fH ?_;refine mW ?_;refine c6 rfl (Wt.some) rfl rfl (cN rfl rfl rfl (fun w hw=>zet _ w (hw.fr (i:=2) rfl) ((cK r_.Pairs i_6).Low) ((cK r_.Pairs i_6).High))) ?_;refine jL ?_;refine gv ?_;refine dA rfl rfl rfl rfl (fun h15=>?_) (fun h15=>?_)
            ·replace hk:=dt hk h15;refine TS.run 10 rfl ?_;refine q0e ?_;exact q4y
            ·replace hk:=dr hk h15;refine gv ?_;refine dA rfl rfl rfl rfl (fun h16=>?_) (fun h16=>?_)
             ·have p16:=of_decide_eq_true h16;replace hk:=dt hk h16;refine q11 ?_;refine q1a ?_;refine cT rfl (dh (i:=((i_6:Int) - 1).toNat) rfl rfl rfl (SlC.mono hr__0 le1_3) (List.length_map _) a5 a5) ?_;refine cT rfl (ef 2 (i:=((i_6:Int) - 1).toNat) rfl rfl rfl (SlC.mono hr__0 le1_3) a5) ?_;refine kJ ?_;refine dD ?_;refine c6 rfl (Wt.some) rfl rfl (d4 2 rfl rfl rfl rfl (fun w hw hF=>ze0 _ w hF (cK r_.Pairs (((i_6:Int) - 1).toNat)))) ?_;rintro _ _ ⟨v82_0_0,F5,le3_5,hf82_0_0,hq,rfl⟩;obtain rfl:=hq.symm;haveI:=hf82_0_0.oneC;refine ⟨(fun w hw=>(hw.frLe (i:=2) rfl le3_5).sub Sx),?_⟩;refine dD ?_;refine c6 rfl (Wt.some) rfl rfl (d4 2 rfl rfl rfl rfl (fun w hw hF=>ze0 _ w hF (cK r_.Pairs i_6))) ?_;rintro _ _ ⟨v84_0_0,F6,le5_6,hf84_0_0,hq,rfl⟩;obtain rfl:=hq.symm;have le3_6:=le3_5.trans le5_6;haveI:=hf84_0_0.oneC;refine ⟨(fun w hw=>(hw.frLe (i:=2) rfl le3_6).sub Sx),?_⟩;refine dD ?_;have hq:=ee hk;clear hk;obtain ⟨r85,hr85,hk⟩:=hq;refine c6 rfl (Wt.some) rfl rfl (cN rfl rfl rfl (fun w hw=>zeC _ w (hw.fr (i:=2) rfl) (lh (cK r_.Pairs (((i_6:Int) - 1).toNat))) v82_0_0 (SlC.mono hf82_0_0 le5_6) (lh (cK r_.Pairs i_6)) v84_0_0 hf84_0_0 r85 hr85)) ?_;refine eX ?_;refine ⟨(fun w hw=>(hw.frLe (i:=2) rfl le3_6).sub Sx),?_⟩;refine q2m ?_;exact cS (!r85,F6) ⟨hk,le3_6⟩ (.c (.c (.c .nil))) (List.Sublist.refl _)
             ·have p16:=of_decide_eq_false h16;replace hk:=dr hk h16;refine q4b ?_;exact cS (false,F3) ⟨hk,(Frz.Le.refl _)⟩ (.c (.c (.c .nil))) (List.Sublist.refl _)
      ·rintro ⟨x_8,F4⟩ ⟨hk,le3_4⟩; (try dsimp only at *);rw [←hk9] at hk; (try dsimp only at hk);have le1_4:=le1_3.trans le3_4;refine T.cond rfl (fun h17=>?_) (fun h17=>?_)
       ·replace hk:=dt hk h17;refine i2 ?_;obtain rfl:=Option.some.inj hk;exact eh
       ·replace hk:=dr hk h17;refine gY ?_;rw [←hn5] at hk;exact K.next ((i_6+1),F4) ⟨hk,le1_4⟩ a9 (.c (.c .nil)) (List.Sublist.refl _)
     ·have p7:=of_decide_eq_false h7;rw [fw a5,←hkk5] at hk; (try dsimp only at hk);refine eE ?_;exact cS F3 ⟨hk,le1_3⟩ (.c .nil) (List.Sublist.refl _)
   ·rintro F2 ⟨hk,le1_2⟩;rw [←hk4] at hk; (try dsimp only at hk);refine ma ?_;have hq:=ek hk;clear hk;obtain ⟨k18,hk18,hk⟩:=hq; (try dsimp only at hk);refine da (ι:=FzB w (fun _=>False) S0) (fun z=>[(1, .pointer (some ⟨g1,0,none⟩))]) (fun z=>[.row g1 27 [vr__0,vr__1,vr__2], .fr z]) (fun z=>k18 ()=some r∧F2.toFrz.Le z.toFrz) ?_ ?_
    ·have hq:=fB hk;clear hk;obtain ⟨f19,kk19,hf19,hkk19,hk⟩:=hq;refine fj ?_;refine T.loop (ι:=Nat×FzB w (fun _=>False) S0) (fun z=>[(1, .pointer (some ⟨g1,0,none⟩)),(5, .int .i64 (z.1:Int))]) (fun z=>[.row g1 27 [vr__0,vr__1,vr__2], .fr z.2]) (fun z=>c8 f19 kk19 (r_.Loads.length - z.1) z.1 ()=some r∧F2.toFrz.Le z.2.toFrz) (fun z=>r_.Loads.length - z.1) (0,F2) ?_ ?_ ?_ ?_
     ·exact ⟨hk,(Frz.Le.refl _)⟩
     ·exact q4x
     ·exact eW
     ·rintro ⟨i_20,F8⟩ ⟨hk,le2_8⟩; (try dsimp only at *);have le1_8:=le1_2.trans le2_8;refine kO ?_;refine ei ?_;refine cM (dg rfl rfl (SlC.mono hr__1 le1_8) (List.length_map _)) ?_;refine dB ?_;refine T.cond rfl (fun h21=>?_) (fun h21=>?_)
      ·have p21:=of_decide_eq_true h21;rw [fx a5] at hk;generalize hn19:c8 f19 kk19 (r_.Loads.length - (i_20+1)) (i_20+1)=next19 at hk;rw [←hf19] at hk; (try dsimp only at hk);refine fS ?_;refine q4e ?_;refine cM (dh (i:=i_20) rfl rfl rfl (SlC.mono hr__1 le1_8) (List.length_map _) rfl a5) ?_;refine cM (ef 1 (i:=i_20) rfl rfl rfl (SlC.mono hr__1 le1_8) a5) ?_;refine gV ?_;rintro _ _ ⟨g6,rfl,rfl⟩;refine mL ?_; (try dsimp only at hk);have hq:=ek hk;clear hk;obtain ⟨k23,hk23,hk⟩:=hq; (try dsimp only at hk);refine da (ι:=Bool×FzB w (fun _=>False) S0) (fun z=>[(1, .pointer (some ⟨g1,0,none⟩)),(5, .int .i64 (i_20:Int)),(152, .bool z.1)]) (fun z=>[.row g1 27 [vr__0,vr__1,vr__2], .fr z.2]) (fun z=>k23 z.1=some r∧F8.toFrz.Le z.2.toFrz) ?_ ?_
       ·refine q07 ?_;refine c6 rfl (Wt.none) rfl rfl (cN rfl rfl rfl (fun w hw=>zbq _ w (hw.fr (i:=2) rfl) ((cK r_.Loads i_20).To))) ?_;refine ms ?_;refine dA rfl rfl rfl rfl (fun h24=>?_) (fun h24=>?_)
        ·replace hk:=dt hk h24;refine gQ ?_;refine jv ?_;refine TS.run 24 rfl ?_;refine mH ?_;exact q4G
        ·replace hk:=dr hk h24;refine mW ?_;refine c6 rfl (Wt.some) rfl rfl (cN rfl rfl rfl (fun w hw=>zbq _ w (hw.fr (i:=2) rfl) ((cK r_.Loads i_20).From))) ?_;refine jL ?_;refine gv ?_;refine dA rfl rfl rfl rfl (fun h25=>?_) (fun h25=>?_)
         ·replace hk:=dt hk h25;refine TS.run 21 rfl ?_;refine mH ?_;exact q4G
         ·replace hk:=dr hk h25;refine fH ?_;refine fH ?_;refine gv ?_;refine dA rfl rfl rfl rfl (fun h26=>?_) (fun h26=>?_)
          ·have p26:=of_decide_eq_true h26;replace hk:=dt hk h26;refine TS.run 14 rfl ?_;refine mH ?_;exact q4G
          ·have p26:=of_decide_eq_false h26;replace hk:=dr hk h26;refine fH ?_;refine gv ?_;refine dA rfl rfl rfl rfl (fun h27=>?_) (fun h27=>?_)
           ·have p27:=of_decide_eq_true h27;replace hk:=dt hk h27;refine TS.run 9 rfl ?_;refine mH ?_;exact q4G
           ·have p27:=of_decide_eq_false h27;replace hk:=dr hk h27;refine fH ?_;refine gv ?_;refine dA rfl rfl rfl rfl (fun h28=>?_) (fun h28=>?_)
            ·have p28:=of_decide_eq_true h28;replace hk:=dt hk h28;refine TS.run 4 rfl ?_;refine mH ?_;exact q4G
            ·have p28:=of_decide_eq_false h28;replace hk:=dr hk h28;refine fH ?_;refine mW ?_;refine c6 rfl (Wt.some) rfl rfl (cN rfl rfl rfl (fun w hw=>zet _ w (hw.fr (i:=2) rfl) ((cK r_.Loads i_20).Low) ((cK r_.Loads i_20).High))) ?_;refine jL ?_;refine gv ?_;refine dA rfl rfl rfl rfl (fun h29=>?_) (fun h29=>?_)
             ·replace hk:=dt hk h29;refine TS.run 10 rfl ?_;refine q0e ?_;exact q4G
             ·replace hk:=dr hk h29;refine gv ?_;refine dA rfl rfl rfl rfl (fun h30=>?_) (fun h30=>?_)
              ·have p30:=of_decide_eq_true h30;replace hk:=dt hk h30;refine q11 ?_;refine q1a ?_;refine cT rfl (dh (i:=((i_20:Int) - 1).toNat) rfl rfl rfl (SlC.mono hr__1 le1_8) (List.length_map _) a5 a5) ?_;refine cT rfl (ef 2 (i:=((i_20:Int) - 1).toNat) rfl rfl rfl (SlC.mono hr__1 le1_8) a5) ?_;refine kJ ?_;refine dD ?_;refine c6 rfl (Wt.some) rfl rfl (d4 2 rfl rfl rfl rfl (fun w hw hF=>ze3 _ w hF (cK r_.Loads (((i_20:Int) - 1).toNat)))) ?_;rintro _ _ ⟨v146_0_0,F10,le8_10,hf146_0_0,hq,rfl⟩;obtain rfl:=hq.symm;haveI:=hf146_0_0.oneC;refine ⟨(fun w hw=>(hw.frLe (i:=2) rfl le8_10).sub Sx),?_⟩;refine dD ?_;refine c6 rfl (Wt.some) rfl rfl (d4 2 rfl rfl rfl rfl (fun w hw hF=>ze3 _ w hF (cK r_.Loads i_20))) ?_;rintro _ _ ⟨v148_0_0,F11,le10_11,hf148_0_0,hq,rfl⟩;obtain rfl:=hq.symm;have le8_11:=le8_10.trans le10_11;haveI:=hf148_0_0.oneC;refine ⟨(fun w hw=>(hw.frLe (i:=2) rfl le8_11).sub Sx),?_⟩;refine dD ?_;have hq:=ee hk;clear hk;obtain ⟨r149,hr149,hk⟩:=hq;refine c6 rfl (Wt.some) rfl rfl (cN rfl rfl rfl (fun w hw=>zeC _ w (hw.fr (i:=2) rfl) (lm (cK r_.Loads (((i_20:Int) - 1).toNat))) v146_0_0 (SlC.mono hf146_0_0 le10_11) (lm (cK r_.Loads i_20)) v148_0_0 hf148_0_0 r149 hr149)) ?_;refine eX ?_;refine ⟨(fun w hw=>(hw.frLe (i:=2) rfl le8_11).sub Sx),?_⟩;refine q2m ?_;exact cS (!r149,F11) ⟨hk,le8_11⟩ (.c (.c (.c .nil))) (List.Sublist.refl _)
              ·have p30:=of_decide_eq_false h30;replace hk:=dr hk h30;refine q4b ?_;exact cS (false,F8) ⟨hk,(Frz.Le.refl _)⟩ (.c (.c (.c .nil))) (List.Sublist.refl _)
       ·rintro ⟨x_22,F9⟩ ⟨hk,le8_9⟩; (try dsimp only at *);rw [←hk23] at hk; (try dsimp only at hk);have le2_9:=le2_8.trans le8_9;refine T.cond rfl (fun h31=>?_) (fun h31=>?_)
        ·replace hk:=dt hk h31;refine i2 ?_;obtain rfl:=Option.some.inj hk;exact eh
        ·replace hk:=dr hk h31;refine gY ?_;rw [←hn19] at hk;exact K.next ((i_20+1),F9) ⟨hk,le2_9⟩ a9 (.c (.c .nil)) (List.Sublist.refl _)
      ·have p21:=of_decide_eq_false h21;rw [fw a5,←hkk19] at hk; (try dsimp only at hk);refine eE ?_;exact cS F8 ⟨hk,le2_8⟩ (.c .nil) (List.Sublist.refl _)
    ·rintro F7 ⟨hk,le2_7⟩;rw [←hk18] at hk; (try dsimp only at hk);have le1_7:=le1_2.trans le2_7;refine ma ?_;have hq:=ek hk;clear hk;obtain ⟨k32,hk32,hk⟩:=hq; (try dsimp only at hk);refine da (ι:=FzB w (fun _=>False) S0) (fun z=>[]) (fun z=>[.fr z]) (fun z=>k32 ()=some r∧F7.toFrz.Le z.toFrz) ?_ ?_
     ·have hq:=fB hk;clear hk;obtain ⟨f33,kk33,hf33,hkk33,hk⟩:=hq;refine fj ?_;refine T.loop (ι:=Nat×FzB w (fun _=>False) S0) (fun z=>[(1, .pointer (some ⟨g1,0,none⟩)),(7, .int .i64 (z.1:Int))]) (fun z=>[.row g1 27 [vr__0,vr__1,vr__2], .fr z.2]) (fun z=>c8 f33 kk33 (r_.Caps.length - z.1) z.1 ()=some r∧F7.toFrz.Le z.2.toFrz) (fun z=>r_.Caps.length - z.1) (0,F7) ?_ ?_ ?_ ?_
      ·exact ⟨hk,(Frz.Le.refl _)⟩
      ·exact q4x
      ·exact eW
      ·rintro ⟨i_34,F13⟩ ⟨hk,le7_13⟩; (try dsimp only at *);have le1_13:=le1_7.trans le7_13;refine kO ?_;refine ei ?_;refine cM (dg rfl rfl (SlC.mono hr__2 le1_13) (List.length_map _)) ?_;refine dB ?_;refine T.cond rfl (fun h35=>?_) (fun h35=>?_)
       ·have p35:=of_decide_eq_true h35;rw [fx a5] at hk;generalize hn33:c8 f33 kk33 (r_.Caps.length - (i_34+1)) (i_34+1)=next33 at hk;rw [←hf33] at hk; (try dsimp only at hk);refine fS ?_;refine q4e ?_;refine cM (dh (i:=i_34) rfl rfl rfl (SlC.mono hr__2 le1_13) (List.length_map _) rfl a5) ?_;refine cM (ef 1 (i:=i_34) rfl rfl rfl (SlC.mono hr__2 le1_13) a5) ?_;refine gV ?_;rintro _ _ ⟨g8,rfl,rfl⟩;refine mL ?_; (try dsimp only at hk);have hq:=ek hk;clear hk;obtain ⟨k37,hk37,hk⟩:=hq; (try dsimp only at hk);refine da (ι:=Bool×FzB w (fun _=>False) S0) (fun z=>[(1, .pointer (some ⟨g1,0,none⟩)),(7, .int .i64 (i_34:Int)),(203, .bool z.1)]) (fun z=>[.row g1 27 [vr__0,vr__1,vr__2], .fr z.2]) (fun z=>k37 z.1=some r∧F13.toFrz.Le z.2.toFrz) ?_ ?_
        ·refine dM (sN 0 2 (.eff 2 (sN 3 16 (.eff 19 (sN 20 12 (.still 33 (.eff 32 (.eff 34 (.eff 35 (sN 36 2 (.still 38 .done))))))))))) _ a7 (List.Sublist.refl _) ?_;refine mW ?_;refine c6 rfl (Wt.none) rfl rfl (cN rfl rfl rfl (fun w hw=>zbq _ w (hw.fr (i:=2) rfl) ((cK r_.Caps i_34).Station))) ?_;refine ms ?_;refine dA rfl rfl rfl rfl (fun h38=>?_) (fun h38=>?_)
         ·replace hk:=dt hk h38;refine TS.run 14 rfl ?_;refine mH ?_;exact q4S
         ·replace hk:=dr hk h38;refine fH ?_;refine gv ?_;refine dA rfl rfl rfl rfl (fun h39=>?_) (fun h39=>?_)
          ·have p39:=of_decide_eq_true h39;replace hk:=dt hk h39;refine TS.run 9 rfl ?_;refine mH ?_;exact q4S
          ·have p39:=of_decide_eq_false h39;replace hk:=dr hk h39;refine fH ?_;refine gv ?_;refine dA rfl rfl rfl rfl (fun h40=>?_) (fun h40=>?_)
           ·have p40:=of_decide_eq_true h40;replace hk:=dt hk h40;refine TS.run 4 rfl ?_;refine mH ?_;exact q4S
           ·have p40:=of_decide_eq_false h40;replace hk:=dr hk h40;refine fH ?_;refine mW ?_;refine c6 rfl (Wt.some) rfl rfl (cN rfl rfl rfl (fun w hw=>zet _ w (hw.fr (i:=2) rfl) ((cK r_.Caps i_34).Low) ((cK r_.Caps i_34).High))) ?_;refine jL ?_;refine gv ?_;refine dA rfl rfl rfl rfl (fun h41=>?_) (fun h41=>?_)
            ·replace hk:=dt hk h41;refine TS.run 10 rfl ?_;refine q0e ?_;exact q4S
            ·replace hk:=dr hk h41;refine gv ?_;refine dA rfl rfl rfl rfl (fun h42=>?_) (fun h42=>?_)
             ·have p42:=of_decide_eq_true h42;replace hk:=dt hk h42;refine q11 ?_;refine q1a ?_;refine cT rfl (dh (i:=((i_34:Int) - 1).toNat) rfl rfl rfl (SlC.mono hr__2 le1_13) (List.length_map _) a5 a5) ?_;refine cT rfl (ef 2 (i:=((i_34:Int) - 1).toNat) rfl rfl rfl (SlC.mono hr__2 le1_13) a5) ?_;refine kJ ?_;refine dD ?_;refine c6 rfl (Wt.some) rfl rfl (d4 2 rfl rfl rfl rfl (fun w hw hF=>zfK _ w hF (cK r_.Caps (((i_34:Int) - 1).toNat)))) ?_;rintro _ _ ⟨v197_0_0,F15,le13_15,hf197_0_0,hq,rfl⟩;obtain rfl:=hq.symm;haveI:=hf197_0_0.oneC;refine ⟨(fun w hw=>(hw.frLe (i:=2) rfl le13_15).sub Sx),?_⟩;refine dD ?_;refine c6 rfl (Wt.some) rfl rfl (d4 2 rfl rfl rfl rfl (fun w hw hF=>zfK _ w hF (cK r_.Caps i_34))) ?_;rintro _ _ ⟨v199_0_0,F16,le15_16,hf199_0_0,hq,rfl⟩;obtain rfl:=hq.symm;have le13_16:=le13_15.trans le15_16;haveI:=hf199_0_0.oneC;refine ⟨(fun w hw=>(hw.frLe (i:=2) rfl le13_16).sub Sx),?_⟩;refine dD ?_;have hq:=ee hk;clear hk;obtain ⟨r200,hr200,hk⟩:=hq;refine c6 rfl (Wt.some) rfl rfl (cN rfl rfl rfl (fun w hw=>zeC _ w (hw.fr (i:=2) rfl) (ln (cK r_.Caps (((i_34:Int) - 1).toNat))) v197_0_0 (SlC.mono hf197_0_0 le15_16) (ln (cK r_.Caps i_34)) v199_0_0 hf199_0_0 r200 hr200)) ?_;refine eX ?_;refine ⟨(fun w hw=>(hw.frLe (i:=2) rfl le13_16).sub Sx),?_⟩;refine q2m ?_;exact cS (!r200,F16) ⟨hk,le13_16⟩ (.c (.c (.c .nil))) (List.Sublist.refl _)
             ·have p42:=of_decide_eq_false h42;replace hk:=dr hk h42;refine q4b ?_;exact cS (false,F13) ⟨hk,(Frz.Le.refl _)⟩ (.c (.c (.c .nil))) (List.Sublist.refl _)
        ·rintro ⟨x_36,F14⟩ ⟨hk,le13_14⟩; (try dsimp only at *);rw [←hk37] at hk; (try dsimp only at hk);have le7_14:=le7_13.trans le13_14;refine T.cond rfl (fun h43=>?_) (fun h43=>?_)
         ·replace hk:=dt hk h43;refine i2 ?_;obtain rfl:=Option.some.inj hk;exact eh
         ·replace hk:=dr hk h43;refine gY ?_;rw [←hn33] at hk;exact K.next ((i_34+1),F14) ⟨hk,le7_14⟩ a9 (.c (.c .nil)) (List.Sublist.refl _)
       ·have p35:=of_decide_eq_false h35;rw [fw a5,←hkk33] at hk; (try dsimp only at hk);refine eE ?_;refine q2R ?_;exact cS F13 ⟨hk,le7_13⟩ .nil (List.Sublist.refl _)
     ·rintro F12 ⟨hk,le7_12⟩;rw [←hk32] at hk; (try dsimp only at hk);refine kE ?_;obtain rfl:=Option.some.inj hk;exact eh
def zb1 (p:GProblem):Option Bool:=
 dJ (fun (x_1:Bool)=>
  (bif x_1 then
   some false
   else
   dJ (fun (_:Unit)=>
    dJ (fun (_:Unit)=>
     dJ (fun (_:Unit)=>
      dJ (fun (_:Unit)=>
       some true)
      (fun k32=>
       c8 (fun (i_34:Nat) (next33:Unit→Option Bool) (_:Unit)=>
        (bif decide ((ij p ((cK p.Rules.Caps i_34).Station))<0) then
         some false
         else
         next33 ()))
       (fun (_:Unit)=>
        k32 ()) (p.Rules.Caps.length - 0) 0 ()))
     (fun k26=>
      c8 (fun (i_28:Nat) (next27:Unit→Option Bool) (_:Unit)=>
       (bif ((decide ((ij p ((cK p.Rules.Loads i_28).To))<0))||(decide ((ij p ((cK p.Rules.Loads i_28).From))<0))) then
        some false
        else
        next27 ()))
      (fun (_:Unit)=>
       k26 ()) (p.Rules.Loads.length - 0) 0 ()))
    (fun k20=>
     c8 (fun (i_22:Nat) (next21:Unit→Option Bool) (_:Unit)=>
      (bif ((decide ((ij p ((cK p.Rules.Pairs i_22).A))<0))||(decide ((ij p ((cK p.Rules.Pairs i_22).B))<0))) then
       some false
       else
       next21 ()))
     (fun (_:Unit)=>
      k20 ()) (p.Rules.Pairs.length - 0) 0 ()))
   (fun k5=>
    c8 (fun (i_7:Nat) (next6:Unit→Option Bool) (_:Unit)=>
     (bif (((!(j0 ((cK p.Domains i_7).Station)))||((decide (0<(i_7:Int)))&&(decide ((cK p.Domains i_7).Station≤(cK p.Domains (((i_7:Int) - 1).toNat)).Station))))||(decide (50<(((cK p.Domains i_7).Channels).length:Int)))) then
      some false
      else
      c8 (fun (k_14:Nat) (next13:Unit→Option Bool) (_:Unit)=>
       (bif (((decide ((cK ((cK p.Domains i_7).Channels) k_14)<2))||(decide (51<(cK ((cK p.Domains i_7).Channels) k_14))))||((decide (0<(k_14:Int)))&&(decide ((cK ((cK p.Domains i_7).Channels) k_14)≤(cK ((cK p.Domains i_7).Channels) (((k_14:Int) - 1).toNat)))))) then
        some false
        else
        next13 ()))
      (fun (_:Unit)=>
       next6 ()) ((((cK p.Domains i_7).Channels).length) - 0) 0 ()))
    (fun (_:Unit)=>
     k5 ()) (p.Domains.length - 0) 0 ())))
 (fun k2=>
  (bif decide (512<(p.Domains.length:Int)) then
   k2 true
   else
   (za2 p.Rules).bind fun r16=>
   k2 (!r16)))
theorem zh4 (F0:Frz)(w:World)(hF0:F0.At w)(p:GProblem)(vp_0:Value)(cp_0:List (List Value))(hp_0:SlD cL F0 vp_0 2 cp_0 p.Domains)(vp_1:Value)(hp_1:SlC F0 vp_1 5 (p.Rules.Pairs.map cP))(vp_2:Value)(hp_2:SlC F0 vp_2 5 (p.Rules.Loads.map cR))(vp_3:Value)(hp_3:SlC F0 vp_3 4 (p.Rules.Caps.map cV))(r:Bool)(hr:zb1 p=some r):Calls Tryz.prog 26 #[.agg [vp_0,vp_1,vp_2,vp_3].toArray] w fun e w'=>e= .returned (.bool r)∧Below w.heap.size w w':=by
 have hk:=hr;unfold zb1 at hk;haveI:=hp_0.1.oneC;haveI:=hp_1.oneC;haveI:=hp_2.oneC;haveI:=hp_3.oneC;obtain ⟨S0,F1,rfl,hS0,hp0⟩:=eY hF0;refine dv Tryz.func26 rfl rfl rfl hp0 ?_;refine iW ?_;rintro _ _ ⟨g1,rfl,rfl⟩;refine df ?_;refine kF ?_; (try dsimp only at hk);have hq:=ek hk;clear hk;obtain ⟨k2,hk2,hk⟩:=hq; (try dsimp only at hk);refine da (ι:=Bool) (fun z=>[(1, .pointer (some ⟨g1,0,none⟩)),(18, .bool z)]) (fun z=>[.row g1 29 [vp_0,vp_1,vp_2,vp_3], .fr F1]) (fun z=>k2 z=some r) ?_ ?_
 ·refine mw ?_;refine q2g ?_;have hm11:p.Domains.length≤9223372036854775807:=hp_0.2.1▸hp_0.1.max;refine eg ?_;refine dl rfl rfl rfl (fun h3=>?_) (fun h3=>?_)
  ·have p3:=of_decide_eq_true h3;replace hk:=dt hk h3;refine mm ?_;exact cS true hk (.c (.c .nil)) (List.Sublist.refl _)
  ·have p3:=of_decide_eq_false h3;replace hk:=dr hk h3;refine fC ?_;refine cM (ny 0 (m:=[vp_1,vp_2,vp_3]) rfl rfl rfl rfl rfl) ?_;have hq:=ee hk;clear hk;obtain ⟨r16,hr16,hk⟩:=hq;refine cW (cN rfl rfl rfl (fun w hw=>zfj _ w (hw.fr (i:=1) rfl) p.Rules vp_1 hp_1 vp_2 hp_2 vp_3 hp_3 r16 hr16)) ?_;refine mi ?_;exact cS (!r16) hk (.c (.c .nil)) (List.Sublist.refl _)
 ·rintro x_1 hk;rw [←hk2] at hk; (try dsimp only at hk);refine T.cond rfl (fun h4=>?_) (fun h4=>?_)
  ·replace hk:=dt hk h4;refine iN ?_;obtain rfl:=Option.some.inj hk;exact eh
  ·replace hk:=dr hk h4;refine ka ?_;refine dB ?_;have hq:=ek hk;clear hk;obtain ⟨k5,hk5,hk⟩:=hq; (try dsimp only at hk);refine da (ι:=Unit) (fun z=>[(1, .pointer (some ⟨g1,0,none⟩))]) (fun z=>[.row g1 29 [vp_0,vp_1,vp_2,vp_3], .fr F1]) (fun z=>k5 ()=some r) ?_ ?_
   ·have hq:=fB hk;clear hk;obtain ⟨f6,kk6,hf6,hkk6,hk⟩:=hq;refine fj ?_;refine T.loop (ι:=Nat) (fun z=>[(1, .pointer (some ⟨g1,0,none⟩)),(3, .int .i64 (z:Int))]) (fun z=>[.row g1 29 [vp_0,vp_1,vp_2,vp_3], .fr F1]) (fun z=>c8 f6 kk6 (p.Domains.length - z) z ()=some r) (fun z=>p.Domains.length - z) 0 ?_ ?_ ?_ ?_
    ·exact hk
    ·exact q4x
    ·exact eW
    ·rintro i_7 hk;refine kO ?_;refine ei ?_;refine q2g ?_;have hm22:p.Domains.length≤9223372036854775807:=hp_0.2.1▸hp_0.1.max;refine dB ?_;refine T.cond rfl (fun h8=>?_) (fun h8=>?_)
     ·have p8:=of_decide_eq_true h8;rw [fx a5] at hk;generalize hn6:c8 f6 kk6 (p.Domains.length - (i_7+1)) (i_7+1)=next6 at hk;rw [←hf6] at hk; (try dsimp only at hk);refine fS ?_;refine q4e ?_;refine cM (dh (i:=i_7) rfl rfl rfl hp_0.1 hp_0.2.1 rfl a5) ?_;refine cM (kM 1 (i:=i_7) (j:=0) rfl rfl rfl hp_0.1 hp_0.2.1 a5 rfl (fW (hp_0.2.2 i_7 a5)) rfl) ?_;have hd30_1:=(GDomain.c1 (hp_0.2.2 i_7 a5)).2;haveI:=hd30_1.oneC;refine gV ?_;rintro _ _ ⟨g4,rfl,rfl⟩;refine j5 ?_;refine kF ?_;refine da (ι:=Unit) (fun z=>[(1, .pointer (some ⟨g1,0,none⟩)),(3, .int .i64 (i_7:Int)),(4, .pointer (some ⟨g4,0,none⟩)),(56, .bool (((!(j0 ((cK p.Domains i_7).Station)))||((decide (0<(i_7:Int)))&&(decide ((cK p.Domains i_7).Station≤(cK p.Domains (((i_7:Int) - 1).toNat)).Station))))||(decide (50<(((cK p.Domains i_7).Channels).length:Int)))))]) (fun z=>[.row g4 98 [.int .i64 ((cK p.Domains i_7).Station),(cK (cK cp_0 i_7) 1)], .row g1 29 [vp_0,vp_1,vp_2,vp_3], .fr F1]) (fun z=>True) ?_ ?_
      ·refine dM (sN 0 2 (.eff 2 (sN 3 22 (.still 25 .done)))) _ a7 (List.Sublist.refl _) ?_;refine mW ?_;refine c6 rfl (Wt.none) rfl rfl (cN rfl rfl rfl (fun w hw=>zbq _ w (hw.fr (i:=2) rfl) ((cK p.Domains i_7).Station))) ?_;refine ms ?_;refine dA rfl rfl rfl rfl (fun h9=>?_) (fun h9=>?_)
       ·refine TS.run 21 rfl ?_;refine fQ ?_;exact cS () trivial (.c (.c (.c (.b (jl (jl h9)).symm .nil)))) (List.Sublist.refl _)
       ·refine gv ?_;refine dA rfl rfl rfl rfl (fun h10=>?_) (fun h10=>?_)
        ·have p10:=of_decide_eq_true h10;refine q11 ?_;refine q1a ?_;refine cT rfl (dh (i:=((i_7:Int) - 1).toNat) rfl rfl rfl hp_0.1 hp_0.2.1 a5 a5) ?_;refine cT rfl (gj rfl rfl hp_0.1 hp_0.2.1 a5) ?_;refine cT rfl (dU 2 (i:=((i_7:Int) - 1).toNat) (j:=0) rfl rfl rfl hp_0.1 hp_0.2.1 a5 rfl (GDomain.c0 (hp_0.2.2 (((i_7:Int) - 1).toNat) a5))) ?_;refine fH ?_;refine TS.run 4 rfl ?_;refine dA rfl rfl rfl rfl (fun h11=>?_) (fun h11=>?_)
         ·have p11:=of_decide_eq_true h11;refine TS.run 5 rfl ?_;refine fQ ?_;exact cS () trivial (.c (.c (.c (.b (jl (jR h9 (iL h10 h11))).symm .nil)))) (List.Sublist.refl _)
         ·have p11:=of_decide_eq_false h11;refine fH ?_;refine cT rfl (dg rfl rfl hd30_1 (List.length_map _)) ?_;have hm54:((cK p.Domains i_7).Channels).length≤9223372036854775807:=(List.length_map _)▸hd30_1.max;refine gQ ?_;refine fQ ?_;exact cS () trivial (.c (.c (.c (.b (io (jR h9 (iL h10 h11))) .nil)))) (List.Sublist.refl _)
        ·have p10:=of_decide_eq_false h10;refine TS.run 13 rfl ?_;refine fH ?_;refine cT rfl (dg rfl rfl hd30_1 (List.length_map _)) ?_;have hm54:((cK p.Domains i_7).Channels).length≤9223372036854775807:=(List.length_map _)▸hd30_1.max;refine gQ ?_;refine fQ ?_;exact cS () trivial (.c (.c (.c (.b (io (jR h9 (fY h10))) .nil)))) (List.Sublist.refl _)
      ·rintro _ _;have hm54:((cK p.Domains i_7).Channels).length≤9223372036854775807:=(List.length_map _)▸hd30_1.max;refine T.cond rfl (fun h12=>?_) (fun h12=>?_)
       ·replace hk:=dt hk h12;refine gu ?_;refine q2w ?_;obtain rfl:=Option.some.inj hk;exact eh
       ·have p12:=h12; (try simp only [cY] at p12);replace hk:=dr hk h12;refine i7 ?_;refine dB ?_;have hq:=fB hk;clear hk;obtain ⟨f13,kk13,hf13,hkk13,hk⟩:=hq;refine fj ?_;refine T.loop (ι:=Nat) (fun z=>[(1, .pointer (some ⟨g1,0,none⟩)),(3, .int .i64 (i_7:Int)),(4, .pointer (some ⟨g4,0,none⟩)),(5, .int .i64 (z:Int))]) (fun z=>[.row g4 98 [.int .i64 ((cK p.Domains i_7).Station),(cK (cK cp_0 i_7) 1)], .row g1 29 [vp_0,vp_1,vp_2,vp_3], .fr F1]) (fun z=>c8 f13 kk13 ((((cK p.Domains i_7).Channels).length) - z) z ()=some r) (fun z=>(((cK p.Domains i_7).Channels).length) - z) 0 ?_ ?_ ?_ ?_
        ·exact hk
        ·exact m0
        ·exact eW
        ·rintro k_14 hk;refine kO ?_;refine ei ?_;refine cM (dg rfl rfl hd30_1 (List.length_map _)) ?_;refine dB ?_;refine T.cond rfl (fun h15=>?_) (fun h15=>?_)
         ·have p15:=of_decide_eq_true h15;rw [fx a5] at hk;generalize hn13:c8 f13 kk13 ((((cK p.Domains i_7).Channels).length) - (k_14+1)) (k_14+1)=next13 at hk;rw [←hf13] at hk; (try dsimp only at hk);refine jQ ?_;refine da (ι:=Unit) (fun z=>[(1, .pointer (some ⟨g1,0,none⟩)),(3, .int .i64 (i_7:Int)),(4, .pointer (some ⟨g4,0,none⟩)),(5, .int .i64 (k_14:Int)),(95, .bool (((decide ((cK ((cK p.Domains i_7).Channels) k_14)<2))||(decide (51<(cK ((cK p.Domains i_7).Channels) k_14))))||((decide (0<(k_14:Int)))&&(decide ((cK ((cK p.Domains i_7).Channels) k_14)≤(cK ((cK p.Domains i_7).Channels) (((k_14:Int) - 1).toNat)))))))]) (fun z=>[.row g4 98 [.int .i64 ((cK p.Domains i_7).Station),(cK (cK cp_0 i_7) 1)], .row g1 29 [vp_0,vp_1,vp_2,vp_3], .fr F1]) (fun z=>True) ?_ ?_
          ·refine dM (sN 0 31 (.still 31 .done)) _ a7 (List.Sublist.refl _) ?_;refine q1T ?_;refine gQ ?_;refine dA rfl rfl rfl rfl (fun h16=>?_) (fun h16=>?_)
           ·have p16:=of_decide_eq_true h16;refine TS.run 25 rfl ?_;refine fQ ?_;exact cS () trivial (.c (.c (.c (.c (.b (jl (jl h16)).symm .nil))))) (List.Sublist.refl _)
           ·have p16:=of_decide_eq_false h16;refine q1T ?_;refine gv ?_;refine dA rfl rfl rfl rfl (fun h17=>?_) (fun h17=>?_)
            ·have p17:=of_decide_eq_true h17;refine TS.run 17 rfl ?_;refine fQ ?_;exact cS () trivial (.c (.c (.c (.c (.b (jl (jR h16 h17)).symm .nil))))) (List.Sublist.refl _)
            ·have p17:=of_decide_eq_false h17;refine gv ?_;refine dA rfl rfl rfl rfl (fun h18=>?_) (fun h18=>?_)
             ·have p18:=of_decide_eq_true h18;refine fH ?_;refine fF ?_;refine q1a ?_;refine cT rfl (dh (i:=((k_14:Int) - 1).toNat) rfl rfl rfl hd30_1 (List.length_map _) a5 a5) ?_;refine cT rfl (ec 2 (i:=((k_14:Int) - 1).toNat) (j:=0) rfl rfl rfl hd30_1 a5) ?_;refine q1T ?_;refine gv ?_;refine fQ ?_;exact cS () trivial (.c (.c (.c (.c (.b (Eq.trans (kw h18) (io (jR h16 h17))) .nil))))) (List.Sublist.refl _)
             ·have p18:=of_decide_eq_false h18;refine TS.run 14 rfl ?_;refine fQ ?_;exact cS () trivial (.c (.c (.c (.c (.b (jR (jR h16 h17) (fY h18)).symm .nil))))) (List.Sublist.refl _)
          ·rintro _ _;refine T.cond rfl (fun h19=>?_) (fun h19=>?_)
           ·replace hk:=dt hk h19;refine gu ?_;refine db (T.ret (fm (d6 (d6 (fm (fm (d6 (d6 (fm (d6 ?_))))))))));obtain rfl:=Option.some.inj hk;exact eh
           ·have p19:=h19; (try simp only [cY] at p19);replace hk:=dr hk h19;refine gY ?_;rw [←hn13] at hk;exact K.next (k_14+1) hk a5 (.c (.c (.c (.c .nil)))) (List.Sublist.refl _)
         ·have p15:=of_decide_eq_false h15;rw [fw a5,←hkk13] at hk; (try dsimp only at hk);refine q3N ?_;refine df ?_;refine kL ?_;rw [←hn6] at hk;refine K.pick [1,2] rfl a6 ?_;exact K.next (i_7+1) hk a5 (.c (.c .nil)) (List.Sublist.refl _)
     ·have p8:=of_decide_eq_false h8;rw [fw a5,←hkk6] at hk; (try dsimp only at hk);refine eE ?_;exact cS () hk (.c .nil) (List.Sublist.refl _)
   ·rintro _ hk;rw [←hk5] at hk; (try dsimp only at hk);refine ma ?_;have hq:=ek hk;clear hk;obtain ⟨k20,hk20,hk⟩:=hq; (try dsimp only at hk);refine da (ι:=Unit) (fun z=>[(1, .pointer (some ⟨g1,0,none⟩))]) (fun z=>[.row g1 29 [vp_0,vp_1,vp_2,vp_3], .fr F1]) (fun z=>k20 ()=some r) ?_ ?_
    ·have hq:=fB hk;clear hk;obtain ⟨f21,kk21,hf21,hkk21,hk⟩:=hq;refine fj ?_;refine T.loop (ι:=Nat) (fun z=>[(1, .pointer (some ⟨g1,0,none⟩)),(6, .int .i64 (z:Int))]) (fun z=>[.row g1 29 [vp_0,vp_1,vp_2,vp_3], .fr F1]) (fun z=>c8 f21 kk21 (p.Rules.Pairs.length - z) z ()=some r) (fun z=>p.Rules.Pairs.length - z) 0 ?_ ?_ ?_ ?_
     ·exact hk
     ·exact q4x
     ·exact eW
     ·rintro i_22 hk;refine kO ?_;refine fC ?_;refine ei ?_;refine cM (dg rfl rfl hp_1 (List.length_map _)) ?_;have hm100:p.Rules.Pairs.length≤9223372036854775807:=(List.length_map _)▸hp_1.max;refine dB ?_;refine T.cond rfl (fun h23=>?_) (fun h23=>?_)
      ·have p23:=of_decide_eq_true h23;rw [fx a5] at hk;generalize hn21:c8 f21 kk21 (p.Rules.Pairs.length - (i_22+1)) (i_22+1)=next21 at hk;rw [←hf21] at hk; (try dsimp only at hk);refine jQ ?_;refine da (ι:=Unit) (fun z=>[(1, .pointer (some ⟨g1,0,none⟩)),(6, .int .i64 (i_22:Int)),(125, .bool ((decide ((ij p ((cK p.Rules.Pairs i_22).A))<0))||(decide ((ij p ((cK p.Rules.Pairs i_22).B))<0))))]) (fun z=>[.row g1 29 [vp_0,vp_1,vp_2,vp_3], .fr F1]) (fun z=>True) ?_ ?_
       ·refine q16 ?_;refine q3Q ?_;refine cT rfl (ec 1 (i:=i_22) (j:=0) rfl rfl rfl hp_1 a5) ?_;refine dD ?_;refine c6 rfl (Wt.none) rfl rfl (cN rfl rfl rfl (fun w hw=>zbZ _ w (hw.fr (i:=1) rfl) p vp_0 cp_0 hp_0 vp_1 hp_1 vp_2 hp_2 vp_3 hp_3 ((cK p.Rules.Pairs i_22).A))) ?_;refine ms ?_;refine dA rfl rfl rfl rfl (fun h24=>?_) (fun h24=>?_)
        ·have p24:=of_decide_eq_true h24;refine TS.run 8 rfl ?_;refine jv ?_;refine gQ ?_;refine fQ ?_;exact cS () trivial (.c (.c (.b (jl h24).symm .nil))) (List.Sublist.refl _)
        ·have p24:=of_decide_eq_false h24;refine kJ ?_;refine gr ?_;refine fH ?_;refine fF ?_;refine q3Q ?_;refine cT rfl (ec 1 (i:=i_22) (j:=1) rfl rfl rfl hp_1 a5) ?_;refine dD ?_;refine c6 rfl (Wt.some) rfl rfl (cN rfl rfl rfl (fun w hw=>zbZ _ w (hw.fr (i:=1) rfl) p vp_0 cp_0 hp_0 vp_1 hp_1 vp_2 hp_2 vp_3 hp_3 ((cK p.Rules.Pairs i_22).B))) ?_;refine ms ?_;refine fQ ?_;exact cS () trivial (.c (.c (.b (io h24) .nil))) (List.Sublist.refl _)
       ·rintro _ _;refine T.cond rfl (fun h25=>?_) (fun h25=>?_)
        ·replace hk:=dt hk h25;refine i2 ?_;obtain rfl:=Option.some.inj hk;exact eh
        ·have p25:=h25; (try simp only [cY] at p25);replace hk:=dr hk h25;refine gY ?_;rw [←hn21] at hk;exact K.next (i_22+1) hk a5 (.c (.c .nil)) (List.Sublist.refl _)
      ·have p23:=of_decide_eq_false h23;rw [fw a5,←hkk21] at hk; (try dsimp only at hk);refine eE ?_;exact cS () hk (.c .nil) (List.Sublist.refl _)
    ·rintro _ hk;rw [←hk20] at hk; (try dsimp only at hk);refine ma ?_;have hq:=ek hk;clear hk;obtain ⟨k26,hk26,hk⟩:=hq; (try dsimp only at hk);refine da (ι:=Unit) (fun z=>[(1, .pointer (some ⟨g1,0,none⟩))]) (fun z=>[.row g1 29 [vp_0,vp_1,vp_2,vp_3], .fr F1]) (fun z=>k26 ()=some r) ?_ ?_
     ·have hq:=fB hk;clear hk;obtain ⟨f27,kk27,hf27,hkk27,hk⟩:=hq;refine fj ?_;refine T.loop (ι:=Nat) (fun z=>[(1, .pointer (some ⟨g1,0,none⟩)),(7, .int .i64 (z:Int))]) (fun z=>[.row g1 29 [vp_0,vp_1,vp_2,vp_3], .fr F1]) (fun z=>c8 f27 kk27 (p.Rules.Loads.length - z) z ()=some r) (fun z=>p.Rules.Loads.length - z) 0 ?_ ?_ ?_ ?_
      ·exact hk
      ·exact q4x
      ·exact eW
      ·rintro i_28 hk;refine kO ?_;refine q38 ?_;have hm130:p.Rules.Loads.length≤9223372036854775807:=(List.length_map _)▸hp_2.max;refine dB ?_;refine T.cond rfl (fun h29=>?_) (fun h29=>?_)
       ·have p29:=of_decide_eq_true h29;rw [fx a5] at hk;generalize hn27:c8 f27 kk27 (p.Rules.Loads.length - (i_28+1)) (i_28+1)=next27 at hk;rw [←hf27] at hk; (try dsimp only at hk);refine jQ ?_;refine da (ι:=Unit) (fun z=>[(1, .pointer (some ⟨g1,0,none⟩)),(7, .int .i64 (i_28:Int)),(155, .bool ((decide ((ij p ((cK p.Rules.Loads i_28).To))<0))||(decide ((ij p ((cK p.Rules.Loads i_28).From))<0))))]) (fun z=>[.row g1 29 [vp_0,vp_1,vp_2,vp_3], .fr F1]) (fun z=>True) ?_ ?_
        ·refine q16 ?_;refine q3R ?_;refine cT rfl (ec 1 (i:=i_28) (j:=0) rfl rfl rfl hp_2 a5) ?_;refine dD ?_;refine c6 rfl (Wt.none) rfl rfl (cN rfl rfl rfl (fun w hw=>zbZ _ w (hw.fr (i:=1) rfl) p vp_0 cp_0 hp_0 vp_1 hp_1 vp_2 hp_2 vp_3 hp_3 ((cK p.Rules.Loads i_28).To))) ?_;refine ms ?_;refine dA rfl rfl rfl rfl (fun h30=>?_) (fun h30=>?_)
         ·have p30:=of_decide_eq_true h30;refine TS.run 8 rfl ?_;refine jv ?_;refine gQ ?_;refine fQ ?_;exact cS () trivial (.c (.c (.b (jl h30).symm .nil))) (List.Sublist.refl _)
         ·have p30:=of_decide_eq_false h30;refine kJ ?_;refine gr ?_;refine fH ?_;refine fF ?_;refine q3R ?_;refine cT rfl (ec 1 (i:=i_28) (j:=1) rfl rfl rfl hp_2 a5) ?_;refine dD ?_;refine c6 rfl (Wt.some) rfl rfl (cN rfl rfl rfl (fun w hw=>zbZ _ w (hw.fr (i:=1) rfl) p vp_0 cp_0 hp_0 vp_1 hp_1 vp_2 hp_2 vp_3 hp_3 ((cK p.Rules.Loads i_28).From))) ?_;refine ms ?_;refine fQ ?_;exact cS () trivial (.c (.c (.b (io h30) .nil))) (List.Sublist.refl _)
        ·rintro _ _;refine T.cond rfl (fun h31=>?_) (fun h31=>?_)
         ·replace hk:=dt hk h31;refine i2 ?_;obtain rfl:=Option.some.inj hk;exact eh
         ·have p31:=h31; (try simp only [cY] at p31);replace hk:=dr hk h31;refine gY ?_;rw [←hn27] at hk;exact K.next (i_28+1) hk a5 (.c (.c .nil)) (List.Sublist.refl _)
       ·have p29:=of_decide_eq_false h29;rw [fw a5,←hkk27] at hk; (try dsimp only at hk);refine eE ?_;exact cS () hk (.c .nil) (List.Sublist.refl _)
     ·rintro _ hk;rw [←hk26] at hk; (try dsimp only at hk);refine ma ?_;have hq:=ek hk;clear hk;obtain ⟨k32,hk32,hk⟩:=hq; (try dsimp only at hk);refine da (ι:=Unit) (fun z=>[]) (fun z=>[.fr F1]) (fun z=>k32 ()=some r) ?_ ?_
      ·have hq:=fB hk;clear hk;obtain ⟨f33,kk33,hf33,hkk33,hk⟩:=hq;refine fj ?_;refine T.loop (ι:=Nat) (fun z=>[(1, .pointer (some ⟨g1,0,none⟩)),(8, .int .i64 (z:Int))]) (fun z=>[.row g1 29 [vp_0,vp_1,vp_2,vp_3], .fr F1]) (fun z=>c8 f33 kk33 (p.Rules.Caps.length - z) z ()=some r) (fun z=>p.Rules.Caps.length - z) 0 ?_ ?_ ?_ ?_
       ·exact hk
       ·exact q4x
       ·exact eW
       ·rintro i_34 hk;refine kO ?_;refine fC ?_;refine ei ?_;refine cM (dg rfl rfl hp_3 (List.length_map _)) ?_;have hm160:p.Rules.Caps.length≤9223372036854775807:=(List.length_map _)▸hp_3.max;refine dB ?_;refine T.cond rfl (fun h35=>?_) (fun h35=>?_)
        ·have p35:=of_decide_eq_true h35;rw [fx a5] at hk;generalize hn33:c8 f33 kk33 (p.Rules.Caps.length - (i_34+1)) (i_34+1)=next33 at hk;rw [←hf33] at hk; (try dsimp only at hk);refine q3u ?_;refine kJ ?_;refine gr ?_;refine fH ?_;refine fF ?_;refine cT rfl (dh (i:=i_34) rfl rfl rfl hp_3 (List.length_map _) rfl a5) ?_;refine cT rfl (gj rfl rfl hp_3 (List.length_map _) a5) ?_;refine cT rfl (ec 1 (i:=i_34) (j:=0) rfl rfl rfl hp_3 a5) ?_;refine dD ?_;refine c6 rfl (Wt.none) rfl rfl (cN rfl rfl rfl (fun w hw=>zbZ _ w (hw.fr (i:=1) rfl) p vp_0 cp_0 hp_0 vp_1 hp_1 vp_2 hp_2 vp_3 hp_3 ((cK p.Rules.Caps i_34).Station))) ?_;refine jL ?_;refine kG ?_;refine T.cond rfl (fun h36=>?_) (fun h36=>?_)
         ·have p36:=of_decide_eq_true h36;replace hk:=dt hk h36;refine i2 ?_;obtain rfl:=Option.some.inj hk;exact eh
         ·have p36:=of_decide_eq_false h36;replace hk:=dr hk h36;refine gY ?_;rw [←hn33] at hk;exact K.next (i_34+1) hk a5 (.c (.c .nil)) (List.Sublist.refl _)
        ·have p35:=of_decide_eq_false h35;rw [fw a5,←hkk33] at hk; (try dsimp only at hk);refine eE ?_;refine q2R ?_;exact lv
      ·rintro _ hk;rw [←hk32] at hk; (try dsimp only at hk);refine kE ?_;obtain rfl:=Option.some.inj hk;exact eh
end Go.Proofs.YtogbggmckmnlfaaGreatDoor
