/- Fo St Fv Sz Ka Yb: shortened and put together by squeeze.py. -/
import Derived.Test.YtgoeeefoinkepaaGreatDoorQ07
set_option maxRecDepth 100000
set_option maxHeartbeats 4000000
set_option linter.unusedVariables false
set_option linter.unusedSectionVars false
set_option linter.unusedSimpArgs false
namespace Go.Proofs.YtgoeeefoinkepaaGreatDoor
open Go.RowKit
structure FxM (F:Frz) (w:World) (M:Nat→Prop) (G:Frz) (es:HS) (w':World):Prop where
 le:F.Le G
 at_:G.At w'
 hp:Hp w M es w'
 new:∀g,G.S g→F.S g∨M g∨w.heap.size≤g
 ap:∀e∈es,∀g,e.fp g→¬G.S g
theorem zhf:dy []=fun _=>False:=by funext g;unfold dy;simp
section
variable {B w w':World}{M S0:Nat→Prop}{hs:HS}{F:FzB B M S0}
theorem dw {F0:Frz}{es:HS}{G:FzB B M S0}(hw:Hp B M (es++[Ent.fr G]) w')(hS:∀g,S0 g→F0.S g)(hle:F0.Le G.toFrz):FxM F0 B M G.toFrz es w':=by
 have h1:=hw;have h2:=List.pairwise_append.1 h1.apart;refine ⟨hle,hw.fr (i:=es.length) b2,hw.sub (List.sublist_append_left _ _),fun g hg=>(G.new g hg).imp (hS g) id,fun e he g hg hS=>?_⟩;refine h2.2.2 e he (.fr G) b2 g hg (dt.2 ⟨hS,?_⟩);exact h1.new e (List.mem_append_left _ he) g hg
theorem FxM.up {M':Nat→Prop}{G:Frz}{es:HS}(h:FxM F.toFrz w M' G es w')(hw:Hp B M hs w)(hM:∀g,M' g→M g∨B.heap.size≤g):∃G':FzB B M S0,G'.toFrz=G:=by
 refine ⟨⟨G,fun g hg hb hm=>?_,fun g hg=>?_⟩,rfl⟩
 ·rcases h.new g hg with h1|h1|h1
  ·rw [(h.le g h1).2,F.base g h1 hb hm]
  ·rcases hM g h1 with h2|h2
   ·exact absurd h2 hm
   ·omega
  ·have:=hw.size;omega
 ·rcases h.new g hg with h1|h1|h1
  ·exact F.new g h1
  ·exact .inr (hM g h1)
  ·have:=hw.size;exact .inr (.inr a6)
end
section
variable {P:Program}{n:Nat}{B D:World}{M S0:Nat→Prop}{fs:dV}{hs:HS}{o:Oper}{v:Value}
theorem fi (idx : List Nat) (bs rest : HS) {ι : Type} {F : FzB B M S0} {φ : ι → Frz → Prop} {val : ι → Value} {es : ι → HS} {c : Operand} {xs : Array Operand} {ts : Array TypeId} {f : FuncId} {fst caps : Array Value} {vs : List Value} [hE : Enters P f]
    (ho : o.op = .call { callee := .value c, args := xs, argTypes := ts }) (hc : ev fs c = some (.func (.func f) fst caps)) (hv : evs fs xs.toList = some vs) (hp : mn hs idx = some (bs ++ .fr F :: rest)) (hn : idx.Nodup)
    (C : ∀ w, Hp B M hs w → Hp B M (bs ++ .fr F :: rest) w → F.toFrz.At w → Calls P f (fst.toList ++ vs ++ caps.toList).toArray w (fun e w' => ∃ y G, φ y G ∧ e = .returned (val y) ∧ FxM F.toFrz w (dy bs) G (es y) w')) :
    Ew P n B M fs hs o (fun v hs'' => ∃ y, ∃ G : FzB B M S0, F.toFrz.Le G.toFrz ∧ φ y G.toFrz ∧ v = val y ∧ hs'' = es y ++ .fr G :: rest) :=
  Ew.call ho hc hv fun w hw => by
    have hw2 := hw.pick hp hn; have hF : F.toFrz.At w := hw2.fr (i := bs.length) b2; refine (C w hw hw2 hF).mono fun e w' ⟨y, G, hy, he, hx⟩ => ?_; have hM : ∀ g, dy bs g → M g ∨ B.heap.size ≤ g := fun g ⟨e, he, hg⟩ => hw2.new e (List.mem_append_left _ he) g hg; obtain ⟨G', rfl⟩ := hx.up hw2 hM; refine ⟨val y, es y ++ .fr G' :: rest, he, Kp.only hx.hp.only (fun g hg c => ?_), ?_, y, G', hx.le, hy, rfl, rfl⟩
    · obtain ⟨e, h1, h2⟩ := hg; exact e.nd (hw2.own e (List.mem_append_left _ h1)) g h2 c
    · (have h3 : Hp B M ((bs ++ [.fr F]) ++ rest) w := by rw [List.append_assoc]; exact hw2); have h4 := iE (es := bs ++ [.fr F]) (es' := es y ++ [.fr G']) h3 hx.hp.only (fun g _ ⟨e, he, hg⟩ => ⟨e, List.mem_append_left _ he, hg⟩) (fun e he => ?_) (fun e he g hg => ?_) ?_
      · rw [List.append_assoc] at h4; exact h4
      · rcases List.mem_append.1 he with he | he
        · exact hx.hp.own e he
        · simp at he; subst he; exact eP.2 (fun g hg => hx.at_ g hg.1)
      · rcases List.mem_append.1 he with he | he
        · rcases hx.hp.new e he g hg with ⟨f, hf, hfg⟩ | h5
          · exact .inl ⟨f, List.mem_append_left _ hf, hfg⟩
          · exact .inr h5
        · simp at he; subst he; have h6 := dt.1 hg; rcases hx.new g h6.1 with h7 | ⟨f, hf, hfg⟩ | h7
          · exact .inl ⟨.fr F, by simp, dt.2 ⟨h7, h6.2⟩⟩
          · exact .inl ⟨f, List.mem_append_left _ hf, hfg⟩
          · exact .inr h7
      · exact List.pairwise_append.2 ⟨hx.hp.apart, List.pairwise_singleton _ _, fun e he f hf g hg hfg => by
          simp at hf; subst hf
          exact hx.ap e he g hg (dt.1 hfg).1⟩
theorem fL (idx : List Nat) (bs rest : HS) {ι : Type} {F : FzB B M S0} {φ : ι → Prop} {val : ι → Value} {es : ι → HS} {c : Operand} {xs : Array Operand} {ts : Array TypeId} {f : FuncId} {fst caps : Array Value} {vs : List Value} [hE : Enters P f]
    (ho : o.op = .call { callee := .value c, args := xs, argTypes := ts }) (hc : ev fs c = some (.func (.func f) fst caps)) (hv : evs fs xs.toList = some vs) (hp : mn hs idx = some (bs ++ .fr F :: rest)) (hn : idx.Nodup)
    (C : ∀ w, Hp B M hs w → Hp B M (bs ++ .fr F :: rest) w → F.toFrz.At w → Calls P f (fst.toList ++ vs ++ caps.toList).toArray w (fun e w' => ∃ y, φ y ∧ e = .returned (val y) ∧ FxM F.toFrz w (dy bs) F.toFrz (es y) w')) :
    Ew P n B M fs hs o (fun v hs'' => ∃ y, φ y ∧ v = val y ∧ hs'' = es y ++ .fr F :: rest) :=
  Ew.call ho hc hv fun w hw => by
    have hw2 := hw.pick hp hn; have hF : F.toFrz.At w := hw2.fr (i := bs.length) b2; refine (C w hw hw2 hF).mono fun e w' ⟨y, hy, he, hx⟩ => ?_; refine ⟨val y, es y ++ .fr F :: rest, he, Kp.only hx.hp.only (fun g hg c => ?_), ?_, y, hy, rfl, rfl⟩
    · obtain ⟨e, h1, h2⟩ := hg; exact e.nd (hw2.own e (List.mem_append_left _ h1)) g h2 c
    · exact iE (es := bs) (es' := es y) hw2 hx.hp.only (fun g _ ⟨e, he, hg⟩ => ⟨e, he, hg⟩) hx.hp.own (fun e he g hg => hx.hp.new e he g hg) hx.hp.apart
end
section
variable {w:World}{bs:HS}{F:Frz}
theorem lq (hF:F.At w)(h:Hp w (dy bs) bs w)(hA:∀g,dy bs g→¬F.S g):∃(S0:Nat→Prop) (G:FzB w (dy bs) S0),G.toFrz=F∧(∀g,S0 g→F.S g)∧Hp w (dy bs) (bs++[Ent.fr G]) w:=⟨F.S,ig hF _,rfl,fun _ h=>h,lk hF h hA⟩
variable {B:World}{M S0:Nat→Prop}{G:FzB B M S0}{rest:HS}
theorem Hp.takes (h:Hp B M (bs++ .fr G :: rest) w):Hp w (dy bs) bs w∧∀g,dy bs g→¬G.toFrz.S g:=by
 have h1:Hp B M bs w:=h.sub (List.sublist_append_left _ _);refine ⟨il h1.own h1.apart,fun g ⟨e,he,hg⟩ hS=>?_⟩;exact (List.pairwise_append.1 h.apart).2.2 e he (.fr G) b2 g hg (dt.2 ⟨hS,h1.new e he g hg⟩)
theorem Hp.takes0 (h:Hp B M (bs++ .fr G :: rest) w)(h0:¬M 0)(hB:0<B.heap.size):¬dy bs 0:=fun ⟨e,he,hg⟩=>by
 rcases h.new e (List.mem_append_left _ he) 0 hg with h1|h1
 ·exact h0 h1
 ·omega
end
theorem Tab.pos {w:World}(h:Tab w):0<w.heap.size:=by
 have h0:=h 0 a7;unfold World.cell? at h0;rcases Nat.eq_zero_or_pos w.heap.size with e|e
 ·rw [Array.getElem?_eq_none a6] at h0;simp at h0
 ·exact e
abbrev st2L (k:SK)(v:Value)(L:Ws)(b:Bool):HS:=[.row k.sp 145 [.pointer (some ⟨k.tp,0,none⟩),v, .bool b], .sl v 98 1 k.Y.n (Ws.cells L)]
abbrev eu (k:SK)(v:Value)(L:Ws)(b:Bool):Ent:= .bag (st2L k v L b)
def TbF (F:Frz)(k:SK):Prop:=∀g,jx k.w0 g→F.S g∧F.w.heap[g]?=k.w0.heap[g]?
theorem TbF.mono {F G:Frz}{k:SK}(h:TbF F k)(hle:F.Le G):TbF G k:=fun g hg=>⟨(hle g (h g hg).1).1,(hle g (h g hg).1).2.trans (h g hg).2⟩
theorem TbF.fz {F:Frz}{k:SK}{w:World}(h:TbF F k)(hF:F.At w):Fz k.w0 w:=fun g hg=>(hF g (h g hg).1).trans (h g hg).2
theorem zfN:∀L:Ws,L.flatMap Le=Ws.cells L
 | []=>rfl
 |b :: r=>by
  rw [List.flatMap_cons,zfN r];rfl
section
variable {p:GProblem}{m:List GDomain×Bool}{k:SK}{v:Value}{L:Ws}{b:Bool}{w w':World}{F F0:Frz}
theorem SI.gl (h:SI p m k L)(gl:GL):SI p m { k with gl:=gl } L:=⟨h.pb,h.tb,h.len,h.good,h.bad⟩
theorem SI.sp (h:SI p m k L)(sp:Nat):SI p m { k with sp:=sp } L:=⟨h.pb,h.tb,h.len,h.good,h.bad⟩
theorem SI.n512 (h:SI p m k L):k.Y.n≤512:=h.ok.n
theorem zcy {g:Nat}{t:TypeId}{l:List Value}{i:Nat}{x:Value}(h:(Ent.row g t l).ok w)(hx:l[i]?=some x):w.cell? ⟨g,i,none⟩=some x:=by rw [jK (cV.1 h)];exact hx
theorem zgv (h:SI p m k L)(hok:(eu k v L b).ok w)(hf:Fz k.w0 w)(htab:Tab w):StateAt w k.sp k.Y L b:=by
 have h1:=(c8.1 hok).1;have hr:=h1 (.row k.sp 145 [.pointer (some ⟨k.tp,0,none⟩),v, .bool b]) b2;have hl:=cS.1 (h1 (.sl v 98 1 k.Y.n (Ws.cells L)) b2);refine ⟨htab,⟨k.tp,zcy hr rfl,h.tb.later hf⟩,⟨v,zcy hr rfl,?_⟩,h.len,zcy hr rfl⟩;refine SlOf.own (enc:=Le) (size:=1) (fun _=>rfl) (xs:=L) (e:=98) (k:=k.Y.n) ?_ h.len.symm;rw [zfN];exact hl
theorem zog (h:SI p m k L)(hok:(eu k v L b).ok w)(hn:0<k.Y.n):∃gl:GL,v=sG gl k.Y.n:=by
 have h1:=(c8.1 hok).1;have hl:=cS.1 (h1 (.sl v 98 1 k.Y.n (Ws.cells L)) b2);rcases hl.2 with ⟨_,h0⟩|⟨g,cap,cur,rfl,_⟩
 ·omega
 ·exact ⟨⟨g,cap⟩,rfl⟩
theorem znB {gl:GL}(hok:(eu k (sG gl k.Y.n) L b).ok w)(hf:Fz k.w0 w)(hap:∀g,(eu k (sG gl k.Y.n) L b).fp g→¬jx k.w0 g):(iW { k with gl:=gl } L b).ok w:=by
 obtain ⟨h1,h2⟩:=c8.1 hok;refine c8.2 ⟨fun e he=>?_,?_⟩
 ·simp at he;rcases he with rfl|rfl|rfl
  ·exact h1 _ b2
  ·exact h1 _ b2
  ·exact fc.2 hf
 ·show ([dA k.sp gl k.tp k.Y.n b,eH gl k.Y.n L]++[Ent.fz k.w0]).Pairwise _
  refine List.pairwise_append.2 ⟨h2,List.pairwise_singleton _ _,fun e he f hf' g hg hfg=>?_⟩;simp only [List.mem_singleton] at hf';subst hf';exact hap g (c6.2 ⟨e,he,hg⟩) (eM.1 hfg)
theorem zoj {gl:GL}{L':Ws}{b':Bool}(hf:Fz k.w0 w)(h:Hp w (iW { k with gl:=gl } L b).fp [iW { k with gl:=gl } L' b'] w'):Hp w (eu k (sG gl k.Y.n) L b).fp [eu k (sG gl k.Y.n) L' b'] w':=by
 have hok:=h.own (iW { k with gl:=gl } L' b') b2;obtain ⟨h1,h2⟩:=c8.1 hok;have h3:([dA k.sp gl k.tp k.Y.n b',eH gl k.Y.n L']++[Ent.fz k.w0]).Pairwise fun e f=>∀g,e.fp g→¬f.fp g:=h2;obtain ⟨a1,a2,a3⟩:=List.pairwise_append.1 h3;have hf':Fz k.w0 w':=fc.1 (h1 (.fz k.w0) b2);have hsp:∀g,(eu k (sG gl k.Y.n) L' b').fp g↔∃e∈[dA k.sp gl k.tp k.Y.n b',eH gl k.Y.n L'],e.fp g:=fun g=>c6;have hfp:∀g,(eu k (sG gl k.Y.n) L b).fp g↔∃e∈[dA k.sp gl k.tp k.Y.n b,eH gl k.Y.n L],e.fp g:=fun g=>c6
 have hE:∀g,(iW { k with gl:=gl } L b).fp g↔(eu k (sG gl k.Y.n) L b).fp g∨jx k.w0 g:=fun g=>by
  rw [hfp,c6];simp only [List.mem_cons,List.not_mem_nil,or_false,exists_eq_or_imp,exists_eq_left,eM];exact or_assoc.symm
 refine ⟨h.os,h.tape,h.output,h.size,fun g hg hn=>?_,fun e he=>?_,fun e he g hg=>?_,List.pairwise_singleton _ _⟩
 ·by_cases hc:jx k.w0 g
  ·rw [hf' g hc,hf g hc]
  ·exact h.base g hg (fun hh=>((hE g).1 hh).elim hn hc)
 ·simp at he;subst he;exact q4B
 ·simp at he;subst he;have hg':=(hsp g).1 hg;obtain ⟨x,hx,hxg⟩:=hg';rcases h.new (iW { k with gl:=gl } L' b') b2 g (c6.2 ⟨x,by simp at hx ⊢;rcases hx with h|h <;> simp [h],hxg⟩) with h4|h4
  ·rcases (hE g).1 h4 with h5|h5
   ·exact .inl h5
   ·exact absurd (eM.2 h5) (a3 x hx (.fz k.w0) b2 g hxg)
  ·exact .inr h4
theorem zeB (h:SI p m k L)(tf:TbF F k)(hok:(eu k v L (!m.2)).ok w)(hF:F.At w)(htab:Tab w):Calls Tryz.prog 118 #[.pointer (some ⟨k.sp,0,none⟩)] w fun e w'=>e= .returned (.bool (!m.2))∧Below w.heap.size w w':=zix (zgv h hok (tf.fz hF) htab)
theorem zkC (h:SI p m k L)(tf:TbF F k)(hok:(eu k v L (!m.2)).ok w)(hF:F.At w)(htab:Tab w):Calls Tryz.prog 98 #[.pointer (some ⟨k.sp,0,none⟩)] w fun e w'=>∃(y:Value×List (List Value)) (G:Frz),SlD cJ G y.1 2 y.2 m.1∧e= .returned y.1∧Fx F w G w':=zjj hF h (zgv h hok (tf.fz hF) htab)
theorem zmm (h:SI p m k L)(tf:TbF F k)(hok:(eu k v L (!m.2)).ok w)(hF:F.At w)(htab:Tab w):Calls Tryz.prog 139 #[.pointer (some ⟨k.sp,0,none⟩)] w fun e w'=>∃(y:Value) (G:Frz),SlC G y 2 ((gp m).map cG)∧e= .returned y∧Fx F w G w':=zkF hF h (zgv h hok (tf.fz hF) htab)
theorem zop (h:SI p m k L)(tf:TbF F k)(hok:(eu k v L (!m.2)).ok w)(hF:F.At w)(htab:Tab w)(c:GChoice):Calls Tryz.prog 140 #[.pointer (some ⟨k.sp,0,none⟩), .agg [.int .i64 c.Station, .int .i64 c.Channel].toArray] w fun e w'=>e= .returned (.bool (zgC m c))∧Below w.heap.size w w':=znY h (zgv h hok (tf.fz hF) htab) c
theorem zni (kp : Bool) (num : FuncId) (h : SI p m k L) (tf : TbF F k) (hok : (eu k v L (!m.2)).ok w) (hF : F.At w) (hap : ∀ g, (eu k v L (!m.2)).fp g → ¬ F.S g) (htab : Tab w) {fuel : Nat} (c : GChoice) {r : (List GDomain × Bool) × Int} (hr : mm fuel p m kp c = some r)
    (hE : (gv k.Y (!m.2) c.b).2 ≠ 0 → Calls Tryz.prog num #[.pointer (some ⟨k.sp, 0, none⟩), .agg (Ch.cells c.b).toArray] w fun e w' => e = .returned (.int .i64 (gv k.Y (!m.2) c.b).2) ∧ Below w.heap.size w w')
    (hO : ∀ gl : GL, SI p m { k with gl := gl } L → (iW { k with gl := gl } L (!m.2)).ok w → Calls Tryz.prog num #[.pointer (some ⟨k.sp, 0, none⟩), .agg [.int .i64 c.Station, .int .i64 c.Channel].toArray] w fun e w' => ∃ L', SI p r.1 { k with gl := gl } L' ∧ e = .returned (.int .i64 r.2) ∧ Hp w (iW { k with gl := gl } L (!m.2)).fp [iW { k with gl := gl } L' (!r.1.2)] w') :
    Calls Tryz.prog num #[.pointer (some ⟨k.sp, 0, none⟩), .agg [.int .i64 c.Station, .int .i64 c.Channel].toArray] w fun e w' => ∃ L', SI p r.1 k L' ∧ e = .returned (.int .i64 r.2) ∧ Hp w (eu k v L (!m.2)).fp [eu k v L' (!r.1.2)] w' := by
  have hfit := zlr h (c := c)
  have keepE : ∀ {n : Int}, r = (m, n) → (gv k.Y (!m.2) c.b).2 = n → n ≠ 0 → Calls Tryz.prog num #[.pointer (some ⟨k.sp, 0, none⟩), .agg [.int .i64 c.Station, .int .i64 c.Channel].toArray] w fun e w' => ∃ L', SI p r.1 k L' ∧ e = .returned (.int .i64 r.2) ∧ Hp w (eu k v L (!m.2)).fp [eu k v L' (!r.1.2)] w' := by
    intro n hr hc hn; subst hr;refine (hE (by rw [hc]; exact hn)).mono ?_; rintro e w' ⟨rfl, hb⟩; exact ⟨L, h, by rw [hc], (Hp.start hok).below hb⟩
  by_cases hn : 0 < k.Y.n
  · obtain ⟨gl, rfl⟩ := zog h hok hn;refine (hO gl (h.gl gl) (znB hok (tf.fz hF) (fun g hg hc => hap g hg (tf g hc).1))).mono ?_; rintro e w' ⟨L', h1, rfl, h2⟩; exact ⟨L', ⟨h1.pb, h1.tb, h1.len, h1.good, h1.bad⟩, rfl, zoj (tf.fz hF) h2⟩
  · unfold mm at hr
    cases hg : j3 c with
    | false => rw [hg] at hr hfit; exact keepE (Option.some.inj hr).symm (by rw [hfit]; rfl) a7
    | true =>
      rw [hg] at hr hfit; simp only [Bool.not_true, cond_false] at hr hfit
      cases hm : m.2 with
      | false => rw [hm] at hr hfit; rw [← hm]; exact keepE (Option.some.inj hr).symm (by rw [hm]; rw [hfit]; rfl) a7
      | true =>
        rw [hm] at hr hfit; simp only [Bool.not_true, cond_false] at hr hfit
        cases hh : fS p c.Station with
        | false => rw [hh] at hr hfit; rw [← hm]; exact keepE (Option.some.inj hr).symm (by rw [hm, Bool.not_true, hfit]; rfl) a7
        | true =>
          obtain ⟨P, rfl, _, hY⟩ := h.pb; obtain ⟨i, hi, _⟩ := (zdv hY).1 hh; omega
theorem zkZ (h : SI p m k L) (tf : TbF F k) (hok : (eu k v L (!m.2)).ok w) (hF : F.At w) (hap : ∀ g, (eu k v L (!m.2)).fp g → ¬ F.S g) (htab : Tab w) {fuel : Nat} (hf : 100000 ≤ fuel) (c : GChoice) {r : (List GDomain × Bool) × Int} (hr : mm fuel p m true c = some r) :
    Calls Tryz.prog 119 #[.pointer (some ⟨k.sp, 0, none⟩), .agg [.int .i64 c.Station, .int .i64 c.Channel].toArray] w fun e w' => ∃ L', SI p r.1 k L' ∧ e = .returned (.int .i64 r.2) ∧ Hp w (eu k v L (!m.2)).fp [eu k v L' (!r.1.2)] w' := by
  obtain ⟨P, hP, hok', hY⟩ := h.pb; exact zni true _ h tf hok hF hap htab c hr (fun he => zg5 k.sp k.Y L (!m.2) c.b w (zgv h hok (tf.fz hF) htab) (k.Y.ix512 h.ok hY.ixn) he) (fun gl h1 h2 => zls h1 h2 htab hf c hr)
theorem zkL (h : SI p m k L) (tf : TbF F k) (hok : (eu k v L (!m.2)).ok w) (hF : F.At w) (hap : ∀ g, (eu k v L (!m.2)).fp g → ¬ F.S g) (htab : Tab w) {fuel : Nat} (hf : 100000 ≤ fuel) (c : GChoice) {r : (List GDomain × Bool) × Int} (hr : mm fuel p m false c = some r) :
    Calls Tryz.prog 122 #[.pointer (some ⟨k.sp, 0, none⟩), .agg [.int .i64 c.Station, .int .i64 c.Channel].toArray] w fun e w' => ∃ L', SI p r.1 k L' ∧ e = .returned (.int .i64 r.2) ∧ Hp w (eu k v L (!m.2)).fp [eu k v L' (!r.1.2)] w' := by
  obtain ⟨P, hP, hok', hY⟩ := h.pb; exact zni false _ h tf hok hF hap htab c hr (fun he => zgR k.sp k.Y L (!m.2) c.b w (zgv h hok (tf.fz hF) htab) (k.Y.ix512 h.ok hY.ixn) he) (fun gl h1 h2 => zlJ h1 h2 htab hf c hr)
theorem zob (hF:F0.At w)(h:SI p m k L)(hw:Hp w (fun _=>False) [iW k L b] w'):∃G,TbF G k∧FxM F0 w (dy []) G [eu k (sG k.gl k.Y.n) L b] w':=by
 have hok:=hw.own (iW k L b) b2;obtain ⟨h1,h2⟩:=c8.1 hok;have h3:([dA k.sp k.gl k.tp k.Y.n b,eH k.gl k.Y.n L]++[Ent.fz k.w0]).Pairwise fun e f=>∀g,e.fp g→¬f.fp g:=h2;obtain ⟨a1,a2,a3⟩:=List.pairwise_append.1 h3;have hf':Fz k.w0 w':=fc.1 (h1 (.fz k.w0) b2);have hb:=hw.isBelow;have hF':=hF.below hb;have hnew:∀g,jx k.w0 g→w.heap.size≤g:=fun g hg=>(hw.new (iW k L b) b2 g (c6.2 ⟨.fz k.w0,by simp,eM.2 hg⟩)).elim (fun h=>h.elim) id
 have hnew2:∀g,(eu k (sG k.gl k.Y.n) L b).fp g→w.heap.size≤g:=fun g hg=>by
  obtain ⟨e,he,hg⟩:=c6.1 hg;exact (hw.new (iW k L b) b2 g (c6.2 ⟨e,by simp at he ⊢;rcases he with h|h <;> simp [h],hg⟩)).elim (fun h=>h.elim) id
 refine ⟨⟨fun g=>F0.S g∨jx k.w0 g,w',fun g hg=>?_⟩,fun g hg=>⟨.inr hg,hf' g hg⟩,⟨fun g hg=>⟨.inl hg,hF' g hg⟩,fun g _=>rfl,?_,fun g hg=>hg.imp id (fun h=> .inr (hnew g h)),fun e he g hg hS=>?_⟩⟩
 ·rcases hg with hg|hg
  ·exact hF'.cb hg
  ·obtain ⟨cs,t,q,e⟩:=hg;exact ⟨cs,t,q,(hf' g ⟨cs,t,q,e⟩).trans e⟩
 ·rw [zhf];refine ⟨hw.os,hw.tape,hw.output,hw.size,hw.base,fun e he=>?_,fun e he g hg=>?_,List.pairwise_singleton _ _⟩
  ·simp at he;subst he;exact q4B
  ·simp at he;subst he;exact .inr (hnew2 g hg)
 ·simp at he;subst he;rcases hS with hS|hS
  ·have:=(hF.cb hS).lt;have:=hnew2 g hg;omega
  ·obtain ⟨e,he,hg⟩:=c6.1 hg;exact a3 e he (.fz k.w0) b2 g hg (eM.2 hS)
theorem zoP {vd vp vl vc : Value} {cd : List (List Value)} (hF0 : F0.At w) (h : PbF F0 vd cd vp vl vc p) (htab : Tab w) (hv : eF p = true) {fuel : Nat} (hf : 100000 ≤ fuel) {r : List GDomain × Bool} (hr : za4 fuel p p.Domains = some r) :
    Calls Tryz.prog 67 #[.agg [vd, vp, vl, vc].toArray] w fun e w' => ∃ (y : SK × Value × Ws) (G : Frz), (SI p r y.1 y.2.2 ∧ TbF G y.1) ∧ e = .returned (.tuple #[.pointer (some ⟨y.1.sp, 0, none⟩), .int .i64 0]) ∧ FxM F0 w (dy []) G [eu y.1 y.2.1 y.2.2 (!r.2)] w' := by
  refine (zos hF0 h htab hv hf hr).mono ?_; rintro e w' ⟨⟨k, L⟩, hs, rfl, hw⟩; obtain ⟨G, h1, h2⟩ := zob hF0 hs hw; exact ⟨(k, sG k.gl k.Y.n, L), G, ⟨hs, h1⟩, rfl, h2⟩
theorem znX (h : SI p m k L) (tf : TbF F k) (hok : (eu k v L (!m.2)).ok w) (hF : F.At w) (htab : Tab w) : Calls Tryz.prog 117 #[.pointer (some ⟨k.sp, 0, none⟩)] w fun e w' => ∃ (y : SK × Value) (G : Frz), (SI p m y.1 L ∧ TbF G y.1) ∧ e = .returned (.pointer (some ⟨y.1.sp, 0, none⟩)) ∧ FxM F w (dy []) G [eu y.1 y.2 L (!m.2)] w' := by
  have hs := zgv h hok (tf.fz hF) htab; have h1 := (c8.1 hok).1; have hr := h1 (.row k.sp 145 [.pointer (some ⟨k.tp, 0, none⟩), v, .bool (!m.2)]) b2; have hl := h1 (.sl v 98 1 k.Y.n (Ws.cells L)) b2; have hn := h.n512
  -- what is there is frozen for the time of the call
  have hC : SlC (Frz.all w) v 1 (L.map Le) := by
    have hl2 := hl; rw [← zfN] at hl2; exact (iF (G := Frz.all w) hl2 rfl (fun g _ hc => hc)).toF h.len.symm (fun _ => rfl)
  haveI := hC.oneC; refine Calls.mono (R := fun e w' => ∃ (y : Nat × Value), OneC y.2 ∧ e = .returned (.pointer (some ⟨y.1, 0, none⟩)) ∧ Hp w (fun _ => False) [.row y.1 145 [.pointer (some ⟨k.tp, 0, none⟩), y.2, .bool (!m.2)], .sl y.2 98 1 k.Y.n (Ws.cells L)] w') ?_ ?_
  · obtain ⟨S0, F1, hF1, hS0, hp0⟩ := fX (jr w); rw [← hF1] at hC;refine dB (M := fun _ => False) (hs := [.fr F1]) Tryz.func117 rfl rfl rfl hp0 ?_;refine jB ?_;refine df (cL rfl rfl rfl (fun w' hw => zbY k.sp k.Y L (!m.2) w' (hs.kept hw))) ?_; rintro _ _ ⟨rfl, rfl⟩;refine mJ ?_;refine ks ?_;refine dF (sN 0 8 (sN 9 4 (.eff 8 (.still 13 (.eff 14 (.still 15 .done)))))) [.fr F1] a8 (List.Sublist.refl _) ?_;refine jg ?_;refine cN rfl (dM rfl rfl (zcy (i := 0) hr rfl) (fun h => h)) ?_;refine jg ?_;refine cN rfl (dM rfl rfl (zcy (i := 1) hr rfl) (fun h => h)) ?_;refine jg ?_;refine cN rfl (dM rfl rfl (zcy (i := 2) hr rfl) (fun h => h)) ?_;refine TS.slNil 98 1 ?_;refine dx ?_;refine cQ rfl (Wt.none) rfl rfl (lG 0 1 (F := F1) (k' := k.Y.n) (l' := Ws.cells L) (zhE (enc := Le) (fun x => inferInstanceAs (OneCs [U x]))) rfl rfl rfl rfl rfl hC (by rw [List.length_map, h.len]; omega) (by rw [List.nil_append, ← List.flatMap_def, zfN]) a6 a7) ?_; rintro v' _ ⟨hv', rfl⟩; refine ⟨fun w hw => hw.sub (List.sublist_cons_self _ _), ?_⟩;refine q1X ?_;refine cQ rfl (Wt.none) rfl rfl (dv) ?_; rintro _ _ ⟨g, rfl, rfl⟩; refine ⟨fun w hw => hw.sub Sx, ?_⟩;refine q3V ?_; exact cU rfl rfl (fun w' hw => ⟨(g, v'), hv', rfl, hw.sub Sx⟩)
  · rintro e w' ⟨⟨g, v'⟩, hv', rfl, hw⟩; refine ⟨({ k with sp := g }, v'), F, ⟨h.sp g, tf⟩, rfl, ⟨Frz.Le.refl _, hF.below hw.isBelow, ?_, fun g hg => .inl hg, fun e he q hq hS => ?_⟩⟩
    · rw [zhf]; exact ziQ hw
    · simp at he; subst he; have h2 := (ziQ hw).new _ b2 q hq; have := (hF.cb hS).lt; rcases h2 with h2 | h2
      · exact h2
      · omega
end
abbrev vI (z:Int):Value:= .int .i64 z
abbrev Vec (n:Nat)(α:Type):={ l:List α // l.length=n }
def Vec.fill {α:Type}(n:Nat)(v:α):Vec n α:=⟨List.replicate n v,List.length_replicate⟩
instance {n:Nat} {α:Type} [Inhabited α]:Inhabited (Vec n α):=⟨Vec.fill n default⟩
def Vec.get {n:Nat}{α:Type}[Inhabited α](x:Vec n α)(i:Nat):α:=cH x.1 i
def Vec.put {n:Nat}{α:Type}(x:Vec n α)(i:Nat)(v:α):Vec n α:=⟨x.1.set i v,by rw [List.length_set,x.2]⟩
theorem iM {α:Type}[Inhabited α]{n i:Nat}{v:α}(h:i<n):(Vec.fill n v).get i=v:=by
 unfold Vec.get Vec.fill;rw [d4 (by simpa using h)];simp
theorem fR {α:Type}[Inhabited α]{n i j:Nat}{x:Vec n α}{v:α}(h:i<n):(x.put i v).get j=if j=i then v else x.get j:=by
 unfold Vec.get Vec.put; (have hx:i<x.1.length:=by rw [x.2];exact h);unfold cH;rw [List.getD_eq_getElem?_getD,List.getD_eq_getElem?_getD];by_cases e:j=i
 ·rw [if_pos e,e,List.getElem?_set_self hx];rfl
 ·rw [if_neg e,List.getElem?_set_ne (fun h=>e h.symm)]
section
variable {α:Type}[Inhabited α]{n i j m p:Nat}{x:Vec n α}{f:α→Value}{a b l r:List Value}{v:Value}
theorem Vec.len:(x.1.map f).length=n:=by rw [List.length_map,x.2]
theorem Vec.cell (h:i<n):(x.1.map f)[i]?=some (f (x.get i)):=by
 unfold Vec.get;rw [List.getElem?_map,List.getElem?_eq_getElem (by rw [x.2];exact h),d4 (by rw [x.2];exact h)];rfl
theorem Vec.upd {v:α}(h:i<n):(x.1.map f).set i (f v)=(x.put i v).1.map f:=by
 show _=(x.1.set i v).map f
 rw [List.map_set]
theorem mF (hp:p=i)(h:l[i]?=some v):l[p]?=some v:=by rw [hp];exact h
theorem zi3 {u:Value}(hp:p=i)(h:l.set i u=r):l.set p u=r:=by rw [hp];exact h
theorem zlq (ha:a.length=m)(hi:i<m)(h:a[i]?=some v):(a++b)[i]?=some v:=by
 rw [List.getElem?_append_left a6];exact h
theorem zdf (ha:a.length=m)(h:b[j]?=some v):(a++b)[m+j]?=some v:=by
 rw [List.getElem?_append_right a6,ha,show m+j - m=j by omega];exact h
theorem zjM {u:Value}(ha:a.length=m)(h:b.set j u=r):(a++b).set (m+j) u=a++r:=by
 rw [List.set_append_right _ _ a6,ha,show m+j - m=j by omega,h]
theorem zfr {k:Nat}(ha:a.length=m)(hb:b.length=k):(a++b).length=m+k:=by rw [List.length_append,ha,hb]
instance OneCs.vmap {β:Type} {g:β→Value} {y:List β} [h:∀z,OneC (g z)]:OneCs (y.map g):=⟨fun z hz=>by obtain ⟨b,_,rfl⟩:=List.mem_map.1 hz;exact (h b).h⟩
instance OneCs.cat [h:OneCs a] [k:OneCs b]:OneCs (a++b):=⟨fun z hz=>(List.mem_append.1 hz).elim (h.h z) (k.h z)⟩
end
section
variable {P:Program}{n:Nat}{B D:World}{M:Nat→Prop}{fs:dV}{hs:HS}{o:Oper}{v:Value}
theorem mA {t:TypeId}{z l:List Value}[hT:TyZ P t z](ho:o.op= .alloc t)(hz:z=l):Ew P n B M fs hs o (fun v hs'=>∃g,v= .pointer (some ⟨g,0,none⟩)∧hs'= .row g t l :: hs):=by
 subst hz;exact Ew.alloc ho
theorem zhM {place:Nat→Option (Nat×Nat)}{l l1 m:List Value}{l2:Array Value}{i off size:Nat}{v:Value}{ps:List (Nat×Value)}(hp:place i=some (off,size))(hc:v.cells=m.toArray)(hs:m.length=size)(h1:zdF l off m=l1)(hb:off+m.length≤l.length)(h2:Instr.fill place l1.toArray ps=some l2):Instr.fill place l.toArray ((i,v) :: ps)=some l2:=by
 obtain ⟨l2'⟩:=l2;haveI:Place place i off size:=⟨hp⟩;haveI:Cells v m:=⟨hc⟩;haveI:Splice l off m l1:=⟨h1,hb⟩;haveI:Fill place l1 ps l2':=⟨h2⟩;haveI:LenIs m size:=⟨hs⟩;exact (inferInstance:Fill place l ((i,v) :: ps) l2').h
theorem zkc {l r:List Value}{off:Nat}{v:Value}(h:off<l.length)(hr:l.set off v=r):zdF l off [v]=r:=by
 rw [←hr];exact zfl l off v h
theorem zko {a b m:List Value}(h:a.length=m.length):zdF (a++b) 0 m=m++b:=by
 simp [zdF,←h]
theorem Yv.cf {t:TypeId}{ps:Array (Nat×Operand)}{vs:List (Nat×Value)}{z l0 l:List Value}[hS:TySt P t][hZ:TyZ P t z](ho:o.op= .build t ps)(hv:evPs fs ps.toList=some vs)(hz:z=l0)(hF:Instr.fill (zgo P t) l0.toArray vs=some l.toArray):Yv P n B M fs hs o (.agg l.toArray):=by
 subst hz;haveI:Fill (zgo P t) z vs l:=⟨hF⟩;exact Yv.build ho hv
end
section
variable {B:World}{M S0:Nat→Prop}{hs:HS}{F:FzB B M S0}
def FzB.addE {w:World}(F:FzB B M S0)(hF:F.toFrz.At w)(T:Nat→Prop)(hc:∀g,T g→Cb w g)(hb:∀g,T g→M g∨B.heap.size≤g):FzB B M S0 where
 S k:=F.S k∨T k
 w:=w
 c k hk:=hk.elim (fun h=>hF.cb h) (hc k)
 base k hk h1 h2:=by
  rcases hk with h|h
  ·rw [hF k h,F.base k h h1 h2]
  ·rcases hb k h with h3|h3
   ·exact absurd h3 h2
   ·omega
 new k hk:=hk.elim (F.new k) (fun h=> .inr (hb k h))
theorem Hp.freezeE {w : World} {i j : Nat} {e : Ent} (hw : Hp B M hs w) (hij : i ≠ j) (hi : hs[i]? = some (.fr F)) (hj : hs[j]? = some e) (hc : ∀ g, e.fp g → Cb w g) :
    ∃ G : FzB B M S0, F.toFrz.Le G.toFrz ∧ (∀ w', G.toFrz.At w' → e.ok w') ∧ Hp B M ((hs.set i (.fr G)).eraseIdx j) w := by
  have hF := hw.fr hi; have hb := hw.new e (List.mem_of_getElem? hj); refine ⟨F.addE hF e.fp hc hb, fun k hk => ⟨.inl hk, hF k hk⟩, fun w' hw' => e.loc (fun g hg => hw' g (.inr hg)) (hw.get hj), ?_⟩; obtain ⟨r, h1, h2⟩ := zet (a' := .fr (F.addE hF e.fp hc hb)) hij hi hj;refine Hp.perm ?_ h2.symm; refine gY (hw.perm h1) ?_ ?_ (List.pairwise_singleton _ _)
  · intro x hx; simp at hx; subst hx; exact eP.2 (fun k hk => rfl)
  · intro x hx k hk; simp at hx; subst hx; have h := dt.1 hk; rcases h.1 with h3 | h3
    · exact ⟨_, by simp, dt.2 ⟨h3, h.2⟩⟩
    · exact ⟨e, by simp, h3⟩
end
theorem zoB {k:SK}{v:Value}{L:Ws}{b:Bool}{w:World}(h:(eu k v L b).ok w):∀g,(eu k v L b).fp g→Cb w g:=fun g hg=>by
 have h1:=(c8.1 h).1;obtain ⟨e,he,hg⟩:=c6.1 hg;simp at he;rcases he with rfl|rfl
 ·have:=cO.1 hg;subst this;exact ⟨_,_,_,cV.1 (h1 _ (List.mem_cons_self ..))⟩
 ·have h2:=cY.1 hg;rcases (cS.1 (h1 (.sl v 98 1 k.Y.n (Ws.cells L)) b2)).2 with ⟨rfl,_⟩|⟨g',cap,cur,rfl,_,hgg,_⟩
  ·cases h2
  ·simp [Value.ownBlock] at h2;subst h2;exact ⟨_,_,_,hgg⟩
def SzF (F:Frz)(k:SK)(v:Value)(L:Ws)(b:Bool):Prop:=∀w,F.At w→(eu k v L b).ok w
theorem SzF.mono {F G:Frz}{k:SK}{v:Value}{L:Ws}{b:Bool}(h:SzF F k v L b)(hle:F.Le G):SzF G k v L b:=fun w hw=>h w (hw.le hle)
theorem Hp.freezeSt {B w : World} {M S0 : Nat → Prop} {hs : HS} {F : FzB B M S0} {i j : Nat} {k : SK} {v : Value} {L : Ws} {b : Bool} (hw : Hp B M hs w) (hij : i ≠ j) (hi : hs[i]? = some (.fr F)) (hj : hs[j]? = some (eu k v L b)) :
    ∃ G : FzB B M S0, (F.toFrz.Le G.toFrz ∧ SzF G.toFrz k v L b) ∧ Hp B M ((hs.set i (.fr G)).eraseIdx j) w := by
  obtain ⟨G, h1, h2, h3⟩ := hw.freezeE hij hi hj (zoB (hw.get hj)); exact ⟨G, ⟨h1, h2⟩, h3⟩
section
variable {P:Program}{n:Nat}{B:World}{M:Nat→Prop}{fs:dV}{hs:HS}{o:Oper}
theorem jA {w:World}{v:Value}{e:TypeId}{size k:Nat}{l:List Value}(h:(Ent.sl v e size k l).ok w):k≤9223372036854775807:=by
 have ho:=cS.1 h;rcases ho.2 with ⟨rfl,h0⟩|⟨g,cap,cur,rfl,hb,hg,hnc,hcm,hcs,htake⟩
 ·omega
 ·unfold maxLen at hcm;omega
theorem Ew.bC {t e:TypeId}{size bytes:Nat}{z:List Value}[hT:TyE P t e size bytes z](ho:o.op= .buildSlice t 0 #[]):Ew P n B M fs hs o (fun v hs'=>∃g,v= .slice (some ⟨g,0,none⟩) 0 0∧hs'= .sl (.slice (some ⟨g,0,none⟩) 0 0) e size 0 [] :: hs):=gh fun a w ha hp=>by
 obtain ⟨i,zv,hU,hi,hz,hzc,rfl,rfl,hzs,hpos⟩:=hT.get;refine ⟨_,w.alloc (.cells #[] e),_,?_,Kp.alloc w _,hp.fresh ((Below.refl _ _).alloc (Nat.le_refl _) _) (cS.2 (World.ownsRow_made (base:=0) (e:=e) (size:=i.size) w #[] 0 (Nat.zero_le _) (by unfold maxLen;omega) b2)) (fun g hg=>?_),w.heap.size,rfl,rfl⟩
 ·unfold execOp;simp [ho,Instr.buildSlice,underlying,hU,sizeOf,typeInfo,hi,Instr.fill,newRow];rw [show Array.range 0= #[] from by simp [Array.range]];simp
 ·have:=cY.1 hg;simp [Value.ownBlock] at this;omega
end
section
variable {Fe:Fence}[hFe:Calm Fe]{P:Program}{n:Nat}{B D:World}{M S0:Nat→Prop}{Q:Exit→Act→World→Prop}{fs:dV}{hs:HS}{ops:Array Oper}
theorem gj {l:List Oper}{v:Value}{e:TypeId}{size k:Nat}{cs:List Value}(j:Nat)(hj:hs[j]?=some (.sl v e size k cs))(h:OneC v→k≤9223372036854775807→TL Fe P n B D M ops Q l fs hs):TL Fe P n B D M ops Q l fs hs:=
 kE (ι:=Unit) (φ:=fun _=>OneC v∧k≤9223372036854775807) (hs':=fun _=>hs) (fun w hw=>⟨(),⟨jG (hw.get hj),jA (hw.get hj)⟩,hw⟩) (fun _ hx=>h hx.1 hx.2)
theorem lx {hs0:HS}{r:Ord}{v:Value}{e:TypeId}{size k:Nat}{cs:List Value}(j:Nat)(hj:hs[j]?=some (.sl v e size k cs))(h:OneC v→k≤9223372036854775807→TS Fe P n B D M ops Q hs0 r fs hs):TS Fe P n B D M ops Q hs0 r fs hs:=
 i5 (ι:=Unit) (φ:=fun _=>OneC v∧k≤9223372036854775807) (hs':=fun _=>hs) (fun w hw=>⟨(),⟨jG (hw.get hj),jA (hw.get hj)⟩,hw⟩) (fun _ hx=>h hx.1 hx.2)
end
structure Bor (F:Frz) (E:Ent) (w:World) (F':Frz):Prop where
 le:F.Le F'
 at_:F'.At w
 new:∀g,F'.S g→F.S g∨E.fp g
section
variable {B w:World}{M S0:Nat→Prop}{hs bs rest:HS}{F:FzB B M S0}{G:FzB B M S0}{F':Frz}
theorem Hp.bor {i j:Nat}{v:Value}{e:TypeId}{size k:Nat}{l:List Value}(hw:Hp B M hs w)(hi:hs[i]?=some (.fr F))(hj:hs[j]?=some (.sl v e size k l)):∃F':Frz,Bor F.toFrz (.sl v e size k l) w F'∧SlK F' v size k l:=by
 have hF:=hw.fr hi;have ho:=cS.1 (hw.get hj);rcases ho.2 with ⟨rfl,h0⟩|⟨g,cap,cur,rfl,hb,hg,hnc,hcm,hcs,htake⟩
 ·subst h0;exact q4C
 ·refine ⟨⟨fun k=>F.S k∨k=g,w,fun k hk=>?_⟩,⟨fun k hk=>⟨.inl hk,hF k hk⟩,fun k _=>rfl,fun k hk=>hk.imp id fun e=>cY.2 (by rw [e];rfl)⟩,ho.1,_,cap,rfl,hnc,by unfold maxLen at hcm;omega,fun _=>⟨g,rfl, .inr rfl,fun q hq=>?_⟩⟩
  ·rcases hk with h|rfl
   ·exact hF.cb h
   ·exact ⟨_,_,_,hg⟩
  ·rw [Nat.zero_add,World.ownsRow.cellAt ho q (by rw [←ho.1];exact hq)]
theorem Hp.takesB {E:Ent}{j:Nat}(h:Hp B M (bs++ .fr G :: rest) w)(hj:rest[j]?=some E)(b:Bor G.toFrz E w F'):∀g,dy bs g→¬F'.S g:=fun g hg hS=>by
 rcases b.new g hS with h1|h1
 ·exact h.takes.2 g hg h1
 ·obtain ⟨e,he,h2⟩:=hg;exact (List.pairwise_append.1 h.apart).2.2 e he E (List.mem_cons_of_mem _ (List.mem_of_getElem? hj)) g h2 h1
end
theorem FxM.back {F F':Frz}{w w':World}{M:Nat→Prop}{es:HS}(h:FxM F' w M F' es w')(hle:F.Le F'):FxM F w M F es w':=
 ⟨.refl _,h.at_.le hle,h.hp,fun g hg=> .inl hg,fun e he g hg hS=>h.ap e he g hg (hle g hS).1⟩
theorem zok {α:Type}[Inhabited α]{xs:List α}{i:Nat}{x:α}(h:xs[i]?=some x):i<xs.length∧x=cH xs i:=by
 obtain ⟨hi,rfl⟩:=List.getElem?_eq_some_iff.1 h;exact ⟨hi,(d4 hi).symm⟩
section
variable {P:Program}{n:Nat}{B D:World}{M:Nat→Prop}{fs:dV}{hs:HS}{o:Oper}{v val sv:Value}
end
section
variable {P:Program}{n:Nat}{B D:World}{M:Nat→Prop}{fs:dV}{hs:HS}{v v2:Value}
theorem T.aV {Fe:Fence}[hFe:Calm Fe]{Q:Exit→Act→World→Prop}{c:Code}{e:TypeId}{size k:Nat}{cs:List Value}(j:Nat)(hj:hs[j]?=some (.sl v e size k cs))(h:OneC v→k≤9223372036854775807→T Fe P n B D M c Q fs hs):T Fe P n B D M c Q fs hs:=
 li (ι:=Unit) (φ:=fun _=>OneC v∧k≤9223372036854775807) (hs':=fun _=>hs) (fun w hw=>⟨(),⟨jG (hw.get hj),jA (hw.get hj)⟩,hw⟩) (fun _ hx=>h hx.1 hx.2)
end
def zbv (r_:GRules):Option Bool:=
 (bif (((decide (4096<(r_.Pairs.length:Int)))||(decide (1024<(r_.Loads.length:Int))))||(decide (1024<(r_.Caps.length:Int)))) then
  some false
  else
  dO (fun (_:Unit)=>
   dO (fun (_:Unit)=>
    dO (fun (_:Unit)=>
     some true)
    (fun k32=>
     dh (fun (i_34:Nat) (next33:Unit→Option Bool) (_:Unit)=>
      dO (fun (x_36:Bool)=>
       (bif x_36 then
        some false
        else
        next33 ()))
      (fun k37=>
       (bif !(ki ((cH r_.Caps i_34).Station)) then
        k37 true
        else
        (bif decide ((cH r_.Caps i_34).Max<0) then
         k37 true
         else
         (bif decide (1099511627776<(cH r_.Caps i_34).Max) then
          k37 true
          else
          (bif !(mP ((cH r_.Caps i_34).Low) ((cH r_.Caps i_34).High)) then
           k37 true
           else
           (bif decide (0<(i_34:Int)) then
            (zbi (lF (cH r_.Caps (((i_34:Int) - 1).toNat))) (lF (cH r_.Caps i_34))).bind fun r200=>
            k37 (!r200)
            else
            k37 false)))))))
     (fun (_:Unit)=>
      k32 ()) (r_.Caps.length - 0) 0 ()))
   (fun k18=>
    dh (fun (i_20:Nat) (next19:Unit→Option Bool) (_:Unit)=>
     dO (fun (x_22:Bool)=>
      (bif x_22 then
       some false
       else
       next19 ()))
     (fun k23=>
      (bif !(ki ((cH r_.Loads i_20).To)) then
       k23 true
       else
       (bif !(ki ((cH r_.Loads i_20).From)) then
        k23 true
        else
        (bif decide ((cH r_.Loads i_20).To=(cH r_.Loads i_20).From) then
         k23 true
         else
         (bif decide ((cH r_.Loads i_20).Weight<1) then
          k23 true
          else
          (bif decide (1073741824<(cH r_.Loads i_20).Weight) then
           k23 true
           else
           (bif !(mP ((cH r_.Loads i_20).Low) ((cH r_.Loads i_20).High)) then
            k23 true
            else
            (bif decide (0<(i_20:Int)) then
             (zbi (lv (cH r_.Loads (((i_20:Int) - 1).toNat))) (lv (cH r_.Loads i_20))).bind fun r149=>
             k23 (!r149)
             else
             k23 false)))))))))
    (fun (_:Unit)=>
     k18 ()) (r_.Loads.length - 0) 0 ()))
  (fun k4=>
   dh (fun (i_6:Nat) (next5:Unit→Option Bool) (_:Unit)=>
    dO (fun (x_8:Bool)=>
     (bif x_8 then
      some false
      else
      next5 ()))
    (fun k9=>
     (bif !(ki ((cH r_.Pairs i_6).A)) then
      k9 true
      else
      (bif !(ki ((cH r_.Pairs i_6).B)) then
       k9 true
       else
       (bif decide ((cH r_.Pairs i_6).B≤(cH r_.Pairs i_6).A) then
        k9 true
        else
        (bif decide ((cH r_.Pairs i_6).Offset<(-1)) then
         k9 true
         else
         (bif decide (1<(cH r_.Pairs i_6).Offset) then
          k9 true
          else
          (bif !(mP ((cH r_.Pairs i_6).Low) ((cH r_.Pairs i_6).High)) then
           k9 true
           else
           (bif decide (0<(i_6:Int)) then
            (zbi (lE (cH r_.Pairs (((i_6:Int) - 1).toNat))) (lE (cH r_.Pairs i_6))).bind fun r85=>
            k9 (!r85)
            else
            k9 false)))))))))
   (fun (_:Unit)=>
    k4 ()) (r_.Pairs.length - 0) 0 ()))
theorem ze0 (F0:Frz)(w:World)(hF0:F0.At w)(r_:GRules)(vr__0:Value)(hr__0:SlC F0 vr__0 5 (r_.Pairs.map da))(vr__1:Value)(hr__1:SlC F0 vr__1 5 (r_.Loads.map de))(vr__2:Value)(hr__2:SlC F0 vr__2 4 (r_.Caps.map dk))(r:Bool)(hr:zbv r_=some r):Calls Tryz.prog 30 #[.agg [vr__0,vr__1,vr__2].toArray] w fun e w'=>e= .returned (.bool r)∧Below w.heap.size w w':=by
 have hk:=hr;unfold zbv at hk;haveI:=hr__0.oneC;haveI:=hr__1.oneC;haveI:=hr__2.oneC;obtain ⟨S0,F1,rfl,hS0,hp0⟩:=fX hF0;refine dB Tryz.func30 rfl rfl rfl hp0 ?_;refine jI ?_;rintro _ _ ⟨g1,rfl,rfl⟩;refine q2q ?_;refine dg (ι:=Unit) (fun z=>[(1, .pointer (some ⟨g1,0,none⟩)),(24, .bool (((decide (4096<(r_.Pairs.length:Int)))||(decide (1024<(r_.Loads.length:Int))))||(decide (1024<(r_.Caps.length:Int)))))]) (fun z=>[.row g1 29 [vr__0,vr__1,vr__2], .fr F1]) (fun z=>True) ?_ ?_
 ·refine fN ?_;refine em ?_;refine cK (dn rfl rfl hr__0 (List.length_map _)) ?_;have hm11:r_.Pairs.length≤9223372036854775807:=(List.length_map _)▸hr__0.max;refine ec ?_;refine du rfl rfl rfl (fun h1=>?_) (fun h1=>?_)
  ·have p1:=of_decide_eq_true h1;refine TL.run 11 rfl ?_;refine fO ?_;exact cP () trivial (.c (.b (iz (iz h1)).symm .nil)) (List.Sublist.refl _)
  ·have p1:=of_decide_eq_false h1;refine em ?_;refine cK (dn rfl rfl hr__1 (List.length_map _)) ?_;have hm16:r_.Loads.length≤9223372036854775807:=(List.length_map _)▸hr__1.max;refine fb ?_;refine du rfl rfl rfl (fun h2=>?_) (fun h2=>?_)
   ·have p2:=of_decide_eq_true h2;refine q3k ?_;exact cP () trivial (.c (.b (iz (i2 h1 h2)).symm .nil)) (List.Sublist.refl _)
   ·have p2:=of_decide_eq_false h2;refine em ?_;refine cK (dn rfl rfl hr__2 (List.length_map _)) ?_;have hm22:r_.Caps.length≤9223372036854775807:=(List.length_map _)▸hr__2.max;refine lH ?_;exact cP () trivial (.c (.b (iA (i2 h1 h2)) .nil)) (List.Sublist.refl _)
 ·rintro _ _;have hm11:r_.Pairs.length≤9223372036854775807:=(List.length_map _)▸hr__0.max;have hm16:r_.Loads.length≤9223372036854775807:=(List.length_map _)▸hr__1.max;have hm22:r_.Caps.length≤9223372036854775807:=(List.length_map _)▸hr__2.max;refine T.cond rfl (fun h3=>?_) (fun h3=>?_)
  ·replace hk:=dH hk h3;refine ja ?_;obtain rfl:=Option.some.inj hk;exact eX
  ·have p3:=h3; (try simp only [cT] at p3);replace hk:=dL hk h3;refine kh ?_;refine dR ?_;have hq:=fq hk;clear hk;obtain ⟨k4,hk4,hk⟩:=hq; (try dsimp only at hk);refine dg (ι:=FzB w (fun _=>False) S0) (fun z=>[(1, .pointer (some ⟨g1,0,none⟩))]) (fun z=>[.row g1 29 [vr__0,vr__1,vr__2], .fr z]) (fun z=>k4 ()=some r∧F1.toFrz.Le z.toFrz) ?_ ?_
   ·have hq:=gF hk;clear hk;obtain ⟨f5,kk5,hf5,hkk5,hk⟩:=hq;refine fV ?_;refine T.loop (ι:=Nat×FzB w (fun _=>False) S0) (fun z=>[(1, .pointer (some ⟨g1,0,none⟩)),(3, .int .i64 (z.1:Int))]) (fun z=>[.row g1 29 [vr__0,vr__1,vr__2], .fr z.2]) (fun z=>dh f5 kk5 (r_.Pairs.length - z.1) z.1 ()=some r∧F1.toFrz.Le z.2.toFrz) (fun z=>r_.Pairs.length - z.1) (0,F1) ?_ ?_ ?_ ?_
    ·exact ⟨hk,(Frz.Le.refl _)⟩
    ·exact q30
    ·exact fQ
    ·rintro ⟨i_6,F3⟩ ⟨hk,le1_3⟩; (try dsimp only at *);refine iX ?_;refine i7 ?_;refine cK (dn rfl rfl (SlC.mono hr__0 le1_3) (List.length_map _)) ?_;refine dR ?_;refine T.cond rfl (fun h7=>?_) (fun h7=>?_)
     ·have p7:=of_decide_eq_true h7;rw [gH a6] at hk;generalize hn5:dh f5 kk5 (r_.Pairs.length - (i_6+1)) (i_6+1)=next5 at hk;rw [←hf5] at hk; (try dsimp only at hk);refine q3y ?_;refine cK (dj (i:=i_6) rfl rfl rfl (SlC.mono hr__0 le1_3) (List.length_map _) rfl a6) ?_;refine cK (eD 1 (i:=i_6) rfl rfl rfl (SlC.mono hr__0 le1_3) a6) ?_;refine iJ ?_;rintro _ _ ⟨g4,rfl,rfl⟩;refine q2H ?_; (try dsimp only at hk);have hq:=fq hk;clear hk;obtain ⟨k9,hk9,hk⟩:=hq; (try dsimp only at hk);refine dg (ι:=Bool×FzB w (fun _=>False) S0) (fun z=>[(1, .pointer (some ⟨g1,0,none⟩)),(3, .int .i64 (i_6:Int)),(88, .bool z.1)]) (fun z=>[.row g1 29 [vr__0,vr__1,vr__2], .fr z.2]) (fun z=>k9 z.1=some r∧F3.toFrz.Le z.2.toFrz) ?_ ?_
      ·refine q0Y ?_;refine cQ rfl (Wt.none) rfl rfl (cL rfl rfl rfl (fun w hw=>zbq _ w (hw.fr (i:=2) rfl) ((cH r_.Pairs i_6).A))) ?_;refine q3M ?_;refine dz rfl rfl rfl rfl (fun h10=>?_) (fun h10=>?_)
       ·replace hk:=dH hk h10;refine gE ?_;refine iZ ?_;refine TS.run 24 rfl ?_;refine lL ?_;exact q34
       ·replace hk:=dL hk h10;refine lR ?_;refine cQ rfl (Wt.some) rfl rfl (cL rfl rfl rfl (fun w hw=>zbq _ w (hw.fr (i:=2) rfl) ((cH r_.Pairs i_6).B))) ?_;refine jh ?_;refine fU ?_;refine dz rfl rfl rfl rfl (fun h11=>?_) (fun h11=>?_)
        ·replace hk:=dH hk h11;refine TS.run 21 rfl ?_;refine lL ?_;exact q34
        ·replace hk:=dL hk h11;refine eW ?_;refine eW ?_;refine fU ?_;refine dz rfl rfl rfl rfl (fun h12=>?_) (fun h12=>?_)
         ·have p12:=of_decide_eq_true h12;replace hk:=dH hk h12;refine TS.run 14 rfl ?_;refine lL ?_;exact q34
         ·have p12:=of_decide_eq_false h12;replace hk:=dL hk h12;refine eW ?_;refine fU ?_;refine dz rfl rfl rfl rfl (fun h13=>?_) (fun h13=>?_)
          ·have p13:=of_decide_eq_true h13;replace hk:=dH hk h13;refine TS.run 9 rfl ?_;refine lL ?_;exact q34
          ·have p13:=of_decide_eq_false h13;replace hk:=dL hk h13;refine eW ?_;refine fU ?_;refine dz rfl rfl rfl rfl (fun h14=>?_) (fun h14=>?_)
           ·have p14:=of_decide_eq_true h14;replace hk:=dH hk h14;refine TS.run 4 rfl ?_;refine lL ?_;exact q34
           ·have p14:=of_decide_eq_false h14;replace hk:=dL hk h14;refine eW ?_;refine lR ?_;refine cQ rfl (Wt.some) rfl rfl (cL rfl rfl rfl (fun w hw=>zd2 _ w (hw.fr (i:=2) rfl) ((cH r_.Pairs i_6).Low) ((cH r_.Pairs i_6).High))) ?_;refine jh ?_;refine fU ?_;refine dz rfl rfl rfl rfl (fun h15=>?_) (fun h15=>?_)
            ·replace hk:=dH hk h15;refine TS.run 10 rfl ?_;refine q0d ?_;exact q34
            ·replace hk:=dL hk h15;refine fU ?_;refine dz rfl rfl rfl rfl (fun h16=>?_) (fun h16=>?_)
             ·have p16:=of_decide_eq_true h16;replace hk:=dH hk h16;refine gu ?_;refine q2k ?_;refine mq ?_;refine cN rfl (dj (i:=((i_6:Int) - 1).toNat) rfl rfl rfl (SlC.mono hr__0 le1_3) (List.length_map _) a6 a6) ?_;refine cN rfl (eD 2 (i:=((i_6:Int) - 1).toNat) rfl rfl rfl (SlC.mono hr__0 le1_3) a6) ?_;refine jM ?_;refine dx ?_;refine cQ rfl (Wt.some) rfl rfl (fw 2 rfl rfl rfl rfl (fun w hw hF=>zeu _ w hF (cH r_.Pairs (((i_6:Int) - 1).toNat)))) ?_;rintro _ _ ⟨v82_0_0,F5,le3_5,hf82_0_0,hq,rfl⟩;obtain rfl:=hq.symm;haveI:=hf82_0_0.oneC;refine ⟨(fun w hw=>(hw.frLe (i:=2) rfl le3_5).sub Sx),?_⟩;refine dx ?_;refine cQ rfl (Wt.some) rfl rfl (fw 2 rfl rfl rfl rfl (fun w hw hF=>zeu _ w hF (cH r_.Pairs i_6))) ?_;rintro _ _ ⟨v84_0_0,F6,le5_6,hf84_0_0,hq,rfl⟩;obtain rfl:=hq.symm;have le3_6:=le3_5.trans le5_6;haveI:=hf84_0_0.oneC;refine ⟨(fun w hw=>(hw.frLe (i:=2) rfl le3_6).sub Sx),?_⟩;refine dx ?_;have hq:=fD hk;clear hk;obtain ⟨r85,hr85,hk⟩:=hq;refine cQ rfl (Wt.some) rfl rfl (cL rfl rfl rfl (fun w hw=>zdS _ w (hw.fr (i:=2) rfl) (lE (cH r_.Pairs (((i_6:Int) - 1).toNat))) v82_0_0 (SlC.mono hf82_0_0 le5_6) (lE (cH r_.Pairs i_6)) v84_0_0 hf84_0_0 r85 hr85)) ?_;refine eB ?_;refine ⟨(fun w hw=>(hw.frLe (i:=2) rfl le3_6).sub Sx),?_⟩;refine q2a ?_;exact cP (!r85,F6) ⟨hk,le3_6⟩ (.c (.c (.c .nil))) (List.Sublist.refl _)
             ·have p16:=of_decide_eq_false h16;replace hk:=dL hk h16;refine q2U ?_;refine iZ ?_;refine iZ ?_;refine q2a ?_;exact cP (false,F3) ⟨hk,(Frz.Le.refl _)⟩ (.c (.c (.c .nil))) (List.Sublist.refl _)
      ·rintro ⟨x_8,F4⟩ ⟨hk,le3_4⟩; (try dsimp only at *);rw [←hk9] at hk; (try dsimp only at hk);have le1_4:=le1_3.trans le3_4;refine T.cond rfl (fun h17=>?_) (fun h17=>?_)
       ·replace hk:=dH hk h17;refine jc ?_;obtain rfl:=Option.some.inj hk;exact eX
       ·replace hk:=dL hk h17;refine iS ?_;rw [←hn5] at hk;exact K.next ((i_6+1),F4) ⟨hk,le1_4⟩ b3 (.c (.c .nil)) (List.Sublist.refl _)
     ·have p7:=of_decide_eq_false h7;rw [gK a6,←hkk5] at hk; (try dsimp only at hk);refine fu ?_;exact cP F3 ⟨hk,le1_3⟩ (.c .nil) (List.Sublist.refl _)
   ·rintro F2 ⟨hk,le1_2⟩;rw [←hk4] at hk; (try dsimp only at hk);refine q3O ?_;have hq:=fq hk;clear hk;obtain ⟨k18,hk18,hk⟩:=hq; (try dsimp only at hk);refine dg (ι:=FzB w (fun _=>False) S0) (fun z=>[(1, .pointer (some ⟨g1,0,none⟩))]) (fun z=>[.row g1 29 [vr__0,vr__1,vr__2], .fr z]) (fun z=>k18 ()=some r∧F2.toFrz.Le z.toFrz) ?_ ?_
    ·have hq:=gF hk;clear hk;obtain ⟨f19,kk19,hf19,hkk19,hk⟩:=hq;refine fV ?_;refine T.loop (ι:=Nat×FzB w (fun _=>False) S0) (fun z=>[(1, .pointer (some ⟨g1,0,none⟩)),(5, .int .i64 (z.1:Int))]) (fun z=>[.row g1 29 [vr__0,vr__1,vr__2], .fr z.2]) (fun z=>dh f19 kk19 (r_.Loads.length - z.1) z.1 ()=some r∧F2.toFrz.Le z.2.toFrz) (fun z=>r_.Loads.length - z.1) (0,F2) ?_ ?_ ?_ ?_
     ·exact ⟨hk,(Frz.Le.refl _)⟩
     ·exact q30
     ·exact fQ
     ·rintro ⟨i_20,F8⟩ ⟨hk,le2_8⟩; (try dsimp only at *);have le1_8:=le1_2.trans le2_8;refine iX ?_;refine i7 ?_;refine cK (dn rfl rfl (SlC.mono hr__1 le1_8) (List.length_map _)) ?_;refine dR ?_;refine T.cond rfl (fun h21=>?_) (fun h21=>?_)
      ·have p21:=of_decide_eq_true h21;rw [gH a6] at hk;generalize hn19:dh f19 kk19 (r_.Loads.length - (i_20+1)) (i_20+1)=next19 at hk;rw [←hf19] at hk; (try dsimp only at hk);refine q3y ?_;refine cK (dj (i:=i_20) rfl rfl rfl (SlC.mono hr__1 le1_8) (List.length_map _) rfl a6) ?_;refine cK (eD 1 (i:=i_20) rfl rfl rfl (SlC.mono hr__1 le1_8) a6) ?_;refine iJ ?_;rintro _ _ ⟨g6,rfl,rfl⟩;refine q2H ?_; (try dsimp only at hk);have hq:=fq hk;clear hk;obtain ⟨k23,hk23,hk⟩:=hq; (try dsimp only at hk);refine dg (ι:=Bool×FzB w (fun _=>False) S0) (fun z=>[(1, .pointer (some ⟨g1,0,none⟩)),(5, .int .i64 (i_20:Int)),(152, .bool z.1)]) (fun z=>[.row g1 29 [vr__0,vr__1,vr__2], .fr z.2]) (fun z=>k23 z.1=some r∧F8.toFrz.Le z.2.toFrz) ?_ ?_
       ·refine q0Y ?_;refine cQ rfl (Wt.none) rfl rfl (cL rfl rfl rfl (fun w hw=>zbq _ w (hw.fr (i:=2) rfl) ((cH r_.Loads i_20).To))) ?_;refine q3M ?_;refine dz rfl rfl rfl rfl (fun h24=>?_) (fun h24=>?_)
        ·replace hk:=dH hk h24;refine gE ?_;refine iZ ?_;refine TS.run 24 rfl ?_;refine lL ?_;exact q35
        ·replace hk:=dL hk h24;refine lR ?_;refine cQ rfl (Wt.some) rfl rfl (cL rfl rfl rfl (fun w hw=>zbq _ w (hw.fr (i:=2) rfl) ((cH r_.Loads i_20).From))) ?_;refine jh ?_;refine fU ?_;refine dz rfl rfl rfl rfl (fun h25=>?_) (fun h25=>?_)
         ·replace hk:=dH hk h25;refine TS.run 21 rfl ?_;refine lL ?_;exact q35
         ·replace hk:=dL hk h25;refine eW ?_;refine eW ?_;refine fU ?_;refine dz rfl rfl rfl rfl (fun h26=>?_) (fun h26=>?_)
          ·have p26:=of_decide_eq_true h26;replace hk:=dH hk h26;refine TS.run 14 rfl ?_;refine lL ?_;exact q35
          ·have p26:=of_decide_eq_false h26;replace hk:=dL hk h26;refine eW ?_;refine fU ?_;refine dz rfl rfl rfl rfl (fun h27=>?_) (fun h27=>?_)
           ·have p27:=of_decide_eq_true h27;replace hk:=dH hk h27;refine TS.run 9 rfl ?_;refine lL ?_;exact q35
           ·have p27:=of_decide_eq_false h27;replace hk:=dL hk h27;refine eW ?_;refine fU ?_;refine dz rfl rfl rfl rfl (fun h28=>?_) (fun h28=>?_)
            ·have p28:=of_decide_eq_true h28;replace hk:=dH hk h28;refine TS.run 4 rfl ?_;refine lL ?_;exact q35
            ·have p28:=of_decide_eq_false h28;replace hk:=dL hk h28;refine eW ?_;refine lR ?_;refine cQ rfl (Wt.some) rfl rfl (cL rfl rfl rfl (fun w hw=>zd2 _ w (hw.fr (i:=2) rfl) ((cH r_.Loads i_20).Low) ((cH r_.Loads i_20).High))) ?_;refine jh ?_;refine fU ?_;refine dz rfl rfl rfl rfl (fun h29=>?_) (fun h29=>?_)
             ·replace hk:=dH hk h29;refine TS.run 10 rfl ?_;refine q0d ?_;exact q35
             ·replace hk:=dL hk h29;refine fU ?_;refine dz rfl rfl rfl rfl (fun h30=>?_) (fun h30=>?_)
              ·have p30:=of_decide_eq_true h30;replace hk:=dH hk h30;refine gu ?_;refine q2k ?_;refine mq ?_;refine cN rfl (dj (i:=((i_20:Int) - 1).toNat) rfl rfl rfl (SlC.mono hr__1 le1_8) (List.length_map _) a6 a6) ?_;refine cN rfl (eD 2 (i:=((i_20:Int) - 1).toNat) rfl rfl rfl (SlC.mono hr__1 le1_8) a6) ?_;refine jM ?_;refine dx ?_;refine cQ rfl (Wt.some) rfl rfl (fw 2 rfl rfl rfl rfl (fun w hw hF=>zew _ w hF (cH r_.Loads (((i_20:Int) - 1).toNat)))) ?_;rintro _ _ ⟨v146_0_0,F10,le8_10,hf146_0_0,hq,rfl⟩;obtain rfl:=hq.symm;haveI:=hf146_0_0.oneC;refine ⟨(fun w hw=>(hw.frLe (i:=2) rfl le8_10).sub Sx),?_⟩;refine dx ?_;refine cQ rfl (Wt.some) rfl rfl (fw 2 rfl rfl rfl rfl (fun w hw hF=>zew _ w hF (cH r_.Loads i_20))) ?_;rintro _ _ ⟨v148_0_0,F11,le10_11,hf148_0_0,hq,rfl⟩;obtain rfl:=hq.symm;have le8_11:=le8_10.trans le10_11;haveI:=hf148_0_0.oneC;refine ⟨(fun w hw=>(hw.frLe (i:=2) rfl le8_11).sub Sx),?_⟩;refine dx ?_;have hq:=fD hk;clear hk;obtain ⟨r149,hr149,hk⟩:=hq;refine cQ rfl (Wt.some) rfl rfl (cL rfl rfl rfl (fun w hw=>zdS _ w (hw.fr (i:=2) rfl) (lv (cH r_.Loads (((i_20:Int) - 1).toNat))) v146_0_0 (SlC.mono hf146_0_0 le10_11) (lv (cH r_.Loads i_20)) v148_0_0 hf148_0_0 r149 hr149)) ?_;refine eB ?_;refine ⟨(fun w hw=>(hw.frLe (i:=2) rfl le8_11).sub Sx),?_⟩;refine q2a ?_;exact cP (!r149,F11) ⟨hk,le8_11⟩ (.c (.c (.c .nil))) (List.Sublist.refl _)
              ·have p30:=of_decide_eq_false h30;replace hk:=dL hk h30;refine q2U ?_;refine iZ ?_;refine iZ ?_;refine q2a ?_;exact cP (false,F8) ⟨hk,(Frz.Le.refl _)⟩ (.c (.c (.c .nil))) (List.Sublist.refl _)
       ·rintro ⟨x_22,F9⟩ ⟨hk,le8_9⟩; (try dsimp only at *);rw [←hk23] at hk; (try dsimp only at hk);have le2_9:=le2_8.trans le8_9;refine T.cond rfl (fun h31=>?_) (fun h31=>?_)
        ·replace hk:=dH hk h31;refine jc ?_;obtain rfl:=Option.some.inj hk;exact eX
        ·replace hk:=dL hk h31;refine iS ?_;rw [←hn19] at hk;exact K.next ((i_20+1),F9) ⟨hk,le2_9⟩ b3 (.c (.c .nil)) (List.Sublist.refl _)
      ·have p21:=of_decide_eq_false h21;rw [gK a6,←hkk19] at hk; (try dsimp only at hk);refine fu ?_;exact cP F8 ⟨hk,le2_8⟩ (.c .nil) (List.Sublist.refl _)
    ·rintro F7 ⟨hk,le2_7⟩;rw [←hk18] at hk; (try dsimp only at hk);have le1_7:=le1_2.trans le2_7;refine q3O ?_;have hq:=fq hk;clear hk;obtain ⟨k32,hk32,hk⟩:=hq; (try dsimp only at hk);refine dg (ι:=FzB w (fun _=>False) S0) (fun z=>[]) (fun z=>[.fr z]) (fun z=>k32 ()=some r∧F7.toFrz.Le z.toFrz) ?_ ?_
     ·have hq:=gF hk;clear hk;obtain ⟨f33,kk33,hf33,hkk33,hk⟩:=hq;refine fV ?_;refine T.loop (ι:=Nat×FzB w (fun _=>False) S0) (fun z=>[(1, .pointer (some ⟨g1,0,none⟩)),(7, .int .i64 (z.1:Int))]) (fun z=>[.row g1 29 [vr__0,vr__1,vr__2], .fr z.2]) (fun z=>dh f33 kk33 (r_.Caps.length - z.1) z.1 ()=some r∧F7.toFrz.Le z.2.toFrz) (fun z=>r_.Caps.length - z.1) (0,F7) ?_ ?_ ?_ ?_
      ·exact ⟨hk,(Frz.Le.refl _)⟩
      ·exact q30
      ·exact fQ
      ·rintro ⟨i_34,F13⟩ ⟨hk,le7_13⟩; (try dsimp only at *);have le1_13:=le1_7.trans le7_13;refine iX ?_;refine i7 ?_;refine cK (dn rfl rfl (SlC.mono hr__2 le1_13) (List.length_map _)) ?_;refine dR ?_;refine T.cond rfl (fun h35=>?_) (fun h35=>?_)
       ·have p35:=of_decide_eq_true h35;rw [gH a6] at hk;generalize hn33:dh f33 kk33 (r_.Caps.length - (i_34+1)) (i_34+1)=next33 at hk;rw [←hf33] at hk; (try dsimp only at hk);refine q3y ?_;refine cK (dj (i:=i_34) rfl rfl rfl (SlC.mono hr__2 le1_13) (List.length_map _) rfl a6) ?_;refine cK (eD 1 (i:=i_34) rfl rfl rfl (SlC.mono hr__2 le1_13) a6) ?_;refine iJ ?_;rintro _ _ ⟨g8,rfl,rfl⟩;refine q2H ?_; (try dsimp only at hk);have hq:=fq hk;clear hk;obtain ⟨k37,hk37,hk⟩:=hq; (try dsimp only at hk);refine dg (ι:=Bool×FzB w (fun _=>False) S0) (fun z=>[(1, .pointer (some ⟨g1,0,none⟩)),(7, .int .i64 (i_34:Int)),(203, .bool z.1)]) (fun z=>[.row g1 29 [vr__0,vr__1,vr__2], .fr z.2]) (fun z=>k37 z.1=some r∧F13.toFrz.Le z.2.toFrz) ?_ ?_
        ·refine dF (sN 0 2 (.eff 2 (sN 3 16 (.eff 19 (sN 20 12 (.still 33 (.eff 32 (.eff 34 (.eff 35 (sN 36 2 (.still 38 .done))))))))))) _ a8 (List.Sublist.refl _) ?_;refine lR ?_;refine cQ rfl (Wt.none) rfl rfl (cL rfl rfl rfl (fun w hw=>zbq _ w (hw.fr (i:=2) rfl) ((cH r_.Caps i_34).Station))) ?_;refine q3M ?_;refine dz rfl rfl rfl rfl (fun h38=>?_) (fun h38=>?_)
         ·replace hk:=dH hk h38;refine TS.run 14 rfl ?_;refine lL ?_;exact q4l
         ·replace hk:=dL hk h38;refine eW ?_;refine fU ?_;refine dz rfl rfl rfl rfl (fun h39=>?_) (fun h39=>?_)
          ·have p39:=of_decide_eq_true h39;replace hk:=dH hk h39;refine TS.run 9 rfl ?_;refine lL ?_;exact q4l
          ·have p39:=of_decide_eq_false h39;replace hk:=dL hk h39;refine eW ?_;refine fU ?_;refine dz rfl rfl rfl rfl (fun h40=>?_) (fun h40=>?_)
           ·have p40:=of_decide_eq_true h40;replace hk:=dH hk h40;refine TS.run 4 rfl ?_;refine lL ?_;exact q4l
           ·have p40:=of_decide_eq_false h40;replace hk:=dL hk h40;refine eW ?_;refine lR ?_;refine cQ rfl (Wt.some) rfl rfl (cL rfl rfl rfl (fun w hw=>zd2 _ w (hw.fr (i:=2) rfl) ((cH r_.Caps i_34).Low) ((cH r_.Caps i_34).High))) ?_;refine jh ?_;refine fU ?_;refine dz rfl rfl rfl rfl (fun h41=>?_) (fun h41=>?_)
            ·replace hk:=dH hk h41;refine TS.run 10 rfl ?_;refine q0d ?_;exact q4l
            ·replace hk:=dL hk h41;refine fU ?_;refine dz rfl rfl rfl rfl (fun h42=>?_) (fun h42=>?_)
             ·have p42:=of_decide_eq_true h42;replace hk:=dH hk h42;refine gu ?_;refine q2k ?_;refine mq ?_;refine cN rfl (dj (i:=((i_34:Int) - 1).toNat) rfl rfl rfl (SlC.mono hr__2 le1_13) (List.length_map _) a6 a6) ?_;refine cN rfl (eD 2 (i:=((i_34:Int) - 1).toNat) rfl rfl rfl (SlC.mono hr__2 le1_13) a6) ?_;refine jM ?_;refine dx ?_;refine cQ rfl (Wt.some) rfl rfl (fw 2 rfl rfl rfl rfl (fun w hw hF=>zeR _ w hF (cH r_.Caps (((i_34:Int) - 1).toNat)))) ?_;rintro _ _ ⟨v197_0_0,F15,le13_15,hf197_0_0,hq,rfl⟩;obtain rfl:=hq.symm;haveI:=hf197_0_0.oneC;refine ⟨(fun w hw=>(hw.frLe (i:=2) rfl le13_15).sub Sx),?_⟩;refine dx ?_;refine cQ rfl (Wt.some) rfl rfl (fw 2 rfl rfl rfl rfl (fun w hw hF=>zeR _ w hF (cH r_.Caps i_34))) ?_;rintro _ _ ⟨v199_0_0,F16,le15_16,hf199_0_0,hq,rfl⟩;obtain rfl:=hq.symm;have le13_16:=le13_15.trans le15_16;haveI:=hf199_0_0.oneC;refine ⟨(fun w hw=>(hw.frLe (i:=2) rfl le13_16).sub Sx),?_⟩;refine dx ?_;have hq:=fD hk;clear hk;obtain ⟨r200,hr200,hk⟩:=hq;refine cQ rfl (Wt.some) rfl rfl (cL rfl rfl rfl (fun w hw=>zdS _ w (hw.fr (i:=2) rfl) (lF (cH r_.Caps (((i_34:Int) - 1).toNat))) v197_0_0 (SlC.mono hf197_0_0 le15_16) (lF (cH r_.Caps i_34)) v199_0_0 hf199_0_0 r200 hr200)) ?_;refine eB ?_;refine ⟨(fun w hw=>(hw.frLe (i:=2) rfl le13_16).sub Sx),?_⟩;refine q2a ?_;exact cP (!r200,F16) ⟨hk,le13_16⟩ (.c (.c (.c .nil))) (List.Sublist.refl _)
             ·have p42:=of_decide_eq_false h42;replace hk:=dL hk h42;refine q2U ?_;refine iZ ?_;refine iZ ?_;refine q2a ?_;exact cP (false,F13) ⟨hk,(Frz.Le.refl _)⟩ (.c (.c (.c .nil))) (List.Sublist.refl _)
        ·rintro ⟨x_36,F14⟩ ⟨hk,le13_14⟩; (try dsimp only at *);rw [←hk37] at hk; (try dsimp only at hk);have le7_14:=le7_13.trans le13_14;refine T.cond rfl (fun h43=>?_) (fun h43=>?_)
         ·replace hk:=dH hk h43;refine jc ?_;obtain rfl:=Option.some.inj hk;exact eX
         ·replace hk:=dL hk h43;refine iS ?_;rw [←hn33] at hk;exact K.next ((i_34+1),F14) ⟨hk,le7_14⟩ b3 (.c (.c .nil)) (List.Sublist.refl _)
       ·have p35:=of_decide_eq_false h35;rw [gK a6,←hkk33] at hk; (try dsimp only at hk);refine fu ?_;refine mY ?_;exact cP F13 ⟨hk,le7_13⟩ .nil (List.Sublist.refl _)
     ·rintro F12 ⟨hk,le7_12⟩;rw [←hk32] at hk; (try dsimp only at hk);refine ld ?_;obtain rfl:=Option.some.inj hk;exact eX
def zb2 (p:GProblem):Option Bool:=
 dO (fun (x_1:Bool)=>
  (bif x_1 then
   some false
   else
   dO (fun (_:Unit)=>
    dO (fun (_:Unit)=>
     dO (fun (_:Unit)=>
      dO (fun (_:Unit)=>
       some true)
      (fun k32=>
       dh (fun (i_34:Nat) (next33:Unit→Option Bool) (_:Unit)=>
        (bif decide ((iT p ((cH p.Rules.Caps i_34).Station))<0) then
         some false
         else
         next33 ()))
       (fun (_:Unit)=>
        k32 ()) (p.Rules.Caps.length - 0) 0 ()))
     (fun k26=>
      dh (fun (i_28:Nat) (next27:Unit→Option Bool) (_:Unit)=>
       (bif ((decide ((iT p ((cH p.Rules.Loads i_28).To))<0))||(decide ((iT p ((cH p.Rules.Loads i_28).From))<0))) then
        some false
        else
        next27 ()))
      (fun (_:Unit)=>
       k26 ()) (p.Rules.Loads.length - 0) 0 ()))
    (fun k20=>
     dh (fun (i_22:Nat) (next21:Unit→Option Bool) (_:Unit)=>
      (bif ((decide ((iT p ((cH p.Rules.Pairs i_22).A))<0))||(decide ((iT p ((cH p.Rules.Pairs i_22).B))<0))) then
       some false
       else
       next21 ()))
     (fun (_:Unit)=>
      k20 ()) (p.Rules.Pairs.length - 0) 0 ()))
   (fun k5=>
    dh (fun (i_7:Nat) (next6:Unit→Option Bool) (_:Unit)=>
     (bif (((!(ki ((cH p.Domains i_7).Station)))||((decide (0<(i_7:Int)))&&(decide ((cH p.Domains i_7).Station≤(cH p.Domains (((i_7:Int) - 1).toNat)).Station))))||(decide (50<(((cH p.Domains i_7).Channels).length:Int)))) then
      some false
      else
      dh (fun (k_14:Nat) (next13:Unit→Option Bool) (_:Unit)=>
       (bif (((decide ((cH ((cH p.Domains i_7).Channels) k_14)<2))||(decide (51<(cH ((cH p.Domains i_7).Channels) k_14))))||((decide (0<(k_14:Int)))&&(decide ((cH ((cH p.Domains i_7).Channels) k_14)≤(cH ((cH p.Domains i_7).Channels) (((k_14:Int) - 1).toNat)))))) then
        some false
        else
        next13 ()))
      (fun (_:Unit)=>
       next6 ()) ((((cH p.Domains i_7).Channels).length) - 0) 0 ()))
    (fun (_:Unit)=>
     k5 ()) (p.Domains.length - 0) 0 ())))
 (fun k2=>
  (bif decide (512<(p.Domains.length:Int)) then
   k2 true
   else
   (zbv p.Rules).bind fun r16=>
   k2 (!r16)))
theorem zhh (F0:Frz)(w:World)(hF0:F0.At w)(p:GProblem)(vp_0:Value)(cp_0:List (List Value))(hp_0:SlD cJ F0 vp_0 2 cp_0 p.Domains)(vp_1:Value)(hp_1:SlC F0 vp_1 5 (p.Rules.Pairs.map da))(vp_2:Value)(hp_2:SlC F0 vp_2 5 (p.Rules.Loads.map de))(vp_3:Value)(hp_3:SlC F0 vp_3 4 (p.Rules.Caps.map dk))(r:Bool)(hr:zb2 p=some r):Calls Tryz.prog 11 #[.agg [vp_0,vp_1,vp_2,vp_3].toArray] w fun e w'=>e= .returned (.bool r)∧Below w.heap.size w w':=by
 have hk:=hr;unfold zb2 at hk;haveI:=hp_0.1.oneC;haveI:=hp_1.oneC;haveI:=hp_2.oneC;haveI:=hp_3.oneC;obtain ⟨S0,F1,rfl,hS0,hp0⟩:=fX hF0;refine dB Tryz.func11 rfl rfl rfl hp0 ?_;refine jI ?_;rintro _ _ ⟨g1,rfl,rfl⟩;refine q2q ?_; (try dsimp only at hk);have hq:=fq hk;clear hk;obtain ⟨k2,hk2,hk⟩:=hq; (try dsimp only at hk);refine dg (ι:=Bool) (fun z=>[(1, .pointer (some ⟨g1,0,none⟩)),(18, .bool z)]) (fun z=>[.row g1 31 [vp_0,vp_1,vp_2,vp_3], .fr F1]) (fun z=>k2 z=some r) ?_ ?_
 ·refine fN ?_;refine em ?_;refine q2l ?_;have hm11:p.Domains.length≤9223372036854775807:=hp_0.2.1▸hp_0.1.max;refine ec ?_;refine du rfl rfl rfl (fun h3=>?_) (fun h3=>?_)
  ·have p3:=of_decide_eq_true h3;replace hk:=dH hk h3;refine q3k ?_;exact cP true hk (.c (.c .nil)) (List.Sublist.refl _)
  ·have p3:=of_decide_eq_false h3;replace hk:=dL hk h3;refine ft ?_;refine cK (mU 0 (m:=[vp_1,vp_2,vp_3]) rfl rfl rfl rfl rfl) ?_;have hq:=fD hk;clear hk;obtain ⟨r16,hr16,hk⟩:=hq;refine df (cL rfl rfl rfl (fun w hw=>ze0 _ w (hw.fr (i:=1) rfl) p.Rules vp_1 hp_1 vp_2 hp_2 vp_3 hp_3 r16 hr16)) ?_;refine eB ?_;refine lH ?_;exact cP (!r16) hk (.c (.c .nil)) (List.Sublist.refl _)
 ·rintro x_1 hk;rw [←hk2] at hk; (try dsimp only at hk);refine T.cond rfl (fun h4=>?_) (fun h4=>?_)
  ·replace hk:=dH hk h4;refine ja ?_;obtain rfl:=Option.some.inj hk;exact eX
  ·replace hk:=dL hk h4;refine kh ?_;refine dR ?_;have hq:=fq hk;clear hk;obtain ⟨k5,hk5,hk⟩:=hq; (try dsimp only at hk);refine dg (ι:=Unit) (fun z=>[(1, .pointer (some ⟨g1,0,none⟩))]) (fun z=>[.row g1 31 [vp_0,vp_1,vp_2,vp_3], .fr F1]) (fun z=>k5 ()=some r) ?_ ?_
   ·have hq:=gF hk;clear hk;obtain ⟨f6,kk6,hf6,hkk6,hk⟩:=hq;refine fV ?_;refine T.loop (ι:=Nat) (fun z=>[(1, .pointer (some ⟨g1,0,none⟩)),(3, .int .i64 (z:Int))]) (fun z=>[.row g1 31 [vp_0,vp_1,vp_2,vp_3], .fr F1]) (fun z=>dh f6 kk6 (p.Domains.length - z) z ()=some r) (fun z=>p.Domains.length - z) 0 ?_ ?_ ?_ ?_
    ·exact hk
    ·exact q30
    ·exact fQ
    ·rintro i_7 hk;refine iX ?_;refine i7 ?_;refine q2l ?_;have hm22:p.Domains.length≤9223372036854775807:=hp_0.2.1▸hp_0.1.max;refine dR ?_;refine T.cond rfl (fun h8=>?_) (fun h8=>?_)
     ·have p8:=of_decide_eq_true h8;rw [gH a6] at hk;generalize hn6:dh f6 kk6 (p.Domains.length - (i_7+1)) (i_7+1)=next6 at hk;rw [←hf6] at hk; (try dsimp only at hk);refine q3y ?_;refine cK (dj (i:=i_7) rfl rfl rfl hp_0.1 hp_0.2.1 rfl a6) ?_;refine cK (jk 1 (i:=i_7) (j:=0) rfl rfl rfl hp_0.1 hp_0.2.1 a6 rfl (ey (hp_0.2.2 i_7 a6)) rfl) ?_;have hd30_1:=(GDomain.c1 (hp_0.2.2 i_7 a6)).2;haveI:=hd30_1.oneC;refine iJ ?_;rintro _ _ ⟨g4,rfl,rfl⟩;refine jX ?_;refine cR (T.seq (T.seq ?_));refine dg (ι:=Unit) (fun z=>[(1, .pointer (some ⟨g1,0,none⟩)),(3, .int .i64 (i_7:Int)),(4, .pointer (some ⟨g4,0,none⟩)),(56, .bool (((!(ki ((cH p.Domains i_7).Station)))||((decide (0<(i_7:Int)))&&(decide ((cH p.Domains i_7).Station≤(cH p.Domains (((i_7:Int) - 1).toNat)).Station))))||(decide (50<(((cH p.Domains i_7).Channels).length:Int)))))]) (fun z=>[.row g4 59 [.int .i64 ((cH p.Domains i_7).Station),(cH (cH cp_0 i_7) 1)], .row g1 31 [vp_0,vp_1,vp_2,vp_3], .fr F1]) (fun z=>True) ?_ ?_
      ·refine dF (sN 0 2 (.eff 2 (sN 3 22 (.still 25 .done)))) _ a8 (List.Sublist.refl _) ?_;refine lR ?_;refine cQ rfl (Wt.none) rfl rfl (cL rfl rfl rfl (fun w hw=>zbq _ w (hw.fr (i:=2) rfl) ((cH p.Domains i_7).Station))) ?_;refine q3M ?_;refine dz rfl rfl rfl rfl (fun h9=>?_) (fun h9=>?_)
       ·refine TS.run 21 rfl ?_;refine fv ?_;exact cP () trivial (.c (.c (.c (.b (iz (iz h9)).symm .nil)))) (List.Sublist.refl _)
       ·refine fU ?_;refine dz rfl rfl rfl rfl (fun h10=>?_) (fun h10=>?_)
        ·have p10:=of_decide_eq_true h10;refine gu ?_;refine q2k ?_;refine mq ?_;refine cN rfl (dj (i:=((i_7:Int) - 1).toNat) rfl rfl rfl hp_0.1 hp_0.2.1 a6 a6) ?_;refine cN rfl (fI rfl rfl hp_0.1 hp_0.2.1 a6) ?_;refine cN rfl (d9 2 (i:=((i_7:Int) - 1).toNat) (j:=0) rfl rfl rfl hp_0.1 hp_0.2.1 a6 rfl (GDomain.c0 (hp_0.2.2 (((i_7:Int) - 1).toNat) a6))) ?_;refine eW ?_;refine TS.run 4 rfl ?_;refine dz rfl rfl rfl rfl (fun h11=>?_) (fun h11=>?_)
         ·have p11:=of_decide_eq_true h11;refine TS.run 5 rfl ?_;refine fv ?_;exact cP () trivial (.c (.c (.c (.b (iz (i2 h9 (gG h10 h11))).symm .nil)))) (List.Sublist.refl _)
         ·have p11:=of_decide_eq_false h11;refine eW ?_;refine cN rfl (dn rfl rfl hd30_1 (List.length_map _)) ?_;have hm54:((cH p.Domains i_7).Channels).length≤9223372036854775807:=(List.length_map _)▸hd30_1.max;refine gE ?_;refine fv ?_;exact cP () trivial (.c (.c (.c (.b (iA (i2 h9 (gG h10 h11))) .nil)))) (List.Sublist.refl _)
        ·have p10:=of_decide_eq_false h10;refine TS.run 13 rfl ?_;refine eW ?_;refine cN rfl (dn rfl rfl hd30_1 (List.length_map _)) ?_;have hm54:((cH p.Domains i_7).Channels).length≤9223372036854775807:=(List.length_map _)▸hd30_1.max;refine gE ?_;refine fv ?_;exact cP () trivial (.c (.c (.c (.b (iA (i2 h9 (fA h10))) .nil)))) (List.Sublist.refl _)
      ·rintro _ _;have hm54:((cH p.Domains i_7).Channels).length≤9223372036854775807:=(List.length_map _)▸hd30_1.max;refine T.cond rfl (fun h12=>?_) (fun h12=>?_)
       ·replace hk:=dH hk h12;refine ic ?_;refine cR (T.ret (dZ (eV (dZ (dZ (eV (dZ ?_)))))));obtain rfl:=Option.some.inj hk;exact eX
       ·have p12:=h12; (try simp only [cT] at p12);replace hk:=dL hk h12;refine i1 ?_;refine dR ?_;have hq:=gF hk;clear hk;obtain ⟨f13,kk13,hf13,hkk13,hk⟩:=hq;refine fV ?_;refine T.loop (ι:=Nat) (fun z=>[(1, .pointer (some ⟨g1,0,none⟩)),(3, .int .i64 (i_7:Int)),(4, .pointer (some ⟨g4,0,none⟩)),(5, .int .i64 (z:Int))]) (fun z=>[.row g4 59 [.int .i64 ((cH p.Domains i_7).Station),(cH (cH cp_0 i_7) 1)], .row g1 31 [vp_0,vp_1,vp_2,vp_3], .fr F1]) (fun z=>dh f13 kk13 ((((cH p.Domains i_7).Channels).length) - z) z ()=some r) (fun z=>(((cH p.Domains i_7).Channels).length) - z) 0 ?_ ?_ ?_ ?_
        ·exact hk
        ·exact mc
        ·exact fQ
        ·rintro k_14 hk;refine iX ?_;refine i7 ?_;refine cK (dn rfl rfl hd30_1 (List.length_map _)) ?_;refine dR ?_;refine T.cond rfl (fun h15=>?_) (fun h15=>?_)
         ·have p15:=of_decide_eq_true h15;rw [gH a6] at hk;generalize hn13:dh f13 kk13 ((((cH p.Domains i_7).Channels).length) - (k_14+1)) (k_14+1)=next13 at hk;rw [←hf13] at hk; (try dsimp only at hk);refine lA ?_;refine dg (ι:=Unit) (fun z=>[(1, .pointer (some ⟨g1,0,none⟩)),(3, .int .i64 (i_7:Int)),(4, .pointer (some ⟨g4,0,none⟩)),(5, .int .i64 (k_14:Int)),(95, .bool (((decide ((cH ((cH p.Domains i_7).Channels) k_14)<2))||(decide (51<(cH ((cH p.Domains i_7).Channels) k_14))))||((decide (0<(k_14:Int)))&&(decide ((cH ((cH p.Domains i_7).Channels) k_14)≤(cH ((cH p.Domains i_7).Channels) (((k_14:Int) - 1).toNat)))))))]) (fun z=>[.row g4 59 [.int .i64 ((cH p.Domains i_7).Station),(cH (cH cp_0 i_7) 1)], .row g1 31 [vp_0,vp_1,vp_2,vp_3], .fr F1]) (fun z=>True) ?_ ?_
          ·refine dF (sN 0 31 (.still 31 .done)) _ a8 (List.Sublist.refl _) ?_;refine q1J ?_;refine gE ?_;refine dz rfl rfl rfl rfl (fun h16=>?_) (fun h16=>?_)
           ·have p16:=of_decide_eq_true h16;refine TS.run 25 rfl ?_;refine fv ?_;exact cP () trivial (.c (.c (.c (.c (.b (iz (iz h16)).symm .nil))))) (List.Sublist.refl _)
           ·have p16:=of_decide_eq_false h16;refine q1J ?_;refine fU ?_;refine dz rfl rfl rfl rfl (fun h17=>?_) (fun h17=>?_)
            ·have p17:=of_decide_eq_true h17;refine TS.run 17 rfl ?_;refine fv ?_;exact cP () trivial (.c (.c (.c (.c (.b (iz (i2 h16 h17)).symm .nil))))) (List.Sublist.refl _)
            ·have p17:=of_decide_eq_false h17;refine fU ?_;refine dz rfl rfl rfl rfl (fun h18=>?_) (fun h18=>?_)
             ·have p18:=of_decide_eq_true h18;refine eW ?_;refine eR ?_;refine mq ?_;refine cN rfl (dj (i:=((k_14:Int) - 1).toNat) rfl rfl rfl hd30_1 (List.length_map _) a6 a6) ?_;refine cN rfl (ek 2 (i:=((k_14:Int) - 1).toNat) (j:=0) rfl rfl rfl hd30_1 a6) ?_;refine q1J ?_;refine fU ?_;refine fv ?_;exact cP () trivial (.c (.c (.c (.c (.b (Eq.trans (kJ h18) (iA (i2 h16 h17))) .nil))))) (List.Sublist.refl _)
             ·have p18:=of_decide_eq_false h18;refine TS.run 14 rfl ?_;refine fv ?_;exact cP () trivial (.c (.c (.c (.c (.b (i2 (i2 h16 h17) (fA h18)).symm .nil))))) (List.Sublist.refl _)
          ·rintro _ _;refine T.cond rfl (fun h19=>?_) (fun h19=>?_)
           ·replace hk:=dH hk h19;refine ic ?_;refine cR (T.ret (eV (dZ (dZ (eV (eV (dZ (dZ (eV (dZ ?_))))))))));obtain rfl:=Option.some.inj hk;exact eX
           ·have p19:=h19; (try simp only [cT] at p19);replace hk:=dL hk h19;refine iS ?_;rw [←hn13] at hk;exact K.next (k_14+1) hk a6 (.c (.c (.c (.c .nil)))) (List.Sublist.refl _)
         ·have p15:=of_decide_eq_false h15;rw [gK a6,←hkk13] at hk; (try dsimp only at hk);refine T.exit (d3 (d3 (fy (eQ (K.seq (T.region ?_))))));refine dc ?_;refine ku ?_;rw [←hn6] at hk;refine K.pick [1,2] rfl a7 ?_;exact K.next (i_7+1) hk a6 (.c (.c .nil)) (List.Sublist.refl _)
     ·have p8:=of_decide_eq_false h8;rw [gK a6,←hkk6] at hk; (try dsimp only at hk);refine fu ?_;exact cP () hk (.c .nil) (List.Sublist.refl _)
   ·rintro _ hk;rw [←hk5] at hk; (try dsimp only at hk);refine q3O ?_;have hq:=fq hk;clear hk;obtain ⟨k20,hk20,hk⟩:=hq; (try dsimp only at hk);refine dg (ι:=Unit) (fun z=>[(1, .pointer (some ⟨g1,0,none⟩))]) (fun z=>[.row g1 31 [vp_0,vp_1,vp_2,vp_3], .fr F1]) (fun z=>k20 ()=some r) ?_ ?_
    ·have hq:=gF hk;clear hk;obtain ⟨f21,kk21,hf21,hkk21,hk⟩:=hq;refine fV ?_;refine T.loop (ι:=Nat) (fun z=>[(1, .pointer (some ⟨g1,0,none⟩)),(6, .int .i64 (z:Int))]) (fun z=>[.row g1 31 [vp_0,vp_1,vp_2,vp_3], .fr F1]) (fun z=>dh f21 kk21 (p.Rules.Pairs.length - z) z ()=some r) (fun z=>p.Rules.Pairs.length - z) 0 ?_ ?_ ?_ ?_
     ·exact hk
     ·exact q30
     ·exact fQ
     ·rintro i_22 hk;refine q3E ?_;refine em ?_;refine cK (dn rfl rfl hp_1 (List.length_map _)) ?_;have hm100:p.Rules.Pairs.length≤9223372036854775807:=(List.length_map _)▸hp_1.max;refine dR ?_;refine T.cond rfl (fun h23=>?_) (fun h23=>?_)
      ·have p23:=of_decide_eq_true h23;rw [gH a6] at hk;generalize hn21:dh f21 kk21 (p.Rules.Pairs.length - (i_22+1)) (i_22+1)=next21 at hk;rw [←hf21] at hk; (try dsimp only at hk);refine lA ?_;refine dg (ι:=Unit) (fun z=>[(1, .pointer (some ⟨g1,0,none⟩)),(6, .int .i64 (i_22:Int)),(125, .bool ((decide ((iT p ((cH p.Rules.Pairs i_22).A))<0))||(decide ((iT p ((cH p.Rules.Pairs i_22).B))<0))))]) (fun z=>[.row g1 31 [vp_0,vp_1,vp_2,vp_3], .fr F1]) (fun z=>True) ?_ ?_
       ·refine q1Q ?_;refine q3r ?_;refine cN rfl (ek 1 (i:=i_22) (j:=0) rfl rfl rfl hp_1 a6) ?_;refine dx ?_;refine cQ rfl (Wt.none) rfl rfl (cL rfl rfl rfl (fun w hw=>zck _ w (hw.fr (i:=1) rfl) p vp_0 cp_0 hp_0 vp_1 hp_1 vp_2 hp_2 vp_3 hp_3 ((cH p.Rules.Pairs i_22).A))) ?_;refine q3M ?_;refine dz rfl rfl rfl rfl (fun h24=>?_) (fun h24=>?_)
        ·have p24:=of_decide_eq_true h24;refine TS.run 8 rfl ?_;refine iZ ?_;refine gE ?_;refine fv ?_;exact cP () trivial (.c (.c (.b (iz h24).symm .nil))) (List.Sublist.refl _)
        ·have p24:=of_decide_eq_false h24;refine jM ?_;refine gu ?_;refine eW ?_;refine eR ?_;refine q3r ?_;refine cN rfl (ek 1 (i:=i_22) (j:=1) rfl rfl rfl hp_1 a6) ?_;refine dx ?_;refine cQ rfl (Wt.some) rfl rfl (cL rfl rfl rfl (fun w hw=>zck _ w (hw.fr (i:=1) rfl) p vp_0 cp_0 hp_0 vp_1 hp_1 vp_2 hp_2 vp_3 hp_3 ((cH p.Rules.Pairs i_22).B))) ?_;refine q3M ?_;refine fv ?_;exact cP () trivial (.c (.c (.b (iA h24) .nil))) (List.Sublist.refl _)
       ·rintro _ _;refine T.cond rfl (fun h25=>?_) (fun h25=>?_)
        ·replace hk:=dH hk h25;refine jc ?_;obtain rfl:=Option.some.inj hk;exact eX
        ·have p25:=h25; (try simp only [cT] at p25);replace hk:=dL hk h25;refine iS ?_;rw [←hn21] at hk;exact K.next (i_22+1) hk a6 (.c (.c .nil)) (List.Sublist.refl _)
      ·have p23:=of_decide_eq_false h23;rw [gK a6,←hkk21] at hk; (try dsimp only at hk);refine fu ?_;exact cP () hk (.c .nil) (List.Sublist.refl _)
    ·rintro _ hk;rw [←hk20] at hk; (try dsimp only at hk);refine q3O ?_;have hq:=fq hk;clear hk;obtain ⟨k26,hk26,hk⟩:=hq; (try dsimp only at hk);refine dg (ι:=Unit) (fun z=>[(1, .pointer (some ⟨g1,0,none⟩))]) (fun z=>[.row g1 31 [vp_0,vp_1,vp_2,vp_3], .fr F1]) (fun z=>k26 ()=some r) ?_ ?_
     ·have hq:=gF hk;clear hk;obtain ⟨f27,kk27,hf27,hkk27,hk⟩:=hq;refine fV ?_;refine T.loop (ι:=Nat) (fun z=>[(1, .pointer (some ⟨g1,0,none⟩)),(7, .int .i64 (z:Int))]) (fun z=>[.row g1 31 [vp_0,vp_1,vp_2,vp_3], .fr F1]) (fun z=>dh f27 kk27 (p.Rules.Loads.length - z) z ()=some r) (fun z=>p.Rules.Loads.length - z) 0 ?_ ?_ ?_ ?_
      ·exact hk
      ·exact q30
      ·exact fQ
      ·rintro i_28 hk;refine q3E ?_;refine em ?_;refine cK (dn rfl rfl hp_2 (List.length_map _)) ?_;have hm130:p.Rules.Loads.length≤9223372036854775807:=(List.length_map _)▸hp_2.max;refine dR ?_;refine T.cond rfl (fun h29=>?_) (fun h29=>?_)
       ·have p29:=of_decide_eq_true h29;rw [gH a6] at hk;generalize hn27:dh f27 kk27 (p.Rules.Loads.length - (i_28+1)) (i_28+1)=next27 at hk;rw [←hf27] at hk; (try dsimp only at hk);refine lA ?_;refine dg (ι:=Unit) (fun z=>[(1, .pointer (some ⟨g1,0,none⟩)),(7, .int .i64 (i_28:Int)),(155, .bool ((decide ((iT p ((cH p.Rules.Loads i_28).To))<0))||(decide ((iT p ((cH p.Rules.Loads i_28).From))<0))))]) (fun z=>[.row g1 31 [vp_0,vp_1,vp_2,vp_3], .fr F1]) (fun z=>True) ?_ ?_
        ·refine q1Q ?_;refine q3s ?_;refine cN rfl (ek 1 (i:=i_28) (j:=0) rfl rfl rfl hp_2 a6) ?_;refine dx ?_;refine cQ rfl (Wt.none) rfl rfl (cL rfl rfl rfl (fun w hw=>zck _ w (hw.fr (i:=1) rfl) p vp_0 cp_0 hp_0 vp_1 hp_1 vp_2 hp_2 vp_3 hp_3 ((cH p.Rules.Loads i_28).To))) ?_;refine q3M ?_;refine dz rfl rfl rfl rfl (fun h30=>?_) (fun h30=>?_)
         ·have p30:=of_decide_eq_true h30;refine TS.run 8 rfl ?_;refine iZ ?_;refine gE ?_;refine fv ?_;exact cP () trivial (.c (.c (.b (iz h30).symm .nil))) (List.Sublist.refl _)
         ·have p30:=of_decide_eq_false h30;refine jM ?_;refine gu ?_;refine eW ?_;refine eR ?_;refine q3s ?_;refine cN rfl (ek 1 (i:=i_28) (j:=1) rfl rfl rfl hp_2 a6) ?_;refine dx ?_;refine cQ rfl (Wt.some) rfl rfl (cL rfl rfl rfl (fun w hw=>zck _ w (hw.fr (i:=1) rfl) p vp_0 cp_0 hp_0 vp_1 hp_1 vp_2 hp_2 vp_3 hp_3 ((cH p.Rules.Loads i_28).From))) ?_;refine q3M ?_;refine fv ?_;exact cP () trivial (.c (.c (.b (iA h30) .nil))) (List.Sublist.refl _)
        ·rintro _ _;refine T.cond rfl (fun h31=>?_) (fun h31=>?_)
         ·replace hk:=dH hk h31;refine jc ?_;obtain rfl:=Option.some.inj hk;exact eX
         ·have p31:=h31; (try simp only [cT] at p31);replace hk:=dL hk h31;refine iS ?_;rw [←hn27] at hk;exact K.next (i_28+1) hk a6 (.c (.c .nil)) (List.Sublist.refl _)
       ·have p29:=of_decide_eq_false h29;rw [gK a6,←hkk27] at hk; (try dsimp only at hk);refine fu ?_;exact cP () hk (.c .nil) (List.Sublist.refl _)
     ·rintro _ hk;rw [←hk26] at hk; (try dsimp only at hk);refine q3O ?_;have hq:=fq hk;clear hk;obtain ⟨k32,hk32,hk⟩:=hq; (try dsimp only at hk);refine dg (ι:=Unit) (fun z=>[]) (fun z=>[.fr F1]) (fun z=>k32 ()=some r) ?_ ?_
      ·have hq:=gF hk;clear hk;obtain ⟨f33,kk33,hf33,hkk33,hk⟩:=hq;refine fV ?_;refine T.loop (ι:=Nat) (fun z=>[(1, .pointer (some ⟨g1,0,none⟩)),(8, .int .i64 (z:Int))]) (fun z=>[.row g1 31 [vp_0,vp_1,vp_2,vp_3], .fr F1]) (fun z=>dh f33 kk33 (p.Rules.Caps.length - z) z ()=some r) (fun z=>p.Rules.Caps.length - z) 0 ?_ ?_ ?_ ?_
       ·exact hk
       ·exact q30
       ·exact fQ
       ·rintro i_34 hk;refine q3E ?_;refine em ?_;refine cK (dn rfl rfl hp_3 (List.length_map _)) ?_;have hm160:p.Rules.Caps.length≤9223372036854775807:=(List.length_map _)▸hp_3.max;refine dR ?_;refine T.cond rfl (fun h35=>?_) (fun h35=>?_)
        ·have p35:=of_decide_eq_true h35;rw [gH a6] at hk;generalize hn33:dh f33 kk33 (p.Rules.Caps.length - (i_34+1)) (i_34+1)=next33 at hk;rw [←hf33] at hk; (try dsimp only at hk);refine q26 ?_;refine jM ?_;refine gu ?_;refine eW ?_;refine eR ?_;refine cN rfl (dj (i:=i_34) rfl rfl rfl hp_3 (List.length_map _) rfl a6) ?_;refine cN rfl (fI rfl rfl hp_3 (List.length_map _) a6) ?_;refine cN rfl (ek 1 (i:=i_34) (j:=0) rfl rfl rfl hp_3 a6) ?_;refine dx ?_;refine cQ rfl (Wt.none) rfl rfl (cL rfl rfl rfl (fun w hw=>zck _ w (hw.fr (i:=1) rfl) p vp_0 cp_0 hp_0 vp_1 hp_1 vp_2 hp_2 vp_3 hp_3 ((cH p.Rules.Caps i_34).Station))) ?_;refine jh ?_;refine kM ?_;refine T.cond rfl (fun h36=>?_) (fun h36=>?_)
         ·have p36:=of_decide_eq_true h36;replace hk:=dH hk h36;refine jc ?_;obtain rfl:=Option.some.inj hk;exact eX
         ·have p36:=of_decide_eq_false h36;replace hk:=dL hk h36;refine iS ?_;rw [←hn33] at hk;exact K.next (i_34+1) hk a6 (.c (.c .nil)) (List.Sublist.refl _)
        ·have p35:=of_decide_eq_false h35;rw [gK a6,←hkk33] at hk; (try dsimp only at hk);refine fu ?_;refine mY ?_;exact mg
      ·rintro _ hk;rw [←hk32] at hk; (try dsimp only at hk);refine ld ?_;obtain rfl:=Option.some.inj hk;exact eX
end Go.Proofs.YtgoeeefoinkepaaGreatDoor
