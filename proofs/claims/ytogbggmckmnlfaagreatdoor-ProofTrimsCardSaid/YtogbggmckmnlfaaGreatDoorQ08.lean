/- Ff Fo St Fv Sz Ka Yb: shortened and put together by squeeze.py. -/
import Derived.Test.YtogbggmckmnlfaaGreatDoorQ07
import Derived.Laws.Slices
set_option maxRecDepth 100000
set_option maxHeartbeats 4000000
set_option linter.unusedVariables false
set_option linter.unusedSectionVars false
set_option linter.unusedSimpArgs false
namespace Go.Proofs.YtogbggmckmnlfaaGreatDoor
open Go.RowKit
def mK (v:Value)(l h k:Nat):Value:=match v with
 | .slice a _ cap=>sliced a l h cap k
 |x=>x
theorem SlC.slice {F:Frz}{v:Value}{size:Nat}{cs:List (List Value)}(h:SlC F v size cs){l i:Nat}(hl:l≤i)(hi:i≤cs.length):SlC F (mK v l i size) size ((cs.take i).drop l):=by
 obtain ⟨A,cap,rfl,h2,h3,h4,h5⟩:=h; (have hlen:((cs.take i).drop l).length=i - l:=by rw [List.length_drop,List.length_take];omega);have hmem:∀c∈(cs.take i).drop l,c∈cs:=fun c hc=>List.mem_of_mem_take (List.mem_of_mem_drop hc);refine ⟨if cap=l then A else A.map (·.add (l*size)),cap - l,?_,by omega,by omega,fun c hc=>h4 c (hmem c hc),fun hp=>?_⟩
 ·rw [hlen];rfl
 ·rw [hlen] at hp;obtain ⟨g,off,rfl,hg,hc⟩:=h5 a5;rw [if_neg a5];refine ⟨g,off+l*size,by simp [zeb],hg,fun j hj=>?_⟩;rw [hlen] at hj;have h6:=hc (l+j) a5
  have e:cJ ((cs.take i).drop l) j=cJ cs (l+j):=by
   rw [dV a5,dV a5,List.getElem_drop,List.getElem_take]
  rw [e,show off+l*size+j*size=off+(l+j) *size by rw [Nat.add_mul];omega];exact h6
theorem SlD.slice {α:Type}[Inhabited α]{rep:Frz→List Value→α→Prop}{F:Frz}{v:Value}{size:Nat}{cs:List (List Value)}{xs:List α}(h:SlD rep F v size cs xs){l i:Nat}(hl:l≤i)(hi:i≤xs.length):SlD rep F (mK v l i size) size ((cs.take i).drop l) ((xs.take i).drop l):=by
 refine ⟨h.1.slice hl (by rw [h.2.1];exact hi),?_,fun j hj=>?_⟩
 ·rw [List.length_drop,List.length_take,List.length_drop,List.length_take,h.2.1]
 ·have hj':=hj;rw [List.length_drop,List.length_take] at hj'
  have e:cJ ((cs.take i).drop l) j=cJ cs (l+j):=by
   rw [dV (by rw [List.length_drop,List.length_take,h.2.1];omega),dV (by rw [h.2.1];omega),List.getElem_drop,List.getElem_take]
  have e':cJ ((xs.take i).drop l) j=cJ xs (l+j):=by
   rw [dV hj,dV a5,List.getElem_drop,List.getElem_take]
  rw [e,e'];exact h.2.2 _ a5
section
variable {F:Frz}{v:Value}{size:Nat}
theorem SlC.sliceh {α:Type}{enc:α→List Value}{xs:List α}(h:SlC F v size (xs.map enc)){i:Nat}(hi:i≤xs.length):SlC F (mK v 0 i size) size ((xs.take i).map enc):=by
 have:=h.slice (l:=0) (i:=i) (Nat.zero_le _) (by rw [List.length_map];exact hi)
 rwa [List.drop_zero,←List.map_take] at this
variable {α:Type}[Inhabited α]{rep:Frz→List Value→α→Prop}{cs:List (List Value)}{xs:List α}
theorem SlD.sliceh (h:SlD rep F v size cs xs){i:Nat}(hi:i≤xs.length):SlD rep F (mK v 0 i size) size (cs.take i) (xs.take i):=by
 have:=h.slice (l:=0) (Nat.zero_le _) hi
 rwa [List.drop_zero,List.drop_zero] at this
end
section
variable {P:Program}{n:Nat}{B:World}{M:Nat→Prop}{fs:d4}{hs:HS}{o:Oper}{v:Value}
theorem TySl.elem {t e k:Nat}(h:TySl P t e k):P.underlying t=some (.slice (P.elem t))∧∀w,(sizeOf (P.elem t)).run P w= .ok k w:=by
 have h:=h.h;unfold zfY at h
 split at h
 ·rename_i el hU; (have he:P.elem t=el:=by unfold Program.elem;rw [hU])
  cases hi':P.info? el with
  |none=>rw [hi'] at h;cases h
  |some inf=>
   rw [hi'] at h
   cases h
   refine ⟨by rw [he];exact hU,fun w=>?_⟩;rw [he];simp [sizeOf,typeInfo,hi']
 ·cases h
theorem nR {F:Frz}{t e k i m:Nat}{z:Int}{q:IntKind}{cs:List (List Value)}{x y:Operand}[hT:TySl P t e k](ho:o.op= .slice t x none (some y) none)(hx:ev fs x=some v)(hy:ev fs y=some (.int q z))(h:SlC F v k cs)(hm:cs.length=m)(hz:z=(i:Int))(hi:i≤m):Yv P n B M fs hs o (mK v 0 i k):=fun a w ha _=>by
 subst hm hz;obtain ⟨A,cap,rfl,h2,h3,h4,h5⟩:=h;unfold execOp;have:=run_slice_h (P:=P) w t A cs.length cap hT.elem.1 q (i:Int) a5 a5;simp [ho,ha.ev hx,ha.ev hy,run_sliceAt_slice w t _ _ _ _ hT.elem.1,this,hT.elem.2,mK]
end
structure FxM (F:Frz) (w:World) (M:Nat→Prop) (G:Frz) (es:HS) (w':World):Prop where
 le:F.Le G
 at_:G.At w'
 hp:Hp w M es w'
 new:∀g,G.S g→F.S g∨M g∨w.heap.size≤g
 ap:∀e∈es,∀g,e.fp g→¬G.S g
theorem zg1:dG []=fun _=>False:=by funext g;unfold dG;simp
section
variable {B w w':World}{M S0:Nat→Prop}{hs:HS}{F:FzB B M S0}
theorem dx {F0:Frz}{es:HS}{G:FzB B M S0}(hw:Hp B M (es++[Ent.fr G]) w')(hS:∀g,S0 g→F0.S g)(hle:F0.Le G.toFrz):FxM F0 B M G.toFrz es w':=by
 have h1:=hw;have h2:=List.pairwise_append.1 h1.apart;refine ⟨hle,hw.fr (i:=es.length) a9,hw.sub (List.sublist_append_left _ _),fun g hg=>(G.new g hg).imp (hS g) id,fun e he g hg hS=>?_⟩;refine h2.2.2 e he (.fr G) a9 g hg (dw.2 ⟨hS,?_⟩);exact h1.new e (List.mem_append_left _ he) g hg
theorem FxM.up {M':Nat→Prop}{G:Frz}{es:HS}(h:FxM F.toFrz w M' G es w')(hw:Hp B M hs w)(hM:∀g,M' g→M g∨B.heap.size≤g):∃G':FzB B M S0,G'.toFrz=G:=by
 refine ⟨⟨G,fun g hg hb hm=>?_,fun g hg=>?_⟩,rfl⟩
 ·rcases h.new g hg with h1|h1|h1
  ·rw [(h.le g h1).2,F.base g h1 hb hm]
  ·rcases hM g h1 with h2|h2
   ·exact absurd h2 hm
   ·omega
  ·have:=hw.size;omega
 ·rcases h.new g hg with h1|h1|h1
  ·exact F.new g h1
  ·exact .inr (hM g h1)
  ·have:=hw.size;exact .inr (.inr a5)
end
section
variable {P:Program}{n:Nat}{B D:World}{M S0:Nat→Prop}{fs:d4}{hs:HS}{o:Oper}{v:Value}
theorem eN (idx : List Nat) (bs rest : HS) {ι : Type} {F : FzB B M S0} {φ : ι → Frz → Prop} {val : ι → Value} {es : ι → HS} {c : Operand} {xs : Array Operand} {ts : Array TypeId} {f : FuncId} {fst caps : Array Value} {vs : List Value} [hE : Enters P f]
    (ho : o.op = .call { callee := .value c, args := xs, argTypes := ts }) (hc : ev fs c = some (.func (.func f) fst caps)) (hv : evs fs xs.toList = some vs) (hp : mQ hs idx = some (bs ++ .fr F :: rest)) (hn : idx.Nodup)
    (C : ∀ w, Hp B M hs w → Hp B M (bs ++ .fr F :: rest) w → F.toFrz.At w → Calls P f (fst.toList ++ vs ++ caps.toList).toArray w (fun e w' => ∃ y G, φ y G ∧ e = .returned (val y) ∧ FxM F.toFrz w (dG bs) G (es y) w')) :
    Ew P n B M fs hs o (fun v hs'' => ∃ y, ∃ G : FzB B M S0, F.toFrz.Le G.toFrz ∧ φ y G.toFrz ∧ v = val y ∧ hs'' = es y ++ .fr G :: rest) :=
  Ew.call ho hc hv fun w hw => by
    have hw2 := hw.pick hp hn; have hF : F.toFrz.At w := hw2.fr (i := bs.length) a9; refine (C w hw hw2 hF).mono fun e w' ⟨y, G, hy, he, hx⟩ => ?_; have hM : ∀ g, dG bs g → M g ∨ B.heap.size ≤ g := fun g ⟨e, he, hg⟩ => hw2.new e (List.mem_append_left _ he) g hg; obtain ⟨G', rfl⟩ := hx.up hw2 hM; refine ⟨val y, es y ++ .fr G' :: rest, he, Kp.only hx.hp.only (fun g hg c => ?_), ?_, y, G', hx.le, hy, rfl, rfl⟩
    · obtain ⟨e, h1, h2⟩ := hg; exact e.nd (hw2.own e (List.mem_append_left _ h1)) g h2 c
    · (have h3 : Hp B M ((bs ++ [.fr F]) ++ rest) w := by rw [List.append_assoc]; exact hw2); have h4 := iV (es := bs ++ [.fr F]) (es' := es y ++ [.fr G']) h3 hx.hp.only (fun g _ ⟨e, he, hg⟩ => ⟨e, List.mem_append_left _ he, hg⟩) (fun e he => ?_) (fun e he g hg => ?_) ?_
      · rw [List.append_assoc] at h4; exact h4
      · rcases List.mem_append.1 he with he | he
        · exact hx.hp.own e he
        · simp at he; subst he; exact e9.2 (fun g hg => hx.at_ g hg.1)
      · rcases List.mem_append.1 he with he | he
        · rcases hx.hp.new e he g hg with ⟨f, hf, hfg⟩ | h5
          · exact .inl ⟨f, List.mem_append_left _ hf, hfg⟩
          · exact .inr h5
        · simp at he; subst he; have h6 := dw.1 hg; rcases hx.new g h6.1 with h7 | ⟨f, hf, hfg⟩ | h7
          · exact .inl ⟨.fr F, by simp, dw.2 ⟨h7, h6.2⟩⟩
          · exact .inl ⟨f, List.mem_append_left _ hf, hfg⟩
          · exact .inr h7
      · exact List.pairwise_append.2 ⟨hx.hp.apart, List.pairwise_singleton _ _, fun e he f hf g hg hfg => by
          simp at hf; subst hf
          exact hx.ap e he g hg (dw.1 hfg).1⟩
theorem fo (idx : List Nat) (bs rest : HS) {ι : Type} {F : FzB B M S0} {φ : ι → Prop} {val : ι → Value} {es : ι → HS} {c : Operand} {xs : Array Operand} {ts : Array TypeId} {f : FuncId} {fst caps : Array Value} {vs : List Value} [hE : Enters P f]
    (ho : o.op = .call { callee := .value c, args := xs, argTypes := ts }) (hc : ev fs c = some (.func (.func f) fst caps)) (hv : evs fs xs.toList = some vs) (hp : mQ hs idx = some (bs ++ .fr F :: rest)) (hn : idx.Nodup)
    (C : ∀ w, Hp B M hs w → Hp B M (bs ++ .fr F :: rest) w → F.toFrz.At w → Calls P f (fst.toList ++ vs ++ caps.toList).toArray w (fun e w' => ∃ y, φ y ∧ e = .returned (val y) ∧ FxM F.toFrz w (dG bs) F.toFrz (es y) w')) :
    Ew P n B M fs hs o (fun v hs'' => ∃ y, φ y ∧ v = val y ∧ hs'' = es y ++ .fr F :: rest) :=
  Ew.call ho hc hv fun w hw => by
    have hw2 := hw.pick hp hn; have hF : F.toFrz.At w := hw2.fr (i := bs.length) a9; refine (C w hw hw2 hF).mono fun e w' ⟨y, hy, he, hx⟩ => ?_; refine ⟨val y, es y ++ .fr F :: rest, he, Kp.only hx.hp.only (fun g hg c => ?_), ?_, y, hy, rfl, rfl⟩
    · obtain ⟨e, h1, h2⟩ := hg; exact e.nd (hw2.own e (List.mem_append_left _ h1)) g h2 c
    · exact iV (es := bs) (es' := es y) hw2 hx.hp.only (fun g _ ⟨e, he, hg⟩ => ⟨e, he, hg⟩) hx.hp.own (fun e he g hg => hx.hp.new e he g hg) hx.hp.apart
end
section
variable {w:World}{bs:HS}{F:Frz}
theorem lB (hF:F.At w)(h:Hp w (dG bs) bs w)(hA:∀g,dG bs g→¬F.S g):∃(S0:Nat→Prop) (G:FzB w (dG bs) S0),G.toFrz=F∧(∀g,S0 g→F.S g)∧Hp w (dG bs) (bs++[Ent.fr G]) w:=⟨F.S,im hF _,rfl,fun _ h=>h,lI hF h hA⟩
variable {B:World}{M S0:Nat→Prop}{G:FzB B M S0}{rest:HS}
theorem Hp.takes (h:Hp B M (bs++ .fr G :: rest) w):Hp w (dG bs) bs w∧∀g,dG bs g→¬G.toFrz.S g:=by
 have h1:Hp B M bs w:=h.sub (List.sublist_append_left _ _);refine ⟨ij h1.own h1.apart,fun g ⟨e,he,hg⟩ hS=>?_⟩;exact (List.pairwise_append.1 h.apart).2.2 e he (.fr G) a9 g hg (dw.2 ⟨hS,h1.new e he g hg⟩)
theorem Hp.takes0 (h:Hp B M (bs++ .fr G :: rest) w)(h0:¬M 0)(hB:0<B.heap.size):¬dG bs 0:=fun ⟨e,he,hg⟩=>by
 rcases h.new e (List.mem_append_left _ he) 0 hg with h1|h1
 ·exact h0 h1
 ·omega
end
theorem Tab.pos {w:World}(h:Tab w):0<w.heap.size:=by
 have h0:=h 0 a6;unfold World.cell? at h0;rcases Nat.eq_zero_or_pos w.heap.size with e|e
 ·rw [Array.getElem?_eq_none a5] at h0;simp at h0
 ·exact e
abbrev st2L (k:SK)(v:Value)(L:Ws)(b:Bool):HS:=[.row k.sp 188 [.pointer (some ⟨k.tp,0,none⟩),v, .bool b], .sl v 80 1 k.Y.n (Ws.cells L)]
abbrev eM (k:SK)(v:Value)(L:Ws)(b:Bool):Ent:= .bag (st2L k v L b)
def TbF (F:Frz)(k:SK):Prop:=∀g,jJ k.w0 g→F.S g∧F.w.heap[g]?=k.w0.heap[g]?
theorem TbF.mono {F G:Frz}{k:SK}(h:TbF F k)(hle:F.Le G):TbF G k:=fun g hg=>⟨(hle g (h g hg).1).1,(hle g (h g hg).1).2.trans (h g hg).2⟩
theorem TbF.fz {F:Frz}{k:SK}{w:World}(h:TbF F k)(hF:F.At w):Fz k.w0 w:=fun g hg=>(hF g (h g hg).1).trans (h g hg).2
theorem zgC:∀L:Ws,L.flatMap Le=Ws.cells L
 | []=>rfl
 |b :: r=>by
  rw [List.flatMap_cons,zgC r];rfl
section
variable {p:GProblem}{m:List GDomain×Bool}{k:SK}{v:Value}{L:Ws}{b:Bool}{w w':World}{F F0:Frz}
theorem SI.gl (h:SI p m k L)(gl:GL):SI p m { k with gl:=gl } L:=⟨h.pb,h.tb,h.len,h.good,h.bad⟩
theorem SI.sp (h:SI p m k L)(sp:Nat):SI p m { k with sp:=sp } L:=⟨h.pb,h.tb,h.len,h.good,h.bad⟩
theorem SI.n512 (h:SI p m k L):k.Y.n≤512:=h.ok.n
theorem zcT {g:Nat}{t:TypeId}{l:List Value}{i:Nat}{x:Value}(h:(Ent.row g t l).ok w)(hx:l[i]?=some x):w.cell? ⟨g,i,none⟩=some x:=by rw [jP (c7.1 h)];exact hx
theorem zhQ (h:SI p m k L)(hok:(eM k v L b).ok w)(hf:Fz k.w0 w)(htab:Tab w):StateAt w k.sp k.Y L b:=by
 have h1:=(dp.1 hok).1;have hr:=h1 (.row k.sp 188 [.pointer (some ⟨k.tp,0,none⟩),v, .bool b]) a9;have hl:=cY.1 (h1 (.sl v 80 1 k.Y.n (Ws.cells L)) a9);refine ⟨htab,⟨k.tp,zcT hr rfl,h.tb.later hf⟩,⟨v,zcT hr rfl,?_⟩,h.len,zcT hr rfl⟩;refine SlOf.own (enc:=Le) (size:=1) (fun _=>rfl) (xs:=L) (e:=80) (k:=k.Y.n) ?_ h.len.symm;rw [zgC];exact hl
theorem zoX (h:SI p m k L)(hok:(eM k v L b).ok w)(hn:0<k.Y.n):∃gl:GL,v=sG gl k.Y.n:=by
 have h1:=(dp.1 hok).1;have hl:=cY.1 (h1 (.sl v 80 1 k.Y.n (Ws.cells L)) a9);rcases hl.2 with ⟨_,h0⟩|⟨g,cap,cur,rfl,_⟩
 ·omega
 ·exact ⟨⟨g,cap⟩,rfl⟩
theorem zn4 {gl:GL}(hok:(eM k (sG gl k.Y.n) L b).ok w)(hf:Fz k.w0 w)(hap:∀g,(eM k (sG gl k.Y.n) L b).fp g→¬jJ k.w0 g):(i6 { k with gl:=gl } L b).ok w:=by
 obtain ⟨h1,h2⟩:=dp.1 hok;refine dp.2 ⟨fun e he=>?_,?_⟩
 ·simp at he;rcases he with rfl|rfl|rfl
  ·exact h1 _ a9
  ·exact h1 _ a9
  ·exact fq.2 hf
 ·show ([dF k.sp gl k.tp k.Y.n b,eX gl k.Y.n L]++[Ent.fz k.w0]).Pairwise _
  refine List.pairwise_append.2 ⟨h2,List.pairwise_singleton _ _,fun e he f hf' g hg hfg=>?_⟩;simp only [List.mem_singleton] at hf';subst hf';exact hap g (dm.2 ⟨e,he,hg⟩) (eZ.1 hfg)
theorem zpg {gl:GL}{L':Ws}{b':Bool}(hf:Fz k.w0 w)(h:Hp w (i6 { k with gl:=gl } L b).fp [i6 { k with gl:=gl } L' b'] w'):Hp w (eM k (sG gl k.Y.n) L b).fp [eM k (sG gl k.Y.n) L' b'] w':=by
 have hok:=h.own (i6 { k with gl:=gl } L' b') a9;obtain ⟨h1,h2⟩:=dp.1 hok;have h3:([dF k.sp gl k.tp k.Y.n b',eX gl k.Y.n L']++[Ent.fz k.w0]).Pairwise fun e f=>∀g,e.fp g→¬f.fp g:=h2;obtain ⟨a1,a2,a3⟩:=List.pairwise_append.1 h3;have hf':Fz k.w0 w':=fq.1 (h1 (.fz k.w0) a9);have hsp:∀g,(eM k (sG gl k.Y.n) L' b').fp g↔∃e∈[dF k.sp gl k.tp k.Y.n b',eX gl k.Y.n L'],e.fp g:=fun g=>dm;have hfp:∀g,(eM k (sG gl k.Y.n) L b).fp g↔∃e∈[dF k.sp gl k.tp k.Y.n b,eX gl k.Y.n L],e.fp g:=fun g=>dm
 have hE:∀g,(i6 { k with gl:=gl } L b).fp g↔(eM k (sG gl k.Y.n) L b).fp g∨jJ k.w0 g:=fun g=>by
  rw [hfp,dm];simp only [List.mem_cons,List.not_mem_nil,or_false,exists_eq_or_imp,exists_eq_left,eZ];exact or_assoc.symm
 refine ⟨h.os,h.tape,h.output,h.size,fun g hg hn=>?_,fun e he=>?_,fun e he g hg=>?_,List.pairwise_singleton _ _⟩
 ·by_cases hc:jJ k.w0 g
  ·rw [hf' g hc,hf g hc]
  ·exact h.base g hg (fun hh=>((hE g).1 hh).elim hn hc)
 ·simp at he;subst he;exact q5F
 ·simp at he;subst he;have hg':=(hsp g).1 hg;obtain ⟨x,hx,hxg⟩:=hg';rcases h.new (i6 { k with gl:=gl } L' b') a9 g (dm.2 ⟨x,by simp at hx ⊢;rcases hx with h|h <;> simp [h],hxg⟩) with h4|h4
  ·rcases (hE g).1 h4 with h5|h5
   ·exact .inl h5
   ·exact absurd (eZ.2 h5) (a3 x hx (.fz k.w0) a9 g hxg)
  ·exact .inr h4
theorem ze5 (h:SI p m k L)(tf:TbF F k)(hok:(eM k v L (!m.2)).ok w)(hF:F.At w)(htab:Tab w):Calls Tryz.prog 144 #[.pointer (some ⟨k.sp,0,none⟩)] w fun e w'=>e= .returned (.bool (!m.2))∧Below w.heap.size w w':=zix (zhQ h hok (tf.fz hF) htab)
theorem znc (h:SI p m k L)(tf:TbF F k)(hok:(eM k v L (!m.2)).ok w)(hF:F.At w)(htab:Tab w):Calls Tryz.prog 160 #[.pointer (some ⟨k.sp,0,none⟩)] w fun e w'=>∃(y:Value) (G:Frz),SlC G y 2 ((jf m).map cV)∧e= .returned y∧Fx F w G w':=zl2 hF h (zhQ h hok (tf.fz hF) htab)
theorem zpD (h:SI p m k L)(tf:TbF F k)(hok:(eM k v L (!m.2)).ok w)(hF:F.At w)(htab:Tab w)(c:GChoice):Calls Tryz.prog 161 #[.pointer (some ⟨k.sp,0,none⟩), .agg [.int .i64 c.Station, .int .i64 c.Channel].toArray] w fun e w'=>e= .returned (.bool (zhq m c))∧Below w.heap.size w w':=zog h (zhQ h hok (tf.fz hF) htab) c
theorem znM (kp : Bool) (num : FuncId) (h : SI p m k L) (tf : TbF F k) (hok : (eM k v L (!m.2)).ok w) (hF : F.At w) (hap : ∀ g, (eM k v L (!m.2)).fp g → ¬ F.S g) (htab : Tab w) {fuel : Nat} (c : GChoice) {r : (List GDomain × Bool) × Int} (hr : mP fuel p m kp c = some r)
    (hE : (gu k.Y (!m.2) c.b).2 ≠ 0 → Calls Tryz.prog num #[.pointer (some ⟨k.sp, 0, none⟩), .agg (Ch.cells c.b).toArray] w fun e w' => e = .returned (.int .i64 (gu k.Y (!m.2) c.b).2) ∧ Below w.heap.size w w')
    (hO : ∀ gl : GL, SI p m { k with gl := gl } L → (i6 { k with gl := gl } L (!m.2)).ok w → Calls Tryz.prog num #[.pointer (some ⟨k.sp, 0, none⟩), .agg [.int .i64 c.Station, .int .i64 c.Channel].toArray] w fun e w' => ∃ L', SI p r.1 { k with gl := gl } L' ∧ e = .returned (.int .i64 r.2) ∧ Hp w (i6 { k with gl := gl } L (!m.2)).fp [i6 { k with gl := gl } L' (!r.1.2)] w') :
    Calls Tryz.prog num #[.pointer (some ⟨k.sp, 0, none⟩), .agg [.int .i64 c.Station, .int .i64 c.Channel].toArray] w fun e w' => ∃ L', SI p r.1 k L' ∧ e = .returned (.int .i64 r.2) ∧ Hp w (eM k v L (!m.2)).fp [eM k v L' (!r.1.2)] w' := by
  have hfit := zl4 h (c := c)
  have keepE : ∀ {n : Int}, r = (m, n) → (gu k.Y (!m.2) c.b).2 = n → n ≠ 0 → Calls Tryz.prog num #[.pointer (some ⟨k.sp, 0, none⟩), .agg [.int .i64 c.Station, .int .i64 c.Channel].toArray] w fun e w' => ∃ L', SI p r.1 k L' ∧ e = .returned (.int .i64 r.2) ∧ Hp w (eM k v L (!m.2)).fp [eM k v L' (!r.1.2)] w' := by
    intro n hr hc hn; subst hr;refine (hE (by rw [hc]; exact hn)).mono ?_; rintro e w' ⟨rfl, hb⟩; exact ⟨L, h, by rw [hc], (Hp.start hok).below hb⟩
  by_cases hn : 0 < k.Y.n
  · obtain ⟨gl, rfl⟩ := zoX h hok hn;refine (hO gl (h.gl gl) (zn4 hok (tf.fz hF) (fun g hg hc => hap g hg (tf g hc).1))).mono ?_; rintro e w' ⟨L', h1, rfl, h2⟩; exact ⟨L', ⟨h1.pb, h1.tb, h1.len, h1.good, h1.bad⟩, rfl, zpg (tf.fz hF) h2⟩
  · unfold mP at hr
    cases hg : ma c with
    | false => rw [hg] at hr hfit; exact keepE (Option.some.inj hr).symm (by rw [hfit]; rfl) a6
    | true =>
      rw [hg] at hr hfit; simp only [Bool.not_true, cond_false] at hr hfit
      cases hm : m.2 with
      | false => rw [hm] at hr hfit; rw [← hm]; exact keepE (Option.some.inj hr).symm (by rw [hm]; rw [hfit]; rfl) a6
      | true =>
        rw [hm] at hr hfit; simp only [Bool.not_true, cond_false] at hr hfit
        cases hh : i4 p c.Station with
        | false => rw [hh] at hr hfit; rw [← hm]; exact keepE (Option.some.inj hr).symm (by rw [hm, Bool.not_true, hfit]; rfl) a6
        | true =>
          obtain ⟨P, rfl, _, hY⟩ := h.pb; obtain ⟨i, hi, _⟩ := (zdT hY).1 hh; omega
theorem zlK (h : SI p m k L) (tf : TbF F k) (hok : (eM k v L (!m.2)).ok w) (hF : F.At w) (hap : ∀ g, (eM k v L (!m.2)).fp g → ¬ F.S g) (htab : Tab w) {fuel : Nat} (hf : 100000 ≤ fuel) (c : GChoice) {r : (List GDomain × Bool) × Int} (hr : mP fuel p m true c = some r) :
    Calls Tryz.prog 145 #[.pointer (some ⟨k.sp, 0, none⟩), .agg [.int .i64 c.Station, .int .i64 c.Channel].toArray] w fun e w' => ∃ L', SI p r.1 k L' ∧ e = .returned (.int .i64 r.2) ∧ Hp w (eM k v L (!m.2)).fp [eM k v L' (!r.1.2)] w' := by
  obtain ⟨P, hP, hok', hY⟩ := h.pb; exact znM true _ h tf hok hF hap htab c hr (fun he => zhK k.sp k.Y L (!m.2) c.b w (zhQ h hok (tf.fz hF) htab) (k.Y.ix512 h.ok hY.ixn) he) (fun gl h1 h2 => zmu h1 h2 htab hf c hr)
theorem zms (h : SI p m k L) (tf : TbF F k) (hok : (eM k v L (!m.2)).ok w) (hF : F.At w) (hap : ∀ g, (eM k v L (!m.2)).fp g → ¬ F.S g) (htab : Tab w) {fuel : Nat} (hf : 100000 ≤ fuel) (c : GChoice) {r : (List GDomain × Bool) × Int} (hr : mP fuel p m false c = some r) :
    Calls Tryz.prog 148 #[.pointer (some ⟨k.sp, 0, none⟩), .agg [.int .i64 c.Station, .int .i64 c.Channel].toArray] w fun e w' => ∃ L', SI p r.1 k L' ∧ e = .returned (.int .i64 r.2) ∧ Hp w (eM k v L (!m.2)).fp [eM k v L' (!r.1.2)] w' := by
  obtain ⟨P, hP, hok', hY⟩ := h.pb; exact znM false _ h tf hok hF hap htab c hr (fun he => zhM k.sp k.Y L (!m.2) c.b w (zhQ h hok (tf.fz hF) htab) (k.Y.ix512 h.ok hY.ixn) he) (fun gl h1 h2 => zli h1 h2 htab hf c hr)
theorem zoj (hF:F0.At w)(h:SI p m k L)(hw:Hp w (fun _=>False) [i6 k L b] w'):∃G,TbF G k∧FxM F0 w (dG []) G [eM k (sG k.gl k.Y.n) L b] w':=by
 have hok:=hw.own (i6 k L b) a9;obtain ⟨h1,h2⟩:=dp.1 hok;have h3:([dF k.sp k.gl k.tp k.Y.n b,eX k.gl k.Y.n L]++[Ent.fz k.w0]).Pairwise fun e f=>∀g,e.fp g→¬f.fp g:=h2;obtain ⟨a1,a2,a3⟩:=List.pairwise_append.1 h3;have hf':Fz k.w0 w':=fq.1 (h1 (.fz k.w0) a9);have hb:=hw.isBelow;have hF':=hF.below hb;have hnew:∀g,jJ k.w0 g→w.heap.size≤g:=fun g hg=>(hw.new (i6 k L b) a9 g (dm.2 ⟨.fz k.w0,by simp,eZ.2 hg⟩)).elim (fun h=>h.elim) id
 have hnew2:∀g,(eM k (sG k.gl k.Y.n) L b).fp g→w.heap.size≤g:=fun g hg=>by
  obtain ⟨e,he,hg⟩:=dm.1 hg;exact (hw.new (i6 k L b) a9 g (dm.2 ⟨e,by simp at he ⊢;rcases he with h|h <;> simp [h],hg⟩)).elim (fun h=>h.elim) id
 refine ⟨⟨fun g=>F0.S g∨jJ k.w0 g,w',fun g hg=>?_⟩,fun g hg=>⟨.inr hg,hf' g hg⟩,⟨fun g hg=>⟨.inl hg,hF' g hg⟩,fun g _=>rfl,?_,fun g hg=>hg.imp id (fun h=> .inr (hnew g h)),fun e he g hg hS=>?_⟩⟩
 ·rcases hg with hg|hg
  ·exact hF'.cb hg
  ·obtain ⟨cs,t,q,e⟩:=hg;exact ⟨cs,t,q,(hf' g ⟨cs,t,q,e⟩).trans e⟩
 ·rw [zg1];refine ⟨hw.os,hw.tape,hw.output,hw.size,hw.base,fun e he=>?_,fun e he g hg=>?_,List.pairwise_singleton _ _⟩
  ·simp at he;subst he;exact q5F
  ·simp at he;subst he;exact .inr (hnew2 g hg)
 ·simp at he;subst he;rcases hS with hS|hS
  ·have:=(hF.cb hS).lt;have:=hnew2 g hg;omega
  ·obtain ⟨e,he,hg⟩:=dm.1 hg;exact a3 e he (.fz k.w0) a9 g hg (eZ.2 hS)
theorem zpy {vd vp vl vc : Value} {cd : List (List Value)} (hF0 : F0.At w) (h : PbF F0 vd cd vp vl vc p) (htab : Tab w) (hv : gv p = true) {fuel : Nat} (hf : 100000 ≤ fuel) {r : List GDomain × Bool} (hr : zbh fuel p p.Domains = some r) :
    Calls Tryz.prog 117 #[.agg [vd, vp, vl, vc].toArray] w fun e w' => ∃ (y : SK × Value × Ws) (G : Frz), (SI p r y.1 y.2.2 ∧ TbF G y.1) ∧ e = .returned (.tuple #[.pointer (some ⟨y.1.sp, 0, none⟩), .int .i64 0]) ∧ FxM F0 w (dG []) G [eM y.1 y.2.1 y.2.2 (!r.2)] w' := by
  refine (zpA hF0 h htab hv hf hr).mono ?_; rintro e w' ⟨⟨k, L⟩, hs, rfl, hw⟩; obtain ⟨G, h1, h2⟩ := zoj hF0 hs hw; exact ⟨(k, sG k.gl k.Y.n, L), G, ⟨hs, h1⟩, rfl, h2⟩
theorem zmH (h : SI p m k L) (tf : TbF F k) (hok : (eM k v L (!m.2)).ok w) (hF : F.At w) (htab : Tab w) : Calls Tryz.prog 82 #[.pointer (some ⟨k.sp, 0, none⟩)] w fun e w' => ∃ (y : SK × Value) (G : Frz), (SI p m y.1 L ∧ TbF G y.1) ∧ e = .returned (.pointer (some ⟨y.1.sp, 0, none⟩)) ∧ FxM F w (dG []) G [eM y.1 y.2 L (!m.2)] w' := by
  have hs := zhQ h hok (tf.fz hF) htab; have h1 := (dp.1 hok).1; have hr := h1 (.row k.sp 188 [.pointer (some ⟨k.tp, 0, none⟩), v, .bool (!m.2)]) a9; have hl := h1 (.sl v 80 1 k.Y.n (Ws.cells L)) a9; have hn := h.n512
  -- what is there is frozen for the time of the call
  have hC : SlC (Frz.all w) v 1 (L.map Le) := by
    have hl2 := hl; rw [← zgC] at hl2; exact (jm (G := Frz.all w) hl2 rfl (fun g _ hc => hc)).toF h.len.symm (fun _ => rfl)
  haveI := hC.oneC; refine Calls.mono (R := fun e w' => ∃ (y : Nat × Value), OneC y.2 ∧ e = .returned (.pointer (some ⟨y.1, 0, none⟩)) ∧ Hp w (fun _ => False) [.row y.1 188 [.pointer (some ⟨k.tp, 0, none⟩), y.2, .bool (!m.2)], .sl y.2 80 1 k.Y.n (Ws.cells L)] w') ?_ ?_
  · obtain ⟨S0, F1, hF1, hS0, hp0⟩ := ey (jv w); rw [← hF1] at hC;refine dt (M := fun _ => False) (hs := [.fr F1]) Tryz.func82 rfl rfl rfl hp0 ?_;refine jo ?_;refine cU (cM rfl rfl rfl (fun w' hw => zcR k.sp k.Y L (!m.2) w' (hs.kept hw))) ?_; rintro _ _ ⟨rfl, rfl⟩;refine nD ?_;refine jh ?_;refine dD (sN 0 8 (sN 9 4 (.eff 8 (.still 13 (.eff 14 (.still 15 .done)))))) [.fr F1] a7 (List.Sublist.refl _) ?_;refine jO ?_;refine cQ rfl (dY rfl rfl (zcT (i := 0) hr rfl) (fun h => h)) ?_;refine jO ?_;refine cQ rfl (dY rfl rfl (zcT (i := 1) hr rfl) (fun h => h)) ?_;refine jO ?_;refine cQ rfl (dY rfl rfl (zcT (i := 2) hr rfl) (fun h => h)) ?_;refine TS.slNil 80 1 ?_;refine dy ?_;refine cW rfl (Wt.none) rfl rfl (jZ 0 1 (F := F1) (k' := k.Y.n) (l' := Ws.cells L) (zgP (enc := Le) (fun x => inferInstanceAs (OneCs [U x]))) rfl rfl rfl rfl rfl hC (by rw [List.length_map, h.len]; omega) (by rw [List.nil_append, ← List.flatMap_def, zgC]) a5 a6) ?_; rintro v' _ ⟨hv', rfl⟩; refine ⟨fun w hw => hw.sub (List.sublist_cons_self _ _), ?_⟩;refine cQ rfl (Yv.build) ?_;refine dy ?_;refine cW rfl (Wt.none) rfl rfl (dJ) ?_; rintro _ _ ⟨g, rfl, rfl⟩; refine ⟨fun w hw => hw.sub Sx, ?_⟩;refine q4O ?_; exact c4 rfl rfl (fun w' hw => ⟨(g, v'), hv', rfl, hw.sub Sx⟩)
  · rintro e w' ⟨⟨g, v'⟩, hv', rfl, hw⟩; refine ⟨({ k with sp := g }, v'), F, ⟨h.sp g, tf⟩, rfl, ⟨Frz.Le.refl _, hF.below hw.isBelow, ?_, fun g hg => .inl hg, fun e he q hq hS => ?_⟩⟩
    · rw [zg1]; exact zjK hw
    · simp at he; subst he; have h2 := (zjK hw).new _ a9 q hq; have := (hF.cb hS).lt; rcases h2 with h2 | h2
      · exact h2
      · omega
end
abbrev vI (z:Int):Value:= .int .i64 z
abbrev Vec (n:Nat)(α:Type):={ l:List α // l.length=n }
def Vec.fill {α:Type}(n:Nat)(v:α):Vec n α:=⟨List.replicate n v,List.length_replicate⟩
instance {n:Nat} {α:Type} [Inhabited α]:Inhabited (Vec n α):=⟨Vec.fill n default⟩
def Vec.get {n:Nat}{α:Type}[Inhabited α](x:Vec n α)(i:Nat):α:=cJ x.1 i
def Vec.put {n:Nat}{α:Type}(x:Vec n α)(i:Nat)(v:α):Vec n α:=⟨x.1.set i v,by rw [List.length_set,x.2]⟩
theorem gA {α:Type}[Inhabited α]{n i:Nat}{v:α}(h:i<n):(Vec.fill n v).get i=v:=by
 unfold Vec.get Vec.fill;rw [dV (by simpa using h)];simp
theorem fA {α:Type}[Inhabited α]{n i j:Nat}{x:Vec n α}{v:α}(h:i<n):(x.put i v).get j=if j=i then v else x.get j:=by
 unfold Vec.get Vec.put; (have hx:i<x.1.length:=by rw [x.2];exact h);unfold cJ;rw [List.getD_eq_getElem?_getD,List.getD_eq_getElem?_getD];by_cases e:j=i
 ·rw [if_pos e,e,List.getElem?_set_self hx];rfl
 ·rw [if_neg e,List.getElem?_set_ne (fun h=>e h.symm)]
section
variable {α:Type}[Inhabited α]{n i j m p:Nat}{x:Vec n α}{f:α→Value}{a b l r:List Value}{v:Value}
theorem Vec.len:(x.1.map f).length=n:=by rw [List.length_map,x.2]
theorem Vec.cell (h:i<n):(x.1.map f)[i]?=some (f (x.get i)):=by
 unfold Vec.get;rw [List.getElem?_map,List.getElem?_eq_getElem (by rw [x.2];exact h),dV (by rw [x.2];exact h)];rfl
theorem Vec.upd {v:α}(h:i<n):(x.1.map f).set i (f v)=(x.put i v).1.map f:=by
 show _=(x.1.set i v).map f
 rw [List.map_set]
theorem mf (hp:p=i)(h:l[i]?=some v):l[p]?=some v:=by rw [hp];exact h
theorem zho {u:Value}(hp:p=i)(h:l.set i u=r):l.set p u=r:=by rw [hp];exact h
theorem zoa (ha:a.length=m)(hi:i<m)(h:a[i]?=some v):(a++b)[i]?=some v:=by
 rw [List.getElem?_append_left a5];exact h
theorem zd9 (ha:a.length=m)(h:b[j]?=some v):(a++b)[m+j]?=some v:=by
 rw [List.getElem?_append_right a5,ha,show m+j - m=j by omega];exact h
theorem zhJ {u:Value}(ha:a.length=m)(h:b.set j u=r):(a++b).set (m+j) u=a++r:=by
 rw [List.set_append_right _ _ a5,ha,show m+j - m=j by omega,h]
theorem znZ (ha:a.length=m):(((a++b).drop 0).take a.length)=a:=by simp
theorem zdz {k:Nat}(ha:a.length=m)(hb:b.length=k):(a++b).length=m+k:=by rw [List.length_append,ha,hb]
instance OneCs.vmap {β:Type} {g:β→Value} {y:List β} [h:∀z,OneC (g z)]:OneCs (y.map g):=⟨fun z hz=>by obtain ⟨b,_,rfl⟩:=List.mem_map.1 hz;exact (h b).h⟩
instance OneCs.cat [h:OneCs a] [k:OneCs b]:OneCs (a++b):=⟨fun z hz=>(List.mem_append.1 hz).elim (h.h z) (k.h z)⟩
end
section
variable {P:Program}{n:Nat}{B D:World}{M:Nat→Prop}{fs:d4}{hs:HS}{o:Oper}{v:Value}
theorem lS {t:TypeId}{z l:List Value}[hT:TyZ P t z](ho:o.op= .alloc t)(hz:z=l):Ew P n B M fs hs o (fun v hs'=>∃g,v= .pointer (some ⟨g,0,none⟩)∧hs'= .row g t l :: hs):=by
 subst hz;exact Ew.alloc ho
theorem zeI {place:Nat→Option (Nat×Nat)}{l l1 m:List Value}{l2:Array Value}{i off size:Nat}{v:Value}{ps:List (Nat×Value)}(hp:place i=some (off,size))(hc:v.cells=m.toArray)(hs:m.length=size)(h1:zd8 l off m=l1)(hb:off+m.length≤l.length)(h2:Instr.fill place l1.toArray ps=some l2):Instr.fill place l.toArray ((i,v) :: ps)=some l2:=by
 obtain ⟨l2'⟩:=l2;haveI:Place place i off size:=⟨hp⟩;haveI:Cells v m:=⟨hc⟩;haveI:Splice l off m l1:=⟨h1,hb⟩;haveI:Fill place l1 ps l2':=⟨h2⟩;haveI:LenIs m size:=⟨hs⟩;exact (inferInstance:Fill place l ((i,v) :: ps) l2').h
theorem zf2 {l r:List Value}{off:Nat}{v:Value}(h:off<l.length)(hr:l.set off v=r):zd8 l off [v]=r:=by
 rw [←hr];exact zf0 l off v h
theorem zhN {a b m:List Value}(h:a.length=m.length):zd8 (a++b) 0 m=m++b:=by
 simp [zd8,←h]
theorem Yv.bQ {t:TypeId}{ps:Array (Nat×Operand)}{vs:List (Nat×Value)}{z l0 l:List Value}[hS:TySt P t][hZ:TyZ P t z](ho:o.op= .build t ps)(hv:evPs fs ps.toList=some vs)(hz:z=l0)(hF:Instr.fill (zhj P t) l0.toArray vs=some l.toArray):Yv P n B M fs hs o (.agg l.toArray):=by
 subst hz;haveI:Fill (zhj P t) z vs l:=⟨hF⟩;exact Yv.build ho hv
end
section
variable {B:World}{M S0:Nat→Prop}{hs:HS}{F:FzB B M S0}
def FzB.addE {w:World}(F:FzB B M S0)(hF:F.toFrz.At w)(T:Nat→Prop)(hc:∀g,T g→Cb w g)(hb:∀g,T g→M g∨B.heap.size≤g):FzB B M S0 where
 S k:=F.S k∨T k
 w:=w
 c k hk:=hk.elim (fun h=>hF.cb h) (hc k)
 base k hk h1 h2:=by
  rcases hk with h|h
  ·rw [hF k h,F.base k h h1 h2]
  ·rcases hb k h with h3|h3
   ·exact absurd h3 h2
   ·omega
 new k hk:=hk.elim (F.new k) (fun h=> .inr (hb k h))
theorem Hp.freezeE {w : World} {i j : Nat} {e : Ent} (hw : Hp B M hs w) (hij : i ≠ j) (hi : hs[i]? = some (.fr F)) (hj : hs[j]? = some e) (hc : ∀ g, e.fp g → Cb w g) :
    ∃ G : FzB B M S0, F.toFrz.Le G.toFrz ∧ (∀ w', G.toFrz.At w' → e.ok w') ∧ Hp B M ((hs.set i (.fr G)).eraseIdx j) w := by
  have hF := hw.fr hi; have hb := hw.new e (List.mem_of_getElem? hj); refine ⟨F.addE hF e.fp hc hb, fun k hk => ⟨.inl hk, hF k hk⟩, fun w' hw' => e.loc (fun g hg => hw' g (.inr hg)) (hw.get hj), ?_⟩; obtain ⟨r, h1, h2⟩ := ze1 (a' := .fr (F.addE hF e.fp hc hb)) hij hi hj;refine Hp.perm ?_ h2.symm; refine iS (hw.perm h1) ?_ ?_ (List.pairwise_singleton _ _)
  · intro x hx; simp at hx; subst hx; exact e9.2 (fun k hk => rfl)
  · intro x hx k hk; simp at hx; subst hx; have h := dw.1 hk; rcases h.1 with h3 | h3
    · exact ⟨_, by simp, dw.2 ⟨h3, h.2⟩⟩
    · exact ⟨e, by simp, h3⟩
end
theorem zo7 {k:SK}{v:Value}{L:Ws}{b:Bool}{w:World}(h:(eM k v L b).ok w):∀g,(eM k v L b).fp g→Cb w g:=fun g hg=>by
 have h1:=(dp.1 h).1;obtain ⟨e,he,hg⟩:=dm.1 hg;simp at he;rcases he with rfl|rfl
 ·have:=cT.1 hg;subst this;exact ⟨_,_,_,c7.1 (h1 _ (List.mem_cons_self ..))⟩
 ·have h2:=dg.1 hg;rcases (cY.1 (h1 (.sl v 80 1 k.Y.n (Ws.cells L)) a9)).2 with ⟨rfl,_⟩|⟨g',cap,cur,rfl,_,hgg,_⟩
  ·cases h2
  ·simp [Value.ownBlock] at h2;subst h2;exact ⟨_,_,_,hgg⟩
def SzF (F:Frz)(k:SK)(v:Value)(L:Ws)(b:Bool):Prop:=∀w,F.At w→(eM k v L b).ok w
theorem SzF.mono {F G:Frz}{k:SK}{v:Value}{L:Ws}{b:Bool}(h:SzF F k v L b)(hle:F.Le G):SzF G k v L b:=fun w hw=>h w (hw.le hle)
theorem Hp.freezeSt {B w : World} {M S0 : Nat → Prop} {hs : HS} {F : FzB B M S0} {i j : Nat} {k : SK} {v : Value} {L : Ws} {b : Bool} (hw : Hp B M hs w) (hij : i ≠ j) (hi : hs[i]? = some (.fr F)) (hj : hs[j]? = some (eM k v L b)) :
    ∃ G : FzB B M S0, (F.toFrz.Le G.toFrz ∧ SzF G.toFrz k v L b) ∧ Hp B M ((hs.set i (.fr G)).eraseIdx j) w := by
  obtain ⟨G, h1, h2, h3⟩ := hw.freezeE hij hi hj (zo7 (hw.get hj)); exact ⟨G, ⟨h1, h2⟩, h3⟩
section
variable {P:Program}{n:Nat}{B:World}{M:Nat→Prop}{fs:d4}{hs:HS}{o:Oper}
theorem lr {w:World}{v:Value}{e:TypeId}{size k:Nat}{l:List Value}(h:(Ent.sl v e size k l).ok w):k≤9223372036854775807:=by
 have ho:=cY.1 h;rcases ho.2 with ⟨rfl,h0⟩|⟨g,cap,cur,rfl,hb,hg,hnc,hcm,hcs,htake⟩
 ·omega
 ·unfold maxLen at hcm;omega
theorem Ew.bj {t e:TypeId}{size bytes:Nat}{z:List Value}[hT:TyE P t e size bytes z](ho:o.op= .buildSlice t 0 #[]):Ew P n B M fs hs o (fun v hs'=>∃g,v= .slice (some ⟨g,0,none⟩) 0 0∧hs'= .sl (.slice (some ⟨g,0,none⟩) 0 0) e size 0 [] :: hs):=gH fun a w ha hp=>by
 obtain ⟨i,zv,hU,hi,hz,hzc,rfl,rfl,hzs,hpos⟩:=hT.get;refine ⟨_,w.alloc (.cells #[] e),_,?_,Kp.alloc w _,hp.fresh ((Below.refl _ _).alloc (Nat.le_refl _) _) (cY.2 (World.ownsRow_made (base:=0) (e:=e) (size:=i.size) w #[] 0 (Nat.zero_le _) (by unfold maxLen;omega) a9)) (fun g hg=>?_),w.heap.size,rfl,rfl⟩
 ·unfold execOp;simp [ho,Instr.buildSlice,underlying,hU,sizeOf,typeInfo,hi,Instr.fill,newRow];rw [show Array.range 0= #[] from by simp [Array.range]];simp
 ·have:=dg.1 hg;simp [Value.ownBlock] at this;omega
end
section
variable {Fe:Fence}[hFe:Calm Fe]{P:Program}{n:Nat}{B D:World}{M S0:Nat→Prop}{Q:Exit→Act→World→Prop}{fs:d4}{hs:HS}{ops:Array Oper}
theorem fT {l:List Oper}{v:Value}{e:TypeId}{size k:Nat}{cs:List Value}(j:Nat)(hj:hs[j]?=some (.sl v e size k cs))(h:OneC v→k≤9223372036854775807→TL Fe P n B D M ops Q l fs hs):TL Fe P n B D M ops Q l fs hs:=
 j6 (ι:=Unit) (φ:=fun _=>OneC v∧k≤9223372036854775807) (hs':=fun _=>hs) (fun w hw=>⟨(),⟨lM (hw.get hj),lr (hw.get hj)⟩,hw⟩) (fun _ hx=>h hx.1 hx.2)
theorem m6 {hs0:HS}{r:Ord}{v:Value}{e:TypeId}{size k:Nat}{cs:List Value}(j:Nat)(hj:hs[j]?=some (.sl v e size k cs))(h:OneC v→k≤9223372036854775807→TS Fe P n B D M ops Q hs0 r fs hs):TS Fe P n B D M ops Q hs0 r fs hs:=
 TS.aU (ι:=Unit) (φ:=fun _=>OneC v∧k≤9223372036854775807) (hs':=fun _=>hs) (fun w hw=>⟨(),⟨lM (hw.get hj),lr (hw.get hj)⟩,hw⟩) (fun _ hx=>h hx.1 hx.2)
end
structure Bor (F:Frz) (E:Ent) (w:World) (F':Frz):Prop where
 le:F.Le F'
 at_:F'.At w
 new:∀g,F'.S g→F.S g∨E.fp g
section
variable {B w:World}{M S0:Nat→Prop}{hs bs rest:HS}{F:FzB B M S0}{G:FzB B M S0}{F':Frz}
theorem Hp.bor {i j:Nat}{v:Value}{e:TypeId}{size k:Nat}{l:List Value}(hw:Hp B M hs w)(hi:hs[i]?=some (.fr F))(hj:hs[j]?=some (.sl v e size k l)):∃F':Frz,Bor F.toFrz (.sl v e size k l) w F'∧SlK F' v size k l:=by
 have hF:=hw.fr hi;have ho:=cY.1 (hw.get hj);rcases ho.2 with ⟨rfl,h0⟩|⟨g,cap,cur,rfl,hb,hg,hnc,hcm,hcs,htake⟩
 ·subst h0;exact ⟨F.toFrz,⟨.refl _,hF,fun g h=> .inl h⟩,ho.1,none,0,rfl,Nat.le_refl _,by omega,fun h=>by omega⟩
 ·refine ⟨⟨fun k=>F.S k∨k=g,w,fun k hk=>?_⟩,⟨fun k hk=>⟨.inl hk,hF k hk⟩,fun k _=>rfl,fun k hk=>hk.imp id fun e=>dg.2 (by rw [e];rfl)⟩,ho.1,_,cap,rfl,hnc,by unfold maxLen at hcm;omega,fun _=>⟨g,rfl, .inr rfl,fun q hq=>?_⟩⟩
  ·rcases hk with h|rfl
   ·exact hF.cb h
   ·exact ⟨_,_,_,hg⟩
  ·rw [Nat.zero_add,World.ownsRow.cellAt ho q (by rw [←ho.1];exact hq)]
end
theorem zjb {α:Type}[Inhabited α]{enc:α→List Value}{size:Nat}(he:∀x,(enc x).length=size):∀ {xs:List α} {i j p:Nat} {v:Value} {x:α},i<xs.length→j<size→p=i*size+j→(enc (cJ xs i)).set j v=enc x→(xs.flatMap enc).set p v=(xs.set i x).flatMap enc
 |y :: r,0,j,p,v,x,_,hj,hp,h=>by
  (obtain rfl:p=j:=by omega);rw [List.flatMap_cons,List.set_append_left _ _ (by rw [he];exact hj),List.set_cons_zero,List.flatMap_cons];rw [←h];rfl
 |y :: r,i+1,j,p,v,x,hi,hj,hp,h=>by
  rw [List.flatMap_cons,List.set_append_right _ _ (by rw [he,hp,Nat.add_mul];omega),List.set_cons_succ,List.flatMap_cons];rw [zjb he (xs:=r) (i:=i) (j:=j) (x:=x) (by simpa using hi) hj (by rw [he,hp,Nat.add_mul];omega) (by rw [←h];rfl)]
theorem zhL {α:Type}{enc:α→List Value}{size:Nat}(he:∀x,(enc x).length=size):∀ {xs:List α} {i j p:Nat},i<xs.length→j<size→p=i*size+j→p<(xs.flatMap enc).length
 |y :: r,0,j,p,_,hj,hp=>by rw [List.flatMap_cons,List.length_append,he];omega
 |y :: r,i+1,j,p,hi,hj,hp=>by
  have:=zhL he (xs:=r) (i:=i) (j:=j) (p:=i*size+j) (by simpa using hi) hj rfl;rw [List.flatMap_cons,List.length_append,he];rw [hp,Nat.add_mul];omega
theorem znf {α:Type}{enc:α→List Value}{xs:List α}(h:∀x,OneCs (enc x)):∀v∈xs.flatMap enc,v.oneCell'=true:=fun v hv=>by
 obtain ⟨x,_,hx⟩:=List.mem_flatMap.1 hv;exact (h x).h v hx
theorem zmT {α:Type}(xs ys:List α):xs.length+ys.length=(xs++ys).length:=(List.length_append ..).symm
theorem zlk {α:Type}{enc:α→List Value}(xs ys:List α):xs.flatMap enc++ys.flatMap enc=(xs++ys).flatMap enc:=(List.flatMap_append ..).symm
section
variable {P:Program}{n:Nat}{B D:World}{M:Nat→Prop}{fs:d4}{hs:HS}{o:Oper}{v val sv:Value}
theorem Ew.bR (j : Nat) {t e : TypeId} [hT : TyS P t] {x y : Operand} {p k k' size : Nat} {l l' : List Value} {hs' : HS} [hv : OneC val] (ho : o.op = .store t x y) (hx : ev fs x = some (mW sv p)) (hy : ev fs y = some val)
    (hj : hs[j]? = some (.sl sv e size k l)) (hk : 0 < k) (hp : p < l.length) (hl : l.set p val = l') (hkk : k' = k) [hH : SetAt hs j (.sl sv e size k' l') hs'] : Ew P n B M fs hs o (fun v hs'' => v = undef ∧ hs'' = hs') := by
  subst hkk; exact Ew.bU j ho hx hy hj hk hp hl
theorem Ew.bW (i j : Nat) {s x : Operand} {t e e2 : TypeId} {size bytes m k k' : Nat} {z l l2 l' : List Value} {hs' : Value → HS} [hT : TyE P t e size bytes z] [hT2 : TySl P t e size] (h1 : ∀ v ∈ l2, v.oneCell' = true) (ho : o.op = .call { callee := .builtin .append, args := #[s, x], argTypes := #[t, t] })
    (hs1 : ev fs s = some sv) (hx : ev fs x = some v) (hi : hs[i]? = some (.sl sv e size k l)) (hj : hs[j]? = some (.sl v e2 size m l2)) (hk : k + m = k') (hl' : l ++ l2 = l') (hb : k' * bytes ≤ 140737488355328) (hbs : 0 < bytes)
    [hH : ∀ v', SetAt hs i (.sl v' e size k' l') (hs' v')] : Ew P n B M fs hs o (fun v hs'' => OneC v ∧ hs'' = hs' v) := fun F hF Q K a w ha hw => by
  have ho2 := cY.1 (hw.get hj); have hl2 := ho2.1; rcases Nat.eq_zero_or_pos m with h0 | h0
  · subst h0; obtain rfl : l2 = [] := List.eq_nil_of_length_eq_zero a5
    obtain ⟨A, c2, rfl⟩ : ∃ A c2, v = .slice A 0 c2 := by
      rcases ho2.2 with ⟨rfl, _⟩ | ⟨g, cap, cur, rfl, _⟩
      · exact ⟨_, _, rfl⟩
      · exact ⟨_, _, rfl⟩
    subst hk; rw [List.append_nil] at hl'; subst hl'; refine (gH fun a w ha hp => ?_ : Ew P n B M fs hs o (fun v hs'' => OneC v ∧ hs'' = hs' v)) F hF Q K a w ha hw; have ho' := cY.1 (hp.get hi)
    obtain ⟨b, c, rfl, hc⟩ : ∃ b c, sv = .slice b k c ∧ k ≤ c := by
      rcases ho'.2 with ⟨rfl, h0⟩ | ⟨g, cap, cur, rfl, hb, hg, hnc, _⟩
      · exact ⟨none, 0, by rw [h0], by omega⟩
      · exact ⟨_, cap, rfl, hnc⟩
    refine ⟨.slice b k c, w, hs' (.slice b k c), ?_, Kp.refl w, ?_, ⟨rfl⟩, rfl⟩
    · unfold execOp; simp [ho, resolve, invoke, builtin, ha.ev hs1, ha.ev hx, zeB (P := P) (t := t) hc]
    · rw [← (hH _).h];simp only [Nat.add_zero]; rw [zin hi]; exact hp
  · obtain ⟨g, cap, rfl⟩ := hw.slAddr hj h0
    exact nM i (news := l2) h1 ho hs1 hx hi (fun w hw q hq => by
      have h3 := cY.1 (hw.get hj)
      rw [Nat.zero_add, World.ownsRow.cellAt h3 q (by rw [← h3.1]; exact hq)]) hl2 hk hl' hb hbs F hF Q K a w ha hw
end
section
variable {P:Program}{n:Nat}{B D:World}{M:Nat→Prop}{fs:d4}{hs:HS}{v v2:Value}
theorem T.aV {Fe:Fence}[hFe:Calm Fe]{Q:Exit→Act→World→Prop}{c:Code}{e:TypeId}{size k:Nat}{cs:List Value}(j:Nat)(hj:hs[j]?=some (.sl v e size k cs))(h:OneC v→k≤9223372036854775807→T Fe P n B D M c Q fs hs):T Fe P n B D M c Q fs hs:=
 mm (ι:=Unit) (φ:=fun _=>OneC v∧k≤9223372036854775807) (hs':=fun _=>hs) (fun w hw=>⟨(),⟨lM (hw.get hj),lr (hw.get hj)⟩,hw⟩) (fun _ hx=>h hx.1 hx.2)
end
def za0 (r_:GRules):Option Bool:=
 (bif (((decide (4096<(r_.Pairs.length:Int)))||(decide (1024<(r_.Loads.length:Int))))||(decide (1024<(r_.Caps.length:Int)))) then
  some false
  else
  dH (fun (_:Unit)=>
   dH (fun (_:Unit)=>
    dH (fun (_:Unit)=>
     some true)
    (fun k32=>
     c6 (fun (i_34:Nat) (next33:Unit→Option Bool) (_:Unit)=>
      dH (fun (x_36:Bool)=>
       (bif x_36 then
        some false
        else
        next33 ()))
      (fun k37=>
       (bif !(kb ((cJ r_.Caps i_34).Station)) then
        k37 true
        else
        (bif decide ((cJ r_.Caps i_34).Max<0) then
         k37 true
         else
         (bif decide (1099511627776<(cJ r_.Caps i_34).Max) then
          k37 true
          else
          (bif !(nC ((cJ r_.Caps i_34).Low) ((cJ r_.Caps i_34).High)) then
           k37 true
           else
           (bif decide (0<(i_34:Int)) then
            (mb (kY (cJ r_.Caps (((i_34:Int) - 1).toNat))) (kY (cJ r_.Caps i_34))).bind fun r200=>
            k37 (!r200)
            else
            k37 false)))))))
     (fun (_:Unit)=>
      k32 ()) (r_.Caps.length - 0) 0 ()))
   (fun k18=>
    c6 (fun (i_20:Nat) (next19:Unit→Option Bool) (_:Unit)=>
     dH (fun (x_22:Bool)=>
      (bif x_22 then
       some false
       else
       next19 ()))
     (fun k23=>
      (bif !(kb ((cJ r_.Loads i_20).To)) then
       k23 true
       else
       (bif !(kb ((cJ r_.Loads i_20).From)) then
        k23 true
        else
        (bif decide ((cJ r_.Loads i_20).To=(cJ r_.Loads i_20).From) then
         k23 true
         else
         (bif decide ((cJ r_.Loads i_20).Weight<1) then
          k23 true
          else
          (bif decide (1073741824<(cJ r_.Loads i_20).Weight) then
           k23 true
           else
           (bif !(nC ((cJ r_.Loads i_20).Low) ((cJ r_.Loads i_20).High)) then
            k23 true
            else
            (bif decide (0<(i_20:Int)) then
             (mb (ln (cJ r_.Loads (((i_20:Int) - 1).toNat))) (ln (cJ r_.Loads i_20))).bind fun r149=>
             k23 (!r149)
             else
             k23 false)))))))))
    (fun (_:Unit)=>
     k18 ()) (r_.Loads.length - 0) 0 ()))
  (fun k4=>
   c6 (fun (i_6:Nat) (next5:Unit→Option Bool) (_:Unit)=>
    dH (fun (x_8:Bool)=>
     (bif x_8 then
      some false
      else
      next5 ()))
    (fun k9=>
     (bif !(kb ((cJ r_.Pairs i_6).A)) then
      k9 true
      else
      (bif !(kb ((cJ r_.Pairs i_6).B)) then
       k9 true
       else
       (bif decide ((cJ r_.Pairs i_6).B≤(cJ r_.Pairs i_6).A) then
        k9 true
        else
        (bif decide ((cJ r_.Pairs i_6).Offset<(-1)) then
         k9 true
         else
         (bif decide (1<(cJ r_.Pairs i_6).Offset) then
          k9 true
          else
          (bif !(nC ((cJ r_.Pairs i_6).Low) ((cJ r_.Pairs i_6).High)) then
           k9 true
           else
           (bif decide (0<(i_6:Int)) then
            (mb (li (cJ r_.Pairs (((i_6:Int) - 1).toNat))) (li (cJ r_.Pairs i_6))).bind fun r85=>
            k9 (!r85)
            else
            k9 false)))))))))
   (fun (_:Unit)=>
    k4 ()) (r_.Pairs.length - 0) 0 ()))
theorem zfw (F0:Frz)(w:World)(hF0:F0.At w)(r_:GRules)(vr__0:Value)(hr__0:SlC F0 vr__0 5 (r_.Pairs.map cO))(vr__1:Value)(hr__1:SlC F0 vr__1 5 (r_.Loads.map cP))(vr__2:Value)(hr__2:SlC F0 vr__2 4 (r_.Caps.map cR))(r:Bool)(hr:za0 r_=some r):Calls Tryz.prog 55 #[.agg [vr__0,vr__1,vr__2].toArray] w fun e w'=>e= .returned (.bool r)∧Below w.heap.size w w':=by
 have hk:=hr;unfold za0 at hk;haveI:=hr__0.oneC;haveI:=hr__1.oneC;haveI:=hr__2.oneC;obtain ⟨S0,F1,rfl,hS0,hp0⟩:=ey hF0;refine dt Tryz.func55 rfl rfl rfl hp0 ?_;refine gp ?_;rintro _ _ ⟨g1,rfl,rfl⟩;refine mJ ?_;refine cZ (ι:=Unit) (fun z=>[(1, .pointer (some ⟨g1,0,none⟩)),(24, .bool (((decide (4096<(r_.Pairs.length:Int)))||(decide (1024<(r_.Loads.length:Int))))||(decide (1024<(r_.Caps.length:Int)))))]) (fun z=>[.row g1 27 [vr__0,vr__1,vr__2], .fr F1]) (fun z=>True) ?_ ?_
 ·refine lj ?_;refine cL (df rfl rfl hr__0 (List.length_map _)) ?_;have hm11:r_.Pairs.length≤9223372036854775807:=(List.length_map _)▸hr__0.max;refine d8 ?_;refine dn rfl rfl rfl (fun h1=>?_) (fun h1=>?_)
  ·have p1:=of_decide_eq_true h1;refine TL.run 11 rfl ?_;refine eW ?_;exact cS () trivial (.c (.b (ie (ie h1)).symm .nil)) (List.Sublist.refl _)
  ·have p1:=of_decide_eq_false h1;refine ef ?_;refine cL (df rfl rfl hr__1 (List.length_map _)) ?_;have hm16:r_.Loads.length≤9223372036854775807:=(List.length_map _)▸hr__1.max;refine eB ?_;refine dn rfl rfl rfl (fun h2=>?_) (fun h2=>?_)
   ·have p2:=of_decide_eq_true h2;refine lg ?_;exact cS () trivial (.c (.b (ie (jK h1 h2)).symm .nil)) (List.Sublist.refl _)
   ·have p2:=of_decide_eq_false h2;refine ef ?_;refine cL (df rfl rfl hr__2 (List.length_map _)) ?_;have hm22:r_.Caps.length≤9223372036854775807:=(List.length_map _)▸hr__2.max;refine d8 ?_;refine eW ?_;exact cS () trivial (.c (.b (f9 (jK h1 h2)) .nil)) (List.Sublist.refl _)
 ·rintro _ _;have hm11:r_.Pairs.length≤9223372036854775807:=(List.length_map _)▸hr__0.max;have hm16:r_.Loads.length≤9223372036854775807:=(List.length_map _)▸hr__1.max;have hm22:r_.Caps.length≤9223372036854775807:=(List.length_map _)▸hr__2.max;refine T.cond rfl (fun h3=>?_) (fun h3=>?_)
  ·replace hk:=dr hk h3;refine iw ?_;obtain rfl:=Option.some.inj hk;exact dW
  ·have p3:=h3; (try simp only [cX] at p3);replace hk:=dq hk h3;refine m5 ?_;have hq:=d7 hk;clear hk;obtain ⟨k4,hk4,hk⟩:=hq; (try dsimp only at hk);refine cZ (ι:=FzB w (fun _=>False) S0) (fun z=>[(1, .pointer (some ⟨g1,0,none⟩))]) (fun z=>[.row g1 27 [vr__0,vr__1,vr__2], .fr z]) (fun z=>k4 ()=some r∧F1.toFrz.Le z.toFrz) ?_ ?_
   ·have hq:=eS hk;clear hk;obtain ⟨f5,kk5,hf5,hkk5,hk⟩:=hq;refine eA ?_;refine T.loop (ι:=Nat×FzB w (fun _=>False) S0) (fun z=>[(1, .pointer (some ⟨g1,0,none⟩)),(3, .int .i64 (z.1:Int))]) (fun z=>[.row g1 27 [vr__0,vr__1,vr__2], .fr z.2]) (fun z=>c6 f5 kk5 (r_.Pairs.length - z.1) z.1 ()=some r∧F1.toFrz.Le z.2.toFrz) (fun z=>r_.Pairs.length - z.1) (0,F1) ?_ ?_ ?_ ?_
    ·exact ⟨hk,(Frz.Le.refl _)⟩
    ·exact nE
    ·exact eh
    ·rintro ⟨i_6,F3⟩ ⟨hk,le1_3⟩; (try dsimp only at *);refine jz ?_;refine ef ?_;refine cL (df rfl rfl (SlC.mono hr__0 le1_3) (List.length_map _)) ?_;refine dA ?_;refine T.cond rfl (fun h7=>?_) (fun h7=>?_)
     ·have p7:=of_decide_eq_true h7;rw [eQ a5] at hk;generalize hn5:c6 f5 kk5 (r_.Pairs.length - (i_6+1)) (i_6+1)=next5 at hk;rw [←hf5] at hk; (try dsimp only at hk);refine fh ?_;refine i2 ?_;refine cL (c8 (i:=i_6) rfl rfl rfl (SlC.mono hr__0 le1_3) (List.length_map _) rfl a5) ?_;refine cL (eg 1 (i:=i_6) rfl rfl rfl (SlC.mono hr__0 le1_3) a5) ?_;refine fX ?_;rintro _ _ ⟨g4,rfl,rfl⟩;refine kK ?_; (try dsimp only at hk);have hq:=d7 hk;clear hk;obtain ⟨k9,hk9,hk⟩:=hq; (try dsimp only at hk);refine cZ (ι:=Bool×FzB w (fun _=>False) S0) (fun z=>[(1, .pointer (some ⟨g1,0,none⟩)),(3, .int .i64 (i_6:Int)),(88, .bool z.1)]) (fun z=>[.row g1 27 [vr__0,vr__1,vr__2], .fr z.2]) (fun z=>k9 z.1=some r∧F3.toFrz.Le z.2.toFrz) ?_ ?_
      ·refine q1d ?_;refine cW rfl (Wt.none) rfl rfl (cM rfl rfl rfl (fun w hw=>zbl _ w (hw.fr (i:=2) rfl) ((cJ r_.Pairs i_6).A))) ?_;refine mL ?_;refine dB rfl rfl rfl rfl (fun h10=>?_) (fun h10=>?_)
       ·replace hk:=dr hk h10;refine gV ?_;refine iX ?_;refine TS.run 24 rfl ?_;refine mB ?_;exact q45
       ·replace hk:=dq hk h10;refine m0 ?_;refine cW rfl (Wt.some) rfl rfl (cM rfl rfl rfl (fun w hw=>zbl _ w (hw.fr (i:=2) rfl) ((cJ r_.Pairs i_6).B))) ?_;refine iJ ?_;refine gb ?_;refine dB rfl rfl rfl rfl (fun h11=>?_) (fun h11=>?_)
        ·replace hk:=dr hk h11;refine TS.run 21 rfl ?_;refine mB ?_;exact q45
        ·replace hk:=dq hk h11;refine fQ ?_;refine fQ ?_;refine gb ?_;refine dB rfl rfl rfl rfl (fun h12=>?_) (fun h12=>?_)
         ·have p12:=of_decide_eq_true h12;replace hk:=dr hk h12;refine TS.run 14 rfl ?_;refine mB ?_;exact q45
         ·have p12:=of_decide_eq_false h12;replace hk:=dq hk h12;refine fQ ?_;refine gb ?_;refine dB rfl rfl rfl rfl (fun h13=>?_) (fun h13=>?_)
          ·have p13:=of_decide_eq_true h13;replace hk:=dr hk h13;refine TS.run 9 rfl ?_;refine mB ?_;exact q45
          ·have p13:=of_decide_eq_false h13;replace hk:=dq hk h13;refine fQ ?_;refine gb ?_;refine dB rfl rfl rfl rfl (fun h14=>?_) (fun h14=>?_)
           ·have p14:=of_decide_eq_true h14;replace hk:=dr hk h14;refine TS.run 4 rfl ?_;refine mB ?_;exact q45
           ·have p14:=of_decide_eq_false h14;replace hk:=dq hk h14;refine fQ ?_;refine m0 ?_;refine cW rfl (Wt.some) rfl rfl (cM rfl rfl rfl (fun w hw=>zeH _ w (hw.fr (i:=2) rfl) ((cJ r_.Pairs i_6).Low) ((cJ r_.Pairs i_6).High))) ?_;refine iJ ?_;refine gb ?_;refine dB rfl rfl rfl rfl (fun h15=>?_) (fun h15=>?_)
            ·replace hk:=dr hk h15;refine TS.run 10 rfl ?_;refine q0e ?_;exact q45
            ·replace hk:=dq hk h15;refine gb ?_;refine dB rfl rfl rfl rfl (fun h16=>?_) (fun h16=>?_)
             ·have p16:=of_decide_eq_true h16;replace hk:=dr hk h16;refine q1Y ?_;refine q1i ?_;refine cQ rfl (c8 (i:=((i_6:Int) - 1).toNat) rfl rfl rfl (SlC.mono hr__0 le1_3) (List.length_map _) a5 a5) ?_;refine cQ rfl (eg 2 (i:=((i_6:Int) - 1).toNat) rfl rfl rfl (SlC.mono hr__0 le1_3) a5) ?_;refine jL ?_;refine dy ?_;refine cW rfl (Wt.some) rfl rfl (dR 2 rfl rfl rfl rfl (fun w hw hF=>zeY _ w hF (cJ r_.Pairs (((i_6:Int) - 1).toNat)))) ?_;rintro _ _ ⟨v82_0_0,F5,le3_5,hf82_0_0,hq,rfl⟩;obtain rfl:=hq.symm;haveI:=hf82_0_0.oneC;refine ⟨(fun w hw=>(hw.frLe (i:=2) rfl le3_5).sub Sx),?_⟩;refine dy ?_;refine cW rfl (Wt.some) rfl rfl (dR 2 rfl rfl rfl rfl (fun w hw hF=>zeY _ w hF (cJ r_.Pairs i_6))) ?_;rintro _ _ ⟨v84_0_0,F6,le5_6,hf84_0_0,hq,rfl⟩;obtain rfl:=hq.symm;have le3_6:=le3_5.trans le5_6;haveI:=hf84_0_0.oneC;refine ⟨(fun w hw=>(hw.frLe (i:=2) rfl le3_6).sub Sx),?_⟩;refine dy ?_;have hq:=d5 hk;clear hk;obtain ⟨r85,hr85,hk⟩:=hq;refine cW rfl (Wt.some) rfl rfl (cM rfl rfl rfl (fun w hw=>zev _ w (hw.fr (i:=2) rfl) (li (cJ r_.Pairs (((i_6:Int) - 1).toNat))) v82_0_0 (SlC.mono hf82_0_0 le5_6) (li (cJ r_.Pairs i_6)) v84_0_0 hf84_0_0 r85 hr85)) ?_;refine fD ?_;refine ⟨(fun w hw=>(hw.frLe (i:=2) rfl le3_6).sub Sx),?_⟩;refine gb ?_;refine gh ?_;refine mV ?_;exact cS (!r85,F6) ⟨hk,le3_6⟩ (.c (.c (.c .nil))) (List.Sublist.refl _)
             ·have p16:=of_decide_eq_false h16;replace hk:=dq hk h16;refine q3l ?_;exact cS (false,F3) ⟨hk,(Frz.Le.refl _)⟩ (.c (.c (.c .nil))) (List.Sublist.refl _)
      ·rintro ⟨x_8,F4⟩ ⟨hk,le3_4⟩; (try dsimp only at *);rw [←hk9] at hk; (try dsimp only at hk);have le1_4:=le1_3.trans le3_4;refine T.cond rfl (fun h17=>?_) (fun h17=>?_)
       ·replace hk:=dr hk h17;refine gN ?_;obtain rfl:=Option.some.inj hk;exact dW
       ·replace hk:=dq hk h17;refine ga ?_;rw [←hn5] at hk;exact K.next ((i_6+1),F4) ⟨hk,le1_4⟩ a8 (.c (.c .nil)) (List.Sublist.refl _)
     ·have p7:=of_decide_eq_false h7;rw [eO a5,←hkk5] at hk; (try dsimp only at hk);refine eC ?_;exact cS F3 ⟨hk,le1_3⟩ (.c .nil) (List.Sublist.refl _)
   ·rintro F2 ⟨hk,le1_2⟩;rw [←hk4] at hk; (try dsimp only at hk);refine lT ?_;have hq:=d7 hk;clear hk;obtain ⟨k18,hk18,hk⟩:=hq; (try dsimp only at hk);refine cZ (ι:=FzB w (fun _=>False) S0) (fun z=>[(1, .pointer (some ⟨g1,0,none⟩))]) (fun z=>[.row g1 27 [vr__0,vr__1,vr__2], .fr z]) (fun z=>k18 ()=some r∧F2.toFrz.Le z.toFrz) ?_ ?_
    ·have hq:=eS hk;clear hk;obtain ⟨f19,kk19,hf19,hkk19,hk⟩:=hq;refine eA ?_;refine T.loop (ι:=Nat×FzB w (fun _=>False) S0) (fun z=>[(1, .pointer (some ⟨g1,0,none⟩)),(5, .int .i64 (z.1:Int))]) (fun z=>[.row g1 27 [vr__0,vr__1,vr__2], .fr z.2]) (fun z=>c6 f19 kk19 (r_.Loads.length - z.1) z.1 ()=some r∧F2.toFrz.Le z.2.toFrz) (fun z=>r_.Loads.length - z.1) (0,F2) ?_ ?_ ?_ ?_
     ·exact ⟨hk,(Frz.Le.refl _)⟩
     ·exact nE
     ·exact eh
     ·rintro ⟨i_20,F8⟩ ⟨hk,le2_8⟩; (try dsimp only at *);have le1_8:=le1_2.trans le2_8;refine jz ?_;refine ef ?_;refine cL (df rfl rfl (SlC.mono hr__1 le1_8) (List.length_map _)) ?_;refine dA ?_;refine T.cond rfl (fun h21=>?_) (fun h21=>?_)
      ·have p21:=of_decide_eq_true h21;rw [eQ a5] at hk;generalize hn19:c6 f19 kk19 (r_.Loads.length - (i_20+1)) (i_20+1)=next19 at hk;rw [←hf19] at hk; (try dsimp only at hk);refine fh ?_;refine i2 ?_;refine cL (c8 (i:=i_20) rfl rfl rfl (SlC.mono hr__1 le1_8) (List.length_map _) rfl a5) ?_;refine cL (eg 1 (i:=i_20) rfl rfl rfl (SlC.mono hr__1 le1_8) a5) ?_;refine fX ?_;rintro _ _ ⟨g6,rfl,rfl⟩;refine kK ?_; (try dsimp only at hk);have hq:=d7 hk;clear hk;obtain ⟨k23,hk23,hk⟩:=hq; (try dsimp only at hk);refine cZ (ι:=Bool×FzB w (fun _=>False) S0) (fun z=>[(1, .pointer (some ⟨g1,0,none⟩)),(5, .int .i64 (i_20:Int)),(152, .bool z.1)]) (fun z=>[.row g1 27 [vr__0,vr__1,vr__2], .fr z.2]) (fun z=>k23 z.1=some r∧F8.toFrz.Le z.2.toFrz) ?_ ?_
       ·refine q1d ?_;refine cW rfl (Wt.none) rfl rfl (cM rfl rfl rfl (fun w hw=>zbl _ w (hw.fr (i:=2) rfl) ((cJ r_.Loads i_20).To))) ?_;refine mL ?_;refine dB rfl rfl rfl rfl (fun h24=>?_) (fun h24=>?_)
        ·replace hk:=dr hk h24;refine gV ?_;refine iX ?_;refine TS.run 24 rfl ?_;refine mB ?_;exact q46
        ·replace hk:=dq hk h24;refine m0 ?_;refine cW rfl (Wt.some) rfl rfl (cM rfl rfl rfl (fun w hw=>zbl _ w (hw.fr (i:=2) rfl) ((cJ r_.Loads i_20).From))) ?_;refine iJ ?_;refine gb ?_;refine dB rfl rfl rfl rfl (fun h25=>?_) (fun h25=>?_)
         ·replace hk:=dr hk h25;refine TS.run 21 rfl ?_;refine mB ?_;exact q46
         ·replace hk:=dq hk h25;refine fQ ?_;refine fQ ?_;refine gb ?_;refine dB rfl rfl rfl rfl (fun h26=>?_) (fun h26=>?_)
          ·have p26:=of_decide_eq_true h26;replace hk:=dr hk h26;refine TS.run 14 rfl ?_;refine mB ?_;exact q46
          ·have p26:=of_decide_eq_false h26;replace hk:=dq hk h26;refine fQ ?_;refine gb ?_;refine dB rfl rfl rfl rfl (fun h27=>?_) (fun h27=>?_)
           ·have p27:=of_decide_eq_true h27;replace hk:=dr hk h27;refine TS.run 9 rfl ?_;refine mB ?_;exact q46
           ·have p27:=of_decide_eq_false h27;replace hk:=dq hk h27;refine fQ ?_;refine gb ?_;refine dB rfl rfl rfl rfl (fun h28=>?_) (fun h28=>?_)
            ·have p28:=of_decide_eq_true h28;replace hk:=dr hk h28;refine TS.run 4 rfl ?_;refine mB ?_;exact q46
            ·have p28:=of_decide_eq_false h28;replace hk:=dq hk h28;refine fQ ?_;refine m0 ?_;refine cW rfl (Wt.some) rfl rfl (cM rfl rfl rfl (fun w hw=>zeH _ w (hw.fr (i:=2) rfl) ((cJ r_.Loads i_20).Low) ((cJ r_.Loads i_20).High))) ?_;refine iJ ?_;refine gb ?_;refine dB rfl rfl rfl rfl (fun h29=>?_) (fun h29=>?_)
             ·replace hk:=dr hk h29;refine TS.run 10 rfl ?_;refine q0e ?_;exact q46
             ·replace hk:=dq hk h29;refine gb ?_;refine dB rfl rfl rfl rfl (fun h30=>?_) (fun h30=>?_)
              ·have p30:=of_decide_eq_true h30;replace hk:=dr hk h30;refine q1Y ?_;refine q1i ?_;refine cQ rfl (c8 (i:=((i_20:Int) - 1).toNat) rfl rfl rfl (SlC.mono hr__1 le1_8) (List.length_map _) a5 a5) ?_;refine cQ rfl (eg 2 (i:=((i_20:Int) - 1).toNat) rfl rfl rfl (SlC.mono hr__1 le1_8) a5) ?_;refine jL ?_;refine dy ?_;refine cW rfl (Wt.some) rfl rfl (dR 2 rfl rfl rfl rfl (fun w hw hF=>zeZ _ w hF (cJ r_.Loads (((i_20:Int) - 1).toNat)))) ?_;rintro _ _ ⟨v146_0_0,F10,le8_10,hf146_0_0,hq,rfl⟩;obtain rfl:=hq.symm;haveI:=hf146_0_0.oneC;refine ⟨(fun w hw=>(hw.frLe (i:=2) rfl le8_10).sub Sx),?_⟩;refine dy ?_;refine cW rfl (Wt.some) rfl rfl (dR 2 rfl rfl rfl rfl (fun w hw hF=>zeZ _ w hF (cJ r_.Loads i_20))) ?_;rintro _ _ ⟨v148_0_0,F11,le10_11,hf148_0_0,hq,rfl⟩;obtain rfl:=hq.symm;have le8_11:=le8_10.trans le10_11;haveI:=hf148_0_0.oneC;refine ⟨(fun w hw=>(hw.frLe (i:=2) rfl le8_11).sub Sx),?_⟩;refine dy ?_;have hq:=d5 hk;clear hk;obtain ⟨r149,hr149,hk⟩:=hq;refine cW rfl (Wt.some) rfl rfl (cM rfl rfl rfl (fun w hw=>zev _ w (hw.fr (i:=2) rfl) (ln (cJ r_.Loads (((i_20:Int) - 1).toNat))) v146_0_0 (SlC.mono hf146_0_0 le10_11) (ln (cJ r_.Loads i_20)) v148_0_0 hf148_0_0 r149 hr149)) ?_;refine fD ?_;refine ⟨(fun w hw=>(hw.frLe (i:=2) rfl le8_11).sub Sx),?_⟩;refine gb ?_;refine gh ?_;refine mV ?_;exact cS (!r149,F11) ⟨hk,le8_11⟩ (.c (.c (.c .nil))) (List.Sublist.refl _)
              ·have p30:=of_decide_eq_false h30;replace hk:=dq hk h30;refine q3l ?_;exact cS (false,F8) ⟨hk,(Frz.Le.refl _)⟩ (.c (.c (.c .nil))) (List.Sublist.refl _)
       ·rintro ⟨x_22,F9⟩ ⟨hk,le8_9⟩; (try dsimp only at *);rw [←hk23] at hk; (try dsimp only at hk);have le2_9:=le2_8.trans le8_9;refine T.cond rfl (fun h31=>?_) (fun h31=>?_)
        ·replace hk:=dr hk h31;refine gN ?_;obtain rfl:=Option.some.inj hk;exact dW
        ·replace hk:=dq hk h31;refine ga ?_;rw [←hn19] at hk;exact K.next ((i_20+1),F9) ⟨hk,le2_9⟩ a8 (.c (.c .nil)) (List.Sublist.refl _)
      ·have p21:=of_decide_eq_false h21;rw [eO a5,←hkk19] at hk; (try dsimp only at hk);refine eC ?_;exact cS F8 ⟨hk,le2_8⟩ (.c .nil) (List.Sublist.refl _)
    ·rintro F7 ⟨hk,le2_7⟩;rw [←hk18] at hk; (try dsimp only at hk);have le1_7:=le1_2.trans le2_7;refine lT ?_;have hq:=d7 hk;clear hk;obtain ⟨k32,hk32,hk⟩:=hq; (try dsimp only at hk);refine cZ (ι:=FzB w (fun _=>False) S0) (fun z=>[]) (fun z=>[.fr z]) (fun z=>k32 ()=some r∧F7.toFrz.Le z.toFrz) ?_ ?_
     ·have hq:=eS hk;clear hk;obtain ⟨f33,kk33,hf33,hkk33,hk⟩:=hq;refine eA ?_;refine T.loop (ι:=Nat×FzB w (fun _=>False) S0) (fun z=>[(1, .pointer (some ⟨g1,0,none⟩)),(7, .int .i64 (z.1:Int))]) (fun z=>[.row g1 27 [vr__0,vr__1,vr__2], .fr z.2]) (fun z=>c6 f33 kk33 (r_.Caps.length - z.1) z.1 ()=some r∧F7.toFrz.Le z.2.toFrz) (fun z=>r_.Caps.length - z.1) (0,F7) ?_ ?_ ?_ ?_
      ·exact ⟨hk,(Frz.Le.refl _)⟩
      ·exact nE
      ·exact eh
      ·rintro ⟨i_34,F13⟩ ⟨hk,le7_13⟩; (try dsimp only at *);have le1_13:=le1_7.trans le7_13;refine jz ?_;refine ef ?_;refine cL (df rfl rfl (SlC.mono hr__2 le1_13) (List.length_map _)) ?_;refine dA ?_;refine T.cond rfl (fun h35=>?_) (fun h35=>?_)
       ·have p35:=of_decide_eq_true h35;rw [eQ a5] at hk;generalize hn33:c6 f33 kk33 (r_.Caps.length - (i_34+1)) (i_34+1)=next33 at hk;rw [←hf33] at hk; (try dsimp only at hk);refine fh ?_;refine i2 ?_;refine cL (c8 (i:=i_34) rfl rfl rfl (SlC.mono hr__2 le1_13) (List.length_map _) rfl a5) ?_;refine cL (eg 1 (i:=i_34) rfl rfl rfl (SlC.mono hr__2 le1_13) a5) ?_;refine fX ?_;rintro _ _ ⟨g8,rfl,rfl⟩;refine kK ?_; (try dsimp only at hk);have hq:=d7 hk;clear hk;obtain ⟨k37,hk37,hk⟩:=hq; (try dsimp only at hk);refine cZ (ι:=Bool×FzB w (fun _=>False) S0) (fun z=>[(1, .pointer (some ⟨g1,0,none⟩)),(7, .int .i64 (i_34:Int)),(203, .bool z.1)]) (fun z=>[.row g1 27 [vr__0,vr__1,vr__2], .fr z.2]) (fun z=>k37 z.1=some r∧F13.toFrz.Le z.2.toFrz) ?_ ?_
        ·refine dD (sN 0 2 (.eff 2 (sN 3 16 (.eff 19 (sN 20 12 (.still 33 (.eff 32 (.eff 34 (.eff 35 (sN 36 2 (.still 38 .done))))))))))) _ a7 (List.Sublist.refl _) ?_;refine m0 ?_;refine cW rfl (Wt.none) rfl rfl (cM rfl rfl rfl (fun w hw=>zbl _ w (hw.fr (i:=2) rfl) ((cJ r_.Caps i_34).Station))) ?_;refine mL ?_;refine dB rfl rfl rfl rfl (fun h38=>?_) (fun h38=>?_)
         ·replace hk:=dr hk h38;refine TS.run 14 rfl ?_;refine mB ?_;exact q5i
         ·replace hk:=dq hk h38;refine fQ ?_;refine gb ?_;refine dB rfl rfl rfl rfl (fun h39=>?_) (fun h39=>?_)
          ·have p39:=of_decide_eq_true h39;replace hk:=dr hk h39;refine TS.run 9 rfl ?_;refine mB ?_;exact q5i
          ·have p39:=of_decide_eq_false h39;replace hk:=dq hk h39;refine fQ ?_;refine gb ?_;refine dB rfl rfl rfl rfl (fun h40=>?_) (fun h40=>?_)
           ·have p40:=of_decide_eq_true h40;replace hk:=dr hk h40;refine TS.run 4 rfl ?_;refine mB ?_;exact q5i
           ·have p40:=of_decide_eq_false h40;replace hk:=dq hk h40;refine fQ ?_;refine m0 ?_;refine cW rfl (Wt.some) rfl rfl (cM rfl rfl rfl (fun w hw=>zeH _ w (hw.fr (i:=2) rfl) ((cJ r_.Caps i_34).Low) ((cJ r_.Caps i_34).High))) ?_;refine iJ ?_;refine gb ?_;refine dB rfl rfl rfl rfl (fun h41=>?_) (fun h41=>?_)
            ·replace hk:=dr hk h41;refine TS.run 10 rfl ?_;refine q0e ?_;exact q5i
            ·replace hk:=dq hk h41;refine gb ?_;refine dB rfl rfl rfl rfl (fun h42=>?_) (fun h42=>?_)
             ·have p42:=of_decide_eq_true h42;replace hk:=dr hk h42;refine q1Y ?_;refine q1i ?_;refine cQ rfl (c8 (i:=((i_34:Int) - 1).toNat) rfl rfl rfl (SlC.mono hr__2 le1_13) (List.length_map _) a5 a5) ?_;refine cQ rfl (eg 2 (i:=((i_34:Int) - 1).toNat) rfl rfl rfl (SlC.mono hr__2 le1_13) a5) ?_;refine jL ?_;refine dy ?_;refine cW rfl (Wt.some) rfl rfl (dR 2 rfl rfl rfl rfl (fun w hw hF=>zfC _ w hF (cJ r_.Caps (((i_34:Int) - 1).toNat)))) ?_;rintro _ _ ⟨v197_0_0,F15,le13_15,hf197_0_0,hq,rfl⟩;obtain rfl:=hq.symm;haveI:=hf197_0_0.oneC;refine ⟨(fun w hw=>(hw.frLe (i:=2) rfl le13_15).sub Sx),?_⟩;refine dy ?_;refine cW rfl (Wt.some) rfl rfl (dR 2 rfl rfl rfl rfl (fun w hw hF=>zfC _ w hF (cJ r_.Caps i_34))) ?_;rintro _ _ ⟨v199_0_0,F16,le15_16,hf199_0_0,hq,rfl⟩;obtain rfl:=hq.symm;have le13_16:=le13_15.trans le15_16;haveI:=hf199_0_0.oneC;refine ⟨(fun w hw=>(hw.frLe (i:=2) rfl le13_16).sub Sx),?_⟩;refine dy ?_;have hq:=d5 hk;clear hk;obtain ⟨r200,hr200,hk⟩:=hq;refine cW rfl (Wt.some) rfl rfl (cM rfl rfl rfl (fun w hw=>zev _ w (hw.fr (i:=2) rfl) (kY (cJ r_.Caps (((i_34:Int) - 1).toNat))) v197_0_0 (SlC.mono hf197_0_0 le15_16) (kY (cJ r_.Caps i_34)) v199_0_0 hf199_0_0 r200 hr200)) ?_;refine fD ?_;refine ⟨(fun w hw=>(hw.frLe (i:=2) rfl le13_16).sub Sx),?_⟩;refine gb ?_;refine gh ?_;refine mV ?_;exact cS (!r200,F16) ⟨hk,le13_16⟩ (.c (.c (.c .nil))) (List.Sublist.refl _)
             ·have p42:=of_decide_eq_false h42;replace hk:=dq hk h42;refine q3l ?_;exact cS (false,F13) ⟨hk,(Frz.Le.refl _)⟩ (.c (.c (.c .nil))) (List.Sublist.refl _)
        ·rintro ⟨x_36,F14⟩ ⟨hk,le13_14⟩; (try dsimp only at *);rw [←hk37] at hk; (try dsimp only at hk);have le7_14:=le7_13.trans le13_14;refine T.cond rfl (fun h43=>?_) (fun h43=>?_)
         ·replace hk:=dr hk h43;refine gN ?_;obtain rfl:=Option.some.inj hk;exact dW
         ·replace hk:=dq hk h43;refine ga ?_;rw [←hn33] at hk;exact K.next ((i_34+1),F14) ⟨hk,le7_14⟩ a8 (.c (.c .nil)) (List.Sublist.refl _)
       ·have p35:=of_decide_eq_false h35;rw [eO a5,←hkk33] at hk; (try dsimp only at hk);refine nI ?_;exact cS F13 ⟨hk,le7_13⟩ .nil (List.Sublist.refl _)
     ·rintro F12 ⟨hk,le7_12⟩;rw [←hk32] at hk; (try dsimp only at hk);refine jB ?_;obtain rfl:=Option.some.inj hk;exact dW
def zbw (p:GProblem):Option Bool:=
 dH (fun (x_1:Bool)=>
  (bif x_1 then
   some false
   else
   dH (fun (_:Unit)=>
    dH (fun (_:Unit)=>
     dH (fun (_:Unit)=>
      dH (fun (_:Unit)=>
       some true)
      (fun k32=>
       c6 (fun (i_34:Nat) (next33:Unit→Option Bool) (_:Unit)=>
        (bif decide ((fF p ((cJ p.Rules.Caps i_34).Station))<0) then
         some false
         else
         next33 ()))
       (fun (_:Unit)=>
        k32 ()) (p.Rules.Caps.length - 0) 0 ()))
     (fun k26=>
      c6 (fun (i_28:Nat) (next27:Unit→Option Bool) (_:Unit)=>
       (bif ((decide ((fF p ((cJ p.Rules.Loads i_28).To))<0))||(decide ((fF p ((cJ p.Rules.Loads i_28).From))<0))) then
        some false
        else
        next27 ()))
      (fun (_:Unit)=>
       k26 ()) (p.Rules.Loads.length - 0) 0 ()))
    (fun k20=>
     c6 (fun (i_22:Nat) (next21:Unit→Option Bool) (_:Unit)=>
      (bif ((decide ((fF p ((cJ p.Rules.Pairs i_22).A))<0))||(decide ((fF p ((cJ p.Rules.Pairs i_22).B))<0))) then
       some false
       else
       next21 ()))
     (fun (_:Unit)=>
      k20 ()) (p.Rules.Pairs.length - 0) 0 ()))
   (fun k5=>
    c6 (fun (i_7:Nat) (next6:Unit→Option Bool) (_:Unit)=>
     (bif (((!(kb ((cJ p.Domains i_7).Station)))||((decide (0<(i_7:Int)))&&(decide ((cJ p.Domains i_7).Station≤(cJ p.Domains (((i_7:Int) - 1).toNat)).Station))))||(decide (50<(((cJ p.Domains i_7).Channels).length:Int)))) then
      some false
      else
      c6 (fun (k_14:Nat) (next13:Unit→Option Bool) (_:Unit)=>
       (bif (((decide ((cJ ((cJ p.Domains i_7).Channels) k_14)<2))||(decide (51<(cJ ((cJ p.Domains i_7).Channels) k_14))))||((decide (0<(k_14:Int)))&&(decide ((cJ ((cJ p.Domains i_7).Channels) k_14)≤(cJ ((cJ p.Domains i_7).Channels) (((k_14:Int) - 1).toNat)))))) then
        some false
        else
        next13 ()))
      (fun (_:Unit)=>
       next6 ()) ((((cJ p.Domains i_7).Channels).length) - 0) 0 ()))
    (fun (_:Unit)=>
     k5 ()) (p.Domains.length - 0) 0 ())))
 (fun k2=>
  (bif decide (512<(p.Domains.length:Int)) then
   k2 true
   else
   (za0 p.Rules).bind fun r16=>
   k2 (!r16)))
theorem zea (F0:Frz)(w:World)(hF0:F0.At w)(p:GProblem)(vp_0:Value)(cp_0:List (List Value))(hp_0:SlD cK F0 vp_0 2 cp_0 p.Domains)(vp_1:Value)(hp_1:SlC F0 vp_1 5 (p.Rules.Pairs.map cO))(vp_2:Value)(hp_2:SlC F0 vp_2 5 (p.Rules.Loads.map cP))(vp_3:Value)(hp_3:SlC F0 vp_3 4 (p.Rules.Caps.map cR))(r:Bool)(hr:zbw p=some r):Calls Tryz.prog 26 #[.agg [vp_0,vp_1,vp_2,vp_3].toArray] w fun e w'=>e= .returned (.bool r)∧Below w.heap.size w w':=by
 have hk:=hr;unfold zbw at hk;haveI:=hp_0.1.oneC;haveI:=hp_1.oneC;haveI:=hp_2.oneC;haveI:=hp_3.oneC;obtain ⟨S0,F1,rfl,hS0,hp0⟩:=ey hF0;refine dt Tryz.func26 rfl rfl rfl hp0 ?_;refine gp ?_;rintro _ _ ⟨g1,rfl,rfl⟩;refine mJ ?_; (try dsimp only at hk);have hq:=d7 hk;clear hk;obtain ⟨k2,hk2,hk⟩:=hq; (try dsimp only at hk);refine cZ (ι:=Bool) (fun z=>[(1, .pointer (some ⟨g1,0,none⟩)),(18, .bool z)]) (fun z=>[.row g1 29 [vp_0,vp_1,vp_2,vp_3], .fr F1]) (fun z=>k2 z=some r) ?_ ?_
 ·refine lj ?_;refine q2J ?_;have hm11:p.Domains.length≤9223372036854775807:=hp_0.2.1▸hp_0.1.max;refine d8 ?_;refine dn rfl rfl rfl (fun h3=>?_) (fun h3=>?_)
  ·have p3:=of_decide_eq_true h3;replace hk:=dr hk h3;refine lg ?_;exact cS true hk (.c (.c .nil)) (List.Sublist.refl _)
  ·have p3:=of_decide_eq_false h3;replace hk:=dq hk h3;refine fc ?_;refine cL (nG 0 (m:=[vp_1,vp_2,vp_3]) rfl rfl rfl rfl rfl) ?_;have hq:=d5 hk;clear hk;obtain ⟨r16,hr16,hk⟩:=hq;refine cU (cM rfl rfl rfl (fun w hw=>zfw _ w (hw.fr (i:=1) rfl) p.Rules vp_1 hp_1 vp_2 hp_2 vp_3 hp_3 r16 hr16)) ?_;refine lc ?_;exact cS (!r16) hk (.c (.c .nil)) (List.Sublist.refl _)
 ·rintro x_1 hk;rw [←hk2] at hk; (try dsimp only at hk);refine T.cond rfl (fun h4=>?_) (fun h4=>?_)
  ·replace hk:=dr hk h4;refine iw ?_;obtain rfl:=Option.some.inj hk;exact dW
  ·replace hk:=dq hk h4;refine m5 ?_;have hq:=d7 hk;clear hk;obtain ⟨k5,hk5,hk⟩:=hq; (try dsimp only at hk);refine cZ (ι:=Unit) (fun z=>[(1, .pointer (some ⟨g1,0,none⟩))]) (fun z=>[.row g1 29 [vp_0,vp_1,vp_2,vp_3], .fr F1]) (fun z=>k5 ()=some r) ?_ ?_
   ·have hq:=eS hk;clear hk;obtain ⟨f6,kk6,hf6,hkk6,hk⟩:=hq;refine eA ?_;refine T.loop (ι:=Nat) (fun z=>[(1, .pointer (some ⟨g1,0,none⟩)),(3, .int .i64 (z:Int))]) (fun z=>[.row g1 29 [vp_0,vp_1,vp_2,vp_3], .fr F1]) (fun z=>c6 f6 kk6 (p.Domains.length - z) z ()=some r) (fun z=>p.Domains.length - z) 0 ?_ ?_ ?_ ?_
    ·exact hk
    ·exact nE
    ·exact eh
    ·rintro i_7 hk;refine jz ?_;refine ef ?_;refine q2J ?_;have hm22:p.Domains.length≤9223372036854775807:=hp_0.2.1▸hp_0.1.max;refine dA ?_;refine T.cond rfl (fun h8=>?_) (fun h8=>?_)
     ·have p8:=of_decide_eq_true h8;rw [eQ a5] at hk;generalize hn6:c6 f6 kk6 (p.Domains.length - (i_7+1)) (i_7+1)=next6 at hk;rw [←hf6] at hk; (try dsimp only at hk);refine fh ?_;refine i2 ?_;refine cL (c8 (i:=i_7) rfl rfl rfl hp_0.1 hp_0.2.1 rfl a5) ?_;refine cL (kO 1 (i:=i_7) (j:=0) rfl rfl rfl hp_0.1 hp_0.2.1 a5 rfl (fL (hp_0.2.2 i_7 a5)) rfl) ?_;have hd30_1:=(GDomain.c1 (hp_0.2.2 i_7 a5)).2;haveI:=hd30_1.oneC;refine fX ?_;rintro _ _ ⟨g4,rfl,rfl⟩;refine j8 ?_;refine mo ?_;refine cZ (ι:=Unit) (fun z=>[(1, .pointer (some ⟨g1,0,none⟩)),(3, .int .i64 (i_7:Int)),(4, .pointer (some ⟨g4,0,none⟩)),(56, .bool (((!(kb ((cJ p.Domains i_7).Station)))||((decide (0<(i_7:Int)))&&(decide ((cJ p.Domains i_7).Station≤(cJ p.Domains (((i_7:Int) - 1).toNat)).Station))))||(decide (50<(((cJ p.Domains i_7).Channels).length:Int)))))]) (fun z=>[.row g4 98 [.int .i64 ((cJ p.Domains i_7).Station),(cJ (cJ cp_0 i_7) 1)], .row g1 29 [vp_0,vp_1,vp_2,vp_3], .fr F1]) (fun z=>True) ?_ ?_
      ·refine dD (sN 0 2 (.eff 2 (sN 3 22 (.still 25 .done)))) _ a7 (List.Sublist.refl _) ?_;refine m0 ?_;refine cW rfl (Wt.none) rfl rfl (cM rfl rfl rfl (fun w hw=>zbl _ w (hw.fr (i:=2) rfl) ((cJ p.Domains i_7).Station))) ?_;refine mL ?_;refine dB rfl rfl rfl rfl (fun h9=>?_) (fun h9=>?_)
       ·refine TS.run 21 rfl ?_;refine gh ?_;exact cS () trivial (.c (.c (.c (.b (ie (ie h9)).symm .nil)))) (List.Sublist.refl _)
       ·refine gb ?_;refine dB rfl rfl rfl rfl (fun h10=>?_) (fun h10=>?_)
        ·have p10:=of_decide_eq_true h10;refine q1Y ?_;refine q1i ?_;refine cQ rfl (c8 (i:=((i_7:Int) - 1).toNat) rfl rfl rfl hp_0.1 hp_0.2.1 a5 a5) ?_;refine cQ rfl (eE rfl rfl hp_0.1 hp_0.2.1 a5) ?_;refine cQ rfl (dj 2 (i:=((i_7:Int) - 1).toNat) (j:=0) rfl rfl rfl hp_0.1 hp_0.2.1 a5 rfl (GDomain.c0 (hp_0.2.2 (((i_7:Int) - 1).toNat) a5))) ?_;refine fQ ?_;refine TS.run 4 rfl ?_;refine dB rfl rfl rfl rfl (fun h11=>?_) (fun h11=>?_)
         ·have p11:=of_decide_eq_true h11;refine TS.run 5 rfl ?_;refine gh ?_;exact cS () trivial (.c (.c (.c (.b (ie (jK h9 (jn h10 h11))).symm .nil)))) (List.Sublist.refl _)
         ·have p11:=of_decide_eq_false h11;refine fQ ?_;refine cQ rfl (df rfl rfl hd30_1 (List.length_map _)) ?_;have hm54:((cJ p.Domains i_7).Channels).length≤9223372036854775807:=(List.length_map _)▸hd30_1.max;refine kR ?_;exact cS () trivial (.c (.c (.c (.b (f9 (jK h9 (jn h10 h11))) .nil)))) (List.Sublist.refl _)
        ·have p10:=of_decide_eq_false h10;refine TS.run 13 rfl ?_;refine fQ ?_;refine cQ rfl (df rfl rfl hd30_1 (List.length_map _)) ?_;have hm54:((cJ p.Domains i_7).Channels).length≤9223372036854775807:=(List.length_map _)▸hd30_1.max;refine kR ?_;exact cS () trivial (.c (.c (.c (.b (f9 (jK h9 (gr h10))) .nil)))) (List.Sublist.refl _)
      ·rintro _ _;have hm54:((cJ p.Domains i_7).Channels).length≤9223372036854775807:=(List.length_map _)▸hd30_1.max;refine T.cond rfl (fun h12=>?_) (fun h12=>?_)
       ·replace hk:=dr hk h12;refine gy ?_;refine q19 ?_;obtain rfl:=Option.some.inj hk;exact dW
       ·have p12:=h12; (try simp only [cX] at p12);replace hk:=dq hk h12;refine iO ?_;refine dA ?_;have hq:=eS hk;clear hk;obtain ⟨f13,kk13,hf13,hkk13,hk⟩:=hq;refine eA ?_;refine T.loop (ι:=Nat) (fun z=>[(1, .pointer (some ⟨g1,0,none⟩)),(3, .int .i64 (i_7:Int)),(4, .pointer (some ⟨g4,0,none⟩)),(5, .int .i64 (z:Int))]) (fun z=>[.row g4 98 [.int .i64 ((cJ p.Domains i_7).Station),(cJ (cJ cp_0 i_7) 1)], .row g1 29 [vp_0,vp_1,vp_2,vp_3], .fr F1]) (fun z=>c6 f13 kk13 ((((cJ p.Domains i_7).Channels).length) - z) z ()=some r) (fun z=>(((cJ p.Domains i_7).Channels).length) - z) 0 ?_ ?_ ?_ ?_
        ·exact hk
        ·exact nA
        ·exact eh
        ·rintro k_14 hk;refine jz ?_;refine ef ?_;refine cL (df rfl rfl hd30_1 (List.length_map _)) ?_;refine dA ?_;refine T.cond rfl (fun h15=>?_) (fun h15=>?_)
         ·have p15:=of_decide_eq_true h15;rw [eQ a5] at hk;generalize hn13:c6 f13 kk13 ((((cJ p.Domains i_7).Channels).length) - (k_14+1)) (k_14+1)=next13 at hk;rw [←hf13] at hk; (try dsimp only at hk);refine je ?_;refine cZ (ι:=Unit) (fun z=>[(1, .pointer (some ⟨g1,0,none⟩)),(3, .int .i64 (i_7:Int)),(4, .pointer (some ⟨g4,0,none⟩)),(5, .int .i64 (k_14:Int)),(95, .bool (((decide ((cJ ((cJ p.Domains i_7).Channels) k_14)<2))||(decide (51<(cJ ((cJ p.Domains i_7).Channels) k_14))))||((decide (0<(k_14:Int)))&&(decide ((cJ ((cJ p.Domains i_7).Channels) k_14)≤(cJ ((cJ p.Domains i_7).Channels) (((k_14:Int) - 1).toNat)))))))]) (fun z=>[.row g4 98 [.int .i64 ((cJ p.Domains i_7).Station),(cJ (cJ cp_0 i_7) 1)], .row g1 29 [vp_0,vp_1,vp_2,vp_3], .fr F1]) (fun z=>True) ?_ ?_
          ·refine dD (sN 0 31 (.still 31 .done)) _ a7 (List.Sublist.refl _) ?_;refine q14 ?_;refine gV ?_;refine dB rfl rfl rfl rfl (fun h16=>?_) (fun h16=>?_)
           ·have p16:=of_decide_eq_true h16;refine TS.run 25 rfl ?_;refine gh ?_;exact cS () trivial (.c (.c (.c (.c (.b (ie (ie h16)).symm .nil))))) (List.Sublist.refl _)
           ·have p16:=of_decide_eq_false h16;refine q14 ?_;refine gb ?_;refine dB rfl rfl rfl rfl (fun h17=>?_) (fun h17=>?_)
            ·have p17:=of_decide_eq_true h17;refine TS.run 17 rfl ?_;refine gh ?_;exact cS () trivial (.c (.c (.c (.c (.b (ie (jK h16 h17)).symm .nil))))) (List.Sublist.refl _)
            ·have p17:=of_decide_eq_false h17;refine gb ?_;refine dB rfl rfl rfl rfl (fun h18=>?_) (fun h18=>?_)
             ·have p18:=of_decide_eq_true h18;refine ni ?_;refine q1i ?_;refine cQ rfl (c8 (i:=((k_14:Int) - 1).toNat) rfl rfl rfl hd30_1 (List.length_map _) a5 a5) ?_;refine cQ rfl (dN 2 (i:=((k_14:Int) - 1).toNat) (j:=0) rfl rfl rfl hd30_1 a5) ?_;refine q14 ?_;refine gb ?_;refine gh ?_;exact cS () trivial (.c (.c (.c (.c (.b (Eq.trans (ku h18) (f9 (jK h16 h17))) .nil))))) (List.Sublist.refl _)
             ·have p18:=of_decide_eq_false h18;refine TS.run 14 rfl ?_;refine gh ?_;exact cS () trivial (.c (.c (.c (.c (.b (jK (jK h16 h17) (gr h18)).symm .nil))))) (List.Sublist.refl _)
          ·rintro _ _;refine T.cond rfl (fun h19=>?_) (fun h19=>?_)
           ·replace hk:=dr hk h19;refine q2L ?_;obtain rfl:=Option.some.inj hk;exact dW
           ·have p19:=h19; (try simp only [cX] at p19);replace hk:=dq hk h19;refine ga ?_;rw [←hn13] at hk;exact K.next (k_14+1) hk a5 (.c (.c (.c (.c .nil)))) (List.Sublist.refl _)
         ·have p15:=of_decide_eq_false h15;rw [eO a5,←hkk13] at hk; (try dsimp only at hk);refine q2R ?_;refine di ?_;refine jH ?_;rw [←hn6] at hk;refine mV ?_;exact K.next (i_7+1) hk a5 (.c (.c .nil)) (List.Sublist.refl _)
     ·have p8:=of_decide_eq_false h8;rw [eO a5,←hkk6] at hk; (try dsimp only at hk);refine eC ?_;exact q5h
   ·rintro _ hk;rw [←hk5] at hk; (try dsimp only at hk);refine lT ?_;have hq:=d7 hk;clear hk;obtain ⟨k20,hk20,hk⟩:=hq; (try dsimp only at hk);refine cZ (ι:=Unit) (fun z=>[(1, .pointer (some ⟨g1,0,none⟩))]) (fun z=>[.row g1 29 [vp_0,vp_1,vp_2,vp_3], .fr F1]) (fun z=>k20 ()=some r) ?_ ?_
    ·have hq:=eS hk;clear hk;obtain ⟨f21,kk21,hf21,hkk21,hk⟩:=hq;refine eA ?_;refine T.loop (ι:=Nat) (fun z=>[(1, .pointer (some ⟨g1,0,none⟩)),(6, .int .i64 (z:Int))]) (fun z=>[.row g1 29 [vp_0,vp_1,vp_2,vp_3], .fr F1]) (fun z=>c6 f21 kk21 (p.Rules.Pairs.length - z) z ()=some r) (fun z=>p.Rules.Pairs.length - z) 0 ?_ ?_ ?_ ?_
     ·exact hk
     ·exact nE
     ·exact eh
     ·rintro i_22 hk;refine jz ?_;refine q4r ?_;have hm100:p.Rules.Pairs.length≤9223372036854775807:=(List.length_map _)▸hp_1.max;refine dA ?_;refine T.cond rfl (fun h23=>?_) (fun h23=>?_)
      ·have p23:=of_decide_eq_true h23;rw [eQ a5] at hk;generalize hn21:c6 f21 kk21 (p.Rules.Pairs.length - (i_22+1)) (i_22+1)=next21 at hk;rw [←hf21] at hk; (try dsimp only at hk);refine je ?_;refine cZ (ι:=Unit) (fun z=>[(1, .pointer (some ⟨g1,0,none⟩)),(6, .int .i64 (i_22:Int)),(125, .bool ((decide ((fF p ((cJ p.Rules.Pairs i_22).A))<0))||(decide ((fF p ((cJ p.Rules.Pairs i_22).B))<0))))]) (fun z=>[.row g1 29 [vp_0,vp_1,vp_2,vp_3], .fr F1]) (fun z=>True) ?_ ?_
       ·refine q2e ?_;refine q4c ?_;refine cQ rfl (dN 1 (i:=i_22) (j:=0) rfl rfl rfl hp_1 a5) ?_;refine dy ?_;refine cW rfl (Wt.none) rfl rfl (cM rfl rfl rfl (fun w hw=>zcp _ w (hw.fr (i:=1) rfl) p vp_0 cp_0 hp_0 vp_1 hp_1 vp_2 hp_2 vp_3 hp_3 ((cJ p.Rules.Pairs i_22).A))) ?_;refine mL ?_;refine dB rfl rfl rfl rfl (fun h24=>?_) (fun h24=>?_)
        ·have p24:=of_decide_eq_true h24;refine TS.run 8 rfl ?_;refine iX ?_;refine kR ?_;exact cS () trivial (.c (.c (.b (ie h24).symm .nil))) (List.Sublist.refl _)
        ·have p24:=of_decide_eq_false h24;refine jL ?_;refine fH ?_;refine ni ?_;refine q4c ?_;refine cQ rfl (dN 1 (i:=i_22) (j:=1) rfl rfl rfl hp_1 a5) ?_;refine dy ?_;refine cW rfl (Wt.some) rfl rfl (cM rfl rfl rfl (fun w hw=>zcp _ w (hw.fr (i:=1) rfl) p vp_0 cp_0 hp_0 vp_1 hp_1 vp_2 hp_2 vp_3 hp_3 ((cJ p.Rules.Pairs i_22).B))) ?_;refine iJ ?_;refine kR ?_;exact cS () trivial (.c (.c (.b (f9 h24) .nil))) (List.Sublist.refl _)
       ·rintro _ _;refine T.cond rfl (fun h25=>?_) (fun h25=>?_)
        ·replace hk:=dr hk h25;refine gN ?_;obtain rfl:=Option.some.inj hk;exact dW
        ·have p25:=h25; (try simp only [cX] at p25);replace hk:=dq hk h25;refine ga ?_;rw [←hn21] at hk;exact K.next (i_22+1) hk a5 (.c (.c .nil)) (List.Sublist.refl _)
      ·have p23:=of_decide_eq_false h23;rw [eO a5,←hkk21] at hk; (try dsimp only at hk);refine eC ?_;exact q5h
    ·rintro _ hk;rw [←hk20] at hk; (try dsimp only at hk);refine lT ?_;have hq:=d7 hk;clear hk;obtain ⟨k26,hk26,hk⟩:=hq; (try dsimp only at hk);refine cZ (ι:=Unit) (fun z=>[(1, .pointer (some ⟨g1,0,none⟩))]) (fun z=>[.row g1 29 [vp_0,vp_1,vp_2,vp_3], .fr F1]) (fun z=>k26 ()=some r) ?_ ?_
     ·have hq:=eS hk;clear hk;obtain ⟨f27,kk27,hf27,hkk27,hk⟩:=hq;refine eA ?_;refine T.loop (ι:=Nat) (fun z=>[(1, .pointer (some ⟨g1,0,none⟩)),(7, .int .i64 (z:Int))]) (fun z=>[.row g1 29 [vp_0,vp_1,vp_2,vp_3], .fr F1]) (fun z=>c6 f27 kk27 (p.Rules.Loads.length - z) z ()=some r) (fun z=>p.Rules.Loads.length - z) 0 ?_ ?_ ?_ ?_
      ·exact hk
      ·exact nE
      ·exact eh
      ·rintro i_28 hk;refine jz ?_;refine q3m ?_;have hm130:p.Rules.Loads.length≤9223372036854775807:=(List.length_map _)▸hp_2.max;refine dA ?_;refine T.cond rfl (fun h29=>?_) (fun h29=>?_)
       ·have p29:=of_decide_eq_true h29;rw [eQ a5] at hk;generalize hn27:c6 f27 kk27 (p.Rules.Loads.length - (i_28+1)) (i_28+1)=next27 at hk;rw [←hf27] at hk; (try dsimp only at hk);refine je ?_;refine cZ (ι:=Unit) (fun z=>[(1, .pointer (some ⟨g1,0,none⟩)),(7, .int .i64 (i_28:Int)),(155, .bool ((decide ((fF p ((cJ p.Rules.Loads i_28).To))<0))||(decide ((fF p ((cJ p.Rules.Loads i_28).From))<0))))]) (fun z=>[.row g1 29 [vp_0,vp_1,vp_2,vp_3], .fr F1]) (fun z=>True) ?_ ?_
        ·refine q2e ?_;refine q4d ?_;refine cQ rfl (dN 1 (i:=i_28) (j:=0) rfl rfl rfl hp_2 a5) ?_;refine dy ?_;refine cW rfl (Wt.none) rfl rfl (cM rfl rfl rfl (fun w hw=>zcp _ w (hw.fr (i:=1) rfl) p vp_0 cp_0 hp_0 vp_1 hp_1 vp_2 hp_2 vp_3 hp_3 ((cJ p.Rules.Loads i_28).To))) ?_;refine mL ?_;refine dB rfl rfl rfl rfl (fun h30=>?_) (fun h30=>?_)
         ·have p30:=of_decide_eq_true h30;refine TS.run 8 rfl ?_;refine iX ?_;refine kR ?_;exact cS () trivial (.c (.c (.b (ie h30).symm .nil))) (List.Sublist.refl _)
         ·have p30:=of_decide_eq_false h30;refine jL ?_;refine fH ?_;refine ni ?_;refine q4d ?_;refine cQ rfl (dN 1 (i:=i_28) (j:=1) rfl rfl rfl hp_2 a5) ?_;refine dy ?_;refine cW rfl (Wt.some) rfl rfl (cM rfl rfl rfl (fun w hw=>zcp _ w (hw.fr (i:=1) rfl) p vp_0 cp_0 hp_0 vp_1 hp_1 vp_2 hp_2 vp_3 hp_3 ((cJ p.Rules.Loads i_28).From))) ?_;refine iJ ?_;refine kR ?_;exact cS () trivial (.c (.c (.b (f9 h30) .nil))) (List.Sublist.refl _)
        ·rintro _ _;refine T.cond rfl (fun h31=>?_) (fun h31=>?_)
         ·replace hk:=dr hk h31;refine gN ?_;obtain rfl:=Option.some.inj hk;exact dW
         ·have p31:=h31; (try simp only [cX] at p31);replace hk:=dq hk h31;refine ga ?_;rw [←hn27] at hk;exact K.next (i_28+1) hk a5 (.c (.c .nil)) (List.Sublist.refl _)
       ·have p29:=of_decide_eq_false h29;rw [eO a5,←hkk27] at hk; (try dsimp only at hk);refine eC ?_;exact q5h
     ·rintro _ hk;rw [←hk26] at hk; (try dsimp only at hk);refine lT ?_;have hq:=d7 hk;clear hk;obtain ⟨k32,hk32,hk⟩:=hq; (try dsimp only at hk);refine cZ (ι:=Unit) (fun z=>[]) (fun z=>[.fr F1]) (fun z=>k32 ()=some r) ?_ ?_
      ·have hq:=eS hk;clear hk;obtain ⟨f33,kk33,hf33,hkk33,hk⟩:=hq;refine eA ?_;refine T.loop (ι:=Nat) (fun z=>[(1, .pointer (some ⟨g1,0,none⟩)),(8, .int .i64 (z:Int))]) (fun z=>[.row g1 29 [vp_0,vp_1,vp_2,vp_3], .fr F1]) (fun z=>c6 f33 kk33 (p.Rules.Caps.length - z) z ()=some r) (fun z=>p.Rules.Caps.length - z) 0 ?_ ?_ ?_ ?_
       ·exact hk
       ·exact nE
       ·exact eh
       ·rintro i_34 hk;refine jz ?_;refine q4w ?_;have hm160:p.Rules.Caps.length≤9223372036854775807:=(List.length_map _)▸hp_3.max;refine dA ?_;refine T.cond rfl (fun h35=>?_) (fun h35=>?_)
        ·have p35:=of_decide_eq_true h35;rw [eQ a5] at hk;generalize hn33:c6 f33 kk33 (p.Rules.Caps.length - (i_34+1)) (i_34+1)=next33 at hk;rw [←hf33] at hk; (try dsimp only at hk);refine q3T ?_;refine jL ?_;refine fH ?_;refine ni ?_;refine cQ rfl (c8 (i:=i_34) rfl rfl rfl hp_3 (List.length_map _) rfl a5) ?_;refine cQ rfl (eE rfl rfl hp_3 (List.length_map _) a5) ?_;refine cQ rfl (dN 1 (i:=i_34) (j:=0) rfl rfl rfl hp_3 a5) ?_;refine dy ?_;refine cW rfl (Wt.none) rfl rfl (cM rfl rfl rfl (fun w hw=>zcp _ w (hw.fr (i:=1) rfl) p vp_0 cp_0 hp_0 vp_1 hp_1 vp_2 hp_2 vp_3 hp_3 ((cJ p.Rules.Caps i_34).Station))) ?_;refine iJ ?_;refine kg ?_;refine T.cond rfl (fun h36=>?_) (fun h36=>?_)
         ·have p36:=of_decide_eq_true h36;replace hk:=dr hk h36;refine gN ?_;obtain rfl:=Option.some.inj hk;exact dW
         ·have p36:=of_decide_eq_false h36;replace hk:=dq hk h36;refine ga ?_;rw [←hn33] at hk;exact K.next (i_34+1) hk a5 (.c (.c .nil)) (List.Sublist.refl _)
        ·have p35:=of_decide_eq_false h35;rw [eO a5,←hkk33] at hk; (try dsimp only at hk);refine nI ?_;exact jS
      ·rintro _ hk;rw [←hk32] at hk; (try dsimp only at hk);refine jB ?_;obtain rfl:=Option.some.inj hk;exact dW
end Go.Proofs.YtogbggmckmnlfaaGreatDoor
