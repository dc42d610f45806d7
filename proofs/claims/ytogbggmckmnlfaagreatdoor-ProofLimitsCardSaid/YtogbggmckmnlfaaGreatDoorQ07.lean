/- Ff Fo St Fv Sz Ka Yb Yc Yn Sk: shortened and put together by squeeze.py. -/
import Derived.Test.YtogbggmckmnlfaaGreatDoorQ06
import Derived.Laws.Slices
set_option maxRecDepth 100000
set_option maxHeartbeats 4000000
set_option linter.unusedVariables false
set_option linter.unusedSectionVars false
set_option linter.unusedSimpArgs false
namespace Go.Proofs.YtogbggmckmnlfaaGreatDoor
open Go.RowKit
def gh (v:Value)(l h k:Nat):Value:=match v with
 | .slice a _ cap=>sliced a l h cap k
 |x=>x
theorem SlC.slice {F:Frz}{v:Value}{size:Nat}{cs:List (List Value)}(h:SlC F v size cs){l i:Nat}(hl:l≤i)(hi:i≤cs.length):SlC F (gh v l i size) size ((cs.take i).drop l):=by
 obtain ⟨A,cap,rfl,h2,h3,h4,h5⟩:=h; (have hlen:((cs.take i).drop l).length=i - l:=by rw [List.length_drop,List.length_take];omega);have hmem:∀c∈(cs.take i).drop l,c∈cs:=fun c hc=>List.mem_of_mem_take (List.mem_of_mem_drop hc);refine ⟨if cap=l then A else A.map (·.add (l*size)),cap - l,?_,by omega,by omega,fun c hc=>h4 c (hmem c hc),fun hp=>?_⟩
 ·rw [hlen];rfl
 ·rw [hlen] at hp;obtain ⟨g,off,rfl,hg,hc⟩:=h5 a5;rw [if_neg a5];refine ⟨g,off+l*size,by simp [zdA],hg,fun j hj=>?_⟩;rw [hlen] at hj;have h6:=hc (l+j) a5
  have e:cH ((cs.take i).drop l) j=cH cs (l+j):=by
   rw [dW a5,dW a5,List.getElem_drop,List.getElem_take]
  rw [e,show off+l*size+j*size=off+(l+j) *size by rw [Nat.add_mul];omega];exact h6
theorem SlD.slice {α:Type}[Inhabited α]{rep:Frz→List Value→α→Prop}{F:Frz}{v:Value}{size:Nat}{cs:List (List Value)}{xs:List α}(h:SlD rep F v size cs xs){l i:Nat}(hl:l≤i)(hi:i≤xs.length):SlD rep F (gh v l i size) size ((cs.take i).drop l) ((xs.take i).drop l):=by
 refine ⟨h.1.slice hl (by rw [h.2.1];exact hi),?_,fun j hj=>?_⟩
 ·rw [List.length_drop,List.length_take,List.length_drop,List.length_take,h.2.1]
 ·have hj':=hj;rw [List.length_drop,List.length_take] at hj'
  have e:cH ((cs.take i).drop l) j=cH cs (l+j):=by
   rw [dW (by rw [List.length_drop,List.length_take,h.2.1];omega),dW (by rw [h.2.1];omega),List.getElem_drop,List.getElem_take]
  have e':cH ((xs.take i).drop l) j=cH xs (l+j):=by
   rw [dW hj,dW a5,List.getElem_drop,List.getElem_take]
  rw [e,e'];exact h.2.2 _ a5
section
variable {F:Frz}{v:Value}{size:Nat}
theorem SlC.sliceh {α:Type}{enc:α→List Value}{xs:List α}(h:SlC F v size (xs.map enc)){i:Nat}(hi:i≤xs.length):SlC F (gh v 0 i size) size ((xs.take i).map enc):=by
 have:=h.slice (l:=0) (i:=i) (Nat.zero_le _) (by rw [List.length_map];exact hi)
 rwa [List.drop_zero,←List.map_take] at this
variable {α:Type}[Inhabited α]{rep:Frz→List Value→α→Prop}{cs:List (List Value)}{xs:List α}
theorem SlD.sliceh (h:SlD rep F v size cs xs){i:Nat}(hi:i≤xs.length):SlD rep F (gh v 0 i size) size (cs.take i) (xs.take i):=by
 have:=h.slice (l:=0) (Nat.zero_le _) hi
 rwa [List.drop_zero,List.drop_zero] at this
end
section
variable {P:Program}{n:Nat}{B:World}{M:Nat→Prop}{fs:dH}{hs:HS}{o:Oper}{v:Value}
theorem TySl.elem {t e k:Nat}(h:TySl P t e k):P.underlying t=some (.slice (P.elem t))∧∀w,(sizeOf (P.elem t)).run P w= .ok k w:=by
 have h:=h.h;unfold ze9 at h
 split at h
 ·rename_i el hU; (have he:P.elem t=el:=by unfold Program.elem;rw [hU])
  cases hi':P.info? el with
  |none=>rw [hi'] at h;cases h
  |some inf=>
   rw [hi'] at h
   cases h
   refine ⟨by rw [he];exact hU,fun w=>?_⟩;rw [he];simp [sizeOf,typeInfo,hi']
 ·cases h
theorem k7 {F:Frz}{t e k i m:Nat}{z:Int}{q:IntKind}{cs:List (List Value)}{x y:Operand}[hT:TySl P t e k](ho:o.op= .slice t x none (some y) none)(hx:ev fs x=some v)(hy:ev fs y=some (.int q z))(h:SlC F v k cs)(hm:cs.length=m)(hz:z=(i:Int))(hi:i≤m):Yv P n B M fs hs o (gh v 0 i k):=fun a w ha _=>by
 subst hm hz;obtain ⟨A,cap,rfl,h2,h3,h4,h5⟩:=h;unfold execOp;have:=run_slice_h (P:=P) w t A cs.length cap hT.elem.1 q (i:Int) a5 a5;simp [ho,ha.ev hx,ha.ev hy,run_sliceAt_slice w t _ _ _ _ hT.elem.1,this,hT.elem.2,gh]
end
structure FxM (F:Frz) (w:World) (M:Nat→Prop) (G:Frz) (es:HS) (w':World):Prop where
 le:F.Le G
 at_:G.At w'
 hp:Hp w M es w'
 new:∀g,G.S g→F.S g∨M g∨w.heap.size≤g
 ap:∀e∈es,∀g,e.fp g→¬G.S g
theorem zem:cZ []=fun _=>False:=by funext g;unfold cZ;simp
section
variable {B w w':World}{M S0:Nat→Prop}{hs:HS}{F:FzB B M S0}
theorem cX {F0:Frz}{es:HS}{G:FzB B M S0}(hw:Hp B M (es++[Ent.fr G]) w')(hS:∀g,S0 g→F0.S g)(hle:F0.Le G.toFrz):FxM F0 B M G.toFrz es w':=by
 have h1:=hw;have h2:=List.pairwise_append.1 h1.apart;refine ⟨hle,hw.fr (i:=es.length) a7,hw.sub (List.sublist_append_left _ _),fun g hg=>(G.new g hg).imp (hS g) id,fun e he g hg hS=>?_⟩;refine h2.2.2 e he (.fr G) a7 g hg (dp.2 ⟨hS,?_⟩);exact h1.new e (List.mem_append_left _ he) g hg
theorem FxM.up {M':Nat→Prop}{G:Frz}{es:HS}(h:FxM F.toFrz w M' G es w')(hw:Hp B M hs w)(hM:∀g,M' g→M g∨B.heap.size≤g):∃G':FzB B M S0,G'.toFrz=G:=by
 refine ⟨⟨G,fun g hg hb hm=>?_,fun g hg=>?_⟩,rfl⟩
 ·rcases h.new g hg with h1|h1|h1
  ·rw [(h.le g h1).2,F.base g h1 hb hm]
  ·rcases hM g h1 with h2|h2
   ·exact absurd h2 hm
   ·omega
  ·have:=hw.size;omega
 ·rcases h.new g hg with h1|h1|h1
  ·exact F.new g h1
  ·exact .inr (hM g h1)
  ·have:=hw.size;exact .inr (.inr a5)
end
section
variable {P:Program}{n:Nat}{B D:World}{M S0:Nat→Prop}{fs:dH}{hs:HS}{o:Oper}{v:Value}
theorem d3 (idx : List Nat) (bs rest : HS) {ι : Type} {F : FzB B M S0} {φ : ι → Frz → Prop} {val : ι → Value} {es : ι → HS} {c : Operand} {xs : Array Operand} {ts : Array TypeId} {f : FuncId} {fst caps : Array Value} {vs : List Value} [hE : Enters P f]
    (ho : o.op = .call { callee := .value c, args := xs, argTypes := ts }) (hc : ev fs c = some (.func (.func f) fst caps)) (hv : evs fs xs.toList = some vs) (hp : lk hs idx = some (bs ++ .fr F :: rest)) (hn : idx.Nodup)
    (C : ∀ w, Hp B M hs w → Hp B M (bs ++ .fr F :: rest) w → F.toFrz.At w → Calls P f (fst.toList ++ vs ++ caps.toList).toArray w (fun e w' => ∃ y G, φ y G ∧ e = .returned (val y) ∧ FxM F.toFrz w (cZ bs) G (es y) w')) :
    Ew P n B M fs hs o (fun v hs'' => ∃ y, ∃ G : FzB B M S0, F.toFrz.Le G.toFrz ∧ φ y G.toFrz ∧ v = val y ∧ hs'' = es y ++ .fr G :: rest) :=
  Ew.call ho hc hv fun w hw => by
    have hw2 := hw.pick hp hn; have hF : F.toFrz.At w := hw2.fr (i := bs.length) a7; refine (C w hw hw2 hF).mono fun e w' ⟨y, G, hy, he, hx⟩ => ?_; have hM : ∀ g, cZ bs g → M g ∨ B.heap.size ≤ g := fun g ⟨e, he, hg⟩ => hw2.new e (List.mem_append_left _ he) g hg; obtain ⟨G', rfl⟩ := hx.up hw2 hM; refine ⟨val y, es y ++ .fr G' :: rest, he, Kp.only hx.hp.only (fun g hg c => ?_), ?_, y, G', hx.le, hy, rfl, rfl⟩
    · obtain ⟨e, h1, h2⟩ := hg; exact e.nd (hw2.own e (List.mem_append_left _ h1)) g h2 c
    · (have h3 : Hp B M ((bs ++ [.fr F]) ++ rest) w := by rw [List.append_assoc]; exact hw2); have h4 := gE (es := bs ++ [.fr F]) (es' := es y ++ [.fr G']) h3 hx.hp.only (fun g _ ⟨e, he, hg⟩ => ⟨e, List.mem_append_left _ he, hg⟩) (fun e he => ?_) (fun e he g hg => ?_) ?_
      · rw [List.append_assoc] at h4; exact h4
      · rcases List.mem_append.1 he with he | he
        · exact hx.hp.own e he
        · simp at he; subst he; exact eG.2 (fun g hg => hx.at_ g hg.1)
      · rcases List.mem_append.1 he with he | he
        · rcases hx.hp.new e he g hg with ⟨f, hf, hfg⟩ | h5
          · exact .inl ⟨f, List.mem_append_left _ hf, hfg⟩
          · exact .inr h5
        · simp at he; subst he; have h6 := dp.1 hg; rcases hx.new g h6.1 with h7 | ⟨f, hf, hfg⟩ | h7
          · exact .inl ⟨.fr F, by simp, dp.2 ⟨h7, h6.2⟩⟩
          · exact .inl ⟨f, List.mem_append_left _ hf, hfg⟩
          · exact .inr h7
      · exact List.pairwise_append.2 ⟨hx.hp.apart, List.pairwise_singleton _ _, fun e he f hf g hg hfg => by
          simp at hf; subst hf
          exact hx.ap e he g hg (dp.1 hfg).1⟩
theorem dl (idx : List Nat) (bs rest : HS) {ι : Type} {F : FzB B M S0} {φ : ι → Prop} {val : ι → Value} {es : ι → HS} {c : Operand} {xs : Array Operand} {ts : Array TypeId} {f : FuncId} {fst caps : Array Value} {vs : List Value} [hE : Enters P f]
    (ho : o.op = .call { callee := .value c, args := xs, argTypes := ts }) (hc : ev fs c = some (.func (.func f) fst caps)) (hv : evs fs xs.toList = some vs) (hp : lk hs idx = some (bs ++ .fr F :: rest)) (hn : idx.Nodup)
    (C : ∀ w, Hp B M hs w → Hp B M (bs ++ .fr F :: rest) w → F.toFrz.At w → Calls P f (fst.toList ++ vs ++ caps.toList).toArray w (fun e w' => ∃ y, φ y ∧ e = .returned (val y) ∧ FxM F.toFrz w (cZ bs) F.toFrz (es y) w')) :
    Ew P n B M fs hs o (fun v hs'' => ∃ y, φ y ∧ v = val y ∧ hs'' = es y ++ .fr F :: rest) :=
  Ew.call ho hc hv fun w hw => by
    have hw2 := hw.pick hp hn; have hF : F.toFrz.At w := hw2.fr (i := bs.length) a7; refine (C w hw hw2 hF).mono fun e w' ⟨y, hy, he, hx⟩ => ?_; refine ⟨val y, es y ++ .fr F :: rest, he, Kp.only hx.hp.only (fun g hg c => ?_), ?_, y, hy, rfl, rfl⟩
    · obtain ⟨e, h1, h2⟩ := hg; exact e.nd (hw2.own e (List.mem_append_left _ h1)) g h2 c
    · exact q4H
end
section
variable {w:World}{bs:HS}{F:Frz}
theorem ga (hF:F.At w)(h:Hp w (cZ bs) bs w)(hA:∀g,cZ bs g→¬F.S g):∃(S0:Nat→Prop) (G:FzB w (cZ bs) S0),G.toFrz=F∧(∀g,S0 g→F.S g)∧Hp w (cZ bs) (bs++[Ent.fr G]) w:=⟨F.S,gr hF _,rfl,fun _ h=>h,kB hF h hA⟩
variable {B:World}{M S0:Nat→Prop}{G:FzB B M S0}{rest:HS}
theorem Hp.takes (h:Hp B M (bs++ .fr G :: rest) w):Hp w (cZ bs) bs w∧∀g,cZ bs g→¬G.toFrz.S g:=by
 have h1:Hp B M bs w:=h.sub (List.sublist_append_left _ _);refine ⟨gu h1.own h1.apart,fun g ⟨e,he,hg⟩ hS=>?_⟩;exact (List.pairwise_append.1 h.apart).2.2 e he (.fr G) a7 g hg (dp.2 ⟨hS,h1.new e he g hg⟩)
theorem Hp.takes0 (h:Hp B M (bs++ .fr G :: rest) w)(h0:¬M 0)(hB:0<B.heap.size):¬cZ bs 0:=fun ⟨e,he,hg⟩=>by
 rcases h.new e (List.mem_append_left _ he) 0 hg with h1|h1
 ·exact h0 h1
 ·omega
end
theorem Tab.pos {w:World}(h:Tab w):0<w.heap.size:=by
 have h0:=h 0 a6;unfold World.cell? at h0;rcases Nat.eq_zero_or_pos w.heap.size with e|e
 ·rw [Array.getElem?_eq_none a5] at h0;simp at h0
 ·exact e
abbrev st2L (k:SK)(v:Value)(L:Ws)(b:Bool):HS:=[.row k.sp 188 [.pointer (some ⟨k.tp,0,none⟩),v, .bool b], .sl v 80 1 k.Y.n (Ws.cells L)]
abbrev ej (k:SK)(v:Value)(L:Ws)(b:Bool):Ent:= .bag (st2L k v L b)
def TbF (F:Frz)(k:SK):Prop:=∀g,i9 k.w0 g→F.S g∧F.w.heap[g]?=k.w0.heap[g]?
theorem TbF.mono {F G:Frz}{k:SK}(h:TbF F k)(hle:F.Le G):TbF G k:=fun g hg=>⟨(hle g (h g hg).1).1,(hle g (h g hg).1).2.trans (h g hg).2⟩
theorem TbF.fz {F:Frz}{k:SK}{w:World}(h:TbF F k)(hF:F.At w):Fz k.w0 w:=fun g hg=>(hF g (h g hg).1).trans (h g hg).2
theorem zfv:∀L:Ws,L.flatMap Le=Ws.cells L
 | []=>rfl
 |b :: r=>by
  rw [List.flatMap_cons,zfv r];rfl
section
variable {p:GProblem}{m:List GDomain×Bool}{k:SK}{v:Value}{L:Ws}{b:Bool}{w w':World}{F F0:Frz}
theorem SI.gl (h:SI p m k L)(gl:GL):SI p m { k with gl:=gl } L:=⟨h.pb,h.tb,h.len,h.good,h.bad⟩
theorem SI.sp (h:SI p m k L)(sp:Nat):SI p m { k with sp:=sp } L:=⟨h.pb,h.tb,h.len,h.good,h.bad⟩
theorem SI.n512 (h:SI p m k L):k.Y.n≤512:=h.ok.n
theorem zcm {g:Nat}{t:TypeId}{l:List Value}{i:Nat}{x:Value}(h:(Ent.row g t l).ok w)(hx:l[i]?=some x):w.cell? ⟨g,i,none⟩=some x:=by rw [ja (cW.1 h)];exact hx
theorem zgB (h:SI p m k L)(hok:(ej k v L b).ok w)(hf:Fz k.w0 w)(htab:Tab w):StateAt w k.sp k.Y L b:=by
 have h1:=(dg.1 hok).1;have hr:=h1 (.row k.sp 188 [.pointer (some ⟨k.tp,0,none⟩),v, .bool b]) a7;have hl:=cT.1 (h1 (.sl v 80 1 k.Y.n (Ws.cells L)) a7);refine ⟨htab,⟨k.tp,zcm hr rfl,h.tb.later hf⟩,⟨v,zcm hr rfl,?_⟩,h.len,zcm hr rfl⟩;refine SlOf.own (enc:=Le) (size:=1) (fun _=>rfl) (xs:=L) (e:=80) (k:=k.Y.n) ?_ h.len.symm;rw [zfv];exact hl
theorem zm1 (h:SI p m k L)(hok:(ej k v L b).ok w)(hn:0<k.Y.n):∃gl:GL,v=sG gl k.Y.n:=by
 have h1:=(dg.1 hok).1;have hl:=cT.1 (h1 (.sl v 80 1 k.Y.n (Ws.cells L)) a7);rcases hl.2 with ⟨_,h0⟩|⟨g,cap,cur,rfl,_⟩
 ·omega
 ·exact ⟨⟨g,cap⟩,rfl⟩
theorem zmz {gl:GL}(hok:(ej k (sG gl k.Y.n) L b).ok w)(hf:Fz k.w0 w)(hap:∀g,(ej k (sG gl k.Y.n) L b).fp g→¬i9 k.w0 g):(iz { k with gl:=gl } L b).ok w:=by
 obtain ⟨h1,h2⟩:=dg.1 hok;refine dg.2 ⟨fun e he=>?_,?_⟩
 ·simp at he;rcases he with rfl|rfl|rfl
  ·exact h1 _ a7
  ·exact h1 _ a7
  ·exact eY.2 hf
 ·show ([du k.sp gl k.tp k.Y.n b,eF gl k.Y.n L]++[Ent.fz k.w0]).Pairwise _
  refine List.pairwise_append.2 ⟨h2,List.pairwise_singleton _ _,fun e he f hf' g hg hfg=>?_⟩;simp only [List.mem_singleton] at hf';subst hf';exact hap g (df.2 ⟨e,he,hg⟩) (eJ.1 hfg)
theorem zmU {gl:GL}{L':Ws}{b':Bool}(hf:Fz k.w0 w)(h:Hp w (iz { k with gl:=gl } L b).fp [iz { k with gl:=gl } L' b'] w'):Hp w (ej k (sG gl k.Y.n) L b).fp [ej k (sG gl k.Y.n) L' b'] w':=by
 have hok:=h.own (iz { k with gl:=gl } L' b') a7;obtain ⟨h1,h2⟩:=dg.1 hok;have h3:([du k.sp gl k.tp k.Y.n b',eF gl k.Y.n L']++[Ent.fz k.w0]).Pairwise fun e f=>∀g,e.fp g→¬f.fp g:=h2;obtain ⟨a1,a2,a3⟩:=List.pairwise_append.1 h3;have hf':Fz k.w0 w':=eY.1 (h1 (.fz k.w0) a7);have hsp:∀g,(ej k (sG gl k.Y.n) L' b').fp g↔∃e∈[du k.sp gl k.tp k.Y.n b',eF gl k.Y.n L'],e.fp g:=fun g=>df;have hfp:∀g,(ej k (sG gl k.Y.n) L b).fp g↔∃e∈[du k.sp gl k.tp k.Y.n b,eF gl k.Y.n L],e.fp g:=fun g=>df
 have hE:∀g,(iz { k with gl:=gl } L b).fp g↔(ej k (sG gl k.Y.n) L b).fp g∨i9 k.w0 g:=fun g=>by
  rw [hfp,df];simp only [List.mem_cons,List.not_mem_nil,or_false,exists_eq_or_imp,exists_eq_left,eJ];exact or_assoc.symm
 refine ⟨h.os,h.tape,h.output,h.size,fun g hg hn=>?_,fun e he=>?_,fun e he g hg=>?_,List.pairwise_singleton _ _⟩
 ·by_cases hc:i9 k.w0 g
  ·rw [hf' g hc,hf g hc]
  ·exact h.base g hg (fun hh=>((hE g).1 hh).elim hn hc)
 ·simp at he;subst he;exact q4I
 ·simp at he;subst he;have hg':=(hsp g).1 hg;obtain ⟨x,hx,hxg⟩:=hg';rcases h.new (iz { k with gl:=gl } L' b') a7 g (df.2 ⟨x,by simp at hx ⊢;rcases hx with h|h <;> simp [h],hxg⟩) with h4|h4
  ·rcases (hE g).1 h4 with h5|h5
   ·exact .inl h5
   ·exact absurd (eJ.2 h5) (a3 x hx (.fz k.w0) a7 g hxg)
  ·exact .inr h4
theorem zeq (h:SI p m k L)(tf:TbF F k)(hok:(ej k v L (!m.2)).ok w)(hF:F.At w)(htab:Tab w):Calls Tryz.prog 144 #[.pointer (some ⟨k.sp,0,none⟩)] w fun e w'=>e= .returned (.bool (!m.2))∧Below w.heap.size w w':=zh2 (zgB h hok (tf.fz hF) htab)
theorem zlm (h:SI p m k L)(tf:TbF F k)(hok:(ej k v L (!m.2)).ok w)(hF:F.At w)(htab:Tab w):Calls Tryz.prog 160 #[.pointer (some ⟨k.sp,0,none⟩)] w fun e w'=>∃(y:Value) (G:Frz),SlC G y 2 ((iP m).map cM)∧e= .returned y∧Fx F w G w':=zkg hF h (zgB h hok (tf.fz hF) htab)
theorem zm3 (h:SI p m k L)(tf:TbF F k)(hok:(ej k v L (!m.2)).ok w)(hF:F.At w)(htab:Tab w)(c:GChoice):Calls Tryz.prog 161 #[.pointer (some ⟨k.sp,0,none⟩), .agg [.int .i64 c.Station, .int .i64 c.Channel].toArray] w fun e w'=>e= .returned (.bool (zke m c))∧Below w.heap.size w w':=zmH h (zgB h hok (tf.fz hF) htab) c
theorem zlO (kp : Bool) (num : FuncId) (h : SI p m k L) (tf : TbF F k) (hok : (ej k v L (!m.2)).ok w) (hF : F.At w) (hap : ∀ g, (ej k v L (!m.2)).fp g → ¬ F.S g) (htab : Tab w) {fuel : Nat} (c : GChoice) {r : (List GDomain × Bool) × Int} (hr : zgi fuel p m kp c = some r)
    (hE : (fP k.Y (!m.2) c.b).2 ≠ 0 → Calls Tryz.prog num #[.pointer (some ⟨k.sp, 0, none⟩), .agg (Ch.cells c.b).toArray] w fun e w' => e = .returned (.int .i64 (fP k.Y (!m.2) c.b).2) ∧ Below w.heap.size w w')
    (hO : ∀ gl : GL, SI p m { k with gl := gl } L → (iz { k with gl := gl } L (!m.2)).ok w → Calls Tryz.prog num #[.pointer (some ⟨k.sp, 0, none⟩), .agg [.int .i64 c.Station, .int .i64 c.Channel].toArray] w fun e w' => ∃ L', SI p r.1 { k with gl := gl } L' ∧ e = .returned (.int .i64 r.2) ∧ Hp w (iz { k with gl := gl } L (!m.2)).fp [iz { k with gl := gl } L' (!r.1.2)] w') :
    Calls Tryz.prog num #[.pointer (some ⟨k.sp, 0, none⟩), .agg [.int .i64 c.Station, .int .i64 c.Channel].toArray] w fun e w' => ∃ L', SI p r.1 k L' ∧ e = .returned (.int .i64 r.2) ∧ Hp w (ej k v L (!m.2)).fp [ej k v L' (!r.1.2)] w' := by
  have hfit := zkz h (c := c)
  have keepE : ∀ {n : Int}, r = (m, n) → (fP k.Y (!m.2) c.b).2 = n → n ≠ 0 → Calls Tryz.prog num #[.pointer (some ⟨k.sp, 0, none⟩), .agg [.int .i64 c.Station, .int .i64 c.Channel].toArray] w fun e w' => ∃ L', SI p r.1 k L' ∧ e = .returned (.int .i64 r.2) ∧ Hp w (ej k v L (!m.2)).fp [ej k v L' (!r.1.2)] w' := by
    intro n hr hc hn; subst hr;refine (hE (by rw [hc]; exact hn)).mono ?_; rintro e w' ⟨rfl, hb⟩; exact ⟨L, h, by rw [hc], (Hp.start hok).below hb⟩
  by_cases hn : 0 < k.Y.n
  · obtain ⟨gl, rfl⟩ := zm1 h hok hn;refine (hO gl (h.gl gl) (zmz hok (tf.fz hF) (fun g hg hc => hap g hg (tf g hc).1))).mono ?_; rintro e w' ⟨L', h1, rfl, h2⟩; exact ⟨L', ⟨h1.pb, h1.tb, h1.len, h1.good, h1.bad⟩, rfl, zmU (tf.fz hF) h2⟩
  · unfold zgi at hr
    cases hg : zjx c with
    | false => rw [hg] at hr hfit; exact keepE (Option.some.inj hr).symm (by rw [hfit]; rfl) a6
    | true =>
      rw [hg] at hr hfit; simp only [Bool.not_true, cond_false] at hr hfit
      cases hm : m.2 with
      | false => rw [hm] at hr hfit; rw [← hm]; exact keepE (Option.some.inj hr).symm (by rw [hm]; rw [hfit]; rfl) a6
      | true =>
        rw [hm] at hr hfit; simp only [Bool.not_true, cond_false] at hr hfit
        cases hh : jh p c.Station with
        | false => rw [hh] at hr hfit; rw [← hm]; exact keepE (Option.some.inj hr).symm (by rw [hm, Bool.not_true, hfit]; rfl) a6
        | true =>
          obtain ⟨P, rfl, _, hY⟩ := h.pb; obtain ⟨i, hi, _⟩ := (zdo hY).1 hh; omega
theorem zkh (h : SI p m k L) (tf : TbF F k) (hok : (ej k v L (!m.2)).ok w) (hF : F.At w) (hap : ∀ g, (ej k v L (!m.2)).fp g → ¬ F.S g) (htab : Tab w) {fuel : Nat} (hf : 100000 ≤ fuel) (c : GChoice) {r : (List GDomain × Bool) × Int} (hr : zgi fuel p m true c = some r) :
    Calls Tryz.prog 145 #[.pointer (some ⟨k.sp, 0, none⟩), .agg [.int .i64 c.Station, .int .i64 c.Channel].toArray] w fun e w' => ∃ L', SI p r.1 k L' ∧ e = .returned (.int .i64 r.2) ∧ Hp w (ej k v L (!m.2)).fp [ej k v L' (!r.1.2)] w' := by
  obtain ⟨P, hP, hok', hY⟩ := h.pb; exact zlO true _ h tf hok hF hap htab c hr (fun he => zgA k.sp k.Y L (!m.2) c.b w (zgB h hok (tf.fz hF) htab) (k.Y.ix512 h.ok hY.ixn) he) (fun gl h1 h2 => zkr h1 h2 htab hf c hr)
theorem zj6 (h : SI p m k L) (tf : TbF F k) (hok : (ej k v L (!m.2)).ok w) (hF : F.At w) (hap : ∀ g, (ej k v L (!m.2)).fp g → ¬ F.S g) (htab : Tab w) {fuel : Nat} (hf : 100000 ≤ fuel) (c : GChoice) {r : (List GDomain × Bool) × Int} (hr : zgi fuel p m false c = some r) :
    Calls Tryz.prog 148 #[.pointer (some ⟨k.sp, 0, none⟩), .agg [.int .i64 c.Station, .int .i64 c.Channel].toArray] w fun e w' => ∃ L', SI p r.1 k L' ∧ e = .returned (.int .i64 r.2) ∧ Hp w (ej k v L (!m.2)).fp [ej k v L' (!r.1.2)] w' := by
  obtain ⟨P, hP, hok', hY⟩ := h.pb; exact zlO false _ h tf hok hF hap htab c hr (fun he => zgl k.sp k.Y L (!m.2) c.b w (zgB h hok (tf.fz hF) htab) (k.Y.ix512 h.ok hY.ixn) he) (fun gl h1 h2 => zjL h1 h2 htab hf c hr)
theorem zl9 (hF:F0.At w)(h:SI p m k L)(hw:Hp w (fun _=>False) [iz k L b] w'):∃G,TbF G k∧FxM F0 w (cZ []) G [ej k (sG k.gl k.Y.n) L b] w':=by
 have hok:=hw.own (iz k L b) a7;obtain ⟨h1,h2⟩:=dg.1 hok;have h3:([du k.sp k.gl k.tp k.Y.n b,eF k.gl k.Y.n L]++[Ent.fz k.w0]).Pairwise fun e f=>∀g,e.fp g→¬f.fp g:=h2;obtain ⟨a1,a2,a3⟩:=List.pairwise_append.1 h3;have hf':Fz k.w0 w':=eY.1 (h1 (.fz k.w0) a7);have hb:=hw.isBelow;have hF':=hF.below hb;have hnew:∀g,i9 k.w0 g→w.heap.size≤g:=fun g hg=>(hw.new (iz k L b) a7 g (df.2 ⟨.fz k.w0,by simp,eJ.2 hg⟩)).elim (fun h=>h.elim) id
 have hnew2:∀g,(ej k (sG k.gl k.Y.n) L b).fp g→w.heap.size≤g:=fun g hg=>by
  obtain ⟨e,he,hg⟩:=df.1 hg;exact (hw.new (iz k L b) a7 g (df.2 ⟨e,by simp at he ⊢;rcases he with h|h <;> simp [h],hg⟩)).elim (fun h=>h.elim) id
 refine ⟨⟨fun g=>F0.S g∨i9 k.w0 g,w',fun g hg=>?_⟩,fun g hg=>⟨.inr hg,hf' g hg⟩,⟨fun g hg=>⟨.inl hg,hF' g hg⟩,fun g _=>rfl,?_,fun g hg=>hg.imp id (fun h=> .inr (hnew g h)),fun e he g hg hS=>?_⟩⟩
 ·rcases hg with hg|hg
  ·exact hF'.cb hg
  ·obtain ⟨cs,t,q,e⟩:=hg;exact ⟨cs,t,q,(hf' g ⟨cs,t,q,e⟩).trans e⟩
 ·rw [zem];refine ⟨hw.os,hw.tape,hw.output,hw.size,hw.base,fun e he=>?_,fun e he g hg=>?_,List.pairwise_singleton _ _⟩
  ·simp at he;subst he;exact q4I
  ·simp at he;subst he;exact .inr (hnew2 g hg)
 ·simp at he;subst he;rcases hS with hS|hS
  ·have:=(hF.cb hS).lt;have:=hnew2 g hg;omega
  ·obtain ⟨e,he,hg⟩:=df.1 hg;exact a3 e he (.fz k.w0) a7 g hg (eJ.2 hS)
theorem zmW {vd vp vl vc : Value} {cd : List (List Value)} (hF0 : F0.At w) (h : PbF F0 vd cd vp vl vc p) (htab : Tab w) (hv : kK p = true) {fuel : Nat} (hf : 100000 ≤ fuel) {r : List GDomain × Bool} (hr : zbf fuel p p.Domains = some r) :
    Calls Tryz.prog 117 #[.agg [vd, vp, vl, vc].toArray] w fun e w' => ∃ (y : SK × Value × Ws) (G : Frz), (SI p r y.1 y.2.2 ∧ TbF G y.1) ∧ e = .returned (.tuple #[.pointer (some ⟨y.1.sp, 0, none⟩), .int .i64 0]) ∧ FxM F0 w (cZ []) G [ej y.1 y.2.1 y.2.2 (!r.2)] w' := by
  refine (znt hF0 h htab hv hf hr).mono ?_; rintro e w' ⟨⟨k, L⟩, hs, rfl, hw⟩; obtain ⟨G, h1, h2⟩ := zl9 hF0 hs hw; exact ⟨(k, sG k.gl k.Y.n, L), G, ⟨hs, h1⟩, rfl, h2⟩
theorem zj9 (h : SI p m k L) (tf : TbF F k) (hok : (ej k v L (!m.2)).ok w) (hF : F.At w) (htab : Tab w) : Calls Tryz.prog 82 #[.pointer (some ⟨k.sp, 0, none⟩)] w fun e w' => ∃ (y : SK × Value) (G : Frz), (SI p m y.1 L ∧ TbF G y.1) ∧ e = .returned (.pointer (some ⟨y.1.sp, 0, none⟩)) ∧ FxM F w (cZ []) G [ej y.1 y.2 L (!m.2)] w' := by
  have hs := zgB h hok (tf.fz hF) htab; have h1 := (dg.1 hok).1; have hr := h1 (.row k.sp 188 [.pointer (some ⟨k.tp, 0, none⟩), v, .bool (!m.2)]) a7; have hl := h1 (.sl v 80 1 k.Y.n (Ws.cells L)) a7; have hn := h.n512
  -- what is there is frozen for the time of the call
  have hC : SlC (Frz.all w) v 1 (L.map Le) := by
    have hl2 := hl; rw [← zfv] at hl2; exact (iN (G := Frz.all w) hl2 rfl (fun g _ hc => hc)).toF h.len.symm (fun _ => rfl)
  haveI := hC.oneC; refine Calls.mono (R := fun e w' => ∃ (y : Nat × Value), OneC y.2 ∧ e = .returned (.pointer (some ⟨y.1, 0, none⟩)) ∧ Hp w (fun _ => False) [.row y.1 188 [.pointer (some ⟨k.tp, 0, none⟩), y.2, .bool (!m.2)], .sl y.2 80 1 k.Y.n (Ws.cells L)] w') ?_ ?_
  · obtain ⟨S0, F1, hF1, hS0, hp0⟩ := fK (i6 w); rw [← hF1] at hC;refine dq (M := fun _ => False) (hs := [.fr F1]) Tryz.func82 rfl rfl rfl hp0 ?_;refine iE ?_;refine cN (cL rfl rfl rfl (fun w' hw => zci k.sp k.Y L (!m.2) w' (hs.kept hw))) ?_; rintro _ _ ⟨rfl, rfl⟩;refine lH ?_;refine iR ?_;refine dT (sN 0 8 (sN 9 4 (.eff 8 (.still 13 (.eff 14 (.still 15 .done)))))) [.fr F1] a8 (List.Sublist.refl _) ?_;refine i1 ?_;refine cR rfl (dI rfl rfl (zcm (i := 0) hr rfl) (fun h => h)) ?_;refine i1 ?_;refine cR rfl (dI rfl rfl (zcm (i := 1) hr rfl) (fun h => h)) ?_;refine i1 ?_;refine cR rfl (dI rfl rfl (zcm (i := 2) hr rfl) (fun h => h)) ?_;refine TS.slNil 80 1 ?_;refine dF ?_;refine dn rfl (Wt.none) rfl rfl (jr 0 1 (F := F1) (k' := k.Y.n) (l' := Ws.cells L) (zg2 (enc := Le) (fun x => inferInstanceAs (OneCs [U x]))) rfl rfl rfl rfl rfl hC (by rw [List.length_map, h.len]; omega) (by rw [List.nil_append, ← List.flatMap_def, zfv]) a5 a6) ?_; rintro v' _ ⟨hv', rfl⟩; refine ⟨fun w hw => hw.sub (List.sublist_cons_self _ _), ?_⟩;refine cR rfl (Yv.build) ?_;refine dF ?_;refine dn rfl (Wt.none) rfl rfl (dv) ?_; rintro _ _ ⟨g, rfl, rfl⟩; refine ⟨fun w hw => hw.sub Sx, ?_⟩;refine q3X ?_; exact cU rfl rfl (fun w' hw => ⟨(g, v'), hv', rfl, hw.sub Sx⟩)
  · rintro e w' ⟨⟨g, v'⟩, hv', rfl, hw⟩; refine ⟨({ k with sp := g }, v'), F, ⟨h.sp g, tf⟩, rfl, ⟨Frz.Le.refl _, hF.below hw.isBelow, ?_, fun g hg => .inl hg, fun e he q hq hS => ?_⟩⟩
    · rw [zem]; exact zh5 hw
    · simp at he; subst he; have h2 := (zh5 hw).new _ a7 q hq; have := (hF.cb hS).lt; rcases h2 with h2 | h2
      · exact h2
      · omega
end
abbrev vI (z:Int):Value:= .int .i64 z
abbrev Vec (n:Nat)(α:Type):={ l:List α // l.length=n }
def Vec.fill {α:Type}(n:Nat)(v:α):Vec n α:=⟨List.replicate n v,List.length_replicate⟩
instance {n:Nat} {α:Type} [Inhabited α]:Inhabited (Vec n α):=⟨Vec.fill n default⟩
def Vec.get {n:Nat}{α:Type}[Inhabited α](x:Vec n α)(i:Nat):α:=cH x.1 i
def Vec.put {n:Nat}{α:Type}(x:Vec n α)(i:Nat)(v:α):Vec n α:=⟨x.1.set i v,by rw [List.length_set,x.2]⟩
theorem jE {α:Type}[Inhabited α]{n i:Nat}{v:α}(h:i<n):(Vec.fill n v).get i=v:=by
 unfold Vec.get Vec.fill;rw [dW (by simpa using h)];simp
theorem jX {α:Type}[Inhabited α]{n i j:Nat}{x:Vec n α}{v:α}(h:i<n):(x.put i v).get j=if j=i then v else x.get j:=by
 unfold Vec.get Vec.put; (have hx:i<x.1.length:=by rw [x.2];exact h);unfold cH;rw [List.getD_eq_getElem?_getD,List.getD_eq_getElem?_getD];by_cases e:j=i
 ·rw [if_pos e,e,List.getElem?_set_self hx];rfl
 ·rw [if_neg e,List.getElem?_set_ne (fun h=>e h.symm)]
section
variable {α:Type}[Inhabited α]{n i j m p:Nat}{x:Vec n α}{f:α→Value}{a b l r:List Value}{v:Value}
theorem Vec.len:(x.1.map f).length=n:=by rw [List.length_map,x.2]
theorem Vec.cell (h:i<n):(x.1.map f)[i]?=some (f (x.get i)):=by
 unfold Vec.get;rw [List.getElem?_map,List.getElem?_eq_getElem (by rw [x.2];exact h),dW (by rw [x.2];exact h)];rfl
theorem Vec.upd {v:α}(h:i<n):(x.1.map f).set i (f v)=(x.put i v).1.map f:=by
 show _=(x.1.set i v).map f
 rw [List.map_set]
theorem kP (hp:p=i)(h:l[i]?=some v):l[p]?=some v:=by rw [hp];exact h
theorem zgd {u:Value}(hp:p=i)(h:l.set i u=r):l.set p u=r:=by rw [hp];exact h
theorem zmx (ha:a.length=m)(hi:i<m)(h:a[i]?=some v):(a++b)[i]?=some v:=by
 rw [List.getElem?_append_left a5];exact h
theorem zdD (ha:a.length=m)(h:b[j]?=some v):(a++b)[m+j]?=some v:=by
 rw [List.getElem?_append_right a5,ha,show m+j - m=j by omega];exact h
theorem zgv {u:Value}(ha:a.length=m)(h:b.set j u=r):(a++b).set (m+j) u=a++r:=by
 rw [List.set_append_right _ _ a5,ha,show m+j - m=j by omega,h]
theorem zmj (ha:a.length=m):(((a++b).drop 0).take a.length)=a:=by simp
theorem zc5 {k:Nat}(ha:a.length=m)(hb:b.length=k):(a++b).length=m+k:=by rw [List.length_append,ha,hb]
instance OneCs.vmap {β:Type} {g:β→Value} {y:List β} [h:∀z,OneC (g z)]:OneCs (y.map g):=⟨fun z hz=>by obtain ⟨b,_,rfl⟩:=List.mem_map.1 hz;exact (h b).h⟩
instance OneCs.cat [h:OneCs a] [k:OneCs b]:OneCs (a++b):=⟨fun z hz=>(List.mem_append.1 hz).elim (h.h z) (k.h z)⟩
end
section
variable {P:Program}{n:Nat}{B D:World}{M:Nat→Prop}{fs:dH}{hs:HS}{o:Oper}{v:Value}
theorem kW {t:TypeId}{z l:List Value}[hT:TyZ P t z](ho:o.op= .alloc t)(hz:z=l):Ew P n B M fs hs o (fun v hs'=>∃g,v= .pointer (some ⟨g,0,none⟩)∧hs'= .row g t l :: hs):=by
 subst hz;exact Ew.alloc ho
theorem zdV {place:Nat→Option (Nat×Nat)}{l l1 m:List Value}{l2:Array Value}{i off size:Nat}{v:Value}{ps:List (Nat×Value)}(hp:place i=some (off,size))(hc:v.cells=m.toArray)(hs:m.length=size)(h1:zdy l off m=l1)(hb:off+m.length≤l.length)(h2:Instr.fill place l1.toArray ps=some l2):Instr.fill place l.toArray ((i,v) :: ps)=some l2:=by
 obtain ⟨l2'⟩:=l2;haveI:Place place i off size:=⟨hp⟩;haveI:Cells v m:=⟨hc⟩;haveI:Splice l off m l1:=⟨h1,hb⟩;haveI:Fill place l1 ps l2':=⟨h2⟩;haveI:LenIs m size:=⟨hs⟩;exact (inferInstance:Fill place l ((i,v) :: ps) l2').h
theorem ze2 {l r:List Value}{off:Nat}{v:Value}(h:off<l.length)(hr:l.set off v=r):zdy l off [v]=r:=by
 rw [←hr];exact ze7 l off v h
theorem zgq {a b m:List Value}(h:a.length=m.length):zdy (a++b) 0 m=m++b:=by
 simp [zdy,←h]
theorem Yv.bT {t:TypeId}{ps:Array (Nat×Operand)}{vs:List (Nat×Value)}{z l0 l:List Value}[hS:TySt P t][hZ:TyZ P t z](ho:o.op= .build t ps)(hv:evPs fs ps.toList=some vs)(hz:z=l0)(hF:Instr.fill (zfD P t) l0.toArray vs=some l.toArray):Yv P n B M fs hs o (.agg l.toArray):=by
 subst hz;haveI:Fill (zfD P t) z vs l:=⟨hF⟩;exact Yv.build ho hv
end
section
variable {B:World}{M S0:Nat→Prop}{hs:HS}{F:FzB B M S0}
def FzB.addE {w:World}(F:FzB B M S0)(hF:F.toFrz.At w)(T:Nat→Prop)(hc:∀g,T g→Cb w g)(hb:∀g,T g→M g∨B.heap.size≤g):FzB B M S0 where
 S k:=F.S k∨T k
 w:=w
 c k hk:=hk.elim (fun h=>hF.cb h) (hc k)
 base k hk h1 h2:=by
  rcases hk with h|h
  ·rw [hF k h,F.base k h h1 h2]
  ·rcases hb k h with h3|h3
   ·exact absurd h3 h2
   ·omega
 new k hk:=hk.elim (F.new k) (fun h=> .inr (hb k h))
theorem Hp.freezeE {w : World} {i j : Nat} {e : Ent} (hw : Hp B M hs w) (hij : i ≠ j) (hi : hs[i]? = some (.fr F)) (hj : hs[j]? = some e) (hc : ∀ g, e.fp g → Cb w g) :
    ∃ G : FzB B M S0, F.toFrz.Le G.toFrz ∧ (∀ w', G.toFrz.At w' → e.ok w') ∧ Hp B M ((hs.set i (.fr G)).eraseIdx j) w := by
  have hF := hw.fr hi; have hb := hw.new e (List.mem_of_getElem? hj); refine ⟨F.addE hF e.fp hc hb, fun k hk => ⟨.inl hk, hF k hk⟩, fun w' hw' => e.loc (fun g hg => hw' g (.inr hg)) (hw.get hj), ?_⟩; obtain ⟨r, h1, h2⟩ := zei (a' := .fr (F.addE hF e.fp hc hb)) hij hi hj;refine Hp.perm ?_ h2.symm; refine ig (hw.perm h1) ?_ ?_ (List.pairwise_singleton _ _)
  · intro x hx; simp at hx; subst hx; exact eG.2 (fun k hk => rfl)
  · intro x hx k hk; simp at hx; subst hx; have h := dp.1 hk; rcases h.1 with h3 | h3
    · exact ⟨_, by simp, dp.2 ⟨h3, h.2⟩⟩
    · exact ⟨e, by simp, h3⟩
end
theorem zmT {k:SK}{v:Value}{L:Ws}{b:Bool}{w:World}(h:(ej k v L b).ok w):∀g,(ej k v L b).fp g→Cb w g:=fun g hg=>by
 have h1:=(dg.1 h).1;obtain ⟨e,he,hg⟩:=df.1 hg;simp at he;rcases he with rfl|rfl
 ·have:=cO.1 hg;subst this;exact ⟨_,_,_,cW.1 (h1 _ (List.mem_cons_self ..))⟩
 ·have h2:=c9.1 hg;rcases (cT.1 (h1 (.sl v 80 1 k.Y.n (Ws.cells L)) a7)).2 with ⟨rfl,_⟩|⟨g',cap,cur,rfl,_,hgg,_⟩
  ·cases h2
  ·simp [Value.ownBlock] at h2;subst h2;exact ⟨_,_,_,hgg⟩
def SzF (F:Frz)(k:SK)(v:Value)(L:Ws)(b:Bool):Prop:=∀w,F.At w→(ej k v L b).ok w
theorem SzF.mono {F G:Frz}{k:SK}{v:Value}{L:Ws}{b:Bool}(h:SzF F k v L b)(hle:F.Le G):SzF G k v L b:=fun w hw=>h w (hw.le hle)
theorem Hp.freezeSt {B w : World} {M S0 : Nat → Prop} {hs : HS} {F : FzB B M S0} {i j : Nat} {k : SK} {v : Value} {L : Ws} {b : Bool} (hw : Hp B M hs w) (hij : i ≠ j) (hi : hs[i]? = some (.fr F)) (hj : hs[j]? = some (ej k v L b)) :
    ∃ G : FzB B M S0, (F.toFrz.Le G.toFrz ∧ SzF G.toFrz k v L b) ∧ Hp B M ((hs.set i (.fr G)).eraseIdx j) w := by
  obtain ⟨G, h1, h2, h3⟩ := hw.freezeE hij hi hj (zmT (hw.get hj)); exact ⟨G, ⟨h1, h2⟩, h3⟩
section
variable {P:Program}{n:Nat}{B:World}{M:Nat→Prop}{fs:dH}{hs:HS}{o:Oper}
theorem gW {w:World}{v:Value}{e:TypeId}{size k:Nat}{l:List Value}(h:(Ent.sl v e size k l).ok w):k≤9223372036854775807:=by
 have ho:=cT.1 h;rcases ho.2 with ⟨rfl,h0⟩|⟨g,cap,cur,rfl,hb,hg,hnc,hcm,hcs,htake⟩
 ·omega
 ·unfold maxLen at hcm;omega
theorem Ew.bg {t e:TypeId}{size bytes:Nat}{z:List Value}[hT:TyE P t e size bytes z](ho:o.op= .buildSlice t 0 #[]):Ew P n B M fs hs o (fun v hs'=>∃g,v= .slice (some ⟨g,0,none⟩) 0 0∧hs'= .sl (.slice (some ⟨g,0,none⟩) 0 0) e size 0 [] :: hs):=fX fun a w ha hp=>by
 obtain ⟨i,zv,hU,hi,hz,hzc,rfl,rfl,hzs,hpos⟩:=hT.get;refine ⟨_,w.alloc (.cells #[] e),_,?_,Kp.alloc w _,hp.fresh ((Below.refl _ _).alloc (Nat.le_refl _) _) (cT.2 (World.ownsRow_made (base:=0) (e:=e) (size:=i.size) w #[] 0 (Nat.zero_le _) (by unfold maxLen;omega) a7)) (fun g hg=>?_),w.heap.size,rfl,rfl⟩
 ·unfold execOp;simp [ho,Instr.buildSlice,underlying,hU,sizeOf,typeInfo,hi,Instr.fill,newRow];rw [show Array.range 0= #[] from by simp [Array.range]];simp
 ·have:=c9.1 hg;simp [Value.ownBlock] at this;omega
end
section
variable {Fe:Fence}[hFe:Calm Fe]{P:Program}{n:Nat}{B D:World}{M S0:Nat→Prop}{Q:Exit→Act→World→Prop}{fs:dH}{hs:HS}{ops:Array Oper}
theorem fB {l:List Oper}{v:Value}{e:TypeId}{size k:Nat}{cs:List Value}(j:Nat)(hj:hs[j]?=some (.sl v e size k cs))(h:OneC v→k≤9223372036854775807→TL Fe P n B D M ops Q l fs hs):TL Fe P n B D M ops Q l fs hs:=
 i4 (ι:=Unit) (φ:=fun _=>OneC v∧k≤9223372036854775807) (hs':=fun _=>hs) (fun w hw=>⟨(),⟨gN (hw.get hj),gW (hw.get hj)⟩,hw⟩) (fun _ hx=>h hx.1 hx.2)
theorem lX {hs0:HS}{r:Ord}{v:Value}{e:TypeId}{size k:Nat}{cs:List Value}(j:Nat)(hj:hs[j]?=some (.sl v e size k cs))(h:OneC v→k≤9223372036854775807→TS Fe P n B D M ops Q hs0 r fs hs):TS Fe P n B D M ops Q hs0 r fs hs:=
 lN (ι:=Unit) (φ:=fun _=>OneC v∧k≤9223372036854775807) (hs':=fun _=>hs) (fun w hw=>⟨(),⟨gN (hw.get hj),gW (hw.get hj)⟩,hw⟩) (fun _ hx=>h hx.1 hx.2)
end
structure Bor (F:Frz) (E:Ent) (w:World) (F':Frz):Prop where
 le:F.Le F'
 at_:F'.At w
 new:∀g,F'.S g→F.S g∨E.fp g
section
variable {B w:World}{M S0:Nat→Prop}{hs bs rest:HS}{F:FzB B M S0}{G:FzB B M S0}{F':Frz}
theorem Hp.bor {i j:Nat}{v:Value}{e:TypeId}{size k:Nat}{l:List Value}(hw:Hp B M hs w)(hi:hs[i]?=some (.fr F))(hj:hs[j]?=some (.sl v e size k l)):∃F':Frz,Bor F.toFrz (.sl v e size k l) w F'∧SlK F' v size k l:=by
 have hF:=hw.fr hi;have ho:=cT.1 (hw.get hj);rcases ho.2 with ⟨rfl,h0⟩|⟨g,cap,cur,rfl,hb,hg,hnc,hcm,hcs,htake⟩
 ·subst h0;exact ⟨F.toFrz,⟨.refl _,hF,fun g h=> .inl h⟩,ho.1,none,0,rfl,Nat.le_refl _,by omega,fun h=>by omega⟩
 ·refine ⟨⟨fun k=>F.S k∨k=g,w,fun k hk=>?_⟩,⟨fun k hk=>⟨.inl hk,hF k hk⟩,fun k _=>rfl,fun k hk=>hk.imp id fun e=>c9.2 (by rw [e];rfl)⟩,ho.1,_,cap,rfl,hnc,by unfold maxLen at hcm;omega,fun _=>⟨g,rfl, .inr rfl,fun q hq=>?_⟩⟩
  ·rcases hk with h|rfl
   ·exact hF.cb h
   ·exact ⟨_,_,_,hg⟩
  ·rw [Nat.zero_add,World.ownsRow.cellAt ho q (by rw [←ho.1];exact hq)]
end
theorem FxM.back {F F':Frz}{w w':World}{M:Nat→Prop}{es:HS}(h:FxM F' w M F' es w')(hle:F.Le F'):FxM F w M F es w':=
 ⟨.refl _,h.at_.le hle,h.hp,fun g hg=> .inl hg,fun e he g hg hS=>h.ap e he g hg (hle g hS).1⟩
theorem zhA {α:Type}[Inhabited α]{enc:α→List Value}{size:Nat}(he:∀x,(enc x).length=size):∀ {xs:List α} {i j p:Nat} {v:Value} {x:α},i<xs.length→j<size→p=i*size+j→(enc (cH xs i)).set j v=enc x→(xs.flatMap enc).set p v=(xs.set i x).flatMap enc
 |y :: r,0,j,p,v,x,_,hj,hp,h=>by
  (obtain rfl:p=j:=by omega);rw [List.flatMap_cons,List.set_append_left _ _ (by rw [he];exact hj),List.set_cons_zero,List.flatMap_cons];rw [←h];rfl
 |y :: r,i+1,j,p,v,x,hi,hj,hp,h=>by
  rw [List.flatMap_cons,List.set_append_right _ _ (by rw [he,hp,Nat.add_mul];omega),List.set_cons_succ,List.flatMap_cons];rw [zhA he (xs:=r) (i:=i) (j:=j) (x:=x) (by simpa using hi) hj (by rw [he,hp,Nat.add_mul];omega) (by rw [←h];rfl)]
theorem zgm {α:Type}{enc:α→List Value}{size:Nat}(he:∀x,(enc x).length=size):∀ {xs:List α} {i j p:Nat},i<xs.length→j<size→p=i*size+j→p<(xs.flatMap enc).length
 |y :: r,0,j,p,_,hj,hp=>by rw [List.flatMap_cons,List.length_append,he];omega
 |y :: r,i+1,j,p,hi,hj,hp=>by
  have:=zgm he (xs:=r) (i:=i) (j:=j) (p:=i*size+j) (by simpa using hi) hj rfl;rw [List.flatMap_cons,List.length_append,he];rw [hp,Nat.add_mul];omega
theorem ziI {α:Type}{enc:α→List Value}{xs:List α}(h:∀x,OneCs (enc x)):∀v∈xs.flatMap enc,v.oneCell'=true:=fun v hv=>by
 obtain ⟨x,_,hx⟩:=List.mem_flatMap.1 hv;exact (h x).h v hx
theorem zi2 {α:Type}(xs ys:List α):xs.length+ys.length=(xs++ys).length:=(List.length_append ..).symm
theorem zhL {α:Type}{enc:α→List Value}(xs ys:List α):xs.flatMap enc++ys.flatMap enc=(xs++ys).flatMap enc:=(List.flatMap_append ..).symm
section
variable {P:Program}{n:Nat}{B D:World}{M:Nat→Prop}{fs:dH}{hs:HS}{o:Oper}{v val sv:Value}
theorem Ew.bU (j : Nat) {t e : TypeId} [hT : TyS P t] {x y : Operand} {p k k' size : Nat} {l l' : List Value} {hs' : HS} [hv : OneC val] (ho : o.op = .store t x y) (hx : ev fs x = some (lF sv p)) (hy : ev fs y = some val)
    (hj : hs[j]? = some (.sl sv e size k l)) (hk : 0 < k) (hp : p < l.length) (hl : l.set p val = l') (hkk : k' = k) [hH : SetAt hs j (.sl sv e size k' l') hs'] : Ew P n B M fs hs o (fun v hs'' => v = undef ∧ hs'' = hs') := by
  subst hkk; exact Ew.ca j ho hx hy hj hk hp hl
theorem Ew.bK (i j : Nat) {s x : Operand} {t e e2 : TypeId} {size bytes m k k' : Nat} {z l l2 l' : List Value} {hs' : Value → HS} [hT : TyE P t e size bytes z] [hT2 : TySl P t e size] (h1 : ∀ v ∈ l2, v.oneCell' = true) (ho : o.op = .call { callee := .builtin .append, args := #[s, x], argTypes := #[t, t] })
    (hs1 : ev fs s = some sv) (hx : ev fs x = some v) (hi : hs[i]? = some (.sl sv e size k l)) (hj : hs[j]? = some (.sl v e2 size m l2)) (hk : k + m = k') (hl' : l ++ l2 = l') (hb : k' * bytes ≤ 140737488355328) (hbs : 0 < bytes)
    [hH : ∀ v', SetAt hs i (.sl v' e size k' l') (hs' v')] : Ew P n B M fs hs o (fun v hs'' => OneC v ∧ hs'' = hs' v) := fun F hF Q K a w ha hw => by
  have ho2 := cT.1 (hw.get hj); have hl2 := ho2.1; rcases Nat.eq_zero_or_pos m with h0 | h0
  · subst h0; obtain rfl : l2 = [] := List.eq_nil_of_length_eq_zero a5
    obtain ⟨A, c2, rfl⟩ : ∃ A c2, v = .slice A 0 c2 := by
      rcases ho2.2 with ⟨rfl, _⟩ | ⟨g, cap, cur, rfl, _⟩
      · exact ⟨_, _, rfl⟩
      · exact ⟨_, _, rfl⟩
    subst hk; rw [List.append_nil] at hl'; subst hl'; refine (fX fun a w ha hp => ?_ : Ew P n B M fs hs o (fun v hs'' => OneC v ∧ hs'' = hs' v)) F hF Q K a w ha hw; have ho' := cT.1 (hp.get hi)
    obtain ⟨b, c, rfl, hc⟩ : ∃ b c, sv = .slice b k c ∧ k ≤ c := by
      rcases ho'.2 with ⟨rfl, h0⟩ | ⟨g, cap, cur, rfl, hb, hg, hnc, _⟩
      · exact ⟨none, 0, by rw [h0], by omega⟩
      · exact ⟨_, cap, rfl, hnc⟩
    refine ⟨.slice b k c, w, hs' (.slice b k c), ?_, Kp.refl w, ?_, ⟨rfl⟩, rfl⟩
    · unfold execOp; simp [ho, resolve, invoke, builtin, ha.ev hs1, ha.ev hx, zdT (P := P) (t := t) hc]
    · rw [← (hH _).h];simp only [Nat.add_zero]; rw [zgS hi]; exact hp
  · obtain ⟨g, cap, rfl⟩ := hw.slAddr hj h0
    exact lK i (news := l2) h1 ho hs1 hx hi (fun w hw q hq => by
      have h3 := cT.1 (hw.get hj)
      rw [Nat.zero_add, World.ownsRow.cellAt h3 q (by rw [← h3.1]; exact hq)]) hl2 hk hl' hb hbs F hF Q K a w ha hw
end
section
variable {P:Program}{n:Nat}{B D:World}{M:Nat→Prop}{fs:dH}{hs:HS}{v v2:Value}
theorem T.aL {Fe:Fence}[hFe:Calm Fe]{Q:Exit→Act→World→Prop}{c:Code}{e:TypeId}{size k:Nat}{cs:List Value}(j:Nat)(hj:hs[j]?=some (.sl v e size k cs))(h:OneC v→k≤9223372036854775807→T Fe P n B D M c Q fs hs):T Fe P n B D M c Q fs hs:=
 iU (ι:=Unit) (φ:=fun _=>OneC v∧k≤9223372036854775807) (hs':=fun _=>hs) (fun w hw=>⟨(),⟨gN (hw.get hj),gW (hw.get hj)⟩,hw⟩) (fun _ hx=>h hx.1 hx.2)
end
structure GViolation where
 Kind:Int
 At:Int
deriving DecidableEq,Inhabited
abbrev iW (x:GViolation):List Value:=[.int .i64 x.Kind, .int .i64 x.At]
theorem GViolation.len (x:GViolation):(iW x).length=2:=rfl
def cG (F:Frz)(c:List Value)(x:List GChoice):Prop:=∃(v0:Value),c=[v0]∧SlC F v0 2 (x.map cM)
theorem R_List_GChoice.mono {F G:Frz}{c:List Value}{x:List GChoice}(hle:F.Le G)(h:cG F c x):cG G c x:=by
 obtain ⟨v0,h0,h1⟩:=h;exact ⟨v0,h0,h1.mono hle⟩
theorem R_List_GChoice.len {F:Frz}{c:List Value}{x:List GChoice}(h:cG F c x):c.length=1:=by
 obtain ⟨v0,h0,h1⟩:=h;subst h0;rfl
theorem R_List_GChoice.one {F:Frz}{c:List Value}{x:List GChoice}(h:cG F c x):OneCs c:=by
 obtain ⟨v0,h0,h1⟩:=h;subst h0;haveI:=h1.oneC
 infer_instance
theorem R_List_GChoice.c0 {F:Frz}{c:List Value}{x:List GChoice}(h:cG F c x):c[0]?=some (cH c 0)∧SlC F (cH c 0) 2 (x.map cM):=by
 obtain ⟨v0,h0,h1⟩:=h;subst h0;exact ⟨rfl,h1⟩
theorem ka {F:Frz}{c:List Value}{x:List GChoice}(h:cG F c x):(c.drop 0).take 1=[cH c 0]:=by
 obtain ⟨v0,h0,h1⟩:=h;subst h0;rfl
def zcA (a:List (List GChoice))(b:List (List GChoice)):Bool:=
 (bif decide (¬(a.length:Int)=(b.length:Int)) then
  false
  else
  dS (fun (_:Unit)=>
   true)
  (fun k2=>
   di (fun (i_4:Nat) (next3:Unit→Bool) (_:Unit)=>
    (bif !(zb4 (cH a i_4) (cH b i_4)) then
     false
     else
     next3 ()))
   (fun (_:Unit)=>
    k2 ()) (a.length - 0) 0 ()))
theorem zhQ (F0:Frz)(w:World)(hF0:F0.At w)(a:List (List GChoice))(va:Value)(ca:List (List Value))(ha:SlD cG F0 va 1 ca a)(b:List (List GChoice))(vb:Value)(cb:List (List Value))(hb:SlD cG F0 vb 1 cb b):Calls Tryz.prog 53 #[va,vb] w fun e w'=>e= .returned (.bool (zcA a b))∧Below w.heap.size w w':=by
 obtain ⟨r,hk⟩:∃r,zcA a b=r:=⟨_,rfl⟩;rw [hk];unfold zcA at hk;haveI:=ha.1.oneC;haveI:=hb.1.oneC;obtain ⟨S0,F1,rfl,hS0,hp0⟩:=fK hF0;refine dq Tryz.func53 rfl rfl rfl hp0 ?_;refine iE ?_;refine cI (dA rfl rfl ha.1 ha.2.1) ?_;have hm7:a.length≤9223372036854775807:=ha.2.1▸ha.1.max;refine dd ?_;refine cI (dA rfl rfl hb.1 hb.2.1) ?_;have hm9:b.length≤9223372036854775807:=hb.2.1▸hb.1.max;refine dP ?_;refine T.cond rfl (fun h1=>?_) (fun h1=>?_)
 ·have p1:=of_decide_eq_true h1;replace hk:=dy hk h1;refine gF ?_;subst hk;exact fw
 ·have p1:=of_decide_eq_false h1;replace hk:=dz hk h1;refine jR ?_;refine dP ?_;have hq:=eP hk;clear hk;obtain ⟨k2,hk2,hk⟩:=hq; (try dsimp only at hk);refine dj (ι:=Unit) (fun z=>[]) (fun z=>[.fr F1]) (fun z=>k2 ()=r) ?_ ?_
  ·have hq:=fS hk;clear hk;obtain ⟨f3,kk3,hf3,hkk3,hk⟩:=hq;refine gg ?_;refine T.loop (ι:=Nat) (fun z=>[(0,va),(1,vb),(5, .int .i64 (z:Int))]) (fun z=>[.fr F1]) (fun z=>di f3 kk3 (a.length - z) z ()=r) (fun z=>a.length - z) 0 ?_ ?_ ?_ ?_
   ·exact hk
   ·exact q4a
   ·exact fv
   ·rintro i_4 hk;refine iJ ?_;refine d5 ?_;refine cI (dA rfl rfl ha.1 ha.2.1) ?_;refine dP ?_;refine T.cond rfl (fun h5=>?_) (fun h5=>?_)
    ·have p5:=of_decide_eq_true h5;rw [fT a5] at hk;generalize hn3:di f3 kk3 (a.length - (i_4+1)) (i_4+1)=next3 at hk;rw [←hf3] at hk; (try dsimp only at hk);refine q1S ?_;refine dT (sN 0 8 (.eff 8 (.still 9 .done))) _ a8 (List.Sublist.refl _) ?_;refine iQ ?_;refine cR rfl (dL (i:=i_4) rfl rfl rfl ha.1 ha.2.1 rfl a5) ?_;refine cR rfl (eN 0 (i:=i_4) (j:=0) rfl rfl rfl ha.1 ha.2.1 a5 rfl (R_List_GChoice.c0 (ha.2.2 i_4 a5)).1) ?_;have hd20_0:=(R_List_GChoice.c0 (ha.2.2 i_4 a5)).2;haveI:=hd20_0.oneC;refine iQ ?_;refine cR rfl (dL (i:=i_4) rfl rfl rfl hb.1 hb.2.1 rfl a5) ?_;refine cR rfl (eN 0 (i:=i_4) (j:=0) rfl rfl rfl hb.1 hb.2.1 a5 rfl (R_List_GChoice.c0 (hb.2.2 i_4 a5)).1) ?_;have hd24_0:=(R_List_GChoice.c0 (hb.2.2 i_4 a5)).2;haveI:=hd24_0.oneC;refine dF ?_;refine dn rfl (Wt.none) rfl rfl (cL rfl rfl rfl (fun w hw=>zfj _ w (hw.fr (i:=0) rfl) (cH a i_4) (cH (cH ca i_4) 0) hd20_0 (cH b i_4) (cH (cH cb i_4) 0) hd24_0)) ?_;refine kI ?_;refine ky ?_;refine T.cond rfl (fun h6=>?_) (fun h6=>?_)
     ·replace hk:=dy hk h6;refine jT ?_;subst hk;exact fw
     ·replace hk:=dz hk h6;refine q1m ?_;rw [←hn3] at hk;exact q4q
    ·have p5:=of_decide_eq_false h5;rw [fR a5,←hkk3] at hk; (try dsimp only at hk);refine ff ?_;exact q34
  ·rintro _ hk;rw [←hk2] at hk; (try dsimp only at hk);refine q3M ?_;subst hk;exact fw
theorem zjW (F0:Frz)(w:World)(hF0:F0.At w)(l:List GChoice)(vl:Value)(hl:SlC F0 vl 2 (l.map cM))(hr:db l.length 16):Calls Tryz.prog 50 #[vl] w fun e w'=>∃v':Value,True∧e= .returned v'∧Hp w (fun _=>False) [.sl v' 68 2 l.length (l.flatMap cM)] w':=by
 haveI:=hl.oneC;have hl0:=hl;obtain ⟨A,cap,hv,hlc,hcm,hcl,hcs⟩:=hl0;have hlen:(l.map cM).length=l.length:=List.length_map _;obtain ⟨S0,F1,hF1,hS0,hp0⟩:=fK hF0
 cases hA:A with
 |none=>
  have h0:l=[]:=by
   cases l with
   |nil=>rfl
   |cons x r=>
    obtain ⟨g,off,h1,_⟩:=hcs a7;rw [hA] at h1;cases h1
  subst h0;refine dq (M:=fun _=>False) (hs:=[.fr F1]) Tryz.func50 rfl rfl rfl hp0 ?_;refine q2F ?_;refine gy ?_;refine TL.slNil 68 2 ?_;refine jK ?_;exact cU rfl rfl (fun w' hw=>⟨.slice none 0 0,trivial,rfl,hw.sub Sx⟩)
 |some a=>
  rw [←hF1] at hl;refine dq (M:=fun _=>False) (hs:=[.fr F1]) Tryz.func50 rfl rfl rfl hp0 ?_;refine q13 ?_;rintro _ _ ⟨g,rfl,rfl⟩;refine dd ?_;refine cN (jr 0 1 (k':=l.length) (l':=l.flatMap cM) (zg2 (enc:=cM) (fun _=>inferInstance)) rfl rfl rfl rfl rfl hl b7 (by rw [List.nil_append,←List.flatMap_def]) hr a6) ?_;rintro v' _ ⟨hv',rfl⟩;refine eU ?_;exact cU rfl rfl (fun w' hw=>⟨v',trivial,rfl,hw.sub Sx⟩)
theorem zfz (F0:Frz)(w:World)(hF0:F0.At w)(l:List GChoice)(vl:Value)(hl:SlC F0 vl 2 (l.map cM))(hr:db l.length 16):Calls Tryz.prog 50 #[vl] w fun e w'=>∃(y:Value) (G:Frz),SlC G y 2 (l.map cM)∧e= .returned y∧Fx F0 w G w':=by
 refine (zjW F0 w hF0 l vl hl hr).mono ?_;rintro e w' ⟨v',_,rfl,hw⟩;obtain ⟨G,h1,h2,h3⟩:=Fx.hp hF0 hw;have h4:=iN (G:=G) (hw.own (.sl v' 68 2 l.length (l.flatMap cM)) a7) h2 (h3 _ a7);exact ⟨v',G,h4.toF rfl (fun _=>rfl),rfl,h1⟩
theorem zeU (F0:Frz)(w:World)(hF0:F0.At w)(l:List (List GChoice))(vl:Value)(cl:List (List Value))(hl:SlD cG F0 vl 1 cl l)(hr:db l.length 24):Calls Tryz.prog 48 #[vl] w fun e w'=>∃v':Value,True∧e= .returned v'∧Hp w (fun _=>False) [.sl v' 50 1 l.length cl.flatten] w':=by
 haveI:=hl.1.oneC;have hl0:=hl.1;obtain ⟨A,cap,hv,hlc,hcm,hcl,hcs⟩:=hl0;have hlen:=hl.2.1;obtain ⟨S0,F1,hF1,hS0,hp0⟩:=fK hF0
 cases hA:A with
 |none=>
  have h0:l=[]:=by
   refine List.eq_nil_of_length_eq_zero ?_;rw [←hlen];refine Nat.eq_zero_of_not_pos fun h=>?_;obtain ⟨g,off,h1,_⟩:=hcs h;rw [hA] at h1;cases h1
  subst h0;obtain rfl:cl=[]:=List.eq_nil_of_length_eq_zero hlen;refine dq (M:=fun _=>False) (hs:=[.fr F1]) Tryz.func48 rfl rfl rfl hp0 ?_;refine q2F ?_;refine gy ?_;refine TL.slNil 50 1 ?_;refine jK ?_;exact cU rfl rfl (fun w' hw=>⟨.slice none 0 0,trivial,rfl,hw.sub Sx⟩)
 |some a=>
  rw [←hF1] at hl;refine dq (M:=fun _=>False) (hs:=[.fr F1]) Tryz.func48 rfl rfl rfl hp0 ?_;refine q13 ?_;rintro _ _ ⟨g,rfl,rfl⟩;refine dd ?_;refine cN (jr 0 1 (k':=l.length) (l':=cl.flatten) (ziy hl (fun _ _ _=>R_List_GChoice.one)) rfl rfl rfl rfl rfl hl.1 (by rw [hl.2.1];omega) (by rw [List.nil_append]) hr a6) ?_;rintro v' _ ⟨hv',rfl⟩;refine eU ?_;exact cU rfl rfl (fun w' hw=>⟨v',trivial,rfl,hw.sub Sx⟩)
theorem zfb (F0:Frz)(w:World)(hF0:F0.At w)(l:List Int)(vl:Value)(hl:SlC F0 vl 1 (l.map eI))(hr:db l.length 8):Calls Tryz.prog 51 #[vl] w fun e w'=>∃(y:Value) (G:Frz),SlC G y 1 (l.map eI)∧e= .returned y∧Fx F0 w G w':=by
 haveI:=hl.oneC;have hl0:=hl;obtain ⟨A,cap,hv,hlc,hcm,hcl,hcs⟩:=hl0;have hlen:(l.map eI).length=l.length:=List.length_map _
 cases hA:A with
 |none=>
  have h0:¬0<l.length:=fun h=>by
   obtain ⟨g,off,h1,_⟩:=hcs (by rw [hlen];exact h);rw [hA] at h1;cases h1
  refine Calls.mono (R:=fun e w'=>e= .returned (.slice none 0 0)∧Below w.heap.size w w') ?_ ?_
  ·obtain ⟨S0,F1,hF1,hS0,hp0⟩:=fK hF0;refine dq (M:=fun _=>False) (hs:=[.fr F1]) Tryz.func51 rfl rfl rfl hp0 ?_;refine q2F ?_;refine gF ?_;exact fw
  ·rintro e w' ⟨rfl,hb⟩
   cases l with
   |nil=>exact ⟨.slice none 0 0,F0,SlC.nil _ 1,rfl,Fx.refl hF0 hb⟩
   |cons x r=>simp at h0
 |some a=>
  refine Calls.mono (R:=fun e w'=>∃v':Value,e= .returned v'∧Hp w (fun _=>False) [.sl v' 3 1 l.length (l.flatMap eI)] w') ?_ ?_
  ·obtain ⟨S0,F1,hF1,hS0,hp0⟩:=fK hF0;rw [←hF1] at hl;refine dq (M:=fun _=>False) (hs:=[.fr F1]) Tryz.func51 rfl rfl rfl hp0 ?_;refine q13 ?_;rintro _ _ ⟨g,rfl,rfl⟩;refine dd ?_;refine cN (jr 0 1 (k':=l.length) (l':=l.flatMap eI) (zg2 (enc:=eI) (fun _=>inferInstance)) rfl rfl rfl rfl rfl hl b7 (by rw [List.nil_append,←List.flatMap_def]) hr a6) ?_;rintro v' _ ⟨hv',rfl⟩;refine eU ?_;exact cU rfl rfl (fun w' hw=>⟨v',rfl,hw.sub Sx⟩)
  ·rintro e w' ⟨v',rfl,hw⟩;obtain ⟨G,h1,h2,h3⟩:=Fx.hp hF0 hw;have h4:=iN (G:=G) (hw.own (.sl v' 3 1 l.length (l.flatMap eI)) a7) h2 (h3 _ a7);exact ⟨v',G,h4.toF rfl (fun _=>rfl),rfl,h1⟩
theorem ziZ {F0 : Frz} {w : World} {vd vp vl vc : Value} {cd : List (List Value)} {p : GProblem} (hF0 : F0.At w) (h : PbF F0 vd cd vp vl vc p) :
    Calls Tryz.prog 72 #[.agg [vd, vp, vl, vc].toArray] w fun e w' => e = .returned (.bool (kK p)) ∧ Below w.heap.size w w' := by
  obtain ⟨P, rfl, hP⟩ := zib h hF0; rw [← zmC]; exact zfN P vd vp vl vc w hP
end Go.Proofs.YtogbggmckmnlfaaGreatDoor
