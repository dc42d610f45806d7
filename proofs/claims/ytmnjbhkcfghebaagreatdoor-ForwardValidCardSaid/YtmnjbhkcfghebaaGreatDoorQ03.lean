/- Kb Wn Si Kn Km Yq Wq: shortened and put together by squeeze.py. -/
import Derived.Test.YtmnjbhkcfghebaaGreatDoorQ02
import Derived.Laws.BytesArg
import Derived.Laws.Strings
import Derived.Lib.Tables
set_option maxRecDepth 100000
set_option maxHeartbeats 4000000
set_option linter.unusedVariables false
set_option linter.unusedSectionVars false
set_option linter.unusedSimpArgs false
namespace Go.Proofs.YtmnjbhkcfghebaaGreatDoor
open Go.RowKit
theorem a8 {p:Prop}(h:p:=by rw [Vec.len];first|omega|(simp only [List.length_cons,List.length_nil];omega)):p:=h
def orK (k:IntKind)(a b:Int):Int:=k.wrap ((BitVec.ofInt k.bits a ||| BitVec.ofInt k.bits b).toNat:Int)
def andK (k:IntKind)(a b:Int):Int:=k.wrap ((BitVec.ofInt k.bits a &&& BitVec.ofInt k.bits b).toNat:Int)
def xorK (k:IntKind)(a b:Int):Int:=k.wrap ((BitVec.ofInt k.bits a ^^^ BitVec.ofInt k.bits b).toNat:Int)
def remK (k:IntKind)(a b:Int):Int:=a.tmod b
def shlK (k:IntKind)(a b:Int):Int:=k.wrap (a*2 ^ (min b.toNat k.bits))
def shrK (k:IntKind)(a b:Int):Int:=a.fdiv (2 ^ (min b.toNat k.bits))
def iD (xs:List Int):List UInt8:=xs.map fun n=>UInt8.ofNat n.toNat
theorem zid (z:Int):IntKind.u64.wrap z=((BitVec.ofInt 64 z).toNat:Int):=by
 rw [BitVec.toNat_ofInt];refine q2Z ?_;simp;omega
theorem ziT {α:Type}[Inhabited α]{enc:α→List Value}{size:Nat}(he:∀y,(enc y).length=size)(hs:0<size)(x:α)(n:Nat):(madeCells (enc x).toArray (n*size)).toList=(List.replicate n x).flatMap enc:=by
 apply List.ext_getElem?;intro i; (have hl:((List.replicate n x).flatMap enc).length=n*size:=by rw [ziI enc size he];simp);by_cases hi:i<n*size
 ·have hq:i / size<n:=Nat.div_lt_of_lt_mul (by rw [Nat.mul_comm];exact hi);have hj:i % size<size:=Nat.mod_lt _ hs;have e:i=i / size*size+i % size:=(Nat.div_add_mod' i size).symm
  have e2:((List.replicate n x).flatMap enc)[i]?=(enc x)[i % size]?:=by
   conv=>lhs;rw [e]
   rw [zfh enc size he _ _ (by simpa using hq) _ hj];simp
  rw [e2]; (have hj2:i % size<(enc x).length:=by rw [he];exact hj);simp [madeCells,hi,he,List.getElem?_eq_getElem hj2]
 ·rw [List.getElem?_eq_none (by simp [madeCells];omega),List.getElem?_eq_none (by rw [hl];omega)]
section
variable {P:Program}{n:Nat}{B D:World}{M S0:Nat→Prop}{fs:dV}{hs:HS}{o:Oper}{v:Value}
theorem fB {α : Type} [Inhabited α] {t e : TypeId} {size bytes n' : Nat} {z : List Value} {x y : Operand} {q q' : IntKind} {xi : Int} {enc : α → List Value} {u : α} [hT : TyE P t e size bytes z] (ho : o.op = .makeSlice t x y) (hx : ev fs x = some (.int q xi)) (hy : ev fs y = some (.int q' xi)) (hn : xi = (n' : Int)) (hr : dz n' bytes) (hb : 0 < bytes) (hp : 0 < size) (he : ∀ v, (enc v).length = size) (hz : enc u = z) :
    Ew P n B M fs hs o (fun v hs' => OneC v ∧ hs' = .sl v e size (List.replicate n' u).length ((List.replicate n' u).flatMap enc) :: hs) := fun F hF Q K a w ha hw k => by
  have hle : n' ≤ 140737488355328 := Nat.le_trans (Nat.le_mul_of_pos_right _ hb) hr; refine Ew.makeSlice ho hx hy hn hn a4 (by rw [Nat.mul_comm]; have h := hr; unfold dz at h; omega) F hF Q K a w ha hw (fun v w' hs' h1 h2 h3 => ?_); obtain ⟨g, rfl, rfl⟩ := h3;refine k _ w' _ h1 ?_ ⟨⟨rfl⟩, rfl⟩; rw [← ziT he hp u n', hz, List.length_replicate]; exact h2
theorem Yv.orK {x y:Operand}{t u:TypeId}{k:IntKind}{a b:Int}(ho:o.op= .binOp .or t x y u:=by exact rfl)(hx:ev fs x=some (.int k a):=by exact rfl)(hy:ev fs y=some (.int k b):=by exact rfl):Yv P n B M fs hs o (.int k (orK k a b)):=fun f w ha _=>by
 unfold execOp;simp [ho,ha.ev hx,ha.ev hy,eqGuard,binOp,Op.intBits,Go.Proofs.YtmnjbhkcfghebaaGreatDoor.orK]
theorem Yv.andK {x y:Operand}{t u:TypeId}{k:IntKind}{a b:Int}(ho:o.op= .binOp .and t x y u)(hx:ev fs x=some (.int k a))(hy:ev fs y=some (.int k b)):Yv P n B M fs hs o (.int k (andK k a b)):=fun f w ha _=>by
 unfold execOp;simp [ho,ha.ev hx,ha.ev hy,eqGuard,binOp,Op.intBits,Go.Proofs.YtmnjbhkcfghebaaGreatDoor.andK]
theorem Yv.remK {x y:Operand}{t u:TypeId}{k:IntKind}{a b:Int}(ho:o.op= .binOp .rem t x y u)(hx:ev fs x=some (.int k a))(hy:ev fs y=some (.int k b))(hb:b≠0):Yv P n B M fs hs o (.int k (remK k a b)):=fun f w ha _=>by
 unfold execOp;simp [ho,ha.ev hx,ha.ev hy,eqGuard,binOp,Op.intDiv,hb,Go.Proofs.YtmnjbhkcfghebaaGreatDoor.remK]
theorem Yv.xorK {x y:Operand}{t u:TypeId}{k:IntKind}{a b:Int}(ho:o.op= .binOp .xor t x y u:=by exact rfl)(hx:ev fs x=some (.int k a):=by exact rfl)(hy:ev fs y=some (.int k b):=by exact rfl):Yv P n B M fs hs o (.int k (xorK k a b)):=fun f w ha _=>by
 unfold execOp;simp [ho,ha.ev hx,ha.ev hy,eqGuard,binOp,Op.intBits,Go.Proofs.YtmnjbhkcfghebaaGreatDoor.xorK]
theorem Yv.shlK {x y:Operand}{t u:TypeId}{k k':IntKind}{a b:Int}(ho:o.op= .binOp .shl t x y u)(hx:ev fs x=some (.int k a))(hy:ev fs y=some (.int k' b))(hb:0≤b):Yv P n B M fs hs o (.int k (shlK k a b)):=fun f w ha _=>by
 unfold execOp;simp [ho,ha.ev hx,ha.ev hy,eqGuard,binOp,Op.shift,Go.Proofs.YtmnjbhkcfghebaaGreatDoor.shlK,Int.not_lt.2 hb]
theorem Yv.shrK {x y:Operand}{t u:TypeId}{k k':IntKind}{a b:Int}(ho:o.op= .binOp .shr t x y u)(hx:ev fs x=some (.int k a))(hy:ev fs y=some (.int k' b))(hb:0≤b):Yv P n B M fs hs o (.int k (shrK k a b)):=fun f w ha _=>by
 unfold execOp;simp [ho,ha.ev hx,ha.ev hy,eqGuard,binOp,Op.shift,Go.Proofs.YtmnjbhkcfghebaaGreatDoor.shrK,Int.not_lt.2 hb]
theorem dO {s t:TypeId}{k k':IntKind}{z:Int}{x:Operand}[hS:TyI P s k'][hT:TyI P t k](ho:o.op= .convert s t x:=by exact rfl)(hx:ev fs x=some (.int k' z):=by exact rfl):Yv P n B M fs hs o (.int k (k.wrap z)):=fun a w ha _=>by
 have h:=hT.h;have h':=hS.h;unfold zjA at h h'
 split at h
 ·rename_i q hU
  cases h
  split at h'
  ·rename_i q' hU'
   cases h'
   unfold execOp;simp [ho,ha.ev hx,convert,underlying,hU,hU',Conv.intToInt]
  ·cases h'
 ·cases h
theorem eb {s t:TypeId}{k':IntKind}{z:Int}{x:Operand}[hS:TyI P s k'][hT:TyI P t .u64](ho:o.op= .convert s t x:=by exact rfl)(hx:ev fs x=some (.int k' z):=by exact rfl):Yv P n B M fs hs o (U (BitVec.ofInt 64 z)):=(dO ho hx).eq (by rw [zid])
theorem lk (ix:Nat){F:FzB B M S0}{s t e:TypeId}{xs:List Int}{x:Operand}(hs1:P.underlying s=some (.slice e))(he:P.underlying e=some (.int .u8))(ht:P.underlying t=some .string)(ho:o.op= .convert s t x)(hx:ev fs x=some v)(hF:hs[ix]?=some (.fr F))(h:SlC F.toFrz v 1 (xs.map (eK .u8))):Yv P n B M fs hs o (.string ⟨(iD xs).toArray⟩):=fun a w ha hw=>by
 obtain ⟨A,cap,rfl,h2,h3,h4,h5⟩:=h;unfold execOp
 cases xs with
 |nil=>
  have:(convert s t (.slice A ([].map (eK .u8)).length cap)).run P w= .ok (.string ⟨#[]⟩) w:=by
   rw [run_convert_bytes_string w s t e A _ cap hs1 he ht]
   cases A with
   |none=>rfl
   |some b=>
    rw [run_bytesToString (P:=P) w b _ cap [] (by rfl)];rfl
  simp [ho,ha.ev hx] at this ⊢;rw [this];rfl
 |cons z r=>
  obtain ⟨g,off,rfl,hg,hc⟩:=h5 a9;have hl:(List.map (eK .u8) (z :: r)).length=(z :: r).length:=List.length_map _
  have:=run_convert_bytes_arg (P:=P) w s e hs1 he g off (z :: r).length cap (z :: r) rfl (fun i hi=>by
   have h6:=iN (hw.fr hF) hg (hc i (by rw [hl];exact hi)) 0 (by rw [zeV hi];simp);rw [zeV hi] at h6;rw [show off+i=off+i*1+0 by omega,h6,fq hi]
   simp [List.getElem?_eq_getElem hi,List.getD_eq_getElem?_getD]) t ht
  rw [hl] at hx;simp [ho,ha.ev hx] at this ⊢;rw [this];rfl
theorem Yv.bX {x y:Operand}{t u:TypeId}{a b:List UInt8}(ho:o.op= .binOp .eql t x y u)(hx:ev fs x=some (.string ⟨a.toArray⟩))(hy:ev fs y=some (.string ⟨b.toArray⟩)):Yv P n B M fs hs o (.bool (a == b)):=fun f w ha _=>by
 unfold execOp;simp [ho,ha.ev hx,ha.ev hy,eqGuard,binOp,Op.stringOp,ByteArray.toList_eq]
end
def winOk (w:World)(v:Value)(e:TypeId)(size n:Nat)(l:List Value)(g:Nat)(pre post:List Value):Prop:=
 l.length=n*size∧(∃cap,v= .slice (some ⟨g,pre.length,none⟩) n cap∧n≤cap∧cap≤maxLen)∧w.heap[g]?=some (.cells (pre++l++post).toArray e (0,0))
@[irreducible] def Ent.wn (v:Value) (e:TypeId) (size n:Nat) (l:List Value) (g:Nat) (pre post:List Value):Ent where
 fp k:=k=g
 ok w:=winOk w v e size n l g pre post
 loc h k:=⟨k.1,k.2.1,(h g rfl).trans k.2.2⟩
 lt h k e:=by subst e;exact (Array.getElem?_eq_some_iff.1 h.2.2).1
 nd h k e c:=by subst e;rw [h.2.2];simp
section
variable {v:Value}{e:TypeId}{size n g:Nat}{l pre post:List Value}{w:World}
theorem fZ {k:Nat}:(Ent.wn v e size n l g pre post).fp k↔k=g:=by unfold Ent.wn;exact Iff.rfl
theorem en:(Ent.wn v e size n l g pre post).ok w↔winOk w v e size n l g pre post:=by unfold Ent.wn;exact Iff.rfl
theorem zjC (h:(Ent.wn v e size n l g pre post).ok w):OneC v:=by
 obtain ⟨_,⟨cap,rfl,_⟩,_⟩:=en.1 h;exact inferInstance
theorem zjw (h:(Ent.wn v e size n l g pre post).ok w):n≤9223372036854775807:=by
 obtain ⟨_,⟨cap,rfl,h1,h2⟩,_⟩:=en.1 h;unfold maxLen at h2;omega
theorem winOk.cell (h:winOk w v e size n l g pre post)(p:Nat)(hp:p<l.length):w.cell? ⟨g,pre.length+p,none⟩=l[p]?:=by
 rw [zew h.2.2,List.append_assoc,List.getElem?_append_right a4,Nat.add_sub_cancel_left,List.getElem?_append_left hp]
end
section
variable {Fe:Fence}[hFe:Calm Fe]{P:Program}{n:Nat}{B D:World}{M S0:Nat→Prop}{Q:Exit→Act→World→Prop}{fs:dV}{hs:HS}{ops:Array Oper}{o:Oper}{sv val:Value}
theorem gp (j:Nat){t e k i m g:Nat}{z:Int}{q:IntKind}{l pre post:List Value}{x y:Operand}{e':TypeId}[hT:TySl P t e k](ho:o.op= .indexAddr t x y)(hx:ev fs x=some sv)(hy:ev fs y=some (.int q z))(hj:hs[j]?=some (.wn sv e' k m l g pre post))(hz:z=(i:Int))(hi:i<m):Yv P n B M fs hs o (iE sv (i*k)):=fun a w ha hw=>by
 obtain ⟨_,⟨cap,rfl,_⟩,_⟩:=en.1 (hw.get hj);rw [ka];exact il (B:=B) (M:=M) (hs:=hs) ho hx hy hz hi a w ha hw
theorem iQ (j:Nat){t e:TypeId}[hT:TyS P t]{p size k g:Nat}{l pre post:List Value}{x:Operand}(ho:o.op= .load t x)(hx:ev fs x=some (iE sv p))(hj:hs[j]?=some (.wn sv e size k l g pre post))(hk:0<k)(hv:l[p]?=some val):Yv P n B M fs hs o val:=fun a w ha hw=>by
 have hok:=en.1 (hw.get hj);obtain ⟨cap,hsv,_⟩:=hok.2.1;subst hsv;rw [ka] at hx;refine zfk ho (ha.ev hx) ?_;rw [hok.cell p (List.getElem?_eq_some_iff.1 hv).1,hv]
theorem jZ (j : Nat) {t e : TypeId} [hT : TyS P t] {x y : Operand} {p k k' size g : Nat} {l l' pre post : List Value} {hs' : HS} [hv : OneC val] (ho : o.op = .store t x y) (hx : ev fs x = some (iE sv p)) (hy : ev fs y = some val)
    (hj : hs[j]? = some (.wn sv e size k l g pre post)) (hk : 0 < k) (hp : p < l.length) (hl : l.set p val = l') (hkk : k' = k) [hH : SetAt hs j (.wn sv e size k' l' g pre post) hs'] : Ew P n B M fs hs o (fun v hs'' => v = undef ∧ hs'' = hs') := iP fun a w ha hw => by
  subst hkk hl; have hok := en.1 (hw.get hj); obtain ⟨cap, hsv, hc⟩ := hok.2.1; subst hsv; rw [ka] at hx; have h := zeq (P := P) (w := w) hT.h ho (ha.ev hx) (ha.ev hy) (m := [val]) hv.cells rfl (by simpa using hv.h) hok.2.2 b9;refine ⟨_, _, h, zdL hok.2.2 _, ?_, rfl, rfl⟩; rw [show [val].length = 1 from rfl, zem _ (pre.length + p) val b9, ← hH.h]; refine hw.updAt hj (zey w g _) (fun q _ hq => fZ.2 hq) (en.2 ⟨by rw [List.length_set]; exact hok.1, ⟨cap, rfl, hc⟩, ?_⟩) (fun q hq => .inl (fZ.2 (fZ.1 hq))); rw [setRow_heap w g _ _ e _ hok.2.2]
  congr 3
  rw [List.append_assoc, List.append_assoc, List.set_append_right _ _ a4, Nat.add_sub_cancel_left, List.set_append_left _ _ hp]
theorem Yv.cJ (j:Nat){t e e':TypeId}{k size l i m:Nat}{z z':Int}{q q':IntKind}{cs:List Value}{x y y':Operand}[hT:TySl P t e k](ho:o.op= .slice t x (some y) (some y') none)(hx:ev fs x=some sv)(hy:ev fs y=some (.int q z))(hy':ev fs y'=some (.int q' z'))(hj:hs[j]?=some (.sl sv e' size m cs))(hz:z=(l:Int))(hl:l≤i)(hz':z'=(i:Int))(hi:i≤m):Yv P n B M fs hs o (fC sv l i k):=fun a w ha hw=>by
 subst hz hz'
 obtain ⟨A,cap,rfl,hc⟩:∃A cap,sv= .slice A m cap∧m≤cap:=by
  rcases (dt.1 (hw.get hj)).2 with ⟨rfl,h0⟩|⟨g,cap,cur,rfl,hb,hg,hnc,_⟩
  ·exact ⟨none,0,by rw [h0],by omega⟩
  ·exact ⟨_,cap,rfl,hnc⟩
 unfold execOp;have:=run_slice_lh (P:=P) w t A m cap hT.elem.1 q q' (l:Int) (i:Int) a4 a4 a4;simp [ho,ha.ev hx,ha.ev hy,ha.ev hy',run_sliceAt_slice w t _ _ _ _ hT.elem.1,this,hT.elem.2,fC]
theorem Yv.cI {x y z:Operand}{ts:Array TypeId}{k:IntKind}{a b c:Int}(ho:o.op= .call { callee:= .builtin .min,args:= #[x,y,z],argTypes:=ts })(hx:ev fs x=some (.int k a))(hy:ev fs y=some (.int k b))(hz:ev fs z=some (.int k c)):Yv P n B M fs hs o (.int k (min (min a b) c)):=fun act w ha _=>by
 (have e:∀p q:Int,(if q<p then q else p)=min p q:=fun p q=>by split <;> omega);unfold execOp;simp [ho,ha.ev hx,ha.ev hy,ha.ev hz,resolve,invoke,builtin,Builtin.min_,Builtin.min2,←e]
end
@[irreducible] def gZ {α β:Type} (e:α) (k:α→β):β:=k e
theorem zcW {α β:Type}{e:α}{k:α→β}{r:β}(h:gZ e k=r):∃v,e=v∧k v=r:=⟨e,rfl,by unfold gZ at h;exact h⟩
theorem zjr {w : World} {v : Value} {e : TypeId} {k a m : Nat} {l : List Value} (h : (Ent.sl v e 1 k l).ok w) (ham : a + m ≤ k) (hm : 0 < m) :
    ∃ g pre post, (∀ q, (Ent.sl v e 1 k l).fp q ↔ q = g) ∧ (Ent.wn (fC v a (a + m) 1) e 1 m ((l.drop a).take m) g pre post).ok w ∧
      ∀ (w' : World) (l2 : List Value), (Ent.wn (fC v a (a + m) 1) e 1 m l2 g pre post).ok w' → (Ent.sl v e 1 k (l.take a ++ l2 ++ l.drop (a + m))).ok w' := by
  have ho := dt.1 h; rcases ho.2 with ⟨rfl, h0⟩ | ⟨g, cap, cur, rfl, hb, hg, hnc, hcm, hcs, htake⟩
  · omega
  · have hl := ho.1; rw [Nat.mul_one] at hl htake; (have hcl : k ≤ cur.toList.length := by rw [← hl, ← htake]; simp; omega); (have hcur : cur.toList = l ++ cur.toList.drop k := by rw [← htake]; exact (List.take_append_drop k _).symm)
    have hsplit : l = l.take a ++ (l.drop a).take m ++ l.drop (a + m) := by
      rw [List.append_assoc, ← List.drop_drop, List.take_append_drop, List.take_append_drop]
    (have hal : (l.take a).length = a := by rw [List.length_take]; omega); refine ⟨g, l.take a, l.drop (a + m) ++ cur.toList.drop k, fun q => ?_, en.2 ⟨by rw [List.length_take, List.length_drop]; omega, ⟨cap - a, by unfold fC sliced; simp [hal, show ¬ cap = a by omega, jL], by omega, by omega⟩, ?_⟩, fun w' l2 h2 => ?_⟩
    · constructor
      · intro hq; exact (Option.some.inj (dC.1 hq)).symm
      · intro hq; exact dC.2 (by rw [hq]; rfl)
    · rw [hg]
      congr 2
      apply Array.ext'
      show cur.toList = _
      rw [← List.append_assoc, ← hsplit]; exact hcur
    · have h3 := en.1 h2; have hl2 := h3.1; rw [Nat.mul_one] at hl2
      have hlen : (l.take a ++ l2 ++ l.drop (a + m)).length = k := by
        rw [List.length_append, List.length_append, hal, hl2, List.length_drop]; omega
      refine dt.2 ⟨by rw [hlen, Nat.mul_one], .inr ⟨g, cap, _, rfl, hb, h3.2.2, hnc, hcm, ?_, ?_⟩⟩
      · rw [← hcs]; have : cur.size = cur.toList.length := rfl;simp only [List.size_toArray, List.length_append, List.length_take, List.length_drop]; omega
      · rw [List.toList_toArray, Nat.mul_one, ← List.append_assoc, List.take_left' hlen]
section
variable {P:Program}{n:Nat}{B D:World}{M:Nat→Prop}{fs:dV}{hs:HS}{o:Oper}{v:Value}
theorem Yv.bp {op:BinOp}{x y:Operand}{t u:TypeId}{a b:Value}(ho:o.op= .binOp op t x y u)(hx:ev fs x=some a)(hy:ev fs y=some b)(hr:∀w,(do eqGuard op t x y a b;binOp op t a b:Sem Value).run P w= .ok v w):Yv P n B M fs hs o v:=fun f w ha _=>by
 unfold execOp;simp only [ho,ha.ev hx,ha.ev hy];rw [Sem.run_bind,hr w]
 rfl
end
theorem Fx.hp {F:Frz}{w w':World}{es:HS}(hF:F.At w)(h:Hp w (fun _=>False) es w'):∃G:Frz,Fx F w G w'∧G.w=w'∧∀e∈es,∀g,e.fp g→Cb w' g→G.S g:=by
 have hb:=h.isBelow;have hF':=hF.below hb;refine ⟨⟨fun g=>F.S g∨((∃ e∈es,e.fp g)∧Cb w' g),w',fun g hg=>hg.elim (fun h=>hF'.cb h) (fun h=>h.2)⟩,⟨fun g hg=>⟨.inl hg,hF' g hg⟩,fun g _=>rfl,fun g hg=>?_,hb⟩,rfl,fun e he g hg hc=> .inr ⟨⟨e,he,hg⟩,hc⟩⟩;rcases hg with h1|⟨⟨e,he,hg⟩,_⟩
 ·exact .inl h1
 ·exact .inr ((h.new e he g hg).elim (fun h=>h.elim) id)
theorem SlK.ent {G:Frz}{w':World}{v:Value}{e:TypeId}{size k:Nat}{l:List Value}(hok:(Ent.sl v e size k l).ok w')(hw:G.w=w')(hS:∀g,(Ent.sl v e size k l).fp g→Cb w' g→G.S g):SlK G v size k l:=by
 have ho:=dt.1 hok;rcases ho.2 with ⟨rfl,h0⟩|⟨g,cap,cur,rfl,hb,hg,hnc,hcm,hcs,htake⟩
 ·subst h0;exact ⟨ho.1,none,0,rfl,Nat.le_refl _,by omega,fun h=>by omega⟩
 ·refine ⟨ho.1,_,cap,rfl,hnc,by unfold maxLen at hcm;omega,fun _=>⟨g,rfl,hS g (dC.2 rfl) ⟨_,_,_,hg⟩,fun q hq=>?_⟩⟩;rw [hw,Nat.zero_add,World.ownsRow.cellAt ho q (by rw [←ho.1];exact hq)]
section
variable {P:Program}{n:Nat}{B D:World}{M:Nat→Prop}{fs:dV}{hs:HS}{o:Oper}{v:Value}
theorem K.slNil {Q:Exit→Act→World→Prop}{e:Exit}(t:TypeId)(size:Nat)(h:K n B D M Q e fs (.sl (.slice none 0 0) t size 0 [] :: hs)):K n B D M Q e fs hs:=⟨fun a w ha hw hm=>h.out a w ha (hw.slNil t size) hm⟩
theorem Yv.cp {x y:Operand}{t u:TypeId}{a b:BitVec 64}(ho:o.op= .binOp .rem t x y u)(hx:ev fs x=some (U a))(hy:ev fs y=some (U b))(hb:¬b=0#64):Yv P n B M fs hs o (U (a % b)):=
 (Yv.remK (k:= .u64) (a:=(a.toNat:Int)) (b:=(b.toNat:Int)) ho hx hy (fun h=>hb (BitVec.eq_of_toNat_eq (Int.ofNat.inj h)))).eq (by
  show Value.int .u64 ((a.toNat:Int).tmod (b.toNat:Int))= .int .u64 (((a % b).toNat:Nat):Int)
  rw [Int.tmod_eq_emod_of_nonneg (Int.natCast_nonneg _),BitVec.toNat_umod];rfl)
def ziV (v:Value):Prop:=∃A m c,v= .slice (some A) m c
theorem zdu (x:Ent)(a b:List Ent):(x :: a)++b=x :: (a++b):=rfl
theorem zen (a:List Ent):[]++a=a:=rfl
def NilI {α:Type}(v:Value)(l:List α):Prop:=(l=[]∧v= .slice none 0 0)∨(l≠[]∧ziV v)
theorem NilI.nn {α:Type}{v:Value}{l:List α}(h:NilI v l)(hl:l≠[]):ziV v:=h.elim (fun x=>absurd x.1 hl) (fun x=>x.2)
theorem NilI.nil {α:Type}:NilI (.slice none 0 0) ([]:List α):= .inl ⟨rfl,rfl⟩
theorem Ew.bG {sv : Value} (j : Nat) {t e : TypeId} {q : Nat} [hT : TyA P t q] {x y : Operand} {p k k' size : Nat} {l m l' : List Value} {hs' : HS} [hv : OneCs m] (ho : o.op = .store t x y) (hx : ev fs x = some (iE sv p)) (hy : ev fs y = some (.agg m.toArray))
    (hj : hs[j]? = some (.sl sv e size k l)) (hk : 0 < k) (hq : m.length = q) (hp : p + m.length ≤ l.length) (hl : l.take p ++ m ++ l.drop (p + m.length) = l') (hkk : k' = k) [hH : SetAt hs j (.sl sv e size k' l') hs'] : Ew P n B M fs hs o (fun v hs'' => v = undef ∧ hs'' = hs') := by
  subst hkk; exact Ew.bM j ho hx hy hj hk hq hp hl
end
theorem zfW {c l:List Value}{n j q:Nat}(h:(c.drop 0).take n=l)(hj:j+q≤n):(c.drop j).take q=(l.drop j).take q:=by
 subst h;rw [List.drop_zero,List.drop_take,List.take_take,Nat.min_eq_left a4]
section
variable {P:Program}{n:Nat}{B D:World}{M S0:Nat→Prop}{fs:dV}{hs:HS}{o:Oper}{v:Value}
theorem Yv.len8 {t:TypeId}{y:Operand}{k:IntKind}{i:Int}(hU:P.underlying t=some .string)(ho:o.op= .index t (.const (.string Lib.len8tab)) y)(hy:ev fs y=some (.int k i))(h:0≤i∧i≤255):Yv P n B M fs hs o (.int .u8 (Lib.len8 i)):=fun f w ha _=>by
 have h1:=Lib.run_index_len8tab (P:=P) w t k i hU h.1 h.2;have hx0:ev fs (.const (.string Lib.len8tab))=some (.string Lib.len8tab):=rfl;generalize Lib.len8tab=T at *;unfold execOp;simp [ho,ha.ev hy,ha.ev hx0];rw [h1];rfl
theorem gR {x:Operand}{t:TypeId}{a:Int}(ho:o.op= .unOp .neg t x:=by exact rfl)(hx:ev fs x=some (.int .i64 a):=by exact rfl):Yv P n B M fs hs o (.int .i64 (wI (0 - a))):=fun f w ha _=>by
 unfold execOp;simp [ho,ha.ev hx,Op.unary,Op.intArith]
def quoK (k:IntKind)(a b:Int):Int:=k.wrap (a.tdiv b)
theorem Yv.quoK {x y:Operand}{t u:TypeId}{k:IntKind}{a b:Int}(ho:o.op= .binOp .quo t x y u)(hx:ev fs x=some (.int k a))(hy:ev fs y=some (.int k b))(hb:b≠0):Yv P n B M fs hs o (.int k (quoK k a b)):=fun f w ha _=>by
 unfold execOp;simp [ho,ha.ev hx,ha.ev hy,eqGuard,binOp,Op.intDiv,hb,Go.Proofs.YtmnjbhkcfghebaaGreatDoor.quoK]
theorem Yv.cq {x y:Operand}{t u:TypeId}{a b:BitVec 64}(ho:o.op= .binOp .quo t x y u)(hx:ev fs x=some (U a))(hy:ev fs y=some (U b))(hb:¬b=0#64):Yv P n B M fs hs o (U (a / b)):=
 (Yv.quoK (k:= .u64) (a:=(a.toNat:Int)) (b:=(b.toNat:Int)) ho hx hy (fun h=>hb (BitVec.eq_of_toNat_eq (Int.ofNat.inj h)))).eq (by
  unfold Go.Proofs.YtmnjbhkcfghebaaGreatDoor.quoK;rw [zid]
  show Value.int .u64 _= .int .u64 (((a / b).toNat:Nat):Int)
  rw [show (a.toNat:Int).tdiv (b.toNat:Int)=((a.toNat / b.toNat:Nat):Int) from rfl,BitVec.ofInt_natCast,BitVec.toNat_udiv,BitVec.toNat_ofNat,Nat.mod_eq_of_lt (Nat.lt_of_le_of_lt (Nat.div_le_self _ _) a.isLt)])
theorem K.bK {Q:Exit→Act→World→Prop}{x:Exit}{hs':HS}(h:hs=hs')(k:K n B D M Q x fs hs'):K n B D M Q x fs hs:=h▸k
theorem K.bs (i j:Nat){fn:Func}{R:Ending→World→Prop}{t u t2 u2:TypeId}{s r g k s2 g2 k2:Nat}{l l2:List Value}{x:Value}[hT:TyA P t k][hT2:TyA P t2 k2](hr:fn.results= #[.cell s t, .cell s2 t2, .tmp r])(hv:d9 fs s=some (.pointer (some ⟨g,0,none⟩)))(hv2:d9 fs s2=some (.pointer (some ⟨g2,0,none⟩)))(hx:d9 fs r=some x)(hi:hs[i]?=some (.row g u l))(hj:hs[j]?=some (.row g2 u2 l2))(hl:l.length=k)(hl2:l2.length=k2)(h:∀w,Hp B M hs w→R (.returned (.tuple #[.agg l.toArray, .agg l2.toArray,x])) w):K n B D M (jM P fn R) .ret fs hs:=
 (iY (fun a w ha hw=>by
  have h1:=zds (P:=P) (t:=t) (dl.1 (hw.get hi)) hl;have h2:=zds (P:=P) (t:=t2) (dl.1 (hw.get hj)) hl2
  simp [results,hr,ha.get s _ hv,ha.get s2 _ hv2,ha.get r _ hx,asAddr,h1,h2]) h).1
end
def zbd (fuel:Nat)(l0_:List Int)(v_:List Int):Option (Int×List Int):=
 dg (0≤((v_.length:Int) - 1)∧((v_.length:Int) - 1)<(v_.length:Int)) <|
 dg (0≤(v_.length:Int)∧(v_.length:Int)<(l0_.length:Int)) <|
 dg (¬(BitVec.ofInt 64 (nth v_ (((v_.length:Int) - 1).toNat)))=0#64) <|
 dg (¬(BitVec.ofInt 64 (nth v_ (((v_.length:Int) - 1).toNat)))=0#64) <|
 dJ (fun (q_1:BitVec 64)=>
  dJ (fun (s15:BitVec 64×BitVec 64×List Int)=>
   dg (0≤(v_.length:Int)∧(v_.length:Int)<(s15.2.2.length:Int)) <|
   dJ (fun (s24:BitVec 64×List Int)=>
    some ((IntKind.u32.wrap (s24.1.toNat:Int)),s24.2))
   (fun k24=>
    (bif decide (¬(((((BitVec.ofInt 64 (nth s15.2.2 v_.length)) - s15.2.1) - s15.1) >>> 63).toNat:Int)=((0#64).toNat:Int)) then
     dJ (fun (s28:BitVec 64×List Int)=>
      dg (0≤(v_.length:Int)∧(v_.length:Int)<(s28.2.length:Int)) <|
      k24 ((q_1 - (1#64)),(s28.2.set v_.length (IntKind.u32.wrap ((nth s28.2 v_.length)+(IntKind.u32.wrap (s28.1.toNat:Int)))))))
     (fun k28=>
      dG (fun (i_32:Nat) (next31:(BitVec 64×List Int)→Option (Int×List Int)) (s31:BitVec 64×List Int)=>
       dg (0≤(i_32:Int)∧(i_32:Int)<(s31.2.length:Int)) <|
       next31 (((s31.1+((BitVec.ofInt 64 (nth s31.2 i_32))+(BitVec.ofInt 64 (nth v_ i_32)))) >>> 32),(s31.2.set i_32 (IntKind.u32.wrap ((s31.1+((BitVec.ofInt 64 (nth s31.2 i_32))+(BitVec.ofInt 64 (nth v_ i_32)))).toNat:Int)))))
      (fun (s31:BitVec 64×List Int)=>
       k28 (s31.1,s31.2)) (v_.length - 0) 0 (0#64,(s15.2.2.set v_.length (IntKind.u32.wrap ((((BitVec.ofInt 64 (nth s15.2.2 v_.length)) - s15.2.1) - s15.1).toNat:Int)))))
     else
     k24 (q_1,(s15.2.2.set v_.length (IntKind.u32.wrap ((((BitVec.ofInt 64 (nth s15.2.2 v_.length)) - s15.2.1) - s15.1).toNat:Int)))))))
  (fun k15=>
   dG (fun (i_20:Nat) (next19:(BitVec 64×BitVec 64×List Int)→Option (Int×List Int)) (s19:BitVec 64×BitVec 64×List Int)=>
    dg (0≤(i_20:Int)∧(i_20:Int)<(s19.2.2.length:Int)) <|
    next19 (((((BitVec.ofInt 64 (nth s19.2.2 i_20)) - (BitVec.ofInt 64 (IntKind.u32.wrap ((s19.2.1+(q_1* (BitVec.ofInt 64 (nth v_ i_20)))).toNat:Int)))) - s19.1) >>> 63),((s19.2.1+(q_1* (BitVec.ofInt 64 (nth v_ i_20)))) >>> 32),(s19.2.2.set i_20 (IntKind.u32.wrap ((((BitVec.ofInt 64 (nth s19.2.2 i_20)) - (BitVec.ofInt 64 (IntKind.u32.wrap ((s19.2.1+(q_1* (BitVec.ofInt 64 (nth v_ i_20)))).toNat:Int)))) - s19.1).toNat:Int)))))
   (fun (s19:BitVec 64×BitVec 64×List Int)=>
    k15 (s19.1,s19.2.1,s19.2.2)) (v_.length - 0) 0 (0#64,0#64,l0_)))
 (fun k2=>
  eR (fun (next5:(BitVec 64×BitVec 64)→Option (Int×List Int)) (s5:BitVec 64×BitVec 64)=>
   dJ (fun (x_7:Bool)=>
    (bif x_7 then
     (bif decide (((4294967296#64).toNat:Int)≤((s5.2+(BitVec.ofInt 64 (nth v_ (((v_.length:Int) - 1).toNat)))).toNat:Int)) then
      k2 (s5.1 - (1#64))
      else
      next5 ((s5.1 - (1#64)),(s5.2+(BitVec.ofInt 64 (nth v_ (((v_.length:Int) - 1).toNat))))))
     else
     k2 s5.1))
   (fun k8=>
    (bif decide (((4294967296#64).toNat:Int)≤(s5.1.toNat:Int)) then
     k8 true
     else
     dg (0≤((v_.length:Int) - 2)∧((v_.length:Int) - 2)<(v_.length:Int)) <|
     k8 (decide ((((s5.2 <<< 32) ||| (BitVec.ofInt 64 (nth l0_ (((v_.length:Int) - 2).toNat)))).toNat:Int)<((s5.1* (BitVec.ofInt 64 (nth v_ (((v_.length:Int) - 2).toNat)))).toNat:Int)))))) fuel (((((BitVec.ofInt 64 (nth l0_ v_.length)) <<< 32) ||| (BitVec.ofInt 64 (nth l0_ (((v_.length:Int) - 1).toNat)))) / (BitVec.ofInt 64 (nth v_ (((v_.length:Int) - 1).toNat)))),((((BitVec.ofInt 64 (nth l0_ v_.length)) <<< 32) ||| (BitVec.ofInt 64 (nth l0_ (((v_.length:Int) - 1).toNat)))) % (BitVec.ofInt 64 (nth v_ (((v_.length:Int) - 1).toNat))))))
theorem zeI (F0:Frz)(w:World)(hF0:F0.At w)(l0_:List Int)(v0_:Value)(g0_:Nat)(pre0_ post0_:List Value)(v_:List Int)(vv_:Value)(hv_:SlC F0 vv_ 1 (v_.map (eK .u32)))(hO:Hp w (dA [.wn v0_ 175 1 l0_.length (l0_.flatMap (eK .u32)) g0_ pre0_ post0_]) [.wn v0_ 175 1 l0_.length (l0_.flatMap (eK .u32)) g0_ pre0_ post0_] w)(hA:∀g,dA [.wn v0_ 175 1 l0_.length (l0_.flatMap (eK .u32)) g0_ pre0_ post0_] g→¬F0.S g)(fuel:Nat)(r:Int×List Int)(hr:zbd fuel l0_ v_=some r):Calls Tryz.prog 232 #[v0_,vv_] w fun e w'=>∃(y:Unit),(True)∧e= .returned (.int .u32 r.1)∧FxM F0 w (dA [.wn v0_ 175 1 l0_.length (l0_.flatMap (eK .u32)) g0_ pre0_ post0_]) F0 [.wn v0_ 175 1 r.2.length (r.2.flatMap (eK .u32)) g0_ pre0_ post0_] w':=by
 have hk:=hr;unfold zbd at hk;haveI:=hv_.oneC;haveI:=zjC (hO.own (.wn v0_ 175 1 l0_.length (l0_.flatMap (eK .u32)) g0_ pre0_ post0_) a9);have hmx0_:=zjw (hO.own (.wn v0_ 175 1 l0_.length (l0_.flatMap (eK .u32)) g0_ pre0_ post0_) a9);obtain ⟨S0,F1,rfl,hS0,hp0⟩:=fO hF0 hO hA;refine dL (hs:=[.wn v0_ 175 1 l0_.length (l0_.flatMap (eK .u32)) g0_ pre0_ post0_, .fr F1]) Tryz.func232 rfl rfl rfl hp0 ?_;refine eZ ?_;refine iv ?_;refine cN (dh rfl rfl hv_ (List.length_map _)) ?_;have hm17:v_.length≤9223372036854775807:=(List.length_map _)▸hv_.max;refine fK ?_;have hq:(0≤((v_.length:Int) - 1)∧((v_.length:Int) - 1)<(v_.length:Int))∧_:=dq hk;clear hk;obtain ⟨g21,hk⟩:=hq; (try dsimp only at hk);refine eE ?_;refine iH ?_;refine cN (de (i:=((v_.length:Int) - 1).toNat) rfl rfl rfl hv_ (List.length_map _) a4 a4) ?_;refine cN (dB 1 (i:=((v_.length:Int) - 1).toNat) (j:=0) rfl rfl rfl hv_ a4) ?_;refine cN (eb (z:=(nth v_ (((v_.length:Int) - 1).toNat)))) ?_;refine fK ?_;have hq:(0≤(v_.length:Int)∧(v_.length:Int)<(l0_.length:Int))∧_:=dq hk;clear hk;obtain ⟨g26,hk⟩:=hq; (try dsimp only at hk);refine q2v ?_;refine fh ?_;refine cQ rfl (gp 0 (i:=v_.length) rfl rfl rfl rfl rfl a4) ?_;refine cQ rfl (iQ 0 rfl rfl rfl a4 (gv (enc:=(eK .u32)) (i:=v_.length) (j:=0) (fun _=>rfl) a4 a5)) ?_;refine cQ rfl (eb (z:=(nth l0_ v_.length))) ?_;refine cQ rfl (gU (a:=(BitVec.ofInt 64 (nth l0_ v_.length))) 32 rfl rfl rfl (show (32:Int)=((32:Nat):Int) from rfl) a4) ?_;refine fh ?_;refine cQ rfl (jz rfl rfl rfl a4) ?_;refine cQ rfl (gp 0 (i:=((v_.length:Int) - 1).toNat) rfl rfl rfl rfl a4 a4) ?_;refine cQ rfl (iQ 0 rfl rfl rfl a4 (gv (enc:=(eK .u32)) (i:=((v_.length:Int) - 1).toNat) (j:=0) (fun _=>rfl) a4 a5)) ?_;refine cQ rfl (eb (z:=(nth l0_ (((v_.length:Int) - 1).toNat)))) ?_;refine cQ rfl (jt) ?_;refine ie ?_;refine K.seq (T.seq ?_);have hq:(¬(BitVec.ofInt 64 (nth v_ (((v_.length:Int) - 1).toNat)))=0#64)∧_:=dq hk;clear hk;obtain ⟨g39,hk⟩:=hq; (try dsimp only at hk);refine eE ?_;refine cN (Yv.cq (a:=(((BitVec.ofInt 64 (nth l0_ v_.length)) <<< 32) ||| (BitVec.ofInt 64 (nth l0_ (((v_.length:Int) - 1).toNat))))) (b:=(BitVec.ofInt 64 (nth v_ (((v_.length:Int) - 1).toNat)))) rfl rfl rfl g39) ?_;refine fK ?_;have hq:(¬(BitVec.ofInt 64 (nth v_ (((v_.length:Int) - 1).toNat)))=0#64)∧_:=dq hk;clear hk;obtain ⟨g42,hk⟩:=hq; (try dsimp only at hk);refine eE ?_;refine cN (Yv.cp (a:=(((BitVec.ofInt 64 (nth l0_ v_.length)) <<< 32) ||| (BitVec.ofInt 64 (nth l0_ (((v_.length:Int) - 1).toNat))))) (b:=(BitVec.ofInt 64 (nth v_ (((v_.length:Int) - 1).toNat)))) rfl rfl rfl g42) ?_;refine fK ?_;have hq:=dW hk;clear hk;obtain ⟨k2,hk2,hk⟩:=hq; (try dsimp only at hk);refine cZ (ι:=BitVec 64) (fun z=>[(0,v0_),(1,vv_),(5, .int .i64 (v_.length:Int)),(8,U z)]) (fun z=>[.wn v0_ 175 1 l0_.length (l0_.flatMap (eK .u32)) g0_ pre0_ post0_, .fr F1]) (fun z=>k2 z=some r) ?_ ?_
 ·have hq:=jC hk;clear hk;obtain ⟨f5,hf5,hk⟩:=hq;refine eC ?_;refine T.loop (ι:=Nat×BitVec 64×BitVec 64) (fun z=>[(0,v0_),(1,vv_),(5, .int .i64 (v_.length:Int)),(6,U (BitVec.ofInt 64 (nth v_ (((v_.length:Int) - 1).toNat)))),(8,U z.2.1),(9,U z.2.2)]) (fun z=>[.wn v0_ 175 1 l0_.length (l0_.flatMap (eK .u32)) g0_ pre0_ post0_, .fr F1]) (fun z=>eR f5 z.1 (z.2.1,z.2.2)=some r) (fun z=>z.1) (fuel,((((BitVec.ofInt 64 (nth l0_ v_.length)) <<< 32) ||| (BitVec.ofInt 64 (nth l0_ (((v_.length:Int) - 1).toNat)))) / (BitVec.ofInt 64 (nth v_ (((v_.length:Int) - 1).toNat)))),((((BitVec.ofInt 64 (nth l0_ v_.length)) <<< 32) ||| (BitVec.ofInt 64 (nth l0_ (((v_.length:Int) - 1).toNat)))) % (BitVec.ofInt 64 (nth v_ (((v_.length:Int) - 1).toNat))))) ?_ ?_ ?_ ?_
  ·exact hk
  ·exact kz
  ·exact eA
  ·rintro ⟨m_6,q_3,r_4⟩ hk; (try dsimp only at *);have hq:=jG hk;clear hk;obtain ⟨m_6',rfl,hk⟩:=hq;generalize hn5:eR f5 m_6'=next5 at hk;rw [←hf5] at hk; (try dsimp only at hk);refine T.seq (T.seq ?_); (try dsimp only at hk);have hq:=dW hk;clear hk;obtain ⟨k8,hk8,hk⟩:=hq; (try dsimp only at hk);refine cZ (ι:=Bool) (fun z=>[(0,v0_),(1,vv_),(5, .int .i64 (v_.length:Int)),(6,U (BitVec.ofInt 64 (nth v_ (((v_.length:Int) - 1).toNat)))),(8,U q_3),(9,U r_4),(64, .bool z)]) (fun z=>[.wn v0_ 175 1 l0_.length (l0_.flatMap (eK .u32)) g0_ pre0_ post0_, .fr F1]) (fun z=>k8 z=some r) ?_ ?_
   ·refine dQ (sN 0 21 (.still 21 .done)) _ a6 (List.Sublist.refl _) ?_;refine gI ?_;refine gF rfl rfl rfl rfl (fun h9=>?_) (fun h9=>?_)
    ·replace hk:=dk hk h9;refine TS.run 19 rfl ?_;refine TS.done ?_;exact cV true hk (.c (.c (.c (.c (.c (.c (.c .nil))))))) (List.Sublist.refl _)
    ·replace hk:=dj hk h9;refine gI ?_;refine cQ rfl (jz rfl rfl rfl a4) ?_;have hq:(0≤((v_.length:Int) - 2)∧((v_.length:Int) - 2)<(v_.length:Int))∧_:=dq hk;clear hk;obtain ⟨g50,hk⟩:=hq;refine cQ rfl (de (i:=((v_.length:Int) - 2).toNat) rfl rfl rfl hv_ (List.length_map _) a4 a4) ?_;refine cQ rfl (dB 1 (i:=((v_.length:Int) - 2).toNat) (j:=0) rfl rfl rfl hv_ a4) ?_;refine cQ rfl (eb (z:=(nth v_ (((v_.length:Int) - 2).toNat)))) ?_;refine cQ rfl (Yv.cm rfl rfl rfl) ?_;refine fF ?_;refine cQ rfl (gU (a:=r_4) 32 rfl rfl rfl (show (32:Int)=((32:Nat):Int) from rfl) a4) ?_;refine fh ?_;refine cQ rfl (jz rfl rfl rfl a4) ?_;refine cQ rfl (gp 0 (i:=((v_.length:Int) - 2).toNat) rfl rfl rfl rfl a4 a4) ?_;refine cQ rfl (iQ 0 rfl rfl rfl a4 (gv (enc:=(eK .u32)) (i:=((v_.length:Int) - 2).toNat) (j:=0) (fun _=>rfl) a4 a5)) ?_;refine cQ rfl (eb (z:=(nth l0_ (((v_.length:Int) - 2).toNat)))) ?_;refine cQ rfl (jt) ?_;refine kG ?_;exact cV (decide ((((r_4 <<< 32) ||| (BitVec.ofInt 64 (nth l0_ (((v_.length:Int) - 2).toNat)))).toNat:Int)<((q_3* (BitVec.ofInt 64 (nth v_ (((v_.length:Int) - 2).toNat)))).toNat:Int))) hk (.c (.c (.c (.c (.c (.c (.c .nil))))))) (List.Sublist.refl _)
   ·rintro x_7 hk;rw [←hk8] at hk; (try dsimp only at hk);refine T.cond rfl (fun h10=>?_) (fun h10=>?_)
    ·replace hk:=dk hk h10;refine T.skip (K.seq (T.block (dN ?_)));refine dw ?_;refine cN (ij (a:=q_3) (b:=1#64)) ?_;refine dw ?_;refine ko ?_;refine cN (gq) ?_;refine dw ?_;refine ko ?_;refine c7 ?_;refine T.cond rfl (fun h11=>?_) (fun h11=>?_)
     ·replace hk:=dk hk h11;refine T.exit ?_;refine K.aZ rfl ?_;refine jm (lj ?_);exact cV (q_3 - (1#64)) hk (.c (.c (.c (.c .nil)))) (List.Sublist.refl _)
     ·replace hk:=dj hk h11;refine T.skip (eT ?_);rw [←hn5] at hk;exact K.next (m_6',(q_3 - (1#64)),(r_4+(BitVec.ofInt 64 (nth v_ (((v_.length:Int) - 1).toNat))))) hk a7 (.c (.c (.c (.c (.c (.c .nil)))))) (List.Sublist.refl _)
    ·replace hk:=dj hk h10;refine eF ?_;exact cV q_3 hk (.c (.c (.c (.c .nil)))) (List.Sublist.refl _)
 ·rintro q_1 hk;rw [←hk2] at hk; (try dsimp only at hk);refine gk ?_;refine it ?_;refine cN (dh rfl rfl hv_ (List.length_map _)) ?_;refine dZ ?_;have hq:=dW hk;clear hk;obtain ⟨k15,hk15,hk⟩:=hq; (try dsimp only at hk);refine cZ (ι:=BitVec 64×BitVec 64×List Int) (fun z=>[(0,v0_),(1,vv_),(5, .int .i64 (v_.length:Int)),(8,U q_1),(10,U z.1),(11,U z.2.1)]) (fun z=>[.wn v0_ 175 1 z.2.2.length (z.2.2.flatMap (eK .u32)) g0_ pre0_ post0_, .fr F1]) (fun z=>k15 (z.1,z.2.1,z.2.2)=some r) ?_ ?_
  ·have hq:=fx hk;clear hk;obtain ⟨f19,kk19,hf19,hkk19,hk⟩:=hq;refine eC ?_;refine T.loop (ι:=Nat×BitVec 64×BitVec 64×List Int) (fun z=>[(0,v0_),(1,vv_),(5, .int .i64 (v_.length:Int)),(8,U q_1),(10,U z.2.1),(11,U z.2.2.1),(73, .int .i64 (v_.length:Int)),(74, .int .i64 (z.1:Int))]) (fun z=>[.wn v0_ 175 1 z.2.2.2.length (z.2.2.2.flatMap (eK .u32)) g0_ pre0_ post0_, .fr F1]) (fun z=>dG f19 kk19 (v_.length - z.1) z.1 (z.2.1,z.2.2.1,z.2.2.2)=some r) (fun z=>v_.length - z.1) (0,0#64,0#64,l0_) ?_ ?_ ?_ ?_
   ·exact hk
   ·exact (.c (.c (.c (.c (.c (.c (.c (.c .nil))))))))
   ·exact eA
   ·rintro ⟨i_20,borrow_16,carry_17,l_18⟩ hk; (try dsimp only at *);refine eL ?_;refine T.cond rfl (fun h21=>?_) (fun h21=>?_)
    ·have p21:=of_decide_eq_true h21;rw [fv a4] at hk;generalize hn19:dG f19 kk19 (v_.length - (i_20+1)) (i_20+1)=next19 at hk;rw [←hf19] at hk; (try dsimp only at hk);refine ju ?_;refine eU ?_;refine jS ?_;refine cN (de (i:=i_20) rfl rfl rfl hv_ (List.length_map _) rfl a4) ?_;refine cN (dB 1 (i:=i_20) (j:=0) rfl rfl rfl hv_ a4) ?_;refine cN (eb (z:=(nth v_ i_20))) ?_;refine cN (Yv.cm rfl rfl rfl) ?_;refine cN (gq) ?_;refine fK ?_;have hq:(0≤(i_20:Int)∧(i_20:Int)<(l_18.length:Int))∧_:=dq hk;clear hk;obtain ⟨g88,hk⟩:=hq; (try dsimp only at hk);refine eE ?_;refine cN (gp 0 (i:=i_20) rfl rfl rfl rfl rfl a4) ?_;refine cN (iQ 0 rfl rfl rfl a4 (gv (enc:=(eK .u32)) (i:=i_20) (j:=0) (fun _=>rfl) a4 a5)) ?_;refine cN (eb (z:=(nth l_18 i_20))) ?_;refine dw ?_;refine cN (dO (z:=((carry_17+(q_1* (BitVec.ofInt 64 (nth v_ i_20)))).toNat:Int))) ?_;refine cN (eb (z:=(IntKind.u32.wrap ((carry_17+(q_1* (BitVec.ofInt 64 (nth v_ i_20)))).toNat:Int)))) ?_;refine cN (ij) ?_;refine q3c ?_;refine kv ?_;refine cN (dO (z:=((((BitVec.ofInt 64 (nth l_18 i_20)) - (BitVec.ofInt 64 (IntKind.u32.wrap ((carry_17+(q_1* (BitVec.ofInt 64 (nth v_ i_20)))).toNat:Int)))) - borrow_16).toNat:Int))) ?_;refine cN (gp 0 (i:=i_20) rfl rfl rfl rfl rfl a4) ?_;refine dE (jZ 0 (k':=(l_18.set i_20 (IntKind.u32.wrap ((((BitVec.ofInt 64 (nth l_18 i_20)) - (BitVec.ofInt 64 (IntKind.u32.wrap ((carry_17+(q_1* (BitVec.ofInt 64 (nth v_ i_20)))).toNat:Int)))) - borrow_16).toNat:Int))).length) (l':=(l_18.set i_20 (IntKind.u32.wrap ((((BitVec.ofInt 64 (nth l_18 i_20)) - (BitVec.ofInt 64 (IntKind.u32.wrap ((carry_17+(q_1* (BitVec.ofInt 64 (nth v_ i_20)))).toNat:Int)))) - borrow_16).toNat:Int))).flatMap (eK .u32)) rfl rfl rfl rfl a4 (gD (enc:=(eK .u32)) (xs:=l_18) (i:=i_20) (j:=0) (size:=1) (fun _=>rfl) a4 a5 a4) (gE (enc:=(eK .u32)) (xs:=l_18) (i:=i_20) (j:=0) (size:=1) (x:=(IntKind.u32.wrap ((((BitVec.ofInt 64 (nth l_18 i_20)) - (BitVec.ofInt 64 (IntKind.u32.wrap ((carry_17+(q_1* (BitVec.ofInt 64 (nth v_ i_20)))).toNat:Int)))) - borrow_16).toNat:Int))) (fun _=>rfl) a4 a5 a4 rfl) (List.length_set ..)) ?_;refine d6 ?_;refine iv ?_;refine cN (gl (a:=(((BitVec.ofInt 64 (nth l_18 i_20)) - (BitVec.ofInt 64 (IntKind.u32.wrap ((carry_17+(q_1* (BitVec.ofInt 64 (nth v_ i_20)))).toNat:Int)))) - borrow_16)) 63 rfl rfl rfl (show (63:Int)=((63:Nat):Int) from rfl) a4) ?_;refine dw ?_;refine q18 ?_;refine cN (gl (a:=(carry_17+(q_1* (BitVec.ofInt 64 (nth v_ i_20))))) 32 rfl rfl rfl (show (32:Int)=((32:Nat):Int) from rfl) a4) ?_;refine dw ?_;refine io ?_;rw [←hn19] at hk;exact K.next ((i_20+1),((((BitVec.ofInt 64 (nth l_18 i_20)) - (BitVec.ofInt 64 (IntKind.u32.wrap ((carry_17+(q_1* (BitVec.ofInt 64 (nth v_ i_20)))).toNat:Int)))) - borrow_16) >>> 63),((carry_17+(q_1* (BitVec.ofInt 64 (nth v_ i_20)))) >>> 32),(l_18.set i_20 (IntKind.u32.wrap ((((BitVec.ofInt 64 (nth l_18 i_20)) - (BitVec.ofInt 64 (IntKind.u32.wrap ((carry_17+(q_1* (BitVec.ofInt 64 (nth v_ i_20)))).toNat:Int)))) - borrow_16).toNat:Int)))) hk a7 (.c (.c (.c (.c (.c (.c (.c (.c .nil)))))))) (List.Sublist.refl _)
    ·have p21:=of_decide_eq_false h21;rw [fy a4,←hkk19] at hk; (try dsimp only at hk);refine eF ?_;exact cV (borrow_16,carry_17,l_18) hk (.c (.c (.c (.c (.c (.c .nil)))))) (List.Sublist.refl _)
  ·rintro ⟨borrow_12,carry_13,l_14⟩ hk; (try dsimp only at *);rw [←hk15] at hk; (try dsimp only at hk);refine T.seq ?_;have hq:(0≤(v_.length:Int)∧(v_.length:Int)<(l_14.length:Int))∧_:=dq hk;clear hk;obtain ⟨g109,hk⟩:=hq; (try dsimp only at hk);refine q2w ?_;refine cN (eb (z:=(nth l_14 v_.length))) ?_;refine q3c ?_;refine cN (ij) ?_;refine dw ?_;refine kv ?_;refine cN (dO (z:=((((BitVec.ofInt 64 (nth l_14 v_.length)) - carry_13) - borrow_12).toNat:Int))) ?_;refine cN (gp 0 (i:=v_.length) rfl rfl rfl rfl rfl a4) ?_;refine dE (jZ 0 (k':=(l_14.set v_.length (IntKind.u32.wrap ((((BitVec.ofInt 64 (nth l_14 v_.length)) - carry_13) - borrow_12).toNat:Int))).length) (l':=(l_14.set v_.length (IntKind.u32.wrap ((((BitVec.ofInt 64 (nth l_14 v_.length)) - carry_13) - borrow_12).toNat:Int))).flatMap (eK .u32)) rfl rfl rfl rfl a4 (gD (enc:=(eK .u32)) (xs:=l_14) (i:=v_.length) (j:=0) (size:=1) (fun _=>rfl) a4 a5 a4) (gE (enc:=(eK .u32)) (xs:=l_14) (i:=v_.length) (j:=0) (size:=1) (x:=(IntKind.u32.wrap ((((BitVec.ofInt 64 (nth l_14 v_.length)) - carry_13) - borrow_12).toNat:Int))) (fun _=>rfl) a4 a5 a4 rfl) (List.length_set ..)) ?_;refine d6 ?_;refine it ?_;refine cN (gl (a:=(((BitVec.ofInt 64 (nth l_14 v_.length)) - carry_13) - borrow_12)) 63 rfl rfl rfl (show (63:Int)=((63:Nat):Int) from rfl) a4) ?_;refine dZ ?_;have hq:=dW hk;clear hk;obtain ⟨k24,hk24,hk⟩:=hq; (try dsimp only at hk);refine cZ (ι:=BitVec 64×List Int) (fun z=>[(8,U z.1)]) (fun z=>[.wn v0_ 175 1 z.2.length (z.2.flatMap (eK .u32)) g0_ pre0_ post0_, .fr F1]) (fun z=>k24 (z.1,z.2)=some r) ?_ ?_
   ·refine T.cond rfl (fun h25=>?_) (fun h25=>?_)
    ·replace hk:=dk hk h25;refine eZ ?_;refine cN (ij (a:=q_1) (b:=1#64)) ?_;refine dw ?_;refine iv ?_;refine it ?_;refine cN (dh rfl rfl hv_ (List.length_map _)) ?_;refine dZ ?_;have hq:=dW hk;clear hk;obtain ⟨k28,hk28,hk⟩:=hq; (try dsimp only at hk);refine cZ (ι:=BitVec 64×List Int) (fun z=>[(0,v0_),(5, .int .i64 (v_.length:Int)),(8,U (q_1 - (1#64))),(11,U z.1)]) (fun z=>[.wn v0_ 175 1 z.2.length (z.2.flatMap (eK .u32)) g0_ pre0_ post0_, .fr F1]) (fun z=>k28 (z.1,z.2)=some r) ?_ ?_
     ·have hq:=fx hk;clear hk;obtain ⟨f31,kk31,hf31,hkk31,hk⟩:=hq;refine eC ?_;refine T.loop (ι:=Nat×BitVec 64×List Int) (fun z=>[(0,v0_),(1,vv_),(5, .int .i64 (v_.length:Int)),(8,U (q_1 - (1#64))),(11,U z.2.1),(127, .int .i64 (v_.length:Int)),(128, .int .i64 (z.1:Int))]) (fun z=>[.wn v0_ 175 1 z.2.2.length (z.2.2.flatMap (eK .u32)) g0_ pre0_ post0_, .fr F1]) (fun z=>dG f31 kk31 (v_.length - z.1) z.1 (z.2.1,z.2.2)=some r) (fun z=>v_.length - z.1) (0,0#64,(l_14.set v_.length (IntKind.u32.wrap ((((BitVec.ofInt 64 (nth l_14 v_.length)) - carry_13) - borrow_12).toNat:Int)))) ?_ ?_ ?_ ?_
      ·exact hk
      ·exact q34
      ·exact eA
      ·rintro ⟨i_32,carry_29,l_30⟩ hk; (try dsimp only at *);refine eL ?_;refine T.cond rfl (fun h33=>?_) (fun h33=>?_)
       ·have p33:=of_decide_eq_true h33;rw [fv a4] at hk;generalize hn31:dG f31 kk31 (v_.length - (i_32+1)) (i_32+1)=next31 at hk;rw [←hf31] at hk; (try dsimp only at hk);refine ju ?_;refine e6 ?_;have hq:(0≤(i_32:Int)∧(i_32:Int)<(l_30.length:Int))∧_:=dq hk;clear hk;obtain ⟨g134,hk⟩:=hq; (try dsimp only at hk);refine q2v ?_;refine gI ?_;refine cQ rfl (gp 0 (i:=i_32) rfl rfl rfl rfl rfl a4) ?_;refine cQ rfl (iQ 0 rfl rfl rfl a4 (gv (enc:=(eK .u32)) (i:=i_32) (j:=0) (fun _=>rfl) a4 a5)) ?_;refine cQ rfl (eb (z:=(nth l_30 i_32))) ?_;refine fh ?_;refine cQ rfl (de (i:=i_32) rfl rfl rfl hv_ (List.length_map _) rfl a4) ?_;refine cQ rfl (dB 1 (i:=i_32) (j:=0) rfl rfl rfl hv_ a4) ?_;refine cQ rfl (eb (z:=(nth v_ i_32))) ?_;refine cQ rfl (gq) ?_;refine cQ rfl (gq) ?_;refine ie ?_;refine K.seq (dN ?_);refine fu ?_;refine cN (dO (z:=((carry_29+((BitVec.ofInt 64 (nth l_30 i_32))+(BitVec.ofInt 64 (nth v_ i_32)))).toNat:Int))) ?_;refine cN (gp 0 (i:=i_32) rfl rfl rfl rfl rfl a4) ?_;refine dE (jZ 0 (k':=(l_30.set i_32 (IntKind.u32.wrap ((carry_29+((BitVec.ofInt 64 (nth l_30 i_32))+(BitVec.ofInt 64 (nth v_ i_32)))).toNat:Int))).length) (l':=(l_30.set i_32 (IntKind.u32.wrap ((carry_29+((BitVec.ofInt 64 (nth l_30 i_32))+(BitVec.ofInt 64 (nth v_ i_32)))).toNat:Int))).flatMap (eK .u32)) rfl rfl rfl rfl a4 (gD (enc:=(eK .u32)) (xs:=l_30) (i:=i_32) (j:=0) (size:=1) (fun _=>rfl) a4 a5 a4) (gE (enc:=(eK .u32)) (xs:=l_30) (i:=i_32) (j:=0) (size:=1) (x:=(IntKind.u32.wrap ((carry_29+((BitVec.ofInt 64 (nth l_30 i_32))+(BitVec.ofInt 64 (nth v_ i_32)))).toNat:Int))) (fun _=>rfl) a4 a5 a4 rfl) (List.length_set ..)) ?_;refine d6 ?_;refine q18 ?_;refine cN (gl (a:=(carry_29+((BitVec.ofInt 64 (nth l_30 i_32))+(BitVec.ofInt 64 (nth v_ i_32))))) 32 rfl rfl rfl (show (32:Int)=((32:Nat):Int) from rfl) a4) ?_;refine dw ?_;refine io ?_;rw [←hn31] at hk;exact K.next ((i_32+1),((carry_29+((BitVec.ofInt 64 (nth l_30 i_32))+(BitVec.ofInt 64 (nth v_ i_32)))) >>> 32),(l_30.set i_32 (IntKind.u32.wrap ((carry_29+((BitVec.ofInt 64 (nth l_30 i_32))+(BitVec.ofInt 64 (nth v_ i_32)))).toNat:Int)))) hk a7 (.c (.c (.c (.c (.c (.c (.c .nil))))))) (List.Sublist.refl _)
       ·have p33:=of_decide_eq_false h33;rw [fy a4,←hkk31] at hk; (try dsimp only at hk);refine eF ?_;exact cV (carry_29,l_30) hk (.c (.c (.c (.c .nil)))) (List.Sublist.refl _)
     ·rintro ⟨carry_26,l_27⟩ hk; (try dsimp only at *);rw [←hk28] at hk; (try dsimp only at hk);have hq:(0≤(v_.length:Int)∧(v_.length:Int)<(l_27.length:Int))∧_:=dq hk;clear hk;obtain ⟨g154,hk⟩:=hq; (try dsimp only at hk);refine q2w ?_;refine dw ?_;refine cN (dO (z:=(carry_26.toNat:Int))) ?_;refine cN (c8 (v:= .int .u32 (IntKind.u32.wrap ((nth l_27 v_.length)+(IntKind.u32.wrap (carry_26.toNat:Int)))))) ?_;refine cN (gp 0 (i:=v_.length) rfl rfl rfl rfl rfl a4) ?_;refine dE (jZ 0 (k':=(l_27.set v_.length (IntKind.u32.wrap ((nth l_27 v_.length)+(IntKind.u32.wrap (carry_26.toNat:Int))))).length) (l':=(l_27.set v_.length (IntKind.u32.wrap ((nth l_27 v_.length)+(IntKind.u32.wrap (carry_26.toNat:Int))))).flatMap (eK .u32)) rfl rfl rfl rfl a4 (gD (enc:=(eK .u32)) (xs:=l_27) (i:=v_.length) (j:=0) (size:=1) (fun _=>rfl) a4 a5 a4) (gE (enc:=(eK .u32)) (xs:=l_27) (i:=v_.length) (j:=0) (size:=1) (x:=(IntKind.u32.wrap ((nth l_27 v_.length)+(IntKind.u32.wrap (carry_26.toNat:Int))))) (fun _=>rfl) a4 a5 a4 rfl) (List.length_set ..)) ?_;refine d6 ?_;refine fw ?_;exact cV ((q_1 - (1#64)),(l_27.set v_.length (IntKind.u32.wrap ((nth l_27 v_.length)+(IntKind.u32.wrap (carry_26.toNat:Int)))))) hk (.c .nil) (List.Sublist.refl _)
    ·replace hk:=dj hk h25;refine T.skip ?_;exact cV (q_1,(l_14.set v_.length (IntKind.u32.wrap ((((BitVec.ofInt 64 (nth l_14 v_.length)) - carry_13) - borrow_12).toNat:Int)))) hk (.c .nil) (List.Sublist.refl _)
   ·rintro ⟨q_22,l_23⟩ hk; (try dsimp only at *);rw [←hk24] at hk; (try dsimp only at hk);refine eZ ?_;refine cN (dO (z:=(q_22.toNat:Int))) ?_;refine gP ?_;obtain rfl:=Option.some.inj hk;exact kK
theorem jc {E:Ent}{g:Nat}:dA [E] g↔E.fp g:=by unfold dA;simp
theorem zjx (k:IntKind)(l:List Int):l.flatMap (eK k)=l.map (fun z=>Value.int k z):=by
 induction l with
 |nil=>rfl
 |cons x l ih=>rw [List.flatMap_cons,ih];rfl
theorem kn {P : Program} {f : FuncId} {F0 : Frz} {w : World} {sv : Value} {e : TypeId} {k a m : Nat} {l : List Value} {vs : List Value} {ex : Ending} {l2 : List Value} {k2 : Nat}
    (hO : Hp w (dA [.sl sv e 1 k l]) [.sl sv e 1 k l] w) (hA : ∀ g, dA [.sl sv e 1 k l] g → ¬ F0.S g) (ham : a + m ≤ k) (hm : 0 < m)
    (C : ∀ g pre post, Hp w (dA [.wn (fC sv a (a + m) 1) e 1 m ((l.drop a).take m) g pre post]) [.wn (fC sv a (a + m) 1) e 1 m ((l.drop a).take m) g pre post] w → (∀ q, dA [.wn (fC sv a (a + m) 1) e 1 m ((l.drop a).take m) g pre post] q → ¬ F0.S q) → Calls P f (fC sv a (a + m) 1 :: vs).toArray w fun e' w' => ∃ (y : Unit), True ∧ e' = ex ∧ FxM F0 w (dA [.wn (fC sv a (a + m) 1) e 1 m ((l.drop a).take m) g pre post]) F0 [.wn (fC sv a (a + m) 1) e 1 k2 l2 g pre post] w')
    (l3 : List Value) (k3 : Nat) (hl : l3 = l.take a ++ l2 ++ l.drop (a + m)) (hk3 : k2 = m → k3 = k) :
    Calls P f (fC sv a (a + m) 1 :: vs).toArray w fun e' w' => e' = ex ∧ FxM F0 w (dA [.sl sv e 1 k l]) F0 [.sl sv e 1 k3 l3] w' := by
  subst hl; have hok := hO.own _ (List.mem_singleton.2 rfl); obtain ⟨g, pre, post, hfp, hwn, hback⟩ := zjr hok ham hm
  have hM : ∀ q, dA [.wn (fC sv a (a + m) 1) e 1 m ((l.drop a).take m) g pre post] q ↔ dA [.sl sv e 1 k l] q := fun q => by
    rw [jc, jc, fZ, hfp]
  have hMe := funext fun q => propext (hM q); have h1 := C g pre post ⟨rfl, rfl, rfl, Nat.le_refl _, fun _ _ _ => rfl, (fun e he => by rw [List.mem_singleton.1 he]; exact hwn), (fun e he q hq => .inl (zi7 he hq)), List.pairwise_singleton _ _⟩ (fun q hq => hA q ((hM q).1 hq)); refine h1.mono fun e' w' ⟨_, _, he, hx⟩ => ?_
  have hk : k2 = m := by
    obtain ⟨_, ⟨c1, e1, _⟩, _⟩ := en.1 hwn; obtain ⟨_, ⟨c2, e2, _⟩, _⟩ := en.1 (hx.hp.own _ (List.mem_singleton.2 rfl)); rw [e1] at e2; injection e2 with _ e3 _; exact e3.symm
  subst hk; have hk4 := hk3 rfl; subst hk4; refine ⟨he, hx.le, hx.at_, ?_, fun q hq => (hx.new q hq).imp_right (fun h => h.imp_left (hM q).1), fun e2 he2 q hq => ?_⟩
  · have h := hx.hp; refine ⟨h.os, h.tape, h.output, h.size, fun q hq hn => h.base q hq (fun c => hn ((hM q).1 c)), fun e2 he2 => ?_, fun e2 he2 q hq => ?_, List.pairwise_singleton _ _⟩
    · rw [List.mem_singleton.1 he2]; exact hback w' l2 (h.own _ (List.mem_singleton.2 rfl))
    · rw [List.mem_singleton.1 he2] at hq; exact .inl (jc.2 (dC.2 (dC.1 hq)))
  · rw [List.mem_singleton.1 he2] at hq; exact hA q (jc.2 (dC.2 (dC.1 hq)))
theorem zfN (F0 : Frz) (w : World) (hF0 : F0.At w) (us : List Int) (sv : Value) (hO : Hp w (dA [.sl sv 175 1 us.length (us.flatMap (eK .u32))]) [.sl sv 175 1 us.length (us.flatMap (eK .u32))] w) (hA : ∀ g, dA [.sl sv 175 1 us.length (us.flatMap (eK .u32))] g → ¬ F0.S g) (a hi m : Nat) (hh : hi = a + m) (ham : a + m ≤ us.length) (hm : 0 < m) (v : List Int) (vv : Value) (hv : SlC F0 vv 1 (v.map (eK .u32))) (fuel : Nat) (r : Int × List Int) (hr : zbd fuel ((us.drop a).take m) v = some r) :
    Calls Tryz.prog 232 #[fC sv a hi 1, vv] w fun e w' => ∃ (y : Unit), (True) ∧ e = .returned (.int .u32 r.1) ∧ FxM F0 w (dA [.sl sv 175 1 us.length (us.flatMap (eK .u32))]) F0 [.sl sv 175 1 (us.take a ++ r.2 ++ us.drop (a + m)).length ((us.take a ++ r.2 ++ us.drop (a + m)).flatMap (eK .u32))] w' := by
  subst hh; (have hml : m = ((us.drop a).take m).length := by rw [List.length_take, List.length_drop]; omega);refine Calls.mono (R := fun e w' => e = .returned (.int .u32 r.1) ∧ FxM F0 w (dA [.sl sv 175 1 us.length (us.flatMap (eK .u32))]) F0 [.sl sv 175 1 (us.take a ++ r.2 ++ us.drop (a + m)).length ((us.take a ++ r.2 ++ us.drop (a + m)).flatMap (eK .u32))] w') ?_ (fun e w' h => ⟨(), trivial, h⟩); refine kn (vs := [vv]) (k2 := r.2.length) (l2 := r.2.flatMap (eK .u32)) hO hA ham hm (fun g pre post h1 h2 => ?_) ((us.take a ++ r.2 ++ us.drop (a + m)).flatMap (eK .u32)) _ (by simp [zjx, List.map_take, List.map_drop]) (fun hk => by rw [List.length_append, List.length_append, List.length_take, List.length_drop]; omega); (have e1 : ((us.flatMap (eK .u32)).drop a).take m = ((us.drop a).take m).flatMap (eK .u32) := by simp [zjx, List.map_take, List.map_drop]); rw [e1] at h1 h2 ⊢; have := zeI F0 w hF0 ((us.drop a).take m) (fC sv a (a + m) 1) g pre post v vv hv (by rw [← hml]; exact h1) (by rw [← hml]; exact h2) fuel r hr; rw [← hml] at this; exact this
end Go.Proofs.YtmnjbhkcfghebaaGreatDoor
