/- Du Ye Mi By: shortened and put together by squeeze.py. -/
import Derived.Test.YtmnjbhkcfghebaaGreatDoorQ07
import Derived.Maps.RangeRun
import Derived.Lib.Bytealg
import Derived.Laws.Externs
set_option maxRecDepth 100000
set_option maxHeartbeats 4000000
set_option linter.unusedVariables false
set_option linter.unusedSectionVars false
set_option linter.unusedSimpArgs false
namespace Go.Proofs.YtmnjbhkcfghebaaGreatDoor
open Go.RowKit
abbrev eN (g:Nat)(x:GReader)(v:Value):Ent:= .row g 232 [.int .i64 x.fault.first, .bool x.made,v, .int .i64 x.at_]
abbrev eL (v:Value)(x:GReader):Ent:= .sl v 5 1 x.in_.length (x.in_.flatMap (eK .u8))
theorem ziK (g:Nat)(c:Bool)(w:World)(h:w.cell? ⟨g,1,none⟩=some (.bool c)):Calls Tryz.prog 187 #[.pointer (some ⟨g,0,none⟩)] w fun e w'=>e= .returned (.bool c)∧Below w.heap.size w w':=by
 refine dS (M:=fun _=>False) (hs:=[]) Tryz.func187 rfl rfl rfl (Hp.refl w _) ?_;refine ff ?_;refine dk (ι:=Unit) (fun z=>[(2, .bool c)]) (fun z=>[]) (fun z=>True) ?_ ?_
 ·refine eA ?_;refine cW (mG (e:=232) a9 rfl rfl rfl) ?_;refine gf ?_;refine fL ?_;refine cW (Yv.cA rfl rfl h (fun h=>h)) ?_;refine jh ?_;exact q4S
 ·refine mB ?_;exact eo
theorem zkK (g T':Nat)(k f:Int)(rc:List Value)(w:World)(h:(Ent.row g T' (.int .i64 f :: rc)).ok w):Calls Tryz.prog 180 #[.pointer (some ⟨g,0,none⟩), .int .i64 k] w fun e w'=>∃y:Unit,True∧e= .returned (.tuple #[])∧Hp w (Ent.row g T' (.int .i64 f :: rc)).fp [.row g T' (.int .i64 (if f=0 then k else f) :: rc)] w':=by
 refine dS (hs:=[.row g T' (.int .i64 f :: rc)]) Tryz.func180 rfl rfl rfl (mz h) ?_;refine gI ?_;refine ga ?_;refine d9 ?_;refine T.cond rfl (fun h1=>?_) (fun h1=>?_)
 ·have p1:=of_decide_eq_true h1;refine gQ ?_;refine fL ?_;refine q15 ?_;refine fH ?_;exact fA rfl (fun w' hw=>⟨(),trivial,rfl,by rw [if_pos p1];exact hw⟩)
 ·have p1:=of_decide_eq_false h1;refine T.skip ?_;exact fA rfl (fun w' hw=>⟨(),trivial,rfl,by rw [if_neg p1];exact hw⟩)
theorem Yv.ck {P:Program}{n:Nat}{B:World}{M:Nat→Prop}{fs:eB}{hs:HS}{o:Oper}{v:Value}{s t:TypeId}{x:Operand}(ho:o.op= .typeAssert x s t true)(hx:ev fs x=some (.iface t v))(ht:ziD P t=true):Yv P n B M fs hs o (.tuple #[v, .bool true]):=fun a w ha _=>by
 have h1:(Instr.typeAssert (.iface t v) s t true).run P w= .ok (.tuple #[v, .bool true]) w:=by
  unfold ziD at ht
  cases hU:P.underlying t with
  |none=>rw [hU] at ht;cases ht
  |some d=>
   rw [hU] at ht
   cases d <;> first|(cases ht;done)|simp [Instr.typeAssert,underlying,hU]
 unfold execOp;simp only [ho,ha.ev hx];rw [Sem.run_bind,h1];rfl
section
variable {B:World}{M:Nat→Prop}{rest:HS}
theorem zkP {gs gb:Nat}{w:World}{hs:HS}(hw:Hp B M hs w):CallsDIn Fence.wide 0 Tryz.prog 223 #[.pointer (some ⟨gs,0,none⟩), .pointer (some ⟨gb,0,none⟩)] .returning w (fun e u' w'=>e= .returned (.tuple #[])∧settle u'= .returning∧Hp B M hs w'):=by
 refine zho (hs:=hs) (args:=[.pointer (some ⟨gs,0,none⟩), .pointer (some ⟨gb,0,none⟩)]) (u':= .returning) (v:= .nilIface) Tryz.func223 rfl rfl rfl rfl ⟨_,rfl⟩ rfl rfl rfl rfl rfl rfl rfl (.inl ⟨rfl,rfl,rfl⟩) hw ?_;refine DT.seq (DT.seq (DT.region ?_));refine DL.run 1 rfl ?_;refine it (li (v:= .bool true) rfl rfl rfl (fun w=>by kernel_rfl)) ?_;refine DL.nil (DK.seq (DT.cond rfl (fun _=>DT.ret (fJ ⟨fun a w ha hw hm=>⟨.inr rfl,hm,rfl,rfl,hw⟩⟩)) (fun h=>by cases h)))
theorem zke {gs gb g:Nat}{w:World}{a0 a1 f k:Int}{m v:Value}(hw:Hp B M (.row gs 3 [.int .i64 a0] :: .row gb 150 [.pointer (some ⟨g,0,none⟩)] :: .row g 232 [.int .i64 f,m,v, .int .i64 a1] :: rest) w):
  CallsDIn Fence.wide 0 Tryz.prog 223 #[.pointer (some ⟨gs,0,none⟩), .pointer (some ⟨gb,0,none⟩)] (.panicking (dyE 38 k)) w (fun e u' w'=>e= .returned (.tuple #[])∧settle u'= .returning∧Hp B M (.row gs 3 [.int .i64 a0] :: .row gb 150 [.pointer (some ⟨g,0,none⟩)] :: .row g 232 [.int .i64 (if f=0 then k else f),m,v, .int .i64 a0] :: rest) w'):=by
 refine zho (hs:=_) (args:=[.pointer (some ⟨gs,0,none⟩), .pointer (some ⟨gb,0,none⟩)]) (u':= .panicking [{ v:= .iface 38 (.int .i64 k),recovered:=true }]) (v:= .iface 38 (.int .i64 k)) Tryz.func223 rfl rfl rfl rfl ⟨_,rfl⟩ rfl rfl rfl rfl rfl rfl rfl (.inr ⟨rfl,rfl⟩) hw ?_;refine DT.seq (DT.seq (DT.region ?_));refine DL.run 1 rfl ?_;refine it (li (v:= .bool false) rfl rfl rfl (fun w=>by kernel_rfl)) ?_;refine DL.nil (DK.seq (DT.cond rfl (fun h=>by cases h) (fun _=>DT.skip (DK.seq ?_))));refine DT.seq (DT.region ?_);refine it (dK 1) ?_;refine q2t ?_;refine DL.e0 (gi 2 rfl rfl rfl rfl b4) ?_;refine ez ?_;refine DL.nil (DK.seq (DT.seq (DT.region ?_)));refine DL.run 1 rfl ?_;refine it (Yv.ck rfl rfl a9) ?_;refine DL.run 5 rfl ?_;refine DL.nil (DK.seq (DT.seq (DT.region ?_)));refine DL.run 1 rfl ?_;refine DL.nil (DK.seq (DT.cond rfl (fun _=>DT.region ?_) (fun h=>by cases h)));refine it (dK 1) ?_;refine DL.run 1 rfl ?_;refine it (Yv.fieldAddr) ?_;refine DL.run 1 rfl ?_;refine DL.e (Ew.cC 2 rfl rfl rfl rfl (fun w hw=>zkK g 232 k f [m,v, .int .i64 a0] w (hw.get (i:=2) rfl))) ?_;rintro _ _ ⟨⟨⟩, -,rfl,rfl⟩;refine DL.nil ⟨fun a w ha hw hm=>⟨.inl rfl,hm,rfl,rfl,hw⟩⟩
end
theorem perm_bs {a b f:Ent}{bs:HS}:(a :: b :: (bs++[f])).Perm (bs++f :: [a,b]):=by
 have:=List.perm_append_comm (l₁:=[a,b]) (l₂:=bs++[f])
 rwa [List.append_assoc] at this
theorem zhQ {F0:Frz}{w:World}(hF0:F0.At w)(x:GReader)(g:Nat)(v:Value)(cb cb' res:HS)(f:FuncId)(caps:Array Value)[hE:Enters Tryz.prog f](ok:Bool)(na code:Int)
  (hO:Hp w (dB (eN g x v :: eL v x :: cb)) (eN g x v :: eL v x :: cb) w) (hA:∀g',dB (eN g x v :: eL v x :: cb) g'→¬F0.S g')
  (hC:∀w1,F0.At w1→Hp w1 (dB (eN g x v :: eL v x :: cb)) (eN g x v :: eL v x :: cb) w1→(∀g',dB (eN g x v :: eL v x :: cb) g'→¬F0.S g')→Calls Tryz.prog f caps w1 (fun e w'=>(ok=true→e= .returned (.tuple #[])∧FxM F0 w1 (dB (eN g x v :: eL v x :: cb)) F0 (eN g { x with at_:=na } v :: eL v x :: cb') w')∧(ok=false→∃a',e= .panicked (dyE 38 code)∧FxM F0 w1 (dB (eN g x v :: eL v x :: cb)) F0 (eN g { x with at_:=a' } v :: eL v x :: cb) w')))
  (hR:(bif x.made&&decide (x.fault.first=0) then (bif ok then eN g { x with at_:=na } v :: eL v x :: cb' else eN g { x with fault:=⟨code⟩ } v :: eL v x :: cb) else eN g x v :: eL v x :: cb)=res):
  Calls Tryz.prog 184 #[.pointer (some ⟨g,0,none⟩), .func (.func f) #[] caps] w (fun e w'=>e= .returned (.tuple #[])∧FxM F0 w (dB (eN g x v :: eL v x :: cb)) F0 res w'):=by
 subst hR;obtain ⟨S0,F1,rfl,hS0,hp0⟩:=fI hF0 hO hA;refine q2X ?_;rintro _ _ ⟨gb,rfl,rfl⟩;refine q2S ?_;refine DL.gs rfl rfl rfl (fun h1=>?_) (fun h1=>?_)
 ·refine DL.run 7 rfl ?_;refine DL.nil (DK.seq (DT.cond rfl (fun _=>DT.ret (fJ (iY rfl (fun w' hw=>⟨rfl,?_⟩)))) (fun h=>by cases h))); (have hm:x.made=false:=by simpa using h1);rw [show (x.made&&decide (x.fault.first=0))=false by rw [hm];rfl,cond_false];exact q4T
 ·(have hm:x.made=true:=by simpa using h1);refine q2t ?_;refine it (Yv.fieldAddr) ?_;refine it (dK 1) ?_;refine DL.run 2 rfl ?_;refine DL.nil (DK.seq (DT.cond rfl (fun h2=>DT.ret (fJ (iY rfl (fun w' hw=>⟨rfl,?_⟩)))) (fun h2=>DT.skip (DK.seq ?_))))
  ·have h3:¬x.fault.first=0:=of_decide_eq_true h2;rw [show (x.made&&decide (x.fault.first=0))=false by rw [hm,decide_eq_false h3];rfl,cond_false];exact q4T
  ·(have h3:x.fault.first=0:=by have:=of_decide_eq_false h2;simpa using this);rw [show (x.made&&decide (x.fault.first=0))=true by rw [hm,decide_eq_true h3];rfl,cond_true];refine DT.seq (DT.region ?_);refine q2t ?_;refine it (dK 1) ?_;refine DL.e (Ew.alloc rfl) ?_;rintro _ _ ⟨gs,rfl,rfl⟩;refine DL.e0 (gi 0 rfl rfl rfl rfl b4) ?_;refine ez ?_;refine DL.nil (DK.seq (DT.seq (DT.region ?_)));refine DL.run 1 rfl ?_;refine DL.defer rfl rfl ?_;refine DL.nil (DK.seq (DT.region ?_));refine DL.run 1 rfl ?_
   refine ml (vs:=[]) (φ1:=fun u hs'=>ok=true∧hs'= .row gs 3 [.int .i64 x.at_] :: .row gb 150 [.pointer (some ⟨g,0,none⟩)] :: ((eN g { x with at_:=na } v :: eL v x :: cb')++[.fr F1]))
    (φ2:=fun ch hs'=>ok=false∧∃a',ch=dyE 38 code∧hs'= .row gs 3 [.int .i64 x.at_] :: .row gb 150 [.pointer (some ⟨g,0,none⟩)] :: ((eN g { x with at_:=a' } v :: eL v x :: cb)++[.fr F1])) rfl rfl rfl (fun w1 hw1=>?_) ?_ ?_
   ·have hw2:=hw1.perm (perm_bs (bs:=eN g x v :: eL v x :: cb));have hF:F1.toFrz.At w1:=hw2.fr (i:=(eN g x v :: eL v x :: cb).length) b4;have hc:=hC w1 hF hw2.takes.1 hw2.takes.2
    have back:∀ {es:HS} {w':World},FxM F1.toFrz w1 (dB (eN g x v :: eL v x :: cb)) F1.toFrz es w'→Hp w (dB (eN g x v :: eL v x :: cb)) (.row gs 3 [.int .i64 x.at_] :: .row gb 150 [.pointer (some ⟨g,0,none⟩)] :: (es++[.fr F1])) w':=fun {es w'} hx=>
     (iN (es:=eN g x v :: eL v x :: cb) (es':=es) hw2 hx.hp.only (fun g _ ⟨e,he,hg⟩=>⟨e,he,hg⟩) hx.hp.own (fun e he g hg=>hx.hp.new e he g hg) hx.hp.apart).perm perm_bs.symm
    rw [show (#[]:Array Value).toList++[]++caps.toList=caps.toList from by simp,Array.toArray_toList];refine hc.mono ?_;rintro e w' ⟨c1,c2⟩
    cases hok:ok with
    |true=>obtain ⟨rfl,hx⟩:=c1 hok;exact .inl ⟨_,_,rfl,back hx,rfl,rfl⟩
    |false=>obtain ⟨a',rfl,hx⟩:=c2 hok;exact .inr ⟨_,_,rfl,back hx,rfl,a',rfl,rfl⟩
   ·rintro u hs' ⟨rfl,rfl⟩;rw [cond_true];refine DL.nil (DK.end1 (cap:= #[.pointer (some ⟨gs,0,none⟩), .pointer (some ⟨gb,0,none⟩)]) rfl (fun w' hw=>(zkP hw).mono ?_));rintro e u' w'' ⟨rfl,hs,hw'⟩;exact q5a
   ·rintro ch hs' ⟨rfl,a',rfl,rfl⟩;rw [cond_false];refine DK.die1 (cap:= #[.pointer (some ⟨gs,0,none⟩), .pointer (some ⟨gb,0,none⟩)]) rfl (fun w' hw=>(zke hw).mono ?_);rintro e u' w'' ⟨rfl,hs,hw'⟩;rw [if_pos h3] at hw';exact q5a
theorem zjs {F0:Frz}{w:World}(hF0:F0.At w)(x:GReader)(g:Nat)(v:Value)(cb:HS)(f:FuncId)(caps:Array Value)(hO:Hp w (dB (eN g x v :: eL v x :: cb)) (eN g x v :: eL v x :: cb) w)(hA:∀g',dB (eN g x v :: eL v x :: cb) g'→¬F0.S g')(hm0:(x.made&&decide (x.fault.first=0))=false):
  Calls Tryz.prog 184 #[.pointer (some ⟨g,0,none⟩), .func (.func f) #[] caps] w (fun e w'=>e= .returned (.tuple #[])∧FxM F0 w (dB (eN g x v :: eL v x :: cb)) F0 (eN g x v :: eL v x :: cb) w'):=by
 obtain ⟨S0,F1,rfl,hS0,hp0⟩:=fI hF0 hO hA;refine q2X ?_;rintro _ _ ⟨gb,rfl,rfl⟩;refine q2S ?_;refine DL.gs rfl rfl rfl (fun h1=>?_) (fun h1=>?_)
 ·refine DL.run 7 rfl ?_;refine DL.nil (DK.seq (DT.cond rfl (fun _=>DT.ret (fJ (iY rfl (fun w' hw=>⟨rfl,?_⟩)))) (fun h=>by cases h)));exact q4T
 ·(have hm:x.made=true:=by simpa using h1);refine q2t ?_;refine it (Yv.fieldAddr) ?_;refine it (dK 1) ?_;refine DL.run 2 rfl ?_;refine DL.nil (DK.seq (DT.cond rfl (fun h2=>DT.ret (fJ (iY rfl (fun w' hw=>⟨rfl,?_⟩)))) (fun h2=>?_)))
  ·exact q4T
  ·(have h3:x.fault.first=0:=by have:=of_decide_eq_false h2;simpa using this);rw [hm,h3] at hm0;cases hm0
theorem zjG {F0:Frz}{w:World}(hF0:F0.At w)(x:GReader)(g:Nat)(v:Value)(gb gn:Nat)(hO:Hp w (dB (eN g x v :: eL v x :: [.row gb 150 [.pointer (some ⟨g,0,none⟩)], .row gn 3 [.int .i64 0]])) (eN g x v :: eL v x :: [.row gb 150 [.pointer (some ⟨g,0,none⟩)], .row gn 3 [.int .i64 0]]) w)(hA:∀g',dB (eN g x v :: eL v x :: [.row gb 150 [.pointer (some ⟨g,0,none⟩)], .row gn 3 [.int .i64 0]]) g'→¬F0.S g')(r:Dy (BitVec 64×Int) (Int×Int))(hr:zaw x 9=some r):
  Calls Tryz.prog 188 #[.pointer (some ⟨gb,0,none⟩), .pointer (some ⟨gn,0,none⟩)] w (fun e w'=>(gY r=true→e= .returned (.tuple #[])∧FxM F0 w (dB (eN g x v :: eL v x :: [.row gb 150 [.pointer (some ⟨g,0,none⟩)], .row gn 3 [.int .i64 0]])) F0 (eN g { x with at_:=(eO r).2 } v :: eL v x :: [.row gb 150 [.pointer (some ⟨g,0,none⟩)], .row gn 3 [.int .i64 (wI (((eO r).1).toNat:Int))]]) w')∧(gY r=false→∃a',e= .panicked (dyE 38 (iF r).1)∧FxM F0 w (dB (eN g x v :: eL v x :: [.row gb 150 [.pointer (some ⟨g,0,none⟩)], .row gn 3 [.int .i64 0]])) F0 (eN g { x with at_:=a' } v :: eL v x :: [.row gb 150 [.pointer (some ⟨g,0,none⟩)], .row gn 3 [.int .i64 0]]) w')):=by
 obtain ⟨S0,F1,rfl,hS0,hp0⟩:=fI hF0 hO hA;refine zfe (hs:=(eN g x v :: eL v x :: [.row gb 150 [.pointer (some ⟨g,0,none⟩)], .row gn 3 [.int .i64 0]])++[.fr F1]) (args:=[.pointer (some ⟨gb,0,none⟩), .pointer (some ⟨gn,0,none⟩)]) Tryz.func188 rfl rfl rfl hp0 ?_;refine jv (gY r) (fun h=>?_) (fun h=>?_)
 ·refine fg ?_;refine lm ?_;refine dc (dD [0,1,4,2,3] [eN g x v,eL v x] [.row gb 150 [.pointer (some ⟨g,0,none⟩)], .row gn 3 [.int .i64 0]] rfl rfl rfl rfl a8 (fun w hw hw2 hF=>(zaV _ w hF x g v 9 hw2.takes.1 hw2.takes.2 r hr).mono (fun e w' hp=>hp.1 h))) ?_;rintro _ _ ⟨⟨⟩, -,rfl,rfl⟩;refine eS ?_;refine cW (dX (z:=(((eO r).1).toNat:Int))) ?_;refine dT (gi 4 rfl rfl rfl rfl b4) ?_;refine ez ?_;refine fH ?_;exact q5b
 ·refine fg ?_;refine lm ?_;refine jz [0,1,4,2,3] [eN g x v,eL v x] [.row gb 150 [.pointer (some ⟨g,0,none⟩)], .row gn 3 [.int .i64 0]] rfl rfl rfl rfl rfl a8 (fun w hw hw2 hF=>(zaV _ w hF x g v 9 hw2.takes.1 hw2.takes.2 r hr).mono (fun e w' hp=>hp.2 h)) ?_;rintro ⟨⟩ -;refine eS ?_;exact q5c
theorem zks {F0:Frz}{w:World}(hF0:F0.At w)(x:GReader)(g:Nat)(v:Value)(gb gn:Nat)(hO:Hp w (dB (eN g x v :: eL v x :: [.row gb 150 [.pointer (some ⟨g,0,none⟩)], .row gn 3 [.int .i64 0]])) (eN g x v :: eL v x :: [.row gb 150 [.pointer (some ⟨g,0,none⟩)], .row gn 3 [.int .i64 0]]) w)(hA:∀g',dB (eN g x v :: eL v x :: [.row gb 150 [.pointer (some ⟨g,0,none⟩)], .row gn 3 [.int .i64 0]]) g'→¬F0.S g')(r:Dy (Int×Int) (Int×Int))(hr:zaH x=some r):
  Calls Tryz.prog 190 #[.pointer (some ⟨gb,0,none⟩), .pointer (some ⟨gn,0,none⟩)] w (fun e w'=>(gY r=true→e= .returned (.tuple #[])∧FxM F0 w (dB (eN g x v :: eL v x :: [.row gb 150 [.pointer (some ⟨g,0,none⟩)], .row gn 3 [.int .i64 0]])) F0 (eN g { x with at_:=(eO r).2 } v :: eL v x :: [.row gb 150 [.pointer (some ⟨g,0,none⟩)], .row gn 3 [.int .i64 (eO r).1]]) w')∧(gY r=false→∃a',e= .panicked (dyE 38 (iF r).1)∧FxM F0 w (dB (eN g x v :: eL v x :: [.row gb 150 [.pointer (some ⟨g,0,none⟩)], .row gn 3 [.int .i64 0]])) F0 (eN g { x with at_:=a' } v :: eL v x :: [.row gb 150 [.pointer (some ⟨g,0,none⟩)], .row gn 3 [.int .i64 0]]) w')):=by
 obtain ⟨S0,F1,rfl,hS0,hp0⟩:=fI hF0 hO hA;refine zfe (hs:=(eN g x v :: eL v x :: [.row gb 150 [.pointer (some ⟨g,0,none⟩)], .row gn 3 [.int .i64 0]])++[.fr F1]) (args:=[.pointer (some ⟨gb,0,none⟩), .pointer (some ⟨gn,0,none⟩)]) Tryz.func190 rfl rfl rfl hp0 ?_;refine jv (gY r) (fun h=>?_) (fun h=>?_)
 ·refine fg ?_;refine lm ?_;refine dc (dD [0,1,4,2,3] [eN g x v,eL v x] [.row gb 150 [.pointer (some ⟨g,0,none⟩)], .row gn 3 [.int .i64 0]] rfl rfl rfl rfl a8 (fun w hw hw2 hF=>(zcJ _ w hF x g v hw2.takes.1 hw2.takes.2 r hr).mono (fun e w' hp=>hp.1 h))) ?_;rintro _ _ ⟨⟨⟩, -,rfl,rfl⟩;refine eS ?_;refine dT (gi 4 rfl rfl rfl rfl b4) ?_;refine ez ?_;refine fH ?_;exact q5b
 ·refine fg ?_;refine lm ?_;refine jz [0,1,4,2,3] [eN g x v,eL v x] [.row gb 150 [.pointer (some ⟨g,0,none⟩)], .row gn 3 [.int .i64 0]] rfl rfl rfl rfl rfl a8 (fun w hw hw2 hF=>(zcJ _ w hF x g v hw2.takes.1 hw2.takes.2 r hr).mono (fun e w' hp=>hp.2 h)) ?_;rintro ⟨⟩ -;refine eS ?_;exact q5c
theorem zjf {F0:Frz}{w:World}(hF0:F0.At w)(x:GReader)(g:Nat)(v:Value)(gb gl gn:Nat)(lim:Int)(hO:Hp w (dB (eN g x v :: eL v x :: [.row gb 150 [.pointer (some ⟨g,0,none⟩)], .row gl 3 [.int .i64 lim], .row gn 3 [.int .i64 0]])) (eN g x v :: eL v x :: [.row gb 150 [.pointer (some ⟨g,0,none⟩)], .row gl 3 [.int .i64 lim], .row gn 3 [.int .i64 0]]) w)(hA:∀g',dB (eN g x v :: eL v x :: [.row gb 150 [.pointer (some ⟨g,0,none⟩)], .row gl 3 [.int .i64 lim], .row gn 3 [.int .i64 0]]) g'→¬F0.S g')(r:Dy (Int×Int) (Int×Int))(hr:zaJ x lim=some r):
  Calls Tryz.prog 185 #[.pointer (some ⟨gb,0,none⟩), .pointer (some ⟨gl,0,none⟩), .pointer (some ⟨gn,0,none⟩)] w (fun e w'=>(gY r=true→e= .returned (.tuple #[])∧FxM F0 w (dB (eN g x v :: eL v x :: [.row gb 150 [.pointer (some ⟨g,0,none⟩)], .row gl 3 [.int .i64 lim], .row gn 3 [.int .i64 0]])) F0 (eN g { x with at_:=(eO r).2 } v :: eL v x :: [.row gb 150 [.pointer (some ⟨g,0,none⟩)], .row gl 3 [.int .i64 lim], .row gn 3 [.int .i64 (eO r).1]]) w')∧(gY r=false→∃a',e= .panicked (dyE 38 (iF r).1)∧FxM F0 w (dB (eN g x v :: eL v x :: [.row gb 150 [.pointer (some ⟨g,0,none⟩)], .row gl 3 [.int .i64 lim], .row gn 3 [.int .i64 0]])) F0 (eN g { x with at_:=a' } v :: eL v x :: [.row gb 150 [.pointer (some ⟨g,0,none⟩)], .row gl 3 [.int .i64 lim], .row gn 3 [.int .i64 0]]) w')):=by
 obtain ⟨S0,F1,rfl,hS0,hp0⟩:=fI hF0 hO hA;refine zfe (hs:=(eN g x v :: eL v x :: [.row gb 150 [.pointer (some ⟨g,0,none⟩)], .row gl 3 [.int .i64 lim], .row gn 3 [.int .i64 0]])++[.fr F1]) (args:=[.pointer (some ⟨gb,0,none⟩), .pointer (some ⟨gl,0,none⟩), .pointer (some ⟨gn,0,none⟩)]) Tryz.func185 rfl rfl rfl hp0 ?_;refine jv (gY r) (fun h=>?_) (fun h=>?_)
 ·refine fg ?_;refine lm ?_;refine cW (dK 3) ?_;refine dc (dD [0,1,5,2,3,4] [eN g x v,eL v x] [.row gb 150 [.pointer (some ⟨g,0,none⟩)], .row gl 3 [.int .i64 lim], .row gn 3 [.int .i64 0]] rfl rfl rfl rfl a8 (fun w hw hw2 hF=>(zcR _ w hF x g v lim hw2.takes.1 hw2.takes.2 r hr).mono (fun e w' hp=>hp.1 h))) ?_;rintro _ _ ⟨⟨⟩, -,rfl,rfl⟩;refine eS ?_;refine dT (gi 5 rfl rfl rfl rfl b4) ?_;refine ez ?_;refine fH ?_;exact K.cH (fA rfl (fun w' hw=>⟨fun _=>⟨rfl,dr (hw.pick (idx:=[0,1,3,4,5,2]) rfl a8) hS0 (Frz.Le.refl _)⟩,(fun h2=>by rw [h] at h2;cases h2)⟩))
 ·refine fg ?_;refine lm ?_;refine cW (dK 3) ?_;refine jz [0,1,5,2,3,4] [eN g x v,eL v x] [.row gb 150 [.pointer (some ⟨g,0,none⟩)], .row gl 3 [.int .i64 lim], .row gn 3 [.int .i64 0]] rfl rfl rfl rfl rfl a8 (fun w hw hw2 hF=>(zcR _ w hF x g v lim hw2.takes.1 hw2.takes.2 r hr).mono (fun e w' hp=>hp.2 h)) ?_;rintro ⟨⟩ -;refine eS ?_;exact K.bj (fun w' hw=>⟨(fun h2=>by rw [h] at h2;cases h2),fun _=>⟨(iF r).2,rfl,dr (hw.pick (idx:=[0,1,3,4,5,2]) rfl a8) hS0 (Frz.Le.refl _)⟩⟩)
def kz (x:GReader):Option (Int×(Int×Int)):=
 bif x.made&&decide (x.fault.first=0) then
 (zaw x 9).bind fun r=>bif gY r then some ((wI (((eO r).1).toNat:Int)),(x.fault.first,(eO r).2)) else some (0,((iF r).1,x.at_))
 else some (0,(x.fault.first,x.at_))
theorem zbB (F0:Frz)(w:World)(hF0:F0.At w)(x0_:GReader)(g0_:Nat)(v0_2:Value)(hO:Hp w (dB [.row g0_ 232 [.int .i64 x0_.fault.first, .bool x0_.made,v0_2, .int .i64 x0_.at_], .sl v0_2 5 1 x0_.in_.length (x0_.in_.flatMap (eK .u8))]) [.row g0_ 232 [.int .i64 x0_.fault.first, .bool x0_.made,v0_2, .int .i64 x0_.at_], .sl v0_2 5 1 x0_.in_.length (x0_.in_.flatMap (eK .u8))] w)(hA:∀g,dB [.row g0_ 232 [.int .i64 x0_.fault.first, .bool x0_.made,v0_2, .int .i64 x0_.at_], .sl v0_2 5 1 x0_.in_.length (x0_.in_.flatMap (eK .u8))] g→¬F0.S g)(r:Int×(Int×Int))(hr:kz x0_=some r):Calls Tryz.prog 105 #[.pointer (some ⟨g0_,0,none⟩)] w fun e w'=>∃(y:Unit),(True)∧e= .returned (.int .i64 r.1)∧FxM F0 w (dB [.row g0_ 232 [.int .i64 x0_.fault.first, .bool x0_.made,v0_2, .int .i64 x0_.at_], .sl v0_2 5 1 x0_.in_.length (x0_.in_.flatMap (eK .u8))]) F0 [.row g0_ 232 [.int .i64 r.2.1, .bool x0_.made,v0_2, .int .i64 r.2.2], .sl v0_2 5 1 x0_.in_.length (x0_.in_.flatMap (eK .u8))] w':=by
 haveI:=gK (hO.own (eL v0_2 x0_) b4);obtain ⟨S0,F1,rfl,hS0,hp0⟩:=fI hF0 hO hA;refine dS (hs:=[eN g0_ x0_ v0_2,eL v0_2 x0_, .fr F1]) (args:=[.pointer (some ⟨g0_,0,none⟩)]) Tryz.func105 rfl rfl rfl hp0 ?_;refine q34 ?_;rintro _ _ ⟨gb,rfl,rfl⟩;refine iC ?_;refine fG ?_;rintro _ _ ⟨gn,rfl,rfl⟩;refine q15 ?_;refine eG ?_;refine cW (dK 1) ?_;refine dJ ?_
 have key:∀w2,F1.toFrz.At w2→Hp w2 (dB (eN g0_ x0_ v0_2 :: eL v0_2 x0_ :: [.row gb 150 [.pointer (some ⟨g0_,0,none⟩)], .row gn 3 [.int .i64 0]])) (eN g0_ x0_ v0_2 :: eL v0_2 x0_ :: [.row gb 150 [.pointer (some ⟨g0_,0,none⟩)], .row gn 3 [.int .i64 0]]) w2→(∀g,dB (eN g0_ x0_ v0_2 :: eL v0_2 x0_ :: [.row gb 150 [.pointer (some ⟨g0_,0,none⟩)], .row gn 3 [.int .i64 0]]) g→¬F1.toFrz.S g)→Calls Tryz.prog 184 #[.pointer (some ⟨g0_,0,none⟩), .func (.func 188) #[] #[.pointer (some ⟨gb,0,none⟩), .pointer (some ⟨gn,0,none⟩)]] w2 (fun e w'=>∃(y:Unit),True∧e= .returned (.tuple #[])∧FxM F1.toFrz w2 (dB (eN g0_ x0_ v0_2 :: eL v0_2 x0_ :: [.row gb 150 [.pointer (some ⟨g0_,0,none⟩)], .row gn 3 [.int .i64 0]])) F1.toFrz (eN g0_ { x0_ with fault:=⟨r.2.1⟩,at_:=r.2.2 } v0_2 :: eL v0_2 x0_ :: [.row gb 150 [.pointer (some ⟨g0_,0,none⟩)], .row gn 3 [.int .i64 r.1]]) w'):=fun w2 h1 h2 h3=>by
  refine q1L ?_;unfold kz at hr
  cases hm:x0_.made&&decide (x0_.fault.first=0) with
  |false=>
   rw [hm,cond_false] at hr;obtain rfl:=Option.some.inj hr;refine zjs h1 x0_ g0_ v0_2 _ 188 #[.pointer (some ⟨gb,0,none⟩), .pointer (some ⟨gn,0,none⟩)] h2 h3 hm
  |true=>
   rw [hm,cond_true] at hr;obtain ⟨t,ht,hr⟩:=Option.bind_eq_some_iff.1 hr;refine zhQ h1 x0_ g0_ v0_2 _ ([.row gb 150 [.pointer (some ⟨g0_,0,none⟩)], .row gn 3 [.int .i64 (wI (((eO t).1).toNat:Int))]]) _ 188 #[.pointer (some ⟨gb,0,none⟩), .pointer (some ⟨gn,0,none⟩)] (gY t) (eO t).2 (iF t).1 h2 h3 (fun w1 c1 c2 c3=>zjG c1 x0_ g0_ v0_2 gb gn c2 c3 t ht) ?_;rw [hm,cond_true]
   cases hk:gY t with
   |true=>rw [hk,cond_true] at hr;obtain rfl:=Option.some.inj hr;rfl
   |false=>rw [hk,cond_false] at hr;obtain rfl:=Option.some.inj hr;rfl
 refine q2L ?_;rintro _ _ ⟨⟨⟩, -,rfl,rfl⟩;refine eS ?_;refine eG ?_;refine cW (dK 3) ?_;refine gJ ?_;exact q5d
def zaQ (x:GReader):Option (Int×(Int×Int)):=
 bif x.made&&decide (x.fault.first=0) then
 (zaH x).bind fun r=>bif gY r then some ((eO r).1,(x.fault.first,(eO r).2)) else some (0,((iF r).1,x.at_))
 else some (0,(x.fault.first,x.at_))
theorem zel (F0:Frz)(w:World)(hF0:F0.At w)(x0_:GReader)(g0_:Nat)(v0_2:Value)(hO:Hp w (dB [.row g0_ 232 [.int .i64 x0_.fault.first, .bool x0_.made,v0_2, .int .i64 x0_.at_], .sl v0_2 5 1 x0_.in_.length (x0_.in_.flatMap (eK .u8))]) [.row g0_ 232 [.int .i64 x0_.fault.first, .bool x0_.made,v0_2, .int .i64 x0_.at_], .sl v0_2 5 1 x0_.in_.length (x0_.in_.flatMap (eK .u8))] w)(hA:∀g,dB [.row g0_ 232 [.int .i64 x0_.fault.first, .bool x0_.made,v0_2, .int .i64 x0_.at_], .sl v0_2 5 1 x0_.in_.length (x0_.in_.flatMap (eK .u8))] g→¬F0.S g)(r:Int×(Int×Int))(hr:zaQ x0_=some r):Calls Tryz.prog 106 #[.pointer (some ⟨g0_,0,none⟩)] w fun e w'=>∃(y:Unit),(True)∧e= .returned (.int .i64 r.1)∧FxM F0 w (dB [.row g0_ 232 [.int .i64 x0_.fault.first, .bool x0_.made,v0_2, .int .i64 x0_.at_], .sl v0_2 5 1 x0_.in_.length (x0_.in_.flatMap (eK .u8))]) F0 [.row g0_ 232 [.int .i64 r.2.1, .bool x0_.made,v0_2, .int .i64 r.2.2], .sl v0_2 5 1 x0_.in_.length (x0_.in_.flatMap (eK .u8))] w':=by
 haveI:=gK (hO.own (eL v0_2 x0_) b4);obtain ⟨S0,F1,rfl,hS0,hp0⟩:=fI hF0 hO hA;refine dS (hs:=[eN g0_ x0_ v0_2,eL v0_2 x0_, .fr F1]) (args:=[.pointer (some ⟨g0_,0,none⟩)]) Tryz.func106 rfl rfl rfl hp0 ?_;refine q34 ?_;rintro _ _ ⟨gb,rfl,rfl⟩;refine iC ?_;refine fG ?_;rintro _ _ ⟨gn,rfl,rfl⟩;refine q15 ?_;refine eG ?_;refine cW (dK 1) ?_;refine dJ ?_
 have key:∀w2,F1.toFrz.At w2→Hp w2 (dB (eN g0_ x0_ v0_2 :: eL v0_2 x0_ :: [.row gb 150 [.pointer (some ⟨g0_,0,none⟩)], .row gn 3 [.int .i64 0]])) (eN g0_ x0_ v0_2 :: eL v0_2 x0_ :: [.row gb 150 [.pointer (some ⟨g0_,0,none⟩)], .row gn 3 [.int .i64 0]]) w2→(∀g,dB (eN g0_ x0_ v0_2 :: eL v0_2 x0_ :: [.row gb 150 [.pointer (some ⟨g0_,0,none⟩)], .row gn 3 [.int .i64 0]]) g→¬F1.toFrz.S g)→Calls Tryz.prog 184 #[.pointer (some ⟨g0_,0,none⟩), .func (.func 190) #[] #[.pointer (some ⟨gb,0,none⟩), .pointer (some ⟨gn,0,none⟩)]] w2 (fun e w'=>∃(y:Unit),True∧e= .returned (.tuple #[])∧FxM F1.toFrz w2 (dB (eN g0_ x0_ v0_2 :: eL v0_2 x0_ :: [.row gb 150 [.pointer (some ⟨g0_,0,none⟩)], .row gn 3 [.int .i64 0]])) F1.toFrz (eN g0_ { x0_ with fault:=⟨r.2.1⟩,at_:=r.2.2 } v0_2 :: eL v0_2 x0_ :: [.row gb 150 [.pointer (some ⟨g0_,0,none⟩)], .row gn 3 [.int .i64 r.1]]) w'):=fun w2 h1 h2 h3=>by
  refine q1L ?_;unfold zaQ at hr
  cases hm:x0_.made&&decide (x0_.fault.first=0) with
  |false=>
   rw [hm,cond_false] at hr;obtain rfl:=Option.some.inj hr;refine zjs h1 x0_ g0_ v0_2 _ 190 #[.pointer (some ⟨gb,0,none⟩), .pointer (some ⟨gn,0,none⟩)] h2 h3 hm
  |true=>
   rw [hm,cond_true] at hr;obtain ⟨t,ht,hr⟩:=Option.bind_eq_some_iff.1 hr;refine zhQ h1 x0_ g0_ v0_2 _ ([.row gb 150 [.pointer (some ⟨g0_,0,none⟩)], .row gn 3 [.int .i64 (eO t).1]]) _ 190 #[.pointer (some ⟨gb,0,none⟩), .pointer (some ⟨gn,0,none⟩)] (gY t) (eO t).2 (iF t).1 h2 h3 (fun w1 c1 c2 c3=>zks c1 x0_ g0_ v0_2 gb gn c2 c3 t ht) ?_;rw [hm,cond_true]
   cases hk:gY t with
   |true=>rw [hk,cond_true] at hr;obtain rfl:=Option.some.inj hr;rfl
   |false=>rw [hk,cond_false] at hr;obtain rfl:=Option.some.inj hr;rfl
 refine q2L ?_;rintro _ _ ⟨⟨⟩, -,rfl,rfl⟩;refine eS ?_;refine eG ?_;refine cW (dK 3) ?_;refine gJ ?_;exact q5d
def zaM (x:GReader)(limit:Int):Option (Int×(Int×Int)):=
 bif x.made&&decide (x.fault.first=0) then
 (zaJ x limit).bind fun r=>bif gY r then some ((eO r).1,(x.fault.first,(eO r).2)) else some (0,((iF r).1,x.at_))
 else some (0,(x.fault.first,x.at_))
theorem zd0 (F0:Frz)(w:World)(hF0:F0.At w)(x0_:GReader)(g0_:Nat)(v0_2:Value)(limit:Int)(hO:Hp w (dB [.row g0_ 232 [.int .i64 x0_.fault.first, .bool x0_.made,v0_2, .int .i64 x0_.at_], .sl v0_2 5 1 x0_.in_.length (x0_.in_.flatMap (eK .u8))]) [.row g0_ 232 [.int .i64 x0_.fault.first, .bool x0_.made,v0_2, .int .i64 x0_.at_], .sl v0_2 5 1 x0_.in_.length (x0_.in_.flatMap (eK .u8))] w)(hA:∀g,dB [.row g0_ 232 [.int .i64 x0_.fault.first, .bool x0_.made,v0_2, .int .i64 x0_.at_], .sl v0_2 5 1 x0_.in_.length (x0_.in_.flatMap (eK .u8))] g→¬F0.S g)(r:Int×(Int×Int))(hr:zaM x0_ limit=some r):Calls Tryz.prog 103 #[.pointer (some ⟨g0_,0,none⟩), .int .i64 limit] w fun e w'=>∃(y:Unit),(True)∧e= .returned (.int .i64 r.1)∧FxM F0 w (dB [.row g0_ 232 [.int .i64 x0_.fault.first, .bool x0_.made,v0_2, .int .i64 x0_.at_], .sl v0_2 5 1 x0_.in_.length (x0_.in_.flatMap (eK .u8))]) F0 [.row g0_ 232 [.int .i64 r.2.1, .bool x0_.made,v0_2, .int .i64 r.2.2], .sl v0_2 5 1 x0_.in_.length (x0_.in_.flatMap (eK .u8))] w':=by
 haveI:=gK (hO.own (eL v0_2 x0_) b4);obtain ⟨S0,F1,rfl,hS0,hp0⟩:=fI hF0 hO hA;refine dS (hs:=[eN g0_ x0_ v0_2,eL v0_2 x0_, .fr F1]) (args:=[.pointer (some ⟨g0_,0,none⟩), .int .i64 limit]) Tryz.func103 rfl rfl rfl hp0 ?_;refine q34 ?_;rintro _ _ ⟨gb,rfl,rfl⟩;refine dc (Ew.box rfl rfl) ?_;rintro _ _ ⟨gl,rfl,rfl⟩;refine iC ?_;refine fG ?_;rintro _ _ ⟨gn,rfl,rfl⟩;refine q15 ?_;refine eG ?_;refine lm ?_;refine dJ ?_
 have key:∀w2,F1.toFrz.At w2→Hp w2 (dB (eN g0_ x0_ v0_2 :: eL v0_2 x0_ :: [.row gb 150 [.pointer (some ⟨g0_,0,none⟩)], .row gl 3 [.int .i64 limit], .row gn 3 [.int .i64 0]])) (eN g0_ x0_ v0_2 :: eL v0_2 x0_ :: [.row gb 150 [.pointer (some ⟨g0_,0,none⟩)], .row gl 3 [.int .i64 limit], .row gn 3 [.int .i64 0]]) w2→(∀g,dB (eN g0_ x0_ v0_2 :: eL v0_2 x0_ :: [.row gb 150 [.pointer (some ⟨g0_,0,none⟩)], .row gl 3 [.int .i64 limit], .row gn 3 [.int .i64 0]]) g→¬F1.toFrz.S g)→Calls Tryz.prog 184 #[.pointer (some ⟨g0_,0,none⟩), .func (.func 185) #[] #[.pointer (some ⟨gb,0,none⟩), .pointer (some ⟨gl,0,none⟩), .pointer (some ⟨gn,0,none⟩)]] w2 (fun e w'=>∃(y:Unit),True∧e= .returned (.tuple #[])∧FxM F1.toFrz w2 (dB (eN g0_ x0_ v0_2 :: eL v0_2 x0_ :: [.row gb 150 [.pointer (some ⟨g0_,0,none⟩)], .row gl 3 [.int .i64 limit], .row gn 3 [.int .i64 0]])) F1.toFrz (eN g0_ { x0_ with fault:=⟨r.2.1⟩,at_:=r.2.2 } v0_2 :: eL v0_2 x0_ :: [.row gb 150 [.pointer (some ⟨g0_,0,none⟩)], .row gl 3 [.int .i64 limit], .row gn 3 [.int .i64 r.1]]) w'):=fun w2 h1 h2 h3=>by
  refine Calls.mono (R:=fun e w'=>e= .returned (.tuple #[])∧FxM F1.toFrz w2 (dB (eN g0_ x0_ v0_2 :: eL v0_2 x0_ :: [.row gb 150 [.pointer (some ⟨g0_,0,none⟩)], .row gl 3 [.int .i64 limit], .row gn 3 [.int .i64 0]])) F1.toFrz (eN g0_ { x0_ with fault:=⟨r.2.1⟩,at_:=r.2.2 } v0_2 :: eL v0_2 x0_ :: [.row gb 150 [.pointer (some ⟨g0_,0,none⟩)], .row gl 3 [.int .i64 limit], .row gn 3 [.int .i64 r.1]]) w') ?_ (fun e w' hp=>⟨(),trivial,hp.1,hp.2⟩);unfold zaM at hr
  cases hm:x0_.made&&decide (x0_.fault.first=0) with
  |false=>
   rw [hm,cond_false] at hr;obtain rfl:=Option.some.inj hr;refine zjs h1 x0_ g0_ v0_2 _ 185 #[.pointer (some ⟨gb,0,none⟩), .pointer (some ⟨gl,0,none⟩), .pointer (some ⟨gn,0,none⟩)] h2 h3 hm
  |true=>
   rw [hm,cond_true] at hr;obtain ⟨t,ht,hr⟩:=Option.bind_eq_some_iff.1 hr;refine zhQ h1 x0_ g0_ v0_2 _ ([.row gb 150 [.pointer (some ⟨g0_,0,none⟩)], .row gl 3 [.int .i64 limit], .row gn 3 [.int .i64 (eO t).1]]) _ 185 #[.pointer (some ⟨gb,0,none⟩), .pointer (some ⟨gl,0,none⟩), .pointer (some ⟨gn,0,none⟩)] (gY t) (eO t).2 (iF t).1 h2 h3 (fun w1 c1 c2 c3=>zjf c1 x0_ g0_ v0_2 gb gl gn limit c2 c3 t ht) ?_;rw [hm,cond_true]
   cases hk:gY t with
   |true=>rw [hk,cond_true] at hr;obtain rfl:=Option.some.inj hr;rfl
   |false=>rw [hk,cond_false] at hr;obtain rfl:=Option.some.inj hr;rfl
 refine dc (dD [3,4,2,1,0,5] (eN g0_ x0_ v0_2 :: eL v0_2 x0_ :: [.row gb 150 [.pointer (some ⟨g0_,0,none⟩)], .row gl 3 [.int .i64 limit], .row gn 3 [.int .i64 0]]) [] rfl rfl rfl rfl a8 (fun w hw hw2 hF=>key w hF hw2.takes.1 hw2.takes.2)) ?_;rintro _ _ ⟨⟨⟩, -,rfl,rfl⟩;refine eS ?_;refine eG ?_;refine cW (dK 4) ?_;refine gJ ?_;exact eZ rfl rfl (fun w' hw=>⟨(),trivial,rfl,dr (hw.pick (idx:=[0,1,5]) rfl a8) hS0 (Frz.Le.refl _)⟩)
theorem zkx {F:Frz}{g n:Nat}{x:Vec n Int}{k:IntKind}(h:F.S g∧Cs F.w g 0 (x.1.map (Value.int k)))(hn:n≤9223372036854775807:=by decide):SlC F (.slice (some ⟨g,0,none⟩) n n) 1 (x.1.map (eK k)):=by
 have h1:=SlK.lit (k:=n) (c:=n) (size:=1) h (by rw [List.length_map,x.2,Nat.mul_one]) (Nat.le_refl _) hn;exact h1.toC (by rw [zfH]) (by rw [List.length_map,x.2]) (fun c hc=>by obtain ⟨_,_,rfl⟩:=List.mem_map.1 hc;rfl)
section
variable {P:Program}{n:Nat}{B D:World}{M:Nat→Prop}{fs:eB}{hs:HS}{o:Oper}{v:Value}
theorem K.cI (i j:Nat){fn:Func}{R:Ending→World→Prop}{t u t2 u2:TypeId}{s g k s2 g2 k2:Nat}{l l2:List Value}[hT:TyA P t k][hT2:TyA P t2 k2](hr:fn.results= #[.cell s t, .cell s2 t2])(hv:eQ fs s=some (.pointer (some ⟨g,0,none⟩)))(hv2:eQ fs s2=some (.pointer (some ⟨g2,0,none⟩)))(hi:hs[i]?=some (.row g u l))(hj:hs[j]?=some (.row g2 u2 l2))(hl:l.length=k)(hl2:l2.length=k2)(h:∀w,Hp B M hs w→R (.returned (.tuple #[.agg l.toArray, .agg l2.toArray])) w):K n B D M (kh P fn R) .ret fs hs:=
 (j6 (fun a w ha hw=>by
  have h1:=zdU (P:=P) (t:=t) (dF.1 (hw.get hi)) hl;have h2:=zdU (P:=P) (t:=t2) (dF.1 (hw.get hj)) hl2
  simp [results,hr,ha.get s _ hv,ha.get s2 _ hv2,asAddr,h1,h2]) h).1
end
@[irreducible] def Ent.rowz (g:Nat) (t:TypeId) (l:List Value):Ent where
 fp:=(· =g)
 ok w:=∃fz,w.heap[g]?=some (.cells l.toArray t fz)
 loc h k:=by obtain ⟨fz,k⟩:=k;exact ⟨fz,(h g rfl).trans k⟩
 lt h k e:=by subst e;obtain ⟨fz,h⟩:=h;exact (Array.getElem?_eq_some_iff.1 h).1
 nd h k e c:=by subst e;obtain ⟨fz,h⟩:=h;rw [h];simp
theorem iK {g:Nat}{t:TypeId}{l:List Value}{k:Nat}:(Ent.rowz g t l).fp k↔k=g:=by unfold Ent.rowz;exact Iff.rfl
theorem gM {g:Nat}{t:TypeId}{l:List Value}{w:World}:(Ent.rowz g t l).ok w↔∃fz,w.heap[g]?=some (.cells l.toArray t fz):=by unfold Ent.rowz;exact Iff.rfl
theorem zjk {g:Nat}{t:TypeId}{l:List Value}{w:World}(h:(Ent.rowz g t l).ok w)(q:Nat):w.cell? ⟨g,q,none⟩=l[q]?:=by
 obtain ⟨fz,h⟩:=gM.1 h;unfold World.cell?;simp [h]
theorem Ew.bu {P:Program}{n':Nat}{B:World}{M S0:Nat→Prop}{fs:eB}{hs:HS}{o:Oper}(i j:Nat)(hij:i≠j){F:FzB B M S0}{t e:TypeId}{x:Operand}{g n:Nat}{l:List Value}{xs:List Int}(ht:P.underlying t=some (.slice e))(he:P.underlying e=some (.int .u8))(ho:o.op= .convert t t x)(hx:ev fs x=some (.slice (some ⟨g,0,none⟩) n n))(hi:hs[i]?=some (.fr F))(hj:hs[j]?=some (.row g e l))(hl:l=xs.map (Value.int .u8))(hn:l.length=n)(hm:n≤9223372036854775807):
  Ew P n' B M fs hs o (fun v hs'=>∃G:FzB B M S0,(F.toFrz.Le G.toFrz∧SlC G.toFrz (.slice (some ⟨g,0,none⟩) n n) 1 (xs.map (eK .u8)))∧v= .slice (some ⟨g,0,none⟩) n n∧hs'=(hs.set i (.fr G)).eraseIdx j):=fW fun a w ha hw=>by
 have hr:=dF.1 (hw.get hj);have hlt:=(Array.getElem?_eq_some_iff.1 hr).1
 have hsh:w.shape? g=some (e,n):=by
  unfold World.shape?;rw [hr];simp [hn]
 have hg:(w.freeze ⟨g,n,none⟩ 1).heap[g]?=some (.cells l.toArray e (n,n+1)):=by
  unfold World.freeze;rw [if_neg a8];simp [Array.getElem?_modify,hr]
 have hother:∀k,k≠g→(w.freeze ⟨g,n,none⟩ 1).heap[k]?=w.heap[k]?:=fun k hk=>by
  unfold World.freeze;rw [if_neg a8];simp [Array.getElem?_modify,Ne.symm hk]
 have hsize:(w.freeze ⟨g,n,none⟩ 1).heap.size=w.heap.size:=by
  unfold World.freeze;rw [if_neg a8];simp
 have hOnly:Only (· =g) w (w.freeze ⟨g,n,none⟩ 1):=⟨by unfold World.freeze;rw [if_neg a8],by unfold World.freeze;rw [if_neg a8],by unfold World.freeze;rw [if_neg a8],by rw [hsize];exact Nat.le_refl _,fun k _ hne=>hother k hne⟩;have h1:Hp B M (hs.set j (.rowz g e l)) (w.freeze ⟨g,n,none⟩ 1):=hw.updAt (S:=(· =g)) hj hOnly (fun k _ hk=>fu.2 hk) (gM.2 ⟨_,hg⟩) (fun k hk=> .inl (fu.2 (iK.1 hk)));have hjl:=(List.getElem?_eq_some_iff.1 hj).1; (have hi':(hs.set j (.rowz g e l))[i]?=some (.fr F):=by rw [List.getElem?_set_ne hij.symm];exact hi);have hj':(hs.set j (.rowz g e l))[j]?=some (.rowz g e l):=List.getElem?_set_self hjl;obtain ⟨G,k1,k2,k3,k4⟩:=h1.freezeB hij hi' hj' (g:=g) (iK.2 rfl) ⟨_,_,_,hg⟩;refine ⟨.slice (some ⟨g,0,none⟩) n n,w.freeze ⟨g,n,none⟩ 1,(hs.set i (.fr G)).eraseIdx j,?_,Kp.only hOnly (fun k hk c h=>by subst hk;rw [hr] at h;simp at h),?_,G,⟨k1,?_⟩,rfl,rfl⟩
 ·unfold execOp;simp [ho,ha.ev hx,convert,run_underlying ht,run_underlying he,markStringish,hsh]
 ·rw [List.set_comm _ _ hij.symm,List.eraseIdx_set_eq] at k4;exact k4
 ·have h2:SlK G.toFrz (.slice (some ⟨g,0,none⟩) n n) 1 n l:=SlK.lit ⟨k2,fun q hq=>by rw [k3,Nat.zero_add,zjk (gM.2 ⟨_,hg⟩)]⟩ a7 (Nat.le_refl _) hm;refine h2.toC ?_ ?_ ?_
  ·rw [hl,zfH]
  ·rw [←hn,hl,List.length_map,List.length_map]
  ·intro c hc;obtain ⟨_,_,rfl⟩:=List.mem_map.1 hc;rfl
def mC (l:List GBidder):Prop:=dA l.length 48∧∀x∈l,dA x.Blocks.length 8
instance (l:List GBidder):Decidable (mC l):=by unfold mC;infer_instance
theorem ziM {cl:List (List Value)}{j:Nat}(h:j<cl.length):nth (cl.map fun c=>nth c 3) j=nth (nth cl j) 3:=by
 rw [fK (by rw [List.length_map];exact h),List.getElem_map,fK h]
theorem zj2 {F:Frz}{v:Value}{cl:List (List Value)}{l:List GBidder}(h:SlD cX F v 4 cl l):gT l (cl.map fun c=>nth c 3)=cl∧∀j,j<l.length→SlC F (nth (cl.map fun c=>nth c 3) j) 1 ((nth l j).Blocks.map eI):=by
 have hl:=h.2.1;refine ⟨List.ext_getElem (by rw [mc,hl]) fun i h1 h2=>?_,fun j hj=>?_⟩
 ·(have hi:i<l.length:=by rw [mc] at h1;exact h1);have e1:=zeH (xs:=l) (vs:=cl.map fun c=>nth c 3) hi;rw [fK h1] at e1;rw [e1,ziM h2];have h3:=h.2.2 i hi;rw [fK h2] at h3 ⊢;obtain ⟨v0,h0,_⟩:=h3;rw [h0];rfl
 ·rw [ziM (by rw [hl];exact hj)];exact (fo (h.2.2 j hj)).2
def mg (ei:TypeId)(i:Nat)(xs:List GBidder)(vs:List Value):HS:=(List.range i).map fun i=> .sl (nth vs i) ei 1 (nth xs i).Blocks.length ((nth xs i).Blocks.flatMap eI)
theorem zjo {ei:TypeId}{i:Nat}{xs:List GBidder}{vs:List Value}{v:Value}(hi:i<vs.length):mg ei i xs vs++[.sl v ei 1 (nth xs i).Blocks.length ((nth xs i).Blocks.flatMap eI)]=mg ei (i+1) xs (vs.set i v):=by
 unfold mg;rw [List.range_succ,List.map_append,List.map_cons,List.map_nil,zeP hi,if_pos rfl];refine congrArg (· ++_) (List.map_congr_left fun j hj=>?_);have hj:=List.mem_range.1 hj;rw [zeP a7,if_neg a7]
theorem ziA {xs:List GBidder}{vs:List Value}{v:Value}{i:Nat}(hi:i<xs.length)(hv:i<vs.length):(gT xs vs).flatten.set (i*4+3) v=(gT xs (vs.set i v)).flatten:=by
 rw [zi2 (c:=kD (nth xs i) (nth vs i)) zfK (by rw [mc];exact hi) (by rw [zeH hi];rfl) a8];refine congrArg List.flatten (List.ext_getElem (by rw [List.length_set,mc,mc]) fun j h1 h2=>?_); (have hj:j<xs.length:=by rw [mc] at h2;exact h2);have e2:=zeH (xs:=xs) (vs:=vs.set i v) hj;rw [fK h2] at e2;rw [e2];rw [List.getElem_set];by_cases e:i=j
 ·subst e;rw [if_pos rfl,zeP hv,if_pos rfl];rfl
 ·have e3:=zeH (xs:=xs) (vs:=vs) hj;rw [fK (by rw [mc];exact hj)] at e3;rw [if_neg e,e3];unfold kD
  congr 4
  unfold nth;rw [List.getD_eq_getElem?_getD,List.getD_eq_getElem?_getD,List.getElem?_set_ne e]
theorem Hp.toBd {B w:World}{M:Nat→Prop}{x:Ent}{es rest:HS}(h:Hp B M (x :: .bag es :: rest) w):Hp B M (.bag (x :: es) :: rest) w:=by
 have hx:=h.own x b4;have hb:=ef.1 (h.own (.bag es) b4);have ha:=(List.pairwise_cons.1 h.apart).1 (.bag es) b4;refine gA (es:=[x, .bag es]) (es':=[.bag (x :: es)]) (rest:=rest) h (fun e he=>?_) (fun e he g hg=>?_) (List.pairwise_singleton _ _)
 ·rw [List.mem_singleton.1 he];refine ef.2 ⟨fun y hy=>?_,List.pairwise_cons.2 ⟨fun y hy g hg hyg=>ha g hg (d3.2 ⟨y,hy,hyg⟩),hb.2⟩⟩;rcases List.mem_cons.1 hy with rfl|hy
  ·exact hx
  ·exact hb.1 y hy
 ·rw [List.mem_singleton.1 he] at hg;obtain ⟨y,hy,hyg⟩:=d3.1 hg;rcases List.mem_cons.1 hy with rfl|hy
  ·exact ⟨y,by simp,hyg⟩
  ·exact ⟨.bag es,by simp,d3.2 ⟨y,hy,hyg⟩⟩
theorem zhC (F0:Frz)(w:World)(hF0:F0.At w)(l:List GBidder)(vl:Value)(cl:List (List Value))(hl:SlD cX F0 vl 4 cl l)(hr:mC l):Calls Tryz.prog 54 #[vl] w fun e w'=>∃y:Value×List Value,True∧e= .returned y.1∧Hp w (fun _=>False) [ep 57 3 y.1 y.2 l] w':=by
 obtain ⟨g6,g7⟩:=hr;haveI:=hl.1.oneC;obtain ⟨S0,F1,rfl,hS0,hp0⟩:=eC hF0;obtain ⟨hrow,hblk⟩:=zj2 hl;have hcl:=hl.2.1;generalize hus:(cl.map fun c=>nth c 3)=us at hrow hblk; (have hul:us.length=l.length:=by rw [←hus,List.length_map,hcl]);refine dS Tryz.func54 rfl rfl rfl hp0 ?_;refine jm ?_;refine dJ ?_;refine dc (jE rfl rfl rfl (fun w hw=>zeK _ w (hw.fr (i:=0) rfl) l vl cl hl g6)) ?_;rintro v6_ _ ⟨_,_,rfl,rfl⟩;refine kA ?_;intro iv6_ hmv6_;refine iR ?_;refine cW (gF 0 rfl rfl rfl) ?_;refine d9 ?_;refine dk (ι:=List Value) (fun us=>[(3,v6_)]) (fun us=>[.sl v6_ 57 4 l.length (gT l us).flatten, .bag (iu 3 l us), .fr F1]) (fun us=>True) ?_ ?_
 ·refine T.bag0 [] (fun _ _ h=>by cases h) (fun _ h=>by cases h) ?_;refine eW ?_;refine T.loop (ι:=Nat×List Value) (fun z=>[(3,v6_),(8, .int .i64 (l.length:Int)),(9, .int .i64 (z.1:Int))]) (fun z=>[.bag (mg 3 z.1 l z.2), .sl v6_ 57 4 l.length (gT l z.2).flatten, .fr F1]) (fun z=>z.1≤l.length∧z.2.length=l.length∧∀j,z.1≤j→j<l.length→SlC F1.toFrz (nth z.2 j) 1 ((nth l j).Blocks.map eI)) (fun z=>l.length - z.1) (0,us) ?_ ?_ ?_ ?_
  ·exact ⟨Nat.zero_le _,hul,fun j _ hj=>hblk j hj⟩
  ·exact lU
  ·dsimp only;rw [hrow];exact eT
  ·rintro ⟨i_5,us⟩ ⟨hle,hul,hb⟩;dsimp only at hle hul hb ⊢;refine ff ?_;refine T.cond rfl (fun h6=>?_) (fun h6=>?_)
   ·have p6:=of_decide_eq_true h6; (have hi:i_5<l.length:=by omega);have hd:=hb i_5 (Nat.le_refl _) hi; (have g19:dA (nth l i_5).Blocks.length 8:=by rw [fK hi];exact g7 _ (List.getElem_mem hi));haveI:=hd.oneC;refine iT ?_;refine ee ?_;refine dW (T.region ?_);refine ks ?_;refine cW (dV 1 (i:=i_5) rfl rfl rfl rfl rfl a7) ?_;refine cW (mb 1 rfl rfl rfl a7) ?_;refine cW (eM 1 rfl rfl rfl a7 (zht hi a8 rfl)) ?_;refine dc (jE rfl rfl rfl (fun w hw=>zfi _ w (hw.fr (i:=2) rfl) (nth l i_5).Blocks (nth us i_5) hd g19)) ?_;rintro v19 _ ⟨_,_,rfl,rfl⟩;refine kA ?_;intro iv19 hmv19;refine cW (dV 2 (i:=i_5) rfl rfl rfl rfl rfl a7) ?_;refine cW (mb 2 rfl rfl rfl a7) ?_;refine dT (eP 2 (k':=l.length) (l':=(gT l (us.set i_5 v19)).flatten) rfl rfl rfl rfl a7 (by rw [zjI];omega) (ziA hi a7) rfl) ?_;refine ez ?_;refine ib (ι:=Unit) (φ:=fun _=>True) (hs':=fun _=>[.bag (mg 3 (i_5+1) l (us.set i_5 v19)), .sl v6_ 57 4 l.length (gT l (us.set i_5 v19)).flatten, .fr F1]) (fun w hw=>⟨(),trivial,?_⟩) (fun _ _=>?_)
    ·rw [←zjo a7];exact hw.intoB (i:=0) rfl
    refine jk ?_;refine K.next (i_5+1,us.set i_5 v19) ⟨by dsimp only;omega,by rw [List.length_set];exact hul,fun j h1 h2=>?_⟩ b3 (.c (.c (.c .nil))) (List.Sublist.refl _);dsimp only at h1 ⊢;rw [zeP a7,if_neg a7];exact hb j a7 h2
   ·have p6:=of_decide_eq_false h6; (have hi:i_5=l.length:=by omega);refine fb ?_;subst hi;refine K.pick [1,0,2] rfl a8 ?_;exact de us trivial (.c .nil) (List.Sublist.refl _)
 ·rintro us _;refine lY ?_;exact eZ rfl rfl (fun w' hw=>⟨(v6_,us),trivial,rfl,hw.toBd.sub Sx⟩)
theorem ziE (F0:Frz)(w:World)(hF0:F0.At w)(l:List GBidder)(vl:Value)(cl:List (List Value))(hl:SlD cX F0 vl 4 cl l)(hr:mC l):Calls Tryz.prog 54 #[vl] w fun e w'=>∃(y:Value×List (List Value)) (G:Frz),SlD cX G y.1 4 y.2 l∧e= .returned y.1∧Fx F0 w G w':=by
 refine (zhC F0 w hF0 l vl cl hl hr).mono ?_;rintro e w' ⟨⟨v',us⟩,_,rfl,hw⟩;obtain ⟨G,h1,h2,h3⟩:=Fx.hp hF0 hw;have hok:=hw.own (ep 57 3 v' us l) b4;exact ⟨(v',gT l us),G,zhB hok h2 (fun g hg=>h3 _ b4 g hg (zj3 hok hg)),rfl,h1⟩
open Go.ChangeMaps (setBlock)
def km {α:Type}(f:Int→Option α)(k:Int)(v:α):Int→Option α:=fun j=>bif decide (j=k) then some v else f j
structure MapE {α:Type} (enc:α→Value) (es:Array MapEntry) (clock:Nat) (f:Int→Option α):Prop where
 st:MapKept.Stamped es clock
 ent:∀e∈es.toList,∃k v,e.key= .int .i64 k∧e.val=enc v∧f k=some v
 all:∀k v,f k=some v→∃e∈es.toList,e.key= .int .i64 k
section
variable {P:Program}{α:Type}{enc:α→Value}{es:Array MapEntry}{clock:Nat}{f:Int→Option α}{w:World}{g:Nat}{mt kt et:TypeId}{z:α}
theorem MapE.isKey (h:MapE enc es clock f):∀e∈es.toList,MapKept.IsKey (.int .i64) e.key:=fun e he=>by
 obtain ⟨k,v,h1,_⟩:=h.ent e he;rw [h1];rfl
theorem MapE.find (h:MapE enc es clock f)(k:Int):(Instr.findNow (.int .i64) (.int .i64 k) es.toList 0=some none∧f k=none∧∀e∈es.toList,e.key≠ .int .i64 k)∨∃j e v,Instr.findNow (.int .i64) (.int .i64 k) es.toList 0=some (some (j,enc v))∧es[j]?=some e∧e.key= .int .i64 k∧e.val=enc v∧f k=some v:=by
 rcases MapKept.findNow_spec (d:= .int .i64) (k:= .int .i64 k) rfl es.toList 0 h.isKey with ⟨h1,h2⟩|⟨j,e,h1,h2,h3⟩
 ·refine .inl ⟨h1,?_,h2⟩
  cases hf:f k with
  |none=>rfl
  |some v=>obtain ⟨e,he,hek⟩:=h.all k v hf;exact absurd hek (h2 e he)
 ·obtain ⟨k',v,h4,h5,h6⟩:=h.ent e (List.mem_of_getElem? h2);rw [h3] at h4; (obtain rfl:k=k':=by injection h4);exact .inr ⟨j,e,v,by rw [h1,Nat.zero_add,h5],by simpa using h2,h3,h5,h6⟩
class TyMi (P:Program) (mt:TypeId) (et:outParam TypeId) {α:outParam Type} (enc:outParam (α→Value)) (z:outParam α):Prop where
 h:∃kt,P.underlying mt=some (.map kt et)∧P.underlying kt=some (.int .i64)∧∀w,(zeroValue et).run P w= .ok (enc z) w
theorem zjy [hT:TyMi P mt et enc z](hb:w.heap[g]?=some (.map es clock))(h:MapE enc es clock f)(k:Int)(c:Bool):
  (Instr.lookup mt (.map (some g)) (.int .i64 k) c).run P w= .ok (if c then .tuple #[enc ((f k).getD z), .bool (f k).isSome] else enc ((f k).getD z)) w:=by
 obtain ⟨kt,hm,hd,hz⟩:=hT.h;have hk:∀b,(Instr.checkKey b 10000 kt (.int .i64 k)).run P w= .ok () w:=fun b=>MapKept.run_checkKey hd (d:= .int .i64) (k:= .int .i64 k) rfl b 9999;rcases h.find k with ⟨h1,h2,_⟩|⟨j,e,v,h1,_,_,_,h2⟩
 ·cases c <;> simp [Instr.lookup,run_underlying hm,MapKept.run_getObj_map hb,hk,MapKept.run_findKey hd h1,hz,h2,Result.andThen]
 ·cases c <;> simp [Instr.lookup,run_underlying hm,MapKept.run_getObj_map hb,hk,MapKept.run_findKey hd h1,h2,Result.andThen]
theorem zh6 (f:Int→Option α)(k:Int)(v:α):km f k v k=some v:=by simp [km]
theorem zfL (f:Int→Option α){k j:Int}(v:α)(h:j≠k):km f k v j=f j:=by simp [km,h]
theorem zjA [hT:TyMi P mt et enc z](hb:w.heap[g]?=some (.map es clock))(h:MapE enc es clock f)(k:Int)(v:α):
  ∃es' clock',(Instr.mapUpdate mt (.map (some g)) (.int .i64 k) (enc v)).run P w= .ok () { w with heap:=w.heap.setIfInBounds g (.map es' clock') }∧MapE enc es' clock' (km f k v):=by
 obtain ⟨kt,hm,hd,hz⟩:=hT.h;have hk:∀b,(Instr.checkKey b 10000 kt (.int .i64 k)).run P w= .ok () w:=fun b=>MapKept.run_checkKey hd (d:= .int .i64) (k:= .int .i64 k) rfl b 9999;rcases h.find k with ⟨h1,h2,h3⟩|⟨j,e,v0,h1,hj,h3,h4,h2⟩
 ·refine ⟨es.push { key:= .int .i64 k,val:=enc v,born:=clock },clock+1,?_,MapKept.stamped_push h.st h3,fun e he=>?_,fun j u hj=>?_⟩
  ·simp [Instr.mapUpdate,run_underlying hm,MapKept.run_getObj_map hb,hk,MapKept.run_findKey hd h1,MapKept.run_setObj_map _ hb,Result.andThen]
  ·rw [Array.toList_push] at he;rcases List.mem_append.1 he with he|he
   ·obtain ⟨i,u,h5,h6,h7⟩:=h.ent e he;exact ⟨i,u,h5,h6,by rw [zfL f v (fun q=>h3 e he (by rw [h5,q]))];exact h7⟩
   ·simp at he;subst he;exact ⟨k,v,rfl,rfl,zh6 f k v⟩
  ·rw [Array.toList_push];by_cases hjk:j=k
   ·exact ⟨_,List.mem_append.2 (.inr (List.mem_singleton.2 rfl)),by rw [hjk]⟩
   ·rw [zfL f v hjk] at hj;obtain ⟨e,he,hek⟩:=h.all j u hj;exact ⟨e,by simp [he],hek⟩
 ·have hget:∀i,(es.modify j fun e=>{ e with key:= .int .i64 k,val:=enc v }).toList[i]?=if j=i then es[i]?.map (fun e=>{ e with key:= .int .i64 k,val:=enc v }) else es[i]?:=fun i=>by
   rw [Array.getElem?_toList,Array.getElem?_modify]
  have hkeys:∀(a b:Nat) (e1 e2:MapEntry),es[a]?=some e1→es[b]?=some e2→e1.key=e2.key→a=b:=fun a b e1 e2 ha hb hab=>by
   have hn:=h.st.2.2; (have ha':(es.toList.map (·.key))[a]?=some e1.key:=by rw [List.getElem?_map,Array.getElem?_toList,ha];rfl); (have hb':(es.toList.map (·.key))[b]?=some e2.key:=by rw [List.getElem?_map,Array.getElem?_toList,hb];rfl);have la:=(List.getElem?_eq_some_iff.1 ha').1;exact (List.getElem?_inj la hn).1 (by rw [ha',hb',hab])
  refine ⟨es.modify j fun e=>{ e with key:= .int .i64 k,val:=enc v },clock,?_,MapKept.stamped_modify h.st j _ (fun _ _=>rfl) (fun e' _ he'=>by rw [hj] at he';cases he';exact h3.symm),fun e' he'=>?_,fun i u hi=>?_⟩
  ·simp [Instr.mapUpdate,run_underlying hm,MapKept.run_getObj_map hb,hk,MapKept.run_findKey hd h1,hj,h3,MapKept.run_keyThatStays (d:= .int .i64) (k:= .int .i64 k) rfl,MapKept.run_setObj_map _ hb,Result.andThen]
  ·obtain ⟨i,hi⟩:=List.mem_iff_getElem?.1 he';rw [hget] at hi
   split at hi
   ·rw [Option.map_eq_some_iff] at hi;obtain ⟨e0,_,rfl⟩:=hi;exact ⟨k,v,rfl,rfl,zh6 f k v⟩
   ·rename_i hne;obtain ⟨a,u,h5,h6,h7⟩:=h.ent e' (List.mem_of_getElem? (by rw [Array.getElem?_toList];exact hi));refine ⟨a,u,h5,h6,?_⟩;rw [zfL f v (fun q=>hne (hkeys j i e e' hj hi (by rw [h3,h5,q])))];exact h7
  ·by_cases hik:i=k
   ·exact ⟨{ e with key:= .int .i64 k,val:=enc v },List.mem_iff_getElem?.2 ⟨j,by rw [hget,if_pos rfl,hj];rfl⟩,by rw [hik]⟩
   ·rw [zfL f v hik] at hi;obtain ⟨e0,he0,hk0⟩:=h.all i u hi;obtain ⟨a,ha⟩:=List.mem_iff_getElem?.1 he0;by_cases hja:j=a
    ·subst hja;rw [Array.getElem?_toList,hj] at ha;obtain rfl:=Option.some.inj ha;rw [h3] at hk0;exact absurd (by injection hk0 with _ q;exact q.symm) hik
    ·exact ⟨e0,List.mem_iff_getElem?.2 ⟨a,by rw [hget,if_neg hja,←Array.getElem?_toList];exact ha⟩,hk0⟩
end
@[irreducible] def Ent.mi {α:Type} (enc:α→Value) (g:Nat) (f:Int→Option α):Ent where
 fp:=(· =g)
 ok w:=∃es clock,w.heap[g]?=some (.map es clock)∧MapE enc es clock f
 loc h k:=by obtain ⟨es,cl,h1,h2⟩:=k;exact ⟨es,cl,(h g rfl).trans h1,h2⟩
 lt h k e:=by obtain ⟨es,cl,h1,h2⟩:=h;subst e;exact (Array.getElem?_eq_some_iff.1 h1).1
 nd h k e c:=by obtain ⟨es,cl,h1,h2⟩:=h;subst e;rw [h1];simp
theorem gU {α:Type}{enc:α→Value}{g:Nat}{f:Int→Option α}{k:Nat}:(Ent.mi enc g f).fp k↔k=g:=by unfold Ent.mi;exact Iff.rfl
theorem gW {α:Type}{enc:α→Value}{g:Nat}{f:Int→Option α}{w:World}:(Ent.mi enc g f).ok w↔∃es clock,w.heap[g]?=some (.map es clock)∧MapE enc es clock f:=by unfold Ent.mi;exact Iff.rfl
section
variable {P:Program}{n:Nat}{B D:World}{M:Nat→Prop}{F:Fence}[hF:Calm F]{Q:Exit→Act→World→Prop}{fs:eB}{hs:HS}{ops:Array Oper}{rest:List Oper}{o:Oper}{α:Type}{enc:α→Value}{f:Int→Option α}{g r:Nat}{mt kt et:TypeId}{z:α}
theorem Ew.cs [hT:TyMi P mt et enc z]{x:Operand}{k:Int}(ho:o.op= .makeMap mt (some x))(hx:ev fs x=some (.int .i64 k)):Ew P n B M fs hs o (fun v hs'=>∃g,v= .map (some g)∧hs'= .mi enc g (fun _=>none) :: hs):=fW fun a w ha hp=>by
 obtain ⟨kt,hm,hd,hz⟩:=hT.h;refine ⟨_,w.alloc (.map #[] 0),_,?_,Kp.alloc w _,hp.fresh ((Below.refl _ _).alloc (Nat.le_refl _) _) (gW.2 ⟨#[],0,(MapKept.heap_alloc w _).1,MapKept.stamped_empty 0,fun e he=>by simp at he,fun c v hc=>by cases hc⟩) (fun g hg=>by rw [gU.1 hg];exact Nat.le_refl _),w.heap.size,rfl,rfl⟩;unfold execOp;have h1:(asIntOf (Value.int .i64 k)).run P w= .ok (.i64,k) w:=rfl;simp [ho,ha.ev hx,Instr.makeMap,run_underlying hm,asInt,h1,Result.andThen]
theorem Ew.cJ [hT:TyMi P mt et enc z](i:Nat){x y u:Operand}{k:Int}{v:α}{hs':HS}(ho:o.op= .mapUpdate mt x y u)(hx:ev fs x=some (.map (some g)))(hy:ev fs y=some (.int .i64 k))(hu:ev fs u=some (enc v))(hi:hs[i]?=some (.mi enc g f))[hH:SetAt hs i (.mi enc g (km f k v)) hs']:Ew P n B M fs hs o (fun v hs''=>v=undef∧hs''=hs'):=i0 fun a w ha hp=>by
 obtain ⟨es,clock,hb,hS⟩:=gW.1 (hp.get hi);obtain ⟨es',cl',h1,h2⟩:=zjA (P:=P) (mt:=mt) hb hS k v;have hlt:=(Array.getElem?_eq_some_iff.1 hb).1
 have hon:Only (· =g) w { w with heap:=w.heap.setIfInBounds g (.map es' cl') }:=⟨rfl,rfl,rfl,by simp,fun k hk hn=>by
  simp only [Array.getElem?_setIfInBounds]
  rw [if_neg (fun e=>hn e.symm)]⟩
 refine ⟨_,hs',?_,Kp.only hon (fun k e c=>by subst e;rw [hb];simp),?_,rfl,rfl⟩
 ·unfold execOp;simp [ho,ha.ev hx,ha.ev hy,ha.ev hu,h1,Result.andThen]
 ·rw [←hH.h];exact hp.updAt hi hon (fun k _ hk=>gU.2 hk) (gW.2 ⟨es',cl',by simp [hlt],h2⟩) (fun k hk=> .inl (gU.2 (gU.1 hk)))
theorem Yv.cK [hT:TyMi P mt et enc z](i:Nat){x y:Operand}{k:Int}(ho:o.op= .lookup mt x y false)(hx:ev fs x=some (.map (some g)))(hy:ev fs y=some (.int .i64 k))(hi:hs[i]?=some (.mi enc g f)):Yv P n B M fs hs o (enc ((f k).getD z)):=fun a w ha hp=>by
 obtain ⟨es,clock,hb,hS⟩:=gW.1 (hp.get hi);unfold execOp;simp [ho,ha.ev hx,ha.ev hy,zjy (P:=P) (mt:=mt) hb hS k false,Result.andThen]
theorem MapE.inj {es:Array MapEntry}{clock:Nat}(h:MapE enc es clock f){x y:MapEntry}(hx:x∈es.toList)(hy:y∈es.toList):(x.born=y.born↔x.key=y.key):=by
 obtain ⟨a,ha⟩:=List.mem_iff_getElem?.1 hx;obtain ⟨b,hb⟩:=List.mem_iff_getElem?.1 hy
 have key:∀ {β:Type} (q:MapEntry→β),(es.toList.map q).Nodup→q x=q y→a=b:=fun q hn hq=>by
  (have ha':(es.toList.map q)[a]?=some (q x):=by rw [List.getElem?_map,ha];rfl); (have hb':(es.toList.map q)[b]?=some (q y):=by rw [List.getElem?_map,hb];rfl);exact (List.getElem?_inj (List.getElem?_eq_some_iff.1 ha').1 hn).1 (by rw [ha',hb',hq])
 constructor
 ·intro q;have:=key (·.born) h.st.2.1 q;subst this;rw [ha] at hb;cases hb;rfl
 ·intro q;have:=key (·.key) h.st.2.2 q;subst this;rw [ha] at hb;cases hb;rfl
variable {left:Int→Bool}{cnt:Nat}{cur:Option Int}
end
section
variable {α:Type}{f f0:Int→Option α}{p left:Int→Bool}{k:Int}{u:α}
end
instance:TyMi Tryz.prog 217 4 Value.bool false:=⟨⟨3,by kernel_rfl,by kernel_rfl,fun w=>by kernel_rfl⟩⟩
instance:TyMi Tryz.prog 196 3 (Value.int .i64) 0:=⟨⟨3,by kernel_rfl,by kernel_rfl,fun w=>by kernel_rfl⟩⟩
theorem zic {P:Program}(w:World)(g:Nat):∀(xs:List Int) (off:Nat) (acc:ByteArray),(∀i,i<xs.length→w.cell? ⟨g,off+i,none⟩=some (.int .u8 (nth xs i)))→(Extern.Bytes.loadBytes ⟨g,off,none⟩ xs.length acc).run P w= .ok ⟨acc.data++(iG xs).toArray⟩ w
 | [],off,acc,_=>by simp [Extern.Bytes.loadBytes,iG]
 |x :: r,off,acc,h=>by
  have h0:=h 0 b4;have ih:=zic (P:=P) w g r (off+1) (acc.push x.toNat.toUInt8) (fun i hi=>by rw [Nat.add_assoc,Nat.add_comm 1 i];exact h (i+1) (by simpa using hi));rw [Nat.add_zero] at h0;simp [Extern.Bytes.loadBytes,h0,Addr.add,nth] at ih ⊢;rw [ih];simp [iG]
theorem zgV {P:Program}{w:World}{F:Frz}{v:Value}{xs:List Int}(hF:F.At w)(h:SlC F v 1 (xs.map (eK .u8))):(Extern.Bytes.bytesOf v).run P w= .ok ⟨(iG xs).toArray⟩ w:=by
 obtain ⟨A,cap,rfl,h2,h3,h4,h5⟩:=h
 cases xs with
 |nil=>
  cases A with
  |none=>rfl
  |some b=>obtain ⟨g,p,q⟩:=b;rfl
 |cons z r=>
  obtain ⟨g,off,rfl,hg,hc⟩:=h5 b4;have hl:(List.map (eK .u8) (z :: r)).length=(z :: r).length:=List.length_map _;rw [hl]
  have:=zic (P:=P) w g (z :: r) off .empty (fun i hi=>by
   have h6:=jw hF hg (hc i (by rw [hl];exact hi)) 0 (by rw [zfO hi];simp);rw [zfO hi] at h6;rw [show off+i=off+i*1+0 by omega,h6]
   rfl)
  simp only [Extern.Bytes.bytesOf];rw [this];simp
def zcB (a b:List Int):Int:=Lib.compareBytes (iG a) (iG b)
theorem zjZ {P:Program}{w:World}{F:Frz}{v u:Value}{xs ys:List Int}(hF:F.At w)(h:SlC F v 1 (xs.map (eK .u8)))(k:SlC F u 1 (ys.map (eK .u8))):(Extern.BytealgCompare.compare #[v,u]).run P w= .ok (.int .i64 (zcB xs ys)) w:=by
 change Sem.run P (do pure (goInt (Extern.BytealgCompare.cmp (← Extern.Bytes.bytesOf v) (← Extern.Bytes.bytesOf u)))) w=_;simp only [Sem.run_bind,Sem.run_pure,Result.andThen,zgV hF h,zgV hF k];rw [Lib.cmp_eq]
 rfl
theorem zha (F0:Frz)(w:World)(hF0:F0.At w)(a:List Int)(va:Value)(ha:SlC F0 va 1 (a.map (eK .u8)))(b:List Int)(vb:Value)(hb:SlC F0 vb 1 (b.map (eK .u8))):Calls Tryz.prog 148 #[va,vb] w fun e w'=>e= .returned (.int .i64 (zcB a b))∧Below w.heap.size w w':=by
 haveI:=ha.oneC;haveI:=hb.oneC;obtain ⟨S0,F1,rfl,hS0,hp0⟩:=eC hF0;refine dS Tryz.func148 rfl rfl rfl hp0 ?_;refine jm ?_;refine ee ?_;refine cW (v:= .int .i64 (zcB a b)) (fun f w ha' hw=>?_) ?_
 ·unfold execOp;have h1:=ha'.ev (x:= .tmp 5) rfl;have h2:=ha'.ev (x:= .tmp 6) rfl;simp only [Act.eval] at h1 h2;simp [resolve,invoke,Deferred.ofValue,Act.eval,h1,h2];rw [run_callFunc_extern (by rfl) a9 a9 a9 (e:=Extern.BytealgCompare.compare) a9,zjZ (hw.fr (i:=0) rfl) ha hb]
  rfl
 refine gJ ?_;exact eo
end Go.Proofs.YtmnjbhkcfghebaaGreatDoor
