/- Du Ye Mi By: shortened and put together by squeeze.py. -/
import Derived.Test.YtmnjbhkcfghebaaGreatDoorQ07
import Derived.Maps.RangeRun
import Derived.Lib.Bytealg
import Derived.Laws.Externs
set_option maxRecDepth 100000
set_option maxHeartbeats 4000000
set_option linter.unusedVariables false
set_option linter.unusedSectionVars false
set_option linter.unusedSimpArgs false
namespace Go.Proofs.YtmnjbhkcfghebaaGreatDoor
open Go.RowKit
abbrev eT (g:Nat)(x:GReader)(v:Value):Ent:= .row g 232 [.int .i64 x.fault.first, .bool x.made,v, .int .i64 x.at_]
abbrev eQ (v:Value)(x:GReader):Ent:= .sl v 5 1 x.in_.length (x.in_.flatMap (eK .u8))
theorem ziZ (g:Nat)(c:Bool)(w:World)(h:w.cell? ⟨g,1,none⟩=some (.bool c)):Calls Tryz.prog 187 #[.pointer (some ⟨g,0,none⟩)] w fun e w'=>e= .returned (.bool c)∧Below w.heap.size w w':=by
 refine dT (M:=fun _=>False) (hs:=[]) Tryz.func187 rfl rfl rfl (Hp.refl w _) ?_;refine ft ?_;refine dk (ι:=Unit) (fun z=>[(2, .bool c)]) (fun z=>[]) (fun z=>True) ?_ ?_
 ·refine eF ?_;refine cY (mg (e:=232) a8 rfl rfl rfl) ?_;refine fU ?_;refine fK ?_;refine cY (Yv.cD rfl rfl h (fun h=>h)) ?_;refine jh ?_;exact q4U
 ·refine mv ?_;exact eB
theorem zk3 (g T':Nat)(k f:Int)(rc:List Value)(w:World)(h:(Ent.row g T' (.int .i64 f :: rc)).ok w):Calls Tryz.prog 180 #[.pointer (some ⟨g,0,none⟩), .int .i64 k] w fun e w'=>∃y:Unit,True∧e= .returned (.tuple #[])∧Hp w (Ent.row g T' (.int .i64 f :: rc)).fp [.row g T' (.int .i64 (if f=0 then k else f) :: rc)] w':=by
 refine dT (hs:=[.row g T' (.int .i64 f :: rc)]) Tryz.func180 rfl rfl rfl (mo h) ?_;refine gS ?_;refine gh ?_;refine ez ?_;refine T.cond rfl (fun h1=>?_) (fun h1=>?_)
 ·have p1:=of_decide_eq_true h1;refine gR ?_;refine fK ?_;refine q1A ?_;refine fM ?_;exact fH rfl (fun w' hw=>⟨(),trivial,rfl,by rw [if_pos p1];exact hw⟩)
 ·have p1:=of_decide_eq_false h1;refine T.skip ?_;exact fH rfl (fun w' hw=>⟨(),trivial,rfl,by rw [if_neg p1];exact hw⟩)
theorem Yv.cq {P:Program}{n:Nat}{B:World}{M:Nat→Prop}{fs:eJ}{hs:HS}{o:Oper}{v:Value}{s t:TypeId}{x:Operand}(ho:o.op= .typeAssert x s t true)(hx:ev fs x=some (.iface t v))(ht:zi1 P t=true):Yv P n B M fs hs o (.tuple #[v, .bool true]):=fun a w ha _=>by
 have h1:(Instr.typeAssert (.iface t v) s t true).run P w= .ok (.tuple #[v, .bool true]) w:=by
  unfold zi1 at ht
  cases hU:P.underlying t with
  |none=>rw [hU] at ht;cases ht
  |some d=>
   rw [hU] at ht
   cases d <;> first|(cases ht;done)|simp [Instr.typeAssert,underlying,hU]
 unfold execOp;simp only [ho,ha.ev hx];rw [Sem.run_bind,h1];rfl
section
variable {B:World}{M:Nat→Prop}{rest:HS}
theorem zlc {gs gb:Nat}{w:World}{hs:HS}(hw:Hp B M hs w):CallsDIn Fence.wide 0 Tryz.prog 223 #[.pointer (some ⟨gs,0,none⟩), .pointer (some ⟨gb,0,none⟩)] .returning w (fun e u' w'=>e= .returned (.tuple #[])∧settle u'= .returning∧Hp B M hs w'):=by
 refine zhm (hs:=hs) (args:=[.pointer (some ⟨gs,0,none⟩), .pointer (some ⟨gb,0,none⟩)]) (u':= .returning) (v:= .nilIface) Tryz.func223 rfl rfl rfl rfl ⟨_,rfl⟩ rfl rfl rfl rfl rfl rfl rfl (.inl ⟨rfl,rfl,rfl⟩) hw ?_;refine DT.seq (DT.seq (DT.region ?_));refine DL.run 1 rfl ?_;refine iG (lB (v:= .bool true) rfl rfl rfl (fun w=>by kernel_rfl)) ?_;refine DL.nil (DK.seq (DT.cond rfl (fun _=>DT.ret (fP ⟨fun a w ha hw hm=>⟨.inr rfl,hm,rfl,rfl,hw⟩⟩)) (fun h=>by cases h)))
theorem zkn {gs gb g:Nat}{w:World}{a0 a1 f k:Int}{m v:Value}(hw:Hp B M (.row gs 3 [.int .i64 a0] :: .row gb 150 [.pointer (some ⟨g,0,none⟩)] :: .row g 232 [.int .i64 f,m,v, .int .i64 a1] :: rest) w):
  CallsDIn Fence.wide 0 Tryz.prog 223 #[.pointer (some ⟨gs,0,none⟩), .pointer (some ⟨gb,0,none⟩)] (.panicking (dyE 38 k)) w (fun e u' w'=>e= .returned (.tuple #[])∧settle u'= .returning∧Hp B M (.row gs 3 [.int .i64 a0] :: .row gb 150 [.pointer (some ⟨g,0,none⟩)] :: .row g 232 [.int .i64 (if f=0 then k else f),m,v, .int .i64 a0] :: rest) w'):=by
 refine zhm (hs:=_) (args:=[.pointer (some ⟨gs,0,none⟩), .pointer (some ⟨gb,0,none⟩)]) (u':= .panicking [{ v:= .iface 38 (.int .i64 k),recovered:=true }]) (v:= .iface 38 (.int .i64 k)) Tryz.func223 rfl rfl rfl rfl ⟨_,rfl⟩ rfl rfl rfl rfl rfl rfl rfl (.inr ⟨rfl,rfl⟩) hw ?_;refine DT.seq (DT.seq (DT.region ?_));refine DL.run 1 rfl ?_;refine iG (lB (v:= .bool false) rfl rfl rfl (fun w=>by kernel_rfl)) ?_;refine DL.nil (DK.seq (DT.cond rfl (fun h=>by cases h) (fun _=>DT.skip (DK.seq ?_))));refine DT.seq (DT.region ?_);refine iG (dM 1) ?_;refine q2r ?_;refine DL.e0 (gv 2 rfl rfl rfl rfl b3) ?_;refine eA ?_;refine DL.nil (DK.seq (DT.seq (DT.region ?_)));refine DL.run 1 rfl ?_;refine iG (Yv.cq rfl rfl a8) ?_;refine DL.run 5 rfl ?_;refine DL.nil (DK.seq (DT.seq (DT.region ?_)));refine DL.run 1 rfl ?_;refine DL.nil (DK.seq (DT.cond rfl (fun _=>DT.region ?_) (fun h=>by cases h)));refine iG (dM 1) ?_;refine DL.run 1 rfl ?_;refine iG (Yv.fieldAddr) ?_;refine DL.run 1 rfl ?_;refine DL.e (Ew.cF 2 rfl rfl rfl rfl (fun w hw=>zk3 g 232 k f [m,v, .int .i64 a0] w (hw.get (i:=2) rfl))) ?_;rintro _ _ ⟨⟨⟩, -,rfl,rfl⟩;refine DL.nil ⟨fun a w ha hw hm=>⟨.inl rfl,hm,rfl,rfl,hw⟩⟩
end
theorem perm_bs {a b f:Ent}{bs:HS}:(a :: b :: (bs++[f])).Perm (bs++f :: [a,b]):=by
 have:=List.perm_append_comm (l₁:=[a,b]) (l₂:=bs++[f])
 rwa [List.append_assoc] at this
theorem zhO {F0:Frz}{w:World}(hF0:F0.At w)(x:GReader)(g:Nat)(v:Value)(cb cb' res:HS)(f:FuncId)(caps:Array Value)[hE:Enters Tryz.prog f](ok:Bool)(na code:Int)
  (hO:Hp w (dD (eT g x v :: eQ v x :: cb)) (eT g x v :: eQ v x :: cb) w) (hA:∀g',dD (eT g x v :: eQ v x :: cb) g'→¬F0.S g')
  (hC:∀w1,F0.At w1→Hp w1 (dD (eT g x v :: eQ v x :: cb)) (eT g x v :: eQ v x :: cb) w1→(∀g',dD (eT g x v :: eQ v x :: cb) g'→¬F0.S g')→Calls Tryz.prog f caps w1 (fun e w'=>(ok=true→e= .returned (.tuple #[])∧FxM F0 w1 (dD (eT g x v :: eQ v x :: cb)) F0 (eT g { x with at_:=na } v :: eQ v x :: cb') w')∧(ok=false→∃a',e= .panicked (dyE 38 code)∧FxM F0 w1 (dD (eT g x v :: eQ v x :: cb)) F0 (eT g { x with at_:=a' } v :: eQ v x :: cb) w')))
  (hR:(bif x.made&&decide (x.fault.first=0) then (bif ok then eT g { x with at_:=na } v :: eQ v x :: cb' else eT g { x with fault:=⟨code⟩ } v :: eQ v x :: cb) else eT g x v :: eQ v x :: cb)=res):
  Calls Tryz.prog 184 #[.pointer (some ⟨g,0,none⟩), .func (.func f) #[] caps] w (fun e w'=>e= .returned (.tuple #[])∧FxM F0 w (dD (eT g x v :: eQ v x :: cb)) F0 res w'):=by
 subst hR;obtain ⟨S0,F1,rfl,hS0,hp0⟩:=fN hF0 hO hA;refine q22 ?_;rintro _ _ ⟨gb,rfl,rfl⟩;refine q2M ?_;refine DL.gs rfl rfl rfl (fun h1=>?_) (fun h1=>?_)
 ·refine DL.run 7 rfl ?_;refine DL.nil (DK.seq (DT.cond rfl (fun _=>DT.ret (fP (jg rfl (fun w' hw=>⟨rfl,?_⟩)))) (fun h=>by cases h))); (have hm:x.made=false:=by simpa using h1);rw [show (x.made&&decide (x.fault.first=0))=false by rw [hm];rfl,cond_false];exact q4V
 ·(have hm:x.made=true:=by simpa using h1);refine q2r ?_;refine iG (Yv.fieldAddr) ?_;refine iG (dM 1) ?_;refine DL.run 2 rfl ?_;refine DL.nil (DK.seq (DT.cond rfl (fun h2=>DT.ret (fP (jg rfl (fun w' hw=>⟨rfl,?_⟩)))) (fun h2=>DT.skip (DK.seq ?_))))
  ·have h3:¬x.fault.first=0:=of_decide_eq_true h2;rw [show (x.made&&decide (x.fault.first=0))=false by rw [hm,decide_eq_false h3];rfl,cond_false];exact q4V
  ·(have h3:x.fault.first=0:=by have:=of_decide_eq_false h2;simpa using this);rw [show (x.made&&decide (x.fault.first=0))=true by rw [hm,decide_eq_true h3];rfl,cond_true];refine DT.seq (DT.region ?_);refine q2r ?_;refine iG (dM 1) ?_;refine DL.e (Ew.alloc rfl) ?_;rintro _ _ ⟨gs,rfl,rfl⟩;refine DL.e0 (gv 0 rfl rfl rfl rfl b3) ?_;refine eA ?_;refine DL.nil (DK.seq (DT.seq (DT.region ?_)));refine DL.run 1 rfl ?_;refine DL.defer rfl rfl ?_;refine DL.nil (DK.seq (DT.region ?_));refine DL.run 1 rfl ?_
   refine mF (vs:=[]) (φ1:=fun u hs'=>ok=true∧hs'= .row gs 3 [.int .i64 x.at_] :: .row gb 150 [.pointer (some ⟨g,0,none⟩)] :: ((eT g { x with at_:=na } v :: eQ v x :: cb')++[.fr F1]))
    (φ2:=fun ch hs'=>ok=false∧∃a',ch=dyE 38 code∧hs'= .row gs 3 [.int .i64 x.at_] :: .row gb 150 [.pointer (some ⟨g,0,none⟩)] :: ((eT g { x with at_:=a' } v :: eQ v x :: cb)++[.fr F1])) rfl rfl rfl (fun w1 hw1=>?_) ?_ ?_
   ·have hw2:=hw1.perm (perm_bs (bs:=eT g x v :: eQ v x :: cb));have hF:F1.toFrz.At w1:=hw2.fr (i:=(eT g x v :: eQ v x :: cb).length) b3;have hc:=hC w1 hF hw2.takes.1 hw2.takes.2
    have back:∀ {es:HS} {w':World},FxM F1.toFrz w1 (dD (eT g x v :: eQ v x :: cb)) F1.toFrz es w'→Hp w (dD (eT g x v :: eQ v x :: cb)) (.row gs 3 [.int .i64 x.at_] :: .row gb 150 [.pointer (some ⟨g,0,none⟩)] :: (es++[.fr F1])) w':=fun {es w'} hx=>
     (iP (es:=eT g x v :: eQ v x :: cb) (es':=es) hw2 hx.hp.only (fun g _ ⟨e,he,hg⟩=>⟨e,he,hg⟩) hx.hp.own (fun e he g hg=>hx.hp.new e he g hg) hx.hp.apart).perm perm_bs.symm
    rw [show (#[]:Array Value).toList++[]++caps.toList=caps.toList from by simp,Array.toArray_toList];refine hc.mono ?_;rintro e w' ⟨c1,c2⟩
    cases hok:ok with
    |true=>obtain ⟨rfl,hx⟩:=c1 hok;exact .inl ⟨_,_,rfl,back hx,rfl,rfl⟩
    |false=>obtain ⟨a',rfl,hx⟩:=c2 hok;exact .inr ⟨_,_,rfl,back hx,rfl,a',rfl,rfl⟩
   ·rintro u hs' ⟨rfl,rfl⟩;rw [cond_true];refine DL.nil (DK.end1 (cap:= #[.pointer (some ⟨gs,0,none⟩), .pointer (some ⟨gb,0,none⟩)]) rfl (fun w' hw=>(zlc hw).mono ?_));rintro e u' w'' ⟨rfl,hs,hw'⟩;exact q5c
   ·rintro ch hs' ⟨rfl,a',rfl,rfl⟩;rw [cond_false];refine DK.die1 (cap:= #[.pointer (some ⟨gs,0,none⟩), .pointer (some ⟨gb,0,none⟩)]) rfl (fun w' hw=>(zkn hw).mono ?_);rintro e u' w'' ⟨rfl,hs,hw'⟩;rw [if_pos h3] at hw';exact q5c
theorem zjp {F0:Frz}{w:World}(hF0:F0.At w)(x:GReader)(g:Nat)(v:Value)(cb:HS)(f:FuncId)(caps:Array Value)(hO:Hp w (dD (eT g x v :: eQ v x :: cb)) (eT g x v :: eQ v x :: cb) w)(hA:∀g',dD (eT g x v :: eQ v x :: cb) g'→¬F0.S g')(hm0:(x.made&&decide (x.fault.first=0))=false):
  Calls Tryz.prog 184 #[.pointer (some ⟨g,0,none⟩), .func (.func f) #[] caps] w (fun e w'=>e= .returned (.tuple #[])∧FxM F0 w (dD (eT g x v :: eQ v x :: cb)) F0 (eT g x v :: eQ v x :: cb) w'):=by
 obtain ⟨S0,F1,rfl,hS0,hp0⟩:=fN hF0 hO hA;refine q22 ?_;rintro _ _ ⟨gb,rfl,rfl⟩;refine q2M ?_;refine DL.gs rfl rfl rfl (fun h1=>?_) (fun h1=>?_)
 ·refine DL.run 7 rfl ?_;refine DL.nil (DK.seq (DT.cond rfl (fun _=>DT.ret (fP (jg rfl (fun w' hw=>⟨rfl,?_⟩)))) (fun h=>by cases h)));exact q4V
 ·(have hm:x.made=true:=by simpa using h1);refine q2r ?_;refine iG (Yv.fieldAddr) ?_;refine iG (dM 1) ?_;refine DL.run 2 rfl ?_;refine DL.nil (DK.seq (DT.cond rfl (fun h2=>DT.ret (fP (jg rfl (fun w' hw=>⟨rfl,?_⟩)))) (fun h2=>?_)))
  ·exact q4V
  ·(have h3:x.fault.first=0:=by have:=of_decide_eq_false h2;simpa using this);rw [hm,h3] at hm0;cases hm0
theorem zj5 {F0:Frz}{w:World}(hF0:F0.At w)(x:GReader)(g:Nat)(v:Value)(gb gn:Nat)(hO:Hp w (dD (eT g x v :: eQ v x :: [.row gb 150 [.pointer (some ⟨g,0,none⟩)], .row gn 3 [.int .i64 0]])) (eT g x v :: eQ v x :: [.row gb 150 [.pointer (some ⟨g,0,none⟩)], .row gn 3 [.int .i64 0]]) w)(hA:∀g',dD (eT g x v :: eQ v x :: [.row gb 150 [.pointer (some ⟨g,0,none⟩)], .row gn 3 [.int .i64 0]]) g'→¬F0.S g')(r:Dy (BitVec 64×Int) (Int×Int))(hr:mP x 9=some r):
  Calls Tryz.prog 188 #[.pointer (some ⟨gb,0,none⟩), .pointer (some ⟨gn,0,none⟩)] w (fun e w'=>(fS r=true→e= .returned (.tuple #[])∧FxM F0 w (dD (eT g x v :: eQ v x :: [.row gb 150 [.pointer (some ⟨g,0,none⟩)], .row gn 3 [.int .i64 0]])) F0 (eT g { x with at_:=(eE r).2 } v :: eQ v x :: [.row gb 150 [.pointer (some ⟨g,0,none⟩)], .row gn 3 [.int .i64 (wI (((eE r).1).toNat:Int))]]) w')∧(fS r=false→∃a',e= .panicked (dyE 38 (gp r).1)∧FxM F0 w (dD (eT g x v :: eQ v x :: [.row gb 150 [.pointer (some ⟨g,0,none⟩)], .row gn 3 [.int .i64 0]])) F0 (eT g { x with at_:=a' } v :: eQ v x :: [.row gb 150 [.pointer (some ⟨g,0,none⟩)], .row gn 3 [.int .i64 0]]) w')):=by
 obtain ⟨S0,F1,rfl,hS0,hp0⟩:=fN hF0 hO hA;refine zfk (hs:=(eT g x v :: eQ v x :: [.row gb 150 [.pointer (some ⟨g,0,none⟩)], .row gn 3 [.int .i64 0]])++[.fr F1]) (args:=[.pointer (some ⟨gb,0,none⟩), .pointer (some ⟨gn,0,none⟩)]) Tryz.func188 rfl rfl rfl hp0 ?_;refine jz (fS r) (fun h=>?_) (fun h=>?_)
 ·refine fu ?_;refine lu ?_;refine de (dG [0,1,4,2,3] [eT g x v,eQ v x] [.row gb 150 [.pointer (some ⟨g,0,none⟩)], .row gn 3 [.int .i64 0]] rfl rfl rfl rfl a7 (fun w hw hw2 hF=>(zaV _ w hF x g v 9 hw2.takes.1 hw2.takes.2 r hr).mono (fun e w' hp=>hp.1 h))) ?_;rintro _ _ ⟨⟨⟩, -,rfl,rfl⟩;refine fe ?_;refine cY (dY (z:=(((eE r).1).toNat:Int))) ?_;refine dU (gv 4 rfl rfl rfl rfl b3) ?_;refine eA ?_;refine fM ?_;exact q5d
 ·refine fu ?_;refine lu ?_;refine jS [0,1,4,2,3] [eT g x v,eQ v x] [.row gb 150 [.pointer (some ⟨g,0,none⟩)], .row gn 3 [.int .i64 0]] rfl rfl rfl rfl rfl a7 (fun w hw hw2 hF=>(zaV _ w hF x g v 9 hw2.takes.1 hw2.takes.2 r hr).mono (fun e w' hp=>hp.2 h)) ?_;rintro ⟨⟩ -;refine fe ?_;exact q5e
theorem zkW {F0:Frz}{w:World}(hF0:F0.At w)(x:GReader)(g:Nat)(v:Value)(gb gn:Nat)(hO:Hp w (dD (eT g x v :: eQ v x :: [.row gb 150 [.pointer (some ⟨g,0,none⟩)], .row gn 3 [.int .i64 0]])) (eT g x v :: eQ v x :: [.row gb 150 [.pointer (some ⟨g,0,none⟩)], .row gn 3 [.int .i64 0]]) w)(hA:∀g',dD (eT g x v :: eQ v x :: [.row gb 150 [.pointer (some ⟨g,0,none⟩)], .row gn 3 [.int .i64 0]]) g'→¬F0.S g')(r:Dy (Int×Int) (Int×Int))(hr:zaF x=some r):
  Calls Tryz.prog 190 #[.pointer (some ⟨gb,0,none⟩), .pointer (some ⟨gn,0,none⟩)] w (fun e w'=>(fS r=true→e= .returned (.tuple #[])∧FxM F0 w (dD (eT g x v :: eQ v x :: [.row gb 150 [.pointer (some ⟨g,0,none⟩)], .row gn 3 [.int .i64 0]])) F0 (eT g { x with at_:=(eE r).2 } v :: eQ v x :: [.row gb 150 [.pointer (some ⟨g,0,none⟩)], .row gn 3 [.int .i64 (eE r).1]]) w')∧(fS r=false→∃a',e= .panicked (dyE 38 (gp r).1)∧FxM F0 w (dD (eT g x v :: eQ v x :: [.row gb 150 [.pointer (some ⟨g,0,none⟩)], .row gn 3 [.int .i64 0]])) F0 (eT g { x with at_:=a' } v :: eQ v x :: [.row gb 150 [.pointer (some ⟨g,0,none⟩)], .row gn 3 [.int .i64 0]]) w')):=by
 obtain ⟨S0,F1,rfl,hS0,hp0⟩:=fN hF0 hO hA;refine zfk (hs:=(eT g x v :: eQ v x :: [.row gb 150 [.pointer (some ⟨g,0,none⟩)], .row gn 3 [.int .i64 0]])++[.fr F1]) (args:=[.pointer (some ⟨gb,0,none⟩), .pointer (some ⟨gn,0,none⟩)]) Tryz.func190 rfl rfl rfl hp0 ?_;refine jz (fS r) (fun h=>?_) (fun h=>?_)
 ·refine fu ?_;refine lu ?_;refine de (dG [0,1,4,2,3] [eT g x v,eQ v x] [.row gb 150 [.pointer (some ⟨g,0,none⟩)], .row gn 3 [.int .i64 0]] rfl rfl rfl rfl a7 (fun w hw hw2 hF=>(zcI _ w hF x g v hw2.takes.1 hw2.takes.2 r hr).mono (fun e w' hp=>hp.1 h))) ?_;rintro _ _ ⟨⟨⟩, -,rfl,rfl⟩;refine fe ?_;refine dU (gv 4 rfl rfl rfl rfl b3) ?_;refine eA ?_;refine fM ?_;exact q5d
 ·refine fu ?_;refine lu ?_;refine jS [0,1,4,2,3] [eT g x v,eQ v x] [.row gb 150 [.pointer (some ⟨g,0,none⟩)], .row gn 3 [.int .i64 0]] rfl rfl rfl rfl rfl a7 (fun w hw hw2 hF=>(zcI _ w hF x g v hw2.takes.1 hw2.takes.2 r hr).mono (fun e w' hp=>hp.2 h)) ?_;rintro ⟨⟩ -;refine fe ?_;exact q5e
theorem zjU {F0:Frz}{w:World}(hF0:F0.At w)(x:GReader)(g:Nat)(v:Value)(gb gl gn:Nat)(lim:Int)(hO:Hp w (dD (eT g x v :: eQ v x :: [.row gb 150 [.pointer (some ⟨g,0,none⟩)], .row gl 3 [.int .i64 lim], .row gn 3 [.int .i64 0]])) (eT g x v :: eQ v x :: [.row gb 150 [.pointer (some ⟨g,0,none⟩)], .row gl 3 [.int .i64 lim], .row gn 3 [.int .i64 0]]) w)(hA:∀g',dD (eT g x v :: eQ v x :: [.row gb 150 [.pointer (some ⟨g,0,none⟩)], .row gl 3 [.int .i64 lim], .row gn 3 [.int .i64 0]]) g'→¬F0.S g')(r:Dy (Int×Int) (Int×Int))(hr:zaO x lim=some r):
  Calls Tryz.prog 185 #[.pointer (some ⟨gb,0,none⟩), .pointer (some ⟨gl,0,none⟩), .pointer (some ⟨gn,0,none⟩)] w (fun e w'=>(fS r=true→e= .returned (.tuple #[])∧FxM F0 w (dD (eT g x v :: eQ v x :: [.row gb 150 [.pointer (some ⟨g,0,none⟩)], .row gl 3 [.int .i64 lim], .row gn 3 [.int .i64 0]])) F0 (eT g { x with at_:=(eE r).2 } v :: eQ v x :: [.row gb 150 [.pointer (some ⟨g,0,none⟩)], .row gl 3 [.int .i64 lim], .row gn 3 [.int .i64 (eE r).1]]) w')∧(fS r=false→∃a',e= .panicked (dyE 38 (gp r).1)∧FxM F0 w (dD (eT g x v :: eQ v x :: [.row gb 150 [.pointer (some ⟨g,0,none⟩)], .row gl 3 [.int .i64 lim], .row gn 3 [.int .i64 0]])) F0 (eT g { x with at_:=a' } v :: eQ v x :: [.row gb 150 [.pointer (some ⟨g,0,none⟩)], .row gl 3 [.int .i64 lim], .row gn 3 [.int .i64 0]]) w')):=by
 obtain ⟨S0,F1,rfl,hS0,hp0⟩:=fN hF0 hO hA;refine zfk (hs:=(eT g x v :: eQ v x :: [.row gb 150 [.pointer (some ⟨g,0,none⟩)], .row gl 3 [.int .i64 lim], .row gn 3 [.int .i64 0]])++[.fr F1]) (args:=[.pointer (some ⟨gb,0,none⟩), .pointer (some ⟨gl,0,none⟩), .pointer (some ⟨gn,0,none⟩)]) Tryz.func185 rfl rfl rfl hp0 ?_;refine jz (fS r) (fun h=>?_) (fun h=>?_)
 ·refine fu ?_;refine lu ?_;refine cY (dM 3) ?_;refine de (dG [0,1,5,2,3,4] [eT g x v,eQ v x] [.row gb 150 [.pointer (some ⟨g,0,none⟩)], .row gl 3 [.int .i64 lim], .row gn 3 [.int .i64 0]] rfl rfl rfl rfl a7 (fun w hw hw2 hF=>(zcS _ w hF x g v lim hw2.takes.1 hw2.takes.2 r hr).mono (fun e w' hp=>hp.1 h))) ?_;rintro _ _ ⟨⟨⟩, -,rfl,rfl⟩;refine fe ?_;refine dU (gv 5 rfl rfl rfl rfl b3) ?_;refine eA ?_;refine fM ?_;exact K.cJ (fH rfl (fun w' hw=>⟨fun _=>⟨rfl,dz (hw.pick (idx:=[0,1,3,4,5,2]) rfl a7) hS0 (Frz.Le.refl _)⟩,(fun h2=>by rw [h] at h2;cases h2)⟩))
 ·refine fu ?_;refine lu ?_;refine cY (dM 3) ?_;refine jS [0,1,5,2,3,4] [eT g x v,eQ v x] [.row gb 150 [.pointer (some ⟨g,0,none⟩)], .row gl 3 [.int .i64 lim], .row gn 3 [.int .i64 0]] rfl rfl rfl rfl rfl a7 (fun w hw hw2 hF=>(zcS _ w hF x g v lim hw2.takes.1 hw2.takes.2 r hr).mono (fun e w' hp=>hp.2 h)) ?_;rintro ⟨⟩ -;refine fe ?_;exact K.bj (fun w' hw=>⟨(fun h2=>by rw [h] at h2;cases h2),fun _=>⟨(gp r).2,rfl,dz (hw.pick (idx:=[0,1,3,4,5,2]) rfl a7) hS0 (Frz.Le.refl _)⟩⟩)
def j1 (x:GReader):Option (Int×(Int×Int)):=
 bif x.made&&decide (x.fault.first=0) then
 (mP x 9).bind fun r=>bif fS r then some ((wI (((eE r).1).toNat:Int)),(x.fault.first,(eE r).2)) else some (0,((gp r).1,x.at_))
 else some (0,(x.fault.first,x.at_))
theorem zbC (F0:Frz)(w:World)(hF0:F0.At w)(x0_:GReader)(g0_:Nat)(v0_2:Value)(hO:Hp w (dD [.row g0_ 232 [.int .i64 x0_.fault.first, .bool x0_.made,v0_2, .int .i64 x0_.at_], .sl v0_2 5 1 x0_.in_.length (x0_.in_.flatMap (eK .u8))]) [.row g0_ 232 [.int .i64 x0_.fault.first, .bool x0_.made,v0_2, .int .i64 x0_.at_], .sl v0_2 5 1 x0_.in_.length (x0_.in_.flatMap (eK .u8))] w)(hA:∀g,dD [.row g0_ 232 [.int .i64 x0_.fault.first, .bool x0_.made,v0_2, .int .i64 x0_.at_], .sl v0_2 5 1 x0_.in_.length (x0_.in_.flatMap (eK .u8))] g→¬F0.S g)(r:Int×(Int×Int))(hr:j1 x0_=some r):Calls Tryz.prog 105 #[.pointer (some ⟨g0_,0,none⟩)] w fun e w'=>∃(y:Unit),(True)∧e= .returned (.int .i64 r.1)∧FxM F0 w (dD [.row g0_ 232 [.int .i64 x0_.fault.first, .bool x0_.made,v0_2, .int .i64 x0_.at_], .sl v0_2 5 1 x0_.in_.length (x0_.in_.flatMap (eK .u8))]) F0 [.row g0_ 232 [.int .i64 r.2.1, .bool x0_.made,v0_2, .int .i64 r.2.2], .sl v0_2 5 1 x0_.in_.length (x0_.in_.flatMap (eK .u8))] w':=by
 haveI:=gV (hO.own (eQ v0_2 x0_) b3);obtain ⟨S0,F1,rfl,hS0,hp0⟩:=fN hF0 hO hA;refine dT (hs:=[eT g0_ x0_ v0_2,eQ v0_2 x0_, .fr F1]) (args:=[.pointer (some ⟨g0_,0,none⟩)]) Tryz.func105 rfl rfl rfl hp0 ?_;refine q31 ?_;rintro _ _ ⟨gb,rfl,rfl⟩;refine iw ?_;refine fJ ?_;rintro _ _ ⟨gn,rfl,rfl⟩;refine q1A ?_;refine eP ?_;refine cY (dM 1) ?_;refine dH ?_
 have key:∀w2,F1.toFrz.At w2→Hp w2 (dD (eT g0_ x0_ v0_2 :: eQ v0_2 x0_ :: [.row gb 150 [.pointer (some ⟨g0_,0,none⟩)], .row gn 3 [.int .i64 0]])) (eT g0_ x0_ v0_2 :: eQ v0_2 x0_ :: [.row gb 150 [.pointer (some ⟨g0_,0,none⟩)], .row gn 3 [.int .i64 0]]) w2→(∀g,dD (eT g0_ x0_ v0_2 :: eQ v0_2 x0_ :: [.row gb 150 [.pointer (some ⟨g0_,0,none⟩)], .row gn 3 [.int .i64 0]]) g→¬F1.toFrz.S g)→Calls Tryz.prog 184 #[.pointer (some ⟨g0_,0,none⟩), .func (.func 188) #[] #[.pointer (some ⟨gb,0,none⟩), .pointer (some ⟨gn,0,none⟩)]] w2 (fun e w'=>∃(y:Unit),True∧e= .returned (.tuple #[])∧FxM F1.toFrz w2 (dD (eT g0_ x0_ v0_2 :: eQ v0_2 x0_ :: [.row gb 150 [.pointer (some ⟨g0_,0,none⟩)], .row gn 3 [.int .i64 0]])) F1.toFrz (eT g0_ { x0_ with fault:=⟨r.2.1⟩,at_:=r.2.2 } v0_2 :: eQ v0_2 x0_ :: [.row gb 150 [.pointer (some ⟨g0_,0,none⟩)], .row gn 3 [.int .i64 r.1]]) w'):=fun w2 h1 h2 h3=>by
  refine q1Q ?_;unfold j1 at hr
  cases hm:x0_.made&&decide (x0_.fault.first=0) with
  |false=>
   rw [hm,cond_false] at hr;obtain rfl:=Option.some.inj hr;refine zjp h1 x0_ g0_ v0_2 _ 188 #[.pointer (some ⟨gb,0,none⟩), .pointer (some ⟨gn,0,none⟩)] h2 h3 hm
  |true=>
   rw [hm,cond_true] at hr;obtain ⟨t,ht,hr⟩:=Option.bind_eq_some_iff.1 hr;refine zhO h1 x0_ g0_ v0_2 _ ([.row gb 150 [.pointer (some ⟨g0_,0,none⟩)], .row gn 3 [.int .i64 (wI (((eE t).1).toNat:Int))]]) _ 188 #[.pointer (some ⟨gb,0,none⟩), .pointer (some ⟨gn,0,none⟩)] (fS t) (eE t).2 (gp t).1 h2 h3 (fun w1 c1 c2 c3=>zj5 c1 x0_ g0_ v0_2 gb gn c2 c3 t ht) ?_;rw [hm,cond_true]
   cases hk:fS t with
   |true=>rw [hk,cond_true] at hr;obtain rfl:=Option.some.inj hr;rfl
   |false=>rw [hk,cond_false] at hr;obtain rfl:=Option.some.inj hr;rfl
 refine q2V ?_;rintro _ _ ⟨⟨⟩, -,rfl,rfl⟩;refine fe ?_;refine eP ?_;refine cY (dM 3) ?_;refine gW ?_;exact q5f
def zay (x:GReader):Option (Int×(Int×Int)):=
 bif x.made&&decide (x.fault.first=0) then
 (zaF x).bind fun r=>bif fS r then some ((eE r).1,(x.fault.first,(eE r).2)) else some (0,((gp r).1,x.at_))
 else some (0,(x.fault.first,x.at_))
theorem zer (F0:Frz)(w:World)(hF0:F0.At w)(x0_:GReader)(g0_:Nat)(v0_2:Value)(hO:Hp w (dD [.row g0_ 232 [.int .i64 x0_.fault.first, .bool x0_.made,v0_2, .int .i64 x0_.at_], .sl v0_2 5 1 x0_.in_.length (x0_.in_.flatMap (eK .u8))]) [.row g0_ 232 [.int .i64 x0_.fault.first, .bool x0_.made,v0_2, .int .i64 x0_.at_], .sl v0_2 5 1 x0_.in_.length (x0_.in_.flatMap (eK .u8))] w)(hA:∀g,dD [.row g0_ 232 [.int .i64 x0_.fault.first, .bool x0_.made,v0_2, .int .i64 x0_.at_], .sl v0_2 5 1 x0_.in_.length (x0_.in_.flatMap (eK .u8))] g→¬F0.S g)(r:Int×(Int×Int))(hr:zay x0_=some r):Calls Tryz.prog 106 #[.pointer (some ⟨g0_,0,none⟩)] w fun e w'=>∃(y:Unit),(True)∧e= .returned (.int .i64 r.1)∧FxM F0 w (dD [.row g0_ 232 [.int .i64 x0_.fault.first, .bool x0_.made,v0_2, .int .i64 x0_.at_], .sl v0_2 5 1 x0_.in_.length (x0_.in_.flatMap (eK .u8))]) F0 [.row g0_ 232 [.int .i64 r.2.1, .bool x0_.made,v0_2, .int .i64 r.2.2], .sl v0_2 5 1 x0_.in_.length (x0_.in_.flatMap (eK .u8))] w':=by
 haveI:=gV (hO.own (eQ v0_2 x0_) b3);obtain ⟨S0,F1,rfl,hS0,hp0⟩:=fN hF0 hO hA;refine dT (hs:=[eT g0_ x0_ v0_2,eQ v0_2 x0_, .fr F1]) (args:=[.pointer (some ⟨g0_,0,none⟩)]) Tryz.func106 rfl rfl rfl hp0 ?_;refine q31 ?_;rintro _ _ ⟨gb,rfl,rfl⟩;refine iw ?_;refine fJ ?_;rintro _ _ ⟨gn,rfl,rfl⟩;refine q1A ?_;refine eP ?_;refine cY (dM 1) ?_;refine dH ?_
 have key:∀w2,F1.toFrz.At w2→Hp w2 (dD (eT g0_ x0_ v0_2 :: eQ v0_2 x0_ :: [.row gb 150 [.pointer (some ⟨g0_,0,none⟩)], .row gn 3 [.int .i64 0]])) (eT g0_ x0_ v0_2 :: eQ v0_2 x0_ :: [.row gb 150 [.pointer (some ⟨g0_,0,none⟩)], .row gn 3 [.int .i64 0]]) w2→(∀g,dD (eT g0_ x0_ v0_2 :: eQ v0_2 x0_ :: [.row gb 150 [.pointer (some ⟨g0_,0,none⟩)], .row gn 3 [.int .i64 0]]) g→¬F1.toFrz.S g)→Calls Tryz.prog 184 #[.pointer (some ⟨g0_,0,none⟩), .func (.func 190) #[] #[.pointer (some ⟨gb,0,none⟩), .pointer (some ⟨gn,0,none⟩)]] w2 (fun e w'=>∃(y:Unit),True∧e= .returned (.tuple #[])∧FxM F1.toFrz w2 (dD (eT g0_ x0_ v0_2 :: eQ v0_2 x0_ :: [.row gb 150 [.pointer (some ⟨g0_,0,none⟩)], .row gn 3 [.int .i64 0]])) F1.toFrz (eT g0_ { x0_ with fault:=⟨r.2.1⟩,at_:=r.2.2 } v0_2 :: eQ v0_2 x0_ :: [.row gb 150 [.pointer (some ⟨g0_,0,none⟩)], .row gn 3 [.int .i64 r.1]]) w'):=fun w2 h1 h2 h3=>by
  refine q1Q ?_;unfold zay at hr
  cases hm:x0_.made&&decide (x0_.fault.first=0) with
  |false=>
   rw [hm,cond_false] at hr;obtain rfl:=Option.some.inj hr;refine zjp h1 x0_ g0_ v0_2 _ 190 #[.pointer (some ⟨gb,0,none⟩), .pointer (some ⟨gn,0,none⟩)] h2 h3 hm
  |true=>
   rw [hm,cond_true] at hr;obtain ⟨t,ht,hr⟩:=Option.bind_eq_some_iff.1 hr;refine zhO h1 x0_ g0_ v0_2 _ ([.row gb 150 [.pointer (some ⟨g0_,0,none⟩)], .row gn 3 [.int .i64 (eE t).1]]) _ 190 #[.pointer (some ⟨gb,0,none⟩), .pointer (some ⟨gn,0,none⟩)] (fS t) (eE t).2 (gp t).1 h2 h3 (fun w1 c1 c2 c3=>zkW c1 x0_ g0_ v0_2 gb gn c2 c3 t ht) ?_;rw [hm,cond_true]
   cases hk:fS t with
   |true=>rw [hk,cond_true] at hr;obtain rfl:=Option.some.inj hr;rfl
   |false=>rw [hk,cond_false] at hr;obtain rfl:=Option.some.inj hr;rfl
 refine q2V ?_;rintro _ _ ⟨⟨⟩, -,rfl,rfl⟩;refine fe ?_;refine eP ?_;refine cY (dM 3) ?_;refine gW ?_;exact q5f
def zaz (x:GReader)(limit:Int):Option (Int×(Int×Int)):=
 bif x.made&&decide (x.fault.first=0) then
 (zaO x limit).bind fun r=>bif fS r then some ((eE r).1,(x.fault.first,(eE r).2)) else some (0,((gp r).1,x.at_))
 else some (0,(x.fault.first,x.at_))
theorem zd1 (F0:Frz)(w:World)(hF0:F0.At w)(x0_:GReader)(g0_:Nat)(v0_2:Value)(limit:Int)(hO:Hp w (dD [.row g0_ 232 [.int .i64 x0_.fault.first, .bool x0_.made,v0_2, .int .i64 x0_.at_], .sl v0_2 5 1 x0_.in_.length (x0_.in_.flatMap (eK .u8))]) [.row g0_ 232 [.int .i64 x0_.fault.first, .bool x0_.made,v0_2, .int .i64 x0_.at_], .sl v0_2 5 1 x0_.in_.length (x0_.in_.flatMap (eK .u8))] w)(hA:∀g,dD [.row g0_ 232 [.int .i64 x0_.fault.first, .bool x0_.made,v0_2, .int .i64 x0_.at_], .sl v0_2 5 1 x0_.in_.length (x0_.in_.flatMap (eK .u8))] g→¬F0.S g)(r:Int×(Int×Int))(hr:zaz x0_ limit=some r):Calls Tryz.prog 103 #[.pointer (some ⟨g0_,0,none⟩), .int .i64 limit] w fun e w'=>∃(y:Unit),(True)∧e= .returned (.int .i64 r.1)∧FxM F0 w (dD [.row g0_ 232 [.int .i64 x0_.fault.first, .bool x0_.made,v0_2, .int .i64 x0_.at_], .sl v0_2 5 1 x0_.in_.length (x0_.in_.flatMap (eK .u8))]) F0 [.row g0_ 232 [.int .i64 r.2.1, .bool x0_.made,v0_2, .int .i64 r.2.2], .sl v0_2 5 1 x0_.in_.length (x0_.in_.flatMap (eK .u8))] w':=by
 haveI:=gV (hO.own (eQ v0_2 x0_) b3);obtain ⟨S0,F1,rfl,hS0,hp0⟩:=fN hF0 hO hA;refine dT (hs:=[eT g0_ x0_ v0_2,eQ v0_2 x0_, .fr F1]) (args:=[.pointer (some ⟨g0_,0,none⟩), .int .i64 limit]) Tryz.func103 rfl rfl rfl hp0 ?_;refine q31 ?_;rintro _ _ ⟨gb,rfl,rfl⟩;refine de (Ew.box rfl rfl) ?_;rintro _ _ ⟨gl,rfl,rfl⟩;refine iw ?_;refine fJ ?_;rintro _ _ ⟨gn,rfl,rfl⟩;refine q1A ?_;refine eP ?_;refine lu ?_;refine dH ?_
 have key:∀w2,F1.toFrz.At w2→Hp w2 (dD (eT g0_ x0_ v0_2 :: eQ v0_2 x0_ :: [.row gb 150 [.pointer (some ⟨g0_,0,none⟩)], .row gl 3 [.int .i64 limit], .row gn 3 [.int .i64 0]])) (eT g0_ x0_ v0_2 :: eQ v0_2 x0_ :: [.row gb 150 [.pointer (some ⟨g0_,0,none⟩)], .row gl 3 [.int .i64 limit], .row gn 3 [.int .i64 0]]) w2→(∀g,dD (eT g0_ x0_ v0_2 :: eQ v0_2 x0_ :: [.row gb 150 [.pointer (some ⟨g0_,0,none⟩)], .row gl 3 [.int .i64 limit], .row gn 3 [.int .i64 0]]) g→¬F1.toFrz.S g)→Calls Tryz.prog 184 #[.pointer (some ⟨g0_,0,none⟩), .func (.func 185) #[] #[.pointer (some ⟨gb,0,none⟩), .pointer (some ⟨gl,0,none⟩), .pointer (some ⟨gn,0,none⟩)]] w2 (fun e w'=>∃(y:Unit),True∧e= .returned (.tuple #[])∧FxM F1.toFrz w2 (dD (eT g0_ x0_ v0_2 :: eQ v0_2 x0_ :: [.row gb 150 [.pointer (some ⟨g0_,0,none⟩)], .row gl 3 [.int .i64 limit], .row gn 3 [.int .i64 0]])) F1.toFrz (eT g0_ { x0_ with fault:=⟨r.2.1⟩,at_:=r.2.2 } v0_2 :: eQ v0_2 x0_ :: [.row gb 150 [.pointer (some ⟨g0_,0,none⟩)], .row gl 3 [.int .i64 limit], .row gn 3 [.int .i64 r.1]]) w'):=fun w2 h1 h2 h3=>by
  refine Calls.mono (R:=fun e w'=>e= .returned (.tuple #[])∧FxM F1.toFrz w2 (dD (eT g0_ x0_ v0_2 :: eQ v0_2 x0_ :: [.row gb 150 [.pointer (some ⟨g0_,0,none⟩)], .row gl 3 [.int .i64 limit], .row gn 3 [.int .i64 0]])) F1.toFrz (eT g0_ { x0_ with fault:=⟨r.2.1⟩,at_:=r.2.2 } v0_2 :: eQ v0_2 x0_ :: [.row gb 150 [.pointer (some ⟨g0_,0,none⟩)], .row gl 3 [.int .i64 limit], .row gn 3 [.int .i64 r.1]]) w') ?_ (fun e w' hp=>⟨(),trivial,hp.1,hp.2⟩);unfold zaz at hr
  cases hm:x0_.made&&decide (x0_.fault.first=0) with
  |false=>
   rw [hm,cond_false] at hr;obtain rfl:=Option.some.inj hr;refine zjp h1 x0_ g0_ v0_2 _ 185 #[.pointer (some ⟨gb,0,none⟩), .pointer (some ⟨gl,0,none⟩), .pointer (some ⟨gn,0,none⟩)] h2 h3 hm
  |true=>
   rw [hm,cond_true] at hr;obtain ⟨t,ht,hr⟩:=Option.bind_eq_some_iff.1 hr;refine zhO h1 x0_ g0_ v0_2 _ ([.row gb 150 [.pointer (some ⟨g0_,0,none⟩)], .row gl 3 [.int .i64 limit], .row gn 3 [.int .i64 (eE t).1]]) _ 185 #[.pointer (some ⟨gb,0,none⟩), .pointer (some ⟨gl,0,none⟩), .pointer (some ⟨gn,0,none⟩)] (fS t) (eE t).2 (gp t).1 h2 h3 (fun w1 c1 c2 c3=>zjU c1 x0_ g0_ v0_2 gb gl gn limit c2 c3 t ht) ?_;rw [hm,cond_true]
   cases hk:fS t with
   |true=>rw [hk,cond_true] at hr;obtain rfl:=Option.some.inj hr;rfl
   |false=>rw [hk,cond_false] at hr;obtain rfl:=Option.some.inj hr;rfl
 refine de (dG [3,4,2,1,0,5] (eT g0_ x0_ v0_2 :: eQ v0_2 x0_ :: [.row gb 150 [.pointer (some ⟨g0_,0,none⟩)], .row gl 3 [.int .i64 limit], .row gn 3 [.int .i64 0]]) [] rfl rfl rfl rfl a7 (fun w hw hw2 hF=>key w hF hw2.takes.1 hw2.takes.2)) ?_;rintro _ _ ⟨⟨⟩, -,rfl,rfl⟩;refine fe ?_;refine eP ?_;refine cY (dM 4) ?_;refine gW ?_;exact fg rfl rfl (fun w' hw=>⟨(),trivial,rfl,dz (hw.pick (idx:=[0,1,5]) rfl a7) hS0 (Frz.Le.refl _)⟩)
theorem zkN {F:Frz}{g n:Nat}{x:Vec n Int}{k:IntKind}(h:F.S g∧Cs F.w g 0 (x.1.map (Value.int k)))(hn:n≤9223372036854775807:=by decide):SlC F (.slice (some ⟨g,0,none⟩) n n) 1 (x.1.map (eK k)):=by
 have h1:=SlK.lit (k:=n) (c:=n) (size:=1) h (by rw [List.length_map,x.2,Nat.mul_one]) (Nat.le_refl _) hn;exact h1.toC (by rw [zfN]) (by rw [List.length_map,x.2]) (fun c hc=>by obtain ⟨_,_,rfl⟩:=List.mem_map.1 hc;rfl)
section
variable {P:Program}{n:Nat}{B D:World}{M:Nat→Prop}{fs:eJ}{hs:HS}{o:Oper}{v:Value}
theorem K.cK (i j:Nat){fn:Func}{R:Ending→World→Prop}{t u t2 u2:TypeId}{s g k s2 g2 k2:Nat}{l l2:List Value}[hT:TyA P t k][hT2:TyA P t2 k2](hr:fn.results= #[.cell s t, .cell s2 t2])(hv:e6 fs s=some (.pointer (some ⟨g,0,none⟩)))(hv2:e6 fs s2=some (.pointer (some ⟨g2,0,none⟩)))(hi:hs[i]?=some (.row g u l))(hj:hs[j]?=some (.row g2 u2 l2))(hl:l.length=k)(hl2:l2.length=k2)(h:∀w,Hp B M hs w→R (.returned (.tuple #[.agg l.toArray, .agg l2.toArray])) w):K n B D M (kf P fn R) .ret fs hs:=
 (j6 (fun a w ha hw=>by
  have h1:=zd5 (P:=P) (t:=t) (dF.1 (hw.get hi)) hl;have h2:=zd5 (P:=P) (t:=t2) (dF.1 (hw.get hj)) hl2
  simp [results,hr,ha.get s _ hv,ha.get s2 _ hv2,asAddr,h1,h2]) h).1
end
@[irreducible] def Ent.rowz (g:Nat) (t:TypeId) (l:List Value):Ent where
 fp:=(· =g)
 ok w:=∃fz,w.heap[g]?=some (.cells l.toArray t fz)
 loc h k:=by obtain ⟨fz,k⟩:=k;exact ⟨fz,(h g rfl).trans k⟩
 lt h k e:=by subst e;obtain ⟨fz,h⟩:=h;exact (Array.getElem?_eq_some_iff.1 h).1
 nd h k e c:=by subst e;obtain ⟨fz,h⟩:=h;rw [h];simp
theorem iT {g:Nat}{t:TypeId}{l:List Value}{k:Nat}:(Ent.rowz g t l).fp k↔k=g:=by unfold Ent.rowz;exact Iff.rfl
theorem gZ {g:Nat}{t:TypeId}{l:List Value}{w:World}:(Ent.rowz g t l).ok w↔∃fz,w.heap[g]?=some (.cells l.toArray t fz):=by unfold Ent.rowz;exact Iff.rfl
theorem zji {g:Nat}{t:TypeId}{l:List Value}{w:World}(h:(Ent.rowz g t l).ok w)(q:Nat):w.cell? ⟨g,q,none⟩=l[q]?:=by
 obtain ⟨fz,h⟩:=gZ.1 h;unfold World.cell?;simp [h]
theorem Ew.by {P:Program}{n':Nat}{B:World}{M S0:Nat→Prop}{fs:eJ}{hs:HS}{o:Oper}(i j:Nat)(hij:i≠j){F:FzB B M S0}{t e:TypeId}{x:Operand}{g n:Nat}{l:List Value}{xs:List Int}(ht:P.underlying t=some (.slice e))(he:P.underlying e=some (.int .u8))(ho:o.op= .convert t t x)(hx:ev fs x=some (.slice (some ⟨g,0,none⟩) n n))(hi:hs[i]?=some (.fr F))(hj:hs[j]?=some (.row g e l))(hl:l=xs.map (Value.int .u8))(hn:l.length=n)(hm:n≤9223372036854775807):
  Ew P n' B M fs hs o (fun v hs'=>∃G:FzB B M S0,(F.toFrz.Le G.toFrz∧SlC G.toFrz (.slice (some ⟨g,0,none⟩) n n) 1 (xs.map (eK .u8)))∧v= .slice (some ⟨g,0,none⟩) n n∧hs'=(hs.set i (.fr G)).eraseIdx j):=gi fun a w ha hw=>by
 have hr:=dF.1 (hw.get hj);have hlt:=(Array.getElem?_eq_some_iff.1 hr).1
 have hsh:w.shape? g=some (e,n):=by
  unfold World.shape?;rw [hr];simp [hn]
 have hg:(w.freeze ⟨g,n,none⟩ 1).heap[g]?=some (.cells l.toArray e (n,n+1)):=by
  unfold World.freeze;rw [if_neg a7];simp [Array.getElem?_modify,hr]
 have hother:∀k,k≠g→(w.freeze ⟨g,n,none⟩ 1).heap[k]?=w.heap[k]?:=fun k hk=>by
  unfold World.freeze;rw [if_neg a7];simp [Array.getElem?_modify,Ne.symm hk]
 have hsize:(w.freeze ⟨g,n,none⟩ 1).heap.size=w.heap.size:=by
  unfold World.freeze;rw [if_neg a7];simp
 have hOnly:Only (· =g) w (w.freeze ⟨g,n,none⟩ 1):=⟨by unfold World.freeze;rw [if_neg a7],by unfold World.freeze;rw [if_neg a7],by unfold World.freeze;rw [if_neg a7],by rw [hsize];exact Nat.le_refl _,fun k _ hne=>hother k hne⟩;have h1:Hp B M (hs.set j (.rowz g e l)) (w.freeze ⟨g,n,none⟩ 1):=hw.updAt (S:=(· =g)) hj hOnly (fun k _ hk=>fx.2 hk) (gZ.2 ⟨_,hg⟩) (fun k hk=> .inl (fx.2 (iT.1 hk)));have hjl:=(List.getElem?_eq_some_iff.1 hj).1; (have hi':(hs.set j (.rowz g e l))[i]?=some (.fr F):=by rw [List.getElem?_set_ne hij.symm];exact hi);have hj':(hs.set j (.rowz g e l))[j]?=some (.rowz g e l):=List.getElem?_set_self hjl;obtain ⟨G,k1,k2,k3,k4⟩:=h1.freezeB hij hi' hj' (g:=g) (iT.2 rfl) ⟨_,_,_,hg⟩;refine ⟨.slice (some ⟨g,0,none⟩) n n,w.freeze ⟨g,n,none⟩ 1,(hs.set i (.fr G)).eraseIdx j,?_,Kp.only hOnly (fun k hk c h=>by subst hk;rw [hr] at h;simp at h),?_,G,⟨k1,?_⟩,rfl,rfl⟩
 ·unfold execOp;simp [ho,ha.ev hx,convert,run_underlying ht,run_underlying he,markStringish,hsh]
 ·rw [List.set_comm _ _ hij.symm,List.eraseIdx_set_eq] at k4;exact k4
 ·have h2:SlK G.toFrz (.slice (some ⟨g,0,none⟩) n n) 1 n l:=SlK.lit ⟨k2,fun q hq=>by rw [k3,Nat.zero_add,zji (gZ.2 ⟨_,hg⟩)]⟩ a6 (Nat.le_refl _) hm;refine h2.toC ?_ ?_ ?_
  ·rw [hl,zfN]
  ·rw [←hn,hl,List.length_map,List.length_map]
  ·intro c hc;obtain ⟨_,_,rfl⟩:=List.mem_map.1 hc;rfl
def mH (l:List GBidder):Prop:=dK l.length 48∧∀x∈l,dK x.Blocks.length 8
instance (l:List GBidder):Decidable (mH l):=by unfold mH;infer_instance
theorem ziG {cl:List (List Value)}{j:Nat}(h:j<cl.length):nth (cl.map fun c=>nth c 3) j=nth (nth cl j) 3:=by
 rw [fT (by rw [List.length_map];exact h),List.getElem_map,fT h]
theorem zkw {F:Frz}{v:Value}{cl:List (List Value)}{l:List GBidder}(h:SlD cZ F v 4 cl l):ic l (cl.map fun c=>nth c 3)=cl∧∀j,j<l.length→SlC F (nth (cl.map fun c=>nth c 3) j) 1 ((nth l j).Blocks.map eI):=by
 have hl:=h.2.1;refine ⟨List.ext_getElem (by rw [mG,hl]) fun i h1 h2=>?_,fun j hj=>?_⟩
 ·(have hi:i<l.length:=by rw [mG] at h1;exact h1);have e1:=zeL (xs:=l) (vs:=cl.map fun c=>nth c 3) hi;rw [fT h1] at e1;rw [e1,ziG h2];have h3:=h.2.2 i hi;rw [fT h2] at h3 ⊢;obtain ⟨v0,h0,_⟩:=h3;rw [h0];rfl
 ·rw [ziG (by rw [hl];exact hj)];exact (fB (h.2.2 j hj)).2
def mr (ei:TypeId)(i:Nat)(xs:List GBidder)(vs:List Value):HS:=(List.range i).map fun i=> .sl (nth vs i) ei 1 (nth xs i).Blocks.length ((nth xs i).Blocks.flatMap eI)
theorem zjR {ei:TypeId}{i:Nat}{xs:List GBidder}{vs:List Value}{v:Value}(hi:i<vs.length):mr ei i xs vs++[.sl v ei 1 (nth xs i).Blocks.length ((nth xs i).Blocks.flatMap eI)]=mr ei (i+1) xs (vs.set i v):=by
 unfold mr;rw [List.range_succ,List.map_append,List.map_cons,List.map_nil,zeS hi,if_pos rfl];refine congrArg (· ++_) (List.map_congr_left fun j hj=>?_);have hj:=List.mem_range.1 hj;rw [zeS a6,if_neg a6]
theorem ziA {xs:List GBidder}{vs:List Value}{v:Value}{i:Nat}(hi:i<xs.length)(hv:i<vs.length):(ic xs vs).flatten.set (i*4+3) v=(ic xs (vs.set i v)).flatten:=by
 rw [zi5 (c:=kA (nth xs i) (nth vs i)) zfH (by rw [mG];exact hi) (by rw [zeL hi];rfl) a7];refine congrArg List.flatten (List.ext_getElem (by rw [List.length_set,mG,mG]) fun j h1 h2=>?_); (have hj:j<xs.length:=by rw [mG] at h2;exact h2);have e2:=zeL (xs:=xs) (vs:=vs.set i v) hj;rw [fT h2] at e2;rw [e2];rw [List.getElem_set];by_cases e:i=j
 ·subst e;rw [if_pos rfl,zeS hv,if_pos rfl];rfl
 ·have e3:=zeL (xs:=xs) (vs:=vs) hj;rw [fT (by rw [mG];exact hj)] at e3;rw [if_neg e,e3];unfold kA
  congr 4
  unfold nth;rw [List.getD_eq_getElem?_getD,List.getD_eq_getElem?_getD,List.getElem?_set_ne e]
theorem Hp.toBd {B w:World}{M:Nat→Prop}{x:Ent}{es rest:HS}(h:Hp B M (x :: .bag es :: rest) w):Hp B M (.bag (x :: es) :: rest) w:=by
 have hx:=h.own x b3;have hb:=eC.1 (h.own (.bag es) b3);have ha:=(List.pairwise_cons.1 h.apart).1 (.bag es) b3;refine gK (es:=[x, .bag es]) (es':=[.bag (x :: es)]) (rest:=rest) h (fun e he=>?_) (fun e he g hg=>?_) (List.pairwise_singleton _ _)
 ·rw [List.mem_singleton.1 he];refine eC.2 ⟨fun y hy=>?_,List.pairwise_cons.2 ⟨fun y hy g hg hyg=>ha g hg (d8.2 ⟨y,hy,hyg⟩),hb.2⟩⟩;rcases List.mem_cons.1 hy with rfl|hy
  ·exact hx
  ·exact hb.1 y hy
 ·rw [List.mem_singleton.1 he] at hg;obtain ⟨y,hy,hyg⟩:=d8.1 hg;rcases List.mem_cons.1 hy with rfl|hy
  ·exact ⟨y,by simp,hyg⟩
  ·exact ⟨.bag es,by simp,d8.2 ⟨y,hy,hyg⟩⟩
theorem zhJ (F0:Frz)(w:World)(hF0:F0.At w)(l:List GBidder)(vl:Value)(cl:List (List Value))(hl:SlD cZ F0 vl 4 cl l)(hr:mH l):Calls Tryz.prog 54 #[vl] w fun e w'=>∃y:Value×List Value,True∧e= .returned y.1∧Hp w (fun _=>False) [eD 57 3 y.1 y.2 l] w':=by
 obtain ⟨g6,g7⟩:=hr;haveI:=hl.1.oneC;obtain ⟨S0,F1,rfl,hS0,hp0⟩:=eH hF0;obtain ⟨hrow,hblk⟩:=zkw hl;have hcl:=hl.2.1;generalize hus:(cl.map fun c=>nth c 3)=us at hrow hblk; (have hul:us.length=l.length:=by rw [←hus,List.length_map,hcl]);refine dT Tryz.func54 rfl rfl rfl hp0 ?_;refine jE ?_;refine dH ?_;refine de (jN rfl rfl rfl (fun w hw=>zeH _ w (hw.fr (i:=0) rfl) l vl cl hl g6)) ?_;rintro v6_ _ ⟨_,_,rfl,rfl⟩;refine mj ?_;intro iv6_ hmv6_;refine jb ?_;refine cY (gM 0 rfl rfl rfl) ?_;refine ez ?_;refine dk (ι:=List Value) (fun us=>[(3,v6_)]) (fun us=>[.sl v6_ 57 4 l.length (ic l us).flatten, .bag (iJ 3 l us), .fr F1]) (fun us=>True) ?_ ?_
 ·refine T.bag0 [] (fun _ _ h=>by cases h) (fun _ h=>by cases h) ?_;refine ff ?_;refine T.loop (ι:=Nat×List Value) (fun z=>[(3,v6_),(8, .int .i64 (l.length:Int)),(9, .int .i64 (z.1:Int))]) (fun z=>[.bag (mr 3 z.1 l z.2), .sl v6_ 57 4 l.length (ic l z.2).flatten, .fr F1]) (fun z=>z.1≤l.length∧z.2.length=l.length∧∀j,z.1≤j→j<l.length→SlC F1.toFrz (nth z.2 j) 1 ((nth l j).Blocks.map eI)) (fun z=>l.length - z.1) (0,us) ?_ ?_ ?_ ?_
  ·exact ⟨Nat.zero_le _,hul,fun j _ hj=>hblk j hj⟩
  ·exact ma
  ·dsimp only;rw [hrow];exact fa
  ·rintro ⟨i_5,us⟩ ⟨hle,hul,hb⟩;dsimp only at hle hul hb ⊢;refine ft ?_;refine T.cond rfl (fun h6=>?_) (fun h6=>?_)
   ·have p6:=of_decide_eq_true h6; (have hi:i_5<l.length:=by omega);have hd:=hb i_5 (Nat.le_refl _) hi; (have g19:dK (nth l i_5).Blocks.length 8:=by rw [fT hi];exact g7 _ (List.getElem_mem hi));haveI:=hd.oneC;refine jc ?_;refine ep ?_;refine dX (T.region ?_);refine iv ?_;refine cY (dW 1 (i:=i_5) rfl rfl rfl rfl rfl a6) ?_;refine cY (mn 1 rfl rfl rfl a6) ?_;refine cY (eR 1 rfl rfl rfl a6 (zht hi a7 rfl)) ?_;refine de (jN rfl rfl rfl (fun w hw=>zfb _ w (hw.fr (i:=2) rfl) (nth l i_5).Blocks (nth us i_5) hd g19)) ?_;rintro v19 _ ⟨_,_,rfl,rfl⟩;refine mj ?_;intro iv19 hmv19;refine cY (dW 2 (i:=i_5) rfl rfl rfl rfl rfl a6) ?_;refine cY (mn 2 rfl rfl rfl a6) ?_;refine dU (eU 2 (k':=l.length) (l':=(ic l (us.set i_5 v19)).flatten) rfl rfl rfl rfl a6 (by rw [zko];omega) (ziA hi a6) rfl) ?_;refine eA ?_;refine im (ι:=Unit) (φ:=fun _=>True) (hs':=fun _=>[.bag (mr 3 (i_5+1) l (us.set i_5 v19)), .sl v6_ 57 4 l.length (ic l (us.set i_5 v19)).flatten, .fr F1]) (fun w hw=>⟨(),trivial,?_⟩) (fun _ _=>?_)
    ·rw [←zjR a6];exact hw.intoB (i:=0) rfl
    refine jw ?_;refine K.next (i_5+1,us.set i_5 v19) ⟨by dsimp only;omega,by rw [List.length_set];exact hul,fun j h1 h2=>?_⟩ a9 (.c (.c (.c .nil))) (List.Sublist.refl _);dsimp only at h1 ⊢;rw [zeS a6,if_neg a6];exact hb j a6 h2
   ·have p6:=of_decide_eq_false h6; (have hi:i_5=l.length:=by omega);refine fi ?_;subst hi;refine K.pick [1,0,2] rfl a7 ?_;exact dg us trivial (.c .nil) (List.Sublist.refl _)
 ·rintro us _;refine lW ?_;exact fg rfl rfl (fun w' hw=>⟨(v6_,us),trivial,rfl,hw.toBd.sub Sx⟩)
theorem ziV (F0:Frz)(w:World)(hF0:F0.At w)(l:List GBidder)(vl:Value)(cl:List (List Value))(hl:SlD cZ F0 vl 4 cl l)(hr:mH l):Calls Tryz.prog 54 #[vl] w fun e w'=>∃(y:Value×List (List Value)) (G:Frz),SlD cZ G y.1 4 y.2 l∧e= .returned y.1∧Fx F0 w G w':=by
 refine (zhJ F0 w hF0 l vl cl hl hr).mono ?_;rintro e w' ⟨⟨v',us⟩,_,rfl,hw⟩;obtain ⟨G,h1,h2,h3⟩:=Fx.hp hF0 hw;have hok:=hw.own (eD 57 3 v' us l) b3;exact ⟨(v',ic l us),G,zhV hok h2 (fun g hg=>h3 _ b3 g hg (zkh hok hg)),rfl,h1⟩
open Go.ChangeMaps (setBlock)
def ki {α:Type}(f:Int→Option α)(k:Int)(v:α):Int→Option α:=fun j=>bif decide (j=k) then some v else f j
structure MapE {α:Type} (enc:α→Value) (es:Array MapEntry) (clock:Nat) (f:Int→Option α):Prop where
 st:MapKept.Stamped es clock
 ent:∀e∈es.toList,∃k v,e.key= .int .i64 k∧e.val=enc v∧f k=some v
 all:∀k v,f k=some v→∃e∈es.toList,e.key= .int .i64 k
section
variable {P:Program}{α:Type}{enc:α→Value}{es:Array MapEntry}{clock:Nat}{f:Int→Option α}{w:World}{g:Nat}{mt kt et:TypeId}{z:α}
theorem MapE.isKey (h:MapE enc es clock f):∀e∈es.toList,MapKept.IsKey (.int .i64) e.key:=fun e he=>by
 obtain ⟨k,v,h1,_⟩:=h.ent e he;rw [h1];rfl
theorem MapE.find (h:MapE enc es clock f)(k:Int):(Instr.findNow (.int .i64) (.int .i64 k) es.toList 0=some none∧f k=none∧∀e∈es.toList,e.key≠ .int .i64 k)∨∃j e v,Instr.findNow (.int .i64) (.int .i64 k) es.toList 0=some (some (j,enc v))∧es[j]?=some e∧e.key= .int .i64 k∧e.val=enc v∧f k=some v:=by
 rcases MapKept.findNow_spec (d:= .int .i64) (k:= .int .i64 k) rfl es.toList 0 h.isKey with ⟨h1,h2⟩|⟨j,e,h1,h2,h3⟩
 ·refine .inl ⟨h1,?_,h2⟩
  cases hf:f k with
  |none=>rfl
  |some v=>obtain ⟨e,he,hek⟩:=h.all k v hf;exact absurd hek (h2 e he)
 ·obtain ⟨k',v,h4,h5,h6⟩:=h.ent e (List.mem_of_getElem? h2);rw [h3] at h4; (obtain rfl:k=k':=by injection h4);exact .inr ⟨j,e,v,by rw [h1,Nat.zero_add,h5],by simpa using h2,h3,h5,h6⟩
class TyMi (P:Program) (mt:TypeId) (et:outParam TypeId) {α:outParam Type} (enc:outParam (α→Value)) (z:outParam α):Prop where
 h:∃kt,P.underlying mt=some (.map kt et)∧P.underlying kt=some (.int .i64)∧∀w,(zeroValue et).run P w= .ok (enc z) w
theorem zjE [hT:TyMi P mt et enc z](hb:w.heap[g]?=some (.map es clock))(h:MapE enc es clock f)(k:Int)(c:Bool):
  (Instr.lookup mt (.map (some g)) (.int .i64 k) c).run P w= .ok (if c then .tuple #[enc ((f k).getD z), .bool (f k).isSome] else enc ((f k).getD z)) w:=by
 obtain ⟨kt,hm,hd,hz⟩:=hT.h;have hk:∀b,(Instr.checkKey b 10000 kt (.int .i64 k)).run P w= .ok () w:=fun b=>MapKept.run_checkKey hd (d:= .int .i64) (k:= .int .i64 k) rfl b 9999;rcases h.find k with ⟨h1,h2,_⟩|⟨j,e,v,h1,_,_,_,h2⟩
 ·cases c <;> simp [Instr.lookup,run_underlying hm,MapKept.run_getObj_map hb,hk,MapKept.run_findKey hd h1,hz,h2,Result.andThen]
 ·cases c <;> simp [Instr.lookup,run_underlying hm,MapKept.run_getObj_map hb,hk,MapKept.run_findKey hd h1,h2,Result.andThen]
theorem zia (f:Int→Option α)(k:Int)(v:α):ki f k v k=some v:=by simp [ki]
theorem zfI (f:Int→Option α){k j:Int}(v:α)(h:j≠k):ki f k v j=f j:=by simp [ki,h]
theorem zjV [hT:TyMi P mt et enc z](hb:w.heap[g]?=some (.map es clock))(h:MapE enc es clock f)(k:Int)(v:α):
  ∃es' clock',(Instr.mapUpdate mt (.map (some g)) (.int .i64 k) (enc v)).run P w= .ok () { w with heap:=w.heap.setIfInBounds g (.map es' clock') }∧MapE enc es' clock' (ki f k v):=by
 obtain ⟨kt,hm,hd,hz⟩:=hT.h;have hk:∀b,(Instr.checkKey b 10000 kt (.int .i64 k)).run P w= .ok () w:=fun b=>MapKept.run_checkKey hd (d:= .int .i64) (k:= .int .i64 k) rfl b 9999;rcases h.find k with ⟨h1,h2,h3⟩|⟨j,e,v0,h1,hj,h3,h4,h2⟩
 ·refine ⟨es.push { key:= .int .i64 k,val:=enc v,born:=clock },clock+1,?_,MapKept.stamped_push h.st h3,fun e he=>?_,fun j u hj=>?_⟩
  ·simp [Instr.mapUpdate,run_underlying hm,MapKept.run_getObj_map hb,hk,MapKept.run_findKey hd h1,MapKept.run_setObj_map _ hb,Result.andThen]
  ·rw [Array.toList_push] at he;rcases List.mem_append.1 he with he|he
   ·obtain ⟨i,u,h5,h6,h7⟩:=h.ent e he;exact ⟨i,u,h5,h6,by rw [zfI f v (fun q=>h3 e he (by rw [h5,q]))];exact h7⟩
   ·simp at he;subst he;exact ⟨k,v,rfl,rfl,zia f k v⟩
  ·rw [Array.toList_push];by_cases hjk:j=k
   ·exact ⟨_,List.mem_append.2 (.inr (List.mem_singleton.2 rfl)),by rw [hjk]⟩
   ·rw [zfI f v hjk] at hj;obtain ⟨e,he,hek⟩:=h.all j u hj;exact ⟨e,by simp [he],hek⟩
 ·have hget:∀i,(es.modify j fun e=>{ e with key:= .int .i64 k,val:=enc v }).toList[i]?=if j=i then es[i]?.map (fun e=>{ e with key:= .int .i64 k,val:=enc v }) else es[i]?:=fun i=>by
   rw [Array.getElem?_toList,Array.getElem?_modify]
  have hkeys:∀(a b:Nat) (e1 e2:MapEntry),es[a]?=some e1→es[b]?=some e2→e1.key=e2.key→a=b:=fun a b e1 e2 ha hb hab=>by
   have hn:=h.st.2.2; (have ha':(es.toList.map (·.key))[a]?=some e1.key:=by rw [List.getElem?_map,Array.getElem?_toList,ha];rfl); (have hb':(es.toList.map (·.key))[b]?=some e2.key:=by rw [List.getElem?_map,Array.getElem?_toList,hb];rfl);have la:=(List.getElem?_eq_some_iff.1 ha').1;exact (List.getElem?_inj la hn).1 (by rw [ha',hb',hab])
  refine ⟨es.modify j fun e=>{ e with key:= .int .i64 k,val:=enc v },clock,?_,MapKept.stamped_modify h.st j _ (fun _ _=>rfl) (fun e' _ he'=>by rw [hj] at he';cases he';exact h3.symm),fun e' he'=>?_,fun i u hi=>?_⟩
  ·simp [Instr.mapUpdate,run_underlying hm,MapKept.run_getObj_map hb,hk,MapKept.run_findKey hd h1,hj,h3,MapKept.run_keyThatStays (d:= .int .i64) (k:= .int .i64 k) rfl,MapKept.run_setObj_map _ hb,Result.andThen]
  ·obtain ⟨i,hi⟩:=List.mem_iff_getElem?.1 he';rw [hget] at hi
   split at hi
   ·rw [Option.map_eq_some_iff] at hi;obtain ⟨e0,_,rfl⟩:=hi;exact ⟨k,v,rfl,rfl,zia f k v⟩
   ·rename_i hne;obtain ⟨a,u,h5,h6,h7⟩:=h.ent e' (List.mem_of_getElem? (by rw [Array.getElem?_toList];exact hi));refine ⟨a,u,h5,h6,?_⟩;rw [zfI f v (fun q=>hne (hkeys j i e e' hj hi (by rw [h3,h5,q])))];exact h7
  ·by_cases hik:i=k
   ·exact ⟨{ e with key:= .int .i64 k,val:=enc v },List.mem_iff_getElem?.2 ⟨j,by rw [hget,if_pos rfl,hj];rfl⟩,by rw [hik]⟩
   ·rw [zfI f v hik] at hi;obtain ⟨e0,he0,hk0⟩:=h.all i u hi;obtain ⟨a,ha⟩:=List.mem_iff_getElem?.1 he0;by_cases hja:j=a
    ·subst hja;rw [Array.getElem?_toList,hj] at ha;obtain rfl:=Option.some.inj ha;rw [h3] at hk0;exact absurd (by injection hk0 with _ q;exact q.symm) hik
    ·exact ⟨e0,List.mem_iff_getElem?.2 ⟨a,by rw [hget,if_neg hja,←Array.getElem?_toList];exact ha⟩,hk0⟩
end
@[irreducible] def Ent.mi {α:Type} (enc:α→Value) (g:Nat) (f:Int→Option α):Ent where
 fp:=(· =g)
 ok w:=∃es clock,w.heap[g]?=some (.map es clock)∧MapE enc es clock f
 loc h k:=by obtain ⟨es,cl,h1,h2⟩:=k;exact ⟨es,cl,(h g rfl).trans h1,h2⟩
 lt h k e:=by obtain ⟨es,cl,h1,h2⟩:=h;subst e;exact (Array.getElem?_eq_some_iff.1 h1).1
 nd h k e c:=by obtain ⟨es,cl,h1,h2⟩:=h;subst e;rw [h1];simp
theorem hJ {α:Type}{enc:α→Value}{g:Nat}{f:Int→Option α}{k:Nat}:(Ent.mi enc g f).fp k↔k=g:=by unfold Ent.mi;exact Iff.rfl
theorem ib {α:Type}{enc:α→Value}{g:Nat}{f:Int→Option α}{w:World}:(Ent.mi enc g f).ok w↔∃es clock,w.heap[g]?=some (.map es clock)∧MapE enc es clock f:=by unfold Ent.mi;exact Iff.rfl
section
variable {P:Program}{n:Nat}{B D:World}{M:Nat→Prop}{F:Fence}[hF:Calm F]{Q:Exit→Act→World→Prop}{fs:eJ}{hs:HS}{ops:Array Oper}{rest:List Oper}{o:Oper}{α:Type}{enc:α→Value}{f:Int→Option α}{g r:Nat}{mt kt et:TypeId}{z:α}
theorem Ew.cx [hT:TyMi P mt et enc z]{x:Operand}{k:Int}(ho:o.op= .makeMap mt (some x))(hx:ev fs x=some (.int .i64 k)):Ew P n B M fs hs o (fun v hs'=>∃g,v= .map (some g)∧hs'= .mi enc g (fun _=>none) :: hs):=gi fun a w ha hp=>by
 obtain ⟨kt,hm,hd,hz⟩:=hT.h;refine ⟨_,w.alloc (.map #[] 0),_,?_,Kp.alloc w _,hp.fresh ((Below.refl _ _).alloc (Nat.le_refl _) _) (ib.2 ⟨#[],0,(MapKept.heap_alloc w _).1,MapKept.stamped_empty 0,fun e he=>by simp at he,fun c v hc=>by cases hc⟩) (fun g hg=>by rw [hJ.1 hg];exact Nat.le_refl _),w.heap.size,rfl,rfl⟩;unfold execOp;have h1:(asIntOf (Value.int .i64 k)).run P w= .ok (.i64,k) w:=rfl;simp [ho,ha.ev hx,Instr.makeMap,run_underlying hm,asInt,h1,Result.andThen]
theorem Ew.cL [hT:TyMi P mt et enc z](i:Nat){x y u:Operand}{k:Int}{v:α}{hs':HS}(ho:o.op= .mapUpdate mt x y u)(hx:ev fs x=some (.map (some g)))(hy:ev fs y=some (.int .i64 k))(hu:ev fs u=some (enc v))(hi:hs[i]?=some (.mi enc g f))[hH:SetAt hs i (.mi enc g (ki f k v)) hs']:Ew P n B M fs hs o (fun v hs''=>v=undef∧hs''=hs'):=jm fun a w ha hp=>by
 obtain ⟨es,clock,hb,hS⟩:=ib.1 (hp.get hi);obtain ⟨es',cl',h1,h2⟩:=zjV (P:=P) (mt:=mt) hb hS k v;have hlt:=(Array.getElem?_eq_some_iff.1 hb).1
 have hon:Only (· =g) w { w with heap:=w.heap.setIfInBounds g (.map es' cl') }:=⟨rfl,rfl,rfl,by simp,fun k hk hn=>by
  simp only [Array.getElem?_setIfInBounds]
  rw [if_neg (fun e=>hn e.symm)]⟩
 refine ⟨_,hs',?_,Kp.only hon (fun k e c=>by subst e;rw [hb];simp),?_,rfl,rfl⟩
 ·unfold execOp;simp [ho,ha.ev hx,ha.ev hy,ha.ev hu,h1,Result.andThen]
 ·rw [←hH.h];exact hp.updAt hi hon (fun k _ hk=>hJ.2 hk) (ib.2 ⟨es',cl',by simp [hlt],h2⟩) (fun k hk=> .inl (hJ.2 (hJ.1 hk)))
theorem Yv.cM [hT:TyMi P mt et enc z](i:Nat){x y:Operand}{k:Int}(ho:o.op= .lookup mt x y false)(hx:ev fs x=some (.map (some g)))(hy:ev fs y=some (.int .i64 k))(hi:hs[i]?=some (.mi enc g f)):Yv P n B M fs hs o (enc ((f k).getD z)):=fun a w ha hp=>by
 obtain ⟨es,clock,hb,hS⟩:=ib.1 (hp.get hi);unfold execOp;simp [ho,ha.ev hx,ha.ev hy,zjE (P:=P) (mt:=mt) hb hS k false,Result.andThen]
theorem MapE.inj {es:Array MapEntry}{clock:Nat}(h:MapE enc es clock f){x y:MapEntry}(hx:x∈es.toList)(hy:y∈es.toList):(x.born=y.born↔x.key=y.key):=by
 obtain ⟨a,ha⟩:=List.mem_iff_getElem?.1 hx;obtain ⟨b,hb⟩:=List.mem_iff_getElem?.1 hy
 have key:∀ {β:Type} (q:MapEntry→β),(es.toList.map q).Nodup→q x=q y→a=b:=fun q hn hq=>by
  (have ha':(es.toList.map q)[a]?=some (q x):=by rw [List.getElem?_map,ha];rfl); (have hb':(es.toList.map q)[b]?=some (q y):=by rw [List.getElem?_map,hb];rfl);exact (List.getElem?_inj (List.getElem?_eq_some_iff.1 ha').1 hn).1 (by rw [ha',hb',hq])
 constructor
 ·intro q;have:=key (·.born) h.st.2.1 q;subst this;rw [ha] at hb;cases hb;rfl
 ·intro q;have:=key (·.key) h.st.2.2 q;subst this;rw [ha] at hb;cases hb;rfl
variable {left:Int→Bool}{cnt:Nat}{cur:Option Int}
end
section
variable {α:Type}{f f0:Int→Option α}{p left:Int→Bool}{k:Int}{u:α}
end
instance:TyMi Tryz.prog 217 4 Value.bool false:=⟨⟨3,by kernel_rfl,by kernel_rfl,fun w=>by kernel_rfl⟩⟩
instance:TyMi Tryz.prog 196 3 (Value.int .i64) 0:=⟨⟨3,by kernel_rfl,by kernel_rfl,fun w=>by kernel_rfl⟩⟩
theorem zh6 {P:Program}(w:World)(g:Nat):∀(xs:List Int) (off:Nat) (acc:ByteArray),(∀i,i<xs.length→w.cell? ⟨g,off+i,none⟩=some (.int .u8 (nth xs i)))→(Extern.Bytes.loadBytes ⟨g,off,none⟩ xs.length acc).run P w= .ok ⟨acc.data++(i0 xs).toArray⟩ w
 | [],off,acc,_=>by simp [Extern.Bytes.loadBytes,i0]
 |x :: r,off,acc,h=>by
  have h0:=h 0 b3;have ih:=zh6 (P:=P) w g r (off+1) (acc.push x.toNat.toUInt8) (fun i hi=>by rw [Nat.add_assoc,Nat.add_comm 1 i];exact h (i+1) (by simpa using hi));rw [Nat.add_zero] at h0;simp [Extern.Bytes.loadBytes,h0,Addr.add,nth] at ih ⊢;rw [ih];simp [i0]
theorem zgR {P:Program}{w:World}{F:Frz}{v:Value}{xs:List Int}(hF:F.At w)(h:SlC F v 1 (xs.map (eK .u8))):(Extern.Bytes.bytesOf v).run P w= .ok ⟨(i0 xs).toArray⟩ w:=by
 obtain ⟨A,cap,rfl,h2,h3,h4,h5⟩:=h
 cases xs with
 |nil=>
  cases A with
  |none=>rfl
  |some b=>obtain ⟨g,p,q⟩:=b;rfl
 |cons z r=>
  obtain ⟨g,off,rfl,hg,hc⟩:=h5 b3;have hl:(List.map (eK .u8) (z :: r)).length=(z :: r).length:=List.length_map _;rw [hl]
  have:=zh6 (P:=P) w g (z :: r) off .empty (fun i hi=>by
   have h6:=jK hF hg (hc i (by rw [hl];exact hi)) 0 (by rw [zfJ hi];simp);rw [zfJ hi] at h6;rw [show off+i=off+i*1+0 by omega,h6]
   rfl)
  simp only [Extern.Bytes.bytesOf];rw [this];simp
def zcD (a b:List Int):Int:=Lib.compareBytes (i0 a) (i0 b)
theorem zka {P:Program}{w:World}{F:Frz}{v u:Value}{xs ys:List Int}(hF:F.At w)(h:SlC F v 1 (xs.map (eK .u8)))(k:SlC F u 1 (ys.map (eK .u8))):(Extern.BytealgCompare.compare #[v,u]).run P w= .ok (.int .i64 (zcD xs ys)) w:=by
 change Sem.run P (do pure (goInt (Extern.BytealgCompare.cmp (← Extern.Bytes.bytesOf v) (← Extern.Bytes.bytesOf u)))) w=_;simp only [Sem.run_bind,Sem.run_pure,Result.andThen,zgR hF h,zgR hF k];rw [Lib.cmp_eq]
 rfl
theorem zha (F0:Frz)(w:World)(hF0:F0.At w)(a:List Int)(va:Value)(ha:SlC F0 va 1 (a.map (eK .u8)))(b:List Int)(vb:Value)(hb:SlC F0 vb 1 (b.map (eK .u8))):Calls Tryz.prog 148 #[va,vb] w fun e w'=>e= .returned (.int .i64 (zcD a b))∧Below w.heap.size w w':=by
 haveI:=ha.oneC;haveI:=hb.oneC;obtain ⟨S0,F1,rfl,hS0,hp0⟩:=eH hF0;refine dT Tryz.func148 rfl rfl rfl hp0 ?_;refine jE ?_;refine ep ?_;refine cY (v:= .int .i64 (zcD a b)) (fun f w ha' hw=>?_) ?_
 ·unfold execOp;have h1:=ha'.ev (x:= .tmp 5) rfl;have h2:=ha'.ev (x:= .tmp 6) rfl;simp only [Act.eval] at h1 h2;simp [resolve,invoke,Deferred.ofValue,Act.eval,h1,h2];rw [run_callFunc_extern (by rfl) a8 a8 a8 (e:=Extern.BytealgCompare.compare) a8,zka (hw.fr (i:=0) rfl) ha hb]
  rfl
 refine gW ?_;exact eB
end Go.Proofs.YtmnjbhkcfghebaaGreatDoor
