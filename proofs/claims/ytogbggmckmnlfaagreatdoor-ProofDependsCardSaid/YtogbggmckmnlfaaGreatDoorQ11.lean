/- Yq R7 Pw Cv Lc Ga Gg Lq Na: shortened and put together by squeeze.py. -/
import Derived.Test.YtogbggmckmnlfaaGreatDoorQ10
set_option maxRecDepth 100000
set_option maxHeartbeats 4000000
set_option linter.unusedVariables false
set_option linter.unusedSectionVars false
set_option linter.unusedSimpArgs false
namespace Go.Proofs.YtogbggmckmnlfaaGreatDoor
open Go.RowKit
def zaK (l:List Int):Bool:=
 dL (fun (_:Unit)=>
  true)
 (fun k1=>
  da (fun (i_3:Nat) (next2:Unit→Bool) (_:Unit)=>
   (bif !(iq (cI l i_3)) then
    false
    else
    next2 ()))
  (fun (_:Unit)=>
   k1 ()) (l.length - 0) 0 ())
theorem zcy (F0:Frz)(w:World)(hF0:F0.At w)(l:List Int)(vl:Value)(hl:SlC F0 vl 1 (l.map eI)):Calls Tryz.prog 122 #[vl, .func (.func 79) #[] #[]] w fun e w'=>e= .returned (.bool (zaK l))∧Below w.heap.size w w':=by
 obtain ⟨r,hk⟩:∃r,zaK l=r:=⟨_,rfl⟩;rw [hk];unfold zaK at hk;haveI:=hl.oneC;obtain ⟨S0,F1,rfl,hS0,hp0⟩:=eX hF0;refine dv Tryz.func122 rfl rfl rfl hp0 ?_;refine i5 ?_;refine q2k ?_;have hm8:l.length≤9223372036854775807:=(List.length_map _)▸hl.max;refine dD ?_;have hq:=em hk;clear hk;obtain ⟨k1,hk1,hk⟩:=hq; (try dsimp only at hk);refine dc (ι:=Unit) (fun z=>[]) (fun z=>[.fr F1]) (fun z=>k1 ()=r) ?_ ?_
 ·have hq:=fx hk;clear hk;obtain ⟨f2,kk2,hf2,hkk2,hk⟩:=hq;refine fm ?_;refine T.loop (ι:=Nat) (fun z=>[(1, .func (.func 79) #[] #[]),(7,vl),(8, .int .i64 (l.length:Int)),(9, .int .i64 (z:Int))]) (fun z=>[.fr F1]) (fun z=>da f2 kk2 (l.length - z) z ()=r) (fun z=>l.length - z) 0 ?_ ?_ ?_ ?_
  ·exact hk
  ·exact q4o
  ·exact eQ
  ·rintro i_3 hk;refine eO ?_;refine T.cond rfl (fun h4=>?_) (fun h4=>?_)
   ·have p4:=of_decide_eq_true h4;rw [fw a5] at hk;generalize hn2:da f2 kk2 (l.length - (i_3+1)) (i_3+1)=next2 at hk;rw [←hf2] at hk; (try dsimp only at hk);refine fv ?_;refine q3O ?_;refine gy ?_;refine eh ?_;refine cT (cL rfl rfl rfl (fun w hw=>zdk _ w (hw.fr (i:=0) rfl) (cI l i_3))) ?_;refine eP ?_;refine dD ?_;refine T.cond rfl (fun h5=>?_) (fun h5=>?_)
    ·replace hk:=dp hk h5;refine iu ?_;subst hk;exact d7
    ·replace hk:=dn hk h5;refine gU ?_;rw [←hn2] at hk;exact K.next (i_3+1) hk a5 (.c (.c (.c (.c .nil)))) (List.Sublist.refl _)
   ·have p4:=of_decide_eq_false h4;rw [fA a5,←hkk2] at hk; (try dsimp only at hk);refine eF ?_;exact kx
 ·rintro _ hk;rw [←hk1] at hk; (try dsimp only at hk);refine kd ?_;subst hk;exact d7
def za3 (l:List Int):Option Bool:=
 dL (fun (_:Unit)=>
  some true)
 (fun k1=>
  da (fun (i_3:Nat) (next2:Unit→Option Bool) (_:Unit)=>
   eg (0≤((i_3:Int) - 1)∧((i_3:Int) - 1)<(l.length:Int)) <|
   (bif decide (0≤(za4 (cI l (((i_3:Int) - 1).toNat)) (cI l i_3))) then
    some false
    else
    next2 ()))
  (fun (_:Unit)=>
   k1 ()) (l.length - 1) 1 ())
theorem zc9 (F0:Frz)(w:World)(hF0:F0.At w)(l:List Int)(vl:Value)(hl:SlC F0 vl 1 (l.map eI))(r:Bool)(hr:za3 l=some r):Calls Tryz.prog 123 #[vl, .func (.func 107) #[] #[]] w fun e w'=>e= .returned (.bool r)∧Below w.heap.size w w':=by
 have hk:=hr;unfold za3 at hk;haveI:=hl.oneC;obtain ⟨S0,F1,rfl,hS0,hp0⟩:=eX hF0;refine dv Tryz.func123 rfl rfl rfl hp0 ?_;refine q3R ?_;have hq:=em hk;clear hk;obtain ⟨k1,hk1,hk⟩:=hq; (try dsimp only at hk);refine dc (ι:=Unit) (fun z=>[]) (fun z=>[.fr F1]) (fun z=>k1 ()=some r) ?_ ?_
 ·have hq:=fx hk;clear hk;obtain ⟨f2,kk2,hf2,hkk2,hk⟩:=hq;refine fm ?_;refine T.loop (ι:=Nat) (fun z=>[(0,vl),(1, .func (.func 107) #[] #[]),(5, .int .i64 (z:Int))]) (fun z=>[.fr F1]) (fun z=>da f2 kk2 (l.length - z) z ()=some r) (fun z=>l.length - z) 1 ?_ ?_ ?_ ?_
  ·exact hk
  ·exact q4m
  ·exact eQ
  ·rintro i_3 hk;refine mm ?_;refine q2k ?_;have hm8:l.length≤9223372036854775807:=(List.length_map _)▸hl.max;refine dD ?_;refine T.cond rfl (fun h4=>?_) (fun h4=>?_)
   ·have p4:=of_decide_eq_true h4;rw [fw a5] at hk;generalize hn2:da f2 kk2 (l.length - (i_3+1)) (i_3+1)=next2 at hk;rw [←hf2] at hk; (try dsimp only at hk);refine j1 ?_;have hq:(0≤((i_3:Int) - 1)∧((i_3:Int) - 1)<(l.length:Int))∧_:=fQ hk;clear hk;obtain ⟨g16,hk⟩:=hq; (try dsimp only at hk);refine q20 ?_;refine q13 ?_;refine q2X ?_;refine q2q ?_;refine dy ?_;refine c6 rfl (Wt.none) rfl rfl (cL rfl rfl rfl (fun w hw=>ze3 _ w (hw.fr (i:=0) rfl) (cI l (((i_3:Int) - 1).toNat)) (cI l i_3))) ?_;refine jZ ?_;refine j9 ?_;refine T.cond rfl (fun h5=>?_) (fun h5=>?_)
    ·have p5:=of_decide_eq_true h5;replace hk:=dp hk h5;refine iu ?_;obtain rfl:=Option.some.inj hk;exact d7
    ·have p5:=of_decide_eq_false h5;replace hk:=dn hk h5;refine im ?_;rw [←hn2] at hk;exact q4t
   ·have p4:=of_decide_eq_false h4;rw [fA a5,←hkk2] at hk; (try dsimp only at hk);refine eF ?_;exact kx
 ·rintro _ hk;rw [←hk1] at hk; (try dsimp only at hk);refine kd ?_;obtain rfl:=Option.some.inj hk;exact d7
def zaS (l:List Int):Option Bool:=
 dL (fun (x_1:Bool)=>
  some x_1)
 (fun k2=>
  (bif (zaK l) then
   (za3 l).bind fun r7=>
   k2 r7
   else
   k2 false))
theorem zcn (F0:Frz)(w:World)(hF0:F0.At w)(l:List Int)(vl:Value)(hl:SlC F0 vl 1 (l.map eI))(r:Bool)(hr:zaS l=some r):Calls Tryz.prog 77 #[vl] w fun e w'=>e= .returned (.bool r)∧Below w.heap.size w w':=by
 have hk:=hr;unfold zaS at hk;haveI:=hl.oneC;obtain ⟨S0,F1,rfl,hS0,hp0⟩:=eX hF0;refine dv Tryz.func77 rfl rfl rfl hp0 ?_;refine eO ?_; (try dsimp only at hk);have hq:=em hk;clear hk;obtain ⟨k2,hk2,hk⟩:=hq; (try dsimp only at hk);refine dc (ι:=Bool) (fun z=>[(2, .bool z)]) (fun z=>[.fr F1]) (fun z=>k2 z=some r) ?_ ?_
 ·refine it ?_;refine cT (cL rfl rfl rfl (fun w hw=>zcy _ w (hw.fr (i:=0) rfl) l vl hl)) ?_;refine jL ?_;refine dw rfl rfl rfl (fun h3=>?_) (fun h3=>?_)
  ·replace hk:=dp hk h3;refine dd ?_;have hq:=dZ hk;clear hk;obtain ⟨r7,hr7,hk⟩:=hq;refine cT (cL rfl rfl rfl (fun w hw=>zc9 _ w (hw.fr (i:=0) rfl) l vl hl r7 hr7)) ?_;refine lz ?_;exact cS r7 hk (.c .nil) (List.Sublist.refl _)
  ·replace hk:=dn hk h3;refine ku ?_;exact q4p
 ·rintro x_1 hk;rw [←hk2] at hk; (try dsimp only at hk);refine T.ret ?_;obtain rfl:=Option.some.inj hk;exact d7
def zb0 (l:List GChoice)(stations:List Int):Option (List GChoice×Int):=
 dL (fun (x_1:Bool)=>
  (bif x_1 then
   some ([],2)
   else
   (zbK stations).bind fun r21=>
   dL (fun (some_5:List GChoice)=>
    some (some_5,0))
   (fun k6=>
    da (fun (i_9:Nat) (next8:List GChoice→Option (List GChoice×Int)) (some_7:List GChoice)=>
     (lI r21.1 ((cI l i_9).Station)).bind fun r33=>
     (bif r33 then
      eg (dl (some_7++[(cI l i_9)]).length 16) <|
      next8 (some_7++[(cI l i_9)])
      else
      next8 some_7))
    (fun (some_7:List GChoice)=>
     k6 some_7) (l.length - 0) 0 [])))
 (fun k2=>
  (bif !(ll l) then
   k2 true
   else
   (zaS stations).bind fun r16=>
   k2 (!r16)))
theorem zgQ (F0:Frz)(w:World)(hF0:F0.At w)(l:List GChoice)(vl:Value)(hl:SlC F0 vl 2 (l.map cU))(stations:List Int)(vstations:Value)(hstations:SlC F0 vstations 1 (stations.map eI))(r:List GChoice×Int)(hr:zb0 l stations=some r):Calls Tryz.prog 40 #[vl,vstations] w fun e w'=>∃(y:Value) (G:Frz),(SlC G y 2 (r.1.map cU))∧e= .returned (.tuple #[y, .int .i64 r.2])∧Fx F0 w G w':=by
 have hk:=hr;unfold zb0 at hk;haveI:=hl.oneC;haveI:=hstations.oneC;obtain ⟨S0,F1,rfl,hS0,hp0⟩:=eX hF0;refine dv Tryz.func40 rfl rfl rfl hp0 ?_;refine jX ?_;refine q15 ?_; (try dsimp only at hk);have hq:=em hk;clear hk;obtain ⟨k2,hk2,hk⟩:=hq; (try dsimp only at hk);refine dc (ι:=Bool) (fun z=>[(0,vl),(1,vstations),(18, .bool z)]) (fun z=>[.fr F1]) (fun z=>k2 z=some r) ?_ ?_
 ·refine it ?_;refine cT (cL rfl rfl rfl (fun w hw=>zcg _ w (hw.fr (i:=0) rfl) l vl hl)) ?_;refine mi ?_;refine dw rfl rfl rfl (fun h3=>?_) (fun h3=>?_)
  ·replace hk:=dp hk h3;refine ku ?_;exact q4J
  ·replace hk:=dn hk h3;refine dd ?_;have hq:=dZ hk;clear hk;obtain ⟨r16,hr16,hk⟩:=hq;refine cT (cL rfl rfl rfl (fun w hw=>zcn _ w (hw.fr (i:=0) rfl) stations vstations hstations r16 hr16)) ?_;refine lz ?_;exact cS (!r16) hk (.c (.c (.c .nil))) (List.Sublist.refl _)
 ·rintro x_1 hk;rw [←hk2] at hk; (try dsimp only at hk);refine T.cond rfl (fun h4=>?_) (fun h4=>?_)
  ·replace hk:=dp hk h4;refine la ?_;obtain rfl:=Option.some.inj hk;exact eC rfl rfl rfl (fun w' hw=>⟨(.slice none 0 0),F1.toFrz,(SlC.nil _ 2),rfl,fN hw (i:=0) rfl hS0 (Frz.Le.refl _)⟩)
  ·replace hk:=dn hk h4;refine jf ?_;have hq:=dZ hk;clear hk;obtain ⟨r21,hr21,hk⟩:=hq; (try dsimp only at hk);refine it ?_;refine cT (cL rfl rfl rfl (fun w hw=>zdM _ w (hw.fr (i:=0) rfl) stations vstations hstations r21 hr21)) ?_;refine eP ?_;refine eM ?_;refine q1R ?_;rintro _ _ ⟨g6,rfl,rfl⟩;refine q1u ?_;refine ln ?_;refine TL.slNil 68 2 ?_;refine iS ?_;refine dd ?_;refine q2k ?_;have hm25:l.length≤9223372036854775807:=(List.length_map _)▸hl.max;refine dD ?_;have hq:=em hk;clear hk;obtain ⟨k6,hk6,hk⟩:=hq; (try dsimp only at hk);refine dc (ι:=List GChoice×Value) (fun z=>[(8,z.2)]) (fun z=>[.sl z.2 68 2 z.1.length (z.1.flatMap cU), .fr F1]) (fun z=>k6 z.1=some r∧OneC z.2) ?_ ?_
   ·have hq:=fx hk;clear hk;obtain ⟨f8,kk8,hf8,hkk8,hk⟩:=hq;refine fm ?_;refine T.loop (ι:=Nat×List GChoice×Value) (fun z=>[(6, .pointer (some ⟨g6,0,none⟩)),(8,z.2.2),(24,vl),(25, .int .i64 (l.length:Int)),(26, .int .i64 (z.1:Int))]) (fun z=>[.sl z.2.2 68 2 z.2.1.length (z.2.1.flatMap cU), .row g6 83 (r21.1.words.1.map U), .fr F1]) (fun z=>da f8 kk8 (l.length - z.1) z.1 z.2.1=some r∧OneC z.2.2) (fun z=>l.length - z.1) (0,[],(.slice none 0 0)) ?_ ?_ ?_ ?_
    ·exact ⟨hk,inferInstance⟩
    ·exact lQ
    ·exact eQ
    ·rintro ⟨i_9,some_7,vsome_7⟩ ⟨hk,osome_7⟩; (try dsimp only at *);refine eO ?_;refine T.cond rfl (fun h10=>?_) (fun h10=>?_)
     ·have p10:=of_decide_eq_true h10;rw [fw a5] at hk;generalize hn8:da f8 kk8 (l.length - (i_9+1)) (i_9+1)=next8 at hk;rw [←hf8] at hk; (try dsimp only at hk);refine fv ?_;refine cK (dg (i:=i_9) rfl rfl rfl hl (List.length_map _) rfl a5) ?_;refine cK (ep 2 (i:=i_9) rfl rfl rfl hl a5) ?_;refine gB ?_;rintro _ _ ⟨g10,rfl,rfl⟩;refine mn ?_;have hq:=dZ hk;clear hk;obtain ⟨r33,hr33,hk⟩:=hq; (try dsimp only at hk);refine eS ?_;refine cK (d5 2 rfl rfl rfl Vec.len) ?_;refine ef ?_;refine cT (cL rfl rfl rfl (fun w hw=>zaA _ w (hw.fr (i:=3) rfl) r21.1 ((cI l i_9).Station) r33 hr33)) ?_;refine eP ?_;refine c4 ?_;refine T.cond rfl (fun h11=>?_) (fun h11=>?_)
      ·replace hk:=dp hk h11;have hq:(dl (some_7++[(cI l i_9)]).length 16)∧_:=fQ hk;clear hk;obtain ⟨g37,hk⟩:=hq; (try dsimp only at hk);refine it ?_;refine ij ?_;refine j2 ?_;rintro _ _ ⟨g36,rfl,rfl⟩;refine cT (fK 2 0 rfl rfl rfl rfl rfl rfl (lg (ys:=[(cI l i_9)])) (zce (enc:=cU) (xs:=some_7) (ys:=[(cI l i_9)])) g37 a6) ?_;rintro v37 _ ⟨hv37,rfl⟩;refine dd ?_;refine ke ?_;rw [←hn8] at hk;refine K.pick [2,3,4] rfl a6 ?_;exact K.next ((i_9+1),(some_7++[(cI l i_9)]),v37) ⟨hk,inferInstance⟩ a9 (.c (.c (.c (.c (.c .nil))))) (List.Sublist.refl _)
      ·replace hk:=dn hk h11;refine gU ?_;rw [←hn8] at hk;refine q3x ?_;exact K.next ((i_9+1),some_7,vsome_7) ⟨hk,inferInstance⟩ a9 (.c (.c (.c (.c (.c .nil))))) (List.Sublist.refl _)
     ·have p10:=of_decide_eq_false h10;rw [fA a5,←hkk8] at hk; (try dsimp only at hk);refine eF ?_;refine K.pick [0,2] rfl a6 ?_;exact cS (some_7,vsome_7) ⟨hk,inferInstance⟩ (.c .nil) (List.Sublist.refl _)
   ·rintro ⟨some_5,vsome_5⟩ ⟨hk,osome_5⟩; (try dsimp only at *);rw [←hk6] at hk; (try dsimp only at hk);refine dk ?_;refine eM ?_;refine gb ?_;refine i0 (fun w hw=>hw.freezeS (i:=1) (j:=0) a6 rfl rfl) ?_;rintro F2 ⟨le1_2,hz2⟩;refine iG ?_;have hf2:=hz2.toF rfl GChoice.len;haveI:=hf2.oneC;obtain rfl:=Option.some.inj hk;exact eC rfl rfl rfl (fun w' hw=>⟨vsome_5,F2.toFrz,hf2,rfl,fN hw (i:=0) rfl hS0 le1_2⟩)
def zbs (p:GProblem):Option GSet:=
 eg (dl p.Domains.length 8) <|
 dL (fun (l_1:List Int)=>
  (zbK l_1).bind fun r28=>
  some r28.1)
 (fun k2=>
  da (fun (i_5:Nat) (next4:List Int→Option GSet) (l_3:List Int)=>
   eg (0≤(i_5:Int)∧(i_5:Int)<(l_3.length:Int)) <|
   next4 (l_3.set i_5 ((cI p.Domains i_5).Station)))
  (fun (l_3:List Int)=>
   k2 l_3) (p.Domains.length - 0) 0 (List.replicate p.Domains.length 0))
theorem zfE (F0:Frz)(w:World)(hF0:F0.At w)(p:GProblem)(vp_0:Value)(cp_0:List (List Value))(hp_0:SlD cJ F0 vp_0 2 cp_0 p.Domains)(vp_1:Value)(hp_1:SlC F0 vp_1 5 (p.Rules.Pairs.map cN))(vp_2:Value)(hp_2:SlC F0 vp_2 5 (p.Rules.Loads.map cO))(vp_3:Value)(hp_3:SlC F0 vp_3 4 (p.Rules.Caps.map cR))(r:GSet)(hr:zbs p=some r):Calls Tryz.prog 109 #[.agg [vp_0,vp_1,vp_2,vp_3].toArray] w fun e w'=>e= .returned (.agg (r.words.1.map U).toArray)∧Below w.heap.size w w':=by
 have hk:=hr;unfold zbs at hk;haveI:=hp_0.1.oneC;haveI:=hp_1.oneC;haveI:=hp_2.oneC;haveI:=hp_3.oneC;obtain ⟨S0,F1,rfl,hS0,hp0⟩:=eX hF0;refine dv Tryz.func109 rfl rfl rfl hp0 ?_;refine iW ?_;rintro _ _ ⟨g1,rfl,rfl⟩;refine q1R ?_;rintro _ _ ⟨g2,rfl,rfl⟩;refine ky ?_;have hq:(dl p.Domains.length 8)∧_:=fQ hk;clear hk;obtain ⟨g11,hk⟩:=hq; (try dsimp only at hk);refine eS ?_;refine lM ?_;refine q2o ?_;have hm10:p.Domains.length≤9223372036854775807:=hp_0.2.1▸hp_0.1.max;refine cT (Ew.cr (n':=p.Domains.length) (enc:=eI) (u:=0) rfl rfl rfl rfl g11 a6 a6 (fun _=>rfl) rfl) ?_;rintro v11 _ ⟨hv11,rfl⟩;refine fJ 0 rfl ?_;intro iv11 hmv11;refine jl ?_;refine mZ ?_;refine q2o ?_;refine dD ?_;have hq:=em hk;clear hk;obtain ⟨k2,hk2,hk⟩:=hq; (try dsimp only at hk);refine dc (ι:=List Int) (fun z=>[(2, .pointer (some ⟨g2,0,none⟩)),(3,v11)]) (fun z=>[.sl v11 3 1 z.length (z.flatMap eI), .row g2 83 ((Vec.fill 8 (0#64)).1.map U), .fr F1]) (fun z=>k2 z=some r) ?_ ?_
 ·have hq:=fx hk;clear hk;obtain ⟨f4,kk4,hf4,hkk4,hk⟩:=hq;refine fm ?_;refine T.pick [0,1,3] rfl a6 ?_;refine T.loop (ι:=Nat×List Int) (fun z=>[(2, .pointer (some ⟨g2,0,none⟩)),(3,v11),(13,vp_0),(14, .int .i64 (p.Domains.length:Int)),(15, .int .i64 (z.1:Int))]) (fun z=>[.sl v11 3 1 z.2.length (z.2.flatMap eI), .row g2 83 ((Vec.fill 8 (0#64)).1.map U), .fr F1]) (fun z=>da f4 kk4 (p.Domains.length - z.1) z.1 z.2=some r) (fun z=>p.Domains.length - z.1) (0,(List.replicate p.Domains.length 0)) ?_ ?_ ?_ ?_
  ·exact hk
  ·exact lQ
  ·exact eQ
  ·rintro ⟨i_5,l_3⟩ hk; (try dsimp only at *);refine eO ?_;refine T.cond rfl (fun h6=>?_) (fun h6=>?_)
   ·have p6:=of_decide_eq_true h6;rw [fw a5] at hk;generalize hn4:da f4 kk4 (p.Domains.length - (i_5+1)) (i_5+1)=next4 at hk;rw [←hf4] at hk; (try dsimp only at hk);refine fv ?_;refine dd ?_;refine q27 ?_;have hd19_1:=(GDomain.c1 (hp_0.2.2 i_5 a5)).2;haveI:=hd19_1.oneC;refine gB ?_;rintro _ _ ⟨g5,rfl,rfl⟩;refine dd ?_;refine kH ?_;refine c4 ?_;have hq:(0≤(i_5:Int)∧(i_5:Int)<(l_3.length:Int))∧_:=fQ hk;clear hk;obtain ⟨g24,hk⟩:=hq; (try dsimp only at hk);refine i1 ?_;refine ef ?_;refine cK (Yv.cg 1 (i:=i_5) rfl rfl rfl rfl rfl a5) ?_;refine ek (Ew.bR 1 (k':=(l_3.set i_5 ((cI p.Domains i_5).Station)).length) (l':=(l_3.set i_5 ((cI p.Domains i_5).Station)).flatMap eI) rfl rfl rfl rfl a5 (zgW (enc:=eI) (xs:=l_3) (i:=i_5) (j:=0) (size:=1) (fun _=>rfl) a5 a6 a5) (zil (enc:=eI) (xs:=l_3) (i:=i_5) (j:=0) (size:=1) (x:=((cI p.Domains i_5).Station)) (fun _=>rfl) a5 a6 a5 rfl) (List.length_set ..)) ?_;refine eP ?_;refine ke ?_;rw [←hn4] at hk;refine q3x ?_;exact K.next ((i_5+1),(l_3.set i_5 ((cI p.Domains i_5).Station))) hk a9 (.c (.c (.c (.c (.c .nil))))) (List.Sublist.refl _)
   ·have p6:=of_decide_eq_false h6;rw [fA a5,←hkk4] at hk; (try dsimp only at hk);refine eF ?_;exact cS l_3 hk (.c (.c .nil)) (List.Sublist.refl _)
 ·rintro l_1 hk;rw [←hk2] at hk; (try dsimp only at hk);refine T.seq ?_;have hq:=dZ hk;clear hk;obtain ⟨r28,hr28,hk⟩:=hq; (try dsimp only at hk);refine it ?_;refine cT (cL rfl rfl rfl (fun w hw=>(hw.bor (i:=2) (j:=0) rfl rfl).elim fun F9 b=>have le1_2:=b.1.le;zdM F9 w b.1.at_ l_1 v11 (b.2.toF rfl (fun _=>rfl)) r28 hr28)) ?_;refine eP ?_;refine eM ?_;refine q1R ?_;rintro _ _ ⟨g6,rfl,rfl⟩;refine q1u ?_;refine gy ?_;refine cK (d5 0 rfl rfl rfl Vec.len) ?_;refine ek (du 2 rfl rfl rfl rfl Vec.len (Vec.len.trans Vec.len.symm)) ?_;refine eP ?_;refine gb ?_;obtain rfl:=Option.some.inj hk;exact lh 2 rfl rfl rfl Vec.len (fun w' hw=>⟨rfl,hw.isBelow⟩)
def zbG (p:GProblem)(stations:List Int):Option (GProblem×Int):=
 dL (fun (x_1:Bool)=>
  (bif x_1 then
   some ((GProblem.mk [] (GRules.mk [] [] [])),2)
   else
   (zbK stations).bind fun r28=>
   (zbs p).bind fun r33=>
   (bif !(zan r28.1 r33) then
    some ((GProblem.mk [] (GRules.mk [] [] [])),9)
    else
    dL (fun (s10:List GDomain×List GPair×List GLoad×List GCap)=>
     dL (fun (s23:List GDomain×List GPair×List GLoad×List GCap)=>
      dL (fun (s39:List GDomain×List GPair×List GLoad×List GCap)=>
       dL (fun (s55:List GDomain×List GPair×List GLoad×List GCap)=>
        some ((GProblem.mk s55.1 (GRules.mk s55.2.1 s55.2.2.1 s55.2.2.2)),0))
       (fun k55=>
        da (fun (i_61:Nat) (next60:(List GDomain×List GPair×List GLoad×List GCap)→Option (GProblem×Int)) (s60:List GDomain×List GPair×List GLoad×List GCap)=>
         (lI r28.1 ((cI p.Rules.Caps i_61).Station)).bind fun r125=>
         (bif r125 then
          eg (dl (s60.2.2.2++[(cI p.Rules.Caps i_61)]).length 32) <|
          next60 (s60.1,s60.2.1,s60.2.2.1,(s60.2.2.2++[(cI p.Rules.Caps i_61)]))
          else
          next60 (s60.1,s60.2.1,s60.2.2.1,s60.2.2.2)))
        (fun (s60:List GDomain×List GPair×List GLoad×List GCap)=>
         k55 (s60.1,s60.2.1,s60.2.2.1,s60.2.2.2)) (p.Rules.Caps.length - 0) 0 (s39.1,s39.2.1,s39.2.2.1,s39.2.2.2)))
      (fun k39=>
       da (fun (i_45:Nat) (next44:(List GDomain×List GPair×List GLoad×List GCap)→Option (GProblem×Int)) (s44:List GDomain×List GPair×List GLoad×List GCap)=>
        (lI r28.1 ((cI p.Rules.Loads i_45).To)).bind fun r98=>
        dL (fun (x_47:Bool)=>
         (bif x_47 then
          eg (dl (s44.2.2.1++[(cI p.Rules.Loads i_45)]).length 40) <|
          next44 (s44.1,s44.2.1,(s44.2.2.1++[(cI p.Rules.Loads i_45)]),s44.2.2.2)
          else
          next44 (s44.1,s44.2.1,s44.2.2.1,s44.2.2.2)))
        (fun k48=>
         (bif r98 then
          (lI r28.1 ((cI p.Rules.Loads i_45).From)).bind fun r103=>
          k48 r103
          else
          k48 false)))
       (fun (s44:List GDomain×List GPair×List GLoad×List GCap)=>
        k39 (s44.1,s44.2.1,s44.2.2.1,s44.2.2.2)) (p.Rules.Loads.length - 0) 0 (s23.1,s23.2.1,s23.2.2.1,s23.2.2.2)))
     (fun k23=>
      da (fun (i_29:Nat) (next28:(List GDomain×List GPair×List GLoad×List GCap)→Option (GProblem×Int)) (s28:List GDomain×List GPair×List GLoad×List GCap)=>
       (lI r28.1 ((cI p.Rules.Pairs i_29).A)).bind fun r71=>
       dL (fun (x_31:Bool)=>
        (bif x_31 then
         eg (dl (s28.2.1++[(cI p.Rules.Pairs i_29)]).length 40) <|
         next28 (s28.1,(s28.2.1++[(cI p.Rules.Pairs i_29)]),s28.2.2.1,s28.2.2.2)
         else
         next28 (s28.1,s28.2.1,s28.2.2.1,s28.2.2.2)))
       (fun k32=>
        (bif r71 then
         (lI r28.1 ((cI p.Rules.Pairs i_29).B)).bind fun r76=>
         k32 r76
         else
         k32 false)))
      (fun (s28:List GDomain×List GPair×List GLoad×List GCap)=>
       k23 (s28.1,s28.2.1,s28.2.2.1,s28.2.2.2)) (p.Rules.Pairs.length - 0) 0 (s10.1,s10.2.1,s10.2.2.1,s10.2.2.2)))
    (fun k10=>
     da (fun (i_16:Nat) (next15:(List GDomain×List GPair×List GLoad×List GCap)→Option (GProblem×Int)) (s15:List GDomain×List GPair×List GLoad×List GCap)=>
      (lI r28.1 ((cI p.Domains i_16).Station)).bind fun r47=>
      (bif r47 then
       eg (dl (((cI p.Domains i_16).Channels).length) 8) <|
       eg (dl (s15.1++[(GDomain.mk ((cI p.Domains i_16).Station) ((cI p.Domains i_16).Channels))]).length 32) <|
       next15 ((s15.1++[(GDomain.mk ((cI p.Domains i_16).Station) ((cI p.Domains i_16).Channels))]),s15.2.1,s15.2.2.1,s15.2.2.2)
       else
       next15 (s15.1,s15.2.1,s15.2.2.1,s15.2.2.2)))
     (fun (s15:List GDomain×List GPair×List GLoad×List GCap)=>
      k10 (s15.1,s15.2.1,s15.2.2.1,s15.2.2.2)) (p.Domains.length - 0) 0 ([],[],[],[])))))
 (fun k2=>
  (bif !(gJ p) then
   k2 true
   else
   (zaS stations).bind fun r22=>
   k2 (!r22)))
theorem zfm (F0:Frz)(w:World)(hF0:F0.At w)(p:GProblem)(vp_0:Value)(cp_0:List (List Value))(hp_0:SlD cJ F0 vp_0 2 cp_0 p.Domains)(vp_1:Value)(hp_1:SlC F0 vp_1 5 (p.Rules.Pairs.map cN))(vp_2:Value)(hp_2:SlC F0 vp_2 5 (p.Rules.Loads.map cO))(vp_3:Value)(hp_3:SlC F0 vp_3 4 (p.Rules.Caps.map cR))(stations:List Int)(vstations:Value)(hstations:SlC F0 vstations 1 (stations.map eI))(r:GProblem×Int)(hr:zbG p stations=some r):Calls Tryz.prog 73 #[.agg [vp_0,vp_1,vp_2,vp_3].toArray,vstations] w fun e w'=>∃(y:Value×List (List Value)×Value×Value×Value) (G:Frz),(SlD cJ G y.1 2 y.2.1 r.1.Domains∧SlC G y.2.2.1 5 (r.1.Rules.Pairs.map cN)∧SlC G y.2.2.2.1 5 (r.1.Rules.Loads.map cO)∧SlC G y.2.2.2.2 4 (r.1.Rules.Caps.map cR))∧e= .returned (.tuple #[.agg [y.1,y.2.2.1,y.2.2.2.1,y.2.2.2.2].toArray, .int .i64 r.2])∧Fx F0 w G w':=by
 have hk:=hr;unfold zbG at hk;haveI:=hp_0.1.oneC;haveI:=hp_1.oneC;haveI:=hp_2.oneC;haveI:=hp_3.oneC;haveI:=hstations.oneC;obtain ⟨S0,F1,rfl,hS0,hp0⟩:=eX hF0;refine dv Tryz.func73 rfl rfl rfl hp0 ?_;refine iW ?_;rintro _ _ ⟨g2,rfl,rfl⟩;refine gB ?_;rintro _ _ ⟨g4,rfl,rfl⟩;refine q4a ?_; (try dsimp only at hk);have hq:=em hk;clear hk;obtain ⟨k2,hk2,hk⟩:=hq; (try dsimp only at hk);refine dc (ι:=Bool) (fun z=>[(1,vstations),(2, .pointer (some ⟨g2,0,none⟩)),(4, .pointer (some ⟨g4,0,none⟩)),(24, .bool z)]) (fun z=>[.row g4 29 [(.slice none 0 0),(.slice none 0 0),(.slice none 0 0),(.slice none 0 0)], .row g2 29 [vp_0,vp_1,vp_2,vp_3], .fr F1]) (fun z=>k2 z=some r) ?_ ?_
 ·refine mR ?_;refine cT (cL rfl rfl rfl (fun w hw=>zjT (p:=p) (hw.fr (i:=2) rfl) ⟨hp_0,hp_1,hp_2,hp_3⟩)) ?_;refine mi ?_;refine dw rfl rfl rfl (fun h3=>?_) (fun h3=>?_)
  ·replace hk:=dp hk h3;refine ku ?_;exact cS true hk (.c (.c (.c (.c .nil)))) (List.Sublist.refl _)
  ·replace hk:=dn hk h3;refine dd ?_;have hq:=dZ hk;clear hk;obtain ⟨r22,hr22,hk⟩:=hq;refine cT (cL rfl rfl rfl (fun w hw=>zcn _ w (hw.fr (i:=2) rfl) stations vstations hstations r22 hr22)) ?_;refine lz ?_;exact cS (!r22) hk (.c (.c (.c (.c .nil)))) (List.Sublist.refl _)
 ·rintro x_1 hk;rw [←hk2] at hk; (try dsimp only at hk);refine T.cond rfl (fun h4=>?_) (fun h4=>?_)
  ·replace hk:=dp hk h4;refine dk ?_;refine jq ?_;refine kH ?_;refine dd ?_;refine j8 ?_;obtain rfl:=Option.some.inj hk;exact q4Z
  ·replace hk:=dn hk h4;refine jf ?_;have hq:=dZ hk;clear hk;obtain ⟨r28,hr28,hk⟩:=hq; (try dsimp only at hk);refine it ?_;refine cT (cL rfl rfl rfl (fun w hw=>zdM _ w (hw.fr (i:=2) rfl) stations vstations hstations r28 hr28)) ?_;refine eP ?_;refine eM ?_;refine q1R ?_;rintro _ _ ⟨g6,rfl,rfl⟩;refine q1u ?_;refine q4a ?_;have hq:=dZ hk;clear hk;obtain ⟨r33,hr33,hk⟩:=hq; (try dsimp only at hk);refine dI (sN 0 2 (.eff 2 (.eff 3 (.still 4 .done)))) _ a7 (List.Sublist.refl _) ?_;refine cP rfl (d5 0 rfl rfl rfl Vec.len) ?_;refine cP rfl (d5 2) ?_;refine dy ?_;refine c6 rfl (Wt.none) rfl rfl (cL rfl rfl rfl (fun w hw=>zfE _ w (hw.fr (i:=3) rfl) p vp_0 cp_0 hp_0 vp_1 hp_1 vp_2 hp_2 vp_3 hp_3 r33 hr33)) ?_;refine jZ ?_;refine dy ?_;refine c6 rfl (Wt.none) rfl rfl (cL rfl rfl rfl (fun w hw=>zcv _ w (hw.fr (i:=3) rfl) r28.1 r33)) ?_;refine jZ ?_;refine j9 ?_;refine T.cond rfl (fun h5=>?_) (fun h5=>?_)
   ·replace hk:=dp hk h5;refine dk ?_;refine jq ?_;refine ek (du 1) ?_;refine jL ?_;refine j8 ?_;obtain rfl:=Option.some.inj hk;exact gX 1 rfl rfl rfl rfl rfl (fun w' hw=>⟨((.slice none 0 0),[],(.slice none 0 0),(.slice none 0 0),(.slice none 0 0)),F1.toFrz,⟨(SlD.nil _ _ 2),(SlC.nil _ 5),(SlC.nil _ 5),(SlC.nil _ 4)⟩,rfl,fN hw (i:=3) rfl hS0 (Frz.Le.refl _)⟩)
   ·replace hk:=dn hk h5;refine iD ?_;refine gB ?_;rintro _ _ ⟨g8,rfl,rfl⟩;refine TL.slNil 98 2 ?_;refine TL.slNil 100 5 ?_;refine TL.slNil 102 5 ?_;refine TL.slNil 104 4 ?_;refine iS ?_;refine q2S ?_;refine q2o ?_;have hm39:p.Domains.length≤9223372036854775807:=hp_0.2.1▸hp_0.1.max;refine dD ?_;have hq:=em hk;clear hk;obtain ⟨k10,hk10,hk⟩:=hq; (try dsimp only at hk);refine dc (ι:=List GDomain×Value×List (List Value)×List GPair×Value×List GLoad×Value×List GCap×Value×FzB w (fun _=>False) S0) (fun z=>[(2, .pointer (some ⟨g2,0,none⟩)),(4, .pointer (some ⟨g4,0,none⟩)),(6, .pointer (some ⟨g6,0,none⟩)),(8, .pointer (some ⟨g8,0,none⟩))]) (fun z=>[.sl z.2.1 98 2 z.1.length z.2.2.1.flatten, .sl z.2.2.2.2.1 100 5 z.2.2.2.1.length (z.2.2.2.1.flatMap cN), .sl z.2.2.2.2.2.2.1 102 5 z.2.2.2.2.2.1.length (z.2.2.2.2.2.1.flatMap cO), .sl z.2.2.2.2.2.2.2.2.1 104 4 z.2.2.2.2.2.2.2.1.length (z.2.2.2.2.2.2.2.1.flatMap cR), .row g8 29 [z.2.1,z.2.2.2.2.1,z.2.2.2.2.2.2.1,z.2.2.2.2.2.2.2.2.1], .row g6 83 (r28.1.words.1.map U), .row g4 29 [(.slice none 0 0),(.slice none 0 0),(.slice none 0 0),(.slice none 0 0)], .row g2 29 [vp_0,vp_1,vp_2,vp_3], .fr z.2.2.2.2.2.2.2.2.2]) (fun z=>k10 (z.1,z.2.2.2.1,z.2.2.2.2.2.1,z.2.2.2.2.2.2.2.1)=some r∧OwnD cJ z.2.2.2.2.2.2.2.2.2.toFrz 2 z.2.2.1 z.1∧OneC z.2.1∧OneC z.2.2.2.2.1∧OneC z.2.2.2.2.2.2.1∧OneC z.2.2.2.2.2.2.2.2.1∧F1.toFrz.Le z.2.2.2.2.2.2.2.2.2.toFrz) ?_ ?_
    ·have hq:=fx hk;clear hk;obtain ⟨f15,kk15,hf15,hkk15,hk⟩:=hq;refine fm ?_;refine T.pick [3,2,1,0,4,5,6,7,8] rfl a6 ?_;refine T.loop (ι:=Nat×List GDomain×Value×List (List Value)×List GPair×Value×List GLoad×Value×List GCap×Value×FzB w (fun _=>False) S0) (fun z=>[(2, .pointer (some ⟨g2,0,none⟩)),(4, .pointer (some ⟨g4,0,none⟩)),(6, .pointer (some ⟨g6,0,none⟩)),(8, .pointer (some ⟨g8,0,none⟩)),(38,vp_0),(39, .int .i64 (p.Domains.length:Int)),(40, .int .i64 (z.1:Int))]) (fun z=>[.sl z.2.2.1 98 2 z.2.1.length z.2.2.2.1.flatten, .sl z.2.2.2.2.2.1 100 5 z.2.2.2.2.1.length (z.2.2.2.2.1.flatMap cN), .sl z.2.2.2.2.2.2.2.1 102 5 z.2.2.2.2.2.2.1.length (z.2.2.2.2.2.2.1.flatMap cO), .sl z.2.2.2.2.2.2.2.2.2.1 104 4 z.2.2.2.2.2.2.2.2.1.length (z.2.2.2.2.2.2.2.2.1.flatMap cR), .row g8 29 [z.2.2.1,z.2.2.2.2.2.1,z.2.2.2.2.2.2.2.1,z.2.2.2.2.2.2.2.2.2.1], .row g6 83 (r28.1.words.1.map U), .row g4 29 [(.slice none 0 0),(.slice none 0 0),(.slice none 0 0),(.slice none 0 0)], .row g2 29 [vp_0,vp_1,vp_2,vp_3], .fr z.2.2.2.2.2.2.2.2.2.2]) (fun z=>da f15 kk15 (p.Domains.length - z.1) z.1 (z.2.1,z.2.2.2.2.1,z.2.2.2.2.2.2.1,z.2.2.2.2.2.2.2.2.1)=some r∧OwnD cJ z.2.2.2.2.2.2.2.2.2.2.toFrz 2 z.2.2.2.1 z.2.1∧OneC z.2.2.1∧OneC z.2.2.2.2.2.1∧OneC z.2.2.2.2.2.2.2.1∧OneC z.2.2.2.2.2.2.2.2.2.1∧F1.toFrz.Le z.2.2.2.2.2.2.2.2.2.2.toFrz) (fun z=>p.Domains.length - z.1) (0,[],(.slice none 0 0),[],[],(.slice none 0 0),[],(.slice none 0 0),[],(.slice none 0 0),F1) ?_ ?_ ?_ ?_
     ·exact q40
     ·exact q4F
     ·exact eQ
     ·rintro ⟨i_16,c_11,vc_11,cc_11,c_12,vc_12,c_13,vc_13,c_14,vc_14,F3⟩ ⟨hk,hc_11,oc_11,oc_12,oc_13,oc_14,le1_3⟩; (try dsimp only at *);refine eO ?_;refine T.cond rfl (fun h17=>?_) (fun h17=>?_)
      ·have p17:=of_decide_eq_true h17;rw [fw a5] at hk;generalize hn15:da f15 kk15 (p.Domains.length - (i_16+1)) (i_16+1)=next15 at hk;rw [←hf15] at hk; (try dsimp only at hk);refine fv ?_;refine cK (dg (i:=i_16) rfl rfl rfl (SlD.mono (rep:=cJ) (fun _ _ _ _=>GDomain.mono) hp_0 le1_3).1 (SlD.mono (rep:=cJ) (fun _ _ _ _=>GDomain.mono) hp_0 le1_3).2.1 rfl a5) ?_;refine cK (kr 8 (i:=i_16) (j:=0) rfl rfl rfl (SlD.mono (rep:=cJ) (fun _ _ _ _=>GDomain.mono) hp_0 le1_3).1 (SlD.mono (rep:=cJ) (fun _ _ _ _=>GDomain.mono) hp_0 le1_3).2.1 a5 rfl (fE ((SlD.mono (rep:=cJ) (fun _ _ _ _=>GDomain.mono) hp_0 le1_3).2.2 i_16 a5)) rfl) ?_;have hd43_1:=(GDomain.c1 ((SlD.mono (rep:=cJ) (fun _ _ _ _=>GDomain.mono) hp_0 le1_3).2.2 i_16 a5)).2;haveI:=hd43_1.oneC;refine gB ?_;rintro _ _ ⟨g10,rfl,rfl⟩;refine mn ?_;have hq:=dZ hk;clear hk;obtain ⟨r47,hr47,hk⟩:=hq; (try dsimp only at hk);refine eS ?_;refine q2C ?_;refine cT (cL rfl rfl rfl (fun w hw=>zaA _ w (hw.fr (i:=9) rfl) r28.1 ((cI p.Domains i_16).Station) r47 hr47)) ?_;refine eP ?_;refine c4 ?_;refine T.cond rfl (fun h18=>?_) (fun h18=>?_)
       ·replace hk:=dp hk h18;have hq:(dl (((cI p.Domains i_16).Channels).length) 8)∧_:=fQ hk;clear hk;obtain ⟨g54,hk⟩:=hq;have hq:(dl (c_11++[(GDomain.mk ((cI p.Domains i_16).Station) ((cI p.Domains i_16).Channels))]).length 32)∧_:=fQ hk;clear hk;obtain ⟨g57,hk⟩:=hq; (try dsimp only at hk);refine dI (.still 0 (.still 2 (.still 3 (.still 4 (.still 5 (.two 1 6 (.eff 6 (.still 7 (.eff 8 (.eff 9 (.still 10 (.eff 11 .done)))))) (.still 7 (.two 1 8 (.eff 8 (.eff 9 (.still 10 (.eff 11 .done)))) (.eff 1 (.eff 9 (.still 10 (.eff 11 .done)))))))))))) [.row g10 98 [.int .i64 ((cI p.Domains i_16).Station),(cI (cI cp_0 i_16) 1)], .sl vc_12 100 5 c_12.length (c_12.flatMap cN), .sl vc_13 102 5 c_13.length (c_13.flatMap cO), .sl vc_14 104 4 c_14.length (c_14.flatMap cR), .row g6 83 (r28.1.words.1.map U), .row g4 29 [(.slice none 0 0),(.slice none 0 0),(.slice none 0 0),(.slice none 0 0)], .row g2 29 [vp_0,vp_1,vp_2,vp_3], .fr F3] a7 Sx ?_;refine fT ?_;refine fq ?_;refine fq ?_;refine TS.two ?_ ?_
        ·refine q1W ?_;refine q3G ?_;rintro _ _ ⟨v54_,F4,le3_4,hf54,hq,rfl⟩;obtain rfl:=hq.symm;have le1_4:=le1_3.trans le3_4;haveI:=hf54.oneC;refine ⟨(fun w hw=>(hw.frLe (i:=9) rfl le3_4).sub Sx),?_⟩;refine cP rfl (Yv.build) ?_;refine dy ?_;refine my ?_;rintro _ _ ⟨g56,rfl,rfl⟩;have hl56:OwnD cJ F4.toFrz 2 [[.int .i64 ((cI p.Domains i_16).Station),v54_]] [(GDomain.mk ((cI p.Domains i_16).Station) ((cI p.Domains i_16).Channels))]:=(de (OwnD.nil _ _ 2) ⟨_,rfl,hf54⟩);refine ⟨(fun w hw=>(hw.frLe (i:=10) rfl le3_4).sub Sx),?_⟩;refine q1l ?_;rintro v57 _ ⟨hv57,rfl⟩;have ho57:OwnD cJ F4.toFrz 2 (cc_11++[[.int .i64 ((cI p.Domains i_16).Station),v54_]]) (c_11++[(GDomain.mk ((cI p.Domains i_16).Station) ((cI p.Domains i_16).Channels))]):=(de (OwnD.mono (rep:=cJ) (fun _ _ _ _=>GDomain.mono) hc_11 le3_4) ⟨_,rfl,hf54⟩);refine ⟨(fun w hw=>(hw.frLe (i:=10) rfl le3_4).sub Sx),?_⟩;refine q3e ?_;refine ⟨(fun w hw=>(hw.frLe (i:=10) rfl le3_4).sub Sx),?_⟩;refine q1x ?_;rw [←hn15] at hk;refine q3z ?_;exact K.next ((i_16+1),(c_11++[(GDomain.mk ((cI p.Domains i_16).Station) ((cI p.Domains i_16).Channels))]),v57,(cc_11++[[.int .i64 ((cI p.Domains i_16).Station),v54_]]),c_12,vc_12,c_13,vc_13,c_14,vc_14,F4) ⟨hk,ho57,inferInstance,inferInstance,inferInstance,inferInstance,le1_4⟩ a9 (.c (.c (.c (.c (.c (.c (.c .nil))))))) (List.Sublist.refl _)
        ·refine q3G ?_;rintro _ _ ⟨v54_,F5,le3_5,hf54,hq,rfl⟩;obtain rfl:=hq.symm;have le1_5:=le1_3.trans le3_5;haveI:=hf54.oneC;refine ⟨(fun w hw=>(hw.frLe (i:=9) rfl le3_5).sub Sx),?_⟩;refine cP rfl (Yv.build) ?_;refine TS.two ?_ ?_
         ·refine ga rfl (Wt.none) rfl rfl (c7 5) (fun w hw=>(hw.frLe (i:=9) rfl le3_5).sub Sx) ?_;refine dy ?_;refine my ?_;rintro _ _ ⟨g56,rfl,rfl⟩;have hl56:OwnD cJ F5.toFrz 2 [[.int .i64 ((cI p.Domains i_16).Station),v54_]] [(GDomain.mk ((cI p.Domains i_16).Station) ((cI p.Domains i_16).Channels))]:=(de (OwnD.nil _ _ 2) ⟨_,rfl,hf54⟩);refine q2v ?_;refine q1l ?_;rintro v57 _ ⟨hv57,rfl⟩;have ho57:OwnD cJ F5.toFrz 2 (cc_11++[[.int .i64 ((cI p.Domains i_16).Station),v54_]]) (c_11++[(GDomain.mk ((cI p.Domains i_16).Station) ((cI p.Domains i_16).Channels))]):=(de (OwnD.mono (rep:=cJ) (fun _ _ _ _=>GDomain.mono) hc_11 le3_5) ⟨_,rfl,hf54⟩);refine q2v ?_;refine q3e ?_;refine q2v ?_;refine q1x ?_;rw [←hn15] at hk;refine q3z ?_;exact q49
         ·refine my ?_;rintro _ _ ⟨g56,rfl,rfl⟩;have hl56:OwnD cJ F5.toFrz 2 [[.int .i64 ((cI p.Domains i_16).Station),v54_]] [(GDomain.mk ((cI p.Domains i_16).Station) ((cI p.Domains i_16).Channels))]:=(de (OwnD.nil _ _ 2) ⟨_,rfl,hf54⟩);refine q2v ?_;refine dy ?_;refine ga rfl (Wt.none) rfl rfl (c7 6) (fun w hw=>(hw.frLe (i:=10) rfl le3_5).sub Sx) ?_;refine q1l ?_;rintro v57 _ ⟨hv57,rfl⟩;have ho57:OwnD cJ F5.toFrz 2 (cc_11++[[.int .i64 ((cI p.Domains i_16).Station),v54_]]) (c_11++[(GDomain.mk ((cI p.Domains i_16).Station) ((cI p.Domains i_16).Channels))]):=(de (OwnD.mono (rep:=cJ) (fun _ _ _ _=>GDomain.mono) hc_11 le3_5) ⟨_,rfl,hf54⟩);refine q2v ?_;refine q3e ?_;refine q2v ?_;refine q1x ?_;rw [←hn15] at hk;refine q3z ?_;exact q49
       ·replace hk:=dn hk h18;refine gU ?_;rw [←hn15] at hk;refine K.pick [1,2,3,4,5,6,7,8,9] rfl a6 ?_;exact K.next ((i_16+1),c_11,vc_11,cc_11,c_12,vc_12,c_13,vc_13,c_14,vc_14,F3) ⟨hk,hc_11,inferInstance,inferInstance,inferInstance,inferInstance,le1_3⟩ a9 (.c (.c (.c (.c (.c (.c (.c .nil))))))) (List.Sublist.refl _)
      ·have p17:=of_decide_eq_false h17;rw [fA a5,←hkk15] at hk; (try dsimp only at hk);refine eF ?_;exact cS (c_11,vc_11,cc_11,c_12,vc_12,c_13,vc_13,c_14,vc_14,F3) ⟨hk,hc_11,inferInstance,inferInstance,inferInstance,inferInstance,le1_3⟩ (.c (.c (.c (.c .nil)))) (List.Sublist.refl _)
    ·rintro ⟨c_6,vc_6,cc_6,c_7,vc_7,c_8,vc_8,c_9,vc_9,F2⟩ ⟨hk,hc_6,oc_6,oc_7,oc_8,oc_9,le1_2⟩; (try dsimp only at *);rw [←hk10] at hk; (try dsimp only at hk);refine jp ?_;refine fj ?_;refine q2S ?_;refine cK (dh rfl rfl (SlC.mono hp_1 le1_2) (List.length_map _)) ?_;have hm63:p.Rules.Pairs.length≤9223372036854775807:=(List.length_map _)▸(SlC.mono hp_1 le1_2).max;refine dD ?_;have hq:=em hk;clear hk;obtain ⟨k23,hk23,hk⟩:=hq; (try dsimp only at hk);refine dc (ι:=List GDomain×Value×List (List Value)×List GPair×Value×List GLoad×Value×List GCap×Value) (fun z=>[(2, .pointer (some ⟨g2,0,none⟩)),(4, .pointer (some ⟨g4,0,none⟩)),(6, .pointer (some ⟨g6,0,none⟩)),(8, .pointer (some ⟨g8,0,none⟩))]) (fun z=>[.sl z.2.1 98 2 z.1.length z.2.2.1.flatten, .sl z.2.2.2.2.1 100 5 z.2.2.2.1.length (z.2.2.2.1.flatMap cN), .sl z.2.2.2.2.2.2.1 102 5 z.2.2.2.2.2.1.length (z.2.2.2.2.2.1.flatMap cO), .sl z.2.2.2.2.2.2.2.2 104 4 z.2.2.2.2.2.2.2.1.length (z.2.2.2.2.2.2.2.1.flatMap cR), .row g8 29 [z.2.1,z.2.2.2.2.1,z.2.2.2.2.2.2.1,z.2.2.2.2.2.2.2.2], .row g6 83 (r28.1.words.1.map U), .row g4 29 [(.slice none 0 0),(.slice none 0 0),(.slice none 0 0),(.slice none 0 0)], .row g2 29 [vp_0,vp_1,vp_2,vp_3], .fr F2]) (fun z=>k23 (z.1,z.2.2.2.1,z.2.2.2.2.2.1,z.2.2.2.2.2.2.2.1)=some r∧OwnD cJ F2.toFrz 2 z.2.2.1 z.1∧OneC z.2.1∧OneC z.2.2.2.2.1∧OneC z.2.2.2.2.2.2.1∧OneC z.2.2.2.2.2.2.2.2) ?_ ?_
     ·have hq:=fx hk;clear hk;obtain ⟨f28,kk28,hf28,hkk28,hk⟩:=hq;refine fm ?_;refine T.loop (ι:=Nat×List GDomain×Value×List (List Value)×List GPair×Value×List GLoad×Value×List GCap×Value) (fun z=>[(2, .pointer (some ⟨g2,0,none⟩)),(4, .pointer (some ⟨g4,0,none⟩)),(6, .pointer (some ⟨g6,0,none⟩)),(8, .pointer (some ⟨g8,0,none⟩)),(62,vp_1),(63, .int .i64 (p.Rules.Pairs.length:Int)),(64, .int .i64 (z.1:Int))]) (fun z=>[.sl z.2.2.1 98 2 z.2.1.length z.2.2.2.1.flatten, .sl z.2.2.2.2.2.1 100 5 z.2.2.2.2.1.length (z.2.2.2.2.1.flatMap cN), .sl z.2.2.2.2.2.2.2.1 102 5 z.2.2.2.2.2.2.1.length (z.2.2.2.2.2.2.1.flatMap cO), .sl z.2.2.2.2.2.2.2.2.2 104 4 z.2.2.2.2.2.2.2.2.1.length (z.2.2.2.2.2.2.2.2.1.flatMap cR), .row g8 29 [z.2.2.1,z.2.2.2.2.2.1,z.2.2.2.2.2.2.2.1,z.2.2.2.2.2.2.2.2.2], .row g6 83 (r28.1.words.1.map U), .row g4 29 [(.slice none 0 0),(.slice none 0 0),(.slice none 0 0),(.slice none 0 0)], .row g2 29 [vp_0,vp_1,vp_2,vp_3], .fr F2]) (fun z=>da f28 kk28 (p.Rules.Pairs.length - z.1) z.1 (z.2.1,z.2.2.2.2.1,z.2.2.2.2.2.2.1,z.2.2.2.2.2.2.2.2.1)=some r∧OwnD cJ F2.toFrz 2 z.2.2.2.1 z.2.1∧OneC z.2.2.1∧OneC z.2.2.2.2.2.1∧OneC z.2.2.2.2.2.2.2.1∧OneC z.2.2.2.2.2.2.2.2.2) (fun z=>p.Rules.Pairs.length - z.1) (0,c_6,vc_6,cc_6,c_7,vc_7,c_8,vc_8,c_9,vc_9) ?_ ?_ ?_ ?_
      ·exact ⟨hk,hc_6,inferInstance,inferInstance,inferInstance,inferInstance⟩
      ·exact q4F
      ·exact eQ
      ·rintro ⟨i_29,c_24,vc_24,cc_24,c_25,vc_25,c_26,vc_26,c_27,vc_27⟩ ⟨hk,hc_24,oc_24,oc_25,oc_26,oc_27⟩; (try dsimp only at *);refine eO ?_;refine T.cond rfl (fun h30=>?_) (fun h30=>?_)
       ·have p30:=of_decide_eq_true h30;rw [fw a5] at hk;generalize hn28:da f28 kk28 (p.Rules.Pairs.length - (i_29+1)) (i_29+1)=next28 at hk;rw [←hf28] at hk; (try dsimp only at hk);refine fv ?_;refine cK (dg (i:=i_29) rfl rfl rfl (SlC.mono hp_1 le1_2) (List.length_map _) rfl a5) ?_;refine cK (ep 8 (i:=i_29) rfl rfl rfl (SlC.mono hp_1 le1_2) a5) ?_;refine gB ?_;rintro _ _ ⟨g12,rfl,rfl⟩;refine mn ?_;have hq:=dZ hk;clear hk;obtain ⟨r71,hr71,hk⟩:=hq; (try dsimp only at hk);have hq:=em hk;clear hk;obtain ⟨k32,hk32,hk⟩:=hq; (try dsimp only at hk);refine dc (ι:=Bool) (fun z=>[(2, .pointer (some ⟨g2,0,none⟩)),(4, .pointer (some ⟨g4,0,none⟩)),(6, .pointer (some ⟨g6,0,none⟩)),(8, .pointer (some ⟨g8,0,none⟩)),(12, .pointer (some ⟨g12,0,none⟩)),(62,vp_1),(63, .int .i64 (p.Rules.Pairs.length:Int)),(64, .int .i64 (i_29:Int)),(77, .bool z)]) (fun z=>[.row g12 100 [.int .i64 ((cI p.Rules.Pairs i_29).A), .int .i64 ((cI p.Rules.Pairs i_29).B), .int .i64 ((cI p.Rules.Pairs i_29).Offset), .int .i64 ((cI p.Rules.Pairs i_29).Low), .int .i64 ((cI p.Rules.Pairs i_29).High)], .sl vc_24 98 2 c_24.length cc_24.flatten, .sl vc_25 100 5 c_25.length (c_25.flatMap cN), .sl vc_26 102 5 c_26.length (c_26.flatMap cO), .sl vc_27 104 4 c_27.length (c_27.flatMap cR), .row g8 29 [vc_24,vc_25,vc_26,vc_27], .row g6 83 (r28.1.words.1.map U), .row g4 29 [(.slice none 0 0),(.slice none 0 0),(.slice none 0 0),(.slice none 0 0)], .row g2 29 [vp_0,vp_1,vp_2,vp_3], .fr F2]) (fun z=>k32 z=some r) ?_ ?_
        ·refine eS ?_;refine q2C ?_;refine cT (cL rfl rfl rfl (fun w hw=>zaA _ w (hw.fr (i:=9) rfl) r28.1 ((cI p.Rules.Pairs i_29).A) r71 hr71)) ?_;refine jL ?_;refine dw rfl rfl rfl (fun h33=>?_) (fun h33=>?_)
         ·replace hk:=dp hk h33;refine q2C ?_;have hq:=dZ hk;clear hk;obtain ⟨r76,hr76,hk⟩:=hq;refine cT (cL rfl rfl rfl (fun w hw=>zaA _ w (hw.fr (i:=9) rfl) r28.1 ((cI p.Rules.Pairs i_29).B) r76 hr76)) ?_;refine jL ?_;refine fG ?_;exact cS r76 hk (.c (.c (.c (.c (.c (.c (.c (.c (.c .nil))))))))) (List.Sublist.refl _)
         ·replace hk:=dn hk h33;refine lO ?_;exact q5a
        ·rintro x_31 hk;rw [←hk32] at hk; (try dsimp only at hk);refine T.cond rfl (fun h34=>?_) (fun h34=>?_)
         ·replace hk:=dp hk h34;have hq:(dl (c_25++[(cI p.Rules.Pairs i_29)]).length 40)∧_:=fQ hk;clear hk;obtain ⟨g83,hk⟩:=hq; (try dsimp only at hk);refine q2Z ?_;rintro _ _ ⟨g82,rfl,rfl⟩;refine cT (fK 3 0 rfl rfl rfl rfl rfl rfl (lg (ys:=[(cI p.Rules.Pairs i_29)])) (zce (enc:=cN) (xs:=c_25) (ys:=[(cI p.Rules.Pairs i_29)])) g83 a6) ?_;rintro v83 _ ⟨hv83,rfl⟩;refine q29 ?_;rw [←hn28] at hk;refine q3z ?_;exact K.next ((i_29+1),c_24,vc_24,cc_24,(c_25++[(cI p.Rules.Pairs i_29)]),v83,c_26,vc_26,c_27,vc_27) ⟨hk,hc_24,inferInstance,inferInstance,inferInstance,inferInstance⟩ a9 (.c (.c (.c (.c (.c (.c (.c .nil))))))) (List.Sublist.refl _)
         ·replace hk:=dn hk h34;refine gU ?_;rw [←hn28] at hk;refine K.pick [1,2,3,4,5,6,7,8,9] rfl a6 ?_;exact K.next ((i_29+1),c_24,vc_24,cc_24,c_25,vc_25,c_26,vc_26,c_27,vc_27) ⟨hk,hc_24,inferInstance,inferInstance,inferInstance,inferInstance⟩ a9 (.c (.c (.c (.c (.c (.c (.c .nil))))))) (List.Sublist.refl _)
       ·have p30:=of_decide_eq_false h30;rw [fA a5,←hkk28] at hk; (try dsimp only at hk);refine eF ?_;exact cS (c_24,vc_24,cc_24,c_25,vc_25,c_26,vc_26,c_27,vc_27) ⟨hk,hc_24,inferInstance,inferInstance,inferInstance,inferInstance⟩ (.c (.c (.c (.c .nil)))) (List.Sublist.refl _)
     ·rintro ⟨c_19,vc_19,cc_19,c_20,vc_20,c_21,vc_21,c_22,vc_22⟩ ⟨hk,hc_19,oc_19,oc_20,oc_21,oc_22⟩; (try dsimp only at *);rw [←hk23] at hk; (try dsimp only at hk);refine jp ?_;refine fj ?_;refine q2S ?_;refine cK (dh rfl rfl (SlC.mono hp_2 le1_2) (List.length_map _)) ?_;have hm90:p.Rules.Loads.length≤9223372036854775807:=(List.length_map _)▸(SlC.mono hp_2 le1_2).max;refine dD ?_;have hq:=em hk;clear hk;obtain ⟨k39,hk39,hk⟩:=hq; (try dsimp only at hk);refine dc (ι:=List GDomain×Value×List (List Value)×List GPair×Value×List GLoad×Value×List GCap×Value) (fun z=>[(2, .pointer (some ⟨g2,0,none⟩)),(4, .pointer (some ⟨g4,0,none⟩)),(6, .pointer (some ⟨g6,0,none⟩)),(8, .pointer (some ⟨g8,0,none⟩))]) (fun z=>[.sl z.2.1 98 2 z.1.length z.2.2.1.flatten, .sl z.2.2.2.2.1 100 5 z.2.2.2.1.length (z.2.2.2.1.flatMap cN), .sl z.2.2.2.2.2.2.1 102 5 z.2.2.2.2.2.1.length (z.2.2.2.2.2.1.flatMap cO), .sl z.2.2.2.2.2.2.2.2 104 4 z.2.2.2.2.2.2.2.1.length (z.2.2.2.2.2.2.2.1.flatMap cR), .row g8 29 [z.2.1,z.2.2.2.2.1,z.2.2.2.2.2.2.1,z.2.2.2.2.2.2.2.2], .row g6 83 (r28.1.words.1.map U), .row g4 29 [(.slice none 0 0),(.slice none 0 0),(.slice none 0 0),(.slice none 0 0)], .row g2 29 [vp_0,vp_1,vp_2,vp_3], .fr F2]) (fun z=>k39 (z.1,z.2.2.2.1,z.2.2.2.2.2.1,z.2.2.2.2.2.2.2.1)=some r∧OwnD cJ F2.toFrz 2 z.2.2.1 z.1∧OneC z.2.1∧OneC z.2.2.2.2.1∧OneC z.2.2.2.2.2.2.1∧OneC z.2.2.2.2.2.2.2.2) ?_ ?_
      ·have hq:=fx hk;clear hk;obtain ⟨f44,kk44,hf44,hkk44,hk⟩:=hq;refine fm ?_;refine T.loop (ι:=Nat×List GDomain×Value×List (List Value)×List GPair×Value×List GLoad×Value×List GCap×Value) (fun z=>[(2, .pointer (some ⟨g2,0,none⟩)),(4, .pointer (some ⟨g4,0,none⟩)),(6, .pointer (some ⟨g6,0,none⟩)),(8, .pointer (some ⟨g8,0,none⟩)),(89,vp_2),(90, .int .i64 (p.Rules.Loads.length:Int)),(91, .int .i64 (z.1:Int))]) (fun z=>[.sl z.2.2.1 98 2 z.2.1.length z.2.2.2.1.flatten, .sl z.2.2.2.2.2.1 100 5 z.2.2.2.2.1.length (z.2.2.2.2.1.flatMap cN), .sl z.2.2.2.2.2.2.2.1 102 5 z.2.2.2.2.2.2.1.length (z.2.2.2.2.2.2.1.flatMap cO), .sl z.2.2.2.2.2.2.2.2.2 104 4 z.2.2.2.2.2.2.2.2.1.length (z.2.2.2.2.2.2.2.2.1.flatMap cR), .row g8 29 [z.2.2.1,z.2.2.2.2.2.1,z.2.2.2.2.2.2.2.1,z.2.2.2.2.2.2.2.2.2], .row g6 83 (r28.1.words.1.map U), .row g4 29 [(.slice none 0 0),(.slice none 0 0),(.slice none 0 0),(.slice none 0 0)], .row g2 29 [vp_0,vp_1,vp_2,vp_3], .fr F2]) (fun z=>da f44 kk44 (p.Rules.Loads.length - z.1) z.1 (z.2.1,z.2.2.2.2.1,z.2.2.2.2.2.2.1,z.2.2.2.2.2.2.2.2.1)=some r∧OwnD cJ F2.toFrz 2 z.2.2.2.1 z.2.1∧OneC z.2.2.1∧OneC z.2.2.2.2.2.1∧OneC z.2.2.2.2.2.2.2.1∧OneC z.2.2.2.2.2.2.2.2.2) (fun z=>p.Rules.Loads.length - z.1) (0,c_19,vc_19,cc_19,c_20,vc_20,c_21,vc_21,c_22,vc_22) ?_ ?_ ?_ ?_
       ·exact ⟨hk,hc_19,inferInstance,inferInstance,inferInstance,inferInstance⟩
       ·exact q4F
       ·exact eQ
       ·rintro ⟨i_45,c_40,vc_40,cc_40,c_41,vc_41,c_42,vc_42,c_43,vc_43⟩ ⟨hk,hc_40,oc_40,oc_41,oc_42,oc_43⟩; (try dsimp only at *);refine eO ?_;refine T.cond rfl (fun h46=>?_) (fun h46=>?_)
        ·have p46:=of_decide_eq_true h46;rw [fw a5] at hk;generalize hn44:da f44 kk44 (p.Rules.Loads.length - (i_45+1)) (i_45+1)=next44 at hk;rw [←hf44] at hk; (try dsimp only at hk);refine fv ?_;refine cK (dg (i:=i_45) rfl rfl rfl (SlC.mono hp_2 le1_2) (List.length_map _) rfl a5) ?_;refine cK (ep 8 (i:=i_45) rfl rfl rfl (SlC.mono hp_2 le1_2) a5) ?_;refine gB ?_;rintro _ _ ⟨g14,rfl,rfl⟩;refine mn ?_;have hq:=dZ hk;clear hk;obtain ⟨r98,hr98,hk⟩:=hq; (try dsimp only at hk);have hq:=em hk;clear hk;obtain ⟨k48,hk48,hk⟩:=hq; (try dsimp only at hk);refine dc (ι:=Bool) (fun z=>[(2, .pointer (some ⟨g2,0,none⟩)),(4, .pointer (some ⟨g4,0,none⟩)),(6, .pointer (some ⟨g6,0,none⟩)),(8, .pointer (some ⟨g8,0,none⟩)),(14, .pointer (some ⟨g14,0,none⟩)),(89,vp_2),(90, .int .i64 (p.Rules.Loads.length:Int)),(91, .int .i64 (i_45:Int)),(104, .bool z)]) (fun z=>[.row g14 102 [.int .i64 ((cI p.Rules.Loads i_45).To), .int .i64 ((cI p.Rules.Loads i_45).From), .int .i64 ((cI p.Rules.Loads i_45).Weight), .int .i64 ((cI p.Rules.Loads i_45).Low), .int .i64 ((cI p.Rules.Loads i_45).High)], .sl vc_40 98 2 c_40.length cc_40.flatten, .sl vc_41 100 5 c_41.length (c_41.flatMap cN), .sl vc_42 102 5 c_42.length (c_42.flatMap cO), .sl vc_43 104 4 c_43.length (c_43.flatMap cR), .row g8 29 [vc_40,vc_41,vc_42,vc_43], .row g6 83 (r28.1.words.1.map U), .row g4 29 [(.slice none 0 0),(.slice none 0 0),(.slice none 0 0),(.slice none 0 0)], .row g2 29 [vp_0,vp_1,vp_2,vp_3], .fr F2]) (fun z=>k48 z=some r) ?_ ?_
         ·refine eS ?_;refine q2C ?_;refine cT (cL rfl rfl rfl (fun w hw=>zaA _ w (hw.fr (i:=9) rfl) r28.1 ((cI p.Rules.Loads i_45).To) r98 hr98)) ?_;refine jL ?_;refine dw rfl rfl rfl (fun h49=>?_) (fun h49=>?_)
          ·replace hk:=dp hk h49;refine q2C ?_;have hq:=dZ hk;clear hk;obtain ⟨r103,hr103,hk⟩:=hq;refine cT (cL rfl rfl rfl (fun w hw=>zaA _ w (hw.fr (i:=9) rfl) r28.1 ((cI p.Rules.Loads i_45).From) r103 hr103)) ?_;refine jL ?_;refine fG ?_;exact cS r103 hk (.c (.c (.c (.c (.c (.c (.c (.c (.c .nil))))))))) (List.Sublist.refl _)
          ·replace hk:=dn hk h49;refine lO ?_;exact q5a
         ·rintro x_47 hk;rw [←hk48] at hk; (try dsimp only at hk);refine T.cond rfl (fun h50=>?_) (fun h50=>?_)
          ·replace hk:=dp hk h50;have hq:(dl (c_42++[(cI p.Rules.Loads i_45)]).length 40)∧_:=fQ hk;clear hk;obtain ⟨g110,hk⟩:=hq; (try dsimp only at hk);refine q2Z ?_;rintro _ _ ⟨g109,rfl,rfl⟩;refine cT (fK 4 0 rfl rfl rfl rfl rfl rfl (lg (ys:=[(cI p.Rules.Loads i_45)])) (zce (enc:=cO) (xs:=c_42) (ys:=[(cI p.Rules.Loads i_45)])) g110 a6) ?_;rintro v110 _ ⟨hv110,rfl⟩;refine q29 ?_;rw [←hn44] at hk;refine q3z ?_;exact K.next ((i_45+1),c_40,vc_40,cc_40,c_41,vc_41,(c_42++[(cI p.Rules.Loads i_45)]),v110,c_43,vc_43) ⟨hk,hc_40,inferInstance,inferInstance,inferInstance,inferInstance⟩ a9 (.c (.c (.c (.c (.c (.c (.c .nil))))))) (List.Sublist.refl _)
          ·replace hk:=dn hk h50;refine gU ?_;rw [←hn44] at hk;refine K.pick [1,2,3,4,5,6,7,8,9] rfl a6 ?_;exact K.next ((i_45+1),c_40,vc_40,cc_40,c_41,vc_41,c_42,vc_42,c_43,vc_43) ⟨hk,hc_40,inferInstance,inferInstance,inferInstance,inferInstance⟩ a9 (.c (.c (.c (.c (.c (.c (.c .nil))))))) (List.Sublist.refl _)
        ·have p46:=of_decide_eq_false h46;rw [fA a5,←hkk44] at hk; (try dsimp only at hk);refine eF ?_;exact cS (c_40,vc_40,cc_40,c_41,vc_41,c_42,vc_42,c_43,vc_43) ⟨hk,hc_40,inferInstance,inferInstance,inferInstance,inferInstance⟩ (.c (.c (.c (.c .nil)))) (List.Sublist.refl _)
      ·rintro ⟨c_35,vc_35,cc_35,c_36,vc_36,c_37,vc_37,c_38,vc_38⟩ ⟨hk,hc_35,oc_35,oc_36,oc_37,oc_38⟩; (try dsimp only at *);rw [←hk39] at hk; (try dsimp only at hk);refine jp ?_;refine fj ?_;refine q2S ?_;refine cK (dh rfl rfl (SlC.mono hp_3 le1_2) (List.length_map _)) ?_;have hm117:p.Rules.Caps.length≤9223372036854775807:=(List.length_map _)▸(SlC.mono hp_3 le1_2).max;refine dD ?_;have hq:=em hk;clear hk;obtain ⟨k55,hk55,hk⟩:=hq; (try dsimp only at hk);refine dc (ι:=List GDomain×Value×List (List Value)×List GPair×Value×List GLoad×Value×List GCap×Value) (fun z=>[(4, .pointer (some ⟨g4,0,none⟩)),(8, .pointer (some ⟨g8,0,none⟩))]) (fun z=>[.sl z.2.1 98 2 z.1.length z.2.2.1.flatten, .sl z.2.2.2.2.1 100 5 z.2.2.2.1.length (z.2.2.2.1.flatMap cN), .sl z.2.2.2.2.2.2.1 102 5 z.2.2.2.2.2.1.length (z.2.2.2.2.2.1.flatMap cO), .sl z.2.2.2.2.2.2.2.2 104 4 z.2.2.2.2.2.2.2.1.length (z.2.2.2.2.2.2.2.1.flatMap cR), .row g8 29 [z.2.1,z.2.2.2.2.1,z.2.2.2.2.2.2.1,z.2.2.2.2.2.2.2.2], .row g4 29 [(.slice none 0 0),(.slice none 0 0),(.slice none 0 0),(.slice none 0 0)], .fr F2]) (fun z=>k55 (z.1,z.2.2.2.1,z.2.2.2.2.2.1,z.2.2.2.2.2.2.2.1)=some r∧OwnD cJ F2.toFrz 2 z.2.2.1 z.1∧OneC z.2.1∧OneC z.2.2.2.2.1∧OneC z.2.2.2.2.2.2.1∧OneC z.2.2.2.2.2.2.2.2) ?_ ?_
       ·have hq:=fx hk;clear hk;obtain ⟨f60,kk60,hf60,hkk60,hk⟩:=hq;refine fm ?_;refine T.pick [0,1,2,3,4,5,6,8] rfl a6 ?_;refine T.loop (ι:=Nat×List GDomain×Value×List (List Value)×List GPair×Value×List GLoad×Value×List GCap×Value) (fun z=>[(4, .pointer (some ⟨g4,0,none⟩)),(6, .pointer (some ⟨g6,0,none⟩)),(8, .pointer (some ⟨g8,0,none⟩)),(116,vp_3),(117, .int .i64 (p.Rules.Caps.length:Int)),(118, .int .i64 (z.1:Int))]) (fun z=>[.sl z.2.2.1 98 2 z.2.1.length z.2.2.2.1.flatten, .sl z.2.2.2.2.2.1 100 5 z.2.2.2.2.1.length (z.2.2.2.2.1.flatMap cN), .sl z.2.2.2.2.2.2.2.1 102 5 z.2.2.2.2.2.2.1.length (z.2.2.2.2.2.2.1.flatMap cO), .sl z.2.2.2.2.2.2.2.2.2 104 4 z.2.2.2.2.2.2.2.2.1.length (z.2.2.2.2.2.2.2.2.1.flatMap cR), .row g8 29 [z.2.2.1,z.2.2.2.2.2.1,z.2.2.2.2.2.2.2.1,z.2.2.2.2.2.2.2.2.2], .row g6 83 (r28.1.words.1.map U), .row g4 29 [(.slice none 0 0),(.slice none 0 0),(.slice none 0 0),(.slice none 0 0)], .fr F2]) (fun z=>da f60 kk60 (p.Rules.Caps.length - z.1) z.1 (z.2.1,z.2.2.2.2.1,z.2.2.2.2.2.2.1,z.2.2.2.2.2.2.2.2.1)=some r∧OwnD cJ F2.toFrz 2 z.2.2.2.1 z.2.1∧OneC z.2.2.1∧OneC z.2.2.2.2.2.1∧OneC z.2.2.2.2.2.2.2.1∧OneC z.2.2.2.2.2.2.2.2.2) (fun z=>p.Rules.Caps.length - z.1) (0,c_35,vc_35,cc_35,c_36,vc_36,c_37,vc_37,c_38,vc_38) ?_ ?_ ?_ ?_
        ·exact ⟨hk,hc_35,inferInstance,inferInstance,inferInstance,inferInstance⟩
        ·exact (.c (.c (.c (.c (.c (.c .nil))))))
        ·exact eQ
        ·rintro ⟨i_61,c_56,vc_56,cc_56,c_57,vc_57,c_58,vc_58,c_59,vc_59⟩ ⟨hk,hc_56,oc_56,oc_57,oc_58,oc_59⟩; (try dsimp only at *);refine eO ?_;refine T.cond rfl (fun h62=>?_) (fun h62=>?_)
         ·have p62:=of_decide_eq_true h62;rw [fw a5] at hk;generalize hn60:da f60 kk60 (p.Rules.Caps.length - (i_61+1)) (i_61+1)=next60 at hk;rw [←hf60] at hk; (try dsimp only at hk);refine fv ?_;refine cK (dg (i:=i_61) rfl rfl rfl (SlC.mono hp_3 le1_2) (List.length_map _) rfl a5) ?_;refine cK (ep 7 (i:=i_61) rfl rfl rfl (SlC.mono hp_3 le1_2) a5) ?_;refine gB ?_;rintro _ _ ⟨g16,rfl,rfl⟩;refine mn ?_;have hq:=dZ hk;clear hk;obtain ⟨r125,hr125,hk⟩:=hq; (try dsimp only at hk);refine eS ?_;refine q2C ?_;refine cT (cL rfl rfl rfl (fun w hw=>zaA _ w (hw.fr (i:=8) rfl) r28.1 ((cI p.Rules.Caps i_61).Station) r125 hr125)) ?_;refine eP ?_;refine c4 ?_;refine T.cond rfl (fun h63=>?_) (fun h63=>?_)
          ·replace hk:=dp hk h63;have hq:(dl (c_59++[(cI p.Rules.Caps i_61)]).length 32)∧_:=fQ hk;clear hk;obtain ⟨g131,hk⟩:=hq; (try dsimp only at hk);refine q2Z ?_;rintro _ _ ⟨g130,rfl,rfl⟩;refine cT (fK 5 0 rfl rfl rfl rfl rfl rfl (lg (ys:=[(cI p.Rules.Caps i_61)])) (zce (enc:=cR) (xs:=c_59) (ys:=[(cI p.Rules.Caps i_61)])) g131 a6) ?_;rintro v131 _ ⟨hv131,rfl⟩;refine q29 ?_;rw [←hn60] at hk;refine K.pick [2,3,4,5,6,7,8,9] rfl a6 ?_;exact K.next ((i_61+1),c_56,vc_56,cc_56,c_57,vc_57,c_58,vc_58,(c_59++[(cI p.Rules.Caps i_61)]),v131) ⟨hk,hc_56,inferInstance,inferInstance,inferInstance,inferInstance⟩ a9 (.c (.c (.c (.c (.c (.c .nil)))))) (List.Sublist.refl _)
          ·replace hk:=dn hk h63;refine gU ?_;rw [←hn60] at hk;refine q2d ?_;exact K.next ((i_61+1),c_56,vc_56,cc_56,c_57,vc_57,c_58,vc_58,c_59,vc_59) ⟨hk,hc_56,inferInstance,inferInstance,inferInstance,inferInstance⟩ a9 (.c (.c (.c (.c (.c (.c .nil)))))) (List.Sublist.refl _)
         ·have p62:=of_decide_eq_false h62;rw [fA a5,←hkk60] at hk; (try dsimp only at hk);refine eF ?_;refine K.pick [0,1,2,3,4,6,7] rfl a6 ?_;exact cS (c_56,vc_56,cc_56,c_57,vc_57,c_58,vc_58,c_59,vc_59) ⟨hk,hc_56,inferInstance,inferInstance,inferInstance,inferInstance⟩ (.c (.c .nil)) (List.Sublist.refl _)
       ·rintro ⟨c_51,vc_51,cc_51,c_52,vc_52,c_53,vc_53,c_54,vc_54⟩ ⟨hk,hc_51,oc_51,oc_52,oc_53,oc_54⟩; (try dsimp only at *);rw [←hk55] at hk; (try dsimp only at hk);refine q23 ?_;rintro F6 ⟨le2_6,hz6⟩;refine iG ?_;have le1_6:=le1_2.trans le2_6;have hf6:=hz6.toD (OwnD.mono (rep:=cJ) (fun _ _ _ _=>GDomain.mono) hc_51 le2_6) rfl;haveI:=hf6.1.oneC;refine i0 (fun w hw=>hw.freezeS (i:=5) (j:=0) a6 rfl rfl) ?_;rintro F7 ⟨le6_7,hz7⟩;refine iG ?_;have le1_7:=le1_6.trans le6_7;have hf7:=hz7.toF rfl GPair.len;haveI:=hf7.oneC;refine i0 (fun w hw=>hw.freezeS (i:=4) (j:=0) a6 rfl rfl) ?_;rintro F8 ⟨le7_8,hz8⟩;refine iG ?_;have le1_8:=le1_7.trans le7_8;have le6_8:=le6_7.trans le7_8;have hf8:=hz8.toF rfl GLoad.len;haveI:=hf8.oneC;refine i0 (fun w hw=>hw.freezeS (i:=3) (j:=0) a6 rfl rfl) ?_;rintro F9 ⟨le8_9,hz9⟩;refine iG ?_;have le1_9:=le1_8.trans le8_9;have le6_9:=le6_8.trans le8_9;have le7_9:=le7_8.trans le8_9;have hf9:=hz9.toF rfl GCap.len;haveI:=hf9.oneC;obtain rfl:=Option.some.inj hk;exact gX 1 rfl rfl rfl rfl rfl (fun w' hw=>⟨(vc_51,cc_51,vc_52,vc_53,vc_54),F9.toFrz,⟨(SlD.mono (rep:=cJ) (fun _ _ _ _=>GDomain.mono) hf6 le6_9),(SlC.mono hf7 le7_9),(SlC.mono hf8 le8_9),hf9⟩,rfl,fN hw (i:=2) rfl hS0 le1_9⟩)
def zcE (low:Int)(high:Int):Bool:=
 (((decide (2≤low))&&(decide (low≤high)))&&(decide (high≤51)))
def zbi (c:GPair):Bool:=
 (((((iq c.A)&&(iq c.B))&&(decide (c.A<c.B)))&&(lJ c.Offset (-1) 1))&&(zcE c.Low c.High))
def zbk (c:GLoad):Bool:=
 (((((iq c.To)&&(iq c.From))&&(decide (¬c.To=c.From)))&&(lJ c.Weight 1 1073741824))&&(zcE c.Low c.High))
def zbt (c:GCap):Bool:=
 (((iq c.Station)&&(lJ c.Max 0 1099511627776))&&(zcE c.Low c.High))
def mY (c:Int):Bool:=
 (lJ c 2 51)
def kq:List Int→List Int→Bool
 |a :: x,b :: y=>if a=b then kq x y else decide (a<b)
 |_,_=>false
theorem zj9 {x y:List Int}{k:Nat}(h:k<x.length)(h2:k<y.length):kq (x.drop k) (y.drop k)=if cI x k=cI y k then kq (x.drop (k+1)) (y.drop (k+1)) else decide (cI x k<cI y k):=by
 rw [List.drop_eq_getElem_cons h,List.drop_eq_getElem_cons h2,dS h,dS h2];rfl
def zhM (ds:List Dx)(s:Int):Int:=match ds.findIdx? (fun d=>decide (d.st=s)) with|some i=>(i:Int)|none=> -1
theorem gg {n a b:Int}:inB n a b=true↔a≤n∧n≤b:=by simp [inB]
def zhA (xs:List Pr)(k:Nat):Bool:=decide ((inB (cI xs k).a 0 511=true∧inB (cI xs k).b 0 511=true∧(cI xs k).a<(cI xs k).b∧ -1≤(cI xs k).off∧(cI xs k).off≤1∧eU (cI xs k).lo (cI xs k).hi=true)∧(0<k→kq [(cI xs (k - 1)).a,(cI xs (k - 1)).b,(cI xs (k - 1)).off,(cI xs (k - 1)).lo,(cI xs (k - 1)).hi] [(cI xs k).a,(cI xs k).b,(cI xs k).off,(cI xs k).lo,(cI xs k).hi]=true))
def zhs (xs:List Ld)(k:Nat):Bool:=decide ((inB (cI xs k).to 0 511=true∧inB (cI xs k).fr 0 511=true∧¬(cI xs k).to=(cI xs k).fr∧1≤(cI xs k).wt∧(cI xs k).wt≤1073741824∧eU (cI xs k).lo (cI xs k).hi=true)∧(0<k→kq [(cI xs (k - 1)).to,(cI xs (k - 1)).fr,(cI xs (k - 1)).wt,(cI xs (k - 1)).lo,(cI xs (k - 1)).hi] [(cI xs k).to,(cI xs k).fr,(cI xs k).wt,(cI xs k).lo,(cI xs k).hi]=true))
def zhv (xs:List Cp)(k:Nat):Bool:=decide ((inB (cI xs k).st 0 511=true∧0≤(cI xs k).mx∧(cI xs k).mx≤1099511627776∧eU (cI xs k).lo (cI xs k).hi=true)∧(0<k→kq [(cI xs (k - 1)).st,(cI xs (k - 1)).mx,(cI xs (k - 1)).lo,(cI xs (k - 1)).hi] [(cI xs k).st,(cI xs k).mx,(cI xs k).lo,(cI xs k).hi]=true))
def zg7 (P:Pb):Bool:=decide (P.ps.length≤4096∧P.ls.length≤1024∧P.cs.length≤1024)&&((List.range P.ps.length).all (zhA P.ps)&&((List.range P.ls.length).all (zhs P.ls)&&(List.range P.cs.length).all (zhv P.cs)))
def zij (cs:List Int)(j:Nat):Bool:=decide (2≤cI cs j∧cI cs j≤51∧(0<j→cI cs (j - 1)<cI cs j))
def zj6 (ds:List Dx)(k:Nat):Bool:=decide ((inB (cI ds k).st 0 511=true∧(0<k→(cI ds (k - 1)).st<(cI ds k).st)∧(cI ds k).chs.length≤50)∧(List.range (cI ds k).chs.length).all (zij (cI ds k).chs)=true)
def zkj (P:Pb)(k:Nat):Bool:=decide (0≤zhM P.ds (cI P.ps k).a∧0≤zhM P.ds (cI P.ps k).b)
def zkq (P:Pb)(k:Nat):Bool:=decide (0≤zhM P.ds (cI P.ls k).to∧0≤zhM P.ds (cI P.ls k).fr)
def zkx (P:Pb)(k:Nat):Bool:=decide (0≤zhM P.ds (cI P.cs k).st)
def zlD (P:Pb):Bool:=decide (P.ds.length≤512)&&(zg7 P&&((List.range P.ds.length).all (zj6 P.ds)&&((List.range P.ps.length).all (zkj P)&&((List.range P.ls.length).all (zkq P)&&(List.range P.cs.length).all (zkx P)))))
theorem zga {α:Type}[Inhabited α]{c:α→α→Int}{xs:List α}:ft c xs=true↔∀k,0<k→k<xs.length→c (cI xs (k - 1)) (cI xs k)<0:=by
 unfold ft;rw [List.all_eq_true];constructor
 ·intro h k h0 hk;have:=h k (List.mem_range.2 hk);simp only [Bool.or_eq_true,decide_eq_true_eq,Bool.not_eq_true',decide_eq_false_iff_not] at this;omega
 ·intro h k hk;simp only [Bool.or_eq_true,decide_eq_true_eq,Bool.not_eq_true',decide_eq_false_iff_not];by_cases h0:k=0
  ·exact .inl h0
  ·have:=h k a5 (List.mem_range.1 hk);exact .inr a5
theorem iy {f:Nat→Bool}{n:Nat}:(List.range n).all f=true↔∀k,k<n→f k=true:=by
 rw [List.all_eq_true];exact ⟨fun h k hk=>h k (List.mem_range.2 hk),fun h k hk=>h k (List.mem_range.1 hk)⟩
theorem zfi {a b:Int}:dN a b<0↔a<b:=by unfold dN;split <;> (try split) <;> omega
theorem jO {a b:Int}:dN a b=0↔a=b:=by unfold dN;split <;> (try split) <;> omega
theorem zhi:∀(xs ys:List Int),xs.length=ys.length→(kq xs ys=true↔mh (List.zipWith dN xs ys)<0)
 | [],[],_=>by simp [kq,mh]
 |a :: x,b :: y,h=>by
  have ih:=zhi x y (by simpa using h);unfold kq;rw [List.zipWith_cons_cons];unfold mh;by_cases e:a=b
  ·rw [if_pos e,if_pos (jO.2 e)];exact ih
  ·rw [if_neg e,if_neg (fun hh=>e (jO.1 hh)),zfi,decide_eq_true_eq]
 | [],_ :: _,h=>by simp at h
 |_ :: _,[],h=>by simp at h
theorem zlI {xs:List Pr}{k:Nat}:zhA xs k=true↔(cI xs k).ok=true∧(0<k→Pr.cmp (cI xs (k - 1)) (cI xs k)<0):=by
 have e:=zhi [(cI xs (k - 1)).a,(cI xs (k - 1)).b,(cI xs (k - 1)).off,(cI xs (k - 1)).lo,(cI xs (k - 1)).hi] [(cI xs k).a,(cI xs k).b,(cI xs k).off,(cI xs k).lo,(cI xs k).hi] rfl;simp only [zhA,decide_eq_true_eq,e,Pr.ok,Bool.and_eq_true,gg,Pr.cmp,List.zipWith,and_assoc]
theorem zlG {xs:List Ld}{k:Nat}:zhs xs k=true↔(cI xs k).ok=true∧(0<k→Ld.cmp (cI xs (k - 1)) (cI xs k)<0):=by
 have e:=zhi [(cI xs (k - 1)).to,(cI xs (k - 1)).fr,(cI xs (k - 1)).wt,(cI xs (k - 1)).lo,(cI xs (k - 1)).hi] [(cI xs k).to,(cI xs k).fr,(cI xs k).wt,(cI xs k).lo,(cI xs k).hi] rfl;simp only [zhs,decide_eq_true_eq,e,Ld.ok,Bool.and_eq_true,gg,Ld.cmp,List.zipWith,and_assoc]
theorem zlK {xs:List Cp}{k:Nat}:zhv xs k=true↔(cI xs k).ok=true∧(0<k→Cp.cmp (cI xs (k - 1)) (cI xs k)<0):=by
 have e:=zhi [(cI xs (k - 1)).st,(cI xs (k - 1)).mx,(cI xs (k - 1)).lo,(cI xs (k - 1)).hi] [(cI xs k).st,(cI xs k).mx,(cI xs k).lo,(cI xs k).hi] rfl;simp only [zhv,decide_eq_true_eq,e,Cp.ok,Bool.and_eq_true,gg,Cp.cmp,List.zipWith,and_assoc]
theorem zf2 {α:Type}[Inhabited α]{r:List α→Nat→Bool}{q:α→Bool}{c:α→α→Int}{xs:List α}(h:∀k,r xs k=true↔q (cI xs k)=true∧(0<k→c (cI xs (k - 1)) (cI xs k)<0)):(List.range xs.length).all (r xs)=true↔fL q xs=true∧ft c xs=true:=by
 rw [iy,zeY,zga];exact ⟨fun hh=>⟨fun k hk=>((h k).1 (hh k hk)).1,fun k h0 hk=>((h k).1 (hh k hk)).2 h0⟩,fun hh k hk=>(h k).2 ⟨hh.1 k hk,fun h0=>hh.2 k h0 hk⟩⟩
theorem zlu (P:Pb):zg7 P=P.rulesOk:=by
 rw [Bool.eq_iff_iff];simp only [zg7,Pb.rulesOk,Bool.and_eq_true,decide_eq_true_eq,zf2 (r:=zhA) (q:=Pr.ok) (c:=Pr.cmp) (xs:=P.ps) (fun k=>zlI),zf2 (r:=zhs) (q:=Ld.ok) (c:=Ld.cmp) (xs:=P.ls) (fun k=>zlG),zf2 (r:=zhv) (q:=Cp.ok) (c:=Cp.cmp) (xs:=P.cs) (fun k=>zlK)];constructor
 ·rintro ⟨⟨h1,h2,h3⟩,⟨h4,h5⟩,⟨h6,h7⟩,h8,h9⟩;exact ⟨by omega,h4,h5,by omega,h6,h7,by omega,h8,h9⟩
 ·rintro ⟨h1,h4,h5,h2,h6,h7,h3,h8,h9⟩;exact ⟨⟨by omega,by omega,by omega⟩,⟨h4,h5⟩,⟨h6,h7⟩,h8,h9⟩
theorem zjv {f:Nat→Int}{lo hi:Int}{n:Nat}(h0:∀k,k<n→lo≤f k∧f k≤hi)(h:∀k,0<k→k<n→f (k - 1)<f k):(n:Int)≤hi - lo+1∨n=0:=by
 have key:∀k,k<n→lo+(k:Int)≤f k:=by
  intro k
  induction k with
  |zero=>intro hk;have:=h0 0 hk;omega
  |succ k ih=>intro hk;have:=ih a5;have:=h (k+1) a5 hk;rw [Nat.add_sub_cancel] at this;omega
 rcases Nat.eq_zero_or_pos n with h1|h1
 ·exact .inr h1
 ·have:=key (n - 1) a5;have:=h0 (n - 1) a5;exact .inl a5
theorem zib {ds:List Dx}{s:Int}:0≤zhM ds s↔∃i,i<ds.length∧(cI ds i).st=s:=by
 unfold zhM
 cases hf:ds.findIdx? (fun d=>decide (d.st=s)) with
 |none=>
  refine ⟨fun h=>by simp at h,fun ⟨i,hi,h⟩=>?_⟩;rw [List.findIdx?_eq_none_iff] at hf;have:=hf (cI ds i) (iE hi);simp [h] at this
 |some i=>
  refine ⟨fun _=>?_,fun _=>by simp⟩;obtain ⟨hi,h1,_⟩:=List.findIdx?_eq_some_iff_getElem.1 hf;exact ⟨i,hi,by rw [dS hi];simpa using h1⟩
theorem zdv {P:Pb}(hst:∀d∈P.ds,0≤d.st∧d.st≤511){s:Int}:P.has s=true↔0≤zhM P.ds s:=by
 unfold Pb.has;rw [ziS (P.ds.map fun d:Dx=>d.st) (fun y hy=>by obtain ⟨d,hd,rfl⟩:=List.mem_map.1 hy;exact hst d hd),zib,List.mem_map];constructor
 ·rintro ⟨d,hd,rfl⟩;obtain ⟨i,hi,rfl⟩:=List.mem_iff_getElem.1 hd;exact ⟨i,hi,by rw [dS hi]⟩
 ·rintro ⟨i,hi,rfl⟩;exact ⟨_,iE hi,rfl⟩
theorem jN {cs:List Int}:(List.range cs.length).all (zij cs)=true↔fL (fun c=>inB c 2 51) cs=true∧ft dN cs=true:=by
 refine zf2 (r:=zij) (q:=fun c=>inB c 2 51) (c:=dN) fun k=>?_;simp only [zij,decide_eq_true_eq,gg,zfi,and_assoc]
theorem zlv (P:Pb):zlD P=P.ok:=by
 rw [Bool.eq_iff_iff];simp only [zlD,Pb.ok,Bool.and_eq_true,decide_eq_true_eq,zlu,iy,zeY,zga,zfi,zj6,zkj,zkq,zkx,Dx.ok]
 have stOf:(∀k,k<P.ds.length→inB (cI P.ds k).st 0 511=true)→∀d∈P.ds,0≤d.st∧d.st≤511:=fun h d hd=>by
  obtain ⟨i,hi,rfl⟩:=List.mem_iff_getElem.1 hd;have:=gg.1 (h i hi)
  rwa [dS hi] at this
 constructor
 ·rintro ⟨h1,h2,h3,h4,h5,h6⟩;have hst:=stOf fun k hk=>(h3 k hk).1.1;refine ⟨fun k hk=>⟨(h3 k hk).1.1,?_⟩,h2,fun k h0 hk=>(h3 k hk).1.2.1 h0,fun k hk=>⟨(zdv hst).2 (h4 k hk).1,(zdv hst).2 (h4 k hk).2⟩,fun k hk=>⟨(zdv hst).2 (h5 k hk).1,(zdv hst).2 (h5 k hk).2⟩,fun k hk=>(zdv hst).2 (h6 k hk)⟩;have:=jN.1 (iy.2 (h3 k hk).2);simp only [zeY,zga,zfi] at this;exact this
 ·rintro ⟨h1,h2,h3,h4,h5,h6⟩;have hst:=stOf fun k hk=>(h1 k hk).1;refine ⟨?_,h2,fun k hk=>⟨⟨(h1 k hk).1,fun h0=>h3 k h0 hk,?_⟩,?_⟩,fun k hk=>⟨(zdv hst).1 (h4 k hk).1,(zdv hst).1 (h4 k hk).2⟩,fun k hk=>⟨(zdv hst).1 (h5 k hk).1,(zdv hst).1 (h5 k hk).2⟩,fun k hk=>(zdv hst).1 (h6 k hk)⟩
  ·have:=zjv (f:=fun k=>(cI P.ds k).st) (lo:=0) (hi:=511) (n:=P.ds.length) (fun k hk=>gg.1 (h1 k hk).1) h3;omega
  ·have:=zjv (f:=cI (cI P.ds k).chs) (lo:=2) (hi:=51) (n:=(cI P.ds k).chs.length) (fun j hj=>gg.1 ((h1 k hk).2.1 j hj)) (h1 k hk).2.2;omega
  ·exact iy.1 (jN.2 (by simp only [zeY,zga,zfi];exact (h1 k hk).2))
theorem zci {ρ:Type}{f:Nat→(Unit→ρ)→Unit→ρ}{k:Unit→ρ}{n:Nat}{z:ρ}(q:Nat→Bool)(hf:∀i next,i<n→f i next ()=bif q i then next () else z):da f k n 0 ()=bif (List.range n).all q then k () else z:=by
 have key:∀m i,i+m=n→da f k m i ()=bif (List.range' i m).all q then k () else z:=by
  intro m
  induction m with
  |zero=>intro i _;rfl
  |succ m ih=>
   intro i e
   show f i (da f k m (i+1)) ()=_
   rw [hf i _ a5,ih (i+1) a5,List.range'_succ,List.all_cons]
   cases q i <;> rfl
 rw [key n 0 a5,List.range_eq_range']
theorem zej {n:Int}:jC n=inB n 0 511:=rfl
theorem zkX {a b:Int}:mB a b=eU a b:=by
 unfold mB eU;by_cases h1:2≤a <;> by_cases h2:a≤b <;> by_cases h3:b≤51 <;> simp [h1,h2,h3]
theorem zkZ {a b:List Int}(h:a.length=b.length):ly a b=some (kq a b):=by
 unfold ly;refine l9 ?_
 have key:∀m i,i+m=a.length→da (fun (i:Nat) (next:Unit→Option Bool) (_:Unit)=>eg (0≤(i:Int)∧(i:Int)<(b.length:Int)) (bif decide (¬cI a i=cI b i) then some (decide (cI a i<cI b i)) else next ())) (fun _=>some false) m i ()=some (kq (a.drop i) (b.drop i)):=by
  intro m
  induction m with
  |zero=>intro i e;rw [List.drop_eq_nil_of_le (show a.length≤i by omega)];rfl
  |succ m ih=>
   intro i e;have h2:=ih (i+1) a5
   show eg _ _=_
   rw [fZ ⟨by omega,by omega⟩,zj9 a5 a5];by_cases e2:cI a i=cI b i
   ·rw [if_pos e2,decide_eq_false (fun hn=>hn e2),cond_false];exact h2
   ·rw [if_neg e2,decide_eq_true e2,cond_true]
 exact key a.length 0 a5
def hasS (p:GProblem)(s:Int):Bool:=p.Domains.any fun d=>decide (d.Station=s)
theorem zog {p:GProblem}{s:Int}:iI p s<0↔hasS p s=false:=by
 unfold iI hasS;refine l9 ?_
 have key:∀m i,i+m=p.Domains.length→(da (fun (i:Nat) (next:Unit→Int) (_:Unit)=>bif decide ((cI p.Domains i).Station=s) then (i:Int) else next ()) (fun _=>(-1)) m i ()<0↔((p.Domains.drop i).any fun d=>decide (d.Station=s))=false):=by
  intro m
  induction m with
  |zero=>intro i e;rw [List.drop_eq_nil_of_le (show p.Domains.length≤i by omega)];exact ⟨fun _=>rfl,fun _=>by show (-1:Int)<0;omega⟩
  |succ m ih=>
   intro i e;have h2:=ih (i+1) a5;rw [List.drop_eq_getElem_cons (show i<p.Domains.length by omega),List.any_cons,←dS (show i<p.Domains.length by omega)]
   show (bif decide ((cI p.Domains i).Station=s) then (i:Int) else _)<0↔_
   cases decide ((cI p.Domains i).Station=s) with
   |true=>simp
   |false=>rw [cond_false,Bool.false_or];exact h2
 have:=key p.Domains.length 0 a5
 rwa [List.drop_zero] at this
theorem zcI (i:Nat):((i:Int) - 1).toNat=i - 1:=by omega
theorem znT {p : GProblem} {i : Nat} {next : Unit → Option Bool} (hi : i < p.Rules.Pairs.length) :
    (bif !(jC ((cI p.Rules.Pairs i).A)) then (bif true then some false else next ()) else
      (bif !(jC ((cI p.Rules.Pairs i).B)) then (bif true then some false else next ()) else
      (bif decide ((cI p.Rules.Pairs i).B ≤ (cI p.Rules.Pairs i).A) then (bif true then some false else next ()) else
      (bif decide ((cI p.Rules.Pairs i).Offset < (-1)) then (bif true then some false else next ()) else
      (bif decide (1 < (cI p.Rules.Pairs i).Offset) then (bif true then some false else next ()) else
      (bif !(mB ((cI p.Rules.Pairs i).Low) ((cI p.Rules.Pairs i).High)) then (bif true then some false else next ()) else
      (bif decide (0 < (i : Int)) then (ly (kC (cI p.Rules.Pairs (((i : Int) - 1).toNat))) (kC (cI p.Rules.Pairs i))).bind fun r => (bif !r then some false else next ()) else (bif false then some false else next ())))))))) = bif zhA (eu p).ps i then next () else some false := by
  have e1 : cI (eu p).ps i = (cI p.Rules.Pairs i).b := jm hi; have e2 : cI (eu p).ps (i - 1) = (cI p.Rules.Pairs (i - 1)).b := jm a5; rw [zcI, zkZ (by rfl), Option.bind_some];simp only [zej, zkX]
  have hr : zhA (eu p).ps i = (inB (cI p.Rules.Pairs i).A 0 511 && (inB (cI p.Rules.Pairs i).B 0 511 && (!decide ((cI p.Rules.Pairs i).B ≤ (cI p.Rules.Pairs i).A) && (!decide ((cI p.Rules.Pairs i).Offset < (-1)) && (!decide (1 < (cI p.Rules.Pairs i).Offset) && (eU (cI p.Rules.Pairs i).Low (cI p.Rules.Pairs i).High && (!decide (0 < (i : Int)) || kq (kC (cI p.Rules.Pairs (i - 1))) (kC (cI p.Rules.Pairs i))))))))) := by
    unfold zhA; rw [e1, e2, Bool.eq_iff_iff, decide_eq_true_eq];simp only [Bool.and_eq_true, Bool.or_eq_true, Bool.not_eq_true', decide_eq_false_iff_not, GPair.b, kC]; constructor
    · rintro ⟨⟨h1, h2, h3, h4, h5, h6⟩, h9⟩; refine ⟨h1, h2, by omega, by omega, by omega, h6, ?_⟩; rcases Nat.eq_zero_or_pos i with h | h
      · exact .inl a5
      · exact .inr (h9 h)
    · rintro ⟨h1, h2, h3, h4, h5, h6, h9⟩; refine ⟨⟨h1, h2, by omega, by omega, by omega, h6⟩, fun h => ?_⟩; rcases h9 with h9 | h9
      · omega
      · exact h9
  rw [hr]
  cases inB (cI p.Rules.Pairs i).A 0 511
  · rfl
  cases inB (cI p.Rules.Pairs i).B 0 511
  · rfl
  cases decide ((cI p.Rules.Pairs i).B ≤ (cI p.Rules.Pairs i).A)
  rotate_left
  · rfl
  cases decide ((cI p.Rules.Pairs i).Offset < (-1))
  rotate_left
  · rfl
  cases decide (1 < (cI p.Rules.Pairs i).Offset)
  rotate_left
  · rfl
  cases eU (cI p.Rules.Pairs i).Low (cI p.Rules.Pairs i).High
  · rfl
  cases decide (0 < (i : Int))
  · rfl
  cases kq (kC (cI p.Rules.Pairs (i - 1))) (kC (cI p.Rules.Pairs i)) <;> rfl
theorem znV {p : GProblem} {i : Nat} {next : Unit → Option Bool} (hi : i < p.Rules.Loads.length) :
    (bif !(jC ((cI p.Rules.Loads i).To)) then (bif true then some false else next ()) else
      (bif !(jC ((cI p.Rules.Loads i).From)) then (bif true then some false else next ()) else
      (bif decide ((cI p.Rules.Loads i).To = (cI p.Rules.Loads i).From) then (bif true then some false else next ()) else
      (bif decide ((cI p.Rules.Loads i).Weight < 1) then (bif true then some false else next ()) else
      (bif decide (1073741824 < (cI p.Rules.Loads i).Weight) then (bif true then some false else next ()) else
      (bif !(mB ((cI p.Rules.Loads i).Low) ((cI p.Rules.Loads i).High)) then (bif true then some false else next ()) else
      (bif decide (0 < (i : Int)) then (ly (kF (cI p.Rules.Loads (((i : Int) - 1).toNat))) (kF (cI p.Rules.Loads i))).bind fun r => (bif !r then some false else next ()) else (bif false then some false else next ())))))))) = bif zhs (eu p).ls i then next () else some false := by
  have e1 : cI (eu p).ls i = (cI p.Rules.Loads i).b := jm hi; have e2 : cI (eu p).ls (i - 1) = (cI p.Rules.Loads (i - 1)).b := jm a5; rw [zcI, zkZ (by rfl), Option.bind_some];simp only [zej, zkX]
  have hr : zhs (eu p).ls i = (inB (cI p.Rules.Loads i).To 0 511 && (inB (cI p.Rules.Loads i).From 0 511 && (!decide ((cI p.Rules.Loads i).To = (cI p.Rules.Loads i).From) && (!decide ((cI p.Rules.Loads i).Weight < 1) && (!decide (1073741824 < (cI p.Rules.Loads i).Weight) && (eU (cI p.Rules.Loads i).Low (cI p.Rules.Loads i).High && (!decide (0 < (i : Int)) || kq (kF (cI p.Rules.Loads (i - 1))) (kF (cI p.Rules.Loads i))))))))) := by
    unfold zhs; rw [e1, e2, Bool.eq_iff_iff, decide_eq_true_eq];simp only [Bool.and_eq_true, Bool.or_eq_true, Bool.not_eq_true', decide_eq_false_iff_not, GLoad.b, kF]; constructor
    · rintro ⟨⟨h1, h2, h3, h4, h5, h6⟩, h9⟩; refine ⟨h1, h2, by omega, by omega, by omega, h6, ?_⟩; rcases Nat.eq_zero_or_pos i with h | h
      · exact .inl a5
      · exact .inr (h9 h)
    · rintro ⟨h1, h2, h3, h4, h5, h6, h9⟩; refine ⟨⟨h1, h2, by omega, by omega, by omega, h6⟩, fun h => ?_⟩; rcases h9 with h9 | h9
      · omega
      · exact h9
  rw [hr]
  cases inB (cI p.Rules.Loads i).To 0 511
  · rfl
  cases inB (cI p.Rules.Loads i).From 0 511
  · rfl
  cases decide ((cI p.Rules.Loads i).To = (cI p.Rules.Loads i).From)
  rotate_left
  · rfl
  cases decide ((cI p.Rules.Loads i).Weight < 1)
  rotate_left
  · rfl
  cases decide (1073741824 < (cI p.Rules.Loads i).Weight)
  rotate_left
  · rfl
  cases eU (cI p.Rules.Loads i).Low (cI p.Rules.Loads i).High
  · rfl
  cases decide (0 < (i : Int))
  · rfl
  cases kq (kF (cI p.Rules.Loads (i - 1))) (kF (cI p.Rules.Loads i)) <;> rfl
theorem zns {p : GProblem} {i : Nat} {next : Unit → Option Bool} (hi : i < p.Rules.Caps.length) :
    (bif !(jC ((cI p.Rules.Caps i).Station)) then (bif true then some false else next ()) else
      (bif decide ((cI p.Rules.Caps i).Max < 0) then (bif true then some false else next ()) else
      (bif decide (1099511627776 < (cI p.Rules.Caps i).Max) then (bif true then some false else next ()) else
      (bif !(mB ((cI p.Rules.Caps i).Low) ((cI p.Rules.Caps i).High)) then (bif true then some false else next ()) else
      (bif decide (0 < (i : Int)) then (ly (kw (cI p.Rules.Caps (((i : Int) - 1).toNat))) (kw (cI p.Rules.Caps i))).bind fun r => (bif !r then some false else next ()) else (bif false then some false else next ())))))) = bif zhv (eu p).cs i then next () else some false := by
  have e1 : cI (eu p).cs i = (cI p.Rules.Caps i).b := jm hi; have e2 : cI (eu p).cs (i - 1) = (cI p.Rules.Caps (i - 1)).b := jm a5; rw [zcI, zkZ (by rfl), Option.bind_some];simp only [zej, zkX]
  have hr : zhv (eu p).cs i = (inB (cI p.Rules.Caps i).Station 0 511 && (!decide ((cI p.Rules.Caps i).Max < 0) && (!decide (1099511627776 < (cI p.Rules.Caps i).Max) && (eU (cI p.Rules.Caps i).Low (cI p.Rules.Caps i).High && (!decide (0 < (i : Int)) || kq (kw (cI p.Rules.Caps (i - 1))) (kw (cI p.Rules.Caps i))))))) := by
    unfold zhv; rw [e1, e2, Bool.eq_iff_iff, decide_eq_true_eq];simp only [Bool.and_eq_true, Bool.or_eq_true, Bool.not_eq_true', decide_eq_false_iff_not, GCap.b, kw]; constructor
    · rintro ⟨⟨h1, h2, h3, h4⟩, h9⟩; refine ⟨h1, by omega, by omega, h4, ?_⟩; rcases Nat.eq_zero_or_pos i with h | h
      · exact .inl a5
      · exact .inr (h9 h)
    · rintro ⟨h1, h2, h3, h4, h9⟩; refine ⟨⟨h1, by omega, by omega, h4⟩, fun h => ?_⟩; rcases h9 with h9 | h9
      · omega
      · exact h9
  rw [hr]
  cases inB (cI p.Rules.Caps i).Station 0 511
  · rfl
  cases decide ((cI p.Rules.Caps i).Max < 0)
  rotate_left
  · rfl
  cases decide (1099511627776 < (cI p.Rules.Caps i).Max)
  rotate_left
  · rfl
  cases eU (cI p.Rules.Caps i).Low (cI p.Rules.Caps i).High
  · rfl
  cases decide (0 < (i : Int))
  · rfl
  cases kq (kw (cI p.Rules.Caps (i - 1))) (kw (cI p.Rules.Caps i)) <;> rfl
theorem ziw {p:GProblem}:zaV p.Rules=some (zg7 (eu p)):=by
 unfold zaV;refine l9 ?_;rw [zci (n:=p.Rules.Pairs.length) (z:=some false) (zhA (eu p).ps) (fun i next hi=>znT hi),zci (n:=p.Rules.Loads.length) (z:=some false) (zhs (eu p).ls) (fun i next hi=>znV hi),zci (n:=p.Rules.Caps.length) (z:=some false) (zhv (eu p).cs) (fun i next hi=>zns hi)];have l1:(eu p).ps.length=p.Rules.Pairs.length:=List.length_map _;have l2:(eu p).ls.length=p.Rules.Loads.length:=List.length_map _;have l3:(eu p).cs.length=p.Rules.Caps.length:=List.length_map _;unfold zg7;rw [l1,l2,l3];by_cases h:p.Rules.Pairs.length≤4096∧p.Rules.Loads.length≤1024∧p.Rules.Caps.length≤1024
 ·rw [decide_eq_true h,decide_eq_false a5,decide_eq_false a5,decide_eq_false a5]
  cases (List.range p.Rules.Pairs.length).all (zhA (eu p).ps)
  ·rfl
  cases (List.range p.Rules.Loads.length).all (zhs (eu p).ls)
  ·rfl
  cases (List.range p.Rules.Caps.length).all (zhv (eu p).cs) <;> rfl
 ·rw [decide_eq_false h];by_cases h1:(4096:Int)<p.Rules.Pairs.length
  ·rw [decide_eq_true h1];rfl
  ·by_cases h2:(1024:Int)<p.Rules.Loads.length
   ·rw [decide_eq_true h2,Bool.or_true];rfl
   ·rw [decide_eq_true (show (1024:Int)<p.Rules.Caps.length by omega),Bool.or_true];rfl
theorem zi1 {p:GProblem}{s:Int}:iI p s<0↔¬0≤zhM (eu p).ds s:=by
 rw [zog,zib];unfold hasS;rw [List.any_eq_false];have l:(eu p).ds.length=p.Domains.length:=List.length_map _;constructor
 ·rintro h ⟨i,hi,e⟩;rw [l] at hi;have e1:cI (eu p).ds i=(cI p.Domains i).b:=jm hi;rw [e1] at e;exact h _ (fI hi) (decide_eq_true e)
 ·intro h x hx hd;obtain ⟨i,hi,rfl⟩:=io hx;refine h ⟨i,by rw [l];exact hi,?_⟩;have e1:cI (eu p).ds i=(cI p.Domains i).b:=jm hi;rw [e1];exact of_decide_eq_true hd
theorem zkz {p:GProblem}:zbF p=some (gJ p):=by
 have l0:(eu p).ds.length=p.Domains.length:=List.length_map _;have l1:(eu p).ps.length=p.Rules.Pairs.length:=List.length_map _;have l2:(eu p).ls.length=p.Rules.Loads.length:=List.length_map _;have l3:(eu p).cs.length=p.Rules.Caps.length:=List.length_map _;have n0:∀k,k<p.Domains.length→cI (eu p).ds k=(cI p.Domains k).b:=fun k hk=>jm hk;have n1:∀k,k<p.Rules.Pairs.length→cI (eu p).ps k=(cI p.Rules.Pairs k).b:=fun k hk=>jm hk;have n2:∀k,k<p.Rules.Loads.length→cI (eu p).ls k=(cI p.Rules.Loads k).b:=fun k hk=>jm hk;have n3:∀k,k<p.Rules.Caps.length→cI (eu p).cs k=(cI p.Rules.Caps k).b:=fun k hk=>jm hk;unfold zbF gJ;rw [←zlv];simp only [dL,Nat.sub_zero,ziw,Option.bind_some];rw [zci (n:=p.Domains.length) (z:=some false) (zj6 (eu p).ds) (fun i next hi=>?_),zci (n:=p.Rules.Pairs.length) (z:=some false) (zkj (eu p)) (fun i next hi=>?_),zci (n:=p.Rules.Loads.length) (z:=some false) (zkq (eu p)) (fun i next hi=>?_),zci (n:=p.Rules.Caps.length) (z:=some false) (zkx (eu p)) (fun i next hi=>?_)]
 ·unfold zlD;rw [l0,l1,l2,l3];by_cases h:p.Domains.length≤512
  ·rw [decide_eq_true h,decide_eq_false a5]
   cases zg7 (eu p)
   ·rfl
   cases (List.range p.Domains.length).all (zj6 (eu p).ds)
   ·rfl
   cases (List.range p.Rules.Pairs.length).all (zkj (eu p))
   ·rfl
   cases (List.range p.Rules.Loads.length).all (zkq (eu p))
   ·rfl
   cases (List.range p.Rules.Caps.length).all (zkx (eu p)) <;> rfl
  ·rw [decide_eq_false h,decide_eq_true a5];rfl
 ·have hr:zkx (eu p) i= !decide (iI p (cI p.Rules.Caps i).Station<0):=by
   unfold zkx;rw [n3 i hi,Bool.eq_iff_iff,decide_eq_true_eq];simp only [Bool.not_eq_true',decide_eq_false_iff_not,zi1,Decidable.not_not,GCap.b]
  rw [hr]
  cases decide (iI p (cI p.Rules.Caps i).Station<0) <;> rfl
 ·have hr:zkq (eu p) i=(!decide (iI p (cI p.Rules.Loads i).To<0)&& !decide (iI p (cI p.Rules.Loads i).From<0)):=by
   unfold zkq;rw [n2 i hi,Bool.eq_iff_iff,decide_eq_true_eq];simp only [Bool.and_eq_true,Bool.not_eq_true',decide_eq_false_iff_not,zi1,Decidable.not_not,GLoad.b]
  rw [hr]
  cases decide (iI p (cI p.Rules.Loads i).To<0) <;> cases decide (iI p (cI p.Rules.Loads i).From<0) <;> rfl
 ·have hr:zkj (eu p) i=(!decide (iI p (cI p.Rules.Pairs i).A<0)&& !decide (iI p (cI p.Rules.Pairs i).B<0)):=by
   unfold zkj;rw [n1 i hi,Bool.eq_iff_iff,decide_eq_true_eq];simp only [Bool.and_eq_true,Bool.not_eq_true',decide_eq_false_iff_not,zi1,Decidable.not_not,GPair.b]
  rw [hr]
  cases decide (iI p (cI p.Rules.Pairs i).A<0) <;> cases decide (iI p (cI p.Rules.Pairs i).B<0) <;> rfl
 ·rw [zci (n:=(cI p.Domains i).Channels.length) (z:=some false) (zij (cI p.Domains i).Channels) (fun k nx hk=>?_)]
  ·have hr:zj6 (eu p).ds i=(inB (cI p.Domains i).Station 0 511&&(!(decide (0<(i:Int))&&decide ((cI p.Domains i).Station≤(cI p.Domains (i - 1)).Station))&&(!decide (50<((cI p.Domains i).Channels.length:Int))&&(List.range (cI p.Domains i).Channels.length).all (zij (cI p.Domains i).Channels)))):=by
    unfold zj6;rw [n0 i hi,n0 (i - 1) a5,Bool.eq_iff_iff,decide_eq_true_eq];simp only [Bool.and_eq_true,Bool.not_eq_true',Bool.and_eq_false_iff,decide_eq_false_iff_not,GDomain.b];constructor
    ·rintro ⟨⟨h1,h2,h3⟩,h4⟩;exact ⟨h1,by rcases Nat.eq_zero_or_pos i with h|h;exact .inl a5;exact .inr (by have:=h2 h;omega),by omega,h4⟩
    ·rintro ⟨h1,h2,h3,h4⟩;exact ⟨⟨h1,fun h=>by omega,by omega⟩,h4⟩
   rw [hr,zcI,zej]
   cases inB (cI p.Domains i).Station 0 511
   ·rfl
   cases (decide (0<(i:Int))&&decide ((cI p.Domains i).Station≤(cI p.Domains (i - 1)).Station))
   rotate_left
   ·rfl
   cases decide (50<((cI p.Domains i).Channels.length:Int))
   rotate_left
   ·rfl
   rfl
  ·have hr:zij (cI p.Domains i).Channels k=(!decide (cI (cI p.Domains i).Channels k<2)&&(!decide (51<cI (cI p.Domains i).Channels k)&& !(decide (0<(k:Int))&&decide (cI (cI p.Domains i).Channels k≤cI (cI p.Domains i).Channels (k - 1))))):=by
    unfold zij;rw [Bool.eq_iff_iff,decide_eq_true_eq];simp only [Bool.and_eq_true,Bool.not_eq_true',Bool.and_eq_false_iff,decide_eq_false_iff_not];omega
   rw [hr,zcI]
   cases decide (cI (cI p.Domains i).Channels k<2)
   rotate_left
   ·rfl
   cases decide (51<cI (cI p.Domains i).Channels k)
   rotate_left
   ·rfl
   cases (decide (0<(k:Int))&&decide (cI (cI p.Domains i).Channels k≤cI (cI p.Domains i).Channels (k - 1))) <;> rfl
theorem znr {p:GProblem}{a b:Int}{fuel:Nat}(hf:1000≤fuel):∃r,zcm fuel p a b=some r:=by
 unfold zcm;simp only [dL];refine zdE (σ:=Int) (I:=fun i=>0≤i∧i≤600) (μ:=fun i=>(600 - i).toNat) (post:=fun o=>∃r,o=some r) ⟨by omega,by omega⟩ a5 ?_;intro i next hi hn;by_cases h1:i<(p.Domains.length:Int) <;> by_cases h2:i<600
 ·rw [decide_eq_true h1,decide_eq_true h2,Bool.and_true,cond_true,fZ ⟨hi.1,h1⟩]
  cases decide (60<((cI p.Domains i.toNat).Channels.length:Int))
  ·exact hn _ ⟨by omega,by omega⟩ a5
  ·exact ⟨_,rfl⟩
 ·rw [decide_eq_false h2,Bool.and_false,cond_false];exact ⟨_,rfl⟩
 ·rw [decide_eq_false h1,Bool.false_and,cond_false];exact ⟨_,rfl⟩
 ·rw [decide_eq_false h1,Bool.false_and,cond_false];exact ⟨_,rfl⟩
theorem fX {s c:Int}{x:GDomain}{q:Int}:q∈(iP s c x).Channels↔q∈x.Channels∧(x.Station=s→q=c):=by
 unfold iP;dsimp only;by_cases hs:x.Station=s
 ·rw [decide_eq_true hs,cond_true]
  cases ha:x.Channels.any (fun k=>decide (k=c)) with
  |true=>
   rw [cond_true];obtain ⟨k,hk,he⟩:=List.any_eq_true.1 ha;have:=of_decide_eq_true he;subst this;simp only [List.mem_singleton];exact ⟨fun h=>by subst h;exact ⟨hk,fun _=>rfl⟩,fun h=>h.2 hs⟩
  |false=>
   rw [cond_false];refine ⟨(fun h=>by cases h),fun h=>?_⟩;have:=h.2 hs;subst this;have:=List.any_eq_false.1 ha q h.1;simp at this
 ·rw [decide_eq_false hs,cond_false];exact ⟨fun h=>⟨h,fun h2=>absurd h2 hs⟩,fun h=>h.1⟩
theorem zhY {s c:Int}{x:GDomain}:(iP s c x).Channels.Sublist x.Channels:=by
 unfold iP;dsimp only
 cases decide (x.Station=s)
 ·exact eQ
 ·cases ha:x.Channels.any (fun k=>decide (k=c))
  ·exact List.nil_sublist _
  ·obtain ⟨k,hk,he⟩:=List.any_eq_true.1 ha;have:=of_decide_eq_true he;subst this;exact List.singleton_sublist.2 hk
section
variable {p:GProblem}{a b d:List GDomain}
theorem m0 {s c:Int}:SubD (d.map (iP s c)) d∧OrdD (d.map (iP s c)) d:=by
 refine ⟨⟨List.length_map _,fun i hi=>?_⟩,fun i hi=>?_⟩
 ·rw [iH hi];exact ⟨rfl,fun k hk=>(fX.1 hk).1⟩
 ·rw [iH hi];exact zhY
theorem zkT {s c:Int}(h:SubD a b):SubD (a.map (iP s c)) (b.map (iP s c)):=by
 refine ⟨by rw [List.length_map,List.length_map,h.1],fun i hi=>?_⟩;rw [List.length_map] at hi;rw [iH hi,iH (by rw [h.1];exact hi)];have h2:=h.2 i hi;refine ⟨h2.1,fun k hk=>?_⟩;rw [fX] at hk ⊢;exact ⟨h2.2 k hk.1,fun e=>hk.2 (h2.1.trans e)⟩
theorem OrdD.trans {c:List GDomain}(h:OrdD a b)(k:OrdD b c)(hl:b.length=c.length):OrdD a c:=fun i hi=>(h i (by rw [hl];exact hi)).trans (k i hi)
theorem Bd.ord (hb:Bd b)(hl:a.length=b.length)(h:OrdD a b):Bd a:=by
 refine ⟨by rw [hl];exact hb.len,fun x hx=>?_⟩;obtain ⟨i,hi,rfl⟩:=io hx; (have hi':i<b.length:=by rw [←hl];exact hi);have h2:=hb.ch _ (fI hi');exact ⟨Nat.le_trans (h i hi').length_le h2.1,h2.2.sublist (h i hi')⟩
theorem zey:∀ {a b:List GDomain},a.length=b.length→OrdD a b→ei a≤ei b
 | [],[],_,_=>Nat.le_refl _
 |x :: r,y :: q,hl,h=>by
  have h0:=(h 0 a8).length_le
  have ih:=zey (a:=r) (b:=q) (by simpa using hl) (fun i hi=>by
   have:=h (i+1) cF
   simpa [cI] using this)
  simp only [ei,List.map_cons,List.sum_cons] at ih ⊢;have e1:cI (x :: r) 0=x:=rfl;have e2:cI (y :: q) 0=y:=rfl;rw [e1,e2] at h0;omega
theorem PropD.eq {r r':List GDomain×Bool}(hb:Bd d)(h:PropD p d r)(h':PropD p d r'):r=r':=by
 rcases h with ⟨h1,h2,h3,h4⟩|⟨h1,h2⟩
 ·rcases h' with ⟨g1,g2,g3,g4⟩|⟨g1,g2⟩
  ·have e1:=h4 _ g2 g3.1;have e2:=g4 _ h2 h3.1
   have:r.1=r'.1:=by
    refine zfw (by rw [e2.1]) fun i hi=>?_; (have hi1:i<r'.1.length:=by rw [←e2.1];exact hi); (have hid:i<d.length:=by rw [←h3.1.1];exact hi);have a1:=e1.2 i hi;have a2:=e2.2 i hi1;have hch:(cI r.1 i).Channels=(cI r'.1 i).Channels:=zdh (h3.2 i hid) (g3.2 i hid) (hb.ch _ (fI hid)).2 (fun x=>⟨a2.2 x,a1.2 x⟩)
    cases hx:cI r.1 i with
    |mk s1 c1=>
     cases hy:cI r'.1 i with
     |mk s2 c2=>
      have b1:=a2.1;rw [hx,hy] at b1 hch;simp only at b1 hch;rw [b1,hch]
   exact Prod.ext this (h1.trans g1.symm)
  ·exact absurd h3.1 (g2 _ h2)
 ·rcases h' with ⟨g1,g2,g3,g4⟩|⟨g1,g2⟩
  ·exact absurd g3.1 (h2 _ g2)
  ·rw [h1,g1]
theorem PropD.keep {m r:List GDomain×Bool}{s c:Int}(h:PropD p d m)(hm:m.2=true)(hr:PropD p (m.1.map (iP s c)) r):PropD p (d.map (iP s c)) r:=by
 rcases h with ⟨_,h2,h3,h4⟩|⟨h1,_⟩
 ·have hsup:∀S,ClosedD p S→SubD S (d.map (iP s c))→SubD S (m.1.map (iP s c)):=fun S hS hs=>by
   have h5:=h4 S hS (hs.trans m0.1);refine ⟨by rw [List.length_map];exact h5.1,fun i hi=>?_⟩;rw [List.length_map] at hi; (have hid:i<d.length:=by rw [←h3.1.1];exact hi);rw [iH hi];have h6:=h5.2 i hi;refine ⟨h6.1,fun k hk=>fX.2 ⟨h6.2 k hk,fun e=>?_⟩⟩;have h7:=(hs.2 i (by rw [List.length_map];exact hid)).2 k hk;rw [iH hid] at h7;exact (fX.1 h7).2 (by rw [←(h3.1.2 i hid).1];exact e)
  rcases hr with ⟨g1,g2,g3,g4⟩|⟨g1,g2⟩
  ·refine .inl ⟨g1,g2,⟨g3.1.trans (zkT h3.1),fun i hi=>?_⟩,fun S hS hs=>g4 S hS (hsup S hS hs)⟩;rw [List.length_map] at hi; (have hi':i<m.1.length:=by rw [h3.1.1];exact hi);have h8:=g3.2 i (by rw [List.length_map];exact hi');rw [iH hi'] at h8;rw [iH hi];refine h8.trans ?_;have hst:=(h3.1.2 i hi).1;have hsb:=h3.2 i hi;unfold iP;dsimp only;rw [hst]
   cases decide ((cI d i).Station=s)
   ·exact hsb
   ·cases ha:(cI m.1 i).Channels.any (fun k=>decide (k=c))
    ·exact List.nil_sublist _
    ·obtain ⟨k,hk,he⟩:=List.any_eq_true.1 ha;rw [List.any_eq_true.2 ⟨k,hsb.subset hk,he⟩];exact eQ
  ·exact .inr ⟨g1,fun S hS hs=>g2 S hS (hsup S hS hs)⟩
 ·rw [h1] at hm;cases hm
theorem PropD.keepBad {m:List GDomain×Bool}{d':List GDomain}(h:PropD p d m)(hm:m.2=false)(hs:SubD d' d):PropD p d' m:=by
 rcases h with ⟨h1,_⟩|⟨h1,h2⟩
 ·rw [h1] at hm;cases hm
 ·exact .inr ⟨h1,fun S hS hh=>h2 S hS (hh.trans hs)⟩
theorem PropD.ord {m:List GDomain×Bool}(h:PropD p d m)(hm:m.2=true):m.1.length=d.length∧OrdD m.1 d:=by
 rcases h with ⟨_,_,h3,_⟩|⟨h1,_⟩
 ·exact ⟨h3.1.1,h3.2⟩
 ·rw [h1] at hm;cases hm
def mV (l:List GChoice)(i:Nat):Bool:=inB (cI l i).Station 0 511&&(inB (cI l i).Channel 2 51&& !(decide (0<(i:Int))&&decide ((cI l i).Station≤(cI l (i - 1)).Station)))
theorem zhW {l:List GChoice}:za8 l=(List.range l.length).all (mV l):=by
 unfold za8;refine l9 ?_;rw [zdD (mV l) (fun i next _=>?_),Bool.and_true];rw [zcI,zej]
 have e:mV l i=(inB (cI l i).Station 0 511&&(!decide ((cI l i).Channel<2)&&(!decide (51<(cI l i).Channel)&& !(decide (0<(i:Int))&&decide ((cI l i).Station≤(cI l (i - 1)).Station))))):=by
  unfold mV;rw [←Bool.and_assoc (!decide _)]
  congr 1
  congr 1
  unfold inB;by_cases h1:2≤(cI l i).Channel <;> by_cases h2:(cI l i).Channel≤51 <;> simp [h1,h2,Int.not_lt,Int.not_le] <;> omega
 rw [e]
 cases inB (cI l i).Station 0 511 <;> cases decide ((cI l i).Channel<2) <;> cases decide (51<(cI l i).Channel) <;> cases (decide (0<(i:Int))&&decide ((cI l i).Station≤(cI l (i - 1)).Station)) <;> rfl
theorem zok (p:GProblem):(eu p).er=p:=by
 unfold eu Pb.er;dsimp only;rw [zeI (g:=Dx.er) (fun _=>rfl),zeI (g:=Pr.er) (fun _=>rfl),zeI (g:=Ld.er) (fun _=>rfl),zeI (g:=Cp.er) (fun _=>rfl)]
theorem zjb {d:List GDomain}{n:Nat}(h:∀x∈d,x.Channels.length≤n):ei d≤d.length*n:=by
 induction d with
 |nil=>simp [ei]
 |cons x r ih=>
  have h1:=h x a8;have h2:=ih (fun y hy=>h y (by simp [hy]));simp only [ei,List.map_cons,List.sum_cons,List.length_cons,Nat.add_mul] at h2 ⊢;omega
theorem zit (h:gJ p=true):WtP p∧Bd p.Domains∧ei p.Domains≤30000∧p.Domains.length≤512:=by
 have hG:=Pb.good h;have hw:=znO h;rw [zok] at hw;have hl:(eu p).ds.length=p.Domains.length:=List.length_map _; (have hn:p.Domains.length≤512:=by rw [←hl];exact hG.n)
 have hc:∀x∈p.Domains,x.Channels.length≤52∧x.Channels.Nodup:=fun x hx=>by
  obtain ⟨i,hi,rfl⟩:=io hx;have e:cI (eu p).ds i=(cI p.Domains i).b:=jm hi;have h1:=hG.chs _ (fI (show i<(eu p).ds.length by rw [hl];exact hi));have h2:=zkE h (i:=i) (by rw [hl];exact hi);rw [e] at h1 h2;exact ⟨h1.1,(zev List.nodup_range').sublist h2⟩
 refine ⟨hw,⟨by omega,fun x hx=>⟨by have:=(hc x hx).1;omega,(hc x hx).2⟩⟩,?_,hn⟩;have:=zjb (d:=p.Domains) (n:=52) (fun x hx=>(hc x hx).1);omega
end
structure GG (p:GProblem):Prop where
 n:p.Domains.length≤512
 st:∀x∈p.Domains,0≤x.Station∧x.Station≤511
 chs:∀x∈p.Domains,x.Channels.length≤52∧∀c∈x.Channels,2≤c∧c≤51
 inc:∀i j,i<j→j<p.Domains.length→(cI p.Domains i).Station<(cI p.Domains j).Station
 ps:∀x∈p.Rules.Pairs,(iT p x.A=true∧iT p x.B=true)∧(x.A<x.B∧ -1≤x.Offset∧x.Offset≤1)∧2≤x.Low∧x.Low≤x.High∧x.High≤51
 ls:∀x∈p.Rules.Loads,(iT p x.To=true∧iT p x.From=true)∧(x.To≠x.From∧1≤x.Weight∧x.Weight≤1073741824)∧2≤x.Low∧x.Low≤x.High∧x.High≤51
 cs:∀x∈p.Rules.Caps,iT p x.Station=true∧(0≤x.Max∧x.Max≤1099511627776)∧2≤x.Low∧x.Low≤x.High∧x.High≤51
 lls:p.Rules.Loads.length≤1024
 lps:p.Rules.Pairs.length≤4096
 lcs:p.Rules.Caps.length≤1024
theorem gw {p:GProblem}{s:Int}:iT p s=true↔∃x∈p.Domains,x.Station=s:=by
 unfold iT;rw [List.any_eq_true];simp only [decide_eq_true_eq]
theorem zm8 {p:GProblem}(h:gJ p=true):GG p:=by
 have hG:=Pb.good h;have hl:(eu p).ds.length=p.Domains.length:=List.length_map _;have hn:∀i,i<p.Domains.length→cI (eu p).ds i=(cI p.Domains i).b:=fun i hi=>iH hi
 have hs:∀ {s:Int},(∃i,i<(eu p).ds.length∧s=(cI (eu p).ds i).st)→iT p s=true:=fun ⟨i,hi,e⟩=>by
  rw [hl] at hi;rw [hn i hi] at e;exact gw.2 ⟨_,fI hi,e.symm⟩
 refine ⟨by rw [←hl];exact hG.n,fun x hx=>hG.st x.b (List.mem_map.2 ⟨x,hx,rfl⟩),fun x hx=>hG.chs x.b (List.mem_map.2 ⟨x,hx,rfl⟩),fun i j hij hj=>?_,fun x hx=>?_,fun x hx=>?_,fun x hx=>?_,?_,?_,?_⟩
 ·have:=hG.inc i j hij (by rw [hl];exact hj);rw [hn i a5,hn j hj] at this;exact this
 ·obtain ⟨h1,h2,h3⟩:=hG.ps x.b (List.mem_map.2 ⟨x,hx,rfl⟩);simp only [Pr.ok,eU,inB,Bool.and_eq_true,decide_eq_true_eq] at h1;exact ⟨⟨hs h2,hs h3⟩,by show x.A<x.B∧_;exact ⟨h1.2.2.1,h1.2.2.2.1.1,h1.2.2.2.1.2⟩,h1.2.2.2.2.1,h1.2.2.2.2.2.1,h1.2.2.2.2.2.2⟩
 ·obtain ⟨h1,h2,h3⟩:=hG.ls x.b (List.mem_map.2 ⟨x,hx,rfl⟩);simp only [Ld.ok,eU,inB,Bool.and_eq_true,decide_eq_true_eq] at h1;exact ⟨⟨hs h2,hs h3⟩,⟨h1.2.2.1,h1.2.2.2.1.1,h1.2.2.2.1.2⟩,h1.2.2.2.2.1,h1.2.2.2.2.2.1,h1.2.2.2.2.2.2⟩
 ·obtain ⟨h1,h2⟩:=hG.cs x.b (List.mem_map.2 ⟨x,hx,rfl⟩);simp only [Cp.ok,eU,inB,Bool.and_eq_true,decide_eq_true_eq] at h1;exact ⟨hs h2,⟨h1.2.1.1,h1.2.1.2⟩,h1.2.2.1,h1.2.2.2.1,h1.2.2.2.2⟩
 ·have:=hG.lls;have e:(eu p).ls.length=p.Rules.Loads.length:=List.length_map _;omega
 ·have:=hG.lps;have e:(eu p).ps.length=p.Rules.Pairs.length:=List.length_map _;omega
 ·have:=hG.lcs;have e:(eu p).cs.length=p.Rules.Caps.length:=List.length_map _;omega
structure ValidL (l:List GChoice):Prop where
 good:∀c∈l,0≤c.Station∧c.Station≤511∧2≤c.Channel∧c.Channel≤51
 inc:∀i j,i<j→j<l.length→(cI l i).Station<(cI l j).Station
theorem jd {l:List GChoice}:(List.range l.length).all (mV l)=true↔ValidL l:=by
 rw [List.all_eq_true];simp only [List.mem_range,mV,inB,Bool.and_eq_true,decide_eq_true_eq,Bool.not_eq_true',Bool.and_eq_false_iff,decide_eq_false_iff_not];constructor
 ·intro h;refine ⟨fun c hc=>?_,fun i j hij hj=>?_⟩
  ·obtain ⟨i,hi,rfl⟩:=io hc;have:=h i hi;omega
  ·have key:∀m,i+m+1<l.length→(cI l i).Station<(cI l (i+m+1)).Station:=by
    intro m
    induction m with
    |zero=>intro hm;have:=(h (i+1) hm).2.2;rw [show i+1 - 1=i by omega] at this;rw [Nat.add_zero];omega
    |succ m ih=>intro hm;have h1:=ih a5;have:=(h (i+(m+1)+1) hm).2.2;rw [show i+(m+1)+1 - 1=i+m+1 by omega] at this;omega
   have:=key (j - i - 1) a5
   rwa [show i+(j - i - 1)+1=j by omega] at this
 ·intro h i hi;have:=h.good _ (fI hi);refine ⟨by omega,by omega,?_⟩;rcases Nat.eq_zero_or_pos i with h0|h0
  ·subst h0;left;omega
  ·right;have:=h.inc (i - 1) i a5 hi;omega
theorem ValidL.inj {l:List GChoice}(h:ValidL l){a b:GChoice}(ha:a∈l)(hb:b∈l)(e:a.Station=b.Station):a=b:=by
 obtain ⟨i,hi,rfl⟩:=io ha;obtain ⟨j,hj,rfl⟩:=io hb;rcases Nat.lt_trichotomy i j with h1|h1|h1
 ·have:=h.inc i j h1 hj;omega
 ·rw [h1]
 ·have:=h.inc j i h1 hi;omega
def orV (k:Int)(o:Option Nat)(r:GViolation):GViolation:=match o with
 |some i=>⟨k,(i:Int)⟩
 |none=>r
section
variable {p:GProblem}{f:Int→Int}
end
structure FiltD (f:GDomain→GDomain) (φ:Int→Int→Prop):Prop where
 st:∀x,(f x).Station=x.Station
 mem:∀x q,q∈(f x).Channels↔q∈x.Channels∧φ x.Station q
 sub:∀x,(f x).Channels.Sublist x.Channels
 mono:∀x y,x.Station=y.Station→x.Channels.Sublist y.Channels→(f x).Channels.Sublist (f y).Channels
theorem mt:FiltD id (fun _ _=>True):=⟨fun _=>rfl,fun _ _=>by simp,fun _=>List.Sublist.refl _,fun _ _ _ h=>h⟩
theorem FiltD.keep (s c:Int):FiltD (iP s c) (fun t q=>t=s→q=c):=by
 refine ⟨fun _=>rfl,fun _ _=>fX,fun _=>zhY,fun x y hst hsb=>?_⟩;unfold iP;dsimp only;rw [hst]
 cases decide (y.Station=s)
 ·exact hsb
 ·cases ha:x.Channels.any (fun k=>decide (k=c))
  ·exact List.nil_sublist _
  ·obtain ⟨k,hk,he⟩:=List.any_eq_true.1 ha;rw [List.any_eq_true.2 ⟨k,hsb.subset hk,he⟩];exact eQ
theorem FiltD.drop (s c:Int):FiltD (iV s c) (fun t q=>¬t=s∨¬q=c):=by
 refine ⟨fun _=>rfl,fun x q=>?_,fun _=>List.filter_sublist,fun x y hst hsb=>?_⟩
 ·unfold iV;simp only [List.mem_filter,Bool.or_eq_true,decide_eq_true_eq]
 ·unfold iV;dsimp only;rw [hst];exact hsb.filter _
section
variable {p:GProblem}{a b d:List GDomain}{f:GDomain→GDomain}{φ:Int→Int→Prop}
theorem FiltD.subD (h:FiltD f φ):SubD (d.map f) d∧OrdD (d.map f) d:=by
 refine ⟨⟨List.length_map _,fun i hi=>?_⟩,fun i hi=>?_⟩
 ·rw [iH hi];exact ⟨h.st _,fun c hc=>((h.mem _ _).1 hc).1⟩
 ·rw [iH hi];exact h.sub _
theorem FiltD.monoD (h:FiltD f φ)(hs:SubD a b):SubD (a.map f) (b.map f):=by
 refine ⟨by rw [List.length_map,List.length_map];exact hs.1,fun i hi=>?_⟩;rw [List.length_map] at hi;rw [iH hi,iH (by rw [hs.1];exact hi)];have h2:=hs.2 i hi;refine ⟨by rw [h.st,h.st];exact h2.1,fun c hc=>?_⟩;have h3:=(h.mem _ _).1 hc;exact (h.mem _ _).2 ⟨h2.2 c h3.1,by rw [←h2.1];exact h3.2⟩
theorem lc {m r:List GDomain×Bool}(hf:FiltD f φ)(h:PropD p d m)(hm:m.2=true)(hr:PropD p (m.1.map f) r):PropD p (d.map f) r:=by
 rcases h with ⟨_,h2,h3,h4⟩|⟨h1,_⟩
 ·have hsup:∀S,ClosedD p S→SubD S (d.map f)→SubD S (m.1.map f):=fun S hS hs=>by
   have h5:=h4 S hS (hs.trans hf.subD.1);refine ⟨by rw [List.length_map];exact h5.1,fun i hi=>?_⟩;rw [List.length_map] at hi; (have hid:i<d.length:=by rw [←h3.1.1];exact hi);rw [iH hi];have h6:=h5.2 i hi;refine ⟨by rw [hf.st];exact h6.1,fun k hk=>(hf.mem _ _).2 ⟨h6.2 k hk,?_⟩⟩;have h7:=(hs.2 i (by rw [List.length_map];exact hid)).2 k hk;rw [iH hid] at h7;rw [(h3.1.2 i hid).1];exact ((hf.mem _ _).1 h7).2
  rcases hr with ⟨g1,g2,g3,g4⟩|⟨g1,g2⟩
  ·refine .inl ⟨g1,g2,⟨g3.1.trans (hf.monoD h3.1),fun i hi=>?_⟩,fun S hS hs=>g4 S hS (hsup S hS hs)⟩;rw [List.length_map] at hi; (have hi':i<m.1.length:=by rw [h3.1.1];exact hi);have h8:=g3.2 i (by rw [List.length_map];exact hi');rw [iH hi'] at h8;rw [iH hi];exact h8.trans (hf.mono _ _ (h3.1.2 i hi).1 (h3.2 i hi))
  ·exact .inr ⟨g1,fun S hS hs=>g2 S hS (hsup S hS hs)⟩
 ·rw [h1] at hm;cases hm
def gY (keep:Bool)(c:GChoice):GDomain→GDomain:=bif ml c then (bif keep then iP c.Station c.Channel else iV c.Station c.Channel) else id
def actQ (keep:Bool)(c:GChoice)(s q:Int):Prop:=ml c=true→s=c.Station→(q=c.Channel↔keep=true)
theorem zeW (keep:Bool)(c:GChoice):FiltD (gY keep c) (actQ keep c):=by
 have key:∀ {φ ψ:Int→Int→Prop} {f:GDomain→GDomain},FiltD f φ→(∀s q,φ s q↔ψ s q)→FiltD f ψ:=fun h k=>⟨h.st,fun x q=>by rw [h.mem,k],h.sub,h.mono⟩;unfold gY actQ
 cases ml c
 ·exact key mt (fun s q=>by simp)
 ·cases keep
  ·exact key (FiltD.drop _ _) (fun s q=>by simp;constructor <;> intro h <;> by_cases e:s=c.Station <;> simp_all)
  ·exact key (FiltD.keep _ _) (fun s q=>by simp)
theorem zlR {fuel:Nat}(hf:100000≤fuel)(hok:gJ p=true)(hd:SubD d p.Domains∧OrdD d p.Domains){m:List GDomain×Bool}(h:PropD p d m)(keep:Bool)(c:GChoice):∃r,mb fuel p m keep c=some (r,bif !ml c then 2 else bif !m.2 then 8 else bif !iT p c.Station then 9 else 0)∧PropD p (d.map (gY keep c)) r:=by
 obtain ⟨hw,hbd,ht,hn⟩:=zit hok;unfold mb
 cases hg:ml c
 ·refine ⟨m,rfl,?_⟩; (have e:gY keep c=id:=by unfold gY;rw [hg];rfl);rw [e,List.map_id];exact h
 ·cases hm:m.2
  ·exact ⟨m,rfl,h.keepBad hm (zeW keep c).subD.1⟩
  ·cases hh:iT p c.Station
   ·refine ⟨m,rfl,?_⟩
    have e:d.map (gY keep c)=d:=by
     refine (List.map_congr_left (g:=id) fun x hx=>?_).trans (List.map_id _);obtain ⟨i,hi,rfl⟩:=io hx; (have hi':i<p.Domains.length:=by rw [←hd.1.1];exact hi)
     have hne:¬(cI d i).Station=c.Station:=by
      rw [(hd.1.2 i hi').1];intro e;have:iT p c.Station=true:=List.any_eq_true.2 ⟨_,fI hi',by simpa using e⟩;rw [hh] at this;cases this
     unfold gY;rw [hg,cond_true]
     cases keep
     ·show iV _ _ _=_
      unfold iV;have:(cI d i).Channels.filter (fun k=>decide (¬(cI d i).Station=c.Station)||decide (¬k=c.Channel))=(cI d i).Channels:=List.filter_eq_self.2 (fun k _=>by simp [hne]);rw [this];rfl
     ·show iP _ _ _=_
      unfold iP;rw [decide_eq_false hne];rfl
    rw [e];exact h
   ·have ho:=h.ord hm;have hol:=ho.2.trans hd.2 hd.1.1;have hlen:m.1.length=p.Domains.length:=ho.1.trans hd.1.1;have hb1:=hbd.ord hlen hol;have ht1:=zey hlen hol;have hs:=(zeW keep c).subD (d:=m.1);have hb2:=hb1.ord hs.1.1 hs.2;have ht2:=zey hs.1.1 hs.2;obtain ⟨r,h5,h6⟩:=zeM (fuel:=fuel) hw hb2 (by rw [hs.1.1];omega) a5;refine ⟨r,?_,lc (zeW keep c) h hm h6⟩
    have e:(bif keep then zcT m.1 c.Station c.Channel else zb2 m.1 c.Station c.Channel)=some (m.1.map (gY keep c)):=by
     unfold gY;rw [hg]
     cases keep
     ·exact zkC hb1.len (fun x hx=>(hb1.ch x hx).1)
     ·exact zm2 hb1.len (fun x hx=>(hb1.ch x hx).1)
    simp only [Bool.not_true,cond_false];rw [e,Option.bind_some,h5];rfl
end
theorem zfM {l:List GChoice}:ll l=(List.range l.length).all (mV l):=by
 unfold ll;refine l9 ?_;rw [zdD (mV l) (fun i next _=>?_),Bool.and_true];rw [zcI];unfold mV
 show (bif !(inB (cI l i).Station 0 511)|| !(inB (cI l i).Channel 2 51) then false else _)=_
 cases inB (cI l i).Station 0 511 <;> cases inB (cI l i).Channel 2 51 <;> cases (decide (0<(i:Int))&&decide ((cI l i).Station≤(cI l (i - 1)).Station)) <;> rfl
def lY (p:GProblem)(i:Nat)(n b:Nat):Prop:=∃j,j<i∧(cI p.Domains j).Station=(n:Int)∧(b=0∨(b:Int)∈(cI p.Domains j).Channels)
theorem znE {c b:Nat}(hc:c<64):((1#64) <<< c).getLsbD b=decide (b=c):=by
 rw [BitVec.getLsbD_shiftLeft];by_cases h:b=c
 ·subst h;simp [hc]
 ·by_cases h1:b<c
  ·simp [h1,h]
  ·(have:b - c≠0:=by omega);rw [decide_eq_false h];by_cases h2:b<64
   ·have e:(1#64).getLsbD (b - c)=false:=by
     rw [BitVec.getLsbD_one];simp;omega
    rw [e,Bool.and_false]
   ·simp [h2]
theorem zk4 {p:GProblem}(hG:GG p):∃v,zbT p=some v∧∀n b,n<512→b<64→((Vec.get v n).getLsbD b=true↔lY p p.Domains.length n b):=by
 unfold zbT;refine l9 ?_;refine zcp (fun i (c:Vec 512 (BitVec 64))=>∀n b,n<512→b<64→((Vec.get c n).getLsbD b=true↔lY p i n b)) (fun o=>∃v:Vec 512 (BitVec 64),o=some v∧∀n b,n<512→b<64→((Vec.get v n).getLsbD b=true↔lY p p.Domains.length n b)) ?_ (fun v hv=>⟨v,rfl,hv⟩) (fun i c next hi hc hn=>?_)
 ·intro n b hn hb;rw [f9 hn];constructor
  ·intro h;simp at h
  ·rintro ⟨j,hj,_⟩;omega
 have hs:=hG.st _ (fI hi);have hch:=hG.chs _ (fI hi);rw [fZ a5]; (have hlt:(cI p.Domains i).Station.toNat<512:=by omega);refine zcp (fun k (e:Vec 512 (BitVec 64))=>∀n b,n<512→b<64→((Vec.get e n).getLsbD b=true↔lY p i n b∨((cI p.Domains i).Station=(n:Int)∧(b=0∨∃q,q<k∧cI (cI p.Domains i).Channels q=(b:Int))))) (fun o=>∃v:Vec 512 (BitVec 64),o=some v∧∀n b,n<512→b<64→((Vec.get v n).getLsbD b=true↔lY p p.Domains.length n b)) ?_ (fun e he=>hn e fun n b h1 h2=>?_) (fun k e next' hk he hn'=>?_)
 ·intro n b h1 h2;rw [fh hlt];by_cases e:n=(cI p.Domains i).Station.toNat
  ·rw [if_pos e,BitVec.getLsbD_one]; (have e':(cI p.Domains i).Station=(n:Int):=by omega);constructor
   ·intro h;simp at h;exact .inr ⟨e', .inl h⟩
   ·rintro (⟨j,hj,h3,_⟩|⟨_,h3|⟨q,hq,_⟩⟩)
    ·have:=hG.inc j i hj hi;omega
    ·simp [h3]
    ·omega
  ·rw [if_neg e,hc n b h1 h2]; (have e':¬(cI p.Domains i).Station=(n:Int):=by omega);simp [e']
 ·rw [he n b h1 h2];constructor
  ·rintro (⟨j,hj,h3⟩|⟨h3,h4⟩)
   ·exact ⟨j,by omega,h3⟩
   ·refine ⟨i,by omega,h3,h4.imp id ?_⟩;rintro ⟨q,hq,e⟩;rw [←e];exact fI hq
  ·rintro ⟨j,hj,h3,h4⟩;rcases Nat.lt_or_ge j i with h5|h5
   ·exact .inl ⟨j,h5,h3,h4⟩
   ·(obtain rfl:j=i:=by omega);refine .inr ⟨h3,h4.imp id fun h=>?_⟩;obtain ⟨q,hq,e⟩:=io h;exact ⟨q,hq,e⟩
 ·have hc2:=hch.2 _ (fI hk);rw [fZ a5];refine hn' _ fun n b h1 h2=>?_;rw [fh hlt];by_cases e:n=(cI p.Domains i).Station.toNat
  ·(have e':(cI p.Domains i).Station=(n:Int):=by omega);rw [if_pos e,BitVec.getLsbD_or,znE a5,Bool.or_eq_true,decide_eq_true_eq,←e,he n b h1 h2];constructor
   ·rintro ((h3|⟨h3,h4|⟨q,hq,h5⟩⟩)|h3)
    ·exact .inl h3
    ·exact .inr ⟨e', .inl h4⟩
    ·exact .inr ⟨e', .inr ⟨q,by omega,h5⟩⟩
    ·exact .inr ⟨e', .inr ⟨k,by omega,by omega⟩⟩
   ·rintro (h3|⟨h3,h4|⟨q,hq,h5⟩⟩)
    ·exact .inl (.inl h3)
    ·exact .inl (.inr ⟨e', .inl h4⟩)
    ·rcases Nat.lt_or_ge q k with h6|h6
     ·exact .inl (.inr ⟨e', .inr ⟨q,h6,h5⟩⟩)
     ·(obtain rfl:q=k:=by omega);exact .inr a5
  ·(have e':¬(cI p.Domains i).Station=(n:Int):=by omega);rw [if_neg e,he n b h1 h2];simp [e']
def TabN (p:GProblem)(v:Vec 512 (BitVec 64)):Prop:=∀n b,n<512→b<64→((Vec.get v n).getLsbD b=true↔lY p p.Domains.length n b)
theorem TabN.zero {p:GProblem}{v:Vec 512 (BitVec 64)}(hG:GG p)(h:TabN p v){s:Int}(h0:0≤s∧s≤511):decide (((Vec.get v s.toNat).toNat:Int)=((0#64).toNat:Int))= !iT p s:=by
 have key:iT p s=true↔(Vec.get v s.toNat).getLsbD 0=true:=by
  rw [h _ _ a5 a5,gw];constructor
  ·rintro ⟨x,hx,e⟩;obtain ⟨j,hj,rfl⟩:=io hx;exact ⟨j,hj,by omega, .inl rfl⟩
  ·rintro ⟨j,hj,e,_⟩;exact ⟨_,fI hj,by omega⟩
 have none:iT p s=false→∀b,b<64→(Vec.get v s.toNat).getLsbD b=false:=fun hf b hb=>by
  cases hg:(Vec.get v s.toNat).getLsbD b with
  |false=>rfl
  |true=>
   obtain ⟨j,hj,e,_⟩:=(h _ _ a5 hb).1 hg;have:iT p s=true:=gw.2 ⟨_,fI hj,by omega⟩;rw [hf] at this;cases this
 cases hh:iT p s with
 |true=>
  refine decide_eq_false fun e=>?_;have h1:=key.1 hh;have e2:Vec.get v s.toNat=0#64:=BitVec.eq_of_toNat_eq a5;rw [e2] at h1;simp at h1
 |false=>
  refine decide_eq_true ?_; (have e2:Vec.get v s.toNat=0#64:=BitVec.eq_of_getLsbD_eq fun b hb=>by rw [none hh b hb];simp);rw [e2]
def zgV (p:GProblem)(s c:Int):Bool:=p.Domains.any fun x=>decide (x.Station=s)&&x.Channels.any fun k=>decide (k=c)
theorem jA {p:GProblem}{s c:Int}:zgV p s c=true↔∃x∈p.Domains,x.Station=s∧c∈x.Channels:=by
 unfold zgV;simp only [List.any_eq_true,Bool.and_eq_true,decide_eq_true_eq];constructor
 ·rintro ⟨x,hx,h1,k,hk,rfl⟩;exact ⟨x,hx,h1,hk⟩
 ·rintro ⟨x,hx,h1,hk⟩;exact ⟨x,hx,h1,c,hk,rfl⟩
theorem znz {x:BitVec 64}{c:Nat}:decide ((((x >>> c) &&& (1#64)).toNat:Int)=((0#64).toNat:Int))= !x.getLsbD c:=by
 have e:((x >>> c) &&& (1#64))=bif x.getLsbD c then 1#64 else 0#64:=by
  refine BitVec.eq_of_getLsbD_eq fun b hb=>?_;rw [BitVec.getLsbD_and,BitVec.getLsbD_ushiftRight,BitVec.getLsbD_one];by_cases h0:b=0
  ·subst h0;cases x.getLsbD c <;> simp
  ·cases x.getLsbD c <;> simp [h0]
 rw [e]
 cases x.getLsbD c <;> rfl
theorem TabN.bit {p:GProblem}{v:Vec 512 (BitVec 64)}(h:TabN p v){s c:Int}(h0:0≤s∧s≤511)(h1:2≤c∧c≤51):(Vec.get v s.toNat).getLsbD c.toNat=zgV p s c:=by
 rw [Bool.eq_iff_iff,h _ _ a5 a5,jA];constructor
 ·rintro ⟨j,hj,e,h2|h2⟩
  ·omega
  ·exact ⟨_,fI hj,by omega,by rw [show c=((c.toNat:Nat):Int) by omega];exact h2⟩
 ·rintro ⟨x,hx,e,h2⟩;obtain ⟨j,hj,rfl⟩:=io hx;exact ⟨j,hj,by omega, .inr (by rw [show ((c.toNat:Nat):Int)=c by omega];exact h2)⟩
def jk (p:GProblem)(g:List GChoice):Bool:=(List.range g.length).all (mV g)&&(List.range g.length).all fun i=>zgV p (cI g i).Station (cI g i).Channel
theorem iv {p:GProblem}{g:List GChoice}:jk p g=true↔ValidL g∧∀c∈g,zgV p c.Station c.Channel=true:=by
 unfold jk;rw [Bool.and_eq_true,jd,List.all_eq_true];constructor
 ·rintro ⟨h1,h2⟩;refine ⟨h1,fun c hc=>?_⟩;obtain ⟨i,hi,rfl⟩:=io hc;exact h2 i (List.mem_range.2 hi)
 ·rintro ⟨h1,h2⟩;exact ⟨h1,fun i hi=>h2 _ (fI (List.mem_range.1 hi))⟩
theorem zj0 {p:GProblem}{t:GStore}{g:List GChoice}(h:TabN p t.domains):zaB t g=some (jk p g):=by
 unfold zaB jk;rw [zfM]
 cases hv:(List.range g.length).all (mV g) with
 |false=>rfl
 |true=>
  have hl:=jd.1 hv;simp only [dL,Nat.sub_zero,Bool.not_true,cond_false,Bool.true_and];refine (zcp (fun i _=>(List.range i).all (fun i=>zgV p (cI g i).Station (cI g i).Channel)=true) (fun o=>o=some ((List.range g.length).all fun i=>zgV p (cI g i).Station (cI g i).Channel)) rfl (fun _ h=>by rw [h]) (fun i _ next hi hI hn=>?_));have hg:=hl.good _ (fI hi);rw [fZ a5,fZ a5,znz,h.bit a5 a5]
  cases hc:zgV p (cI g i).Station (cI g i).Channel with
  |false=>
   have:(List.range g.length).all (fun i=>zgV p (cI g i).Station (cI g i).Channel)=false:=by
    rw [List.all_eq_false];exact ⟨i,List.mem_range.2 hi,by simp [hc]⟩
   rw [this];rfl
  |true=>exact hn () (by rw [List.range_succ,List.all_append,hI];simp [hc])
end Go.Proofs.YtogbggmckmnlfaaGreatDoor
