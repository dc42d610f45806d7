/- Yq R7 Pw Cv Lc Ga Gg Lq: shortened and put together by squeeze.py. -/
import Derived.Test.YtogbggmckmnlfaaGreatDoorQ10
set_option maxRecDepth 100000
set_option maxHeartbeats 4000000
set_option linter.unusedVariables false
set_option linter.unusedSectionVars false
set_option linter.unusedSimpArgs false
namespace Go.Proofs.YtogbggmckmnlfaaGreatDoor
open Go.RowKit
def zaP (l:List Int):Bool:=
 dJ (fun (_:Unit)=>
  true)
 (fun k1=>
  c8 (fun (i_3:Nat) (next2:Unit→Bool) (_:Unit)=>
   (bif !(iB (cK l i_3)) then
    false
    else
    next2 ()))
  (fun (_:Unit)=>
   k1 ()) (l.length - 0) 0 ())
theorem zcT (F0:Frz)(w:World)(hF0:F0.At w)(l:List Int)(vl:Value)(hl:SlC F0 vl 1 (l.map eI)):Calls Tryz.prog 122 #[vl, .func (.func 79) #[] #[]] w fun e w'=>e= .returned (.bool (zaP l))∧Below w.heap.size w w':=by
 obtain ⟨r,hk⟩:∃r,zaP l=r:=⟨_,rfl⟩;rw [hk];unfold zaP at hk;haveI:=hl.oneC;obtain ⟨S0,F1,rfl,hS0,hp0⟩:=eY hF0;refine dv Tryz.func122 rfl rfl rfl hp0 ?_;refine ju ?_;refine mX ?_;have hm8:l.length≤9223372036854775807:=(List.length_map _)▸hl.max;refine dB ?_;have hq:=ek hk;clear hk;obtain ⟨k1,hk1,hk⟩:=hq; (try dsimp only at hk);refine da (ι:=Unit) (fun z=>[]) (fun z=>[.fr F1]) (fun z=>k1 ()=r) ?_ ?_
 ·have hq:=fB hk;clear hk;obtain ⟨f2,kk2,hf2,hkk2,hk⟩:=hq;refine fj ?_;refine T.loop (ι:=Nat) (fun z=>[(1, .func (.func 79) #[] #[]),(7,vl),(8, .int .i64 (l.length:Int)),(9, .int .i64 (z:Int))]) (fun z=>[.fr F1]) (fun z=>c8 f2 kk2 (l.length - z) z ()=r) (fun z=>l.length - z) 0 ?_ ?_ ?_ ?_
  ·exact hk
  ·exact m0
  ·exact eW
  ·rintro i_3 hk;refine fh ?_;refine T.cond rfl (fun h4=>?_) (fun h4=>?_)
   ·have p4:=of_decide_eq_true h4;rw [fx a5] at hk;generalize hn2:c8 f2 kk2 (l.length - (i_3+1)) (i_3+1)=next2 at hk;rw [←hf2] at hk; (try dsimp only at hk);refine fS ?_;refine q2p ?_;refine q4l ?_;refine ig ?_;refine eg ?_;refine cW (cN rfl rfl rfl (fun w hw=>zdy _ w (hw.fr (i:=0) rfl) (cK l i_3))) ?_;refine eX ?_;refine dB ?_;refine T.cond rfl (fun h5=>?_) (fun h5=>?_)
    ·replace hk:=dt hk h5;refine i2 ?_;subst hk;exact eh
    ·replace hk:=dr hk h5;refine iE ?_;rw [←hn2] at hk;exact K.next (i_3+1) hk a5 (.c (.c (.c (.c .nil)))) (List.Sublist.refl _)
   ·have p4:=of_decide_eq_false h4;rw [fw a5,←hkk2] at hk; (try dsimp only at hk);refine eE ?_;exact lv
 ·rintro _ hk;rw [←hk1] at hk; (try dsimp only at hk);refine kE ?_;subst hk;exact eh
def zbc (l:List Int):Option Bool:=
 dJ (fun (_:Unit)=>
  some true)
 (fun k1=>
  c8 (fun (i_3:Nat) (next2:Unit→Option Bool) (_:Unit)=>
   ey (0≤((i_3:Int) - 1)∧((i_3:Int) - 1)<(l.length:Int)) <|
   (bif decide (0≤(zba (cK l (((i_3:Int) - 1).toNat)) (cK l i_3))) then
    some false
    else
    next2 ()))
  (fun (_:Unit)=>
   k1 ()) (l.length - 1) 1 ())
theorem zdr (F0:Frz)(w:World)(hF0:F0.At w)(l:List Int)(vl:Value)(hl:SlC F0 vl 1 (l.map eI))(r:Bool)(hr:zbc l=some r):Calls Tryz.prog 123 #[vl, .func (.func 107) #[] #[]] w fun e w'=>e= .returned (.bool r)∧Below w.heap.size w w':=by
 have hk:=hr;unfold zbc at hk;haveI:=hl.oneC;obtain ⟨S0,F1,rfl,hS0,hp0⟩:=eY hF0;refine dv Tryz.func123 rfl rfl rfl hp0 ?_;refine q3v ?_;have hq:=ek hk;clear hk;obtain ⟨k1,hk1,hk⟩:=hq; (try dsimp only at hk);refine da (ι:=Unit) (fun z=>[]) (fun z=>[.fr F1]) (fun z=>k1 ()=some r) ?_ ?_
 ·have hq:=fB hk;clear hk;obtain ⟨f2,kk2,hf2,hkk2,hk⟩:=hq;refine fj ?_;refine T.loop (ι:=Nat) (fun z=>[(0,vl),(1, .func (.func 107) #[] #[]),(5, .int .i64 (z:Int))]) (fun z=>[.fr F1]) (fun z=>c8 f2 kk2 (l.length - z) z ()=some r) (fun z=>l.length - z) 1 ?_ ?_ ?_ ?_
  ·exact hk
  ·exact nA
  ·exact eW
  ·rintro i_3 hk;refine kn ?_;refine mX ?_;have hm8:l.length≤9223372036854775807:=(List.length_map _)▸hl.max;refine dB ?_;refine T.cond rfl (fun h4=>?_) (fun h4=>?_)
   ·have p4:=of_decide_eq_true h4;rw [fx a5] at hk;generalize hn2:c8 f2 kk2 (l.length - (i_3+1)) (i_3+1)=next2 at hk;rw [←hf2] at hk; (try dsimp only at hk);refine jQ ?_;have hq:(0≤((i_3:Int) - 1)∧((i_3:Int) - 1)<(l.length:Int))∧_:=gg hk;clear hk;obtain ⟨g16,hk⟩:=hq; (try dsimp only at hk);refine q26 ?_;refine q17 ?_;refine q23 ?_;refine q2t ?_;refine dD ?_;refine c6 rfl (Wt.none) rfl rfl (cN rfl rfl rfl (fun w hw=>zfE _ w (hw.fr (i:=0) rfl) (cK l (((i_3:Int) - 1).toNat)) (cK l i_3))) ?_;refine jL ?_;refine kG ?_;refine T.cond rfl (fun h5=>?_) (fun h5=>?_)
    ·have p5:=of_decide_eq_true h5;replace hk:=dt hk h5;refine i2 ?_;obtain rfl:=Option.some.inj hk;exact eh
    ·have p5:=of_decide_eq_false h5;replace hk:=dr hk h5;refine gY ?_;rw [←hn2] at hk;exact q4C
   ·have p4:=of_decide_eq_false h4;rw [fw a5,←hkk2] at hk; (try dsimp only at hk);refine eE ?_;exact lv
 ·rintro _ hk;rw [←hk1] at hk; (try dsimp only at hk);refine kE ?_;obtain rfl:=Option.some.inj hk;exact eh
def zaY (l:List Int):Option Bool:=
 dJ (fun (x_1:Bool)=>
  some x_1)
 (fun k2=>
  (bif (zaP l) then
   (zbc l).bind fun r7=>
   k2 r7
   else
   k2 false))
theorem zcJ (F0:Frz)(w:World)(hF0:F0.At w)(l:List Int)(vl:Value)(hl:SlC F0 vl 1 (l.map eI))(r:Bool)(hr:zaY l=some r):Calls Tryz.prog 77 #[vl] w fun e w'=>e= .returned (.bool r)∧Below w.heap.size w w':=by
 have hk:=hr;unfold zaY at hk;haveI:=hl.oneC;obtain ⟨S0,F1,rfl,hS0,hp0⟩:=eY hF0;refine dv Tryz.func77 rfl rfl rfl hp0 ?_;refine fh ?_; (try dsimp only at hk);have hq:=ek hk;clear hk;obtain ⟨k2,hk2,hk⟩:=hq; (try dsimp only at hk);refine da (ι:=Bool) (fun z=>[(2, .bool z)]) (fun z=>[.fr F1]) (fun z=>k2 z=some r) ?_ ?_
 ·refine iV ?_;refine cW (cN rfl rfl rfl (fun w hw=>zcT _ w (hw.fr (i:=0) rfl) l vl hl)) ?_;refine jn ?_;refine dl rfl rfl rfl (fun h3=>?_) (fun h3=>?_)
  ·replace hk:=dt hk h3;refine df ?_;have hq:=ee hk;clear hk;obtain ⟨r7,hr7,hk⟩:=hq;refine cW (cN rfl rfl rfl (fun w hw=>zdr _ w (hw.fr (i:=0) rfl) l vl hl r7 hr7)) ?_;refine mi ?_;exact cS r7 hk (.c .nil) (List.Sublist.refl _)
  ·replace hk:=dr hk h3;refine kX ?_;exact q4A
 ·rintro x_1 hk;rw [←hk2] at hk; (try dsimp only at hk);refine T.ret ?_;obtain rfl:=Option.some.inj hk;exact eh
def zb8 (l:List GChoice)(stations:List Int):Option (List GChoice×Int):=
 dJ (fun (x_1:Bool)=>
  (bif x_1 then
   some ([],2)
   else
   (zbT stations).bind fun r21=>
   dJ (fun (some_5:List GChoice)=>
    some (some_5,0))
   (fun k6=>
    c8 (fun (i_9:Nat) (next8:List GChoice→Option (List GChoice×Int)) (some_7:List GChoice)=>
     (l5 r21.1 ((cK l i_9).Station)).bind fun r33=>
     (bif r33 then
      ey (dn (some_7++[(cK l i_9)]).length 16) <|
      next8 (some_7++[(cK l i_9)])
      else
      next8 some_7))
    (fun (some_7:List GChoice)=>
     k6 some_7) (l.length - 0) 0 [])))
 (fun k2=>
  (bif !(kx l) then
   k2 true
   else
   (zaY stations).bind fun r16=>
   k2 (!r16)))
theorem zhs (F0:Frz)(w:World)(hF0:F0.At w)(l:List GChoice)(vl:Value)(hl:SlC F0 vl 2 (l.map cQ))(stations:List Int)(vstations:Value)(hstations:SlC F0 vstations 1 (stations.map eI))(r:List GChoice×Int)(hr:zb8 l stations=some r):Calls Tryz.prog 40 #[vl,vstations] w fun e w'=>∃(y:Value) (G:Frz),(SlC G y 2 (r.1.map cQ))∧e= .returned (.tuple #[y, .int .i64 r.2])∧Fx F0 w G w':=by
 have hk:=hr;unfold zb8 at hk;haveI:=hl.oneC;haveI:=hstations.oneC;obtain ⟨S0,F1,rfl,hS0,hp0⟩:=eY hF0;refine dv Tryz.func40 rfl rfl rfl hp0 ?_;refine jO ?_;refine kF ?_; (try dsimp only at hk);have hq:=ek hk;clear hk;obtain ⟨k2,hk2,hk⟩:=hq; (try dsimp only at hk);refine da (ι:=Bool) (fun z=>[(0,vl),(1,vstations),(18, .bool z)]) (fun z=>[.fr F1]) (fun z=>k2 z=some r) ?_ ?_
 ·refine iV ?_;refine cW (cN rfl rfl rfl (fun w hw=>zcv _ w (hw.fr (i:=0) rfl) l vl hl)) ?_;refine eX ?_;refine eg ?_;refine dl rfl rfl rfl (fun h3=>?_) (fun h3=>?_)
  ·replace hk:=dt hk h3;refine kX ?_;exact cS true hk (.c (.c (.c .nil))) (List.Sublist.refl _)
  ·replace hk:=dr hk h3;refine df ?_;have hq:=ee hk;clear hk;obtain ⟨r16,hr16,hk⟩:=hq;refine cW (cN rfl rfl rfl (fun w hw=>zcJ _ w (hw.fr (i:=0) rfl) stations vstations hstations r16 hr16)) ?_;refine mi ?_;exact cS (!r16) hk (.c (.c (.c .nil))) (List.Sublist.refl _)
 ·rintro x_1 hk;rw [←hk2] at hk; (try dsimp only at hk);refine T.cond rfl (fun h4=>?_) (fun h4=>?_)
  ·replace hk:=dt hk h4;refine lO ?_;obtain rfl:=Option.some.inj hk;exact eP rfl rfl rfl (fun w' hw=>⟨(.slice none 0 0),F1.toFrz,(SlC.nil _ 2),rfl,fT hw (i:=0) rfl hS0 (Frz.Le.refl _)⟩)
  ·replace hk:=dr hk h4;refine jM ?_;have hq:=ee hk;clear hk;obtain ⟨r21,hr21,hk⟩:=hq; (try dsimp only at hk);refine iV ?_;refine cW (cN rfl rfl rfl (fun w hw=>zd2 _ w (hw.fr (i:=0) rfl) stations vstations hstations r21 hr21)) ?_;refine eX ?_;refine eR ?_;refine q1S ?_;rintro _ _ ⟨g6,rfl,rfl⟩;refine q1x ?_;refine li ?_;refine TL.slNil 68 2 ?_;refine i5 ?_;refine df ?_;refine mX ?_;have hm25:l.length≤9223372036854775807:=(List.length_map _)▸hl.max;refine dB ?_;have hq:=ek hk;clear hk;obtain ⟨k6,hk6,hk⟩:=hq; (try dsimp only at hk);refine da (ι:=List GChoice×Value) (fun z=>[(8,z.2)]) (fun z=>[.sl z.2 68 2 z.1.length (z.1.flatMap cQ), .fr F1]) (fun z=>k6 z.1=some r∧OneC z.2) ?_ ?_
   ·have hq:=fB hk;clear hk;obtain ⟨f8,kk8,hf8,hkk8,hk⟩:=hq;refine fj ?_;refine T.loop (ι:=Nat×List GChoice×Value) (fun z=>[(6, .pointer (some ⟨g6,0,none⟩)),(8,z.2.2),(24,vl),(25, .int .i64 (l.length:Int)),(26, .int .i64 (z.1:Int))]) (fun z=>[.sl z.2.2 68 2 z.2.1.length (z.2.1.flatMap cQ), .row g6 83 (r21.1.words.1.map U), .fr F1]) (fun z=>c8 f8 kk8 (l.length - z.1) z.1 z.2.1=some r∧OneC z.2.2) (fun z=>l.length - z.1) (0,[],(.slice none 0 0)) ?_ ?_ ?_ ?_
    ·exact q4B
    ·exact mh
    ·exact eW
    ·rintro ⟨i_9,some_7,vsome_7⟩ ⟨hk,osome_7⟩; (try dsimp only at *);refine fh ?_;refine T.cond rfl (fun h10=>?_) (fun h10=>?_)
     ·have p10:=of_decide_eq_true h10;rw [fx a5] at hk;generalize hn8:c8 f8 kk8 (l.length - (i_9+1)) (i_9+1)=next8 at hk;rw [←hf8] at hk; (try dsimp only at hk);refine fS ?_;refine cM (dh (i:=i_9) rfl rfl rfl hl (List.length_map _) rfl a5) ?_;refine cM (ef 2 (i:=i_9) rfl rfl rfl hl a5) ?_;refine gV ?_;rintro _ _ ⟨g10,rfl,rfl⟩;refine mL ?_;have hq:=ee hk;clear hk;obtain ⟨r33,hr33,hk⟩:=hq; (try dsimp only at hk);refine fN ?_;refine cM (d7 2 rfl rfl rfl Vec.len) ?_;refine ei ?_;refine cW (cN rfl rfl rfl (fun w hw=>zaD _ w (hw.fr (i:=3) rfl) r21.1 ((cK l i_9).Station) r33 hr33)) ?_;refine q3W ?_;refine T.cond rfl (fun h11=>?_) (fun h11=>?_)
      ·replace hk:=dt hk h11;have hq:(dn (some_7++[(cK l i_9)]).length 16)∧_:=gg hk;clear hk;obtain ⟨g37,hk⟩:=hq; (try dsimp only at hk);refine iV ?_;refine iv ?_;refine jW ?_;rintro _ _ ⟨g36,rfl,rfl⟩;refine cW (fM 2 0 rfl rfl rfl rfl rfl rfl (kS (ys:=[(cK l i_9)])) (ni (enc:=cQ) (xs:=some_7) (ys:=[(cK l i_9)])) g37 a6) ?_;rintro v37 _ ⟨hv37,rfl⟩;refine df ?_;refine kA ?_;rw [←hn8] at hk;refine K.pick [2,3,4] rfl a6 ?_;exact K.next ((i_9+1),(some_7++[(cK l i_9)]),v37) ⟨hk,inferInstance⟩ a9 (.c (.c (.c (.c (.c .nil))))) (List.Sublist.refl _)
      ·replace hk:=dr hk h11;refine iE ?_;rw [←hn8] at hk;refine q2h ?_;exact K.next ((i_9+1),some_7,vsome_7) ⟨hk,inferInstance⟩ a9 (.c (.c (.c (.c (.c .nil))))) (List.Sublist.refl _)
     ·have p10:=of_decide_eq_false h10;rw [fw a5,←hkk8] at hk; (try dsimp only at hk);refine eE ?_;refine K.pick [0,2] rfl a6 ?_;exact cS (some_7,vsome_7) ⟨hk,inferInstance⟩ (.c .nil) (List.Sublist.refl _)
   ·rintro ⟨some_5,vsome_5⟩ ⟨hk,osome_5⟩; (try dsimp only at *);rw [←hk6] at hk; (try dsimp only at hk);refine dq ?_;refine eR ?_;refine gH ?_;refine jg (fun w hw=>hw.freezeS (i:=1) (j:=0) a6 rfl rfl) ?_;rintro F2 ⟨le1_2,hz2⟩;refine iX ?_;have hf2:=hz2.toF rfl GChoice.len;haveI:=hf2.oneC;obtain rfl:=Option.some.inj hk;exact eP rfl rfl rfl (fun w' hw=>⟨vsome_5,F2.toFrz,hf2,rfl,fT hw (i:=0) rfl hS0 le1_2⟩)
def zbB (p:GProblem):Option GSet:=
 ey (dn p.Domains.length 8) <|
 dJ (fun (l_1:List Int)=>
  (zbT l_1).bind fun r28=>
  some r28.1)
 (fun k2=>
  c8 (fun (i_5:Nat) (next4:List Int→Option GSet) (l_3:List Int)=>
   ey (0≤(i_5:Int)∧(i_5:Int)<(l_3.length:Int)) <|
   next4 (l_3.set i_5 ((cK p.Domains i_5).Station)))
  (fun (l_3:List Int)=>
   k2 l_3) (p.Domains.length - 0) 0 (List.replicate p.Domains.length 0))
theorem zfV (F0:Frz)(w:World)(hF0:F0.At w)(p:GProblem)(vp_0:Value)(cp_0:List (List Value))(hp_0:SlD cL F0 vp_0 2 cp_0 p.Domains)(vp_1:Value)(hp_1:SlC F0 vp_1 5 (p.Rules.Pairs.map cP))(vp_2:Value)(hp_2:SlC F0 vp_2 5 (p.Rules.Loads.map cR))(vp_3:Value)(hp_3:SlC F0 vp_3 4 (p.Rules.Caps.map cV))(r:GSet)(hr:zbB p=some r):Calls Tryz.prog 109 #[.agg [vp_0,vp_1,vp_2,vp_3].toArray] w fun e w'=>e= .returned (.agg (r.words.1.map U).toArray)∧Below w.heap.size w w':=by
 have hk:=hr;unfold zbB at hk;haveI:=hp_0.1.oneC;haveI:=hp_1.oneC;haveI:=hp_2.oneC;haveI:=hp_3.oneC;obtain ⟨S0,F1,rfl,hS0,hp0⟩:=eY hF0;refine dv Tryz.func109 rfl rfl rfl hp0 ?_;refine iW ?_;rintro _ _ ⟨g1,rfl,rfl⟩;refine q1S ?_;rintro _ _ ⟨g2,rfl,rfl⟩;refine ly ?_;have hq:(dn p.Domains.length 8)∧_:=gg hk;clear hk;obtain ⟨g11,hk⟩:=hq; (try dsimp only at hk);refine fN ?_;refine jZ ?_;refine q2g ?_;have hm10:p.Domains.length≤9223372036854775807:=hp_0.2.1▸hp_0.1.max;refine cW (Ew.ct (n':=p.Domains.length) (enc:=eI) (u:=0) rfl rfl rfl rfl g11 a6 a6 (fun _=>rfl) rfl) ?_;rintro v11 _ ⟨hv11,rfl⟩;refine gb 0 rfl ?_;intro iv11 hmv11;refine jN ?_;refine mR ?_;refine q2g ?_;refine dB ?_;have hq:=ek hk;clear hk;obtain ⟨k2,hk2,hk⟩:=hq; (try dsimp only at hk);refine da (ι:=List Int) (fun z=>[(2, .pointer (some ⟨g2,0,none⟩)),(3,v11)]) (fun z=>[.sl v11 3 1 z.length (z.flatMap eI), .row g2 83 ((Vec.fill 8 (0#64)).1.map U), .fr F1]) (fun z=>k2 z=some r) ?_ ?_
 ·have hq:=fB hk;clear hk;obtain ⟨f4,kk4,hf4,hkk4,hk⟩:=hq;refine fj ?_;refine T.pick [0,1,3] rfl a6 ?_;refine T.loop (ι:=Nat×List Int) (fun z=>[(2, .pointer (some ⟨g2,0,none⟩)),(3,v11),(13,vp_0),(14, .int .i64 (p.Domains.length:Int)),(15, .int .i64 (z.1:Int))]) (fun z=>[.sl v11 3 1 z.2.length (z.2.flatMap eI), .row g2 83 ((Vec.fill 8 (0#64)).1.map U), .fr F1]) (fun z=>c8 f4 kk4 (p.Domains.length - z.1) z.1 z.2=some r) (fun z=>p.Domains.length - z.1) (0,(List.replicate p.Domains.length 0)) ?_ ?_ ?_ ?_
  ·exact hk
  ·exact mh
  ·exact eW
  ·rintro ⟨i_5,l_3⟩ hk; (try dsimp only at *);refine fh ?_;refine T.cond rfl (fun h6=>?_) (fun h6=>?_)
   ·have p6:=of_decide_eq_true h6;rw [fx a5] at hk;generalize hn4:c8 f4 kk4 (p.Domains.length - (i_5+1)) (i_5+1)=next4 at hk;rw [←hf4] at hk; (try dsimp only at hk);refine q4k ?_;refine q3d ?_;have hd19_1:=(GDomain.c1 (hp_0.2.2 i_5 a5)).2;haveI:=hd19_1.oneC;refine gV ?_;rintro _ _ ⟨g5,rfl,rfl⟩;refine df ?_;refine j5 ?_;refine db ?_;have hq:(0≤(i_5:Int)∧(i_5:Int)<(l_3.length:Int))∧_:=gg hk;clear hk;obtain ⟨g24,hk⟩:=hq; (try dsimp only at hk);refine ji ?_;refine ei ?_;refine cM (Yv.cg 1 (i:=i_5) rfl rfl rfl rfl rfl a5) ?_;refine eD (Ew.bR 1 (k':=(l_3.set i_5 ((cK p.Domains i_5).Station)).length) (l':=(l_3.set i_5 ((cK p.Domains i_5).Station)).flatMap eI) rfl rfl rfl rfl a5 (zhP (enc:=eI) (xs:=l_3) (i:=i_5) (j:=0) (size:=1) (fun _=>rfl) a5 a6 a5) (zi1 (enc:=eI) (xs:=l_3) (i:=i_5) (j:=0) (size:=1) (x:=((cK p.Domains i_5).Station)) (fun _=>rfl) a5 a6 a5 rfl) (List.length_set ..)) ?_;refine eX ?_;refine kA ?_;rw [←hn4] at hk;refine q2h ?_;exact K.next ((i_5+1),(l_3.set i_5 ((cK p.Domains i_5).Station))) hk a9 (.c (.c (.c (.c (.c .nil))))) (List.Sublist.refl _)
   ·have p6:=of_decide_eq_false h6;rw [fw a5,←hkk4] at hk; (try dsimp only at hk);refine eE ?_;exact cS l_3 hk (.c (.c .nil)) (List.Sublist.refl _)
 ·rintro l_1 hk;rw [←hk2] at hk; (try dsimp only at hk);refine T.seq ?_;have hq:=ee hk;clear hk;obtain ⟨r28,hr28,hk⟩:=hq; (try dsimp only at hk);refine iV ?_;refine cW (cN rfl rfl rfl (fun w hw=>(hw.bor (i:=2) (j:=0) rfl rfl).elim fun F9 b=>have le1_2:=b.1.le;zd2 F9 w b.1.at_ l_1 v11 (b.2.toF rfl (fun _=>rfl)) r28 hr28)) ?_;refine eX ?_;refine eR ?_;refine q1S ?_;rintro _ _ ⟨g6,rfl,rfl⟩;refine q1x ?_;refine ig ?_;refine cM (d7 0 rfl rfl rfl Vec.len) ?_;refine eD (dx 2 rfl rfl rfl rfl Vec.len (Vec.len.trans Vec.len.symm)) ?_;refine eX ?_;refine gH ?_;obtain rfl:=Option.some.inj hk;exact lR 2 rfl rfl rfl Vec.len (fun w' hw=>⟨rfl,hw.isBelow⟩)
def zbN (p:GProblem)(stations:List Int):Option (GProblem×Int):=
 dJ (fun (x_1:Bool)=>
  (bif x_1 then
   some ((GProblem.mk [] (GRules.mk [] [] [])),2)
   else
   (zbT stations).bind fun r28=>
   (zbB p).bind fun r33=>
   (bif !(zar r28.1 r33) then
    some ((GProblem.mk [] (GRules.mk [] [] [])),9)
    else
    dJ (fun (s10:List GDomain×List GPair×List GLoad×List GCap)=>
     dJ (fun (s23:List GDomain×List GPair×List GLoad×List GCap)=>
      dJ (fun (s39:List GDomain×List GPair×List GLoad×List GCap)=>
       dJ (fun (s55:List GDomain×List GPair×List GLoad×List GCap)=>
        some ((GProblem.mk s55.1 (GRules.mk s55.2.1 s55.2.2.1 s55.2.2.2)),0))
       (fun k55=>
        c8 (fun (i_61:Nat) (next60:(List GDomain×List GPair×List GLoad×List GCap)→Option (GProblem×Int)) (s60:List GDomain×List GPair×List GLoad×List GCap)=>
         (l5 r28.1 ((cK p.Rules.Caps i_61).Station)).bind fun r125=>
         (bif r125 then
          ey (dn (s60.2.2.2++[(cK p.Rules.Caps i_61)]).length 32) <|
          next60 (s60.1,s60.2.1,s60.2.2.1,(s60.2.2.2++[(cK p.Rules.Caps i_61)]))
          else
          next60 (s60.1,s60.2.1,s60.2.2.1,s60.2.2.2)))
        (fun (s60:List GDomain×List GPair×List GLoad×List GCap)=>
         k55 (s60.1,s60.2.1,s60.2.2.1,s60.2.2.2)) (p.Rules.Caps.length - 0) 0 (s39.1,s39.2.1,s39.2.2.1,s39.2.2.2)))
      (fun k39=>
       c8 (fun (i_45:Nat) (next44:(List GDomain×List GPair×List GLoad×List GCap)→Option (GProblem×Int)) (s44:List GDomain×List GPair×List GLoad×List GCap)=>
        (l5 r28.1 ((cK p.Rules.Loads i_45).To)).bind fun r98=>
        dJ (fun (x_47:Bool)=>
         (bif x_47 then
          ey (dn (s44.2.2.1++[(cK p.Rules.Loads i_45)]).length 40) <|
          next44 (s44.1,s44.2.1,(s44.2.2.1++[(cK p.Rules.Loads i_45)]),s44.2.2.2)
          else
          next44 (s44.1,s44.2.1,s44.2.2.1,s44.2.2.2)))
        (fun k48=>
         (bif r98 then
          (l5 r28.1 ((cK p.Rules.Loads i_45).From)).bind fun r103=>
          k48 r103
          else
          k48 false)))
       (fun (s44:List GDomain×List GPair×List GLoad×List GCap)=>
        k39 (s44.1,s44.2.1,s44.2.2.1,s44.2.2.2)) (p.Rules.Loads.length - 0) 0 (s23.1,s23.2.1,s23.2.2.1,s23.2.2.2)))
     (fun k23=>
      c8 (fun (i_29:Nat) (next28:(List GDomain×List GPair×List GLoad×List GCap)→Option (GProblem×Int)) (s28:List GDomain×List GPair×List GLoad×List GCap)=>
       (l5 r28.1 ((cK p.Rules.Pairs i_29).A)).bind fun r71=>
       dJ (fun (x_31:Bool)=>
        (bif x_31 then
         ey (dn (s28.2.1++[(cK p.Rules.Pairs i_29)]).length 40) <|
         next28 (s28.1,(s28.2.1++[(cK p.Rules.Pairs i_29)]),s28.2.2.1,s28.2.2.2)
         else
         next28 (s28.1,s28.2.1,s28.2.2.1,s28.2.2.2)))
       (fun k32=>
        (bif r71 then
         (l5 r28.1 ((cK p.Rules.Pairs i_29).B)).bind fun r76=>
         k32 r76
         else
         k32 false)))
      (fun (s28:List GDomain×List GPair×List GLoad×List GCap)=>
       k23 (s28.1,s28.2.1,s28.2.2.1,s28.2.2.2)) (p.Rules.Pairs.length - 0) 0 (s10.1,s10.2.1,s10.2.2.1,s10.2.2.2)))
    (fun k10=>
     c8 (fun (i_16:Nat) (next15:(List GDomain×List GPair×List GLoad×List GCap)→Option (GProblem×Int)) (s15:List GDomain×List GPair×List GLoad×List GCap)=>
      (l5 r28.1 ((cK p.Domains i_16).Station)).bind fun r47=>
      (bif r47 then
       ey (dn (((cK p.Domains i_16).Channels).length) 8) <|
       ey (dn (s15.1++[(GDomain.mk ((cK p.Domains i_16).Station) ((cK p.Domains i_16).Channels))]).length 32) <|
       next15 ((s15.1++[(GDomain.mk ((cK p.Domains i_16).Station) ((cK p.Domains i_16).Channels))]),s15.2.1,s15.2.2.1,s15.2.2.2)
       else
       next15 (s15.1,s15.2.1,s15.2.2.1,s15.2.2.2)))
     (fun (s15:List GDomain×List GPair×List GLoad×List GCap)=>
      k10 (s15.1,s15.2.1,s15.2.2.1,s15.2.2.2)) (p.Domains.length - 0) 0 ([],[],[],[])))))
 (fun k2=>
  (bif !(gW p) then
   k2 true
   else
   (zaY stations).bind fun r22=>
   k2 (!r22)))
theorem zfB (F0:Frz)(w:World)(hF0:F0.At w)(p:GProblem)(vp_0:Value)(cp_0:List (List Value))(hp_0:SlD cL F0 vp_0 2 cp_0 p.Domains)(vp_1:Value)(hp_1:SlC F0 vp_1 5 (p.Rules.Pairs.map cP))(vp_2:Value)(hp_2:SlC F0 vp_2 5 (p.Rules.Loads.map cR))(vp_3:Value)(hp_3:SlC F0 vp_3 4 (p.Rules.Caps.map cV))(stations:List Int)(vstations:Value)(hstations:SlC F0 vstations 1 (stations.map eI))(r:GProblem×Int)(hr:zbN p stations=some r):Calls Tryz.prog 73 #[.agg [vp_0,vp_1,vp_2,vp_3].toArray,vstations] w fun e w'=>∃(y:Value×List (List Value)×Value×Value×Value) (G:Frz),(SlD cL G y.1 2 y.2.1 r.1.Domains∧SlC G y.2.2.1 5 (r.1.Rules.Pairs.map cP)∧SlC G y.2.2.2.1 5 (r.1.Rules.Loads.map cR)∧SlC G y.2.2.2.2 4 (r.1.Rules.Caps.map cV))∧e= .returned (.tuple #[.agg [y.1,y.2.2.1,y.2.2.2.1,y.2.2.2.2].toArray, .int .i64 r.2])∧Fx F0 w G w':=by
 have hk:=hr;unfold zbN at hk;haveI:=hp_0.1.oneC;haveI:=hp_1.oneC;haveI:=hp_2.oneC;haveI:=hp_3.oneC;haveI:=hstations.oneC;obtain ⟨S0,F1,rfl,hS0,hp0⟩:=eY hF0;refine dv Tryz.func73 rfl rfl rfl hp0 ?_;refine iW ?_;rintro _ _ ⟨g2,rfl,rfl⟩;refine gV ?_;rintro _ _ ⟨g4,rfl,rfl⟩;refine df ?_;refine kF ?_; (try dsimp only at hk);have hq:=ek hk;clear hk;obtain ⟨k2,hk2,hk⟩:=hq; (try dsimp only at hk);refine da (ι:=Bool) (fun z=>[(1,vstations),(2, .pointer (some ⟨g2,0,none⟩)),(4, .pointer (some ⟨g4,0,none⟩)),(24, .bool z)]) (fun z=>[.row g4 29 [(.slice none 0 0),(.slice none 0 0),(.slice none 0 0),(.slice none 0 0)], .row g2 29 [vp_0,vp_1,vp_2,vp_3], .fr F1]) (fun z=>k2 z=some r) ?_ ?_
 ·refine q4a ?_;refine dl rfl rfl rfl (fun h3=>?_) (fun h3=>?_)
  ·replace hk:=dt hk h3;refine kX ?_;exact cS true hk (.c (.c (.c (.c .nil)))) (List.Sublist.refl _)
  ·replace hk:=dr hk h3;refine df ?_;have hq:=ee hk;clear hk;obtain ⟨r22,hr22,hk⟩:=hq;refine cW (cN rfl rfl rfl (fun w hw=>zcJ _ w (hw.fr (i:=2) rfl) stations vstations hstations r22 hr22)) ?_;refine mi ?_;exact cS (!r22) hk (.c (.c (.c (.c .nil)))) (List.Sublist.refl _)
 ·rintro x_1 hk;rw [←hk2] at hk; (try dsimp only at hk);refine T.cond rfl (fun h4=>?_) (fun h4=>?_)
  ·replace hk:=dt hk h4;refine q4p ?_;refine j5 ?_;refine df ?_;refine kB ?_;obtain rfl:=Option.some.inj hk;exact q5b
  ·replace hk:=dr hk h4;refine jM ?_;have hq:=ee hk;clear hk;obtain ⟨r28,hr28,hk⟩:=hq; (try dsimp only at hk);refine iV ?_;refine cW (cN rfl rfl rfl (fun w hw=>zd2 _ w (hw.fr (i:=2) rfl) stations vstations hstations r28 hr28)) ?_;refine eX ?_;refine eR ?_;refine q1S ?_;rintro _ _ ⟨g6,rfl,rfl⟩;refine q1x ?_;refine df ?_;refine kF ?_;have hq:=ee hk;clear hk;obtain ⟨r33,hr33,hk⟩:=hq; (try dsimp only at hk);refine dM (sN 0 2 (.eff 2 (.eff 3 (.still 4 .done)))) _ a7 (List.Sublist.refl _) ?_;refine cT rfl (d7 0 rfl rfl rfl Vec.len) ?_;refine cT rfl (d7 2) ?_;refine dD ?_;refine c6 rfl (Wt.none) rfl rfl (cN rfl rfl rfl (fun w hw=>zfV _ w (hw.fr (i:=3) rfl) p vp_0 cp_0 hp_0 vp_1 hp_1 vp_2 hp_2 vp_3 hp_3 r33 hr33)) ?_;refine jL ?_;refine dD ?_;refine c6 rfl (Wt.none) rfl rfl (cN rfl rfl rfl (fun w hw=>zcL _ w (hw.fr (i:=3) rfl) r28.1 r33)) ?_;refine jL ?_;refine kG ?_;refine T.cond rfl (fun h5=>?_) (fun h5=>?_)
   ·replace hk:=dt hk h5;refine q4p ?_;refine eD (dx 1) ?_;refine jn ?_;refine kB ?_;obtain rfl:=Option.some.inj hk;exact iT 1 rfl rfl rfl rfl rfl (fun w' hw=>⟨((.slice none 0 0),[],(.slice none 0 0),(.slice none 0 0),(.slice none 0 0)),F1.toFrz,⟨(SlD.nil _ _ 2),(SlC.nil _ 5),(SlC.nil _ 5),(SlC.nil _ 4)⟩,rfl,fT hw (i:=3) rfl hS0 (Frz.Le.refl _)⟩)
   ·replace hk:=dr hk h5;refine i7 ?_;refine gV ?_;rintro _ _ ⟨g8,rfl,rfl⟩;refine TL.slNil 98 2 ?_;refine TL.slNil 100 5 ?_;refine TL.slNil 102 5 ?_;refine TL.slNil 104 4 ?_;refine i5 ?_;refine q24 ?_;refine q2g ?_;have hm39:p.Domains.length≤9223372036854775807:=hp_0.2.1▸hp_0.1.max;refine dB ?_;have hq:=ek hk;clear hk;obtain ⟨k10,hk10,hk⟩:=hq; (try dsimp only at hk);refine da (ι:=List GDomain×Value×List (List Value)×List GPair×Value×List GLoad×Value×List GCap×Value×FzB w (fun _=>False) S0) (fun z=>[(2, .pointer (some ⟨g2,0,none⟩)),(4, .pointer (some ⟨g4,0,none⟩)),(6, .pointer (some ⟨g6,0,none⟩)),(8, .pointer (some ⟨g8,0,none⟩))]) (fun z=>[.sl z.2.1 98 2 z.1.length z.2.2.1.flatten, .sl z.2.2.2.2.1 100 5 z.2.2.2.1.length (z.2.2.2.1.flatMap cP), .sl z.2.2.2.2.2.2.1 102 5 z.2.2.2.2.2.1.length (z.2.2.2.2.2.1.flatMap cR), .sl z.2.2.2.2.2.2.2.2.1 104 4 z.2.2.2.2.2.2.2.1.length (z.2.2.2.2.2.2.2.1.flatMap cV), .row g8 29 [z.2.1,z.2.2.2.2.1,z.2.2.2.2.2.2.1,z.2.2.2.2.2.2.2.2.1], .row g6 83 (r28.1.words.1.map U), .row g4 29 [(.slice none 0 0),(.slice none 0 0),(.slice none 0 0),(.slice none 0 0)], .row g2 29 [vp_0,vp_1,vp_2,vp_3], .fr z.2.2.2.2.2.2.2.2.2]) (fun z=>k10 (z.1,z.2.2.2.1,z.2.2.2.2.2.1,z.2.2.2.2.2.2.2.1)=some r∧OwnD cL z.2.2.2.2.2.2.2.2.2.toFrz 2 z.2.2.1 z.1∧OneC z.2.1∧OneC z.2.2.2.2.1∧OneC z.2.2.2.2.2.2.1∧OneC z.2.2.2.2.2.2.2.2.1∧F1.toFrz.Le z.2.2.2.2.2.2.2.2.2.toFrz) ?_ ?_
    ·have hq:=fB hk;clear hk;obtain ⟨f15,kk15,hf15,hkk15,hk⟩:=hq;refine fj ?_;refine T.pick [3,2,1,0,4,5,6,7,8] rfl a6 ?_;refine T.loop (ι:=Nat×List GDomain×Value×List (List Value)×List GPair×Value×List GLoad×Value×List GCap×Value×FzB w (fun _=>False) S0) (fun z=>[(2, .pointer (some ⟨g2,0,none⟩)),(4, .pointer (some ⟨g4,0,none⟩)),(6, .pointer (some ⟨g6,0,none⟩)),(8, .pointer (some ⟨g8,0,none⟩)),(38,vp_0),(39, .int .i64 (p.Domains.length:Int)),(40, .int .i64 (z.1:Int))]) (fun z=>[.sl z.2.2.1 98 2 z.2.1.length z.2.2.2.1.flatten, .sl z.2.2.2.2.2.1 100 5 z.2.2.2.2.1.length (z.2.2.2.2.1.flatMap cP), .sl z.2.2.2.2.2.2.2.1 102 5 z.2.2.2.2.2.2.1.length (z.2.2.2.2.2.2.1.flatMap cR), .sl z.2.2.2.2.2.2.2.2.2.1 104 4 z.2.2.2.2.2.2.2.2.1.length (z.2.2.2.2.2.2.2.2.1.flatMap cV), .row g8 29 [z.2.2.1,z.2.2.2.2.2.1,z.2.2.2.2.2.2.2.1,z.2.2.2.2.2.2.2.2.2.1], .row g6 83 (r28.1.words.1.map U), .row g4 29 [(.slice none 0 0),(.slice none 0 0),(.slice none 0 0),(.slice none 0 0)], .row g2 29 [vp_0,vp_1,vp_2,vp_3], .fr z.2.2.2.2.2.2.2.2.2.2]) (fun z=>c8 f15 kk15 (p.Domains.length - z.1) z.1 (z.2.1,z.2.2.2.2.1,z.2.2.2.2.2.2.1,z.2.2.2.2.2.2.2.2.1)=some r∧OwnD cL z.2.2.2.2.2.2.2.2.2.2.toFrz 2 z.2.2.2.1 z.2.1∧OneC z.2.2.1∧OneC z.2.2.2.2.2.1∧OneC z.2.2.2.2.2.2.2.1∧OneC z.2.2.2.2.2.2.2.2.2.1∧F1.toFrz.Le z.2.2.2.2.2.2.2.2.2.2.toFrz) (fun z=>p.Domains.length - z.1) (0,[],(.slice none 0 0),[],[],(.slice none 0 0),[],(.slice none 0 0),[],(.slice none 0 0),F1) ?_ ?_ ?_ ?_
     ·exact q5c
     ·exact q4R
     ·exact eW
     ·rintro ⟨i_16,c_11,vc_11,cc_11,c_12,vc_12,c_13,vc_13,c_14,vc_14,F3⟩ ⟨hk,hc_11,oc_11,oc_12,oc_13,oc_14,le1_3⟩; (try dsimp only at *);refine fh ?_;refine T.cond rfl (fun h17=>?_) (fun h17=>?_)
      ·have p17:=of_decide_eq_true h17;rw [fx a5] at hk;generalize hn15:c8 f15 kk15 (p.Domains.length - (i_16+1)) (i_16+1)=next15 at hk;rw [←hf15] at hk; (try dsimp only at hk);refine fS ?_;refine cM (dh (i:=i_16) rfl rfl rfl (SlD.mono (rep:=cL) (fun _ _ _ _=>GDomain.mono) hp_0 le1_3).1 (SlD.mono (rep:=cL) (fun _ _ _ _=>GDomain.mono) hp_0 le1_3).2.1 rfl a5) ?_;refine cM (kM 8 (i:=i_16) (j:=0) rfl rfl rfl (SlD.mono (rep:=cL) (fun _ _ _ _=>GDomain.mono) hp_0 le1_3).1 (SlD.mono (rep:=cL) (fun _ _ _ _=>GDomain.mono) hp_0 le1_3).2.1 a5 rfl (fW ((SlD.mono (rep:=cL) (fun _ _ _ _=>GDomain.mono) hp_0 le1_3).2.2 i_16 a5)) rfl) ?_;have hd43_1:=(GDomain.c1 ((SlD.mono (rep:=cL) (fun _ _ _ _=>GDomain.mono) hp_0 le1_3).2.2 i_16 a5)).2;haveI:=hd43_1.oneC;refine gV ?_;rintro _ _ ⟨g10,rfl,rfl⟩;refine mL ?_;have hq:=ee hk;clear hk;obtain ⟨r47,hr47,hk⟩:=hq; (try dsimp only at hk);refine fN ?_;refine q2K ?_;refine cW (cN rfl rfl rfl (fun w hw=>zaD _ w (hw.fr (i:=9) rfl) r28.1 ((cK p.Domains i_16).Station) r47 hr47)) ?_;refine q3W ?_;refine T.cond rfl (fun h18=>?_) (fun h18=>?_)
       ·replace hk:=dt hk h18;have hq:(dn (((cK p.Domains i_16).Channels).length) 8)∧_:=gg hk;clear hk;obtain ⟨g54,hk⟩:=hq;have hq:(dn (c_11++[(GDomain.mk ((cK p.Domains i_16).Station) ((cK p.Domains i_16).Channels))]).length 32)∧_:=gg hk;clear hk;obtain ⟨g57,hk⟩:=hq; (try dsimp only at hk);refine dM (.still 0 (.still 2 (.still 3 (.still 4 (.still 5 (.two 1 6 (.eff 6 (.still 7 (.eff 8 (.eff 9 (.still 10 (.eff 11 .done)))))) (.still 7 (.two 1 8 (.eff 8 (.eff 9 (.still 10 (.eff 11 .done)))) (.eff 1 (.eff 9 (.still 10 (.eff 11 .done)))))))))))) [.row g10 98 [.int .i64 ((cK p.Domains i_16).Station),(cK (cK cp_0 i_16) 1)], .sl vc_12 100 5 c_12.length (c_12.flatMap cP), .sl vc_13 102 5 c_13.length (c_13.flatMap cR), .sl vc_14 104 4 c_14.length (c_14.flatMap cV), .row g6 83 (r28.1.words.1.map U), .row g4 29 [(.slice none 0 0),(.slice none 0 0),(.slice none 0 0),(.slice none 0 0)], .row g2 29 [vp_0,vp_1,vp_2,vp_3], .fr F3] a7 Sx ?_;refine gr ?_;refine fH ?_;refine fH ?_;refine TS.two ?_ ?_
        ·refine gp rfl (Wt.none) rfl rfl (c9 5) (fun w hw=>hw.sub Sx) ?_;refine dD ?_;refine q3O ?_;rintro _ _ ⟨v54_,F4,le3_4,hf54,hq,rfl⟩;obtain rfl:=hq.symm;have le1_4:=le1_3.trans le3_4;haveI:=hf54.oneC;refine ⟨(fun w hw=>(hw.frLe (i:=9) rfl le3_4).sub Sx),?_⟩;refine cT rfl (Yv.build) ?_;refine dD ?_;refine nk ?_;rintro _ _ ⟨g56,rfl,rfl⟩;have hl56:OwnD cL F4.toFrz 2 [[.int .i64 ((cK p.Domains i_16).Station),v54_]] [(GDomain.mk ((cK p.Domains i_16).Station) ((cK p.Domains i_16).Channels))]:=(di (OwnD.nil _ _ 2) ⟨_,rfl,hf54⟩);refine ⟨(fun w hw=>(hw.frLe (i:=10) rfl le3_4).sub Sx),?_⟩;refine q1n ?_;rintro v57 _ ⟨hv57,rfl⟩;have ho57:OwnD cL F4.toFrz 2 (cc_11++[[.int .i64 ((cK p.Domains i_16).Station),v54_]]) (c_11++[(GDomain.mk ((cK p.Domains i_16).Station) ((cK p.Domains i_16).Channels))]):=(di (OwnD.mono (rep:=cL) (fun _ _ _ _=>GDomain.mono) hc_11 le3_4) ⟨_,rfl,hf54⟩);refine ⟨(fun w hw=>(hw.frLe (i:=10) rfl le3_4).sub Sx),?_⟩;refine q3o ?_;refine ⟨(fun w hw=>(hw.frLe (i:=10) rfl le3_4).sub Sx),?_⟩;refine q1z ?_;rw [←hn15] at hk;refine q3D ?_;exact K.next ((i_16+1),(c_11++[(GDomain.mk ((cK p.Domains i_16).Station) ((cK p.Domains i_16).Channels))]),v57,(cc_11++[[.int .i64 ((cK p.Domains i_16).Station),v54_]]),c_12,vc_12,c_13,vc_13,c_14,vc_14,F4) ⟨hk,ho57,inferInstance,inferInstance,inferInstance,inferInstance,le1_4⟩ a9 (.c (.c (.c (.c (.c (.c (.c .nil))))))) (List.Sublist.refl _)
        ·refine q3O ?_;rintro _ _ ⟨v54_,F5,le3_5,hf54,hq,rfl⟩;obtain rfl:=hq.symm;have le1_5:=le1_3.trans le3_5;haveI:=hf54.oneC;refine ⟨(fun w hw=>(hw.frLe (i:=9) rfl le3_5).sub Sx),?_⟩;refine cT rfl (Yv.build) ?_;refine TS.two ?_ ?_
         ·refine gp rfl (Wt.none) rfl rfl (c9 5) (fun w hw=>(hw.frLe (i:=9) rfl le3_5).sub Sx) ?_;refine dD ?_;refine nk ?_;rintro _ _ ⟨g56,rfl,rfl⟩;have hl56:OwnD cL F5.toFrz 2 [[.int .i64 ((cK p.Domains i_16).Station),v54_]] [(GDomain.mk ((cK p.Domains i_16).Station) ((cK p.Domains i_16).Channels))]:=(di (OwnD.nil _ _ 2) ⟨_,rfl,hf54⟩);refine q2C ?_;refine q1n ?_;rintro v57 _ ⟨hv57,rfl⟩;have ho57:OwnD cL F5.toFrz 2 (cc_11++[[.int .i64 ((cK p.Domains i_16).Station),v54_]]) (c_11++[(GDomain.mk ((cK p.Domains i_16).Station) ((cK p.Domains i_16).Channels))]):=(di (OwnD.mono (rep:=cL) (fun _ _ _ _=>GDomain.mono) hc_11 le3_5) ⟨_,rfl,hf54⟩);refine q2C ?_;refine q3o ?_;refine q2C ?_;refine q1z ?_;rw [←hn15] at hk;refine q3D ?_;exact q5l
         ·refine nk ?_;rintro _ _ ⟨g56,rfl,rfl⟩;have hl56:OwnD cL F5.toFrz 2 [[.int .i64 ((cK p.Domains i_16).Station),v54_]] [(GDomain.mk ((cK p.Domains i_16).Station) ((cK p.Domains i_16).Channels))]:=(di (OwnD.nil _ _ 2) ⟨_,rfl,hf54⟩);refine q2C ?_;refine dD ?_;refine gp rfl (Wt.none) rfl rfl (c9 6) (fun w hw=>(hw.frLe (i:=10) rfl le3_5).sub Sx) ?_;refine q1n ?_;rintro v57 _ ⟨hv57,rfl⟩;have ho57:OwnD cL F5.toFrz 2 (cc_11++[[.int .i64 ((cK p.Domains i_16).Station),v54_]]) (c_11++[(GDomain.mk ((cK p.Domains i_16).Station) ((cK p.Domains i_16).Channels))]):=(di (OwnD.mono (rep:=cL) (fun _ _ _ _=>GDomain.mono) hc_11 le3_5) ⟨_,rfl,hf54⟩);refine q2C ?_;refine q3o ?_;refine q2C ?_;refine q1z ?_;rw [←hn15] at hk;refine q3D ?_;exact q5l
       ·replace hk:=dr hk h18;refine iE ?_;rw [←hn15] at hk;refine K.pick [1,2,3,4,5,6,7,8,9] rfl a6 ?_;exact K.next ((i_16+1),c_11,vc_11,cc_11,c_12,vc_12,c_13,vc_13,c_14,vc_14,F3) ⟨hk,hc_11,inferInstance,inferInstance,inferInstance,inferInstance,le1_3⟩ a9 (.c (.c (.c (.c (.c (.c (.c .nil))))))) (List.Sublist.refl _)
      ·have p17:=of_decide_eq_false h17;rw [fw a5,←hkk15] at hk; (try dsimp only at hk);refine eE ?_;exact cS (c_11,vc_11,cc_11,c_12,vc_12,c_13,vc_13,c_14,vc_14,F3) ⟨hk,hc_11,inferInstance,inferInstance,inferInstance,inferInstance,le1_3⟩ (.c (.c (.c (.c .nil)))) (List.Sublist.refl _)
    ·rintro ⟨c_6,vc_6,cc_6,c_7,vc_7,c_8,vc_8,c_9,vc_9,F2⟩ ⟨hk,hc_6,oc_6,oc_7,oc_8,oc_9,le1_2⟩; (try dsimp only at *);rw [←hk10] at hk; (try dsimp only at hk);refine lE ?_;refine fC ?_;refine q24 ?_;refine cM (dg rfl rfl (SlC.mono hp_1 le1_2) (List.length_map _)) ?_;have hm63:p.Rules.Pairs.length≤9223372036854775807:=(List.length_map _)▸(SlC.mono hp_1 le1_2).max;refine dB ?_;have hq:=ek hk;clear hk;obtain ⟨k23,hk23,hk⟩:=hq; (try dsimp only at hk);refine da (ι:=List GDomain×Value×List (List Value)×List GPair×Value×List GLoad×Value×List GCap×Value) (fun z=>[(2, .pointer (some ⟨g2,0,none⟩)),(4, .pointer (some ⟨g4,0,none⟩)),(6, .pointer (some ⟨g6,0,none⟩)),(8, .pointer (some ⟨g8,0,none⟩))]) (fun z=>[.sl z.2.1 98 2 z.1.length z.2.2.1.flatten, .sl z.2.2.2.2.1 100 5 z.2.2.2.1.length (z.2.2.2.1.flatMap cP), .sl z.2.2.2.2.2.2.1 102 5 z.2.2.2.2.2.1.length (z.2.2.2.2.2.1.flatMap cR), .sl z.2.2.2.2.2.2.2.2 104 4 z.2.2.2.2.2.2.2.1.length (z.2.2.2.2.2.2.2.1.flatMap cV), .row g8 29 [z.2.1,z.2.2.2.2.1,z.2.2.2.2.2.2.1,z.2.2.2.2.2.2.2.2], .row g6 83 (r28.1.words.1.map U), .row g4 29 [(.slice none 0 0),(.slice none 0 0),(.slice none 0 0),(.slice none 0 0)], .row g2 29 [vp_0,vp_1,vp_2,vp_3], .fr F2]) (fun z=>k23 (z.1,z.2.2.2.1,z.2.2.2.2.2.1,z.2.2.2.2.2.2.2.1)=some r∧OwnD cL F2.toFrz 2 z.2.2.1 z.1∧OneC z.2.1∧OneC z.2.2.2.2.1∧OneC z.2.2.2.2.2.2.1∧OneC z.2.2.2.2.2.2.2.2) ?_ ?_
     ·have hq:=fB hk;clear hk;obtain ⟨f28,kk28,hf28,hkk28,hk⟩:=hq;refine fj ?_;refine T.loop (ι:=Nat×List GDomain×Value×List (List Value)×List GPair×Value×List GLoad×Value×List GCap×Value) (fun z=>[(2, .pointer (some ⟨g2,0,none⟩)),(4, .pointer (some ⟨g4,0,none⟩)),(6, .pointer (some ⟨g6,0,none⟩)),(8, .pointer (some ⟨g8,0,none⟩)),(62,vp_1),(63, .int .i64 (p.Rules.Pairs.length:Int)),(64, .int .i64 (z.1:Int))]) (fun z=>[.sl z.2.2.1 98 2 z.2.1.length z.2.2.2.1.flatten, .sl z.2.2.2.2.2.1 100 5 z.2.2.2.2.1.length (z.2.2.2.2.1.flatMap cP), .sl z.2.2.2.2.2.2.2.1 102 5 z.2.2.2.2.2.2.1.length (z.2.2.2.2.2.2.1.flatMap cR), .sl z.2.2.2.2.2.2.2.2.2 104 4 z.2.2.2.2.2.2.2.2.1.length (z.2.2.2.2.2.2.2.2.1.flatMap cV), .row g8 29 [z.2.2.1,z.2.2.2.2.2.1,z.2.2.2.2.2.2.2.1,z.2.2.2.2.2.2.2.2.2], .row g6 83 (r28.1.words.1.map U), .row g4 29 [(.slice none 0 0),(.slice none 0 0),(.slice none 0 0),(.slice none 0 0)], .row g2 29 [vp_0,vp_1,vp_2,vp_3], .fr F2]) (fun z=>c8 f28 kk28 (p.Rules.Pairs.length - z.1) z.1 (z.2.1,z.2.2.2.2.1,z.2.2.2.2.2.2.1,z.2.2.2.2.2.2.2.2.1)=some r∧OwnD cL F2.toFrz 2 z.2.2.2.1 z.2.1∧OneC z.2.2.1∧OneC z.2.2.2.2.2.1∧OneC z.2.2.2.2.2.2.2.1∧OneC z.2.2.2.2.2.2.2.2.2) (fun z=>p.Rules.Pairs.length - z.1) (0,c_6,vc_6,cc_6,c_7,vc_7,c_8,vc_8,c_9,vc_9) ?_ ?_ ?_ ?_
      ·exact ⟨hk,hc_6,inferInstance,inferInstance,inferInstance,inferInstance⟩
      ·exact q4R
      ·exact eW
      ·rintro ⟨i_29,c_24,vc_24,cc_24,c_25,vc_25,c_26,vc_26,c_27,vc_27⟩ ⟨hk,hc_24,oc_24,oc_25,oc_26,oc_27⟩; (try dsimp only at *);refine fh ?_;refine T.cond rfl (fun h30=>?_) (fun h30=>?_)
       ·have p30:=of_decide_eq_true h30;rw [fx a5] at hk;generalize hn28:c8 f28 kk28 (p.Rules.Pairs.length - (i_29+1)) (i_29+1)=next28 at hk;rw [←hf28] at hk; (try dsimp only at hk);refine fS ?_;refine cM (dh (i:=i_29) rfl rfl rfl (SlC.mono hp_1 le1_2) (List.length_map _) rfl a5) ?_;refine cM (ef 8 (i:=i_29) rfl rfl rfl (SlC.mono hp_1 le1_2) a5) ?_;refine gV ?_;rintro _ _ ⟨g12,rfl,rfl⟩;refine mL ?_;have hq:=ee hk;clear hk;obtain ⟨r71,hr71,hk⟩:=hq; (try dsimp only at hk);have hq:=ek hk;clear hk;obtain ⟨k32,hk32,hk⟩:=hq; (try dsimp only at hk);refine da (ι:=Bool) (fun z=>[(2, .pointer (some ⟨g2,0,none⟩)),(4, .pointer (some ⟨g4,0,none⟩)),(6, .pointer (some ⟨g6,0,none⟩)),(8, .pointer (some ⟨g8,0,none⟩)),(12, .pointer (some ⟨g12,0,none⟩)),(62,vp_1),(63, .int .i64 (p.Rules.Pairs.length:Int)),(64, .int .i64 (i_29:Int)),(77, .bool z)]) (fun z=>[.row g12 100 [.int .i64 ((cK p.Rules.Pairs i_29).A), .int .i64 ((cK p.Rules.Pairs i_29).B), .int .i64 ((cK p.Rules.Pairs i_29).Offset), .int .i64 ((cK p.Rules.Pairs i_29).Low), .int .i64 ((cK p.Rules.Pairs i_29).High)], .sl vc_24 98 2 c_24.length cc_24.flatten, .sl vc_25 100 5 c_25.length (c_25.flatMap cP), .sl vc_26 102 5 c_26.length (c_26.flatMap cR), .sl vc_27 104 4 c_27.length (c_27.flatMap cV), .row g8 29 [vc_24,vc_25,vc_26,vc_27], .row g6 83 (r28.1.words.1.map U), .row g4 29 [(.slice none 0 0),(.slice none 0 0),(.slice none 0 0),(.slice none 0 0)], .row g2 29 [vp_0,vp_1,vp_2,vp_3], .fr F2]) (fun z=>k32 z=some r) ?_ ?_
        ·refine fN ?_;refine q2K ?_;refine cW (cN rfl rfl rfl (fun w hw=>zaD _ w (hw.fr (i:=9) rfl) r28.1 ((cK p.Rules.Pairs i_29).A) r71 hr71)) ?_;refine jn ?_;refine dl rfl rfl rfl (fun h33=>?_) (fun h33=>?_)
         ·replace hk:=dt hk h33;refine q2K ?_;have hq:=ee hk;clear hk;obtain ⟨r76,hr76,hk⟩:=hq;refine cW (cN rfl rfl rfl (fun w hw=>zaD _ w (hw.fr (i:=9) rfl) r28.1 ((cK p.Rules.Pairs i_29).B) r76 hr76)) ?_;refine jn ?_;refine ff ?_;exact cS r76 hk (.c (.c (.c (.c (.c (.c (.c (.c (.c .nil))))))))) (List.Sublist.refl _)
         ·replace hk:=dr hk h33;refine mm ?_;exact q5m
        ·rintro x_31 hk;rw [←hk32] at hk; (try dsimp only at hk);refine T.cond rfl (fun h34=>?_) (fun h34=>?_)
         ·replace hk:=dt hk h34;have hq:(dn (c_25++[(cK p.Rules.Pairs i_29)]).length 40)∧_:=gg hk;clear hk;obtain ⟨g83,hk⟩:=hq; (try dsimp only at hk);refine q3b ?_;rintro _ _ ⟨g82,rfl,rfl⟩;refine cW (fM 3 0 rfl rfl rfl rfl rfl rfl (kS (ys:=[(cK p.Rules.Pairs i_29)])) (ni (enc:=cP) (xs:=c_25) (ys:=[(cK p.Rules.Pairs i_29)])) g83 a6) ?_;rintro v83 _ ⟨hv83,rfl⟩;refine q3h ?_;rw [←hn28] at hk;refine q3D ?_;exact K.next ((i_29+1),c_24,vc_24,cc_24,(c_25++[(cK p.Rules.Pairs i_29)]),v83,c_26,vc_26,c_27,vc_27) ⟨hk,hc_24,inferInstance,inferInstance,inferInstance,inferInstance⟩ a9 (.c (.c (.c (.c (.c (.c (.c .nil))))))) (List.Sublist.refl _)
         ·replace hk:=dr hk h34;refine iE ?_;rw [←hn28] at hk;refine K.pick [1,2,3,4,5,6,7,8,9] rfl a6 ?_;exact K.next ((i_29+1),c_24,vc_24,cc_24,c_25,vc_25,c_26,vc_26,c_27,vc_27) ⟨hk,hc_24,inferInstance,inferInstance,inferInstance,inferInstance⟩ a9 (.c (.c (.c (.c (.c (.c (.c .nil))))))) (List.Sublist.refl _)
       ·have p30:=of_decide_eq_false h30;rw [fw a5,←hkk28] at hk; (try dsimp only at hk);refine eE ?_;exact cS (c_24,vc_24,cc_24,c_25,vc_25,c_26,vc_26,c_27,vc_27) ⟨hk,hc_24,inferInstance,inferInstance,inferInstance,inferInstance⟩ (.c (.c (.c (.c .nil)))) (List.Sublist.refl _)
     ·rintro ⟨c_19,vc_19,cc_19,c_20,vc_20,c_21,vc_21,c_22,vc_22⟩ ⟨hk,hc_19,oc_19,oc_20,oc_21,oc_22⟩; (try dsimp only at *);rw [←hk23] at hk; (try dsimp only at hk);refine lE ?_;refine fC ?_;refine q24 ?_;refine cM (dg rfl rfl (SlC.mono hp_2 le1_2) (List.length_map _)) ?_;have hm90:p.Rules.Loads.length≤9223372036854775807:=(List.length_map _)▸(SlC.mono hp_2 le1_2).max;refine dB ?_;have hq:=ek hk;clear hk;obtain ⟨k39,hk39,hk⟩:=hq; (try dsimp only at hk);refine da (ι:=List GDomain×Value×List (List Value)×List GPair×Value×List GLoad×Value×List GCap×Value) (fun z=>[(2, .pointer (some ⟨g2,0,none⟩)),(4, .pointer (some ⟨g4,0,none⟩)),(6, .pointer (some ⟨g6,0,none⟩)),(8, .pointer (some ⟨g8,0,none⟩))]) (fun z=>[.sl z.2.1 98 2 z.1.length z.2.2.1.flatten, .sl z.2.2.2.2.1 100 5 z.2.2.2.1.length (z.2.2.2.1.flatMap cP), .sl z.2.2.2.2.2.2.1 102 5 z.2.2.2.2.2.1.length (z.2.2.2.2.2.1.flatMap cR), .sl z.2.2.2.2.2.2.2.2 104 4 z.2.2.2.2.2.2.2.1.length (z.2.2.2.2.2.2.2.1.flatMap cV), .row g8 29 [z.2.1,z.2.2.2.2.1,z.2.2.2.2.2.2.1,z.2.2.2.2.2.2.2.2], .row g6 83 (r28.1.words.1.map U), .row g4 29 [(.slice none 0 0),(.slice none 0 0),(.slice none 0 0),(.slice none 0 0)], .row g2 29 [vp_0,vp_1,vp_2,vp_3], .fr F2]) (fun z=>k39 (z.1,z.2.2.2.1,z.2.2.2.2.2.1,z.2.2.2.2.2.2.2.1)=some r∧OwnD cL F2.toFrz 2 z.2.2.1 z.1∧OneC z.2.1∧OneC z.2.2.2.2.1∧OneC z.2.2.2.2.2.2.1∧OneC z.2.2.2.2.2.2.2.2) ?_ ?_
      ·have hq:=fB hk;clear hk;obtain ⟨f44,kk44,hf44,hkk44,hk⟩:=hq;refine fj ?_;refine T.loop (ι:=Nat×List GDomain×Value×List (List Value)×List GPair×Value×List GLoad×Value×List GCap×Value) (fun z=>[(2, .pointer (some ⟨g2,0,none⟩)),(4, .pointer (some ⟨g4,0,none⟩)),(6, .pointer (some ⟨g6,0,none⟩)),(8, .pointer (some ⟨g8,0,none⟩)),(89,vp_2),(90, .int .i64 (p.Rules.Loads.length:Int)),(91, .int .i64 (z.1:Int))]) (fun z=>[.sl z.2.2.1 98 2 z.2.1.length z.2.2.2.1.flatten, .sl z.2.2.2.2.2.1 100 5 z.2.2.2.2.1.length (z.2.2.2.2.1.flatMap cP), .sl z.2.2.2.2.2.2.2.1 102 5 z.2.2.2.2.2.2.1.length (z.2.2.2.2.2.2.1.flatMap cR), .sl z.2.2.2.2.2.2.2.2.2 104 4 z.2.2.2.2.2.2.2.2.1.length (z.2.2.2.2.2.2.2.2.1.flatMap cV), .row g8 29 [z.2.2.1,z.2.2.2.2.2.1,z.2.2.2.2.2.2.2.1,z.2.2.2.2.2.2.2.2.2], .row g6 83 (r28.1.words.1.map U), .row g4 29 [(.slice none 0 0),(.slice none 0 0),(.slice none 0 0),(.slice none 0 0)], .row g2 29 [vp_0,vp_1,vp_2,vp_3], .fr F2]) (fun z=>c8 f44 kk44 (p.Rules.Loads.length - z.1) z.1 (z.2.1,z.2.2.2.2.1,z.2.2.2.2.2.2.1,z.2.2.2.2.2.2.2.2.1)=some r∧OwnD cL F2.toFrz 2 z.2.2.2.1 z.2.1∧OneC z.2.2.1∧OneC z.2.2.2.2.2.1∧OneC z.2.2.2.2.2.2.2.1∧OneC z.2.2.2.2.2.2.2.2.2) (fun z=>p.Rules.Loads.length - z.1) (0,c_19,vc_19,cc_19,c_20,vc_20,c_21,vc_21,c_22,vc_22) ?_ ?_ ?_ ?_
       ·exact ⟨hk,hc_19,inferInstance,inferInstance,inferInstance,inferInstance⟩
       ·exact q4R
       ·exact eW
       ·rintro ⟨i_45,c_40,vc_40,cc_40,c_41,vc_41,c_42,vc_42,c_43,vc_43⟩ ⟨hk,hc_40,oc_40,oc_41,oc_42,oc_43⟩; (try dsimp only at *);refine fh ?_;refine T.cond rfl (fun h46=>?_) (fun h46=>?_)
        ·have p46:=of_decide_eq_true h46;rw [fx a5] at hk;generalize hn44:c8 f44 kk44 (p.Rules.Loads.length - (i_45+1)) (i_45+1)=next44 at hk;rw [←hf44] at hk; (try dsimp only at hk);refine fS ?_;refine cM (dh (i:=i_45) rfl rfl rfl (SlC.mono hp_2 le1_2) (List.length_map _) rfl a5) ?_;refine cM (ef 8 (i:=i_45) rfl rfl rfl (SlC.mono hp_2 le1_2) a5) ?_;refine gV ?_;rintro _ _ ⟨g14,rfl,rfl⟩;refine mL ?_;have hq:=ee hk;clear hk;obtain ⟨r98,hr98,hk⟩:=hq; (try dsimp only at hk);have hq:=ek hk;clear hk;obtain ⟨k48,hk48,hk⟩:=hq; (try dsimp only at hk);refine da (ι:=Bool) (fun z=>[(2, .pointer (some ⟨g2,0,none⟩)),(4, .pointer (some ⟨g4,0,none⟩)),(6, .pointer (some ⟨g6,0,none⟩)),(8, .pointer (some ⟨g8,0,none⟩)),(14, .pointer (some ⟨g14,0,none⟩)),(89,vp_2),(90, .int .i64 (p.Rules.Loads.length:Int)),(91, .int .i64 (i_45:Int)),(104, .bool z)]) (fun z=>[.row g14 102 [.int .i64 ((cK p.Rules.Loads i_45).To), .int .i64 ((cK p.Rules.Loads i_45).From), .int .i64 ((cK p.Rules.Loads i_45).Weight), .int .i64 ((cK p.Rules.Loads i_45).Low), .int .i64 ((cK p.Rules.Loads i_45).High)], .sl vc_40 98 2 c_40.length cc_40.flatten, .sl vc_41 100 5 c_41.length (c_41.flatMap cP), .sl vc_42 102 5 c_42.length (c_42.flatMap cR), .sl vc_43 104 4 c_43.length (c_43.flatMap cV), .row g8 29 [vc_40,vc_41,vc_42,vc_43], .row g6 83 (r28.1.words.1.map U), .row g4 29 [(.slice none 0 0),(.slice none 0 0),(.slice none 0 0),(.slice none 0 0)], .row g2 29 [vp_0,vp_1,vp_2,vp_3], .fr F2]) (fun z=>k48 z=some r) ?_ ?_
         ·refine fN ?_;refine q2K ?_;refine cW (cN rfl rfl rfl (fun w hw=>zaD _ w (hw.fr (i:=9) rfl) r28.1 ((cK p.Rules.Loads i_45).To) r98 hr98)) ?_;refine jn ?_;refine dl rfl rfl rfl (fun h49=>?_) (fun h49=>?_)
          ·replace hk:=dt hk h49;refine q2K ?_;have hq:=ee hk;clear hk;obtain ⟨r103,hr103,hk⟩:=hq;refine cW (cN rfl rfl rfl (fun w hw=>zaD _ w (hw.fr (i:=9) rfl) r28.1 ((cK p.Rules.Loads i_45).From) r103 hr103)) ?_;refine jn ?_;refine ff ?_;exact cS r103 hk (.c (.c (.c (.c (.c (.c (.c (.c (.c .nil))))))))) (List.Sublist.refl _)
          ·replace hk:=dr hk h49;refine mm ?_;exact q5m
         ·rintro x_47 hk;rw [←hk48] at hk; (try dsimp only at hk);refine T.cond rfl (fun h50=>?_) (fun h50=>?_)
          ·replace hk:=dt hk h50;have hq:(dn (c_42++[(cK p.Rules.Loads i_45)]).length 40)∧_:=gg hk;clear hk;obtain ⟨g110,hk⟩:=hq; (try dsimp only at hk);refine q3b ?_;rintro _ _ ⟨g109,rfl,rfl⟩;refine cW (fM 4 0 rfl rfl rfl rfl rfl rfl (kS (ys:=[(cK p.Rules.Loads i_45)])) (ni (enc:=cR) (xs:=c_42) (ys:=[(cK p.Rules.Loads i_45)])) g110 a6) ?_;rintro v110 _ ⟨hv110,rfl⟩;refine q3h ?_;rw [←hn44] at hk;refine q3D ?_;exact K.next ((i_45+1),c_40,vc_40,cc_40,c_41,vc_41,(c_42++[(cK p.Rules.Loads i_45)]),v110,c_43,vc_43) ⟨hk,hc_40,inferInstance,inferInstance,inferInstance,inferInstance⟩ a9 (.c (.c (.c (.c (.c (.c (.c .nil))))))) (List.Sublist.refl _)
          ·replace hk:=dr hk h50;refine iE ?_;rw [←hn44] at hk;refine K.pick [1,2,3,4,5,6,7,8,9] rfl a6 ?_;exact K.next ((i_45+1),c_40,vc_40,cc_40,c_41,vc_41,c_42,vc_42,c_43,vc_43) ⟨hk,hc_40,inferInstance,inferInstance,inferInstance,inferInstance⟩ a9 (.c (.c (.c (.c (.c (.c (.c .nil))))))) (List.Sublist.refl _)
        ·have p46:=of_decide_eq_false h46;rw [fw a5,←hkk44] at hk; (try dsimp only at hk);refine eE ?_;exact cS (c_40,vc_40,cc_40,c_41,vc_41,c_42,vc_42,c_43,vc_43) ⟨hk,hc_40,inferInstance,inferInstance,inferInstance,inferInstance⟩ (.c (.c (.c (.c .nil)))) (List.Sublist.refl _)
      ·rintro ⟨c_35,vc_35,cc_35,c_36,vc_36,c_37,vc_37,c_38,vc_38⟩ ⟨hk,hc_35,oc_35,oc_36,oc_37,oc_38⟩; (try dsimp only at *);rw [←hk39] at hk; (try dsimp only at hk);refine lE ?_;refine fC ?_;refine q24 ?_;refine cM (dg rfl rfl (SlC.mono hp_3 le1_2) (List.length_map _)) ?_;have hm117:p.Rules.Caps.length≤9223372036854775807:=(List.length_map _)▸(SlC.mono hp_3 le1_2).max;refine dB ?_;have hq:=ek hk;clear hk;obtain ⟨k55,hk55,hk⟩:=hq; (try dsimp only at hk);refine da (ι:=List GDomain×Value×List (List Value)×List GPair×Value×List GLoad×Value×List GCap×Value) (fun z=>[(4, .pointer (some ⟨g4,0,none⟩)),(8, .pointer (some ⟨g8,0,none⟩))]) (fun z=>[.sl z.2.1 98 2 z.1.length z.2.2.1.flatten, .sl z.2.2.2.2.1 100 5 z.2.2.2.1.length (z.2.2.2.1.flatMap cP), .sl z.2.2.2.2.2.2.1 102 5 z.2.2.2.2.2.1.length (z.2.2.2.2.2.1.flatMap cR), .sl z.2.2.2.2.2.2.2.2 104 4 z.2.2.2.2.2.2.2.1.length (z.2.2.2.2.2.2.2.1.flatMap cV), .row g8 29 [z.2.1,z.2.2.2.2.1,z.2.2.2.2.2.2.1,z.2.2.2.2.2.2.2.2], .row g4 29 [(.slice none 0 0),(.slice none 0 0),(.slice none 0 0),(.slice none 0 0)], .fr F2]) (fun z=>k55 (z.1,z.2.2.2.1,z.2.2.2.2.2.1,z.2.2.2.2.2.2.2.1)=some r∧OwnD cL F2.toFrz 2 z.2.2.1 z.1∧OneC z.2.1∧OneC z.2.2.2.2.1∧OneC z.2.2.2.2.2.2.1∧OneC z.2.2.2.2.2.2.2.2) ?_ ?_
       ·have hq:=fB hk;clear hk;obtain ⟨f60,kk60,hf60,hkk60,hk⟩:=hq;refine fj ?_;refine T.pick [0,1,2,3,4,5,6,8] rfl a6 ?_;refine T.loop (ι:=Nat×List GDomain×Value×List (List Value)×List GPair×Value×List GLoad×Value×List GCap×Value) (fun z=>[(4, .pointer (some ⟨g4,0,none⟩)),(6, .pointer (some ⟨g6,0,none⟩)),(8, .pointer (some ⟨g8,0,none⟩)),(116,vp_3),(117, .int .i64 (p.Rules.Caps.length:Int)),(118, .int .i64 (z.1:Int))]) (fun z=>[.sl z.2.2.1 98 2 z.2.1.length z.2.2.2.1.flatten, .sl z.2.2.2.2.2.1 100 5 z.2.2.2.2.1.length (z.2.2.2.2.1.flatMap cP), .sl z.2.2.2.2.2.2.2.1 102 5 z.2.2.2.2.2.2.1.length (z.2.2.2.2.2.2.1.flatMap cR), .sl z.2.2.2.2.2.2.2.2.2 104 4 z.2.2.2.2.2.2.2.2.1.length (z.2.2.2.2.2.2.2.2.1.flatMap cV), .row g8 29 [z.2.2.1,z.2.2.2.2.2.1,z.2.2.2.2.2.2.2.1,z.2.2.2.2.2.2.2.2.2], .row g6 83 (r28.1.words.1.map U), .row g4 29 [(.slice none 0 0),(.slice none 0 0),(.slice none 0 0),(.slice none 0 0)], .fr F2]) (fun z=>c8 f60 kk60 (p.Rules.Caps.length - z.1) z.1 (z.2.1,z.2.2.2.2.1,z.2.2.2.2.2.2.1,z.2.2.2.2.2.2.2.2.1)=some r∧OwnD cL F2.toFrz 2 z.2.2.2.1 z.2.1∧OneC z.2.2.1∧OneC z.2.2.2.2.2.1∧OneC z.2.2.2.2.2.2.2.1∧OneC z.2.2.2.2.2.2.2.2.2) (fun z=>p.Rules.Caps.length - z.1) (0,c_35,vc_35,cc_35,c_36,vc_36,c_37,vc_37,c_38,vc_38) ?_ ?_ ?_ ?_
        ·exact ⟨hk,hc_35,inferInstance,inferInstance,inferInstance,inferInstance⟩
        ·exact (.c (.c (.c (.c (.c (.c .nil))))))
        ·exact eW
        ·rintro ⟨i_61,c_56,vc_56,cc_56,c_57,vc_57,c_58,vc_58,c_59,vc_59⟩ ⟨hk,hc_56,oc_56,oc_57,oc_58,oc_59⟩; (try dsimp only at *);refine fh ?_;refine T.cond rfl (fun h62=>?_) (fun h62=>?_)
         ·have p62:=of_decide_eq_true h62;rw [fx a5] at hk;generalize hn60:c8 f60 kk60 (p.Rules.Caps.length - (i_61+1)) (i_61+1)=next60 at hk;rw [←hf60] at hk; (try dsimp only at hk);refine fS ?_;refine cM (dh (i:=i_61) rfl rfl rfl (SlC.mono hp_3 le1_2) (List.length_map _) rfl a5) ?_;refine cM (ef 7 (i:=i_61) rfl rfl rfl (SlC.mono hp_3 le1_2) a5) ?_;refine gV ?_;rintro _ _ ⟨g16,rfl,rfl⟩;refine mL ?_;have hq:=ee hk;clear hk;obtain ⟨r125,hr125,hk⟩:=hq; (try dsimp only at hk);refine fN ?_;refine q2K ?_;refine cW (cN rfl rfl rfl (fun w hw=>zaD _ w (hw.fr (i:=8) rfl) r28.1 ((cK p.Rules.Caps i_61).Station) r125 hr125)) ?_;refine q3W ?_;refine T.cond rfl (fun h63=>?_) (fun h63=>?_)
          ·replace hk:=dt hk h63;have hq:(dn (c_59++[(cK p.Rules.Caps i_61)]).length 32)∧_:=gg hk;clear hk;obtain ⟨g131,hk⟩:=hq; (try dsimp only at hk);refine q3b ?_;rintro _ _ ⟨g130,rfl,rfl⟩;refine cW (fM 5 0 rfl rfl rfl rfl rfl rfl (kS (ys:=[(cK p.Rules.Caps i_61)])) (ni (enc:=cV) (xs:=c_59) (ys:=[(cK p.Rules.Caps i_61)])) g131 a6) ?_;rintro v131 _ ⟨hv131,rfl⟩;refine q3h ?_;rw [←hn60] at hk;refine K.pick [2,3,4,5,6,7,8,9] rfl a6 ?_;exact K.next ((i_61+1),c_56,vc_56,cc_56,c_57,vc_57,c_58,vc_58,(c_59++[(cK p.Rules.Caps i_61)]),v131) ⟨hk,hc_56,inferInstance,inferInstance,inferInstance,inferInstance⟩ a9 (.c (.c (.c (.c (.c (.c .nil)))))) (List.Sublist.refl _)
          ·replace hk:=dr hk h63;refine iE ?_;rw [←hn60] at hk;refine q2j ?_;exact K.next ((i_61+1),c_56,vc_56,cc_56,c_57,vc_57,c_58,vc_58,c_59,vc_59) ⟨hk,hc_56,inferInstance,inferInstance,inferInstance,inferInstance⟩ a9 (.c (.c (.c (.c (.c (.c .nil)))))) (List.Sublist.refl _)
         ·have p62:=of_decide_eq_false h62;rw [fw a5,←hkk60] at hk; (try dsimp only at hk);refine eE ?_;refine K.pick [0,1,2,3,4,6,7] rfl a6 ?_;exact cS (c_56,vc_56,cc_56,c_57,vc_57,c_58,vc_58,c_59,vc_59) ⟨hk,hc_56,inferInstance,inferInstance,inferInstance,inferInstance⟩ (.c (.c .nil)) (List.Sublist.refl _)
       ·rintro ⟨c_51,vc_51,cc_51,c_52,vc_52,c_53,vc_53,c_54,vc_54⟩ ⟨hk,hc_51,oc_51,oc_52,oc_53,oc_54⟩; (try dsimp only at *);rw [←hk55] at hk; (try dsimp only at hk);refine q29 ?_;rintro F6 ⟨le2_6,hz6⟩;refine iX ?_;have le1_6:=le1_2.trans le2_6;have hf6:=hz6.toD (OwnD.mono (rep:=cL) (fun _ _ _ _=>GDomain.mono) hc_51 le2_6) rfl;haveI:=hf6.1.oneC;refine jg (fun w hw=>hw.freezeS (i:=5) (j:=0) a6 rfl rfl) ?_;rintro F7 ⟨le6_7,hz7⟩;refine iX ?_;have le1_7:=le1_6.trans le6_7;have hf7:=hz7.toF rfl GPair.len;haveI:=hf7.oneC;refine jg (fun w hw=>hw.freezeS (i:=4) (j:=0) a6 rfl rfl) ?_;rintro F8 ⟨le7_8,hz8⟩;refine iX ?_;have le1_8:=le1_7.trans le7_8;have le6_8:=le6_7.trans le7_8;have hf8:=hz8.toF rfl GLoad.len;haveI:=hf8.oneC;refine jg (fun w hw=>hw.freezeS (i:=3) (j:=0) a6 rfl rfl) ?_;rintro F9 ⟨le8_9,hz9⟩;refine iX ?_;have le1_9:=le1_8.trans le8_9;have le6_9:=le6_8.trans le8_9;have le7_9:=le7_8.trans le8_9;have hf9:=hz9.toF rfl GCap.len;haveI:=hf9.oneC;obtain rfl:=Option.some.inj hk;exact iT 1 rfl rfl rfl rfl rfl (fun w' hw=>⟨(vc_51,cc_51,vc_52,vc_53,vc_54),F9.toFrz,⟨(SlD.mono (rep:=cL) (fun _ _ _ _=>GDomain.mono) hf6 le6_9),(SlC.mono hf7 le7_9),(SlC.mono hf8 le8_9),hf9⟩,rfl,fT hw (i:=2) rfl hS0 le1_9⟩)
def zcp (low:Int)(high:Int):Bool:=
 (((decide (2≤low))&&(decide (low≤high)))&&(decide (high≤51)))
def zbr (c:GPair):Bool:=
 (((((iB c.A)&&(iB c.B))&&(decide (c.A<c.B)))&&(jV c.Offset (-1) 1))&&(zcp c.Low c.High))
def zbt (c:GLoad):Bool:=
 (((((iB c.To)&&(iB c.From))&&(decide (¬c.To=c.From)))&&(jV c.Weight 1 1073741824))&&(zcp c.Low c.High))
def zbk (c:GCap):Bool:=
 (((iB c.Station)&&(jV c.Max 0 1099511627776))&&(zcp c.Low c.High))
def nK (c:Int):Bool:=
 (jV c 2 51)
def lc:List Int→List Int→Bool
 |a :: x,b :: y=>if a=b then lc x y else decide (a<b)
 |_,_=>false
theorem zlf {x y:List Int}{k:Nat}(h:k<x.length)(h2:k<y.length):lc (x.drop k) (y.drop k)=if cK x k=cK y k then lc (x.drop (k+1)) (y.drop (k+1)) else decide (cK x k<cK y k):=by
 rw [List.drop_eq_getElem_cons h,List.drop_eq_getElem_cons h2,dQ h,dQ h2];rfl
def zh1 (ds:List Dx)(s:Int):Int:=match ds.findIdx? (fun d=>decide (d.st=s)) with|some i=>(i:Int)|none=> -1
theorem gM {n a b:Int}:inB n a b=true↔a≤n∧n≤b:=by simp [inB]
def zid (xs:List Pr)(k:Nat):Bool:=decide ((inB (cK xs k).a 0 511=true∧inB (cK xs k).b 0 511=true∧(cK xs k).a<(cK xs k).b∧ -1≤(cK xs k).off∧(cK xs k).off≤1∧ft (cK xs k).lo (cK xs k).hi=true)∧(0<k→lc [(cK xs (k - 1)).a,(cK xs (k - 1)).b,(cK xs (k - 1)).off,(cK xs (k - 1)).lo,(cK xs (k - 1)).hi] [(cK xs k).a,(cK xs k).b,(cK xs k).off,(cK xs k).lo,(cK xs k).hi]=true))
def zh9 (xs:List Ld)(k:Nat):Bool:=decide ((inB (cK xs k).to 0 511=true∧inB (cK xs k).fr 0 511=true∧¬(cK xs k).to=(cK xs k).fr∧1≤(cK xs k).wt∧(cK xs k).wt≤1073741824∧ft (cK xs k).lo (cK xs k).hi=true)∧(0<k→lc [(cK xs (k - 1)).to,(cK xs (k - 1)).fr,(cK xs (k - 1)).wt,(cK xs (k - 1)).lo,(cK xs (k - 1)).hi] [(cK xs k).to,(cK xs k).fr,(cK xs k).wt,(cK xs k).lo,(cK xs k).hi]=true))
def zib (xs:List Cp)(k:Nat):Bool:=decide ((inB (cK xs k).st 0 511=true∧0≤(cK xs k).mx∧(cK xs k).mx≤1099511627776∧ft (cK xs k).lo (cK xs k).hi=true)∧(0<k→lc [(cK xs (k - 1)).st,(cK xs (k - 1)).mx,(cK xs (k - 1)).lo,(cK xs (k - 1)).hi] [(cK xs k).st,(cK xs k).mx,(cK xs k).lo,(cK xs k).hi]=true))
def zhD (P:Pb):Bool:=decide (P.ps.length≤4096∧P.ls.length≤1024∧P.cs.length≤1024)&&((List.range P.ps.length).all (zid P.ps)&&((List.range P.ls.length).all (zh9 P.ls)&&(List.range P.cs.length).all (zib P.cs)))
def zjm (cs:List Int)(j:Nat):Bool:=decide (2≤cK cs j∧cK cs j≤51∧(0<j→cK cs (j - 1)<cK cs j))
def zk6 (ds:List Dx)(k:Nat):Bool:=decide ((inB (cK ds k).st 0 511=true∧(0<k→(cK ds (k - 1)).st<(cK ds k).st)∧(cK ds k).chs.length≤50)∧(List.range (cK ds k).chs.length).all (zjm (cK ds k).chs)=true)
def zk2 (P:Pb)(k:Nat):Bool:=decide (0≤zh1 P.ds (cK P.ps k).a∧0≤zh1 P.ds (cK P.ps k).b)
def zkZ (P:Pb)(k:Nat):Bool:=decide (0≤zh1 P.ds (cK P.ls k).to∧0≤zh1 P.ds (cK P.ls k).fr)
def zlb (P:Pb)(k:Nat):Bool:=decide (0≤zh1 P.ds (cK P.cs k).st)
def zlU (P:Pb):Bool:=decide (P.ds.length≤512)&&(zhD P&&((List.range P.ds.length).all (zk6 P.ds)&&((List.range P.ps.length).all (zk2 P)&&((List.range P.ls.length).all (zkZ P)&&(List.range P.cs.length).all (zlb P)))))
theorem zgK {α:Type}[Inhabited α]{c:α→α→Int}{xs:List α}:fR c xs=true↔∀k,0<k→k<xs.length→c (cK xs (k - 1)) (cK xs k)<0:=by
 unfold fR;rw [List.all_eq_true];constructor
 ·intro h k h0 hk;have:=h k (List.mem_range.2 hk);simp only [Bool.or_eq_true,decide_eq_true_eq,Bool.not_eq_true',decide_eq_false_iff_not] at this;omega
 ·intro h k hk;simp only [Bool.or_eq_true,decide_eq_true_eq,Bool.not_eq_true',decide_eq_false_iff_not];by_cases h0:k=0
  ·exact .inl h0
  ·have:=h k a5 (List.mem_range.1 hk);exact .inr a5
theorem i1 {f:Nat→Bool}{n:Nat}:(List.range n).all f=true↔∀k,k<n→f k=true:=by
 rw [List.all_eq_true];exact ⟨fun h k hk=>h k (List.mem_range.2 hk),fun h k hk=>h k (List.mem_range.1 hk)⟩
theorem zfl {a b:Int}:dR a b<0↔a<b:=by unfold dR;split <;> (try split) <;> omega
theorem kc {a b:Int}:dR a b=0↔a=b:=by unfold dR;split <;> (try split) <;> omega
theorem zia:∀(xs ys:List Int),xs.length=ys.length→(lc xs ys=true↔m2 (List.zipWith dR xs ys)<0)
 | [],[],_=>by simp [lc,m2]
 |a :: x,b :: y,h=>by
  have ih:=zia x y (by simpa using h);unfold lc;rw [List.zipWith_cons_cons];unfold m2;by_cases e:a=b
  ·rw [if_pos e,if_pos (kc.2 e)];exact ih
  ·rw [if_neg e,if_neg (fun hh=>e (kc.1 hh)),zfl,decide_eq_true_eq]
 | [],_ :: _,h=>by simp at h
 |_ :: _,[],h=>by simp at h
theorem zly {xs:List Pr}{k:Nat}:zid xs k=true↔(cK xs k).ok=true∧(0<k→Pr.cmp (cK xs (k - 1)) (cK xs k)<0):=by
 have e:=zia [(cK xs (k - 1)).a,(cK xs (k - 1)).b,(cK xs (k - 1)).off,(cK xs (k - 1)).lo,(cK xs (k - 1)).hi] [(cK xs k).a,(cK xs k).b,(cK xs k).off,(cK xs k).lo,(cK xs k).hi] rfl;simp only [zid,decide_eq_true_eq,e,Pr.ok,Bool.and_eq_true,gM,Pr.cmp,List.zipWith,and_assoc]
theorem zl1 {xs:List Ld}{k:Nat}:zh9 xs k=true↔(cK xs k).ok=true∧(0<k→Ld.cmp (cK xs (k - 1)) (cK xs k)<0):=by
 have e:=zia [(cK xs (k - 1)).to,(cK xs (k - 1)).fr,(cK xs (k - 1)).wt,(cK xs (k - 1)).lo,(cK xs (k - 1)).hi] [(cK xs k).to,(cK xs k).fr,(cK xs k).wt,(cK xs k).lo,(cK xs k).hi] rfl;simp only [zh9,decide_eq_true_eq,e,Ld.ok,Bool.and_eq_true,gM,Ld.cmp,List.zipWith,and_assoc]
theorem zmV {xs:List Cp}{k:Nat}:zib xs k=true↔(cK xs k).ok=true∧(0<k→Cp.cmp (cK xs (k - 1)) (cK xs k)<0):=by
 have e:=zia [(cK xs (k - 1)).st,(cK xs (k - 1)).mx,(cK xs (k - 1)).lo,(cK xs (k - 1)).hi] [(cK xs k).st,(cK xs k).mx,(cK xs k).lo,(cK xs k).hi] rfl;simp only [zib,decide_eq_true_eq,e,Cp.ok,Bool.and_eq_true,gM,Cp.cmp,List.zipWith,and_assoc]
theorem zgx {α:Type}[Inhabited α]{r:List α→Nat→Bool}{q:α→Bool}{c:α→α→Int}{xs:List α}(h:∀k,r xs k=true↔q (cK xs k)=true∧(0<k→c (cK xs (k - 1)) (cK xs k)<0)):(List.range xs.length).all (r xs)=true↔gk q xs=true∧fR c xs=true:=by
 rw [i1,zfu,zgK];exact ⟨fun hh=>⟨fun k hk=>((h k).1 (hh k hk)).1,fun k h0 hk=>((h k).1 (hh k hk)).2 h0⟩,fun hh k hk=>(h k).2 ⟨hh.1 k hk,fun h0=>hh.2 k h0 hk⟩⟩
theorem zmO (P:Pb):zhD P=P.rulesOk:=by
 rw [Bool.eq_iff_iff];simp only [zhD,Pb.rulesOk,Bool.and_eq_true,decide_eq_true_eq,zgx (r:=zid) (q:=Pr.ok) (c:=Pr.cmp) (xs:=P.ps) (fun k=>zly),zgx (r:=zh9) (q:=Ld.ok) (c:=Ld.cmp) (xs:=P.ls) (fun k=>zl1),zgx (r:=zib) (q:=Cp.ok) (c:=Cp.cmp) (xs:=P.cs) (fun k=>zmV)];constructor
 ·rintro ⟨⟨h1,h2,h3⟩,⟨h4,h5⟩,⟨h6,h7⟩,h8,h9⟩;exact ⟨by omega,h4,h5,by omega,h6,h7,by omega,h8,h9⟩
 ·rintro ⟨h1,h4,h5,h2,h6,h7,h3,h8,h9⟩;exact ⟨⟨by omega,by omega,by omega⟩,⟨h4,h5⟩,⟨h6,h7⟩,h8,h9⟩
theorem zkn {f:Nat→Int}{lo hi:Int}{n:Nat}(h0:∀k,k<n→lo≤f k∧f k≤hi)(h:∀k,0<k→k<n→f (k - 1)<f k):(n:Int)≤hi - lo+1∨n=0:=by
 have key:∀k,k<n→lo+(k:Int)≤f k:=by
  intro k
  induction k with
  |zero=>intro hk;have:=h0 0 hk;omega
  |succ k ih=>intro hk;have:=ih a5;have:=h (k+1) a5 hk;rw [Nat.add_sub_cancel] at this;omega
 rcases Nat.eq_zero_or_pos n with h1|h1
 ·exact .inr h1
 ·have:=key (n - 1) a5;have:=h0 (n - 1) a5;exact .inl a5
theorem zi7 {ds:List Dx}{s:Int}:0≤zh1 ds s↔∃i,i<ds.length∧(cK ds i).st=s:=by
 unfold zh1
 cases hf:ds.findIdx? (fun d=>decide (d.st=s)) with
 |none=>
  refine ⟨fun h=>by simp at h,fun ⟨i,hi,h⟩=>?_⟩;rw [List.findIdx?_eq_none_iff] at hf;have:=hf (cK ds i) (i6 hi);simp [h] at this
 |some i=>
  refine ⟨fun _=>?_,fun _=>by simp⟩;obtain ⟨hi,h1,_⟩:=List.findIdx?_eq_some_iff_getElem.1 hf;exact ⟨i,hi,by rw [dQ hi];simpa using h1⟩
theorem zdJ {P:Pb}(hst:∀d∈P.ds,0≤d.st∧d.st≤511){s:Int}:P.has s=true↔0≤zh1 P.ds s:=by
 unfold Pb.has;rw [ziZ (P.ds.map fun d:Dx=>d.st) (fun y hy=>by obtain ⟨d,hd,rfl⟩:=List.mem_map.1 hy;exact hst d hd),zi7,List.mem_map];constructor
 ·rintro ⟨d,hd,rfl⟩;obtain ⟨i,hi,rfl⟩:=List.mem_iff_getElem.1 hd;exact ⟨i,hi,by rw [dQ hi]⟩
 ·rintro ⟨i,hi,rfl⟩;exact ⟨_,i6 hi,rfl⟩
theorem j8 {cs:List Int}:(List.range cs.length).all (zjm cs)=true↔gk (fun c=>inB c 2 51) cs=true∧fR dR cs=true:=by
 refine zgx (r:=zjm) (q:=fun c=>inB c 2 51) (c:=dR) fun k=>?_;simp only [zjm,decide_eq_true_eq,gM,zfl,and_assoc]
theorem zmr (P:Pb):zlU P=P.ok:=by
 rw [Bool.eq_iff_iff];simp only [zlU,Pb.ok,Bool.and_eq_true,decide_eq_true_eq,zmO,i1,zfu,zgK,zfl,zk6,zk2,zkZ,zlb,Dx.ok]
 have stOf:(∀k,k<P.ds.length→inB (cK P.ds k).st 0 511=true)→∀d∈P.ds,0≤d.st∧d.st≤511:=fun h d hd=>by
  obtain ⟨i,hi,rfl⟩:=List.mem_iff_getElem.1 hd;have:=gM.1 (h i hi)
  rwa [dQ hi] at this
 constructor
 ·rintro ⟨h1,h2,h3,h4,h5,h6⟩;have hst:=stOf fun k hk=>(h3 k hk).1.1;refine ⟨fun k hk=>⟨(h3 k hk).1.1,?_⟩,h2,fun k h0 hk=>(h3 k hk).1.2.1 h0,fun k hk=>⟨(zdJ hst).2 (h4 k hk).1,(zdJ hst).2 (h4 k hk).2⟩,fun k hk=>⟨(zdJ hst).2 (h5 k hk).1,(zdJ hst).2 (h5 k hk).2⟩,fun k hk=>(zdJ hst).2 (h6 k hk)⟩;have:=j8.1 (i1.2 (h3 k hk).2);simp only [zfu,zgK,zfl] at this;exact this
 ·rintro ⟨h1,h2,h3,h4,h5,h6⟩;have hst:=stOf fun k hk=>(h1 k hk).1;refine ⟨?_,h2,fun k hk=>⟨⟨(h1 k hk).1,fun h0=>h3 k h0 hk,?_⟩,?_⟩,fun k hk=>⟨(zdJ hst).1 (h4 k hk).1,(zdJ hst).1 (h4 k hk).2⟩,fun k hk=>⟨(zdJ hst).1 (h5 k hk).1,(zdJ hst).1 (h5 k hk).2⟩,fun k hk=>(zdJ hst).1 (h6 k hk)⟩
  ·have:=zkn (f:=fun k=>(cK P.ds k).st) (lo:=0) (hi:=511) (n:=P.ds.length) (fun k hk=>gM.1 (h1 k hk).1) h3;omega
  ·have:=zkn (f:=cK (cK P.ds k).chs) (lo:=2) (hi:=51) (n:=(cK P.ds k).chs.length) (fun j hj=>gM.1 ((h1 k hk).2.1 j hj)) (h1 k hk).2.2;omega
  ·exact i1.1 (j8.2 (by simp only [zfu,zgK,zfl];exact (h1 k hk).2))
theorem zcx {ρ:Type}{f:Nat→(Unit→ρ)→Unit→ρ}{k:Unit→ρ}{n:Nat}{z:ρ}(q:Nat→Bool)(hf:∀i next,i<n→f i next ()=bif q i then next () else z):c8 f k n 0 ()=bif (List.range n).all q then k () else z:=by
 have key:∀m i,i+m=n→c8 f k m i ()=bif (List.range' i m).all q then k () else z:=by
  intro m
  induction m with
  |zero=>intro i _;rfl
  |succ m ih=>
   intro i e
   show f i (c8 f k m (i+1)) ()=_
   rw [hf i _ a5,ih (i+1) a5,List.range'_succ,List.all_cons]
   cases q i <;> rfl
 rw [key n 0 a5,List.range_eq_range']
theorem zem {n:Int}:j0 n=inB n 0 511:=rfl
theorem zmS {a b:Int}:nW a b=ft a b:=by
 unfold nW ft;by_cases h1:2≤a <;> by_cases h2:a≤b <;> by_cases h3:b≤51 <;> simp [h1,h2,h3]
theorem zl7 {a b:List Int}(h:a.length=b.length):l9 a b=some (lc a b):=by
 unfold l9;refine mo ?_
 have key:∀m i,i+m=a.length→c8 (fun (i:Nat) (next:Unit→Option Bool) (_:Unit)=>ey (0≤(i:Int)∧(i:Int)<(b.length:Int)) (bif decide (¬cK a i=cK b i) then some (decide (cK a i<cK b i)) else next ())) (fun _=>some false) m i ()=some (lc (a.drop i) (b.drop i)):=by
  intro m
  induction m with
  |zero=>intro i e;rw [List.drop_eq_nil_of_le (show a.length≤i by omega)];rfl
  |succ m ih=>
   intro i e;have h2:=ih (i+1) a5
   show ey _ _=_
   rw [f7 ⟨by omega,by omega⟩,zlf a5 a5];by_cases e2:cK a i=cK b i
   ·rw [if_pos e2,decide_eq_false (fun hn=>hn e2),cond_false];exact h2
   ·rw [if_neg e2,decide_eq_true e2,cond_true]
 exact key a.length 0 a5
def hasS (p:GProblem)(s:Int):Bool:=p.Domains.any fun d=>decide (d.Station=s)
theorem znW {p:GProblem}{s:Int}:ij p s<0↔hasS p s=false:=by
 unfold ij hasS;refine mo ?_
 have key:∀m i,i+m=p.Domains.length→(c8 (fun (i:Nat) (next:Unit→Int) (_:Unit)=>bif decide ((cK p.Domains i).Station=s) then (i:Int) else next ()) (fun _=>(-1)) m i ()<0↔((p.Domains.drop i).any fun d=>decide (d.Station=s))=false):=by
  intro m
  induction m with
  |zero=>intro i e;rw [List.drop_eq_nil_of_le (show p.Domains.length≤i by omega)];exact ⟨fun _=>rfl,fun _=>by show (-1:Int)<0;omega⟩
  |succ m ih=>
   intro i e;have h2:=ih (i+1) a5;rw [List.drop_eq_getElem_cons (show i<p.Domains.length by omega),List.any_cons,←dQ (show i<p.Domains.length by omega)]
   show (bif decide ((cK p.Domains i).Station=s) then (i:Int) else _)<0↔_
   cases decide ((cK p.Domains i).Station=s) with
   |true=>simp
   |false=>rw [cond_false,Bool.false_or];exact h2
 have:=key p.Domains.length 0 a5
 rwa [List.drop_zero] at this
theorem zcM (i:Nat):((i:Int) - 1).toNat=i - 1:=by omega
theorem zot {p : GProblem} {i : Nat} {next : Unit → Option Bool} (hi : i < p.Rules.Pairs.length) :
    (bif !(j0 ((cK p.Rules.Pairs i).A)) then (bif true then some false else next ()) else
      (bif !(j0 ((cK p.Rules.Pairs i).B)) then (bif true then some false else next ()) else
      (bif decide ((cK p.Rules.Pairs i).B ≤ (cK p.Rules.Pairs i).A) then (bif true then some false else next ()) else
      (bif decide ((cK p.Rules.Pairs i).Offset < (-1)) then (bif true then some false else next ()) else
      (bif decide (1 < (cK p.Rules.Pairs i).Offset) then (bif true then some false else next ()) else
      (bif !(nW ((cK p.Rules.Pairs i).Low) ((cK p.Rules.Pairs i).High)) then (bif true then some false else next ()) else
      (bif decide (0 < (i : Int)) then (l9 (lh (cK p.Rules.Pairs (((i : Int) - 1).toNat))) (lh (cK p.Rules.Pairs i))).bind fun r => (bif !r then some false else next ()) else (bif false then some false else next ())))))))) = bif zid (eF p).ps i then next () else some false := by
  have e1 : cK (eF p).ps i = (cK p.Rules.Pairs i).b := jJ hi; have e2 : cK (eF p).ps (i - 1) = (cK p.Rules.Pairs (i - 1)).b := jJ a5; rw [zcM, zl7 (by rfl), Option.bind_some];simp only [zem, zmS]
  have hr : zid (eF p).ps i = (inB (cK p.Rules.Pairs i).A 0 511 && (inB (cK p.Rules.Pairs i).B 0 511 && (!decide ((cK p.Rules.Pairs i).B ≤ (cK p.Rules.Pairs i).A) && (!decide ((cK p.Rules.Pairs i).Offset < (-1)) && (!decide (1 < (cK p.Rules.Pairs i).Offset) && (ft (cK p.Rules.Pairs i).Low (cK p.Rules.Pairs i).High && (!decide (0 < (i : Int)) || lc (lh (cK p.Rules.Pairs (i - 1))) (lh (cK p.Rules.Pairs i))))))))) := by
    unfold zid; rw [e1, e2, Bool.eq_iff_iff, decide_eq_true_eq];simp only [Bool.and_eq_true, Bool.or_eq_true, Bool.not_eq_true', decide_eq_false_iff_not, GPair.b, lh]; constructor
    · rintro ⟨⟨h1, h2, h3, h4, h5, h6⟩, h9⟩; refine ⟨h1, h2, by omega, by omega, by omega, h6, ?_⟩; rcases Nat.eq_zero_or_pos i with h | h
      · exact .inl a5
      · exact .inr (h9 h)
    · rintro ⟨h1, h2, h3, h4, h5, h6, h9⟩; refine ⟨⟨h1, h2, by omega, by omega, by omega, h6⟩, fun h => ?_⟩; rcases h9 with h9 | h9
      · omega
      · exact h9
  rw [hr]
  cases inB (cK p.Rules.Pairs i).A 0 511
  · rfl
  cases inB (cK p.Rules.Pairs i).B 0 511
  · rfl
  cases decide ((cK p.Rules.Pairs i).B ≤ (cK p.Rules.Pairs i).A)
  rotate_left
  · rfl
  cases decide ((cK p.Rules.Pairs i).Offset < (-1))
  rotate_left
  · rfl
  cases decide (1 < (cK p.Rules.Pairs i).Offset)
  rotate_left
  · rfl
  cases ft (cK p.Rules.Pairs i).Low (cK p.Rules.Pairs i).High
  · rfl
  cases decide (0 < (i : Int))
  · rfl
  cases lc (lh (cK p.Rules.Pairs (i - 1))) (lh (cK p.Rules.Pairs i)) <;> rfl
theorem zo9 {p : GProblem} {i : Nat} {next : Unit → Option Bool} (hi : i < p.Rules.Loads.length) :
    (bif !(j0 ((cK p.Rules.Loads i).To)) then (bif true then some false else next ()) else
      (bif !(j0 ((cK p.Rules.Loads i).From)) then (bif true then some false else next ()) else
      (bif decide ((cK p.Rules.Loads i).To = (cK p.Rules.Loads i).From) then (bif true then some false else next ()) else
      (bif decide ((cK p.Rules.Loads i).Weight < 1) then (bif true then some false else next ()) else
      (bif decide (1073741824 < (cK p.Rules.Loads i).Weight) then (bif true then some false else next ()) else
      (bif !(nW ((cK p.Rules.Loads i).Low) ((cK p.Rules.Loads i).High)) then (bif true then some false else next ()) else
      (bif decide (0 < (i : Int)) then (l9 (lm (cK p.Rules.Loads (((i : Int) - 1).toNat))) (lm (cK p.Rules.Loads i))).bind fun r => (bif !r then some false else next ()) else (bif false then some false else next ())))))))) = bif zh9 (eF p).ls i then next () else some false := by
  have e1 : cK (eF p).ls i = (cK p.Rules.Loads i).b := jJ hi; have e2 : cK (eF p).ls (i - 1) = (cK p.Rules.Loads (i - 1)).b := jJ a5; rw [zcM, zl7 (by rfl), Option.bind_some];simp only [zem, zmS]
  have hr : zh9 (eF p).ls i = (inB (cK p.Rules.Loads i).To 0 511 && (inB (cK p.Rules.Loads i).From 0 511 && (!decide ((cK p.Rules.Loads i).To = (cK p.Rules.Loads i).From) && (!decide ((cK p.Rules.Loads i).Weight < 1) && (!decide (1073741824 < (cK p.Rules.Loads i).Weight) && (ft (cK p.Rules.Loads i).Low (cK p.Rules.Loads i).High && (!decide (0 < (i : Int)) || lc (lm (cK p.Rules.Loads (i - 1))) (lm (cK p.Rules.Loads i))))))))) := by
    unfold zh9; rw [e1, e2, Bool.eq_iff_iff, decide_eq_true_eq];simp only [Bool.and_eq_true, Bool.or_eq_true, Bool.not_eq_true', decide_eq_false_iff_not, GLoad.b, lm]; constructor
    · rintro ⟨⟨h1, h2, h3, h4, h5, h6⟩, h9⟩; refine ⟨h1, h2, by omega, by omega, by omega, h6, ?_⟩; rcases Nat.eq_zero_or_pos i with h | h
      · exact .inl a5
      · exact .inr (h9 h)
    · rintro ⟨h1, h2, h3, h4, h5, h6, h9⟩; refine ⟨⟨h1, h2, by omega, by omega, by omega, h6⟩, fun h => ?_⟩; rcases h9 with h9 | h9
      · omega
      · exact h9
  rw [hr]
  cases inB (cK p.Rules.Loads i).To 0 511
  · rfl
  cases inB (cK p.Rules.Loads i).From 0 511
  · rfl
  cases decide ((cK p.Rules.Loads i).To = (cK p.Rules.Loads i).From)
  rotate_left
  · rfl
  cases decide ((cK p.Rules.Loads i).Weight < 1)
  rotate_left
  · rfl
  cases decide (1073741824 < (cK p.Rules.Loads i).Weight)
  rotate_left
  · rfl
  cases ft (cK p.Rules.Loads i).Low (cK p.Rules.Loads i).High
  · rfl
  cases decide (0 < (i : Int))
  · rfl
  cases lc (lm (cK p.Rules.Loads (i - 1))) (lm (cK p.Rules.Loads i)) <;> rfl
theorem zoo {p : GProblem} {i : Nat} {next : Unit → Option Bool} (hi : i < p.Rules.Caps.length) :
    (bif !(j0 ((cK p.Rules.Caps i).Station)) then (bif true then some false else next ()) else
      (bif decide ((cK p.Rules.Caps i).Max < 0) then (bif true then some false else next ()) else
      (bif decide (1099511627776 < (cK p.Rules.Caps i).Max) then (bif true then some false else next ()) else
      (bif !(nW ((cK p.Rules.Caps i).Low) ((cK p.Rules.Caps i).High)) then (bif true then some false else next ()) else
      (bif decide (0 < (i : Int)) then (l9 (ln (cK p.Rules.Caps (((i : Int) - 1).toNat))) (ln (cK p.Rules.Caps i))).bind fun r => (bif !r then some false else next ()) else (bif false then some false else next ())))))) = bif zib (eF p).cs i then next () else some false := by
  have e1 : cK (eF p).cs i = (cK p.Rules.Caps i).b := jJ hi; have e2 : cK (eF p).cs (i - 1) = (cK p.Rules.Caps (i - 1)).b := jJ a5; rw [zcM, zl7 (by rfl), Option.bind_some];simp only [zem, zmS]
  have hr : zib (eF p).cs i = (inB (cK p.Rules.Caps i).Station 0 511 && (!decide ((cK p.Rules.Caps i).Max < 0) && (!decide (1099511627776 < (cK p.Rules.Caps i).Max) && (ft (cK p.Rules.Caps i).Low (cK p.Rules.Caps i).High && (!decide (0 < (i : Int)) || lc (ln (cK p.Rules.Caps (i - 1))) (ln (cK p.Rules.Caps i))))))) := by
    unfold zib; rw [e1, e2, Bool.eq_iff_iff, decide_eq_true_eq];simp only [Bool.and_eq_true, Bool.or_eq_true, Bool.not_eq_true', decide_eq_false_iff_not, GCap.b, ln]; constructor
    · rintro ⟨⟨h1, h2, h3, h4⟩, h9⟩; refine ⟨h1, by omega, by omega, h4, ?_⟩; rcases Nat.eq_zero_or_pos i with h | h
      · exact .inl a5
      · exact .inr (h9 h)
    · rintro ⟨h1, h2, h3, h4, h9⟩; refine ⟨⟨h1, by omega, by omega, h4⟩, fun h => ?_⟩; rcases h9 with h9 | h9
      · omega
      · exact h9
  rw [hr]
  cases inB (cK p.Rules.Caps i).Station 0 511
  · rfl
  cases decide ((cK p.Rules.Caps i).Max < 0)
  rotate_left
  · rfl
  cases decide (1099511627776 < (cK p.Rules.Caps i).Max)
  rotate_left
  · rfl
  cases ft (cK p.Rules.Caps i).Low (cK p.Rules.Caps i).High
  · rfl
  cases decide (0 < (i : Int))
  · rfl
  cases lc (ln (cK p.Rules.Caps (i - 1))) (ln (cK p.Rules.Caps i)) <;> rfl
theorem zjz {p:GProblem}:za2 p.Rules=some (zhD (eF p)):=by
 unfold za2;refine mo ?_;rw [zcx (n:=p.Rules.Pairs.length) (z:=some false) (zid (eF p).ps) (fun i next hi=>zot hi),zcx (n:=p.Rules.Loads.length) (z:=some false) (zh9 (eF p).ls) (fun i next hi=>zo9 hi),zcx (n:=p.Rules.Caps.length) (z:=some false) (zib (eF p).cs) (fun i next hi=>zoo hi)];have l1:(eF p).ps.length=p.Rules.Pairs.length:=List.length_map _;have l2:(eF p).ls.length=p.Rules.Loads.length:=List.length_map _;have l3:(eF p).cs.length=p.Rules.Caps.length:=List.length_map _;unfold zhD;rw [l1,l2,l3];by_cases h:p.Rules.Pairs.length≤4096∧p.Rules.Loads.length≤1024∧p.Rules.Caps.length≤1024
 ·rw [decide_eq_true h,decide_eq_false a5,decide_eq_false a5,decide_eq_false a5]
  cases (List.range p.Rules.Pairs.length).all (zid (eF p).ps)
  ·rfl
  cases (List.range p.Rules.Loads.length).all (zh9 (eF p).ls)
  ·rfl
  cases (List.range p.Rules.Caps.length).all (zib (eF p).cs) <;> rfl
 ·rw [decide_eq_false h];by_cases h1:(4096:Int)<p.Rules.Pairs.length
  ·rw [decide_eq_true h1];rfl
  ·by_cases h2:(1024:Int)<p.Rules.Loads.length
   ·rw [decide_eq_true h2,Bool.or_true];rfl
   ·rw [decide_eq_true (show (1024:Int)<p.Rules.Caps.length by omega),Bool.or_true];rfl
theorem zjQ {p:GProblem}{s:Int}:ij p s<0↔¬0≤zh1 (eF p).ds s:=by
 rw [znW,zi7];unfold hasS;rw [List.any_eq_false];have l:(eF p).ds.length=p.Domains.length:=List.length_map _;constructor
 ·rintro h ⟨i,hi,e⟩;rw [l] at hi;have e1:cK (eF p).ds i=(cK p.Domains i).b:=jJ hi;rw [e1] at e;exact h _ (fG hi) (decide_eq_true e)
 ·intro h x hx hd;obtain ⟨i,hi,rfl⟩:=iS hx;refine h ⟨i,by rw [l];exact hi,?_⟩;have e1:cK (eF p).ds i=(cK p.Domains i).b:=jJ hi;rw [e1];exact of_decide_eq_true hd
theorem zoN {p:GProblem}:zb1 p=some (gW p):=by
 have l0:(eF p).ds.length=p.Domains.length:=List.length_map _;have l1:(eF p).ps.length=p.Rules.Pairs.length:=List.length_map _;have l2:(eF p).ls.length=p.Rules.Loads.length:=List.length_map _;have l3:(eF p).cs.length=p.Rules.Caps.length:=List.length_map _;have n0:∀k,k<p.Domains.length→cK (eF p).ds k=(cK p.Domains k).b:=fun k hk=>jJ hk;have n1:∀k,k<p.Rules.Pairs.length→cK (eF p).ps k=(cK p.Rules.Pairs k).b:=fun k hk=>jJ hk;have n2:∀k,k<p.Rules.Loads.length→cK (eF p).ls k=(cK p.Rules.Loads k).b:=fun k hk=>jJ hk;have n3:∀k,k<p.Rules.Caps.length→cK (eF p).cs k=(cK p.Rules.Caps k).b:=fun k hk=>jJ hk;unfold zb1 gW;rw [←zmr];simp only [dJ,Nat.sub_zero,zjz,Option.bind_some];rw [zcx (n:=p.Domains.length) (z:=some false) (zk6 (eF p).ds) (fun i next hi=>?_),zcx (n:=p.Rules.Pairs.length) (z:=some false) (zk2 (eF p)) (fun i next hi=>?_),zcx (n:=p.Rules.Loads.length) (z:=some false) (zkZ (eF p)) (fun i next hi=>?_),zcx (n:=p.Rules.Caps.length) (z:=some false) (zlb (eF p)) (fun i next hi=>?_)]
 ·unfold zlU;rw [l0,l1,l2,l3];by_cases h:p.Domains.length≤512
  ·rw [decide_eq_true h,decide_eq_false a5]
   cases zhD (eF p)
   ·rfl
   cases (List.range p.Domains.length).all (zk6 (eF p).ds)
   ·rfl
   cases (List.range p.Rules.Pairs.length).all (zk2 (eF p))
   ·rfl
   cases (List.range p.Rules.Loads.length).all (zkZ (eF p))
   ·rfl
   cases (List.range p.Rules.Caps.length).all (zlb (eF p)) <;> rfl
  ·rw [decide_eq_false h,decide_eq_true a5];rfl
 ·have hr:zlb (eF p) i= !decide (ij p (cK p.Rules.Caps i).Station<0):=by
   unfold zlb;rw [n3 i hi,Bool.eq_iff_iff,decide_eq_true_eq];simp only [Bool.not_eq_true',decide_eq_false_iff_not,zjQ,Decidable.not_not,GCap.b]
  rw [hr]
  cases decide (ij p (cK p.Rules.Caps i).Station<0) <;> rfl
 ·have hr:zkZ (eF p) i=(!decide (ij p (cK p.Rules.Loads i).To<0)&& !decide (ij p (cK p.Rules.Loads i).From<0)):=by
   unfold zkZ;rw [n2 i hi,Bool.eq_iff_iff,decide_eq_true_eq];simp only [Bool.and_eq_true,Bool.not_eq_true',decide_eq_false_iff_not,zjQ,Decidable.not_not,GLoad.b]
  rw [hr]
  cases decide (ij p (cK p.Rules.Loads i).To<0) <;> cases decide (ij p (cK p.Rules.Loads i).From<0) <;> rfl
 ·have hr:zk2 (eF p) i=(!decide (ij p (cK p.Rules.Pairs i).A<0)&& !decide (ij p (cK p.Rules.Pairs i).B<0)):=by
   unfold zk2;rw [n1 i hi,Bool.eq_iff_iff,decide_eq_true_eq];simp only [Bool.and_eq_true,Bool.not_eq_true',decide_eq_false_iff_not,zjQ,Decidable.not_not,GPair.b]
  rw [hr]
  cases decide (ij p (cK p.Rules.Pairs i).A<0) <;> cases decide (ij p (cK p.Rules.Pairs i).B<0) <;> rfl
 ·rw [zcx (n:=(cK p.Domains i).Channels.length) (z:=some false) (zjm (cK p.Domains i).Channels) (fun k nx hk=>?_)]
  ·have hr:zk6 (eF p).ds i=(inB (cK p.Domains i).Station 0 511&&(!(decide (0<(i:Int))&&decide ((cK p.Domains i).Station≤(cK p.Domains (i - 1)).Station))&&(!decide (50<((cK p.Domains i).Channels.length:Int))&&(List.range (cK p.Domains i).Channels.length).all (zjm (cK p.Domains i).Channels)))):=by
    unfold zk6;rw [n0 i hi,n0 (i - 1) a5,Bool.eq_iff_iff,decide_eq_true_eq];simp only [Bool.and_eq_true,Bool.not_eq_true',Bool.and_eq_false_iff,decide_eq_false_iff_not,GDomain.b];constructor
    ·rintro ⟨⟨h1,h2,h3⟩,h4⟩;exact ⟨h1,by rcases Nat.eq_zero_or_pos i with h|h;exact .inl a5;exact .inr (by have:=h2 h;omega),by omega,h4⟩
    ·rintro ⟨h1,h2,h3,h4⟩;exact ⟨⟨h1,fun h=>by omega,by omega⟩,h4⟩
   rw [hr,zcM,zem]
   cases inB (cK p.Domains i).Station 0 511
   ·rfl
   cases (decide (0<(i:Int))&&decide ((cK p.Domains i).Station≤(cK p.Domains (i - 1)).Station))
   rotate_left
   ·rfl
   cases decide (50<((cK p.Domains i).Channels.length:Int))
   rotate_left
   ·rfl
   rfl
  ·have hr:zjm (cK p.Domains i).Channels k=(!decide (cK (cK p.Domains i).Channels k<2)&&(!decide (51<cK (cK p.Domains i).Channels k)&& !(decide (0<(k:Int))&&decide (cK (cK p.Domains i).Channels k≤cK (cK p.Domains i).Channels (k - 1))))):=by
    unfold zjm;rw [Bool.eq_iff_iff,decide_eq_true_eq];simp only [Bool.and_eq_true,Bool.not_eq_true',Bool.and_eq_false_iff,decide_eq_false_iff_not];omega
   rw [hr,zcM]
   cases decide (cK (cK p.Domains i).Channels k<2)
   rotate_left
   ·rfl
   cases decide (51<cK (cK p.Domains i).Channels k)
   rotate_left
   ·rfl
   cases (decide (0<(k:Int))&&decide (cK (cK p.Domains i).Channels k≤cK (cK p.Domains i).Channels (k - 1))) <;> rfl
theorem zo1 {p:GProblem}{a b:Int}{fuel:Nat}(hf:1000≤fuel):∃r,zcG fuel p a b=some r:=by
 unfold zcG;simp only [dJ];refine zdU (σ:=Int) (I:=fun i=>0≤i∧i≤600) (μ:=fun i=>(600 - i).toNat) (post:=fun o=>∃r,o=some r) ⟨by omega,by omega⟩ a5 ?_;intro i next hi hn;by_cases h1:i<(p.Domains.length:Int) <;> by_cases h2:i<600
 ·rw [decide_eq_true h1,decide_eq_true h2,Bool.and_true,cond_true,f7 ⟨hi.1,h1⟩]
  cases decide (60<((cK p.Domains i.toNat).Channels.length:Int))
  ·exact hn _ ⟨by omega,by omega⟩ a5
  ·exact ⟨_,rfl⟩
 ·rw [decide_eq_false h2,Bool.and_false,cond_false];exact ⟨_,rfl⟩
 ·rw [decide_eq_false h1,Bool.false_and,cond_false];exact ⟨_,rfl⟩
 ·rw [decide_eq_false h1,Bool.false_and,cond_false];exact ⟨_,rfl⟩
theorem gA {s c:Int}{x:GDomain}{q:Int}:q∈(ja s c x).Channels↔q∈x.Channels∧(x.Station=s→q=c):=by
 unfold ja;dsimp only;by_cases hs:x.Station=s
 ·rw [decide_eq_true hs,cond_true]
  cases ha:x.Channels.any (fun k=>decide (k=c)) with
  |true=>
   rw [cond_true];obtain ⟨k,hk,he⟩:=List.any_eq_true.1 ha;have:=of_decide_eq_true he;subst this;simp only [List.mem_singleton];exact ⟨fun h=>by subst h;exact ⟨hk,fun _=>rfl⟩,fun h=>h.2 hs⟩
  |false=>
   rw [cond_false];refine ⟨(fun h=>by cases h),fun h=>?_⟩;have:=h.2 hs;subst this;have:=List.any_eq_false.1 ha q h.1;simp at this
 ·rw [decide_eq_false hs,cond_false];exact ⟨fun h=>⟨h,fun h2=>absurd h2 hs⟩,fun h=>h.1⟩
theorem ziW {s c:Int}{x:GDomain}:(ja s c x).Channels.Sublist x.Channels:=by
 unfold ja;dsimp only
 cases decide (x.Station=s)
 ·exact eW
 ·cases ha:x.Channels.any (fun k=>decide (k=c))
  ·exact List.nil_sublist _
  ·obtain ⟨k,hk,he⟩:=List.any_eq_true.1 ha;have:=of_decide_eq_true he;subst this;exact List.singleton_sublist.2 hk
section
variable {p:GProblem}{a b d:List GDomain}
theorem nC {s c:Int}:SubD (d.map (ja s c)) d∧OrdD (d.map (ja s c)) d:=by
 refine ⟨⟨List.length_map _,fun i hi=>?_⟩,fun i hi=>?_⟩
 ·rw [iU hi];exact ⟨rfl,fun k hk=>(gA.1 hk).1⟩
 ·rw [iU hi];exact ziW
theorem zme {s c:Int}(h:SubD a b):SubD (a.map (ja s c)) (b.map (ja s c)):=by
 refine ⟨by rw [List.length_map,List.length_map,h.1],fun i hi=>?_⟩;rw [List.length_map] at hi;rw [iU hi,iU (by rw [h.1];exact hi)];have h2:=h.2 i hi;refine ⟨h2.1,fun k hk=>?_⟩;rw [gA] at hk ⊢;exact ⟨h2.2 k hk.1,fun e=>hk.2 (h2.1.trans e)⟩
theorem OrdD.trans {c:List GDomain}(h:OrdD a b)(k:OrdD b c)(hl:b.length=c.length):OrdD a c:=fun i hi=>(h i (by rw [hl];exact hi)).trans (k i hi)
theorem Bd.ord (hb:Bd b)(hl:a.length=b.length)(h:OrdD a b):Bd a:=by
 refine ⟨by rw [hl];exact hb.len,fun x hx=>?_⟩;obtain ⟨i,hi,rfl⟩:=iS hx; (have hi':i<b.length:=by rw [←hl];exact hi);have h2:=hb.ch _ (fG hi');exact ⟨Nat.le_trans (h i hi').length_le h2.1,h2.2.sublist (h i hi')⟩
theorem zeM:∀ {a b:List GDomain},a.length=b.length→OrdD a b→eA a≤eA b
 | [],[],_,_=>Nat.le_refl _
 |x :: r,y :: q,hl,h=>by
  have h0:=(h 0 a8).length_le
  have ih:=zeM (a:=r) (b:=q) (by simpa using hl) (fun i hi=>by
   have:=h (i+1) cH
   simpa [cK] using this)
  simp only [eA,List.map_cons,List.sum_cons] at ih ⊢;have e1:cK (x :: r) 0=x:=rfl;have e2:cK (y :: q) 0=y:=rfl;rw [e1,e2] at h0;omega
theorem PropD.eq {r r':List GDomain×Bool}(hb:Bd d)(h:PropD p d r)(h':PropD p d r'):r=r':=by
 rcases h with ⟨h1,h2,h3,h4⟩|⟨h1,h2⟩
 ·rcases h' with ⟨g1,g2,g3,g4⟩|⟨g1,g2⟩
  ·have e1:=h4 _ g2 g3.1;have e2:=g4 _ h2 h3.1
   have:r.1=r'.1:=by
    refine zfa (by rw [e2.1]) fun i hi=>?_; (have hi1:i<r'.1.length:=by rw [←e2.1];exact hi); (have hid:i<d.length:=by rw [←h3.1.1];exact hi);have a1:=e1.2 i hi;have a2:=e2.2 i hi1;have hch:(cK r.1 i).Channels=(cK r'.1 i).Channels:=zdB (h3.2 i hid) (g3.2 i hid) (hb.ch _ (fG hid)).2 (fun x=>⟨a2.2 x,a1.2 x⟩)
    cases hx:cK r.1 i with
    |mk s1 c1=>
     cases hy:cK r'.1 i with
     |mk s2 c2=>
      have b1:=a2.1;rw [hx,hy] at b1 hch;simp only at b1 hch;rw [b1,hch]
   exact Prod.ext this (h1.trans g1.symm)
  ·exact absurd h3.1 (g2 _ h2)
 ·rcases h' with ⟨g1,g2,g3,g4⟩|⟨g1,g2⟩
  ·exact absurd g3.1 (h2 _ g2)
  ·rw [h1,g1]
theorem PropD.keep {m r:List GDomain×Bool}{s c:Int}(h:PropD p d m)(hm:m.2=true)(hr:PropD p (m.1.map (ja s c)) r):PropD p (d.map (ja s c)) r:=by
 rcases h with ⟨_,h2,h3,h4⟩|⟨h1,_⟩
 ·have hsup:∀S,ClosedD p S→SubD S (d.map (ja s c))→SubD S (m.1.map (ja s c)):=fun S hS hs=>by
   have h5:=h4 S hS (hs.trans nC.1);refine ⟨by rw [List.length_map];exact h5.1,fun i hi=>?_⟩;rw [List.length_map] at hi; (have hid:i<d.length:=by rw [←h3.1.1];exact hi);rw [iU hi];have h6:=h5.2 i hi;refine ⟨h6.1,fun k hk=>gA.2 ⟨h6.2 k hk,fun e=>?_⟩⟩;have h7:=(hs.2 i (by rw [List.length_map];exact hid)).2 k hk;rw [iU hid] at h7;exact (gA.1 h7).2 (by rw [←(h3.1.2 i hid).1];exact e)
  rcases hr with ⟨g1,g2,g3,g4⟩|⟨g1,g2⟩
  ·refine .inl ⟨g1,g2,⟨g3.1.trans (zme h3.1),fun i hi=>?_⟩,fun S hS hs=>g4 S hS (hsup S hS hs)⟩;rw [List.length_map] at hi; (have hi':i<m.1.length:=by rw [h3.1.1];exact hi);have h8:=g3.2 i (by rw [List.length_map];exact hi');rw [iU hi'] at h8;rw [iU hi];refine h8.trans ?_;have hst:=(h3.1.2 i hi).1;have hsb:=h3.2 i hi;unfold ja;dsimp only;rw [hst]
   cases decide ((cK d i).Station=s)
   ·exact hsb
   ·cases ha:(cK m.1 i).Channels.any (fun k=>decide (k=c))
    ·exact List.nil_sublist _
    ·obtain ⟨k,hk,he⟩:=List.any_eq_true.1 ha;rw [List.any_eq_true.2 ⟨k,hsb.subset hk,he⟩];exact eW
  ·exact .inr ⟨g1,fun S hS hs=>g2 S hS (hsup S hS hs)⟩
 ·rw [h1] at hm;cases hm
theorem PropD.keepBad {m:List GDomain×Bool}{d':List GDomain}(h:PropD p d m)(hm:m.2=false)(hs:SubD d' d):PropD p d' m:=by
 rcases h with ⟨h1,_⟩|⟨h1,h2⟩
 ·rw [h1] at hm;cases hm
 ·exact .inr ⟨h1,fun S hS hh=>h2 S hS (hh.trans hs)⟩
theorem PropD.ord {m:List GDomain×Bool}(h:PropD p d m)(hm:m.2=true):m.1.length=d.length∧OrdD m.1 d:=by
 rcases h with ⟨_,_,h3,_⟩|⟨h1,_⟩
 ·exact ⟨h3.1.1,h3.2⟩
 ·rw [h1] at hm;cases hm
def nm (l:List GChoice)(i:Nat):Bool:=inB (cK l i).Station 0 511&&(inB (cK l i).Channel 2 51&& !(decide (0<(i:Int))&&decide ((cK l i).Station≤(cK l (i - 1)).Station)))
theorem zeH {l:List GChoice}:zbj l=(List.range l.length).all (nm l):=by
 unfold zbj;refine mo ?_;rw [zcI (nm l) (fun i next _=>?_),Bool.and_true];rw [zcM,zem]
 have e:nm l i=(inB (cK l i).Station 0 511&&(!decide ((cK l i).Channel<2)&&(!decide (51<(cK l i).Channel)&& !(decide (0<(i:Int))&&decide ((cK l i).Station≤(cK l (i - 1)).Station))))):=by
  unfold nm;rw [←Bool.and_assoc (!decide _)]
  congr 1
  congr 1
  unfold inB;by_cases h1:2≤(cK l i).Channel <;> by_cases h2:(cK l i).Channel≤51 <;> simp [h1,h2,Int.not_lt,Int.not_le] <;> omega
 rw [e]
 cases inB (cK l i).Station 0 511 <;> cases decide ((cK l i).Channel<2) <;> cases decide (51<(cK l i).Channel) <;> cases (decide (0<(i:Int))&&decide ((cK l i).Station≤(cK l (i - 1)).Station)) <;> rfl
theorem zpz (p:GProblem):(eF p).er=p:=by
 unfold eF Pb.er;dsimp only;rw [ze2 (g:=Dx.er) (fun _=>rfl),ze2 (g:=Pr.er) (fun _=>rfl),ze2 (g:=Ld.er) (fun _=>rfl),ze2 (g:=Cp.er) (fun _=>rfl)]
theorem zkh {d:List GDomain}{n:Nat}(h:∀x∈d,x.Channels.length≤n):eA d≤d.length*n:=by
 induction d with
 |nil=>simp [eA]
 |cons x r ih=>
  have h1:=h x a8;have h2:=ih (fun y hy=>h y (by simp [hy]));simp only [eA,List.map_cons,List.sum_cons,List.length_cons,Nat.add_mul] at h2 ⊢;omega
theorem zjp (h:gW p=true):WtP p∧Bd p.Domains∧eA p.Domains≤30000∧p.Domains.length≤512:=by
 have hG:=Pb.good h;have hw:=zoJ h;rw [zpz] at hw;have hl:(eF p).ds.length=p.Domains.length:=List.length_map _; (have hn:p.Domains.length≤512:=by rw [←hl];exact hG.n)
 have hc:∀x∈p.Domains,x.Channels.length≤52∧x.Channels.Nodup:=fun x hx=>by
  obtain ⟨i,hi,rfl⟩:=iS hx;have e:cK (eF p).ds i=(cK p.Domains i).b:=jJ hi;have h1:=hG.chs _ (fG (show i<(eF p).ds.length by rw [hl];exact hi));have h2:=zmY h (i:=i) (by rw [hl];exact hi);rw [e] at h1 h2;exact ⟨h1.1,(zeQ List.nodup_range').sublist h2⟩
 refine ⟨hw,⟨by omega,fun x hx=>⟨by have:=(hc x hx).1;omega,(hc x hx).2⟩⟩,?_,hn⟩;have:=zkh (d:=p.Domains) (n:=52) (fun x hx=>(hc x hx).1);omega
end
structure GG (p:GProblem):Prop where
 n:p.Domains.length≤512
 st:∀x∈p.Domains,0≤x.Station∧x.Station≤511
 chs:∀x∈p.Domains,x.Channels.length≤52∧∀c∈x.Channels,2≤c∧c≤51
 inc:∀i j,i<j→j<p.Domains.length→(cK p.Domains i).Station<(cK p.Domains j).Station
 ps:∀x∈p.Rules.Pairs,(gy p x.A=true∧gy p x.B=true)∧(x.A<x.B∧ -1≤x.Offset∧x.Offset≤1)∧2≤x.Low∧x.Low≤x.High∧x.High≤51
 ls:∀x∈p.Rules.Loads,(gy p x.To=true∧gy p x.From=true)∧(x.To≠x.From∧1≤x.Weight∧x.Weight≤1073741824)∧2≤x.Low∧x.Low≤x.High∧x.High≤51
 cs:∀x∈p.Rules.Caps,gy p x.Station=true∧(0≤x.Max∧x.Max≤1099511627776)∧2≤x.Low∧x.Low≤x.High∧x.High≤51
 lls:p.Rules.Loads.length≤1024
 lps:p.Rules.Pairs.length≤4096
 lcs:p.Rules.Caps.length≤1024
theorem eU {p:GProblem}{s:Int}:gy p s=true↔∃x∈p.Domains,x.Station=s:=by
 unfold gy;rw [List.any_eq_true];simp only [decide_eq_true_eq]
theorem zmF {p:GProblem}(h:gW p=true):GG p:=by
 have hG:=Pb.good h;have hl:(eF p).ds.length=p.Domains.length:=List.length_map _;have hn:∀i,i<p.Domains.length→cK (eF p).ds i=(cK p.Domains i).b:=fun i hi=>iU hi
 have hs:∀ {s:Int},(∃i,i<(eF p).ds.length∧s=(cK (eF p).ds i).st)→gy p s=true:=fun ⟨i,hi,e⟩=>by
  rw [hl] at hi;rw [hn i hi] at e;exact eU.2 ⟨_,fG hi,e.symm⟩
 refine ⟨by rw [←hl];exact hG.n,fun x hx=>hG.st x.b (List.mem_map.2 ⟨x,hx,rfl⟩),fun x hx=>hG.chs x.b (List.mem_map.2 ⟨x,hx,rfl⟩),fun i j hij hj=>?_,fun x hx=>?_,fun x hx=>?_,fun x hx=>?_,?_,?_,?_⟩
 ·have:=hG.inc i j hij (by rw [hl];exact hj);rw [hn i a5,hn j hj] at this;exact this
 ·obtain ⟨h1,h2,h3⟩:=hG.ps x.b (List.mem_map.2 ⟨x,hx,rfl⟩);simp only [Pr.ok,ft,inB,Bool.and_eq_true,decide_eq_true_eq] at h1;exact ⟨⟨hs h2,hs h3⟩,by show x.A<x.B∧_;exact ⟨h1.2.2.1,h1.2.2.2.1.1,h1.2.2.2.1.2⟩,h1.2.2.2.2.1,h1.2.2.2.2.2.1,h1.2.2.2.2.2.2⟩
 ·obtain ⟨h1,h2,h3⟩:=hG.ls x.b (List.mem_map.2 ⟨x,hx,rfl⟩);simp only [Ld.ok,ft,inB,Bool.and_eq_true,decide_eq_true_eq] at h1;exact ⟨⟨hs h2,hs h3⟩,⟨h1.2.2.1,h1.2.2.2.1.1,h1.2.2.2.1.2⟩,h1.2.2.2.2.1,h1.2.2.2.2.2.1,h1.2.2.2.2.2.2⟩
 ·obtain ⟨h1,h2⟩:=hG.cs x.b (List.mem_map.2 ⟨x,hx,rfl⟩);simp only [Cp.ok,ft,inB,Bool.and_eq_true,decide_eq_true_eq] at h1;exact ⟨hs h2,⟨h1.2.1.1,h1.2.1.2⟩,h1.2.2.1,h1.2.2.2.1,h1.2.2.2.2⟩
 ·have:=hG.lls;have e:(eF p).ls.length=p.Rules.Loads.length:=List.length_map _;omega
 ·have:=hG.lps;have e:(eF p).ps.length=p.Rules.Pairs.length:=List.length_map _;omega
 ·have:=hG.lcs;have e:(eF p).cs.length=p.Rules.Caps.length:=List.length_map _;omega
theorem zdv {σ ρ:Type}{f:Nat→(σ→ρ)→σ→ρ}{k:σ→ρ}{n:Nat}{s:σ}(q:Nat→Bool)(v:Nat→ρ)(hf:∀i next,i<n→f i next s=bif q i then v i else next s):c8 f k n 0 s=match (List.range n).find? q with|some i=>v i|none=>k s:=by
 have key:∀m i,i+m=n→c8 f k m i s=match (List.range' i m).find? q with|some i=>v i|none=>k s:=by
  intro m
  induction m with
  |zero=>intro i _;rfl
  |succ m ih=>
   intro i e
   show f i (c8 f k m (i+1)) s=_
   rw [hf i _ a5,ih (i+1) a5,List.range'_succ,List.find?_cons]
   cases q i <;> rfl
 rw [key n 0 a5,List.range_eq_range']
def gh (l:List GChoice)(n:Int):Int:=match l.find? (fun c=>decide (c.Station=n)) with|some c=>c.Channel|none=>0
theorem zkV {α:Type}[Inhabited α]{l:List α}{q:α→Bool}:((List.range l.length).find? fun i=>q (cK l i)).map (cK l)=l.find? q:=by
 induction l with
 |nil=>rfl
 |cons x r ih=>
  rw [List.length_cons,List.range_succ_eq_map,List.find?_cons,List.find?_cons];have e:cK (x :: r) 0=x:=rfl;rw [e]
  cases q x with
  |true=>rfl
  |false=>
   show Option.map (cK (x :: r)) (List.find? (fun i=>q (cK (x :: r) i)) ((List.range r.length).map Nat.succ))=r.find? q
   rw [List.find?_map,Option.map_map,←ih]
   congr 1
theorem on_x {l:List GChoice}{n:Int}:ie l n=gh l n:=by
 unfold ie gh;refine mo ?_;rw [zdv (fun i=>decide ((cK l i).Station=n)) (fun i=>(cK l i).Channel) (fun i next _=>rfl),←zkV (l:=l) (q:=fun c=>decide (c.Station=n))]
 cases (List.range l.length).find? fun i=>decide ((cK l i).Station=n) <;> rfl
structure ValidL (l:List GChoice):Prop where
 good:∀c∈l,0≤c.Station∧c.Station≤511∧2≤c.Channel∧c.Channel≤51
 inc:∀i j,i<j→j<l.length→(cK l i).Station<(cK l j).Station
theorem iO {l:List GChoice}:(List.range l.length).all (nm l)=true↔ValidL l:=by
 rw [List.all_eq_true];simp only [List.mem_range,nm,inB,Bool.and_eq_true,decide_eq_true_eq,Bool.not_eq_true',Bool.and_eq_false_iff,decide_eq_false_iff_not];constructor
 ·intro h;refine ⟨fun c hc=>?_,fun i j hij hj=>?_⟩
  ·obtain ⟨i,hi,rfl⟩:=iS hc;have:=h i hi;omega
  ·have key:∀m,i+m+1<l.length→(cK l i).Station<(cK l (i+m+1)).Station:=by
    intro m
    induction m with
    |zero=>intro hm;have:=(h (i+1) hm).2.2;rw [show i+1 - 1=i by omega] at this;rw [Nat.add_zero];omega
    |succ m ih=>intro hm;have h1:=ih a5;have:=(h (i+(m+1)+1) hm).2.2;rw [show i+(m+1)+1 - 1=i+m+1 by omega] at this;omega
   have:=key (j - i - 1) a5
   rwa [show i+(j - i - 1)+1=j by omega] at this
 ·intro h i hi;have:=h.good _ (fG hi);refine ⟨by omega,by omega,?_⟩;rcases Nat.eq_zero_or_pos i with h0|h0
  ·subst h0;left;omega
  ·right;have:=h.inc (i - 1) i a5 hi;omega
theorem ValidL.inj {l:List GChoice}(h:ValidL l){a b:GChoice}(ha:a∈l)(hb:b∈l)(e:a.Station=b.Station):a=b:=by
 obtain ⟨i,hi,rfl⟩:=iS ha;obtain ⟨j,hj,rfl⟩:=iS hb;rcases Nat.lt_trichotomy i j with h1|h1|h1
 ·have:=h.inc i j h1 hj;omega
 ·rw [h1]
 ·have:=h.inc j i h1 hi;omega
theorem zm6 {l:List GChoice}(h:ValidL l){c:GChoice}(hc:c∈l):gh l c.Station=c.Channel:=by
 unfold gh
 cases hf:l.find? (fun d=>decide (d.Station=c.Station)) with
 |none=>have:=List.find?_eq_none.1 hf c hc;simp at this
 |some d=>
  have h1:=List.find?_some hf;have h2:=List.mem_of_find?_eq_some hf;rw [h.inj h2 hc (by simpa using h1)]
theorem zor {l:List GChoice}{n:Int}(h:gh l n≠0):∃c∈l,c.Station=n∧c.Channel=gh l n:=by
 unfold gh at h ⊢
 cases hf:l.find? (fun d=>decide (d.Station=n)) with
 |none=>rw [hf] at h;exact absurd rfl h
 |some d=>exact ⟨d,List.mem_of_find?_eq_some hf,by simpa using List.find?_some hf,rfl⟩
def zkk (p:GProblem)(f:Int→Int)(t c:Int):Int:=p.Rules.Loads.foldl (fun n x=>bif decide (x.To=t)&&decide (f x.From=c)&&decide (x.Low≤c)&&decide (c≤x.High) then wI (n+x.Weight) else n) 0
theorem zpv {p:GProblem}{l:List GChoice}{t c:Int}:zb0 p t c l=zkk p (gh l) t c:=by
 unfold zb0 zkk;simp only [dJ,Nat.sub_zero,on_x];rw [zga (fun i n=>bif decide ((cK p.Rules.Loads i).To=t)&&decide (gh l (cK p.Rules.Loads i).From=c)&&decide ((cK p.Rules.Loads i).Low≤c)&&decide (c≤(cK p.Rules.Loads i).High) then wI (n+(cK p.Rules.Loads i).Weight) else n) (fun i next n _=>?_),nO (l:=p.Rules.Loads) (g:=fun n x=>bif decide (x.To=t)&&decide (gh l x.From=c)&&decide (x.Low≤c)&&decide (c≤x.High) then wI (n+x.Weight) else n)]
 cases (decide ((cK p.Rules.Loads i).To=t)&&decide (gh l (cK p.Rules.Loads i).From=c)&&decide ((cK p.Rules.Loads i).Low≤c)&&decide (c≤(cK p.Rules.Loads i).High)) <;> rfl
def mQ (f:Int→Int)(x:GPair):Bool:=decide (¬f x.A=0)&&decide (¬f x.B=0)&&decide (x.Low≤f x.A)&&decide (f x.A≤x.High)&&decide (f x.B=wI (f x.A+x.Offset))
def m6 (p:GProblem)(f:Int→Int)(x:GCap):Bool:=decide (¬f x.Station=0)&&decide (x.Low≤f x.Station)&&decide (f x.Station≤x.High)&&decide (x.Max<zkk p f x.Station (f x.Station))
theorem brP_x {l:List GChoice}{x:GPair}:lP x l=mQ (gh l) x:=by unfold lP mQ;simp only [on_x]
theorem brC_x {p:GProblem}{l:List GChoice}{x:GCap}:lL p x l=m6 p (gh l) x:=by unfold lL m6;simp only [on_x,zpv]
def mM (l:List GChoice)(all:Bool)(x:GDomain):Bool:=(decide (gh l x.Station=0)&&all)||(decide (¬gh l x.Station=0)&& !(x.Channels.any fun k=>decide (k=gh l x.Station)))
def orV (k:Int)(o:Option Nat)(r:GViolation):GViolation:=match o with
 |some i=>⟨k,(i:Int)⟩
 |none=>r
theorem zgB {k:Int}{o:Option Nat}{r:GViolation}(hk:k≠0):orV k o r=⟨0,0⟩↔o=none∧r=⟨0,0⟩:=by
 cases o <;> simp [orV,hk]
theorem zgD {k:Int}{o:Option Nat}{r:GViolation}(hk:k≠0)(hr:r.Kind=0→r=⟨0,0⟩):(orV k o r).Kind=0→orV k o r=⟨0,0⟩:=by
 cases o
 ·exact hr
 ·intro h;exact absurd h hk
def ze5 (p:GProblem)(l:List GChoice)(all:Bool):GViolation:=
 orV 1 ((List.range p.Domains.length).find? fun i=>mM l all (cK p.Domains i)) <|
 orV 2 ((List.range l.length).find? fun i=> !gy p (cK l i).Station) <|
 orV 3 ((List.range p.Rules.Pairs.length).find? fun i=>mQ (gh l) (cK p.Rules.Pairs i)) <|
 orV 4 ((List.range p.Rules.Caps.length).find? fun i=>m6 p (gh l) (cK p.Rules.Caps i)) ⟨0,0⟩
theorem zoS {p:GProblem}{s:Int}:decide (ij p s<0)= !gy p s:=by
 have:=znW (p:=p) (s:=s);unfold hasS at this;unfold gy
 cases h:p.Domains.any fun d=>decide (d.Station=s) with
 |true=>
  rw [h] at this;exact decide_eq_false (fun e=>by have:=this.1 e;cases this)
 |false=>exact decide_eq_true (this.2 h)
theorem zoU {p:GProblem}{l:List GChoice}{all:Bool}:ml p l all=ze5 p l all:=by
 unfold ml ze5;simp only [dJ,Nat.sub_zero,on_x,zpw,zoS,brP_x,brC_x];rw [zdv (fun i=>mM l all (cK p.Domains i)) (fun i=>GViolation.mk 1 (i:Int)) (fun i next _=>rfl)]
 cases (List.range p.Domains.length).find? (fun i=>mM l all (cK p.Domains i)) with
 |some i=>rfl
 |none=>
  dsimp only;rw [zdv (fun i=> !gy p (cK l i).Station) (fun i=>GViolation.mk 2 (i:Int)) (fun i next _=>rfl)]
  cases (List.range l.length).find? (fun i=> !gy p (cK l i).Station) with
  |some i=>rfl
  |none=>
   dsimp only;rw [zdv (fun i=>mQ (gh l) (cK p.Rules.Pairs i)) (fun i=>GViolation.mk 3 (i:Int)) (fun i next _=>rfl)]
   cases (List.range p.Rules.Pairs.length).find? (fun i=>mQ (gh l) (cK p.Rules.Pairs i)) with
   |some i=>rfl
   |none=>
    dsimp only;rw [zdv (fun i=>m6 p (gh l) (cK p.Rules.Caps i)) (fun i=>GViolation.mk 4 (i:Int)) (fun i next _=>rfl)]
    cases (List.range p.Rules.Caps.length).find? (fun i=>m6 p (gh l) (cK p.Rules.Caps i)) <;> rfl
theorem zgM {α:Type}[Inhabited α]{l:List α}{q:α→Bool}:(List.range l.length).find? (fun i=>q (cK l i))=none↔∀x∈l,q x=false:=by
 rw [List.find?_eq_none];constructor
 ·intro h x hx;obtain ⟨i,hi,rfl⟩:=iS hx;simpa using h i (List.mem_range.2 hi)
 ·intro h i hi;simpa using h _ (fG (List.mem_range.1 hi))
structure FineP (p:GProblem) (l:List GChoice):Prop where
 val:ValidL l
 dom:∀x∈p.Domains,gh l x.Station∈x.Channels∧gh l x.Station≠0
 own:∀c∈l,gy p c.Station=true
 pr:∀x∈p.Rules.Pairs,mQ (gh l) x=false
 cp:∀x∈p.Rules.Caps,m6 p (gh l) x=false
theorem zlt {p:GProblem}{l:List GChoice}{all:Bool}:ze5 p l all=⟨0,0⟩↔(∀x∈p.Domains,mM l all x=false)∧(∀c∈l,gy p c.Station=true)∧(∀x∈p.Rules.Pairs,mQ (gh l) x=false)∧∀x∈p.Rules.Caps,m6 p (gh l) x=false:=by
 rw [←zgM,←zgM (q:=mQ (gh l)),←zgM (q:=m6 p (gh l))]
 have e:(∀c∈l,gy p c.Station=true)↔(List.range l.length).find? (fun i=> !gy p (cK l i).Station)=none:=by
  rw [zgM (q:=fun c:GChoice=> !gy p c.Station)];simp
 rw [e];unfold ze5;rw [zgB a6,zgB a6,zgB a6,zgB a6];simp
theorem zlp {p:GProblem}{l:List GChoice}{all:Bool}:(ze5 p l all).Kind=0→ze5 p l all=⟨0,0⟩:=by
 unfold ze5;exact zgD a6 (zgD a6 (zgD a6 (zgD a6 fun _=>rfl)))
theorem zns {l:List GChoice}{x:GDomain}:mM l true x=false↔gh l x.Station∈x.Channels∧gh l x.Station≠0:=by
 unfold mM;by_cases h:gh l x.Station=0 <;> simp [h]
theorem lU {p:GProblem}{l:List GChoice}:lI p l=true↔FineP p l:=by
 unfold lI;rw [zeH,zoU,Bool.and_eq_true,iO,Bool.and_eq_true,decide_eq_true_eq,decide_eq_true_eq];have e:((ze5 p l true).Kind=0∧(ze5 p l true).At=0)↔ze5 p l true=⟨0,0⟩:=⟨fun h=>zlp h.1,fun h=>by rw [h];exact ⟨rfl,rfl⟩⟩;rw [e,zlt];simp only [zns];exact ⟨fun ⟨h1,h2,h3,h4,h5⟩=>⟨h1,h2,h3,h4,h5⟩,fun h=>⟨h.val,h.dom,h.own,h.pr,h.cp⟩⟩
def gK (d:List GDomain)(f:Int→Int):List GDomain:=d.map fun x=>⟨x.Station,[f x.Station]⟩
section
variable {p:GProblem}{f:Int→Int}
theorem zdT {s c:Int}(h:gy p s=true):jq (gK p.Domains f) s c=decide (f s=c):=by
 rw [Bool.eq_iff_iff,gG,decide_eq_true_eq];obtain ⟨x,hx,rfl⟩:=eU.1 h;constructor
 ·intro h1;exact h1 _ (List.mem_map.2 ⟨x,hx,rfl⟩) rfl _ a8
 ·intro e y hy hs k hk;obtain ⟨z,hz,rfl⟩:=List.mem_map.1 hy;simp at hk;dsimp only at hs;rw [hk,hs,e]
theorem zgg {α β:Type}{g h:β→α→β}:∀ {l:List α} {b:β},(∀x∈l,∀b,g b x=h b x)→l.foldl g b=l.foldl h b
 | [],_,_=>rfl
 |x :: r,b,e=>by rw [List.foldl_cons,List.foldl_cons,e x a8,zgg (fun y hy=>e y (by simp [hy]))]
theorem zil (hG:GG p){t c fr:Int}(hfr:fr<0∨f fr=c):ik p (gK p.Domains f) t c fr=zkk p f t c:=by
 unfold ik zkk;refine zgg fun x hx n=>?_;obtain ⟨⟨h1,h2⟩,_⟩:=hG.ls x hx
 congr 1
 unfold loadC;rw [zdT h2,Bool.eq_iff_iff];simp only [Bool.and_eq_true,Bool.or_eq_true,decide_eq_true_eq];constructor
 ·rintro ⟨⟨a1,a2,a3⟩,a4⟩;refine ⟨⟨⟨a1,?_⟩,a2⟩,a3⟩;rcases a4 with a4|a4
  ·rcases hfr with h3|h3
   ·obtain ⟨y,hy,e⟩:=eU.1 h2;have:=(hG.st y hy).1;omega
   ·rw [a4];exact h3
  ·exact a4
 ·rintro ⟨⟨⟨a1,a2⟩,a3⟩,a4⟩;exact ⟨⟨a1,a3,a4⟩, .inr a2⟩
theorem kT {s c l:Int}:kY p s c l=true↔∃x∈p.Rules.Caps,(x.Station=s∧x.Low≤c∧c≤x.High)∧x.Max<l:=by
 unfold kY;rw [List.any_eq_true];simp only [Bool.and_eq_true,decide_eq_true_eq]
theorem zke (hG:GG p)(hf:∀x∈p.Domains,1≤f x.Station∧f x.Station≤1000):ClosedD p (gK p.Domains f)↔(∀x∈p.Rules.Pairs,mQ f x=false)∧∀x∈p.Rules.Caps,m6 p f x=false:=by
 have hfs:∀ {s},gy p s=true→1≤f s∧f s≤1000:=fun h=>by
  obtain ⟨x,hx,rfl⟩:=eU.1 h;exact hf x hx
 constructor
 ·intro h
  have calm:∀ {s},gy p s=true→iA p (gK p.Domains f) s (f s)=false:=fun hs=>by
   obtain ⟨x,hx,rfl⟩:=eU.1 hs;exact h.calm ⟨x.Station,[f x.Station]⟩ (List.mem_map.2 ⟨x,hx,rfl⟩) _ a8
  refine ⟨fun x hx=>?_,fun x hx=>?_⟩
  ·obtain ⟨⟨h1,h2⟩,_⟩:=hG.ps x hx
   cases hb:mQ f x with
   |false=>rfl
   |true=>
    unfold mQ at hb;simp only [Bool.and_eq_true,decide_eq_true_eq] at hb;have h3:=calm h1
    have h4:mZ (gK p.Domains f) x.A (f x.A) x=true:=by
     unfold mZ;rw [zdT h2];simp only [Bool.or_eq_true,Bool.and_eq_true,decide_eq_true_eq];exact .inl ⟨⟨trivial,hb.1.1.2,hb.1.2⟩,hb.2⟩
    unfold iA at h3;rw [List.any_eq_true.2 ⟨x,hx,h4⟩] at h3
    cases h3
  ·obtain ⟨h1,_⟩:=hG.cs x hx
   cases hb:m6 p f x with
   |false=>rfl
   |true=>
    unfold m6 at hb;simp only [Bool.and_eq_true,decide_eq_true_eq] at hb;have h3:=calm h1
    have h4:kY p x.Station (f x.Station) (ik p (gK p.Domains f) x.Station (f x.Station) (-1))=true:=by
     rw [zil hG (.inl a5)];exact kT.2 ⟨x,hx,⟨rfl,hb.1.1.2,hb.1.2⟩,hb.2⟩
    unfold iA at h3;rw [h4] at h3;simp at h3
 ·rintro ⟨hp,hc⟩
  have hov:∀ {s},gy p s=true→kY p s (f s) (zkk p f s (f s))=false:=fun {s} hs=>by
   cases ho:kY p s (f s) (zkk p f s (f s)) with
   |false=>rfl
   |true=>
    obtain ⟨x,hx,⟨rfl,h2,h3⟩,h4⟩:=kT.1 ho;have h5:=hc x hx;have:=hfs hs;unfold m6 at h5;rw [decide_eq_true (show ¬f x.Station=0 by omega),decide_eq_true h2,decide_eq_true h3,decide_eq_true h4] at h5
    cases h5
  refine ⟨fun x hx=>?_,fun x hx c hcx=>?_⟩
  ·obtain ⟨y,hy,rfl⟩:=List.mem_map.1 hx;simp
  ·obtain ⟨y,hy,rfl⟩:=List.mem_map.1 hx;simp at hcx;subst hcx;have hs:gy p y.Station=true:=eU.2 ⟨y,hy,rfl⟩;have hfy:=hfs hs;dsimp only;unfold iA;rw [zil hG (.inl a5),hov hs,Bool.or_false,Bool.or_eq_false_iff,List.any_eq_false,List.any_eq_false];refine ⟨fun x hx=>?_,fun x hx=>?_⟩
   ·obtain ⟨⟨h1,h2⟩,⟨_,h3,h4⟩,_⟩:=hG.ps x hx;have h5:=hp x hx;have hA:=hfs h1;have hB:=hfs h2;unfold mZ;rw [zdT h1,zdT h2];intro hh;simp only [Bool.or_eq_true,Bool.and_eq_true,decide_eq_true_eq] at hh;unfold mQ at h5;rw [mG a5] at h5;simp only [Bool.and_eq_false_iff,decide_eq_false_iff_not] at h5;rcases hh with ⟨⟨a1,a2,a3⟩,a4⟩|⟨⟨a1,a2,a3⟩,a4⟩
    ·subst_vars
     rw [mG a5] at a4;rw [←a1] at a2 a3 a4;omega
    ·rw [mG a5] at a2 a3 a4;rw [←a1] at a2 a3 a4;omega
   ·obtain ⟨⟨h1,h2⟩,_⟩:=hG.ls x hx;unfold loadR;rw [zdT h1];intro hh;simp only [Bool.and_eq_true,decide_eq_true_eq] at hh;obtain ⟨⟨⟨a1,a2⟩,a3⟩,a4⟩:=hh;have h6:=hov h1;rw [zil hG (.inr rfl),←a3] at a4;rw [h6] at a4
    cases a4
end
structure FiltD (f:GDomain→GDomain) (φ:Int→Int→Prop):Prop where
 st:∀x,(f x).Station=x.Station
 mem:∀x q,q∈(f x).Channels↔q∈x.Channels∧φ x.Station q
 sub:∀x,(f x).Channels.Sublist x.Channels
 mono:∀x y,x.Station=y.Station→x.Channels.Sublist y.Channels→(f x).Channels.Sublist (f y).Channels
theorem ng:FiltD id (fun _ _=>True):=⟨fun _=>rfl,fun _ _=>by simp,fun _=>List.Sublist.refl _,fun _ _ _ h=>h⟩
theorem FiltD.keep (s c:Int):FiltD (ja s c) (fun t q=>t=s→q=c):=by
 refine ⟨fun _=>rfl,fun _ _=>gA,fun _=>ziW,fun x y hst hsb=>?_⟩;unfold ja;dsimp only;rw [hst]
 cases decide (y.Station=s)
 ·exact hsb
 ·cases ha:x.Channels.any (fun k=>decide (k=c))
  ·exact List.nil_sublist _
  ·obtain ⟨k,hk,he⟩:=List.any_eq_true.1 ha;rw [List.any_eq_true.2 ⟨k,hsb.subset hk,he⟩];exact eW
theorem FiltD.drop (s c:Int):FiltD (jh s c) (fun t q=>¬t=s∨¬q=c):=by
 refine ⟨fun _=>rfl,fun x q=>?_,fun _=>List.filter_sublist,fun x y hst hsb=>?_⟩
 ·unfold jh;simp only [List.mem_filter,Bool.or_eq_true,decide_eq_true_eq]
 ·unfold jh;dsimp only;rw [hst];exact hsb.filter _
section
variable {p:GProblem}{a b d:List GDomain}{f:GDomain→GDomain}{φ:Int→Int→Prop}
theorem FiltD.subD (h:FiltD f φ):SubD (d.map f) d∧OrdD (d.map f) d:=by
 refine ⟨⟨List.length_map _,fun i hi=>?_⟩,fun i hi=>?_⟩
 ·rw [iU hi];exact ⟨h.st _,fun c hc=>((h.mem _ _).1 hc).1⟩
 ·rw [iU hi];exact h.sub _
theorem FiltD.monoD (h:FiltD f φ)(hs:SubD a b):SubD (a.map f) (b.map f):=by
 refine ⟨by rw [List.length_map,List.length_map];exact hs.1,fun i hi=>?_⟩;rw [List.length_map] at hi;rw [iU hi,iU (by rw [hs.1];exact hi)];have h2:=hs.2 i hi;refine ⟨by rw [h.st,h.st];exact h2.1,fun c hc=>?_⟩;have h3:=(h.mem _ _).1 hc;exact (h.mem _ _).2 ⟨h2.2 c h3.1,by rw [←h2.1];exact h3.2⟩
theorem lK {m r:List GDomain×Bool}(hf:FiltD f φ)(h:PropD p d m)(hm:m.2=true)(hr:PropD p (m.1.map f) r):PropD p (d.map f) r:=by
 rcases h with ⟨_,h2,h3,h4⟩|⟨h1,_⟩
 ·have hsup:∀S,ClosedD p S→SubD S (d.map f)→SubD S (m.1.map f):=fun S hS hs=>by
   have h5:=h4 S hS (hs.trans hf.subD.1);refine ⟨by rw [List.length_map];exact h5.1,fun i hi=>?_⟩;rw [List.length_map] at hi; (have hid:i<d.length:=by rw [←h3.1.1];exact hi);rw [iU hi];have h6:=h5.2 i hi;refine ⟨by rw [hf.st];exact h6.1,fun k hk=>(hf.mem _ _).2 ⟨h6.2 k hk,?_⟩⟩;have h7:=(hs.2 i (by rw [List.length_map];exact hid)).2 k hk;rw [iU hid] at h7;rw [(h3.1.2 i hid).1];exact ((hf.mem _ _).1 h7).2
  rcases hr with ⟨g1,g2,g3,g4⟩|⟨g1,g2⟩
  ·refine .inl ⟨g1,g2,⟨g3.1.trans (hf.monoD h3.1),fun i hi=>?_⟩,fun S hS hs=>g4 S hS (hsup S hS hs)⟩;rw [List.length_map] at hi; (have hi':i<m.1.length:=by rw [h3.1.1];exact hi);have h8:=g3.2 i (by rw [List.length_map];exact hi');rw [iU hi'] at h8;rw [iU hi];exact h8.trans (hf.mono _ _ (h3.1.2 i hi).1 (h3.2 i hi))
  ·exact .inr ⟨g1,fun S hS hs=>g2 S hS (hsup S hS hs)⟩
 ·rw [h1] at hm;cases hm
def iC (keep:Bool)(c:GChoice):GDomain→GDomain:=bif mO c then (bif keep then ja c.Station c.Channel else jh c.Station c.Channel) else id
def actQ (keep:Bool)(c:GChoice)(s q:Int):Prop:=mO c=true→s=c.Station→(q=c.Channel↔keep=true)
theorem zeT (keep:Bool)(c:GChoice):FiltD (iC keep c) (actQ keep c):=by
 have key:∀ {φ ψ:Int→Int→Prop} {f:GDomain→GDomain},FiltD f φ→(∀s q,φ s q↔ψ s q)→FiltD f ψ:=fun h k=>⟨h.st,fun x q=>by rw [h.mem,k],h.sub,h.mono⟩;unfold iC actQ
 cases mO c
 ·exact key ng (fun s q=>by simp)
 ·cases keep
  ·exact key (FiltD.drop _ _) (fun s q=>by simp;constructor <;> intro h <;> by_cases e:s=c.Station <;> simp_all)
  ·exact key (FiltD.keep _ _) (fun s q=>by simp)
theorem zm0 {fuel:Nat}(hf:100000≤fuel)(hok:gW p=true)(hd:SubD d p.Domains∧OrdD d p.Domains){m:List GDomain×Bool}(h:PropD p d m)(keep:Bool)(c:GChoice):∃r,na fuel p m keep c=some (r,bif !mO c then 2 else bif !m.2 then 8 else bif !gy p c.Station then 9 else 0)∧PropD p (d.map (iC keep c)) r:=by
 obtain ⟨hw,hbd,ht,hn⟩:=zjp hok;unfold na
 cases hg:mO c
 ·refine ⟨m,rfl,?_⟩; (have e:iC keep c=id:=by unfold iC;rw [hg];rfl);rw [e,List.map_id];exact h
 ·cases hm:m.2
  ·exact ⟨m,rfl,h.keepBad hm (zeT keep c).subD.1⟩
  ·cases hh:gy p c.Station
   ·refine ⟨m,rfl,?_⟩
    have e:d.map (iC keep c)=d:=by
     refine (List.map_congr_left (g:=id) fun x hx=>?_).trans (List.map_id _);obtain ⟨i,hi,rfl⟩:=iS hx; (have hi':i<p.Domains.length:=by rw [←hd.1.1];exact hi)
     have hne:¬(cK d i).Station=c.Station:=by
      rw [(hd.1.2 i hi').1];intro e;have:gy p c.Station=true:=List.any_eq_true.2 ⟨_,fG hi',by simpa using e⟩;rw [hh] at this;cases this
     unfold iC;rw [hg,cond_true]
     cases keep
     ·show jh _ _ _=_
      unfold jh;have:(cK d i).Channels.filter (fun k=>decide (¬(cK d i).Station=c.Station)||decide (¬k=c.Channel))=(cK d i).Channels:=List.filter_eq_self.2 (fun k _=>by simp [hne]);rw [this];rfl
     ·show ja _ _ _=_
      unfold ja;rw [decide_eq_false hne];rfl
    rw [e];exact h
   ·have ho:=h.ord hm;have hol:=ho.2.trans hd.2 hd.1.1;have hlen:m.1.length=p.Domains.length:=ho.1.trans hd.1.1;have hb1:=hbd.ord hlen hol;have ht1:=zeM hlen hol;have hs:=(zeT keep c).subD (d:=m.1);have hb2:=hb1.ord hs.1.1 hs.2;have ht2:=zeM hs.1.1 hs.2;obtain ⟨r,h5,h6⟩:=zfi (fuel:=fuel) hw hb2 (by rw [hs.1.1];omega) a5;refine ⟨r,?_,lK (zeT keep c) h hm h6⟩
    have e:(bif keep then zc4 m.1 c.Station c.Channel else zcc m.1 c.Station c.Channel)=some (m.1.map (iC keep c)):=by
     unfold iC;rw [hg]
     cases keep
     ·exact zlA hb1.len (fun x hx=>(hb1.ch x hx).1)
     ·exact zn6 hb1.len (fun x hx=>(hb1.ch x hx).1)
    simp only [Bool.not_true,cond_false];rw [e,Option.bind_some,h5];rfl
end
end Go.Proofs.YtogbggmckmnlfaaGreatDoor
