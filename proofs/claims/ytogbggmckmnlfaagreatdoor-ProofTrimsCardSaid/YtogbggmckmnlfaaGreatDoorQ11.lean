/- Yq R7 Pw Cv Lc Ga Gg Lq Na: shortened and put together by squeeze.py. -/
import Derived.Test.YtogbggmckmnlfaaGreatDoorQ10
set_option maxRecDepth 100000
set_option maxHeartbeats 4000000
set_option linter.unusedVariables false
set_option linter.unusedSectionVars false
set_option linter.unusedSimpArgs false
namespace Go.Proofs.YtogbggmckmnlfaaGreatDoor
open Go.RowKit
def zaN (l:List Int):Bool:=
 dH (fun (_:Unit)=>
  true)
 (fun k1=>
  c6 (fun (i_3:Nat) (next2:Unit→Bool) (_:Unit)=>
   (bif !(iN (cJ l i_3)) then
    false
    else
    next2 ()))
  (fun (_:Unit)=>
   k1 ()) (l.length - 0) 0 ())
theorem zc4 (F0:Frz)(w:World)(hF0:F0.At w)(l:List Int)(vl:Value)(hl:SlC F0 vl 1 (l.map eI)):Calls Tryz.prog 122 #[vl, .func (.func 79) #[] #[]] w fun e w'=>e= .returned (.bool (zaN l))∧Below w.heap.size w w':=by
 obtain ⟨r,hk⟩:∃r,zaN l=r:=⟨_,rfl⟩;rw [hk];unfold zaN at hk;haveI:=hl.oneC;obtain ⟨S0,F1,rfl,hS0,hp0⟩:=ey hF0;refine dt Tryz.func122 rfl rfl rfl hp0 ?_;refine jo ?_;refine q2D ?_;have hm8:l.length≤9223372036854775807:=(List.length_map _)▸hl.max;refine dA ?_;have hq:=d7 hk;clear hk;obtain ⟨k1,hk1,hk⟩:=hq; (try dsimp only at hk);refine cZ (ι:=Unit) (fun z=>[]) (fun z=>[.fr F1]) (fun z=>k1 ()=r) ?_ ?_
 ·have hq:=eS hk;clear hk;obtain ⟨f2,kk2,hf2,hkk2,hk⟩:=hq;refine eA ?_;refine T.loop (ι:=Nat) (fun z=>[(1, .func (.func 79) #[] #[]),(7,vl),(8, .int .i64 (l.length:Int)),(9, .int .i64 (z:Int))]) (fun z=>[.fr F1]) (fun z=>c6 f2 kk2 (l.length - z) z ()=r) (fun z=>l.length - z) 0 ?_ ?_ ?_ ?_
  ·exact hk
  ·exact nA
  ·exact eh
  ·rintro i_3 hk;refine fb ?_;refine T.cond rfl (fun h4=>?_) (fun h4=>?_)
   ·have p4:=of_decide_eq_true h4;rw [eQ a5] at hk;generalize hn2:c6 f2 kk2 (l.length - (i_3+1)) (i_3+1)=next2 at hk;rw [←hf2] at hk; (try dsimp only at hk);refine fh ?_;refine q4k ?_;refine gF ?_;refine d8 ?_;refine cU (cM rfl rfl rfl (fun w hw=>zdL _ w (hw.fr (i:=0) rfl) (cJ l i_3))) ?_;refine fD ?_;refine dA ?_;refine T.cond rfl (fun h5=>?_) (fun h5=>?_)
    ·replace hk:=dr hk h5;refine gN ?_;subst hk;exact dW
    ·replace hk:=dq hk h5;refine iz ?_;rw [←hn2] at hk;exact q5o
   ·have p4:=of_decide_eq_false h4;rw [eO a5,←hkk2] at hk; (try dsimp only at hk);refine eC ?_;exact jS
 ·rintro _ hk;rw [←hk1] at hk; (try dsimp only at hk);refine jB ?_;subst hk;exact dW
def za9 (l:List Int):Option Bool:=
 dH (fun (_:Unit)=>
  some true)
 (fun k1=>
  c6 (fun (i_3:Nat) (next2:Unit→Option Bool) (_:Unit)=>
   ej (0≤((i_3:Int) - 1)∧((i_3:Int) - 1)<(l.length:Int)) <|
   (bif decide (0≤(zbc (cJ l (((i_3:Int) - 1).toNat)) (cJ l i_3))) then
    some false
    else
    next2 ()))
  (fun (_:Unit)=>
   k1 ()) (l.length - 1) 1 ())
theorem zdy (F0:Frz)(w:World)(hF0:F0.At w)(l:List Int)(vl:Value)(hl:SlC F0 vl 1 (l.map eI))(r:Bool)(hr:za9 l=some r):Calls Tryz.prog 123 #[vl, .func (.func 107) #[] #[]] w fun e w'=>e= .returned (.bool r)∧Below w.heap.size w w':=by
 have hk:=hr;unfold za9 at hk;haveI:=hl.oneC;obtain ⟨S0,F1,rfl,hS0,hp0⟩:=ey hF0;refine dt Tryz.func123 rfl rfl rfl hp0 ?_;refine gy ?_;refine mc ?_;have hq:=d7 hk;clear hk;obtain ⟨k1,hk1,hk⟩:=hq; (try dsimp only at hk);refine cZ (ι:=Unit) (fun z=>[]) (fun z=>[.fr F1]) (fun z=>k1 ()=some r) ?_ ?_
 ·have hq:=eS hk;clear hk;obtain ⟨f2,kk2,hf2,hkk2,hk⟩:=hq;refine eA ?_;refine T.loop (ι:=Nat) (fun z=>[(0,vl),(1, .func (.func 107) #[] #[]),(5, .int .i64 (z:Int))]) (fun z=>[.fr F1]) (fun z=>c6 f2 kk2 (l.length - z) z ()=some r) (fun z=>l.length - z) 1 ?_ ?_ ?_ ?_
  ·exact hk
  ·exact l9
  ·exact eh
  ·rintro i_3 hk;refine iC ?_;refine q2D ?_;have hm8:l.length≤9223372036854775807:=(List.length_map _)▸hl.max;refine dA ?_;refine T.cond rfl (fun h4=>?_) (fun h4=>?_)
   ·have p4:=of_decide_eq_true h4;rw [eQ a5] at hk;generalize hn2:c6 f2 kk2 (l.length - (i_3+1)) (i_3+1)=next2 at hk;rw [←hf2] at hk; (try dsimp only at hk);refine je ?_;have hq:(0≤((i_3:Int) - 1)∧((i_3:Int) - 1)<(l.length:Int))∧_:=fu hk;clear hk;obtain ⟨g16,hk⟩:=hq; (try dsimp only at hk);refine q3o ?_;refine q2j ?_;refine q3k ?_;refine q2M ?_;refine dy ?_;refine cW rfl (Wt.none) rfl rfl (cM rfl rfl rfl (fun w hw=>zfu _ w (hw.fr (i:=0) rfl) (cJ l (((i_3:Int) - 1).toNat)) (cJ l i_3))) ?_;refine iJ ?_;refine kg ?_;refine T.cond rfl (fun h5=>?_) (fun h5=>?_)
    ·have p5:=of_decide_eq_true h5;replace hk:=dr hk h5;refine gN ?_;obtain rfl:=Option.some.inj hk;exact dW
    ·have p5:=of_decide_eq_false h5;replace hk:=dq hk h5;refine ga ?_;rw [←hn2] at hk;exact q47
   ·have p4:=of_decide_eq_false h4;rw [eO a5,←hkk2] at hk; (try dsimp only at hk);refine eC ?_;exact jS
 ·rintro _ hk;rw [←hk1] at hk; (try dsimp only at hk);refine jB ?_;obtain rfl:=Option.some.inj hk;exact dW
def zaV (l:List Int):Option Bool:=
 dH (fun (x_1:Bool)=>
  some x_1)
 (fun k2=>
  (bif (zaN l) then
   (za9 l).bind fun r7=>
   k2 r7
   else
   k2 false))
theorem zcL (F0:Frz)(w:World)(hF0:F0.At w)(l:List Int)(vl:Value)(hl:SlC F0 vl 1 (l.map eI))(r:Bool)(hr:zaV l=some r):Calls Tryz.prog 77 #[vl] w fun e w'=>e= .returned (.bool r)∧Below w.heap.size w w':=by
 have hk:=hr;unfold zaV at hk;haveI:=hl.oneC;obtain ⟨S0,F1,rfl,hS0,hp0⟩:=ey hF0;refine dt Tryz.func77 rfl rfl rfl hp0 ?_;refine fb ?_; (try dsimp only at hk);have hq:=d7 hk;clear hk;obtain ⟨k2,hk2,hk⟩:=hq; (try dsimp only at hk);refine cZ (ι:=Bool) (fun z=>[(2, .bool z)]) (fun z=>[.fr F1]) (fun z=>k2 z=some r) ?_ ?_
 ·refine gM ?_;refine cU (cM rfl rfl rfl (fun w hw=>zc4 _ w (hw.fr (i:=0) rfl) l vl hl)) ?_;refine kq ?_;refine dn rfl rfl rfl (fun h3=>?_) (fun h3=>?_)
  ·replace hk:=dr hk h3;refine di ?_;have hq:=d5 hk;clear hk;obtain ⟨r7,hr7,hk⟩:=hq;refine cU (cM rfl rfl rfl (fun w hw=>zdy _ w (hw.fr (i:=0) rfl) l vl hl r7 hr7)) ?_;refine lc ?_;exact cS r7 hk (.c .nil) (List.Sublist.refl _)
  ·replace hk:=dq hk h3;refine kA ?_;exact q4Z
 ·rintro x_1 hk;rw [←hk2] at hk; (try dsimp only at hk);refine T.ret ?_;obtain rfl:=Option.some.inj hk;exact dW
def zcg (l:List GChoice)(stations:List Int):Option (List GChoice×Int):=
 dH (fun (x_1:Bool)=>
  (bif x_1 then
   some ([],2)
   else
   (zbU stations).bind fun r21=>
   dH (fun (some_5:List GChoice)=>
    some (some_5,0))
   (fun k6=>
    c6 (fun (i_9:Nat) (next8:List GChoice→Option (List GChoice×Int)) (some_7:List GChoice)=>
     (l8 r21.1 ((cJ l i_9).Station)).bind fun r33=>
     (bif r33 then
      ej (dl (some_7++[(cJ l i_9)]).length 16) <|
      next8 (some_7++[(cJ l i_9)])
      else
      next8 some_7))
    (fun (some_7:List GChoice)=>
     k6 some_7) (l.length - 0) 0 [])))
 (fun k2=>
  (bif !(lE l) then
   k2 true
   else
   (zaV stations).bind fun r16=>
   k2 (!r16)))
theorem zht (F0:Frz)(w:World)(hF0:F0.At w)(l:List GChoice)(vl:Value)(hl:SlC F0 vl 2 (l.map cV))(stations:List Int)(vstations:Value)(hstations:SlC F0 vstations 1 (stations.map eI))(r:List GChoice×Int)(hr:zcg l stations=some r):Calls Tryz.prog 40 #[vl,vstations] w fun e w'=>∃(y:Value) (G:Frz),(SlC G y 2 (r.1.map cV))∧e= .returned (.tuple #[y, .int .i64 r.2])∧Fx F0 w G w':=by
 have hk:=hr;unfold zcg at hk;haveI:=hl.oneC;haveI:=hstations.oneC;obtain ⟨S0,F1,rfl,hS0,hp0⟩:=ey hF0;refine dt Tryz.func40 rfl rfl rfl hp0 ?_;refine jg ?_;refine mo ?_; (try dsimp only at hk);have hq:=d7 hk;clear hk;obtain ⟨k2,hk2,hk⟩:=hq; (try dsimp only at hk);refine cZ (ι:=Bool) (fun z=>[(0,vl),(1,vstations),(18, .bool z)]) (fun z=>[.fr F1]) (fun z=>k2 z=some r) ?_ ?_
 ·refine gM ?_;refine cU (cM rfl rfl rfl (fun w hw=>zcB _ w (hw.fr (i:=0) rfl) l vl hl)) ?_;refine kx ?_;refine dn rfl rfl rfl (fun h3=>?_) (fun h3=>?_)
  ·replace hk:=dr hk h3;refine kA ?_;exact cS true hk (.c (.c (.c .nil))) (List.Sublist.refl _)
  ·replace hk:=dq hk h3;refine di ?_;have hq:=d5 hk;clear hk;obtain ⟨r16,hr16,hk⟩:=hq;refine cU (cM rfl rfl rfl (fun w hw=>zcL _ w (hw.fr (i:=0) rfl) stations vstations hstations r16 hr16)) ?_;refine lc ?_;exact cS (!r16) hk (.c (.c (.c .nil))) (List.Sublist.refl _)
 ·rintro x_1 hk;rw [←hk2] at hk; (try dsimp only at hk);refine T.cond rfl (fun h4=>?_) (fun h4=>?_)
  ·replace hk:=dr hk h4;refine kI ?_;obtain rfl:=Option.some.inj hk;exact ez rfl rfl rfl (fun w' hw=>⟨(.slice none 0 0),F1.toFrz,(SlC.nil _ 2),rfl,eJ hw (i:=0) rfl hS0 (Frz.Le.refl _)⟩)
  ·replace hk:=dq hk h4;refine jh ?_;have hq:=d5 hk;clear hk;obtain ⟨r21,hr21,hk⟩:=hq; (try dsimp only at hk);refine gM ?_;refine cU (cM rfl rfl rfl (fun w hw=>zd4 _ w (hw.fr (i:=0) rfl) stations vstations hstations r21 hr21)) ?_;refine fD ?_;refine eB ?_;refine q13 ?_;rintro _ _ ⟨g6,rfl,rfl⟩;refine q1H ?_;refine lO ?_;refine TL.slNil 68 2 ?_;refine jq ?_;refine di ?_;refine q2D ?_;have hm25:l.length≤9223372036854775807:=(List.length_map _)▸hl.max;refine dA ?_;have hq:=d7 hk;clear hk;obtain ⟨k6,hk6,hk⟩:=hq; (try dsimp only at hk);refine cZ (ι:=List GChoice×Value) (fun z=>[(8,z.2)]) (fun z=>[.sl z.2 68 2 z.1.length (z.1.flatMap cV), .fr F1]) (fun z=>k6 z.1=some r∧OneC z.2) ?_ ?_
   ·have hq:=eS hk;clear hk;obtain ⟨f8,kk8,hf8,hkk8,hk⟩:=hq;refine eA ?_;refine T.loop (ι:=Nat×List GChoice×Value) (fun z=>[(6, .pointer (some ⟨g6,0,none⟩)),(8,z.2.2),(24,vl),(25, .int .i64 (l.length:Int)),(26, .int .i64 (z.1:Int))]) (fun z=>[.sl z.2.2 68 2 z.2.1.length (z.2.1.flatMap cV), .row g6 83 (r21.1.words.1.map U), .fr F1]) (fun z=>c6 f8 kk8 (l.length - z.1) z.1 z.2.1=some r∧OneC z.2.2) (fun z=>l.length - z.1) (0,[],(.slice none 0 0)) ?_ ?_ ?_ ?_
    ·exact q43
    ·exact jM
    ·exact eh
    ·rintro ⟨i_9,some_7,vsome_7⟩ ⟨hk,osome_7⟩; (try dsimp only at *);refine fb ?_;refine T.cond rfl (fun h10=>?_) (fun h10=>?_)
     ·have p10:=of_decide_eq_true h10;rw [eQ a5] at hk;generalize hn8:c6 f8 kk8 (l.length - (i_9+1)) (i_9+1)=next8 at hk;rw [←hf8] at hk; (try dsimp only at hk);refine fh ?_;refine cL (c8 (i:=i_9) rfl rfl rfl hl (List.length_map _) rfl a5) ?_;refine cL (eg 2 (i:=i_9) rfl rfl rfl hl a5) ?_;refine fX ?_;rintro _ _ ⟨g10,rfl,rfl⟩;refine kK ?_;have hq:=d5 hk;clear hk;obtain ⟨r33,hr33,hk⟩:=hq; (try dsimp only at hk);refine fP ?_;refine cL (dO 2 rfl rfl rfl Vec.len) ?_;refine ef ?_;refine cU (cM rfl rfl rfl (fun w hw=>zaz _ w (hw.fr (i:=3) rfl) r21.1 ((cJ l i_9).Station) r33 hr33)) ?_;refine nJ ?_;refine T.cond rfl (fun h11=>?_) (fun h11=>?_)
      ·replace hk:=dr hk h11;have hq:(dl (some_7++[(cJ l i_9)]).length 16)∧_:=fu hk;clear hk;obtain ⟨g37,hk⟩:=hq; (try dsimp only at hk);refine gM ?_;refine ik ?_;refine jG ?_;rintro _ _ ⟨g36,rfl,rfl⟩;refine cU (ff 2 0 rfl rfl rfl rfl rfl rfl (kd (ys:=[(cJ l i_9)])) (zcj (enc:=cV) (xs:=some_7) (ys:=[(cJ l i_9)])) g37 a6) ?_;rintro v37 _ ⟨hv37,rfl⟩;refine di ?_;refine kz ?_;rw [←hn8] at hk;refine K.pick [2,3,4] rfl a6 ?_;exact K.next ((i_9+1),(some_7++[(cJ l i_9)]),v37) ⟨hk,inferInstance⟩ a8 (.c (.c (.c (.c (.c .nil))))) (List.Sublist.refl _)
      ·replace hk:=dq hk h11;refine iz ?_;rw [←hn8] at hk;refine q3Z ?_;exact K.next ((i_9+1),some_7,vsome_7) ⟨hk,inferInstance⟩ a8 (.c (.c (.c (.c (.c .nil))))) (List.Sublist.refl _)
     ·have p10:=of_decide_eq_false h10;rw [eO a5,←hkk8] at hk; (try dsimp only at hk);refine eC ?_;refine K.pick [0,2] rfl a6 ?_;exact cS (some_7,vsome_7) ⟨hk,inferInstance⟩ (.c .nil) (List.Sublist.refl _)
   ·rintro ⟨some_5,vsome_5⟩ ⟨hk,osome_5⟩; (try dsimp only at *);rw [←hk6] at hk; (try dsimp only at hk);refine dh ?_;refine eB ?_;refine fW ?_;refine q3M ?_;rintro F2 ⟨le1_2,hz2⟩;refine it ?_;have hf2:=hz2.toF rfl GChoice.len;haveI:=hf2.oneC;obtain rfl:=Option.some.inj hk;exact ez rfl rfl rfl (fun w' hw=>⟨vsome_5,F2.toFrz,hf2,rfl,eJ hw (i:=0) rfl hS0 le1_2⟩)
def zbA (p:GProblem):Option GSet:=
 ej (dl p.Domains.length 8) <|
 dH (fun (l_1:List Int)=>
  (zbU l_1).bind fun r28=>
  some r28.1)
 (fun k2=>
  c6 (fun (i_5:Nat) (next4:List Int→Option GSet) (l_3:List Int)=>
   ej (0≤(i_5:Int)∧(i_5:Int)<(l_3.length:Int)) <|
   next4 (l_3.set i_5 ((cJ p.Domains i_5).Station)))
  (fun (l_3:List Int)=>
   k2 l_3) (p.Domains.length - 0) 0 (List.replicate p.Domains.length 0))
theorem zfS (F0:Frz)(w:World)(hF0:F0.At w)(p:GProblem)(vp_0:Value)(cp_0:List (List Value))(hp_0:SlD cK F0 vp_0 2 cp_0 p.Domains)(vp_1:Value)(hp_1:SlC F0 vp_1 5 (p.Rules.Pairs.map cO))(vp_2:Value)(hp_2:SlC F0 vp_2 5 (p.Rules.Loads.map cP))(vp_3:Value)(hp_3:SlC F0 vp_3 4 (p.Rules.Caps.map cR))(r:GSet)(hr:zbA p=some r):Calls Tryz.prog 109 #[.agg [vp_0,vp_1,vp_2,vp_3].toArray] w fun e w'=>e= .returned (.agg (r.words.1.map U).toArray)∧Below w.heap.size w w':=by
 have hk:=hr;unfold zbA at hk;haveI:=hp_0.1.oneC;haveI:=hp_1.oneC;haveI:=hp_2.oneC;haveI:=hp_3.oneC;obtain ⟨S0,F1,rfl,hS0,hp0⟩:=ey hF0;refine dt Tryz.func109 rfl rfl rfl hp0 ?_;refine gp ?_;rintro _ _ ⟨g1,rfl,rfl⟩;refine q13 ?_;rintro _ _ ⟨g2,rfl,rfl⟩;refine lQ ?_;have hq:(dl p.Domains.length 8)∧_:=fu hk;clear hk;obtain ⟨g11,hk⟩:=hq; (try dsimp only at hk);refine fP ?_;refine la ?_;refine q2J ?_;have hm10:p.Domains.length≤9223372036854775807:=hp_0.2.1▸hp_0.1.max;refine cU (Ew.cr (n':=p.Domains.length) (enc:=eI) (u:=0) rfl rfl rfl rfl g11 a6 a6 (fun _=>rfl) rfl) ?_;rintro v11 _ ⟨hv11,rfl⟩;refine fT 0 rfl ?_;intro iv11 hmv11;refine kv ?_;refine nn ?_;refine q2J ?_;refine dA ?_;have hq:=d7 hk;clear hk;obtain ⟨k2,hk2,hk⟩:=hq; (try dsimp only at hk);refine cZ (ι:=List Int) (fun z=>[(2, .pointer (some ⟨g2,0,none⟩)),(3,v11)]) (fun z=>[.sl v11 3 1 z.length (z.flatMap eI), .row g2 83 ((Vec.fill 8 (0#64)).1.map U), .fr F1]) (fun z=>k2 z=some r) ?_ ?_
 ·have hq:=eS hk;clear hk;obtain ⟨f4,kk4,hf4,hkk4,hk⟩:=hq;refine eA ?_;refine T.pick [0,1,3] rfl a6 ?_;refine T.loop (ι:=Nat×List Int) (fun z=>[(2, .pointer (some ⟨g2,0,none⟩)),(3,v11),(13,vp_0),(14, .int .i64 (p.Domains.length:Int)),(15, .int .i64 (z.1:Int))]) (fun z=>[.sl v11 3 1 z.2.length (z.2.flatMap eI), .row g2 83 ((Vec.fill 8 (0#64)).1.map U), .fr F1]) (fun z=>c6 f4 kk4 (p.Domains.length - z.1) z.1 z.2=some r) (fun z=>p.Domains.length - z.1) (0,(List.replicate p.Domains.length 0)) ?_ ?_ ?_ ?_
  ·exact hk
  ·exact jM
  ·exact eh
  ·rintro ⟨i_5,l_3⟩ hk; (try dsimp only at *);refine fb ?_;refine T.cond rfl (fun h6=>?_) (fun h6=>?_)
   ·have p6:=of_decide_eq_true h6;rw [eQ a5] at hk;generalize hn4:c6 f4 kk4 (p.Domains.length - (i_5+1)) (i_5+1)=next4 at hk;rw [←hf4] at hk; (try dsimp only at hk);refine q4I ?_;refine q3v ?_;have hd19_1:=(GDomain.c1 (hp_0.2.2 i_5 a5)).2;haveI:=hd19_1.oneC;refine fX ?_;rintro _ _ ⟨g5,rfl,rfl⟩;refine di ?_;refine j8 ?_;refine db ?_;have hq:(0≤(i_5:Int)∧(i_5:Int)<(l_3.length:Int))∧_:=fu hk;clear hk;obtain ⟨g24,hk⟩:=hq; (try dsimp only at hk);refine iW ?_;refine ef ?_;refine cL (Yv.ci 1 (i:=i_5) rfl rfl rfl rfl rfl a5) ?_;refine eY (Ew.bR 1 (k':=(l_3.set i_5 ((cJ p.Domains i_5).Station)).length) (l':=(l_3.set i_5 ((cJ p.Domains i_5).Station)).flatMap eI) rfl rfl rfl rfl a5 (zhL (enc:=eI) (xs:=l_3) (i:=i_5) (j:=0) (size:=1) (fun _=>rfl) a5 a6 a5) (zjb (enc:=eI) (xs:=l_3) (i:=i_5) (j:=0) (size:=1) (x:=((cJ p.Domains i_5).Station)) (fun _=>rfl) a5 a6 a5 rfl) (List.length_set ..)) ?_;refine fD ?_;refine kz ?_;rw [←hn4] at hk;refine q3Z ?_;exact K.next ((i_5+1),(l_3.set i_5 ((cJ p.Domains i_5).Station))) hk a8 (.c (.c (.c (.c (.c .nil))))) (List.Sublist.refl _)
   ·have p6:=of_decide_eq_false h6;rw [eO a5,←hkk4] at hk; (try dsimp only at hk);refine eC ?_;exact cS l_3 hk (.c (.c .nil)) (List.Sublist.refl _)
 ·rintro l_1 hk;rw [←hk2] at hk; (try dsimp only at hk);refine T.seq ?_;have hq:=d5 hk;clear hk;obtain ⟨r28,hr28,hk⟩:=hq; (try dsimp only at hk);refine gM ?_;refine cU (cM rfl rfl rfl (fun w hw=>(hw.bor (i:=2) (j:=0) rfl rfl).elim fun F9 b=>have le1_2:=b.1.le;zd4 F9 w b.1.at_ l_1 v11 (b.2.toF rfl (fun _=>rfl)) r28 hr28)) ?_;refine fD ?_;refine eB ?_;refine q13 ?_;rintro _ _ ⟨g6,rfl,rfl⟩;refine q1H ?_;refine gF ?_;refine cL (dO 0 rfl rfl rfl Vec.len) ?_;refine eY (dI 2 rfl rfl rfl rfl Vec.len (Vec.len.trans Vec.len.symm)) ?_;refine fD ?_;refine fW ?_;obtain rfl:=Option.some.inj hk;exact kP 2 rfl rfl rfl Vec.len (fun w' hw=>⟨rfl,hw.isBelow⟩)
def zbO (p:GProblem)(stations:List Int):Option (GProblem×Int):=
 dH (fun (x_1:Bool)=>
  (bif x_1 then
   some ((GProblem.mk [] (GRules.mk [] [] [])),2)
   else
   (zbU stations).bind fun r28=>
   (zbA p).bind fun r33=>
   (bif !(zas r28.1 r33) then
    some ((GProblem.mk [] (GRules.mk [] [] [])),9)
    else
    dH (fun (s10:List GDomain×List GPair×List GLoad×List GCap)=>
     dH (fun (s23:List GDomain×List GPair×List GLoad×List GCap)=>
      dH (fun (s39:List GDomain×List GPair×List GLoad×List GCap)=>
       dH (fun (s55:List GDomain×List GPair×List GLoad×List GCap)=>
        some ((GProblem.mk s55.1 (GRules.mk s55.2.1 s55.2.2.1 s55.2.2.2)),0))
       (fun k55=>
        c6 (fun (i_61:Nat) (next60:(List GDomain×List GPair×List GLoad×List GCap)→Option (GProblem×Int)) (s60:List GDomain×List GPair×List GLoad×List GCap)=>
         (l8 r28.1 ((cJ p.Rules.Caps i_61).Station)).bind fun r125=>
         (bif r125 then
          ej (dl (s60.2.2.2++[(cJ p.Rules.Caps i_61)]).length 32) <|
          next60 (s60.1,s60.2.1,s60.2.2.1,(s60.2.2.2++[(cJ p.Rules.Caps i_61)]))
          else
          next60 (s60.1,s60.2.1,s60.2.2.1,s60.2.2.2)))
        (fun (s60:List GDomain×List GPair×List GLoad×List GCap)=>
         k55 (s60.1,s60.2.1,s60.2.2.1,s60.2.2.2)) (p.Rules.Caps.length - 0) 0 (s39.1,s39.2.1,s39.2.2.1,s39.2.2.2)))
      (fun k39=>
       c6 (fun (i_45:Nat) (next44:(List GDomain×List GPair×List GLoad×List GCap)→Option (GProblem×Int)) (s44:List GDomain×List GPair×List GLoad×List GCap)=>
        (l8 r28.1 ((cJ p.Rules.Loads i_45).To)).bind fun r98=>
        dH (fun (x_47:Bool)=>
         (bif x_47 then
          ej (dl (s44.2.2.1++[(cJ p.Rules.Loads i_45)]).length 40) <|
          next44 (s44.1,s44.2.1,(s44.2.2.1++[(cJ p.Rules.Loads i_45)]),s44.2.2.2)
          else
          next44 (s44.1,s44.2.1,s44.2.2.1,s44.2.2.2)))
        (fun k48=>
         (bif r98 then
          (l8 r28.1 ((cJ p.Rules.Loads i_45).From)).bind fun r103=>
          k48 r103
          else
          k48 false)))
       (fun (s44:List GDomain×List GPair×List GLoad×List GCap)=>
        k39 (s44.1,s44.2.1,s44.2.2.1,s44.2.2.2)) (p.Rules.Loads.length - 0) 0 (s23.1,s23.2.1,s23.2.2.1,s23.2.2.2)))
     (fun k23=>
      c6 (fun (i_29:Nat) (next28:(List GDomain×List GPair×List GLoad×List GCap)→Option (GProblem×Int)) (s28:List GDomain×List GPair×List GLoad×List GCap)=>
       (l8 r28.1 ((cJ p.Rules.Pairs i_29).A)).bind fun r71=>
       dH (fun (x_31:Bool)=>
        (bif x_31 then
         ej (dl (s28.2.1++[(cJ p.Rules.Pairs i_29)]).length 40) <|
         next28 (s28.1,(s28.2.1++[(cJ p.Rules.Pairs i_29)]),s28.2.2.1,s28.2.2.2)
         else
         next28 (s28.1,s28.2.1,s28.2.2.1,s28.2.2.2)))
       (fun k32=>
        (bif r71 then
         (l8 r28.1 ((cJ p.Rules.Pairs i_29).B)).bind fun r76=>
         k32 r76
         else
         k32 false)))
      (fun (s28:List GDomain×List GPair×List GLoad×List GCap)=>
       k23 (s28.1,s28.2.1,s28.2.2.1,s28.2.2.2)) (p.Rules.Pairs.length - 0) 0 (s10.1,s10.2.1,s10.2.2.1,s10.2.2.2)))
    (fun k10=>
     c6 (fun (i_16:Nat) (next15:(List GDomain×List GPair×List GLoad×List GCap)→Option (GProblem×Int)) (s15:List GDomain×List GPair×List GLoad×List GCap)=>
      (l8 r28.1 ((cJ p.Domains i_16).Station)).bind fun r47=>
      (bif r47 then
       ej (dl (((cJ p.Domains i_16).Channels).length) 8) <|
       ej (dl (s15.1++[(GDomain.mk ((cJ p.Domains i_16).Station) ((cJ p.Domains i_16).Channels))]).length 32) <|
       next15 ((s15.1++[(GDomain.mk ((cJ p.Domains i_16).Station) ((cJ p.Domains i_16).Channels))]),s15.2.1,s15.2.2.1,s15.2.2.2)
       else
       next15 (s15.1,s15.2.1,s15.2.2.1,s15.2.2.2)))
     (fun (s15:List GDomain×List GPair×List GLoad×List GCap)=>
      k10 (s15.1,s15.2.1,s15.2.2.1,s15.2.2.2)) (p.Domains.length - 0) 0 ([],[],[],[])))))
 (fun k2=>
  (bif !(gv p) then
   k2 true
   else
   (zaV stations).bind fun r22=>
   k2 (!r22)))
theorem zfB (F0:Frz)(w:World)(hF0:F0.At w)(p:GProblem)(vp_0:Value)(cp_0:List (List Value))(hp_0:SlD cK F0 vp_0 2 cp_0 p.Domains)(vp_1:Value)(hp_1:SlC F0 vp_1 5 (p.Rules.Pairs.map cO))(vp_2:Value)(hp_2:SlC F0 vp_2 5 (p.Rules.Loads.map cP))(vp_3:Value)(hp_3:SlC F0 vp_3 4 (p.Rules.Caps.map cR))(stations:List Int)(vstations:Value)(hstations:SlC F0 vstations 1 (stations.map eI))(r:GProblem×Int)(hr:zbO p stations=some r):Calls Tryz.prog 73 #[.agg [vp_0,vp_1,vp_2,vp_3].toArray,vstations] w fun e w'=>∃(y:Value×List (List Value)×Value×Value×Value) (G:Frz),(SlD cK G y.1 2 y.2.1 r.1.Domains∧SlC G y.2.2.1 5 (r.1.Rules.Pairs.map cO)∧SlC G y.2.2.2.1 5 (r.1.Rules.Loads.map cP)∧SlC G y.2.2.2.2 4 (r.1.Rules.Caps.map cR))∧e= .returned (.tuple #[.agg [y.1,y.2.2.1,y.2.2.2.1,y.2.2.2.2].toArray, .int .i64 r.2])∧Fx F0 w G w':=by
 have hk:=hr;unfold zbO at hk;haveI:=hp_0.1.oneC;haveI:=hp_1.oneC;haveI:=hp_2.oneC;haveI:=hp_3.oneC;haveI:=hstations.oneC;obtain ⟨S0,F1,rfl,hS0,hp0⟩:=ey hF0;refine dt Tryz.func73 rfl rfl rfl hp0 ?_;refine gp ?_;rintro _ _ ⟨g2,rfl,rfl⟩;refine fX ?_;rintro _ _ ⟨g4,rfl,rfl⟩;refine mJ ?_; (try dsimp only at hk);have hq:=d7 hk;clear hk;obtain ⟨k2,hk2,hk⟩:=hq; (try dsimp only at hk);refine cZ (ι:=Bool) (fun z=>[(1,vstations),(2, .pointer (some ⟨g2,0,none⟩)),(4, .pointer (some ⟨g4,0,none⟩)),(24, .bool z)]) (fun z=>[.row g4 29 [(.slice none 0 0),(.slice none 0 0),(.slice none 0 0),(.slice none 0 0)], .row g2 29 [vp_0,vp_1,vp_2,vp_3], .fr F1]) (fun z=>k2 z=some r) ?_ ?_
 ·refine my ?_;refine cU (cM rfl rfl rfl (fun w hw=>zkf (p:=p) (hw.fr (i:=2) rfl) ⟨hp_0,hp_1,hp_2,hp_3⟩)) ?_;refine kx ?_;refine dn rfl rfl rfl (fun h3=>?_) (fun h3=>?_)
  ·replace hk:=dr hk h3;refine kA ?_;exact q5w
  ·replace hk:=dq hk h3;refine di ?_;have hq:=d5 hk;clear hk;obtain ⟨r22,hr22,hk⟩:=hq;refine cU (cM rfl rfl rfl (fun w hw=>zcL _ w (hw.fr (i:=2) rfl) stations vstations hstations r22 hr22)) ?_;refine lc ?_;exact cS (!r22) hk (.c (.c (.c (.c .nil)))) (List.Sublist.refl _)
 ·rintro x_1 hk;rw [←hk2] at hk; (try dsimp only at hk);refine T.cond rfl (fun h4=>?_) (fun h4=>?_)
  ·replace hk:=dr hk h4;refine q4P ?_;refine j8 ?_;refine di ?_;refine kh ?_;obtain rfl:=Option.some.inj hk;exact q5G
  ·replace hk:=dq hk h4;refine jh ?_;have hq:=d5 hk;clear hk;obtain ⟨r28,hr28,hk⟩:=hq; (try dsimp only at hk);refine gM ?_;refine cU (cM rfl rfl rfl (fun w hw=>zd4 _ w (hw.fr (i:=2) rfl) stations vstations hstations r28 hr28)) ?_;refine fD ?_;refine eB ?_;refine q13 ?_;rintro _ _ ⟨g6,rfl,rfl⟩;refine q1H ?_;refine mJ ?_;have hq:=d5 hk;clear hk;obtain ⟨r33,hr33,hk⟩:=hq; (try dsimp only at hk);refine dD (sN 0 2 (.eff 2 (.eff 3 (.still 4 .done)))) _ a7 (List.Sublist.refl _) ?_;refine cQ rfl (dO 0 rfl rfl rfl Vec.len) ?_;refine cQ rfl (dO 2) ?_;refine dy ?_;refine cW rfl (Wt.none) rfl rfl (cM rfl rfl rfl (fun w hw=>zfS _ w (hw.fr (i:=3) rfl) p vp_0 cp_0 hp_0 vp_1 hp_1 vp_2 hp_2 vp_3 hp_3 r33 hr33)) ?_;refine iJ ?_;refine dy ?_;refine cW rfl (Wt.none) rfl rfl (cM rfl rfl rfl (fun w hw=>zcO _ w (hw.fr (i:=3) rfl) r28.1 r33)) ?_;refine iJ ?_;refine kg ?_;refine T.cond rfl (fun h5=>?_) (fun h5=>?_)
   ·replace hk:=dr hk h5;refine q4P ?_;refine q2f ?_;refine di ?_;refine kh ?_;obtain rfl:=Option.some.inj hk;exact gZ 1 rfl rfl rfl rfl rfl (fun w' hw=>⟨((.slice none 0 0),[],(.slice none 0 0),(.slice none 0 0),(.slice none 0 0)),F1.toFrz,⟨(SlD.nil _ _ 2),(SlC.nil _ 5),(SlC.nil _ 5),(SlC.nil _ 4)⟩,rfl,eJ hw (i:=3) rfl hS0 (Frz.Le.refl _)⟩)
   ·replace hk:=dq hk h5;refine iO ?_;refine fX ?_;rintro _ _ ⟨g8,rfl,rfl⟩;refine TL.slNil 98 2 ?_;refine TL.slNil 100 5 ?_;refine TL.slNil 102 5 ?_;refine TL.slNil 104 4 ?_;refine jq ?_;refine q3s ?_;refine q2J ?_;have hm39:p.Domains.length≤9223372036854775807:=hp_0.2.1▸hp_0.1.max;refine dA ?_;have hq:=d7 hk;clear hk;obtain ⟨k10,hk10,hk⟩:=hq; (try dsimp only at hk);refine cZ (ι:=List GDomain×Value×List (List Value)×List GPair×Value×List GLoad×Value×List GCap×Value×FzB w (fun _=>False) S0) (fun z=>[(2, .pointer (some ⟨g2,0,none⟩)),(4, .pointer (some ⟨g4,0,none⟩)),(6, .pointer (some ⟨g6,0,none⟩)),(8, .pointer (some ⟨g8,0,none⟩))]) (fun z=>[.sl z.2.1 98 2 z.1.length z.2.2.1.flatten, .sl z.2.2.2.2.1 100 5 z.2.2.2.1.length (z.2.2.2.1.flatMap cO), .sl z.2.2.2.2.2.2.1 102 5 z.2.2.2.2.2.1.length (z.2.2.2.2.2.1.flatMap cP), .sl z.2.2.2.2.2.2.2.2.1 104 4 z.2.2.2.2.2.2.2.1.length (z.2.2.2.2.2.2.2.1.flatMap cR), .row g8 29 [z.2.1,z.2.2.2.2.1,z.2.2.2.2.2.2.1,z.2.2.2.2.2.2.2.2.1], .row g6 83 (r28.1.words.1.map U), .row g4 29 [(.slice none 0 0),(.slice none 0 0),(.slice none 0 0),(.slice none 0 0)], .row g2 29 [vp_0,vp_1,vp_2,vp_3], .fr z.2.2.2.2.2.2.2.2.2]) (fun z=>k10 (z.1,z.2.2.2.1,z.2.2.2.2.2.1,z.2.2.2.2.2.2.2.1)=some r∧OwnD cK z.2.2.2.2.2.2.2.2.2.toFrz 2 z.2.2.1 z.1∧OneC z.2.1∧OneC z.2.2.2.2.1∧OneC z.2.2.2.2.2.2.1∧OneC z.2.2.2.2.2.2.2.2.1∧F1.toFrz.Le z.2.2.2.2.2.2.2.2.2.toFrz) ?_ ?_
    ·have hq:=eS hk;clear hk;obtain ⟨f15,kk15,hf15,hkk15,hk⟩:=hq;refine eA ?_;refine T.pick [3,2,1,0,4,5,6,7,8] rfl a6 ?_;refine T.loop (ι:=Nat×List GDomain×Value×List (List Value)×List GPair×Value×List GLoad×Value×List GCap×Value×FzB w (fun _=>False) S0) (fun z=>[(2, .pointer (some ⟨g2,0,none⟩)),(4, .pointer (some ⟨g4,0,none⟩)),(6, .pointer (some ⟨g6,0,none⟩)),(8, .pointer (some ⟨g8,0,none⟩)),(38,vp_0),(39, .int .i64 (p.Domains.length:Int)),(40, .int .i64 (z.1:Int))]) (fun z=>[.sl z.2.2.1 98 2 z.2.1.length z.2.2.2.1.flatten, .sl z.2.2.2.2.2.1 100 5 z.2.2.2.2.1.length (z.2.2.2.2.1.flatMap cO), .sl z.2.2.2.2.2.2.2.1 102 5 z.2.2.2.2.2.2.1.length (z.2.2.2.2.2.2.1.flatMap cP), .sl z.2.2.2.2.2.2.2.2.2.1 104 4 z.2.2.2.2.2.2.2.2.1.length (z.2.2.2.2.2.2.2.2.1.flatMap cR), .row g8 29 [z.2.2.1,z.2.2.2.2.2.1,z.2.2.2.2.2.2.2.1,z.2.2.2.2.2.2.2.2.2.1], .row g6 83 (r28.1.words.1.map U), .row g4 29 [(.slice none 0 0),(.slice none 0 0),(.slice none 0 0),(.slice none 0 0)], .row g2 29 [vp_0,vp_1,vp_2,vp_3], .fr z.2.2.2.2.2.2.2.2.2.2]) (fun z=>c6 f15 kk15 (p.Domains.length - z.1) z.1 (z.2.1,z.2.2.2.2.1,z.2.2.2.2.2.2.1,z.2.2.2.2.2.2.2.2.1)=some r∧OwnD cK z.2.2.2.2.2.2.2.2.2.2.toFrz 2 z.2.2.2.1 z.2.1∧OneC z.2.2.1∧OneC z.2.2.2.2.2.1∧OneC z.2.2.2.2.2.2.2.1∧OneC z.2.2.2.2.2.2.2.2.2.1∧F1.toFrz.Le z.2.2.2.2.2.2.2.2.2.2.toFrz) (fun z=>p.Domains.length - z.1) (0,[],(.slice none 0 0),[],[],(.slice none 0 0),[],(.slice none 0 0),[],(.slice none 0 0),F1) ?_ ?_ ?_ ?_
     ·exact q5H
     ·exact q4Y
     ·exact eh
     ·rintro ⟨i_16,c_11,vc_11,cc_11,c_12,vc_12,c_13,vc_13,c_14,vc_14,F3⟩ ⟨hk,hc_11,oc_11,oc_12,oc_13,oc_14,le1_3⟩; (try dsimp only at *);refine fb ?_;refine T.cond rfl (fun h17=>?_) (fun h17=>?_)
      ·have p17:=of_decide_eq_true h17;rw [eQ a5] at hk;generalize hn15:c6 f15 kk15 (p.Domains.length - (i_16+1)) (i_16+1)=next15 at hk;rw [←hf15] at hk; (try dsimp only at hk);refine fh ?_;refine cL (c8 (i:=i_16) rfl rfl rfl (SlD.mono (rep:=cK) (fun _ _ _ _=>GDomain.mono) hp_0 le1_3).1 (SlD.mono (rep:=cK) (fun _ _ _ _=>GDomain.mono) hp_0 le1_3).2.1 rfl a5) ?_;refine cL (kO 8 (i:=i_16) (j:=0) rfl rfl rfl (SlD.mono (rep:=cK) (fun _ _ _ _=>GDomain.mono) hp_0 le1_3).1 (SlD.mono (rep:=cK) (fun _ _ _ _=>GDomain.mono) hp_0 le1_3).2.1 a5 rfl (fL ((SlD.mono (rep:=cK) (fun _ _ _ _=>GDomain.mono) hp_0 le1_3).2.2 i_16 a5)) rfl) ?_;have hd43_1:=(GDomain.c1 ((SlD.mono (rep:=cK) (fun _ _ _ _=>GDomain.mono) hp_0 le1_3).2.2 i_16 a5)).2;haveI:=hd43_1.oneC;refine fX ?_;rintro _ _ ⟨g10,rfl,rfl⟩;refine kK ?_;have hq:=d5 hk;clear hk;obtain ⟨r47,hr47,hk⟩:=hq; (try dsimp only at hk);refine fP ?_;refine q21 ?_;refine cU (cM rfl rfl rfl (fun w hw=>zaz _ w (hw.fr (i:=9) rfl) r28.1 ((cJ p.Domains i_16).Station) r47 hr47)) ?_;refine nJ ?_;refine T.cond rfl (fun h18=>?_) (fun h18=>?_)
       ·replace hk:=dr hk h18;have hq:(dl (((cJ p.Domains i_16).Channels).length) 8)∧_:=fu hk;clear hk;obtain ⟨g54,hk⟩:=hq;have hq:(dl (c_11++[(GDomain.mk ((cJ p.Domains i_16).Station) ((cJ p.Domains i_16).Channels))]).length 32)∧_:=fu hk;clear hk;obtain ⟨g57,hk⟩:=hq; (try dsimp only at hk);refine dD (.still 0 (.still 2 (.still 3 (.still 4 (.still 5 (.two 1 6 (.eff 6 (.still 7 (.eff 8 (.eff 9 (.still 10 (.eff 11 .done)))))) (.still 7 (.two 1 8 (.eff 8 (.eff 9 (.still 10 (.eff 11 .done)))) (.eff 1 (.eff 9 (.still 10 (.eff 11 .done)))))))))))) [.row g10 98 [.int .i64 ((cJ p.Domains i_16).Station),(cJ (cJ cp_0 i_16) 1)], .sl vc_12 100 5 c_12.length (c_12.flatMap cO), .sl vc_13 102 5 c_13.length (c_13.flatMap cP), .sl vc_14 104 4 c_14.length (c_14.flatMap cR), .row g6 83 (r28.1.words.1.map U), .row g4 29 [(.slice none 0 0),(.slice none 0 0),(.slice none 0 0),(.slice none 0 0)], .row g2 29 [vp_0,vp_1,vp_2,vp_3], .fr F3] a7 Sx ?_;refine fH ?_;refine fQ ?_;refine fQ ?_;refine TS.two ?_ ?_
        ·refine q2a ?_;refine q4b ?_;rintro _ _ ⟨v54_,F4,le3_4,hf54,hq,rfl⟩;obtain rfl:=hq.symm;have le1_4:=le1_3.trans le3_4;haveI:=hf54.oneC;refine ⟨(fun w hw=>(hw.frLe (i:=9) rfl le3_4).sub Sx),?_⟩;refine cQ rfl (Yv.build) ?_;refine dy ?_;refine lH ?_;rintro _ _ ⟨g56,rfl,rfl⟩;have hl56:OwnD cK F4.toFrz 2 [[.int .i64 ((cJ p.Domains i_16).Station),v54_]] [(GDomain.mk ((cJ p.Domains i_16).Station) ((cJ p.Domains i_16).Channels))]:=(c9 (OwnD.nil _ _ 2) ⟨_,rfl,hf54⟩);refine ⟨(fun w hw=>(hw.frLe (i:=10) rfl le3_4).sub Sx),?_⟩;refine q1y ?_;rintro v57 _ ⟨hv57,rfl⟩;have ho57:OwnD cK F4.toFrz 2 (cc_11++[[.int .i64 ((cJ p.Domains i_16).Station),v54_]]) (c_11++[(GDomain.mk ((cJ p.Domains i_16).Station) ((cJ p.Domains i_16).Channels))]):=(c9 (OwnD.mono (rep:=cK) (fun _ _ _ _=>GDomain.mono) hc_11 le3_4) ⟨_,rfl,hf54⟩);refine ⟨(fun w hw=>(hw.frLe (i:=10) rfl le3_4).sub Sx),?_⟩;refine q3L ?_;refine ⟨(fun w hw=>(hw.frLe (i:=10) rfl le3_4).sub Sx),?_⟩;refine q1J ?_;rw [←hn15] at hk;refine q34 ?_;exact K.next ((i_16+1),(c_11++[(GDomain.mk ((cJ p.Domains i_16).Station) ((cJ p.Domains i_16).Channels))]),v57,(cc_11++[[.int .i64 ((cJ p.Domains i_16).Station),v54_]]),c_12,vc_12,c_13,vc_13,c_14,vc_14,F4) ⟨hk,ho57,inferInstance,inferInstance,inferInstance,inferInstance,le1_4⟩ a8 (.c (.c (.c (.c (.c (.c (.c .nil))))))) (List.Sublist.refl _)
        ·refine q4b ?_;rintro _ _ ⟨v54_,F5,le3_5,hf54,hq,rfl⟩;obtain rfl:=hq.symm;have le1_5:=le1_3.trans le3_5;haveI:=hf54.oneC;refine ⟨(fun w hw=>(hw.frLe (i:=9) rfl le3_5).sub Sx),?_⟩;refine cQ rfl (Yv.build) ?_;refine TS.two ?_ ?_
         ·refine fv rfl (Wt.none) rfl rfl (dc 5) (fun w hw=>(hw.frLe (i:=9) rfl le3_5).sub Sx) ?_;refine dy ?_;refine lH ?_;rintro _ _ ⟨g56,rfl,rfl⟩;have hl56:OwnD cK F5.toFrz 2 [[.int .i64 ((cJ p.Domains i_16).Station),v54_]] [(GDomain.mk ((cJ p.Domains i_16).Station) ((cJ p.Domains i_16).Channels))]:=(c9 (OwnD.nil _ _ 2) ⟨_,rfl,hf54⟩);refine q2T ?_;refine q1y ?_;rintro v57 _ ⟨hv57,rfl⟩;have ho57:OwnD cK F5.toFrz 2 (cc_11++[[.int .i64 ((cJ p.Domains i_16).Station),v54_]]) (c_11++[(GDomain.mk ((cJ p.Domains i_16).Station) ((cJ p.Domains i_16).Channels))]):=(c9 (OwnD.mono (rep:=cK) (fun _ _ _ _=>GDomain.mono) hc_11 le3_5) ⟨_,rfl,hf54⟩);refine q2T ?_;refine q3L ?_;refine q2T ?_;refine q1J ?_;rw [←hn15] at hk;refine q34 ?_;exact q5R
         ·refine lH ?_;rintro _ _ ⟨g56,rfl,rfl⟩;have hl56:OwnD cK F5.toFrz 2 [[.int .i64 ((cJ p.Domains i_16).Station),v54_]] [(GDomain.mk ((cJ p.Domains i_16).Station) ((cJ p.Domains i_16).Channels))]:=(c9 (OwnD.nil _ _ 2) ⟨_,rfl,hf54⟩);refine q2T ?_;refine dy ?_;refine fv rfl (Wt.none) rfl rfl (dc 6) (fun w hw=>(hw.frLe (i:=10) rfl le3_5).sub Sx) ?_;refine q1y ?_;rintro v57 _ ⟨hv57,rfl⟩;have ho57:OwnD cK F5.toFrz 2 (cc_11++[[.int .i64 ((cJ p.Domains i_16).Station),v54_]]) (c_11++[(GDomain.mk ((cJ p.Domains i_16).Station) ((cJ p.Domains i_16).Channels))]):=(c9 (OwnD.mono (rep:=cK) (fun _ _ _ _=>GDomain.mono) hc_11 le3_5) ⟨_,rfl,hf54⟩);refine q2T ?_;refine q3L ?_;refine q2T ?_;refine q1J ?_;rw [←hn15] at hk;refine q34 ?_;exact q5R
       ·replace hk:=dq hk h18;refine iz ?_;rw [←hn15] at hk;refine K.pick [1,2,3,4,5,6,7,8,9] rfl a6 ?_;exact K.next ((i_16+1),c_11,vc_11,cc_11,c_12,vc_12,c_13,vc_13,c_14,vc_14,F3) ⟨hk,hc_11,inferInstance,inferInstance,inferInstance,inferInstance,le1_3⟩ a8 (.c (.c (.c (.c (.c (.c (.c .nil))))))) (List.Sublist.refl _)
      ·have p17:=of_decide_eq_false h17;rw [eO a5,←hkk15] at hk; (try dsimp only at hk);refine eC ?_;exact cS (c_11,vc_11,cc_11,c_12,vc_12,c_13,vc_13,c_14,vc_14,F3) ⟨hk,hc_11,inferInstance,inferInstance,inferInstance,inferInstance,le1_3⟩ (.c (.c (.c (.c .nil)))) (List.Sublist.refl _)
    ·rintro ⟨c_6,vc_6,cc_6,c_7,vc_7,c_8,vc_8,c_9,vc_9,F2⟩ ⟨hk,hc_6,oc_6,oc_7,oc_8,oc_9,le1_2⟩; (try dsimp only at *);rw [←hk10] at hk; (try dsimp only at hk);refine T.seq (dh ?_);refine fc ?_;refine q3s ?_;refine cL (df rfl rfl (SlC.mono hp_1 le1_2) (List.length_map _)) ?_;have hm63:p.Rules.Pairs.length≤9223372036854775807:=(List.length_map _)▸(SlC.mono hp_1 le1_2).max;refine dA ?_;have hq:=d7 hk;clear hk;obtain ⟨k23,hk23,hk⟩:=hq; (try dsimp only at hk);refine cZ (ι:=List GDomain×Value×List (List Value)×List GPair×Value×List GLoad×Value×List GCap×Value) (fun z=>[(2, .pointer (some ⟨g2,0,none⟩)),(4, .pointer (some ⟨g4,0,none⟩)),(6, .pointer (some ⟨g6,0,none⟩)),(8, .pointer (some ⟨g8,0,none⟩))]) (fun z=>[.sl z.2.1 98 2 z.1.length z.2.2.1.flatten, .sl z.2.2.2.2.1 100 5 z.2.2.2.1.length (z.2.2.2.1.flatMap cO), .sl z.2.2.2.2.2.2.1 102 5 z.2.2.2.2.2.1.length (z.2.2.2.2.2.1.flatMap cP), .sl z.2.2.2.2.2.2.2.2 104 4 z.2.2.2.2.2.2.2.1.length (z.2.2.2.2.2.2.2.1.flatMap cR), .row g8 29 [z.2.1,z.2.2.2.2.1,z.2.2.2.2.2.2.1,z.2.2.2.2.2.2.2.2], .row g6 83 (r28.1.words.1.map U), .row g4 29 [(.slice none 0 0),(.slice none 0 0),(.slice none 0 0),(.slice none 0 0)], .row g2 29 [vp_0,vp_1,vp_2,vp_3], .fr F2]) (fun z=>k23 (z.1,z.2.2.2.1,z.2.2.2.2.2.1,z.2.2.2.2.2.2.2.1)=some r∧OwnD cK F2.toFrz 2 z.2.2.1 z.1∧OneC z.2.1∧OneC z.2.2.2.2.1∧OneC z.2.2.2.2.2.2.1∧OneC z.2.2.2.2.2.2.2.2) ?_ ?_
     ·have hq:=eS hk;clear hk;obtain ⟨f28,kk28,hf28,hkk28,hk⟩:=hq;refine eA ?_;refine T.loop (ι:=Nat×List GDomain×Value×List (List Value)×List GPair×Value×List GLoad×Value×List GCap×Value) (fun z=>[(2, .pointer (some ⟨g2,0,none⟩)),(4, .pointer (some ⟨g4,0,none⟩)),(6, .pointer (some ⟨g6,0,none⟩)),(8, .pointer (some ⟨g8,0,none⟩)),(62,vp_1),(63, .int .i64 (p.Rules.Pairs.length:Int)),(64, .int .i64 (z.1:Int))]) (fun z=>[.sl z.2.2.1 98 2 z.2.1.length z.2.2.2.1.flatten, .sl z.2.2.2.2.2.1 100 5 z.2.2.2.2.1.length (z.2.2.2.2.1.flatMap cO), .sl z.2.2.2.2.2.2.2.1 102 5 z.2.2.2.2.2.2.1.length (z.2.2.2.2.2.2.1.flatMap cP), .sl z.2.2.2.2.2.2.2.2.2 104 4 z.2.2.2.2.2.2.2.2.1.length (z.2.2.2.2.2.2.2.2.1.flatMap cR), .row g8 29 [z.2.2.1,z.2.2.2.2.2.1,z.2.2.2.2.2.2.2.1,z.2.2.2.2.2.2.2.2.2], .row g6 83 (r28.1.words.1.map U), .row g4 29 [(.slice none 0 0),(.slice none 0 0),(.slice none 0 0),(.slice none 0 0)], .row g2 29 [vp_0,vp_1,vp_2,vp_3], .fr F2]) (fun z=>c6 f28 kk28 (p.Rules.Pairs.length - z.1) z.1 (z.2.1,z.2.2.2.2.1,z.2.2.2.2.2.2.1,z.2.2.2.2.2.2.2.2.1)=some r∧OwnD cK F2.toFrz 2 z.2.2.2.1 z.2.1∧OneC z.2.2.1∧OneC z.2.2.2.2.2.1∧OneC z.2.2.2.2.2.2.2.1∧OneC z.2.2.2.2.2.2.2.2.2) (fun z=>p.Rules.Pairs.length - z.1) (0,c_6,vc_6,cc_6,c_7,vc_7,c_8,vc_8,c_9,vc_9) ?_ ?_ ?_ ?_
      ·exact ⟨hk,hc_6,inferInstance,inferInstance,inferInstance,inferInstance⟩
      ·exact q4Y
      ·exact eh
      ·rintro ⟨i_29,c_24,vc_24,cc_24,c_25,vc_25,c_26,vc_26,c_27,vc_27⟩ ⟨hk,hc_24,oc_24,oc_25,oc_26,oc_27⟩; (try dsimp only at *);refine fb ?_;refine T.cond rfl (fun h30=>?_) (fun h30=>?_)
       ·have p30:=of_decide_eq_true h30;rw [eQ a5] at hk;generalize hn28:c6 f28 kk28 (p.Rules.Pairs.length - (i_29+1)) (i_29+1)=next28 at hk;rw [←hf28] at hk; (try dsimp only at hk);refine fh ?_;refine cL (c8 (i:=i_29) rfl rfl rfl (SlC.mono hp_1 le1_2) (List.length_map _) rfl a5) ?_;refine cL (eg 8 (i:=i_29) rfl rfl rfl (SlC.mono hp_1 le1_2) a5) ?_;refine fX ?_;rintro _ _ ⟨g12,rfl,rfl⟩;refine kK ?_;have hq:=d5 hk;clear hk;obtain ⟨r71,hr71,hk⟩:=hq; (try dsimp only at hk);have hq:=d7 hk;clear hk;obtain ⟨k32,hk32,hk⟩:=hq; (try dsimp only at hk);refine cZ (ι:=Bool) (fun z=>[(2, .pointer (some ⟨g2,0,none⟩)),(4, .pointer (some ⟨g4,0,none⟩)),(6, .pointer (some ⟨g6,0,none⟩)),(8, .pointer (some ⟨g8,0,none⟩)),(12, .pointer (some ⟨g12,0,none⟩)),(62,vp_1),(63, .int .i64 (p.Rules.Pairs.length:Int)),(64, .int .i64 (i_29:Int)),(77, .bool z)]) (fun z=>[.row g12 100 [.int .i64 ((cJ p.Rules.Pairs i_29).A), .int .i64 ((cJ p.Rules.Pairs i_29).B), .int .i64 ((cJ p.Rules.Pairs i_29).Offset), .int .i64 ((cJ p.Rules.Pairs i_29).Low), .int .i64 ((cJ p.Rules.Pairs i_29).High)], .sl vc_24 98 2 c_24.length cc_24.flatten, .sl vc_25 100 5 c_25.length (c_25.flatMap cO), .sl vc_26 102 5 c_26.length (c_26.flatMap cP), .sl vc_27 104 4 c_27.length (c_27.flatMap cR), .row g8 29 [vc_24,vc_25,vc_26,vc_27], .row g6 83 (r28.1.words.1.map U), .row g4 29 [(.slice none 0 0),(.slice none 0 0),(.slice none 0 0),(.slice none 0 0)], .row g2 29 [vp_0,vp_1,vp_2,vp_3], .fr F2]) (fun z=>k32 z=some r) ?_ ?_
        ·refine fP ?_;refine q21 ?_;refine cU (cM rfl rfl rfl (fun w hw=>zaz _ w (hw.fr (i:=9) rfl) r28.1 ((cJ p.Rules.Pairs i_29).A) r71 hr71)) ?_;refine kq ?_;refine dn rfl rfl rfl (fun h33=>?_) (fun h33=>?_)
         ·replace hk:=dr hk h33;refine q21 ?_;have hq:=d5 hk;clear hk;obtain ⟨r76,hr76,hk⟩:=hq;refine cU (cM rfl rfl rfl (fun w hw=>zaz _ w (hw.fr (i:=9) rfl) r28.1 ((cJ p.Rules.Pairs i_29).B) r76 hr76)) ?_;refine kq ?_;refine eW ?_;exact cS r76 hk (.c (.c (.c (.c (.c (.c (.c (.c (.c .nil))))))))) (List.Sublist.refl _)
         ·replace hk:=dq hk h33;refine lg ?_;exact q5S
        ·rintro x_31 hk;rw [←hk32] at hk; (try dsimp only at hk);refine T.cond rfl (fun h34=>?_) (fun h34=>?_)
         ·replace hk:=dr hk h34;have hq:(dl (c_25++[(cJ p.Rules.Pairs i_29)]).length 40)∧_:=fu hk;clear hk;obtain ⟨g83,hk⟩:=hq; (try dsimp only at hk);refine q3y ?_;rintro _ _ ⟨g82,rfl,rfl⟩;refine cU (ff 3 0 rfl rfl rfl rfl rfl rfl (kd (ys:=[(cJ p.Rules.Pairs i_29)])) (zcj (enc:=cO) (xs:=c_25) (ys:=[(cJ p.Rules.Pairs i_29)])) g83 a6) ?_;rintro v83 _ ⟨hv83,rfl⟩;refine q3E ?_;rw [←hn28] at hk;refine q34 ?_;exact K.next ((i_29+1),c_24,vc_24,cc_24,(c_25++[(cJ p.Rules.Pairs i_29)]),v83,c_26,vc_26,c_27,vc_27) ⟨hk,hc_24,inferInstance,inferInstance,inferInstance,inferInstance⟩ a8 (.c (.c (.c (.c (.c (.c (.c .nil))))))) (List.Sublist.refl _)
         ·replace hk:=dq hk h34;refine iz ?_;rw [←hn28] at hk;refine K.pick [1,2,3,4,5,6,7,8,9] rfl a6 ?_;exact K.next ((i_29+1),c_24,vc_24,cc_24,c_25,vc_25,c_26,vc_26,c_27,vc_27) ⟨hk,hc_24,inferInstance,inferInstance,inferInstance,inferInstance⟩ a8 (.c (.c (.c (.c (.c (.c (.c .nil))))))) (List.Sublist.refl _)
       ·have p30:=of_decide_eq_false h30;rw [eO a5,←hkk28] at hk; (try dsimp only at hk);refine eC ?_;exact cS (c_24,vc_24,cc_24,c_25,vc_25,c_26,vc_26,c_27,vc_27) ⟨hk,hc_24,inferInstance,inferInstance,inferInstance,inferInstance⟩ (.c (.c (.c (.c .nil)))) (List.Sublist.refl _)
     ·rintro ⟨c_19,vc_19,cc_19,c_20,vc_20,c_21,vc_21,c_22,vc_22⟩ ⟨hk,hc_19,oc_19,oc_20,oc_21,oc_22⟩; (try dsimp only at *);rw [←hk23] at hk; (try dsimp only at hk);refine T.seq (dh ?_);refine fc ?_;refine q3s ?_;refine cL (df rfl rfl (SlC.mono hp_2 le1_2) (List.length_map _)) ?_;have hm90:p.Rules.Loads.length≤9223372036854775807:=(List.length_map _)▸(SlC.mono hp_2 le1_2).max;refine dA ?_;have hq:=d7 hk;clear hk;obtain ⟨k39,hk39,hk⟩:=hq; (try dsimp only at hk);refine cZ (ι:=List GDomain×Value×List (List Value)×List GPair×Value×List GLoad×Value×List GCap×Value) (fun z=>[(2, .pointer (some ⟨g2,0,none⟩)),(4, .pointer (some ⟨g4,0,none⟩)),(6, .pointer (some ⟨g6,0,none⟩)),(8, .pointer (some ⟨g8,0,none⟩))]) (fun z=>[.sl z.2.1 98 2 z.1.length z.2.2.1.flatten, .sl z.2.2.2.2.1 100 5 z.2.2.2.1.length (z.2.2.2.1.flatMap cO), .sl z.2.2.2.2.2.2.1 102 5 z.2.2.2.2.2.1.length (z.2.2.2.2.2.1.flatMap cP), .sl z.2.2.2.2.2.2.2.2 104 4 z.2.2.2.2.2.2.2.1.length (z.2.2.2.2.2.2.2.1.flatMap cR), .row g8 29 [z.2.1,z.2.2.2.2.1,z.2.2.2.2.2.2.1,z.2.2.2.2.2.2.2.2], .row g6 83 (r28.1.words.1.map U), .row g4 29 [(.slice none 0 0),(.slice none 0 0),(.slice none 0 0),(.slice none 0 0)], .row g2 29 [vp_0,vp_1,vp_2,vp_3], .fr F2]) (fun z=>k39 (z.1,z.2.2.2.1,z.2.2.2.2.2.1,z.2.2.2.2.2.2.2.1)=some r∧OwnD cK F2.toFrz 2 z.2.2.1 z.1∧OneC z.2.1∧OneC z.2.2.2.2.1∧OneC z.2.2.2.2.2.2.1∧OneC z.2.2.2.2.2.2.2.2) ?_ ?_
      ·have hq:=eS hk;clear hk;obtain ⟨f44,kk44,hf44,hkk44,hk⟩:=hq;refine eA ?_;refine T.loop (ι:=Nat×List GDomain×Value×List (List Value)×List GPair×Value×List GLoad×Value×List GCap×Value) (fun z=>[(2, .pointer (some ⟨g2,0,none⟩)),(4, .pointer (some ⟨g4,0,none⟩)),(6, .pointer (some ⟨g6,0,none⟩)),(8, .pointer (some ⟨g8,0,none⟩)),(89,vp_2),(90, .int .i64 (p.Rules.Loads.length:Int)),(91, .int .i64 (z.1:Int))]) (fun z=>[.sl z.2.2.1 98 2 z.2.1.length z.2.2.2.1.flatten, .sl z.2.2.2.2.2.1 100 5 z.2.2.2.2.1.length (z.2.2.2.2.1.flatMap cO), .sl z.2.2.2.2.2.2.2.1 102 5 z.2.2.2.2.2.2.1.length (z.2.2.2.2.2.2.1.flatMap cP), .sl z.2.2.2.2.2.2.2.2.2 104 4 z.2.2.2.2.2.2.2.2.1.length (z.2.2.2.2.2.2.2.2.1.flatMap cR), .row g8 29 [z.2.2.1,z.2.2.2.2.2.1,z.2.2.2.2.2.2.2.1,z.2.2.2.2.2.2.2.2.2], .row g6 83 (r28.1.words.1.map U), .row g4 29 [(.slice none 0 0),(.slice none 0 0),(.slice none 0 0),(.slice none 0 0)], .row g2 29 [vp_0,vp_1,vp_2,vp_3], .fr F2]) (fun z=>c6 f44 kk44 (p.Rules.Loads.length - z.1) z.1 (z.2.1,z.2.2.2.2.1,z.2.2.2.2.2.2.1,z.2.2.2.2.2.2.2.2.1)=some r∧OwnD cK F2.toFrz 2 z.2.2.2.1 z.2.1∧OneC z.2.2.1∧OneC z.2.2.2.2.2.1∧OneC z.2.2.2.2.2.2.2.1∧OneC z.2.2.2.2.2.2.2.2.2) (fun z=>p.Rules.Loads.length - z.1) (0,c_19,vc_19,cc_19,c_20,vc_20,c_21,vc_21,c_22,vc_22) ?_ ?_ ?_ ?_
       ·exact ⟨hk,hc_19,inferInstance,inferInstance,inferInstance,inferInstance⟩
       ·exact q4Y
       ·exact eh
       ·rintro ⟨i_45,c_40,vc_40,cc_40,c_41,vc_41,c_42,vc_42,c_43,vc_43⟩ ⟨hk,hc_40,oc_40,oc_41,oc_42,oc_43⟩; (try dsimp only at *);refine fb ?_;refine T.cond rfl (fun h46=>?_) (fun h46=>?_)
        ·have p46:=of_decide_eq_true h46;rw [eQ a5] at hk;generalize hn44:c6 f44 kk44 (p.Rules.Loads.length - (i_45+1)) (i_45+1)=next44 at hk;rw [←hf44] at hk; (try dsimp only at hk);refine fh ?_;refine cL (c8 (i:=i_45) rfl rfl rfl (SlC.mono hp_2 le1_2) (List.length_map _) rfl a5) ?_;refine cL (eg 8 (i:=i_45) rfl rfl rfl (SlC.mono hp_2 le1_2) a5) ?_;refine fX ?_;rintro _ _ ⟨g14,rfl,rfl⟩;refine kK ?_;have hq:=d5 hk;clear hk;obtain ⟨r98,hr98,hk⟩:=hq; (try dsimp only at hk);have hq:=d7 hk;clear hk;obtain ⟨k48,hk48,hk⟩:=hq; (try dsimp only at hk);refine cZ (ι:=Bool) (fun z=>[(2, .pointer (some ⟨g2,0,none⟩)),(4, .pointer (some ⟨g4,0,none⟩)),(6, .pointer (some ⟨g6,0,none⟩)),(8, .pointer (some ⟨g8,0,none⟩)),(14, .pointer (some ⟨g14,0,none⟩)),(89,vp_2),(90, .int .i64 (p.Rules.Loads.length:Int)),(91, .int .i64 (i_45:Int)),(104, .bool z)]) (fun z=>[.row g14 102 [.int .i64 ((cJ p.Rules.Loads i_45).To), .int .i64 ((cJ p.Rules.Loads i_45).From), .int .i64 ((cJ p.Rules.Loads i_45).Weight), .int .i64 ((cJ p.Rules.Loads i_45).Low), .int .i64 ((cJ p.Rules.Loads i_45).High)], .sl vc_40 98 2 c_40.length cc_40.flatten, .sl vc_41 100 5 c_41.length (c_41.flatMap cO), .sl vc_42 102 5 c_42.length (c_42.flatMap cP), .sl vc_43 104 4 c_43.length (c_43.flatMap cR), .row g8 29 [vc_40,vc_41,vc_42,vc_43], .row g6 83 (r28.1.words.1.map U), .row g4 29 [(.slice none 0 0),(.slice none 0 0),(.slice none 0 0),(.slice none 0 0)], .row g2 29 [vp_0,vp_1,vp_2,vp_3], .fr F2]) (fun z=>k48 z=some r) ?_ ?_
         ·refine fP ?_;refine q21 ?_;refine cU (cM rfl rfl rfl (fun w hw=>zaz _ w (hw.fr (i:=9) rfl) r28.1 ((cJ p.Rules.Loads i_45).To) r98 hr98)) ?_;refine kq ?_;refine dn rfl rfl rfl (fun h49=>?_) (fun h49=>?_)
          ·replace hk:=dr hk h49;refine q21 ?_;have hq:=d5 hk;clear hk;obtain ⟨r103,hr103,hk⟩:=hq;refine cU (cM rfl rfl rfl (fun w hw=>zaz _ w (hw.fr (i:=9) rfl) r28.1 ((cJ p.Rules.Loads i_45).From) r103 hr103)) ?_;refine kq ?_;refine eW ?_;exact cS r103 hk (.c (.c (.c (.c (.c (.c (.c (.c (.c .nil))))))))) (List.Sublist.refl _)
          ·replace hk:=dq hk h49;refine lg ?_;exact q5S
         ·rintro x_47 hk;rw [←hk48] at hk; (try dsimp only at hk);refine T.cond rfl (fun h50=>?_) (fun h50=>?_)
          ·replace hk:=dr hk h50;have hq:(dl (c_42++[(cJ p.Rules.Loads i_45)]).length 40)∧_:=fu hk;clear hk;obtain ⟨g110,hk⟩:=hq; (try dsimp only at hk);refine q3y ?_;rintro _ _ ⟨g109,rfl,rfl⟩;refine cU (ff 4 0 rfl rfl rfl rfl rfl rfl (kd (ys:=[(cJ p.Rules.Loads i_45)])) (zcj (enc:=cP) (xs:=c_42) (ys:=[(cJ p.Rules.Loads i_45)])) g110 a6) ?_;rintro v110 _ ⟨hv110,rfl⟩;refine q3E ?_;rw [←hn44] at hk;refine q34 ?_;exact K.next ((i_45+1),c_40,vc_40,cc_40,c_41,vc_41,(c_42++[(cJ p.Rules.Loads i_45)]),v110,c_43,vc_43) ⟨hk,hc_40,inferInstance,inferInstance,inferInstance,inferInstance⟩ a8 (.c (.c (.c (.c (.c (.c (.c .nil))))))) (List.Sublist.refl _)
          ·replace hk:=dq hk h50;refine iz ?_;rw [←hn44] at hk;refine K.pick [1,2,3,4,5,6,7,8,9] rfl a6 ?_;exact K.next ((i_45+1),c_40,vc_40,cc_40,c_41,vc_41,c_42,vc_42,c_43,vc_43) ⟨hk,hc_40,inferInstance,inferInstance,inferInstance,inferInstance⟩ a8 (.c (.c (.c (.c (.c (.c (.c .nil))))))) (List.Sublist.refl _)
        ·have p46:=of_decide_eq_false h46;rw [eO a5,←hkk44] at hk; (try dsimp only at hk);refine eC ?_;exact cS (c_40,vc_40,cc_40,c_41,vc_41,c_42,vc_42,c_43,vc_43) ⟨hk,hc_40,inferInstance,inferInstance,inferInstance,inferInstance⟩ (.c (.c (.c (.c .nil)))) (List.Sublist.refl _)
      ·rintro ⟨c_35,vc_35,cc_35,c_36,vc_36,c_37,vc_37,c_38,vc_38⟩ ⟨hk,hc_35,oc_35,oc_36,oc_37,oc_38⟩; (try dsimp only at *);rw [←hk39] at hk; (try dsimp only at hk);refine T.seq (dh ?_);refine fc ?_;refine q3s ?_;refine cL (df rfl rfl (SlC.mono hp_3 le1_2) (List.length_map _)) ?_;have hm117:p.Rules.Caps.length≤9223372036854775807:=(List.length_map _)▸(SlC.mono hp_3 le1_2).max;refine dA ?_;have hq:=d7 hk;clear hk;obtain ⟨k55,hk55,hk⟩:=hq; (try dsimp only at hk);refine cZ (ι:=List GDomain×Value×List (List Value)×List GPair×Value×List GLoad×Value×List GCap×Value) (fun z=>[(4, .pointer (some ⟨g4,0,none⟩)),(8, .pointer (some ⟨g8,0,none⟩))]) (fun z=>[.sl z.2.1 98 2 z.1.length z.2.2.1.flatten, .sl z.2.2.2.2.1 100 5 z.2.2.2.1.length (z.2.2.2.1.flatMap cO), .sl z.2.2.2.2.2.2.1 102 5 z.2.2.2.2.2.1.length (z.2.2.2.2.2.1.flatMap cP), .sl z.2.2.2.2.2.2.2.2 104 4 z.2.2.2.2.2.2.2.1.length (z.2.2.2.2.2.2.2.1.flatMap cR), .row g8 29 [z.2.1,z.2.2.2.2.1,z.2.2.2.2.2.2.1,z.2.2.2.2.2.2.2.2], .row g4 29 [(.slice none 0 0),(.slice none 0 0),(.slice none 0 0),(.slice none 0 0)], .fr F2]) (fun z=>k55 (z.1,z.2.2.2.1,z.2.2.2.2.2.1,z.2.2.2.2.2.2.2.1)=some r∧OwnD cK F2.toFrz 2 z.2.2.1 z.1∧OneC z.2.1∧OneC z.2.2.2.2.1∧OneC z.2.2.2.2.2.2.1∧OneC z.2.2.2.2.2.2.2.2) ?_ ?_
       ·have hq:=eS hk;clear hk;obtain ⟨f60,kk60,hf60,hkk60,hk⟩:=hq;refine eA ?_;refine T.pick [0,1,2,3,4,5,6,8] rfl a6 ?_;refine T.loop (ι:=Nat×List GDomain×Value×List (List Value)×List GPair×Value×List GLoad×Value×List GCap×Value) (fun z=>[(4, .pointer (some ⟨g4,0,none⟩)),(6, .pointer (some ⟨g6,0,none⟩)),(8, .pointer (some ⟨g8,0,none⟩)),(116,vp_3),(117, .int .i64 (p.Rules.Caps.length:Int)),(118, .int .i64 (z.1:Int))]) (fun z=>[.sl z.2.2.1 98 2 z.2.1.length z.2.2.2.1.flatten, .sl z.2.2.2.2.2.1 100 5 z.2.2.2.2.1.length (z.2.2.2.2.1.flatMap cO), .sl z.2.2.2.2.2.2.2.1 102 5 z.2.2.2.2.2.2.1.length (z.2.2.2.2.2.2.1.flatMap cP), .sl z.2.2.2.2.2.2.2.2.2 104 4 z.2.2.2.2.2.2.2.2.1.length (z.2.2.2.2.2.2.2.2.1.flatMap cR), .row g8 29 [z.2.2.1,z.2.2.2.2.2.1,z.2.2.2.2.2.2.2.1,z.2.2.2.2.2.2.2.2.2], .row g6 83 (r28.1.words.1.map U), .row g4 29 [(.slice none 0 0),(.slice none 0 0),(.slice none 0 0),(.slice none 0 0)], .fr F2]) (fun z=>c6 f60 kk60 (p.Rules.Caps.length - z.1) z.1 (z.2.1,z.2.2.2.2.1,z.2.2.2.2.2.2.1,z.2.2.2.2.2.2.2.2.1)=some r∧OwnD cK F2.toFrz 2 z.2.2.2.1 z.2.1∧OneC z.2.2.1∧OneC z.2.2.2.2.2.1∧OneC z.2.2.2.2.2.2.2.1∧OneC z.2.2.2.2.2.2.2.2.2) (fun z=>p.Rules.Caps.length - z.1) (0,c_35,vc_35,cc_35,c_36,vc_36,c_37,vc_37,c_38,vc_38) ?_ ?_ ?_ ?_
        ·exact ⟨hk,hc_35,inferInstance,inferInstance,inferInstance,inferInstance⟩
        ·exact q5j
        ·exact eh
        ·rintro ⟨i_61,c_56,vc_56,cc_56,c_57,vc_57,c_58,vc_58,c_59,vc_59⟩ ⟨hk,hc_56,oc_56,oc_57,oc_58,oc_59⟩; (try dsimp only at *);refine fb ?_;refine T.cond rfl (fun h62=>?_) (fun h62=>?_)
         ·have p62:=of_decide_eq_true h62;rw [eQ a5] at hk;generalize hn60:c6 f60 kk60 (p.Rules.Caps.length - (i_61+1)) (i_61+1)=next60 at hk;rw [←hf60] at hk; (try dsimp only at hk);refine fh ?_;refine cL (c8 (i:=i_61) rfl rfl rfl (SlC.mono hp_3 le1_2) (List.length_map _) rfl a5) ?_;refine cL (eg 7 (i:=i_61) rfl rfl rfl (SlC.mono hp_3 le1_2) a5) ?_;refine fX ?_;rintro _ _ ⟨g16,rfl,rfl⟩;refine kK ?_;have hq:=d5 hk;clear hk;obtain ⟨r125,hr125,hk⟩:=hq; (try dsimp only at hk);refine fP ?_;refine q21 ?_;refine cU (cM rfl rfl rfl (fun w hw=>zaz _ w (hw.fr (i:=8) rfl) r28.1 ((cJ p.Rules.Caps i_61).Station) r125 hr125)) ?_;refine nJ ?_;refine T.cond rfl (fun h63=>?_) (fun h63=>?_)
          ·replace hk:=dr hk h63;have hq:(dl (c_59++[(cJ p.Rules.Caps i_61)]).length 32)∧_:=fu hk;clear hk;obtain ⟨g131,hk⟩:=hq; (try dsimp only at hk);refine q3y ?_;rintro _ _ ⟨g130,rfl,rfl⟩;refine cU (ff 5 0 rfl rfl rfl rfl rfl rfl (kd (ys:=[(cJ p.Rules.Caps i_61)])) (zcj (enc:=cR) (xs:=c_59) (ys:=[(cJ p.Rules.Caps i_61)])) g131 a6) ?_;rintro v131 _ ⟨hv131,rfl⟩;refine q3E ?_;rw [←hn60] at hk;refine K.pick [2,3,4,5,6,7,8,9] rfl a6 ?_;exact K.next ((i_61+1),c_56,vc_56,cc_56,c_57,vc_57,c_58,vc_58,(c_59++[(cJ p.Rules.Caps i_61)]),v131) ⟨hk,hc_56,inferInstance,inferInstance,inferInstance,inferInstance⟩ a8 (.c (.c (.c (.c (.c (.c .nil)))))) (List.Sublist.refl _)
          ·replace hk:=dq hk h63;refine iz ?_;rw [←hn60] at hk;refine q2x ?_;exact K.next ((i_61+1),c_56,vc_56,cc_56,c_57,vc_57,c_58,vc_58,c_59,vc_59) ⟨hk,hc_56,inferInstance,inferInstance,inferInstance,inferInstance⟩ a8 (.c (.c (.c (.c (.c (.c .nil)))))) (List.Sublist.refl _)
         ·have p62:=of_decide_eq_false h62;rw [eO a5,←hkk60] at hk; (try dsimp only at hk);refine eC ?_;refine K.pick [0,1,2,3,4,6,7] rfl a6 ?_;exact cS (c_56,vc_56,cc_56,c_57,vc_57,c_58,vc_58,c_59,vc_59) ⟨hk,hc_56,inferInstance,inferInstance,inferInstance,inferInstance⟩ (.c (.c .nil)) (List.Sublist.refl _)
       ·rintro ⟨c_51,vc_51,cc_51,c_52,vc_52,c_53,vc_53,c_54,vc_54⟩ ⟨hk,hc_51,oc_51,oc_52,oc_53,oc_54⟩; (try dsimp only at *);rw [←hk55] at hk; (try dsimp only at hk);refine q3r ?_;rintro F6 ⟨le2_6,hz6⟩;refine it ?_;have le1_6:=le1_2.trans le2_6;have hf6:=hz6.toD (OwnD.mono (rep:=cK) (fun _ _ _ _=>GDomain.mono) hc_51 le2_6) rfl;haveI:=hf6.1.oneC;refine iQ (fun w hw=>hw.freezeS (i:=5) (j:=0) a6 rfl rfl) ?_;rintro F7 ⟨le6_7,hz7⟩;refine it ?_;have le1_7:=le1_6.trans le6_7;have hf7:=hz7.toF rfl GPair.len;haveI:=hf7.oneC;refine iQ (fun w hw=>hw.freezeS (i:=4) (j:=0) a6 rfl rfl) ?_;rintro F8 ⟨le7_8,hz8⟩;refine it ?_;have le1_8:=le1_7.trans le7_8;have le6_8:=le6_7.trans le7_8;have hf8:=hz8.toF rfl GLoad.len;haveI:=hf8.oneC;refine iQ (fun w hw=>hw.freezeS (i:=3) (j:=0) a6 rfl rfl) ?_;rintro F9 ⟨le8_9,hz9⟩;refine it ?_;have le1_9:=le1_8.trans le8_9;have le6_9:=le6_8.trans le8_9;have le7_9:=le7_8.trans le8_9;have hf9:=hz9.toF rfl GCap.len;haveI:=hf9.oneC;obtain rfl:=Option.some.inj hk;exact gZ 1 rfl rfl rfl rfl rfl (fun w' hw=>⟨(vc_51,cc_51,vc_52,vc_53,vc_54),F9.toFrz,⟨(SlD.mono (rep:=cK) (fun _ _ _ _=>GDomain.mono) hf6 le6_9),(SlC.mono hf7 le7_9),(SlC.mono hf8 le8_9),hf9⟩,rfl,eJ hw (i:=2) rfl hS0 le1_9⟩)
def zcZ (low:Int)(high:Int):Bool:=
 (((decide (2≤low))&&(decide (low≤high)))&&(decide (high≤51)))
def zbp (c:GPair):Bool:=
 (((((iN c.A)&&(iN c.B))&&(decide (c.A<c.B)))&&(mg c.Offset (-1) 1))&&(zcZ c.Low c.High))
def zbr (c:GLoad):Bool:=
 (((((iN c.To)&&(iN c.From))&&(decide (¬c.To=c.From)))&&(mg c.Weight 1 1073741824))&&(zcZ c.Low c.High))
def zbz (c:GCap):Bool:=
 (((iN c.Station)&&(mg c.Max 0 1099511627776))&&(zcZ c.Low c.High))
def nK (c:Int):Bool:=
 (mg c 2 51)
def kJ:List Int→List Int→Bool
 |a :: x,b :: y=>if a=b then kJ x y else decide (a<b)
 |_,_=>false
theorem zk5 {x y:List Int}{k:Nat}(h:k<x.length)(h2:k<y.length):kJ (x.drop k) (y.drop k)=if cJ x k=cJ y k then kJ (x.drop (k+1)) (y.drop (k+1)) else decide (cJ x k<cJ y k):=by
 rw [List.drop_eq_getElem_cons h,List.drop_eq_getElem_cons h2,dV h,dV h2];rfl
def zhY (ds:List Dx)(s:Int):Int:=match ds.findIdx? (fun d=>decide (d.st=s)) with|some i=>(i:Int)|none=> -1
theorem gB {n a b:Int}:inB n a b=true↔a≤n∧n≤b:=by simp [inB]
def zhR (xs:List Pr)(k:Nat):Bool:=decide ((inB (cJ xs k).a 0 511=true∧inB (cJ xs k).b 0 511=true∧(cJ xs k).a<(cJ xs k).b∧ -1≤(cJ xs k).off∧(cJ xs k).off≤1∧fj (cJ xs k).lo (cJ xs k).hi=true)∧(0<k→kJ [(cJ xs (k - 1)).a,(cJ xs (k - 1)).b,(cJ xs (k - 1)).off,(cJ xs (k - 1)).lo,(cJ xs (k - 1)).hi] [(cJ xs k).a,(cJ xs k).b,(cJ xs k).off,(cJ xs k).lo,(cJ xs k).hi]=true))
def zhS (xs:List Ld)(k:Nat):Bool:=decide ((inB (cJ xs k).to 0 511=true∧inB (cJ xs k).fr 0 511=true∧¬(cJ xs k).to=(cJ xs k).fr∧1≤(cJ xs k).wt∧(cJ xs k).wt≤1073741824∧fj (cJ xs k).lo (cJ xs k).hi=true)∧(0<k→kJ [(cJ xs (k - 1)).to,(cJ xs (k - 1)).fr,(cJ xs (k - 1)).wt,(cJ xs (k - 1)).lo,(cJ xs (k - 1)).hi] [(cJ xs k).to,(cJ xs k).fr,(cJ xs k).wt,(cJ xs k).lo,(cJ xs k).hi]=true))
def zis (xs:List Cp)(k:Nat):Bool:=decide ((inB (cJ xs k).st 0 511=true∧0≤(cJ xs k).mx∧(cJ xs k).mx≤1099511627776∧fj (cJ xs k).lo (cJ xs k).hi=true)∧(0<k→kJ [(cJ xs (k - 1)).st,(cJ xs (k - 1)).mx,(cJ xs (k - 1)).lo,(cJ xs (k - 1)).hi] [(cJ xs k).st,(cJ xs k).mx,(cJ xs k).lo,(cJ xs k).hi]=true))
def zhu (P:Pb):Bool:=decide (P.ps.length≤4096∧P.ls.length≤1024∧P.cs.length≤1024)&&((List.range P.ps.length).all (zhR P.ps)&&((List.range P.ls.length).all (zhS P.ls)&&(List.range P.cs.length).all (zis P.cs)))
def zjx (cs:List Int)(j:Nat):Bool:=decide (2≤cJ cs j∧cJ cs j≤51∧(0<j→cJ cs (j - 1)<cJ cs j))
def zlc (ds:List Dx)(k:Nat):Bool:=decide ((inB (cJ ds k).st 0 511=true∧(0<k→(cJ ds (k - 1)).st<(cJ ds k).st)∧(cJ ds k).chs.length≤50)∧(List.range (cJ ds k).chs.length).all (zjx (cJ ds k).chs)=true)
def zkU (P:Pb)(k:Nat):Bool:=decide (0≤zhY P.ds (cJ P.ps k).a∧0≤zhY P.ds (cJ P.ps k).b)
def zkS (P:Pb)(k:Nat):Bool:=decide (0≤zhY P.ds (cJ P.ls k).to∧0≤zhY P.ds (cJ P.ls k).fr)
def zkZ (P:Pb)(k:Nat):Bool:=decide (0≤zhY P.ds (cJ P.cs k).st)
def zlZ (P:Pb):Bool:=decide (P.ds.length≤512)&&(zhu P&&((List.range P.ds.length).all (zlc P.ds)&&((List.range P.ps.length).all (zkU P)&&((List.range P.ls.length).all (zkS P)&&(List.range P.cs.length).all (zkZ P)))))
theorem zgw {α:Type}[Inhabited α]{c:α→α→Int}{xs:List α}:fG c xs=true↔∀k,0<k→k<xs.length→c (cJ xs (k - 1)) (cJ xs k)<0:=by
 unfold fG;rw [List.all_eq_true];constructor
 ·intro h k h0 hk;have:=h k (List.mem_range.2 hk);simp only [Bool.or_eq_true,decide_eq_true_eq,Bool.not_eq_true',decide_eq_false_iff_not] at this;omega
 ·intro h k hk;simp only [Bool.or_eq_true,decide_eq_true_eq,Bool.not_eq_true',decide_eq_false_iff_not];by_cases h0:k=0
  ·exact .inl h0
  ·have:=h k a5 (List.mem_range.1 hk);exact .inr a5
theorem iT {f:Nat→Bool}{n:Nat}:(List.range n).all f=true↔∀k,k<n→f k=true:=by
 rw [List.all_eq_true];exact ⟨fun h k hk=>h k (List.mem_range.2 hk),fun h k hk=>h k (List.mem_range.1 hk)⟩
theorem zfG {a b:Int}:dT a b<0↔a<b:=by unfold dT;split <;> (try split) <;> omega
theorem jX {a b:Int}:dT a b=0↔a=b:=by unfold dT;split <;> (try split) <;> omega
theorem zhT:∀(xs ys:List Int),xs.length=ys.length→(kJ xs ys=true↔mI (List.zipWith dT xs ys)<0)
 | [],[],_=>by simp [kJ,mI]
 |a :: x,b :: y,h=>by
  have ih:=zhT x y (by simpa using h);unfold kJ;rw [List.zipWith_cons_cons];unfold mI;by_cases e:a=b
  ·rw [if_pos e,if_pos (jX.2 e)];exact ih
  ·rw [if_neg e,if_neg (fun hh=>e (jX.1 hh)),zfG,decide_eq_true_eq]
 | [],_ :: _,h=>by simp at h
 |_ :: _,[],h=>by simp at h
theorem zlJ {xs:List Pr}{k:Nat}:zhR xs k=true↔(cJ xs k).ok=true∧(0<k→Pr.cmp (cJ xs (k - 1)) (cJ xs k)<0):=by
 have e:=zhT [(cJ xs (k - 1)).a,(cJ xs (k - 1)).b,(cJ xs (k - 1)).off,(cJ xs (k - 1)).lo,(cJ xs (k - 1)).hi] [(cJ xs k).a,(cJ xs k).b,(cJ xs k).off,(cJ xs k).lo,(cJ xs k).hi] rfl;simp only [zhR,decide_eq_true_eq,e,Pr.ok,Bool.and_eq_true,gB,Pr.cmp,List.zipWith,and_assoc]
theorem zmm {xs:List Ld}{k:Nat}:zhS xs k=true↔(cJ xs k).ok=true∧(0<k→Ld.cmp (cJ xs (k - 1)) (cJ xs k)<0):=by
 have e:=zhT [(cJ xs (k - 1)).to,(cJ xs (k - 1)).fr,(cJ xs (k - 1)).wt,(cJ xs (k - 1)).lo,(cJ xs (k - 1)).hi] [(cJ xs k).to,(cJ xs k).fr,(cJ xs k).wt,(cJ xs k).lo,(cJ xs k).hi] rfl;simp only [zhS,decide_eq_true_eq,e,Ld.ok,Bool.and_eq_true,gB,Ld.cmp,List.zipWith,and_assoc]
theorem zmg {xs:List Cp}{k:Nat}:zis xs k=true↔(cJ xs k).ok=true∧(0<k→Cp.cmp (cJ xs (k - 1)) (cJ xs k)<0):=by
 have e:=zhT [(cJ xs (k - 1)).st,(cJ xs (k - 1)).mx,(cJ xs (k - 1)).lo,(cJ xs (k - 1)).hi] [(cJ xs k).st,(cJ xs k).mx,(cJ xs k).lo,(cJ xs k).hi] rfl;simp only [zis,decide_eq_true_eq,e,Cp.ok,Bool.and_eq_true,gB,Cp.cmp,List.zipWith,and_assoc]
theorem zgy {α:Type}[Inhabited α]{r:List α→Nat→Bool}{q:α→Bool}{c:α→α→Int}{xs:List α}(h:∀k,r xs k=true↔q (cJ xs k)=true∧(0<k→c (cJ xs (k - 1)) (cJ xs k)<0)):(List.range xs.length).all (r xs)=true↔fU q xs=true∧fG c xs=true:=by
 rw [iT,zfg,zgw];exact ⟨fun hh=>⟨fun k hk=>((h k).1 (hh k hk)).1,fun k h0 hk=>((h k).1 (hh k hk)).2 h0⟩,fun hh k hk=>(h k).2 ⟨hh.1 k hk,fun h0=>hh.2 k h0 hk⟩⟩
theorem zlU (P:Pb):zhu P=P.rulesOk:=by
 rw [Bool.eq_iff_iff];simp only [zhu,Pb.rulesOk,Bool.and_eq_true,decide_eq_true_eq,zgy (r:=zhR) (q:=Pr.ok) (c:=Pr.cmp) (xs:=P.ps) (fun k=>zlJ),zgy (r:=zhS) (q:=Ld.ok) (c:=Ld.cmp) (xs:=P.ls) (fun k=>zmm),zgy (r:=zis) (q:=Cp.ok) (c:=Cp.cmp) (xs:=P.cs) (fun k=>zmg)];constructor
 ·rintro ⟨⟨h1,h2,h3⟩,⟨h4,h5⟩,⟨h6,h7⟩,h8,h9⟩;exact ⟨by omega,h4,h5,by omega,h6,h7,by omega,h8,h9⟩
 ·rintro ⟨h1,h4,h5,h2,h6,h7,h3,h8,h9⟩;exact ⟨⟨by omega,by omega,by omega⟩,⟨h4,h5⟩,⟨h6,h7⟩,h8,h9⟩
theorem zkt {f:Nat→Int}{lo hi:Int}{n:Nat}(h0:∀k,k<n→lo≤f k∧f k≤hi)(h:∀k,0<k→k<n→f (k - 1)<f k):(n:Int)≤hi - lo+1∨n=0:=by
 have key:∀k,k<n→lo+(k:Int)≤f k:=by
  intro k
  induction k with
  |zero=>intro hk;have:=h0 0 hk;omega
  |succ k ih=>intro hk;have:=ih a5;have:=h (k+1) a5 hk;rw [Nat.add_sub_cancel] at this;omega
 rcases Nat.eq_zero_or_pos n with h1|h1
 ·exact .inr h1
 ·have:=key (n - 1) a5;have:=h0 (n - 1) a5;exact .inl a5
theorem zi5 {ds:List Dx}{s:Int}:0≤zhY ds s↔∃i,i<ds.length∧(cJ ds i).st=s:=by
 unfold zhY
 cases hf:ds.findIdx? (fun d=>decide (d.st=s)) with
 |none=>
  refine ⟨fun h=>by simp at h,fun ⟨i,hi,h⟩=>?_⟩;rw [List.findIdx?_eq_none_iff] at hf;have:=hf (cJ ds i) (iY hi);simp [h] at this
 |some i=>
  refine ⟨fun _=>?_,fun _=>by simp⟩;obtain ⟨hi,h1,_⟩:=List.findIdx?_eq_some_iff_getElem.1 hf;exact ⟨i,hi,by rw [dV hi];simpa using h1⟩
theorem zdR {P:Pb}(hst:∀d∈P.ds,0≤d.st∧d.st≤511){s:Int}:P.has s=true↔0≤zhY P.ds s:=by
 unfold Pb.has;rw [zjs (P.ds.map fun d:Dx=>d.st) (fun y hy=>by obtain ⟨d,hd,rfl⟩:=List.mem_map.1 hy;exact hst d hd),zi5,List.mem_map];constructor
 ·rintro ⟨d,hd,rfl⟩;obtain ⟨i,hi,rfl⟩:=List.mem_iff_getElem.1 hd;exact ⟨i,hi,by rw [dV hi]⟩
 ·rintro ⟨i,hi,rfl⟩;exact ⟨_,iY hi,rfl⟩
theorem j3 {cs:List Int}:(List.range cs.length).all (zjx cs)=true↔fU (fun c=>inB c 2 51) cs=true∧fG dT cs=true:=by
 refine zgy (r:=zjx) (q:=fun c=>inB c 2 51) (c:=dT) fun k=>?_;simp only [zjx,decide_eq_true_eq,gB,zfG,and_assoc]
theorem zmr (P:Pb):zlZ P=P.ok:=by
 rw [Bool.eq_iff_iff];simp only [zlZ,Pb.ok,Bool.and_eq_true,decide_eq_true_eq,zlU,iT,zfg,zgw,zfG,zlc,zkU,zkS,zkZ,Dx.ok]
 have stOf:(∀k,k<P.ds.length→inB (cJ P.ds k).st 0 511=true)→∀d∈P.ds,0≤d.st∧d.st≤511:=fun h d hd=>by
  obtain ⟨i,hi,rfl⟩:=List.mem_iff_getElem.1 hd;have:=gB.1 (h i hi)
  rwa [dV hi] at this
 constructor
 ·rintro ⟨h1,h2,h3,h4,h5,h6⟩;have hst:=stOf fun k hk=>(h3 k hk).1.1;refine ⟨fun k hk=>⟨(h3 k hk).1.1,?_⟩,h2,fun k h0 hk=>(h3 k hk).1.2.1 h0,fun k hk=>⟨(zdR hst).2 (h4 k hk).1,(zdR hst).2 (h4 k hk).2⟩,fun k hk=>⟨(zdR hst).2 (h5 k hk).1,(zdR hst).2 (h5 k hk).2⟩,fun k hk=>(zdR hst).2 (h6 k hk)⟩;have:=j3.1 (iT.2 (h3 k hk).2);simp only [zfg,zgw,zfG] at this;exact this
 ·rintro ⟨h1,h2,h3,h4,h5,h6⟩;have hst:=stOf fun k hk=>(h1 k hk).1;refine ⟨?_,h2,fun k hk=>⟨⟨(h1 k hk).1,fun h0=>h3 k h0 hk,?_⟩,?_⟩,fun k hk=>⟨(zdR hst).1 (h4 k hk).1,(zdR hst).1 (h4 k hk).2⟩,fun k hk=>⟨(zdR hst).1 (h5 k hk).1,(zdR hst).1 (h5 k hk).2⟩,fun k hk=>(zdR hst).1 (h6 k hk)⟩
  ·have:=zkt (f:=fun k=>(cJ P.ds k).st) (lo:=0) (hi:=511) (n:=P.ds.length) (fun k hk=>gB.1 (h1 k hk).1) h3;omega
  ·have:=zkt (f:=cJ (cJ P.ds k).chs) (lo:=2) (hi:=51) (n:=(cJ P.ds k).chs.length) (fun j hj=>gB.1 ((h1 k hk).2.1 j hj)) (h1 k hk).2.2;omega
  ·exact iT.1 (j3.2 (by simp only [zfg,zgw,zfG];exact (h1 k hk).2))
theorem zcE {ρ:Type}{f:Nat→(Unit→ρ)→Unit→ρ}{k:Unit→ρ}{n:Nat}{z:ρ}(q:Nat→Bool)(hf:∀i next,i<n→f i next ()=bif q i then next () else z):c6 f k n 0 ()=bif (List.range n).all q then k () else z:=by
 have key:∀m i,i+m=n→c6 f k m i ()=bif (List.range' i m).all q then k () else z:=by
  intro m
  induction m with
  |zero=>intro i _;rfl
  |succ m ih=>
   intro i e
   show f i (c6 f k m (i+1)) ()=_
   rw [hf i _ a5,ih (i+1) a5,List.range'_succ,List.all_cons]
   cases q i <;> rfl
 rw [key n 0 a5,List.range_eq_range']
theorem zey {n:Int}:kb n=inB n 0 511:=rfl
theorem zmb {a b:Int}:nC a b=fj a b:=by
 unfold nC fj;by_cases h1:2≤a <;> by_cases h2:a≤b <;> by_cases h3:b≤51 <;> simp [h1,h2,h3]
theorem zlW {a b:List Int}(h:a.length=b.length):mb a b=some (kJ a b):=by
 unfold mb;refine ky ?_
 have key:∀m i,i+m=a.length→c6 (fun (i:Nat) (next:Unit→Option Bool) (_:Unit)=>ej (0≤(i:Int)∧(i:Int)<(b.length:Int)) (bif decide (¬cJ a i=cJ b i) then some (decide (cJ a i<cJ b i)) else next ())) (fun _=>some false) m i ()=some (kJ (a.drop i) (b.drop i)):=by
  intro m
  induction m with
  |zero=>intro i e;rw [List.drop_eq_nil_of_le (show a.length≤i by omega)];rfl
  |succ m ih=>
   intro i e;have h2:=ih (i+1) a5
   show ej _ _=_
   rw [fE ⟨by omega,by omega⟩,zk5 a5 a5];by_cases e2:cJ a i=cJ b i
   ·rw [if_pos e2,decide_eq_false (fun hn=>hn e2),cond_false];exact h2
   ·rw [if_neg e2,decide_eq_true e2,cond_true]
 exact key a.length 0 a5
def hasS (p:GProblem)(s:Int):Bool:=p.Domains.any fun d=>decide (d.Station=s)
theorem znO {p:GProblem}{s:Int}:fF p s<0↔hasS p s=false:=by
 unfold fF hasS;refine ky ?_
 have key:∀m i,i+m=p.Domains.length→(c6 (fun (i:Nat) (next:Unit→Int) (_:Unit)=>bif decide ((cJ p.Domains i).Station=s) then (i:Int) else next ()) (fun _=>(-1)) m i ()<0↔((p.Domains.drop i).any fun d=>decide (d.Station=s))=false):=by
  intro m
  induction m with
  |zero=>intro i e;rw [List.drop_eq_nil_of_le (show p.Domains.length≤i by omega)];exact ⟨fun _=>rfl,fun _=>by show (-1:Int)<0;omega⟩
  |succ m ih=>
   intro i e;have h2:=ih (i+1) a5;rw [List.drop_eq_getElem_cons (show i<p.Domains.length by omega),List.any_cons,←dV (show i<p.Domains.length by omega)]
   show (bif decide ((cJ p.Domains i).Station=s) then (i:Int) else _)<0↔_
   cases decide ((cJ p.Domains i).Station=s) with
   |true=>simp
   |false=>rw [cond_false,Bool.false_or];exact h2
 have:=key p.Domains.length 0 a5
 rwa [List.drop_zero] at this
theorem zc6 (i:Nat):((i:Int) - 1).toNat=i - 1:=by omega
theorem zow {p : GProblem} {i : Nat} {next : Unit → Option Bool} (hi : i < p.Rules.Pairs.length) :
    (bif !(kb ((cJ p.Rules.Pairs i).A)) then (bif true then some false else next ()) else
      (bif !(kb ((cJ p.Rules.Pairs i).B)) then (bif true then some false else next ()) else
      (bif decide ((cJ p.Rules.Pairs i).B ≤ (cJ p.Rules.Pairs i).A) then (bif true then some false else next ()) else
      (bif decide ((cJ p.Rules.Pairs i).Offset < (-1)) then (bif true then some false else next ()) else
      (bif decide (1 < (cJ p.Rules.Pairs i).Offset) then (bif true then some false else next ()) else
      (bif !(nC ((cJ p.Rules.Pairs i).Low) ((cJ p.Rules.Pairs i).High)) then (bif true then some false else next ()) else
      (bif decide (0 < (i : Int)) then (mb (li (cJ p.Rules.Pairs (((i : Int) - 1).toNat))) (li (cJ p.Rules.Pairs i))).bind fun r => (bif !r then some false else next ()) else (bif false then some false else next ())))))))) = bif zhR (eL p).ps i then next () else some false := by
  have e1 : cJ (eL p).ps i = (cJ p.Rules.Pairs i).b := jI hi; have e2 : cJ (eL p).ps (i - 1) = (cJ p.Rules.Pairs (i - 1)).b := jI a5; rw [zc6, zlW (by rfl), Option.bind_some];simp only [zey, zmb]
  have hr : zhR (eL p).ps i = (inB (cJ p.Rules.Pairs i).A 0 511 && (inB (cJ p.Rules.Pairs i).B 0 511 && (!decide ((cJ p.Rules.Pairs i).B ≤ (cJ p.Rules.Pairs i).A) && (!decide ((cJ p.Rules.Pairs i).Offset < (-1)) && (!decide (1 < (cJ p.Rules.Pairs i).Offset) && (fj (cJ p.Rules.Pairs i).Low (cJ p.Rules.Pairs i).High && (!decide (0 < (i : Int)) || kJ (li (cJ p.Rules.Pairs (i - 1))) (li (cJ p.Rules.Pairs i))))))))) := by
    unfold zhR; rw [e1, e2, Bool.eq_iff_iff, decide_eq_true_eq];simp only [Bool.and_eq_true, Bool.or_eq_true, Bool.not_eq_true', decide_eq_false_iff_not, GPair.b, li]; constructor
    · rintro ⟨⟨h1, h2, h3, h4, h5, h6⟩, h9⟩; refine ⟨h1, h2, by omega, by omega, by omega, h6, ?_⟩; rcases Nat.eq_zero_or_pos i with h | h
      · exact .inl a5
      · exact .inr (h9 h)
    · rintro ⟨h1, h2, h3, h4, h5, h6, h9⟩; refine ⟨⟨h1, h2, by omega, by omega, by omega, h6⟩, fun h => ?_⟩; rcases h9 with h9 | h9
      · omega
      · exact h9
  rw [hr]
  cases inB (cJ p.Rules.Pairs i).A 0 511
  · rfl
  cases inB (cJ p.Rules.Pairs i).B 0 511
  · rfl
  cases decide ((cJ p.Rules.Pairs i).B ≤ (cJ p.Rules.Pairs i).A)
  rotate_left
  · rfl
  cases decide ((cJ p.Rules.Pairs i).Offset < (-1))
  rotate_left
  · rfl
  cases decide (1 < (cJ p.Rules.Pairs i).Offset)
  rotate_left
  · rfl
  cases fj (cJ p.Rules.Pairs i).Low (cJ p.Rules.Pairs i).High
  · rfl
  cases decide (0 < (i : Int))
  · rfl
  cases kJ (li (cJ p.Rules.Pairs (i - 1))) (li (cJ p.Rules.Pairs i)) <;> rfl
theorem znY {p : GProblem} {i : Nat} {next : Unit → Option Bool} (hi : i < p.Rules.Loads.length) :
    (bif !(kb ((cJ p.Rules.Loads i).To)) then (bif true then some false else next ()) else
      (bif !(kb ((cJ p.Rules.Loads i).From)) then (bif true then some false else next ()) else
      (bif decide ((cJ p.Rules.Loads i).To = (cJ p.Rules.Loads i).From) then (bif true then some false else next ()) else
      (bif decide ((cJ p.Rules.Loads i).Weight < 1) then (bif true then some false else next ()) else
      (bif decide (1073741824 < (cJ p.Rules.Loads i).Weight) then (bif true then some false else next ()) else
      (bif !(nC ((cJ p.Rules.Loads i).Low) ((cJ p.Rules.Loads i).High)) then (bif true then some false else next ()) else
      (bif decide (0 < (i : Int)) then (mb (ln (cJ p.Rules.Loads (((i : Int) - 1).toNat))) (ln (cJ p.Rules.Loads i))).bind fun r => (bif !r then some false else next ()) else (bif false then some false else next ())))))))) = bif zhS (eL p).ls i then next () else some false := by
  have e1 : cJ (eL p).ls i = (cJ p.Rules.Loads i).b := jI hi; have e2 : cJ (eL p).ls (i - 1) = (cJ p.Rules.Loads (i - 1)).b := jI a5; rw [zc6, zlW (by rfl), Option.bind_some];simp only [zey, zmb]
  have hr : zhS (eL p).ls i = (inB (cJ p.Rules.Loads i).To 0 511 && (inB (cJ p.Rules.Loads i).From 0 511 && (!decide ((cJ p.Rules.Loads i).To = (cJ p.Rules.Loads i).From) && (!decide ((cJ p.Rules.Loads i).Weight < 1) && (!decide (1073741824 < (cJ p.Rules.Loads i).Weight) && (fj (cJ p.Rules.Loads i).Low (cJ p.Rules.Loads i).High && (!decide (0 < (i : Int)) || kJ (ln (cJ p.Rules.Loads (i - 1))) (ln (cJ p.Rules.Loads i))))))))) := by
    unfold zhS; rw [e1, e2, Bool.eq_iff_iff, decide_eq_true_eq];simp only [Bool.and_eq_true, Bool.or_eq_true, Bool.not_eq_true', decide_eq_false_iff_not, GLoad.b, ln]; constructor
    · rintro ⟨⟨h1, h2, h3, h4, h5, h6⟩, h9⟩; refine ⟨h1, h2, by omega, by omega, by omega, h6, ?_⟩; rcases Nat.eq_zero_or_pos i with h | h
      · exact .inl a5
      · exact .inr (h9 h)
    · rintro ⟨h1, h2, h3, h4, h5, h6, h9⟩; refine ⟨⟨h1, h2, by omega, by omega, by omega, h6⟩, fun h => ?_⟩; rcases h9 with h9 | h9
      · omega
      · exact h9
  rw [hr]
  cases inB (cJ p.Rules.Loads i).To 0 511
  · rfl
  cases inB (cJ p.Rules.Loads i).From 0 511
  · rfl
  cases decide ((cJ p.Rules.Loads i).To = (cJ p.Rules.Loads i).From)
  rotate_left
  · rfl
  cases decide ((cJ p.Rules.Loads i).Weight < 1)
  rotate_left
  · rfl
  cases decide (1073741824 < (cJ p.Rules.Loads i).Weight)
  rotate_left
  · rfl
  cases fj (cJ p.Rules.Loads i).Low (cJ p.Rules.Loads i).High
  · rfl
  cases decide (0 < (i : Int))
  · rfl
  cases kJ (ln (cJ p.Rules.Loads (i - 1))) (ln (cJ p.Rules.Loads i)) <;> rfl
theorem zoA {p : GProblem} {i : Nat} {next : Unit → Option Bool} (hi : i < p.Rules.Caps.length) :
    (bif !(kb ((cJ p.Rules.Caps i).Station)) then (bif true then some false else next ()) else
      (bif decide ((cJ p.Rules.Caps i).Max < 0) then (bif true then some false else next ()) else
      (bif decide (1099511627776 < (cJ p.Rules.Caps i).Max) then (bif true then some false else next ()) else
      (bif !(nC ((cJ p.Rules.Caps i).Low) ((cJ p.Rules.Caps i).High)) then (bif true then some false else next ()) else
      (bif decide (0 < (i : Int)) then (mb (kY (cJ p.Rules.Caps (((i : Int) - 1).toNat))) (kY (cJ p.Rules.Caps i))).bind fun r => (bif !r then some false else next ()) else (bif false then some false else next ())))))) = bif zis (eL p).cs i then next () else some false := by
  have e1 : cJ (eL p).cs i = (cJ p.Rules.Caps i).b := jI hi; have e2 : cJ (eL p).cs (i - 1) = (cJ p.Rules.Caps (i - 1)).b := jI a5; rw [zc6, zlW (by rfl), Option.bind_some];simp only [zey, zmb]
  have hr : zis (eL p).cs i = (inB (cJ p.Rules.Caps i).Station 0 511 && (!decide ((cJ p.Rules.Caps i).Max < 0) && (!decide (1099511627776 < (cJ p.Rules.Caps i).Max) && (fj (cJ p.Rules.Caps i).Low (cJ p.Rules.Caps i).High && (!decide (0 < (i : Int)) || kJ (kY (cJ p.Rules.Caps (i - 1))) (kY (cJ p.Rules.Caps i))))))) := by
    unfold zis; rw [e1, e2, Bool.eq_iff_iff, decide_eq_true_eq];simp only [Bool.and_eq_true, Bool.or_eq_true, Bool.not_eq_true', decide_eq_false_iff_not, GCap.b, kY]; constructor
    · rintro ⟨⟨h1, h2, h3, h4⟩, h9⟩; refine ⟨h1, by omega, by omega, h4, ?_⟩; rcases Nat.eq_zero_or_pos i with h | h
      · exact .inl a5
      · exact .inr (h9 h)
    · rintro ⟨h1, h2, h3, h4, h9⟩; refine ⟨⟨h1, by omega, by omega, h4⟩, fun h => ?_⟩; rcases h9 with h9 | h9
      · omega
      · exact h9
  rw [hr]
  cases inB (cJ p.Rules.Caps i).Station 0 511
  · rfl
  cases decide ((cJ p.Rules.Caps i).Max < 0)
  rotate_left
  · rfl
  cases decide (1099511627776 < (cJ p.Rules.Caps i).Max)
  rotate_left
  · rfl
  cases fj (cJ p.Rules.Caps i).Low (cJ p.Rules.Caps i).High
  · rfl
  cases decide (0 < (i : Int))
  · rfl
  cases kJ (kY (cJ p.Rules.Caps (i - 1))) (kY (cJ p.Rules.Caps i)) <;> rfl
theorem ziI {p:GProblem}:za0 p.Rules=some (zhu (eL p)):=by
 unfold za0;refine ky ?_;rw [zcE (n:=p.Rules.Pairs.length) (z:=some false) (zhR (eL p).ps) (fun i next hi=>zow hi),zcE (n:=p.Rules.Loads.length) (z:=some false) (zhS (eL p).ls) (fun i next hi=>znY hi),zcE (n:=p.Rules.Caps.length) (z:=some false) (zis (eL p).cs) (fun i next hi=>zoA hi)];have l1:(eL p).ps.length=p.Rules.Pairs.length:=List.length_map _;have l2:(eL p).ls.length=p.Rules.Loads.length:=List.length_map _;have l3:(eL p).cs.length=p.Rules.Caps.length:=List.length_map _;unfold zhu;rw [l1,l2,l3];by_cases h:p.Rules.Pairs.length≤4096∧p.Rules.Loads.length≤1024∧p.Rules.Caps.length≤1024
 ·rw [decide_eq_true h,decide_eq_false a5,decide_eq_false a5,decide_eq_false a5]
  cases (List.range p.Rules.Pairs.length).all (zhR (eL p).ps)
  ·rfl
  cases (List.range p.Rules.Loads.length).all (zhS (eL p).ls)
  ·rfl
  cases (List.range p.Rules.Caps.length).all (zis (eL p).cs) <;> rfl
 ·rw [decide_eq_false h];by_cases h1:(4096:Int)<p.Rules.Pairs.length
  ·rw [decide_eq_true h1];rfl
  ·by_cases h2:(1024:Int)<p.Rules.Loads.length
   ·rw [decide_eq_true h2,Bool.or_true];rfl
   ·rw [decide_eq_true (show (1024:Int)<p.Rules.Caps.length by omega),Bool.or_true];rfl
theorem zjO {p:GProblem}{s:Int}:fF p s<0↔¬0≤zhY (eL p).ds s:=by
 rw [znO,zi5];unfold hasS;rw [List.any_eq_false];have l:(eL p).ds.length=p.Domains.length:=List.length_map _;constructor
 ·rintro h ⟨i,hi,e⟩;rw [l] at hi;have e1:cJ (eL p).ds i=(cJ p.Domains i).b:=jI hi;rw [e1] at e;exact h _ (fg hi) (decide_eq_true e)
 ·intro h x hx hd;obtain ⟨i,hi,rfl⟩:=iv hx;refine h ⟨i,by rw [l];exact hi,?_⟩;have e1:cJ (eL p).ds i=(cJ p.Domains i).b:=jI hi;rw [e1];exact of_decide_eq_true hd
theorem zh8 {p:GProblem}:zbw p=some (gv p):=by
 have l0:(eL p).ds.length=p.Domains.length:=List.length_map _;have l1:(eL p).ps.length=p.Rules.Pairs.length:=List.length_map _;have l2:(eL p).ls.length=p.Rules.Loads.length:=List.length_map _;have l3:(eL p).cs.length=p.Rules.Caps.length:=List.length_map _;have n0:∀k,k<p.Domains.length→cJ (eL p).ds k=(cJ p.Domains k).b:=fun k hk=>jI hk;have n1:∀k,k<p.Rules.Pairs.length→cJ (eL p).ps k=(cJ p.Rules.Pairs k).b:=fun k hk=>jI hk;have n2:∀k,k<p.Rules.Loads.length→cJ (eL p).ls k=(cJ p.Rules.Loads k).b:=fun k hk=>jI hk;have n3:∀k,k<p.Rules.Caps.length→cJ (eL p).cs k=(cJ p.Rules.Caps k).b:=fun k hk=>jI hk;unfold zbw gv;rw [←zmr];simp only [dH,Nat.sub_zero,ziI,Option.bind_some];rw [zcE (n:=p.Domains.length) (z:=some false) (zlc (eL p).ds) (fun i next hi=>?_),zcE (n:=p.Rules.Pairs.length) (z:=some false) (zkU (eL p)) (fun i next hi=>?_),zcE (n:=p.Rules.Loads.length) (z:=some false) (zkS (eL p)) (fun i next hi=>?_),zcE (n:=p.Rules.Caps.length) (z:=some false) (zkZ (eL p)) (fun i next hi=>?_)]
 ·unfold zlZ;rw [l0,l1,l2,l3];by_cases h:p.Domains.length≤512
  ·rw [decide_eq_true h,decide_eq_false a5]
   cases zhu (eL p)
   ·rfl
   cases (List.range p.Domains.length).all (zlc (eL p).ds)
   ·rfl
   cases (List.range p.Rules.Pairs.length).all (zkU (eL p))
   ·rfl
   cases (List.range p.Rules.Loads.length).all (zkS (eL p))
   ·rfl
   cases (List.range p.Rules.Caps.length).all (zkZ (eL p)) <;> rfl
  ·rw [decide_eq_false h,decide_eq_true a5];rfl
 ·have hr:zkZ (eL p) i= !decide (fF p (cJ p.Rules.Caps i).Station<0):=by
   unfold zkZ;rw [n3 i hi,Bool.eq_iff_iff,decide_eq_true_eq];simp only [Bool.not_eq_true',decide_eq_false_iff_not,zjO,Decidable.not_not,GCap.b]
  rw [hr]
  cases decide (fF p (cJ p.Rules.Caps i).Station<0) <;> rfl
 ·have hr:zkS (eL p) i=(!decide (fF p (cJ p.Rules.Loads i).To<0)&& !decide (fF p (cJ p.Rules.Loads i).From<0)):=by
   unfold zkS;rw [n2 i hi,Bool.eq_iff_iff,decide_eq_true_eq];simp only [Bool.and_eq_true,Bool.not_eq_true',decide_eq_false_iff_not,zjO,Decidable.not_not,GLoad.b]
  rw [hr]
  cases decide (fF p (cJ p.Rules.Loads i).To<0) <;> cases decide (fF p (cJ p.Rules.Loads i).From<0) <;> rfl
 ·have hr:zkU (eL p) i=(!decide (fF p (cJ p.Rules.Pairs i).A<0)&& !decide (fF p (cJ p.Rules.Pairs i).B<0)):=by
   unfold zkU;rw [n1 i hi,Bool.eq_iff_iff,decide_eq_true_eq];simp only [Bool.and_eq_true,Bool.not_eq_true',decide_eq_false_iff_not,zjO,Decidable.not_not,GPair.b]
  rw [hr]
  cases decide (fF p (cJ p.Rules.Pairs i).A<0) <;> cases decide (fF p (cJ p.Rules.Pairs i).B<0) <;> rfl
 ·rw [zcE (n:=(cJ p.Domains i).Channels.length) (z:=some false) (zjx (cJ p.Domains i).Channels) (fun k nx hk=>?_)]
  ·have hr:zlc (eL p).ds i=(inB (cJ p.Domains i).Station 0 511&&(!(decide (0<(i:Int))&&decide ((cJ p.Domains i).Station≤(cJ p.Domains (i - 1)).Station))&&(!decide (50<((cJ p.Domains i).Channels.length:Int))&&(List.range (cJ p.Domains i).Channels.length).all (zjx (cJ p.Domains i).Channels)))):=by
    unfold zlc;rw [n0 i hi,n0 (i - 1) a5,Bool.eq_iff_iff,decide_eq_true_eq];simp only [Bool.and_eq_true,Bool.not_eq_true',Bool.and_eq_false_iff,decide_eq_false_iff_not,GDomain.b];constructor
    ·rintro ⟨⟨h1,h2,h3⟩,h4⟩;exact ⟨h1,by rcases Nat.eq_zero_or_pos i with h|h;exact .inl a5;exact .inr (by have:=h2 h;omega),by omega,h4⟩
    ·rintro ⟨h1,h2,h3,h4⟩;exact ⟨⟨h1,fun h=>by omega,by omega⟩,h4⟩
   rw [hr,zc6,zey]
   cases inB (cJ p.Domains i).Station 0 511
   ·rfl
   cases (decide (0<(i:Int))&&decide ((cJ p.Domains i).Station≤(cJ p.Domains (i - 1)).Station))
   rotate_left
   ·rfl
   cases decide (50<((cJ p.Domains i).Channels.length:Int))
   rotate_left
   ·rfl
   rfl
  ·have hr:zjx (cJ p.Domains i).Channels k=(!decide (cJ (cJ p.Domains i).Channels k<2)&&(!decide (51<cJ (cJ p.Domains i).Channels k)&& !(decide (0<(k:Int))&&decide (cJ (cJ p.Domains i).Channels k≤cJ (cJ p.Domains i).Channels (k - 1))))):=by
    unfold zjx;rw [Bool.eq_iff_iff,decide_eq_true_eq];simp only [Bool.and_eq_true,Bool.not_eq_true',Bool.and_eq_false_iff,decide_eq_false_iff_not];omega
   rw [hr,zc6]
   cases decide (cJ (cJ p.Domains i).Channels k<2)
   rotate_left
   ·rfl
   cases decide (51<cJ (cJ p.Domains i).Channels k)
   rotate_left
   ·rfl
   cases (decide (0<(k:Int))&&decide (cJ (cJ p.Domains i).Channels k≤cJ (cJ p.Domains i).Channels (k - 1))) <;> rfl
theorem zop {p:GProblem}{a b:Int}{fuel:Nat}(hf:1000≤fuel):∃r,zcJ fuel p a b=some r:=by
 unfold zcJ;simp only [dH];refine zdS (σ:=Int) (I:=fun i=>0≤i∧i≤600) (μ:=fun i=>(600 - i).toNat) (post:=fun o=>∃r,o=some r) ⟨by omega,by omega⟩ a5 ?_;intro i next hi hn;by_cases h1:i<(p.Domains.length:Int) <;> by_cases h2:i<600
 ·rw [decide_eq_true h1,decide_eq_true h2,Bool.and_true,cond_true,fE ⟨hi.1,h1⟩]
  cases decide (60<((cJ p.Domains i.toNat).Channels.length:Int))
  ·exact hn _ ⟨by omega,by omega⟩ a5
  ·exact ⟨_,rfl⟩
 ·rw [decide_eq_false h2,Bool.and_false,cond_false];exact ⟨_,rfl⟩
 ·rw [decide_eq_false h1,Bool.false_and,cond_false];exact ⟨_,rfl⟩
 ·rw [decide_eq_false h1,Bool.false_and,cond_false];exact ⟨_,rfl⟩
theorem gm {s c:Int}{x:GDomain}{q:Int}:q∈(i7 s c x).Channels↔q∈x.Channels∧(x.Station=s→q=c):=by
 unfold i7;dsimp only;by_cases hs:x.Station=s
 ·rw [decide_eq_true hs,cond_true]
  cases ha:x.Channels.any (fun k=>decide (k=c)) with
  |true=>
   rw [cond_true];obtain ⟨k,hk,he⟩:=List.any_eq_true.1 ha;have:=of_decide_eq_true he;subst this;simp only [List.mem_singleton];exact ⟨fun h=>by subst h;exact ⟨hk,fun _=>rfl⟩,fun h=>h.2 hs⟩
  |false=>
   rw [cond_false];refine ⟨(fun h=>by cases h),fun h=>?_⟩;have:=h.2 hs;subst this;have:=List.any_eq_false.1 ha q h.1;simp at this
 ·rw [decide_eq_false hs,cond_false];exact ⟨fun h=>⟨h,fun h2=>absurd h2 hs⟩,fun h=>h.1⟩
theorem zit {s c:Int}{x:GDomain}:(i7 s c x).Channels.Sublist x.Channels:=by
 unfold i7;dsimp only
 cases decide (x.Station=s)
 ·exact eh
 ·cases ha:x.Channels.any (fun k=>decide (k=c))
  ·exact List.nil_sublist _
  ·obtain ⟨k,hk,he⟩:=List.any_eq_true.1 ha;have:=of_decide_eq_true he;subst this;exact List.singleton_sublist.2 hk
section
variable {p:GProblem}{a b d:List GDomain}
theorem nP {s c:Int}:SubD (d.map (i7 s c)) d∧OrdD (d.map (i7 s c)) d:=by
 refine ⟨⟨List.length_map _,fun i hi=>?_⟩,fun i hi=>?_⟩
 ·rw [i5 hi];exact ⟨rfl,fun k hk=>(gm.1 hk).1⟩
 ·rw [i5 hi];exact zit
theorem zlP {s c:Int}(h:SubD a b):SubD (a.map (i7 s c)) (b.map (i7 s c)):=by
 refine ⟨by rw [List.length_map,List.length_map,h.1],fun i hi=>?_⟩;rw [List.length_map] at hi;rw [i5 hi,i5 (by rw [h.1];exact hi)];have h2:=h.2 i hi;refine ⟨h2.1,fun k hk=>?_⟩;rw [gm] at hk ⊢;exact ⟨h2.2 k hk.1,fun e=>hk.2 (h2.1.trans e)⟩
theorem OrdD.trans {c:List GDomain}(h:OrdD a b)(k:OrdD b c)(hl:b.length=c.length):OrdD a c:=fun i hi=>(h i (by rw [hl];exact hi)).trans (k i hi)
theorem Bd.ord (hb:Bd b)(hl:a.length=b.length)(h:OrdD a b):Bd a:=by
 refine ⟨by rw [hl];exact hb.len,fun x hx=>?_⟩;obtain ⟨i,hi,rfl⟩:=iv hx; (have hi':i<b.length:=by rw [←hl];exact hi);have h2:=hb.ch _ (fg hi');exact ⟨Nat.le_trans (h i hi').length_le h2.1,h2.2.sublist (h i hi')⟩
theorem zd6:∀ {a b:List GDomain},a.length=b.length→OrdD a b→eD a≤eD b
 | [],[],_,_=>Nat.le_refl _
 |x :: r,y :: q,hl,h=>by
  have h0:=(h 0 a9).length_le
  have ih:=zd6 (a:=r) (b:=q) (by simpa using hl) (fun i hi=>by
   have:=h (i+1) cG
   simpa [cJ] using this)
  simp only [eD,List.map_cons,List.sum_cons] at ih ⊢;have e1:cJ (x :: r) 0=x:=rfl;have e2:cJ (y :: q) 0=y:=rfl;rw [e1,e2] at h0;omega
theorem PropD.eq {r r':List GDomain×Bool}(hb:Bd d)(h:PropD p d r)(h':PropD p d r'):r=r':=by
 rcases h with ⟨h1,h2,h3,h4⟩|⟨h1,h2⟩
 ·rcases h' with ⟨g1,g2,g3,g4⟩|⟨g1,g2⟩
  ·have e1:=h4 _ g2 g3.1;have e2:=g4 _ h2 h3.1
   have:r.1=r'.1:=by
    refine zfc (by rw [e2.1]) fun i hi=>?_; (have hi1:i<r'.1.length:=by rw [←e2.1];exact hi); (have hid:i<d.length:=by rw [←h3.1.1];exact hi);have a1:=e1.2 i hi;have a2:=e2.2 i hi1;have hch:(cJ r.1 i).Channels=(cJ r'.1 i).Channels:=zdF (h3.2 i hid) (g3.2 i hid) (hb.ch _ (fg hid)).2 (fun x=>⟨a2.2 x,a1.2 x⟩)
    cases hx:cJ r.1 i with
    |mk s1 c1=>
     cases hy:cJ r'.1 i with
     |mk s2 c2=>
      have b1:=a2.1;rw [hx,hy] at b1 hch;simp only at b1 hch;rw [b1,hch]
   exact Prod.ext this (h1.trans g1.symm)
  ·exact absurd h3.1 (g2 _ h2)
 ·rcases h' with ⟨g1,g2,g3,g4⟩|⟨g1,g2⟩
  ·exact absurd g3.1 (h2 _ g2)
  ·rw [h1,g1]
theorem PropD.keep {m r:List GDomain×Bool}{s c:Int}(h:PropD p d m)(hm:m.2=true)(hr:PropD p (m.1.map (i7 s c)) r):PropD p (d.map (i7 s c)) r:=by
 rcases h with ⟨_,h2,h3,h4⟩|⟨h1,_⟩
 ·have hsup:∀S,ClosedD p S→SubD S (d.map (i7 s c))→SubD S (m.1.map (i7 s c)):=fun S hS hs=>by
   have h5:=h4 S hS (hs.trans nP.1);refine ⟨by rw [List.length_map];exact h5.1,fun i hi=>?_⟩;rw [List.length_map] at hi; (have hid:i<d.length:=by rw [←h3.1.1];exact hi);rw [i5 hi];have h6:=h5.2 i hi;refine ⟨h6.1,fun k hk=>gm.2 ⟨h6.2 k hk,fun e=>?_⟩⟩;have h7:=(hs.2 i (by rw [List.length_map];exact hid)).2 k hk;rw [i5 hid] at h7;exact (gm.1 h7).2 (by rw [←(h3.1.2 i hid).1];exact e)
  rcases hr with ⟨g1,g2,g3,g4⟩|⟨g1,g2⟩
  ·refine .inl ⟨g1,g2,⟨g3.1.trans (zlP h3.1),fun i hi=>?_⟩,fun S hS hs=>g4 S hS (hsup S hS hs)⟩;rw [List.length_map] at hi; (have hi':i<m.1.length:=by rw [h3.1.1];exact hi);have h8:=g3.2 i (by rw [List.length_map];exact hi');rw [i5 hi'] at h8;rw [i5 hi];refine h8.trans ?_;have hst:=(h3.1.2 i hi).1;have hsb:=h3.2 i hi;unfold i7;dsimp only;rw [hst]
   cases decide ((cJ d i).Station=s)
   ·exact hsb
   ·cases ha:(cJ m.1 i).Channels.any (fun k=>decide (k=c))
    ·exact List.nil_sublist _
    ·obtain ⟨k,hk,he⟩:=List.any_eq_true.1 ha;rw [List.any_eq_true.2 ⟨k,hsb.subset hk,he⟩];exact eh
  ·exact .inr ⟨g1,fun S hS hs=>g2 S hS (hsup S hS hs)⟩
 ·rw [h1] at hm;cases hm
theorem PropD.keepBad {m:List GDomain×Bool}{d':List GDomain}(h:PropD p d m)(hm:m.2=false)(hs:SubD d' d):PropD p d' m:=by
 rcases h with ⟨h1,_⟩|⟨h1,h2⟩
 ·rw [h1] at hm;cases hm
 ·exact .inr ⟨h1,fun S hS hh=>h2 S hS (hh.trans hs)⟩
theorem PropD.ord {m:List GDomain×Bool}(h:PropD p d m)(hm:m.2=true):m.1.length=d.length∧OrdD m.1 d:=by
 rcases h with ⟨_,_,h3,_⟩|⟨h1,_⟩
 ·exact ⟨h3.1.1,h3.2⟩
 ·rw [h1] at hm;cases hm
def mU (l:List GChoice)(i:Nat):Bool:=inB (cJ l i).Station 0 511&&(inB (cJ l i).Channel 2 51&& !(decide (0<(i:Int))&&decide ((cJ l i).Station≤(cJ l (i - 1)).Station)))
theorem zf8 {l:List GChoice}:zaS l=(List.range l.length).all (mU l):=by
 unfold zaS;refine ky ?_;rw [zcH (mU l) (fun i next _=>?_),Bool.and_true];rw [zc6,zey]
 have e:mU l i=(inB (cJ l i).Station 0 511&&(!decide ((cJ l i).Channel<2)&&(!decide (51<(cJ l i).Channel)&& !(decide (0<(i:Int))&&decide ((cJ l i).Station≤(cJ l (i - 1)).Station))))):=by
  unfold mU;rw [←Bool.and_assoc (!decide _)]
  congr 1
  congr 1
  unfold inB;by_cases h1:2≤(cJ l i).Channel <;> by_cases h2:(cJ l i).Channel≤51 <;> simp [h1,h2,Int.not_lt,Int.not_le] <;> omega
 rw [e]
 cases inB (cJ l i).Station 0 511 <;> cases decide ((cJ l i).Channel<2) <;> cases decide (51<(cJ l i).Channel) <;> cases (decide (0<(i:Int))&&decide ((cJ l i).Station≤(cJ l (i - 1)).Station)) <;> rfl
theorem zpl (p:GProblem):(eL p).er=p:=by
 unfold eL Pb.er;dsimp only;rw [ze0 (g:=Dx.er) (fun _=>rfl),ze0 (g:=Pr.er) (fun _=>rfl),ze0 (g:=Ld.er) (fun _=>rfl),ze0 (g:=Cp.er) (fun _=>rfl)]
theorem zjX {d:List GDomain}{n:Nat}(h:∀x∈d,x.Channels.length≤n):eD d≤d.length*n:=by
 induction d with
 |nil=>simp [eD]
 |cons x r ih=>
  have h1:=h x a9;have h2:=ih (fun y hy=>h y (by simp [hy]));simp only [eD,List.map_cons,List.sum_cons,List.length_cons,Nat.add_mul] at h2 ⊢;omega
theorem zhc (h:gv p=true):WtP p∧Bd p.Domains∧eD p.Domains≤30000∧p.Domains.length≤512:=by
 have hG:=Pb.good h;have hw:=zos h;rw [zpl] at hw;have hl:(eL p).ds.length=p.Domains.length:=List.length_map _; (have hn:p.Domains.length≤512:=by rw [←hl];exact hG.n)
 have hc:∀x∈p.Domains,x.Channels.length≤52∧x.Channels.Nodup:=fun x hx=>by
  obtain ⟨i,hi,rfl⟩:=iv hx;have e:cJ (eL p).ds i=(cJ p.Domains i).b:=jI hi;have h1:=hG.chs _ (fg (show i<(eL p).ds.length by rw [hl];exact hi));have h2:=zlF h (i:=i) (by rw [hl];exact hi);rw [e] at h1 h2;exact ⟨h1.1,(zeR List.nodup_range').sublist h2⟩
 refine ⟨hw,⟨by omega,fun x hx=>⟨by have:=(hc x hx).1;omega,(hc x hx).2⟩⟩,?_,hn⟩;have:=zjX (d:=p.Domains) (n:=52) (fun x hx=>(hc x hx).1);omega
theorem lP {s:Int}:fF p s<0↔i4 p s=false:=znO
end
structure GG (p:GProblem):Prop where
 n:p.Domains.length≤512
 st:∀x∈p.Domains,0≤x.Station∧x.Station≤511
 chs:∀x∈p.Domains,x.Channels.length≤52∧∀c∈x.Channels,2≤c∧c≤51
 inc:∀i j,i<j→j<p.Domains.length→(cJ p.Domains i).Station<(cJ p.Domains j).Station
 ps:∀x∈p.Rules.Pairs,(i4 p x.A=true∧i4 p x.B=true)∧(x.A<x.B∧ -1≤x.Offset∧x.Offset≤1)∧2≤x.Low∧x.Low≤x.High∧x.High≤51
 ls:∀x∈p.Rules.Loads,(i4 p x.To=true∧i4 p x.From=true)∧(x.To≠x.From∧1≤x.Weight∧x.Weight≤1073741824)∧2≤x.Low∧x.Low≤x.High∧x.High≤51
 cs:∀x∈p.Rules.Caps,i4 p x.Station=true∧(0≤x.Max∧x.Max≤1099511627776)∧2≤x.Low∧x.Low≤x.High∧x.High≤51
 lls:p.Rules.Loads.length≤1024
 lps:p.Rules.Pairs.length≤4096
 lcs:p.Rules.Caps.length≤1024
theorem gR {p:GProblem}{s:Int}:i4 p s=true↔∃x∈p.Domains,x.Station=s:=by
 unfold i4;rw [List.any_eq_true];simp only [decide_eq_true_eq]
theorem zlh {p:GProblem}(h:gv p=true):GG p:=by
 have hG:=Pb.good h;have hl:(eL p).ds.length=p.Domains.length:=List.length_map _;have hn:∀i,i<p.Domains.length→cJ (eL p).ds i=(cJ p.Domains i).b:=fun i hi=>i5 hi
 have hs:∀ {s:Int},(∃i,i<(eL p).ds.length∧s=(cJ (eL p).ds i).st)→i4 p s=true:=fun ⟨i,hi,e⟩=>by
  rw [hl] at hi;rw [hn i hi] at e;exact gR.2 ⟨_,fg hi,e.symm⟩
 refine ⟨by rw [←hl];exact hG.n,fun x hx=>hG.st x.b (List.mem_map.2 ⟨x,hx,rfl⟩),fun x hx=>hG.chs x.b (List.mem_map.2 ⟨x,hx,rfl⟩),fun i j hij hj=>?_,fun x hx=>?_,fun x hx=>?_,fun x hx=>?_,?_,?_,?_⟩
 ·have:=hG.inc i j hij (by rw [hl];exact hj);rw [hn i a5,hn j hj] at this;exact this
 ·obtain ⟨h1,h2,h3⟩:=hG.ps x.b (List.mem_map.2 ⟨x,hx,rfl⟩);simp only [Pr.ok,fj,inB,Bool.and_eq_true,decide_eq_true_eq] at h1;exact ⟨⟨hs h2,hs h3⟩,by show x.A<x.B∧_;exact ⟨h1.2.2.1,h1.2.2.2.1.1,h1.2.2.2.1.2⟩,h1.2.2.2.2.1,h1.2.2.2.2.2.1,h1.2.2.2.2.2.2⟩
 ·obtain ⟨h1,h2,h3⟩:=hG.ls x.b (List.mem_map.2 ⟨x,hx,rfl⟩);simp only [Ld.ok,fj,inB,Bool.and_eq_true,decide_eq_true_eq] at h1;exact ⟨⟨hs h2,hs h3⟩,⟨h1.2.2.1,h1.2.2.2.1.1,h1.2.2.2.1.2⟩,h1.2.2.2.2.1,h1.2.2.2.2.2.1,h1.2.2.2.2.2.2⟩
 ·obtain ⟨h1,h2⟩:=hG.cs x.b (List.mem_map.2 ⟨x,hx,rfl⟩);simp only [Cp.ok,fj,inB,Bool.and_eq_true,decide_eq_true_eq] at h1;exact ⟨hs h2,⟨h1.2.1.1,h1.2.1.2⟩,h1.2.2.1,h1.2.2.2.1,h1.2.2.2.2⟩
 ·have:=hG.lls;have e:(eL p).ls.length=p.Rules.Loads.length:=List.length_map _;omega
 ·have:=hG.lps;have e:(eL p).ps.length=p.Rules.Pairs.length:=List.length_map _;omega
 ·have:=hG.lcs;have e:(eL p).cs.length=p.Rules.Caps.length:=List.length_map _;omega
structure ValidL (l:List GChoice):Prop where
 good:∀c∈l,0≤c.Station∧c.Station≤511∧2≤c.Channel∧c.Channel≤51
 inc:∀i j,i<j→j<l.length→(cJ l i).Station<(cJ l j).Station
theorem jx {l:List GChoice}:(List.range l.length).all (mU l)=true↔ValidL l:=by
 rw [List.all_eq_true];simp only [List.mem_range,mU,inB,Bool.and_eq_true,decide_eq_true_eq,Bool.not_eq_true',Bool.and_eq_false_iff,decide_eq_false_iff_not];constructor
 ·intro h;refine ⟨fun c hc=>?_,fun i j hij hj=>?_⟩
  ·obtain ⟨i,hi,rfl⟩:=iv hc;have:=h i hi;omega
  ·have key:∀m,i+m+1<l.length→(cJ l i).Station<(cJ l (i+m+1)).Station:=by
    intro m
    induction m with
    |zero=>intro hm;have:=(h (i+1) hm).2.2;rw [show i+1 - 1=i by omega] at this;rw [Nat.add_zero];omega
    |succ m ih=>intro hm;have h1:=ih a5;have:=(h (i+(m+1)+1) hm).2.2;rw [show i+(m+1)+1 - 1=i+m+1 by omega] at this;omega
   have:=key (j - i - 1) a5
   rwa [show i+(j - i - 1)+1=j by omega] at this
 ·intro h i hi;have:=h.good _ (fg hi);refine ⟨by omega,by omega,?_⟩;rcases Nat.eq_zero_or_pos i with h0|h0
  ·subst h0;left;omega
  ·right;have:=h.inc (i - 1) i a5 hi;omega
theorem ValidL.inj {l:List GChoice}(h:ValidL l){a b:GChoice}(ha:a∈l)(hb:b∈l)(e:a.Station=b.Station):a=b:=by
 obtain ⟨i,hi,rfl⟩:=iv ha;obtain ⟨j,hj,rfl⟩:=iv hb;rcases Nat.lt_trichotomy i j with h1|h1|h1
 ·have:=h.inc i j h1 hj;omega
 ·rw [h1]
 ·have:=h.inc j i h1 hi;omega
def orV (k:Int)(o:Option Nat)(r:GViolation):GViolation:=match o with
 |some i=>⟨k,(i:Int)⟩
 |none=>r
section
variable {p:GProblem}{f:Int→Int}
end
structure FiltD (f:GDomain→GDomain) (φ:Int→Int→Prop):Prop where
 st:∀x,(f x).Station=x.Station
 mem:∀x q,q∈(f x).Channels↔q∈x.Channels∧φ x.Station q
 sub:∀x,(f x).Channels.Sublist x.Channels
 mono:∀x y,x.Station=y.Station→x.Channels.Sublist y.Channels→(f x).Channels.Sublist (f y).Channels
theorem nS:FiltD id (fun _ _=>True):=⟨fun _=>rfl,fun _ _=>by simp,fun _=>List.Sublist.refl _,fun _ _ _ h=>h⟩
theorem FiltD.keep (s c:Int):FiltD (i7 s c) (fun t q=>t=s→q=c):=by
 refine ⟨fun _=>rfl,fun _ _=>gm,fun _=>zit,fun x y hst hsb=>?_⟩;unfold i7;dsimp only;rw [hst]
 cases decide (y.Station=s)
 ·exact hsb
 ·cases ha:x.Channels.any (fun k=>decide (k=c))
  ·exact List.nil_sublist _
  ·obtain ⟨k,hk,he⟩:=List.any_eq_true.1 ha;rw [List.any_eq_true.2 ⟨k,hsb.subset hk,he⟩];exact eh
theorem FiltD.drop (s c:Int):FiltD (jc s c) (fun t q=>¬t=s∨¬q=c):=by
 refine ⟨fun _=>rfl,fun x q=>?_,fun _=>List.filter_sublist,fun x y hst hsb=>?_⟩
 ·unfold jc;simp only [List.mem_filter,Bool.or_eq_true,decide_eq_true_eq]
 ·unfold jc;dsimp only;rw [hst];exact hsb.filter _
section
variable {p:GProblem}{a b d:List GDomain}{f:GDomain→GDomain}{φ:Int→Int→Prop}
theorem FiltD.subD (h:FiltD f φ):SubD (d.map f) d∧OrdD (d.map f) d:=by
 refine ⟨⟨List.length_map _,fun i hi=>?_⟩,fun i hi=>?_⟩
 ·rw [i5 hi];exact ⟨h.st _,fun c hc=>((h.mem _ _).1 hc).1⟩
 ·rw [i5 hi];exact h.sub _
theorem FiltD.monoD (h:FiltD f φ)(hs:SubD a b):SubD (a.map f) (b.map f):=by
 refine ⟨by rw [List.length_map,List.length_map];exact hs.1,fun i hi=>?_⟩;rw [List.length_map] at hi;rw [i5 hi,i5 (by rw [hs.1];exact hi)];have h2:=hs.2 i hi;refine ⟨by rw [h.st,h.st];exact h2.1,fun c hc=>?_⟩;have h3:=(h.mem _ _).1 hc;exact (h.mem _ _).2 ⟨h2.2 c h3.1,by rw [←h2.1];exact h3.2⟩
theorem lG {m r:List GDomain×Bool}(hf:FiltD f φ)(h:PropD p d m)(hm:m.2=true)(hr:PropD p (m.1.map f) r):PropD p (d.map f) r:=by
 rcases h with ⟨_,h2,h3,h4⟩|⟨h1,_⟩
 ·have hsup:∀S,ClosedD p S→SubD S (d.map f)→SubD S (m.1.map f):=fun S hS hs=>by
   have h5:=h4 S hS (hs.trans hf.subD.1);refine ⟨by rw [List.length_map];exact h5.1,fun i hi=>?_⟩;rw [List.length_map] at hi; (have hid:i<d.length:=by rw [←h3.1.1];exact hi);rw [i5 hi];have h6:=h5.2 i hi;refine ⟨by rw [hf.st];exact h6.1,fun k hk=>(hf.mem _ _).2 ⟨h6.2 k hk,?_⟩⟩;have h7:=(hs.2 i (by rw [List.length_map];exact hid)).2 k hk;rw [i5 hid] at h7;rw [(h3.1.2 i hid).1];exact ((hf.mem _ _).1 h7).2
  rcases hr with ⟨g1,g2,g3,g4⟩|⟨g1,g2⟩
  ·refine .inl ⟨g1,g2,⟨g3.1.trans (hf.monoD h3.1),fun i hi=>?_⟩,fun S hS hs=>g4 S hS (hsup S hS hs)⟩;rw [List.length_map] at hi; (have hi':i<m.1.length:=by rw [h3.1.1];exact hi);have h8:=g3.2 i (by rw [List.length_map];exact hi');rw [i5 hi'] at h8;rw [i5 hi];exact h8.trans (hf.mono _ _ (h3.1.2 i hi).1 (h3.2 i hi))
  ·exact .inr ⟨g1,fun S hS hs=>g2 S hS (hsup S hS hs)⟩
 ·rw [h1] at hm;cases hm
def iy (keep:Bool)(c:GChoice):GDomain→GDomain:=bif ma c then (bif keep then i7 c.Station c.Channel else jc c.Station c.Channel) else id
def actQ (keep:Bool)(c:GChoice)(s q:Int):Prop:=ma c=true→s=c.Station→(q=c.Channel↔keep=true)
theorem zfp (keep:Bool)(c:GChoice):FiltD (iy keep c) (actQ keep c):=by
 have key:∀ {φ ψ:Int→Int→Prop} {f:GDomain→GDomain},FiltD f φ→(∀s q,φ s q↔ψ s q)→FiltD f ψ:=fun h k=>⟨h.st,fun x q=>by rw [h.mem,k],h.sub,h.mono⟩;unfold iy actQ
 cases ma c
 ·exact key nS (fun s q=>by simp)
 ·cases keep
  ·exact key (FiltD.drop _ _) (fun s q=>by simp;constructor <;> intro h <;> by_cases e:s=c.Station <;> simp_all)
  ·exact key (FiltD.keep _ _) (fun s q=>by simp)
theorem zl6 {fuel:Nat}(hf:100000≤fuel)(hok:gv p=true)(hd:SubD d p.Domains∧OrdD d p.Domains){m:List GDomain×Bool}(h:PropD p d m)(keep:Bool)(c:GChoice):∃r,mP fuel p m keep c=some (r,bif !ma c then 2 else bif !m.2 then 8 else bif !i4 p c.Station then 9 else 0)∧PropD p (d.map (iy keep c)) r:=by
 obtain ⟨hw,hbd,ht,hn⟩:=zhc hok;unfold mP
 cases hg:ma c
 ·refine ⟨m,rfl,?_⟩; (have e:iy keep c=id:=by unfold iy;rw [hg];rfl);rw [e,List.map_id];exact h
 ·cases hm:m.2
  ·exact ⟨m,rfl,h.keepBad hm (zfp keep c).subD.1⟩
  ·cases hh:i4 p c.Station
   ·refine ⟨m,rfl,?_⟩
    have e:d.map (iy keep c)=d:=by
     refine (List.map_congr_left (g:=id) fun x hx=>?_).trans (List.map_id _);obtain ⟨i,hi,rfl⟩:=iv hx; (have hi':i<p.Domains.length:=by rw [←hd.1.1];exact hi)
     have hne:¬(cJ d i).Station=c.Station:=by
      rw [(hd.1.2 i hi').1];intro e;have:i4 p c.Station=true:=List.any_eq_true.2 ⟨_,fg hi',by simpa using e⟩;rw [hh] at this;cases this
     unfold iy;rw [hg,cond_true]
     cases keep
     ·show jc _ _ _=_
      unfold jc;have:(cJ d i).Channels.filter (fun k=>decide (¬(cJ d i).Station=c.Station)||decide (¬k=c.Channel))=(cJ d i).Channels:=List.filter_eq_self.2 (fun k _=>by simp [hne]);rw [this];rfl
     ·show i7 _ _ _=_
      unfold i7;rw [decide_eq_false hne];rfl
    rw [e];exact h
   ·have ho:=h.ord hm;have hol:=ho.2.trans hd.2 hd.1.1;have hlen:m.1.length=p.Domains.length:=ho.1.trans hd.1.1;have hb1:=hbd.ord hlen hol;have ht1:=zd6 hlen hol;have hs:=(zfp keep c).subD (d:=m.1);have hb2:=hb1.ord hs.1.1 hs.2;have ht2:=zd6 hs.1.1 hs.2;obtain ⟨r,h5,h6⟩:=zfb (fuel:=fuel) hw hb2 (by rw [hs.1.1];omega) a5;refine ⟨r,?_,lG (zfp keep c) h hm h6⟩
    have e:(bif keep then zb2 m.1 c.Station c.Channel else zbx m.1 c.Station c.Channel)=some (m.1.map (iy keep c)):=by
     unfold iy;rw [hg]
     cases keep
     ·exact zlS hb1.len (fun x hx=>(hb1.ch x hx).1)
     ·exact zmp hb1.len (fun x hx=>(hb1.ch x hx).1)
    simp only [Bool.not_true,cond_false];rw [e,Option.bind_some,h5];rfl
end
theorem zge {l:List GChoice}:lE l=(List.range l.length).all (mU l):=by
 unfold lE;refine ky ?_;rw [zcH (mU l) (fun i next _=>?_),Bool.and_true];rw [zc6];unfold mU
 show (bif !(inB (cJ l i).Station 0 511)|| !(inB (cJ l i).Channel 2 51) then false else _)=_
 cases inB (cJ l i).Station 0 511 <;> cases inB (cJ l i).Channel 2 51 <;> cases (decide (0<(i:Int))&&decide ((cJ l i).Station≤(cJ l (i - 1)).Station)) <;> rfl
def ms (p:GProblem)(i:Nat)(n b:Nat):Prop:=∃j,j<i∧(cJ p.Domains j).Station=(n:Int)∧(b=0∨(b:Int)∈(cJ p.Domains j).Channels)
theorem znW {c b:Nat}(hc:c<64):((1#64) <<< c).getLsbD b=decide (b=c):=by
 rw [BitVec.getLsbD_shiftLeft];by_cases h:b=c
 ·subst h;simp [hc]
 ·by_cases h1:b<c
  ·simp [h1,h]
  ·(have:b - c≠0:=by omega);rw [decide_eq_false h];by_cases h2:b<64
   ·have e:(1#64).getLsbD (b - c)=false:=by
     rw [BitVec.getLsbD_one];simp;omega
    rw [e,Bool.and_false]
   ·simp [h2]
theorem zmD {p:GProblem}(hG:GG p):∃v,zcd p=some v∧∀n b,n<512→b<64→((Vec.get v n).getLsbD b=true↔ms p p.Domains.length n b):=by
 unfold zcd;refine ky ?_;refine kj (fun i (c:Vec 512 (BitVec 64))=>∀n b,n<512→b<64→((Vec.get c n).getLsbD b=true↔ms p i n b)) (fun o=>∃v:Vec 512 (BitVec 64),o=some v∧∀n b,n<512→b<64→((Vec.get v n).getLsbD b=true↔ms p p.Domains.length n b)) ?_ (fun v hv=>⟨v,rfl,hv⟩) (fun i c next hi hc hn=>?_)
 ·intro n b hn hb;rw [gA hn];constructor
  ·intro h;simp at h
  ·rintro ⟨j,hj,_⟩;omega
 have hs:=hG.st _ (fg hi);have hch:=hG.chs _ (fg hi);rw [fE a5]; (have hlt:(cJ p.Domains i).Station.toNat<512:=by omega);refine kj (fun k (e:Vec 512 (BitVec 64))=>∀n b,n<512→b<64→((Vec.get e n).getLsbD b=true↔ms p i n b∨((cJ p.Domains i).Station=(n:Int)∧(b=0∨∃q,q<k∧cJ (cJ p.Domains i).Channels q=(b:Int))))) (fun o=>∃v:Vec 512 (BitVec 64),o=some v∧∀n b,n<512→b<64→((Vec.get v n).getLsbD b=true↔ms p p.Domains.length n b)) ?_ (fun e he=>hn e fun n b h1 h2=>?_) (fun k e next' hk he hn'=>?_)
 ·intro n b h1 h2;rw [fA hlt];by_cases e:n=(cJ p.Domains i).Station.toNat
  ·rw [if_pos e,BitVec.getLsbD_one]; (have e':(cJ p.Domains i).Station=(n:Int):=by omega);constructor
   ·intro h;simp at h;exact .inr ⟨e', .inl h⟩
   ·rintro (⟨j,hj,h3,_⟩|⟨_,h3|⟨q,hq,_⟩⟩)
    ·have:=hG.inc j i hj hi;omega
    ·simp [h3]
    ·omega
  ·rw [if_neg e,hc n b h1 h2]; (have e':¬(cJ p.Domains i).Station=(n:Int):=by omega);simp [e']
 ·rw [he n b h1 h2];constructor
  ·rintro (⟨j,hj,h3⟩|⟨h3,h4⟩)
   ·exact ⟨j,by omega,h3⟩
   ·refine ⟨i,by omega,h3,h4.imp id ?_⟩;rintro ⟨q,hq,e⟩;rw [←e];exact fg hq
  ·rintro ⟨j,hj,h3,h4⟩;rcases Nat.lt_or_ge j i with h5|h5
   ·exact .inl ⟨j,h5,h3,h4⟩
   ·(obtain rfl:j=i:=by omega);refine .inr ⟨h3,h4.imp id fun h=>?_⟩;obtain ⟨q,hq,e⟩:=iv h;exact ⟨q,hq,e⟩
 ·have hc2:=hch.2 _ (fg hk);rw [fE a5];refine hn' _ fun n b h1 h2=>?_;rw [fA hlt];by_cases e:n=(cJ p.Domains i).Station.toNat
  ·(have e':(cJ p.Domains i).Station=(n:Int):=by omega);rw [if_pos e,BitVec.getLsbD_or,znW a5,Bool.or_eq_true,decide_eq_true_eq,←e,he n b h1 h2];constructor
   ·rintro ((h3|⟨h3,h4|⟨q,hq,h5⟩⟩)|h3)
    ·exact .inl h3
    ·exact .inr ⟨e', .inl h4⟩
    ·exact .inr ⟨e', .inr ⟨q,by omega,h5⟩⟩
    ·exact .inr ⟨e', .inr ⟨k,by omega,by omega⟩⟩
   ·rintro (h3|⟨h3,h4|⟨q,hq,h5⟩⟩)
    ·exact .inl (.inl h3)
    ·exact .inl (.inr ⟨e', .inl h4⟩)
    ·rcases Nat.lt_or_ge q k with h6|h6
     ·exact .inl (.inr ⟨e', .inr ⟨q,h6,h5⟩⟩)
     ·(obtain rfl:q=k:=by omega);exact .inr a5
  ·(have e':¬(cJ p.Domains i).Station=(n:Int):=by omega);rw [if_neg e,he n b h1 h2];simp [e']
def TabN (p:GProblem)(v:Vec 512 (BitVec 64)):Prop:=∀n b,n<512→b<64→((Vec.get v n).getLsbD b=true↔ms p p.Domains.length n b)
theorem TabN.zero {p:GProblem}{v:Vec 512 (BitVec 64)}(hG:GG p)(h:TabN p v){s:Int}(h0:0≤s∧s≤511):decide (((Vec.get v s.toNat).toNat:Int)=((0#64).toNat:Int))= !i4 p s:=by
 have key:i4 p s=true↔(Vec.get v s.toNat).getLsbD 0=true:=by
  rw [h _ _ a5 a5,gR];constructor
  ·rintro ⟨x,hx,e⟩;obtain ⟨j,hj,rfl⟩:=iv hx;exact ⟨j,hj,by omega, .inl rfl⟩
  ·rintro ⟨j,hj,e,_⟩;exact ⟨_,fg hj,by omega⟩
 have none:i4 p s=false→∀b,b<64→(Vec.get v s.toNat).getLsbD b=false:=fun hf b hb=>by
  cases hg:(Vec.get v s.toNat).getLsbD b with
  |false=>rfl
  |true=>
   obtain ⟨j,hj,e,_⟩:=(h _ _ a5 hb).1 hg;have:i4 p s=true:=gR.2 ⟨_,fg hj,by omega⟩;rw [hf] at this;cases this
 cases hh:i4 p s with
 |true=>
  refine decide_eq_false fun e=>?_;have h1:=key.1 hh;have e2:Vec.get v s.toNat=0#64:=BitVec.eq_of_toNat_eq a5;rw [e2] at h1;simp at h1
 |false=>
  refine decide_eq_true ?_; (have e2:Vec.get v s.toNat=0#64:=BitVec.eq_of_getLsbD_eq fun b hb=>by rw [none hh b hb];simp);rw [e2]
def kT (p:GProblem)(s c:Int):Bool:=p.Domains.any fun x=>decide (x.Station=s)&&x.Channels.any fun k=>decide (k=c)
theorem i0 {p:GProblem}{s c:Int}:kT p s c=true↔∃x∈p.Domains,x.Station=s∧c∈x.Channels:=by
 unfold kT;simp only [List.any_eq_true,Bool.and_eq_true,decide_eq_true_eq];constructor
 ·rintro ⟨x,hx,h1,k,hk,rfl⟩;exact ⟨x,hx,h1,hk⟩
 ·rintro ⟨x,hx,h1,hk⟩;exact ⟨x,hx,h1,c,hk,rfl⟩
theorem zoe {x:BitVec 64}{c:Nat}:decide ((((x >>> c) &&& (1#64)).toNat:Int)=((0#64).toNat:Int))= !x.getLsbD c:=by
 have e:((x >>> c) &&& (1#64))=bif x.getLsbD c then 1#64 else 0#64:=by
  refine BitVec.eq_of_getLsbD_eq fun b hb=>?_;rw [BitVec.getLsbD_and,BitVec.getLsbD_ushiftRight,BitVec.getLsbD_one];by_cases h0:b=0
  ·subst h0;cases x.getLsbD c <;> simp
  ·cases x.getLsbD c <;> simp [h0]
 rw [e]
 cases x.getLsbD c <;> rfl
theorem TabN.bit {p:GProblem}{v:Vec 512 (BitVec 64)}(h:TabN p v){s c:Int}(h0:0≤s∧s≤511)(h1:2≤c∧c≤51):(Vec.get v s.toNat).getLsbD c.toNat=kT p s c:=by
 rw [Bool.eq_iff_iff,h _ _ a5 a5,i0];constructor
 ·rintro ⟨j,hj,e,h2|h2⟩
  ·omega
  ·exact ⟨_,fg hj,by omega,by rw [show c=((c.toNat:Nat):Int) by omega];exact h2⟩
 ·rintro ⟨x,hx,e,h2⟩;obtain ⟨j,hj,rfl⟩:=iv hx;exact ⟨j,hj,by omega, .inr (by rw [show ((c.toNat:Nat):Int)=c by omega];exact h2)⟩
def iB (p:GProblem)(g:List GChoice):Bool:=(List.range g.length).all (mU g)&&(List.range g.length).all fun i=>kT p (cJ g i).Station (cJ g i).Channel
theorem gz {p:GProblem}{g:List GChoice}:iB p g=true↔ValidL g∧∀c∈g,kT p c.Station c.Channel=true:=by
 unfold iB;rw [Bool.and_eq_true,jx,List.all_eq_true];constructor
 ·rintro ⟨h1,h2⟩;refine ⟨h1,fun c hc=>?_⟩;obtain ⟨i,hi,rfl⟩:=iv hc;exact h2 i (List.mem_range.2 hi)
 ·rintro ⟨h1,h2⟩;exact ⟨h1,fun i hi=>h2 _ (fg (List.mem_range.1 hi))⟩
theorem zkx {p:GProblem}{t:GStore}{g:List GChoice}(h:TabN p t.domains):zaD t g=some (iB p g):=by
 unfold zaD iB;rw [zge]
 cases hv:(List.range g.length).all (mU g) with
 |false=>rfl
 |true=>
  have hl:=jx.1 hv;simp only [dH,Nat.sub_zero,Bool.not_true,cond_false,Bool.true_and];refine (kj (fun i _=>(List.range i).all (fun i=>kT p (cJ g i).Station (cJ g i).Channel)=true) (fun o=>o=some ((List.range g.length).all fun i=>kT p (cJ g i).Station (cJ g i).Channel)) rfl (fun _ h=>by rw [h]) (fun i _ next hi hI hn=>?_));have hg:=hl.good _ (fg hi);rw [fE a5,fE a5,zoe,h.bit a5 a5]
  cases hc:kT p (cJ g i).Station (cJ g i).Channel with
  |false=>
   have:(List.range g.length).all (fun i=>kT p (cJ g i).Station (cJ g i).Channel)=false:=by
    rw [List.all_eq_false];exact ⟨i,List.mem_range.2 hi,by simp [hc]⟩
   rw [this];rfl
  |true=>exact hn () (by rw [List.range_succ,List.all_append,hI];simp [hc])
end Go.Proofs.YtogbggmckmnlfaaGreatDoor
