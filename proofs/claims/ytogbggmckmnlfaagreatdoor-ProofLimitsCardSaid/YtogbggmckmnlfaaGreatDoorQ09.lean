/- Yq R7 Pw Cv Lc Ga Gg Lq Na W7 Kn Yw Kr: shortened and put together by squeeze.py. -/
import Derived.Test.YtogbggmckmnlfaaGreatDoorQ08
import Derived.Shelf.SlicesE.Reverse
import Derived.Ground.SlgnProg
set_option maxRecDepth 100000
set_option maxHeartbeats 4000000
set_option linter.unusedVariables false
set_option linter.unusedSectionVars false
set_option linter.unusedSimpArgs false
namespace Go.Proofs.YtogbggmckmnlfaaGreatDoor
open Go.RowKit
def zaL (l:List Int):Bool:=
 dS (fun (_:Unit)=>
  true)
 (fun k1=>
  di (fun (i_3:Nat) (next2:Unit→Bool) (_:Unit)=>
   (bif !(ks (cH l i_3)) then
    false
    else
    next2 ()))
  (fun (_:Unit)=>
   k1 ()) (l.length - 0) 0 ())
theorem zcs (F0:Frz)(w:World)(hF0:F0.At w)(l:List Int)(vl:Value)(hl:SlC F0 vl 1 (l.map eI)):Calls Tryz.prog 122 #[vl, .func (.func 79) #[] #[]] w fun e w'=>e= .returned (.bool (zaL l))∧Below w.heap.size w w':=by
 obtain ⟨r,hk⟩:∃r,zaL l=r:=⟨_,rfl⟩;rw [hk];unfold zaL at hk;haveI:=hl.oneC;obtain ⟨S0,F1,rfl,hS0,hp0⟩:=fK hF0;refine dq Tryz.func122 rfl rfl rfl hp0 ?_;refine iE ?_;refine q3i ?_;have hm8:l.length≤9223372036854775807:=(List.length_map _)▸hl.max;refine dP ?_;have hq:=eP hk;clear hk;obtain ⟨k1,hk1,hk⟩:=hq; (try dsimp only at hk);refine dj (ι:=Unit) (fun z=>[]) (fun z=>[.fr F1]) (fun z=>k1 ()=r) ?_ ?_
 ·have hq:=fS hk;clear hk;obtain ⟨f2,kk2,hf2,hkk2,hk⟩:=hq;refine gg ?_;refine T.loop (ι:=Nat) (fun z=>[(1, .func (.func 79) #[] #[]),(7,vl),(8, .int .i64 (l.length:Int)),(9, .int .i64 (z:Int))]) (fun z=>[.fr F1]) (fun z=>di f2 kk2 (l.length - z) z ()=r) (fun z=>l.length - z) 0 ?_ ?_ ?_ ?_
  ·exact hk
  ·exact q37
  ·exact fv
  ·rintro i_3 hk;refine ei ?_;refine T.cond rfl (fun h4=>?_) (fun h4=>?_)
   ·have p4:=of_decide_eq_true h4;rw [fT a5] at hk;generalize hn2:di f2 kk2 (l.length - (i_3+1)) (i_3+1)=next2 at hk;rw [←hf2] at hk; (try dsimp only at hk);refine fq ?_;refine cI (dL (i:=i_3) rfl rfl rfl hl (List.length_map _) rfl a5) ?_;refine cI (hD 0 (i:=i_3) (j:=0) rfl rfl rfl hl a5) ?_;refine f9 ?_;refine d5 ?_;refine cN (cL rfl rfl rfl (fun w hw=>zcX _ w (hw.fr (i:=0) rfl) (cH l i_3))) ?_;refine ex ?_;refine dP ?_;refine T.cond rfl (fun h5=>?_) (fun h5=>?_)
    ·replace hk:=dy hk h5;refine jT ?_;subst hk;exact fw
    ·replace hk:=dz hk h5;refine gB ?_;rw [←hn2] at hk;exact K.next (i_3+1) hk a5 (.c (.c (.c (.c .nil)))) (List.Sublist.refl _)
   ·have p4:=of_decide_eq_false h4;rw [fR a5,←hkk2] at hk; (try dsimp only at hk);refine ff ?_;exact q34
 ·rintro _ hk;rw [←hk1] at hk; (try dsimp only at hk);refine q3M ?_;subst hk;exact fw
def zba (l:List Int):Option Bool:=
 dS (fun (_:Unit)=>
  some true)
 (fun k1=>
  di (fun (i_3:Nat) (next2:Unit→Option Bool) (_:Unit)=>
   d4 (0≤((i_3:Int) - 1)∧((i_3:Int) - 1)<(l.length:Int)) <|
   (bif decide (0≤(zbb (cH l (((i_3:Int) - 1).toNat)) (cH l i_3))) then
    some false
    else
    next2 ()))
  (fun (_:Unit)=>
   k1 ()) (l.length - 1) 1 ())
theorem zcS (F0:Frz)(w:World)(hF0:F0.At w)(l:List Int)(vl:Value)(hl:SlC F0 vl 1 (l.map eI))(r:Bool)(hr:zba l=some r):Calls Tryz.prog 123 #[vl, .func (.func 107) #[] #[]] w fun e w'=>e= .returned (.bool r)∧Below w.heap.size w w':=by
 have hk:=hr;unfold zba at hk;haveI:=hl.oneC;obtain ⟨S0,F1,rfl,hS0,hp0⟩:=fK hF0;refine dq Tryz.func123 rfl rfl rfl hp0 ?_;refine gy ?_;refine gX ?_;refine dP ?_;have hq:=eP hk;clear hk;obtain ⟨k1,hk1,hk⟩:=hq; (try dsimp only at hk);refine dj (ι:=Unit) (fun z=>[]) (fun z=>[.fr F1]) (fun z=>k1 ()=some r) ?_ ?_
 ·have hq:=fS hk;clear hk;obtain ⟨f2,kk2,hf2,hkk2,hk⟩:=hq;refine gg ?_;refine T.loop (ι:=Nat) (fun z=>[(0,vl),(1, .func (.func 107) #[] #[]),(5, .int .i64 (z:Int))]) (fun z=>[.fr F1]) (fun z=>di f2 kk2 (l.length - z) z ()=some r) (fun z=>l.length - z) 1 ?_ ?_ ?_ ?_
  ·exact hk
  ·exact q4a
  ·exact fv
  ·rintro i_3 hk;refine iJ ?_;refine d5 ?_;refine q3i ?_;have hm8:l.length≤9223372036854775807:=(List.length_map _)▸hl.max;refine dP ?_;refine T.cond rfl (fun h4=>?_) (fun h4=>?_)
   ·have p4:=of_decide_eq_true h4;rw [fT a5] at hk;generalize hn2:di f2 kk2 (l.length - (i_3+1)) (i_3+1)=next2 at hk;rw [←hf2] at hk; (try dsimp only at hk);refine q1S ?_;have hq:(0≤((i_3:Int) - 1)∧((i_3:Int) - 1)<(l.length:Int))∧_:=eQ hk;clear hk;obtain ⟨g16,hk⟩:=hq; (try dsimp only at hk);refine q2t ?_;refine cR rfl (dL (i:=((i_3:Int) - 1).toNat) rfl rfl rfl hl (List.length_map _) a5 a5) ?_;refine cR rfl (hD 0 (i:=((i_3:Int) - 1).toNat) (j:=0) rfl rfl rfl hl a5) ?_;refine iQ ?_;refine cR rfl (dL (i:=i_3) rfl rfl rfl hl (List.length_map _) rfl a5) ?_;refine cR rfl (hD 0 (i:=i_3) (j:=0) rfl rfl rfl hl a5) ?_;refine dF ?_;refine dn rfl (Wt.none) rfl rfl (cL rfl rfl rfl (fun w hw=>zeD _ w (hw.fr (i:=0) rfl) (cH l (((i_3:Int) - 1).toNat)) (cH l i_3))) ?_;refine kI ?_;refine ky ?_;refine T.cond rfl (fun h5=>?_) (fun h5=>?_)
    ·have p5:=of_decide_eq_true h5;replace hk:=dy hk h5;refine jT ?_;obtain rfl:=Option.some.inj hk;exact fw
    ·have p5:=of_decide_eq_false h5;replace hk:=dz hk h5;refine q1m ?_;rw [←hn2] at hk;exact K.next (i_3+1) hk a5 (.c (.c (.c .nil))) (List.Sublist.refl _)
   ·have p4:=of_decide_eq_false h4;rw [fR a5,←hkk2] at hk; (try dsimp only at hk);refine ff ?_;exact q34
 ·rintro _ hk;rw [←hk1] at hk; (try dsimp only at hk);refine q3M ?_;obtain rfl:=Option.some.inj hk;exact fw
def zaU (l:List Int):Option Bool:=
 dS (fun (x_1:Bool)=>
  some x_1)
 (fun k2=>
  (bif (zaL l) then
   (zba l).bind fun r7=>
   k2 r7
   else
   k2 false))
theorem zce (F0:Frz)(w:World)(hF0:F0.At w)(l:List Int)(vl:Value)(hl:SlC F0 vl 1 (l.map eI))(r:Bool)(hr:zaU l=some r):Calls Tryz.prog 77 #[vl] w fun e w'=>e= .returned (.bool r)∧Below w.heap.size w w':=by
 have hk:=hr;unfold zaU at hk;haveI:=hl.oneC;obtain ⟨S0,F1,rfl,hS0,hp0⟩:=fK hF0;refine dq Tryz.func77 rfl rfl rfl hp0 ?_;refine ei ?_; (try dsimp only at hk);have hq:=eP hk;clear hk;obtain ⟨k2,hk2,hk⟩:=hq; (try dsimp only at hk);refine dj (ι:=Bool) (fun z=>[(2, .bool z)]) (fun z=>[.fr F1]) (fun z=>k2 z=some r) ?_ ?_
 ·refine fo ?_;refine cN (cL rfl rfl rfl (fun w hw=>zcs _ w (hw.fr (i:=0) rfl) l vl hl)) ?_;refine lJ ?_;refine dQ rfl rfl rfl (fun h3=>?_) (fun h3=>?_)
  ·replace hk:=dy hk h3;refine dd ?_;have hq:=dM hk;clear hk;obtain ⟨r7,hr7,hk⟩:=hq;refine cN (cL rfl rfl rfl (fun w hw=>zcS _ w (hw.fr (i:=0) rfl) l vl hl r7 hr7)) ?_;refine lO ?_;exact c4 r7 hk (.c .nil) (List.Sublist.refl _)
  ·replace hk:=dz hk h3;refine q2R ?_;exact q4y
 ·rintro x_1 hk;rw [←hk2] at hk; (try dsimp only at hk);refine T.ret ?_;obtain rfl:=Option.some.inj hk;exact fw
def zbV (l:List GChoice)(stations:List Int):Option (List GChoice×Int):=
 dS (fun (x_1:Bool)=>
  (bif x_1 then
   some ([],2)
   else
   (zbW stations).bind fun r21=>
   dS (fun (some_5:List GChoice)=>
    some (some_5,0))
   (fun k6=>
    di (fun (i_9:Nat) (next8:List GChoice→Option (List GChoice×Int)) (some_7:List GChoice)=>
     (kN r21.1 ((cH l i_9).Station)).bind fun r33=>
     (bif r33 then
      d4 (db (some_7++[(cH l i_9)]).length 16) <|
      next8 (some_7++[(cH l i_9)])
      else
      next8 some_7))
    (fun (some_7:List GChoice)=>
     k6 some_7) (l.length - 0) 0 [])))
 (fun k2=>
  (bif !(kc l) then
   k2 true
   else
   (zaU stations).bind fun r16=>
   k2 (!r16)))
theorem zgc (F0:Frz)(w:World)(hF0:F0.At w)(l:List GChoice)(vl:Value)(hl:SlC F0 vl 2 (l.map cM))(stations:List Int)(vstations:Value)(hstations:SlC F0 vstations 1 (stations.map eI))(r:List GChoice×Int)(hr:zbV l stations=some r):Calls Tryz.prog 40 #[vl,vstations] w fun e w'=>∃(y:Value) (G:Frz),(SlC G y 2 (r.1.map cM))∧e= .returned (.tuple #[y, .int .i64 r.2])∧Fx F0 w G w':=by
 have hk:=hr;unfold zbV at hk;haveI:=hl.oneC;haveI:=hstations.oneC;obtain ⟨S0,F1,rfl,hS0,hp0⟩:=fK hF0;refine dq Tryz.func40 rfl rfl rfl hp0 ?_;refine iA ?_;refine jB ?_; (try dsimp only at hk);have hq:=eP hk;clear hk;obtain ⟨k2,hk2,hk⟩:=hq; (try dsimp only at hk);refine dj (ι:=Bool) (fun z=>[(0,vl),(1,vstations),(18, .bool z)]) (fun z=>[.fr F1]) (fun z=>k2 z=some r) ?_ ?_
 ·refine fo ?_;refine cN (cL rfl rfl rfl (fun w hw=>zb7 _ w (hw.fr (i:=0) rfl) l vl hl)) ?_;refine ex ?_;refine d5 ?_;refine dQ rfl rfl rfl (fun h3=>?_) (fun h3=>?_)
  ·replace hk:=dy hk h3;refine q2R ?_;exact q36
  ·replace hk:=dz hk h3;refine dd ?_;have hq:=dM hk;clear hk;obtain ⟨r16,hr16,hk⟩:=hq;refine cN (cL rfl rfl rfl (fun w hw=>zce _ w (hw.fr (i:=0) rfl) stations vstations hstations r16 hr16)) ?_;refine lO ?_;exact c4 (!r16) hk (.c (.c (.c .nil))) (List.Sublist.refl _)
 ·rintro x_1 hk;rw [←hk2] at hk; (try dsimp only at hk);refine T.cond rfl (fun h4=>?_) (fun h4=>?_)
  ·replace hk:=dy hk h4;refine ko ?_;obtain rfl:=Option.some.inj hk;exact en rfl rfl rfl (fun w' hw=>⟨(.slice none 0 0),F1.toFrz,(SlC.nil _ 2),rfl,fC hw (i:=0) rfl hS0 (Frz.Le.refl _)⟩)
  ·replace hk:=dz hk h4;refine iR ?_;have hq:=dM hk;clear hk;obtain ⟨r21,hr21,hk⟩:=hq; (try dsimp only at hk);refine fo ?_;refine cN (cL rfl rfl rfl (fun w hw=>zdE _ w (hw.fr (i:=0) rfl) stations vstations hstations r21 hr21)) ?_;refine ex ?_;refine eM ?_;refine q1G ?_;rintro _ _ ⟨g6,rfl,rfl⟩;refine q1n ?_;refine kn ?_;refine TL.slNil 68 2 ?_;refine gX ?_;refine dd ?_;refine q3i ?_;have hm25:l.length≤9223372036854775807:=(List.length_map _)▸hl.max;refine dP ?_;have hq:=eP hk;clear hk;obtain ⟨k6,hk6,hk⟩:=hq; (try dsimp only at hk);refine dj (ι:=List GChoice×Value) (fun z=>[(8,z.2)]) (fun z=>[.sl z.2 68 2 z.1.length (z.1.flatMap cM), .fr F1]) (fun z=>k6 z.1=some r∧OneC z.2) ?_ ?_
   ·have hq:=fS hk;clear hk;obtain ⟨f8,kk8,hf8,hkk8,hk⟩:=hq;refine gg ?_;refine T.loop (ι:=Nat×List GChoice×Value) (fun z=>[(6, .pointer (some ⟨g6,0,none⟩)),(8,z.2.2),(24,vl),(25, .int .i64 (l.length:Int)),(26, .int .i64 (z.1:Int))]) (fun z=>[.sl z.2.2 68 2 z.2.1.length (z.2.1.flatMap cM), .row g6 83 (r21.1.words.1.map U), .fr F1]) (fun z=>di f8 kk8 (l.length - z.1) z.1 z.2.1=some r∧OneC z.2.2) (fun z=>l.length - z.1) (0,[],(.slice none 0 0)) ?_ ?_ ?_ ?_
    ·exact q39
    ·exact ld
    ·exact fv
    ·rintro ⟨i_9,some_7,vsome_7⟩ ⟨hk,osome_7⟩; (try dsimp only at *);refine ei ?_;refine T.cond rfl (fun h10=>?_) (fun h10=>?_)
     ·have p10:=of_decide_eq_true h10;rw [fT a5] at hk;generalize hn8:di f8 kk8 (l.length - (i_9+1)) (i_9+1)=next8 at hk;rw [←hf8] at hk; (try dsimp only at hk);refine fq ?_;refine cI (dL (i:=i_9) rfl rfl rfl hl (List.length_map _) rfl a5) ?_;refine cI (fE 2 (i:=i_9) rfl rfl rfl hl a5) ?_;refine fQ ?_;rintro _ _ ⟨g10,rfl,rfl⟩;refine q3P ?_;have hq:=dM hk;clear hk;obtain ⟨r33,hr33,hk⟩:=hq; (try dsimp only at hk);refine ed ?_;refine cI (dJ 2 rfl rfl rfl Vec.len) ?_;refine eu ?_;refine cN (cL rfl rfl rfl (fun w hw=>zaB _ w (hw.fr (i:=3) rfl) r21.1 ((cH l i_9).Station) r33 hr33)) ?_;refine ex ?_;refine TL.ns ?_;refine T.cond rfl (fun h11=>?_) (fun h11=>?_)
      ·replace hk:=dy hk h11;have hq:(db (some_7++[(cH l i_9)]).length 16)∧_:=eQ hk;clear hk;obtain ⟨g37,hk⟩:=hq; (try dsimp only at hk);refine fo ?_;refine gY ?_;refine jg ?_;rintro _ _ ⟨g36,rfl,rfl⟩;refine cN (d8 2 0 rfl rfl rfl rfl rfl rfl (iC (ys:=[(cH l i_9)])) (zcu (enc:=cM) (xs:=some_7) (ys:=[(cH l i_9)])) g37 a6) ?_;rintro v37 _ ⟨hv37,rfl⟩;refine lA ?_;rw [←hn8] at hk;refine K.pick [2,3,4] rfl a6 ?_;exact K.next ((i_9+1),(some_7++[(cH l i_9)]),v37) ⟨hk,inferInstance⟩ a9 (.c (.c (.c (.c (.c .nil))))) (List.Sublist.refl _)
      ·replace hk:=dz hk h11;refine gB ?_;rw [←hn8] at hk;refine q3g ?_;exact K.next ((i_9+1),some_7,vsome_7) ⟨hk,inferInstance⟩ a9 (.c (.c (.c (.c (.c .nil))))) (List.Sublist.refl _)
     ·have p10:=of_decide_eq_false h10;rw [fR a5,←hkk8] at hk; (try dsimp only at hk);refine ff ?_;refine K.pick [0,2] rfl a6 ?_;exact c4 (some_7,vsome_7) ⟨hk,inferInstance⟩ (.c .nil) (List.Sublist.refl _)
   ·rintro ⟨some_5,vsome_5⟩ ⟨hk,osome_5⟩; (try dsimp only at *);rw [←hk6] at hk; (try dsimp only at hk);refine de ?_;refine eM ?_;refine fJ ?_;refine jP (fun w hw=>hw.freezeS (i:=1) (j:=0) a6 rfl rfl) ?_;rintro F2 ⟨le1_2,hz2⟩;refine gU ?_;have hf2:=hz2.toF rfl GChoice.len;haveI:=hf2.oneC;obtain rfl:=Option.some.inj hk;exact en rfl rfl rfl (fun w' hw=>⟨vsome_5,F2.toFrz,hf2,rfl,fC hw (i:=0) rfl hS0 le1_2⟩)
def zct (p:GProblem):Option GSet:=
 d4 (db p.Domains.length 8) <|
 dS (fun (l_1:List Int)=>
  (zbW l_1).bind fun r28=>
  some r28.1)
 (fun k2=>
  di (fun (i_5:Nat) (next4:List Int→Option GSet) (l_3:List Int)=>
   d4 (0≤(i_5:Int)∧(i_5:Int)<(l_3.length:Int)) <|
   next4 (l_3.set i_5 ((cH p.Domains i_5).Station)))
  (fun (l_3:List Int)=>
   k2 l_3) (p.Domains.length - 0) 0 (List.replicate p.Domains.length 0))
theorem ze4 (F0:Frz)(w:World)(hF0:F0.At w)(p:GProblem)(vp_0:Value)(cp_0:List (List Value))(hp_0:SlD cJ F0 vp_0 2 cp_0 p.Domains)(vp_1:Value)(hp_1:SlC F0 vp_1 5 (p.Rules.Pairs.map c8))(vp_2:Value)(hp_2:SlC F0 vp_2 5 (p.Rules.Loads.map da))(vp_3:Value)(hp_3:SlC F0 vp_3 4 (p.Rules.Caps.map dh))(r:GSet)(hr:zct p=some r):Calls Tryz.prog 109 #[.agg [vp_0,vp_1,vp_2,vp_3].toArray] w fun e w'=>e= .returned (.agg (r.words.1.map U).toArray)∧Below w.heap.size w w':=by
 have hk:=hr;unfold zct at hk;haveI:=hp_0.1.oneC;haveI:=hp_1.oneC;haveI:=hp_2.oneC;haveI:=hp_3.oneC;obtain ⟨S0,F1,rfl,hS0,hp0⟩:=fK hF0;refine dq Tryz.func109 rfl rfl rfl hp0 ?_;refine kA ?_;rintro _ _ ⟨g1,rfl,rfl⟩;refine q1G ?_;rintro _ _ ⟨g2,rfl,rfl⟩;refine i3 ?_;have hq:(db p.Domains.length 8)∧_:=eQ hk;clear hk;obtain ⟨g11,hk⟩:=hq; (try dsimp only at hk);refine ed ?_;refine kX ?_;refine cI (dA rfl rfl hp_0.1 hp_0.2.1) ?_;have hm10:p.Domains.length≤9223372036854775807:=hp_0.2.1▸hp_0.1.max;refine cN (Ew.cc (n':=p.Domains.length) (enc:=eI) (u:=0) rfl rfl rfl rfl g11 a6 a6 (fun _=>rfl) rfl) ?_;rintro v11 _ ⟨hv11,rfl⟩;refine fB 0 rfl ?_;intro iv11 hmv11;refine jd ?_;refine kO ?_;refine cI (dA rfl rfl hp_0.1 hp_0.2.1) ?_;refine dP ?_;have hq:=eP hk;clear hk;obtain ⟨k2,hk2,hk⟩:=hq; (try dsimp only at hk);refine dj (ι:=List Int) (fun z=>[(2, .pointer (some ⟨g2,0,none⟩)),(3,v11)]) (fun z=>[.sl v11 3 1 z.length (z.flatMap eI), .row g2 83 ((Vec.fill 8 (0#64)).1.map U), .fr F1]) (fun z=>k2 z=some r) ?_ ?_
 ·have hq:=fS hk;clear hk;obtain ⟨f4,kk4,hf4,hkk4,hk⟩:=hq;refine gg ?_;refine T.pick [0,1,3] rfl a6 ?_;refine T.loop (ι:=Nat×List Int) (fun z=>[(2, .pointer (some ⟨g2,0,none⟩)),(3,v11),(13,vp_0),(14, .int .i64 (p.Domains.length:Int)),(15, .int .i64 (z.1:Int))]) (fun z=>[.sl v11 3 1 z.2.length (z.2.flatMap eI), .row g2 83 ((Vec.fill 8 (0#64)).1.map U), .fr F1]) (fun z=>di f4 kk4 (p.Domains.length - z.1) z.1 z.2=some r) (fun z=>p.Domains.length - z.1) (0,(List.replicate p.Domains.length 0)) ?_ ?_ ?_ ?_
  ·exact hk
  ·exact ld
  ·exact fv
  ·rintro ⟨i_5,l_3⟩ hk; (try dsimp only at *);refine ei ?_;refine T.cond rfl (fun h6=>?_) (fun h6=>?_)
   ·have p6:=of_decide_eq_true h6;rw [fT a5] at hk;generalize hn4:di f4 kk4 (p.Domains.length - (i_5+1)) (i_5+1)=next4 at hk;rw [←hf4] at hk; (try dsimp only at hk);refine fq ?_;refine dd ?_;refine q2Q ?_;have hd19_1:=(GDomain.c1 (hp_0.2.2 i_5 a5)).2;haveI:=hd19_1.oneC;refine fQ ?_;rintro _ _ ⟨g5,rfl,rfl⟩;refine dd ?_;refine kr ?_;refine TL.ns ?_;have hq:(0≤(i_5:Int)∧(i_5:Int)<(l_3.length:Int))∧_:=eQ hk;clear hk;obtain ⟨g24,hk⟩:=hq; (try dsimp only at hk);refine gQ ?_;refine eu ?_;refine cI (mg 1 (i:=i_5) rfl rfl rfl rfl rfl a5) ?_;refine d7 (Ew.bU 1 (k':=(l_3.set i_5 ((cH p.Domains i_5).Station)).length) (l':=(l_3.set i_5 ((cH p.Domains i_5).Station)).flatMap eI) rfl rfl rfl rfl a5 (zgm (enc:=eI) (xs:=l_3) (i:=i_5) (j:=0) (size:=1) (fun _=>rfl) a5 a6 a5) (zhA (enc:=eI) (xs:=l_3) (i:=i_5) (j:=0) (size:=1) (x:=((cH p.Domains i_5).Station)) (fun _=>rfl) a5 a6 a5 rfl) (List.length_set ..)) ?_;refine ex ?_;refine kC ?_;rw [←hn4] at hk;refine q3g ?_;exact K.next ((i_5+1),(l_3.set i_5 ((cH p.Domains i_5).Station))) hk a9 (.c (.c (.c (.c (.c .nil))))) (List.Sublist.refl _)
   ·have p6:=of_decide_eq_false h6;rw [fR a5,←hkk4] at hk; (try dsimp only at hk);refine ff ?_;exact c4 l_3 hk (.c (.c .nil)) (List.Sublist.refl _)
 ·rintro l_1 hk;rw [←hk2] at hk; (try dsimp only at hk);refine T.seq ?_;have hq:=dM hk;clear hk;obtain ⟨r28,hr28,hk⟩:=hq; (try dsimp only at hk);refine fo ?_;refine cN (cL rfl rfl rfl (fun w hw=>(hw.bor (i:=2) (j:=0) rfl rfl).elim fun F9 b=>have le1_2:=b.1.le;zdE F9 w b.1.at_ l_1 v11 (b.2.toF rfl (fun _=>rfl)) r28 hr28)) ?_;refine ex ?_;refine eM ?_;refine q1G ?_;rintro _ _ ⟨g6,rfl,rfl⟩;refine q1n ?_;refine f9 ?_;refine cI (dJ 0 rfl rfl rfl Vec.len) ?_;refine d7 (dr 2 rfl rfl rfl rfl Vec.len (Vec.len.trans Vec.len.symm)) ?_;refine ex ?_;refine fJ ?_;obtain rfl:=Option.some.inj hk;exact j1 2 rfl rfl rfl Vec.len (fun w' hw=>⟨rfl,hw.isBelow⟩)
def zcf (p:GProblem)(stations:List Int):Option (GProblem×Int):=
 dS (fun (x_1:Bool)=>
  (bif x_1 then
   some ((GProblem.mk [] (GRules.mk [] [] [])),2)
   else
   (zbW stations).bind fun r28=>
   (zct p).bind fun r33=>
   (bif !(zaS r28.1 r33) then
    some ((GProblem.mk [] (GRules.mk [] [] [])),9)
    else
    dS (fun (s10:List GDomain×List GPair×List GLoad×List GCap)=>
     dS (fun (s23:List GDomain×List GPair×List GLoad×List GCap)=>
      dS (fun (s39:List GDomain×List GPair×List GLoad×List GCap)=>
       dS (fun (s55:List GDomain×List GPair×List GLoad×List GCap)=>
        some ((GProblem.mk s55.1 (GRules.mk s55.2.1 s55.2.2.1 s55.2.2.2)),0))
       (fun k55=>
        di (fun (i_61:Nat) (next60:(List GDomain×List GPair×List GLoad×List GCap)→Option (GProblem×Int)) (s60:List GDomain×List GPair×List GLoad×List GCap)=>
         (kN r28.1 ((cH p.Rules.Caps i_61).Station)).bind fun r125=>
         (bif r125 then
          d4 (db (s60.2.2.2++[(cH p.Rules.Caps i_61)]).length 32) <|
          next60 (s60.1,s60.2.1,s60.2.2.1,(s60.2.2.2++[(cH p.Rules.Caps i_61)]))
          else
          next60 (s60.1,s60.2.1,s60.2.2.1,s60.2.2.2)))
        (fun (s60:List GDomain×List GPair×List GLoad×List GCap)=>
         k55 (s60.1,s60.2.1,s60.2.2.1,s60.2.2.2)) (p.Rules.Caps.length - 0) 0 (s39.1,s39.2.1,s39.2.2.1,s39.2.2.2)))
      (fun k39=>
       di (fun (i_45:Nat) (next44:(List GDomain×List GPair×List GLoad×List GCap)→Option (GProblem×Int)) (s44:List GDomain×List GPair×List GLoad×List GCap)=>
        (kN r28.1 ((cH p.Rules.Loads i_45).To)).bind fun r98=>
        dS (fun (x_47:Bool)=>
         (bif x_47 then
          d4 (db (s44.2.2.1++[(cH p.Rules.Loads i_45)]).length 40) <|
          next44 (s44.1,s44.2.1,(s44.2.2.1++[(cH p.Rules.Loads i_45)]),s44.2.2.2)
          else
          next44 (s44.1,s44.2.1,s44.2.2.1,s44.2.2.2)))
        (fun k48=>
         (bif r98 then
          (kN r28.1 ((cH p.Rules.Loads i_45).From)).bind fun r103=>
          k48 r103
          else
          k48 false)))
       (fun (s44:List GDomain×List GPair×List GLoad×List GCap)=>
        k39 (s44.1,s44.2.1,s44.2.2.1,s44.2.2.2)) (p.Rules.Loads.length - 0) 0 (s23.1,s23.2.1,s23.2.2.1,s23.2.2.2)))
     (fun k23=>
      di (fun (i_29:Nat) (next28:(List GDomain×List GPair×List GLoad×List GCap)→Option (GProblem×Int)) (s28:List GDomain×List GPair×List GLoad×List GCap)=>
       (kN r28.1 ((cH p.Rules.Pairs i_29).A)).bind fun r71=>
       dS (fun (x_31:Bool)=>
        (bif x_31 then
         d4 (db (s28.2.1++[(cH p.Rules.Pairs i_29)]).length 40) <|
         next28 (s28.1,(s28.2.1++[(cH p.Rules.Pairs i_29)]),s28.2.2.1,s28.2.2.2)
         else
         next28 (s28.1,s28.2.1,s28.2.2.1,s28.2.2.2)))
       (fun k32=>
        (bif r71 then
         (kN r28.1 ((cH p.Rules.Pairs i_29).B)).bind fun r76=>
         k32 r76
         else
         k32 false)))
      (fun (s28:List GDomain×List GPair×List GLoad×List GCap)=>
       k23 (s28.1,s28.2.1,s28.2.2.1,s28.2.2.2)) (p.Rules.Pairs.length - 0) 0 (s10.1,s10.2.1,s10.2.2.1,s10.2.2.2)))
    (fun k10=>
     di (fun (i_16:Nat) (next15:(List GDomain×List GPair×List GLoad×List GCap)→Option (GProblem×Int)) (s15:List GDomain×List GPair×List GLoad×List GCap)=>
      (kN r28.1 ((cH p.Domains i_16).Station)).bind fun r47=>
      (bif r47 then
       d4 (db (((cH p.Domains i_16).Channels).length) 8) <|
       d4 (db (s15.1++[(GDomain.mk ((cH p.Domains i_16).Station) ((cH p.Domains i_16).Channels))]).length 32) <|
       next15 ((s15.1++[(GDomain.mk ((cH p.Domains i_16).Station) ((cH p.Domains i_16).Channels))]),s15.2.1,s15.2.2.1,s15.2.2.2)
       else
       next15 (s15.1,s15.2.1,s15.2.2.1,s15.2.2.2)))
     (fun (s15:List GDomain×List GPair×List GLoad×List GCap)=>
      k10 (s15.1,s15.2.1,s15.2.2.1,s15.2.2.2)) (p.Domains.length - 0) 0 ([],[],[],[])))))
 (fun k2=>
  (bif !(kK p) then
   k2 true
   else
   (zaU stations).bind fun r22=>
   k2 (!r22)))
theorem zez (F0:Frz)(w:World)(hF0:F0.At w)(p:GProblem)(vp_0:Value)(cp_0:List (List Value))(hp_0:SlD cJ F0 vp_0 2 cp_0 p.Domains)(vp_1:Value)(hp_1:SlC F0 vp_1 5 (p.Rules.Pairs.map c8))(vp_2:Value)(hp_2:SlC F0 vp_2 5 (p.Rules.Loads.map da))(vp_3:Value)(hp_3:SlC F0 vp_3 4 (p.Rules.Caps.map dh))(stations:List Int)(vstations:Value)(hstations:SlC F0 vstations 1 (stations.map eI))(r:GProblem×Int)(hr:zcf p stations=some r):Calls Tryz.prog 73 #[.agg [vp_0,vp_1,vp_2,vp_3].toArray,vstations] w fun e w'=>∃(y:Value×List (List Value)×Value×Value×Value) (G:Frz),(SlD cJ G y.1 2 y.2.1 r.1.Domains∧SlC G y.2.2.1 5 (r.1.Rules.Pairs.map c8)∧SlC G y.2.2.2.1 5 (r.1.Rules.Loads.map da)∧SlC G y.2.2.2.2 4 (r.1.Rules.Caps.map dh))∧e= .returned (.tuple #[.agg [y.1,y.2.2.1,y.2.2.2.1,y.2.2.2.2].toArray, .int .i64 r.2])∧Fx F0 w G w':=by
 have hk:=hr;unfold zcf at hk;haveI:=hp_0.1.oneC;haveI:=hp_1.oneC;haveI:=hp_2.oneC;haveI:=hp_3.oneC;haveI:=hstations.oneC;obtain ⟨S0,F1,rfl,hS0,hp0⟩:=fK hF0;refine dq Tryz.func73 rfl rfl rfl hp0 ?_;refine kA ?_;rintro _ _ ⟨g2,rfl,rfl⟩;refine fQ ?_;rintro _ _ ⟨g4,rfl,rfl⟩;refine dd ?_;refine jB ?_; (try dsimp only at hk);have hq:=eP hk;clear hk;obtain ⟨k2,hk2,hk⟩:=hq; (try dsimp only at hk);refine dj (ι:=Bool) (fun z=>[(1,vstations),(2, .pointer (some ⟨g2,0,none⟩)),(4, .pointer (some ⟨g4,0,none⟩)),(24, .bool z)]) (fun z=>[.row g4 29 [(.slice none 0 0),(.slice none 0 0),(.slice none 0 0),(.slice none 0 0)], .row g2 29 [vp_0,vp_1,vp_2,vp_3], .fr F1]) (fun z=>k2 z=some r) ?_ ?_
 ·refine q3J ?_;refine dQ rfl rfl rfl (fun h3=>?_) (fun h3=>?_)
  ·replace hk:=dy hk h3;refine q2R ?_;exact c4 true hk (.c (.c (.c (.c .nil)))) (List.Sublist.refl _)
  ·replace hk:=dz hk h3;refine dd ?_;have hq:=dM hk;clear hk;obtain ⟨r22,hr22,hk⟩:=hq;refine cN (cL rfl rfl rfl (fun w hw=>zce _ w (hw.fr (i:=2) rfl) stations vstations hstations r22 hr22)) ?_;refine lO ?_;exact c4 (!r22) hk (.c (.c (.c (.c .nil)))) (List.Sublist.refl _)
 ·rintro x_1 hk;rw [←hk2] at hk; (try dsimp only at hk);refine T.cond rfl (fun h4=>?_) (fun h4=>?_)
  ·replace hk:=dy hk h4;refine de ?_;refine iX ?_;refine kr ?_;refine dd ?_;refine jK ?_;obtain rfl:=Option.some.inj hk;exact gz 0 rfl rfl rfl rfl rfl (fun w' hw=>⟨((.slice none 0 0),[],(.slice none 0 0),(.slice none 0 0),(.slice none 0 0)),F1.toFrz,⟨(SlD.nil _ _ 2),(SlC.nil _ 5),(SlC.nil _ 5),(SlC.nil _ 4)⟩,rfl,fC hw (i:=2) rfl hS0 (Frz.Le.refl _)⟩)
  ·replace hk:=dz hk h4;refine iR ?_;have hq:=dM hk;clear hk;obtain ⟨r28,hr28,hk⟩:=hq; (try dsimp only at hk);refine fo ?_;refine cN (cL rfl rfl rfl (fun w hw=>zdE _ w (hw.fr (i:=2) rfl) stations vstations hstations r28 hr28)) ?_;refine ex ?_;refine eM ?_;refine q1G ?_;rintro _ _ ⟨g6,rfl,rfl⟩;refine q1n ?_;refine dd ?_;refine jB ?_;have hq:=dM hk;clear hk;obtain ⟨r33,hr33,hk⟩:=hq; (try dsimp only at hk);refine dT (sN 0 2 (.eff 2 (.eff 3 (.still 4 .done)))) _ a8 (List.Sublist.refl _) ?_;refine cR rfl (dJ 0 rfl rfl rfl Vec.len) ?_;refine cR rfl (dJ 2) ?_;refine dF ?_;refine dn rfl (Wt.none) rfl rfl (cL rfl rfl rfl (fun w hw=>ze4 _ w (hw.fr (i:=3) rfl) p vp_0 cp_0 hp_0 vp_1 hp_1 vp_2 hp_2 vp_3 hp_3 r33 hr33)) ?_;refine kI ?_;refine dF ?_;refine dn rfl (Wt.none) rfl rfl (cL rfl rfl rfl (fun w hw=>zch _ w (hw.fr (i:=3) rfl) r28.1 r33)) ?_;refine kI ?_;refine ky ?_;refine T.cond rfl (fun h5=>?_) (fun h5=>?_)
   ·replace hk:=dy hk h5;refine de ?_;refine iX ?_;refine q2d ?_;refine dd ?_;refine jK ?_;obtain rfl:=Option.some.inj hk;exact gz 1 rfl rfl rfl rfl rfl (fun w' hw=>⟨((.slice none 0 0),[],(.slice none 0 0),(.slice none 0 0),(.slice none 0 0)),F1.toFrz,⟨(SlD.nil _ _ 2),(SlC.nil _ 5),(SlC.nil _ 5),(SlC.nil _ 4)⟩,rfl,fC hw (i:=3) rfl hS0 (Frz.Le.refl _)⟩)
   ·replace hk:=dz hk h5;refine gV ?_;refine fQ ?_;rintro _ _ ⟨g8,rfl,rfl⟩;refine TL.slNil 98 2 ?_;refine TL.slNil 100 5 ?_;refine TL.slNil 102 5 ?_;refine TL.slNil 104 4 ?_;refine gX ?_;refine q2C ?_;refine cI (dA rfl rfl hp_0.1 hp_0.2.1) ?_;have hm39:p.Domains.length≤9223372036854775807:=hp_0.2.1▸hp_0.1.max;refine dP ?_;have hq:=eP hk;clear hk;obtain ⟨k10,hk10,hk⟩:=hq; (try dsimp only at hk);refine dj (ι:=List GDomain×Value×List (List Value)×List GPair×Value×List GLoad×Value×List GCap×Value×FzB w (fun _=>False) S0) (fun z=>[(2, .pointer (some ⟨g2,0,none⟩)),(4, .pointer (some ⟨g4,0,none⟩)),(6, .pointer (some ⟨g6,0,none⟩)),(8, .pointer (some ⟨g8,0,none⟩))]) (fun z=>[.sl z.2.1 98 2 z.1.length z.2.2.1.flatten, .sl z.2.2.2.2.1 100 5 z.2.2.2.1.length (z.2.2.2.1.flatMap c8), .sl z.2.2.2.2.2.2.1 102 5 z.2.2.2.2.2.1.length (z.2.2.2.2.2.1.flatMap da), .sl z.2.2.2.2.2.2.2.2.1 104 4 z.2.2.2.2.2.2.2.1.length (z.2.2.2.2.2.2.2.1.flatMap dh), .row g8 29 [z.2.1,z.2.2.2.2.1,z.2.2.2.2.2.2.1,z.2.2.2.2.2.2.2.2.1], .row g6 83 (r28.1.words.1.map U), .row g4 29 [(.slice none 0 0),(.slice none 0 0),(.slice none 0 0),(.slice none 0 0)], .row g2 29 [vp_0,vp_1,vp_2,vp_3], .fr z.2.2.2.2.2.2.2.2.2]) (fun z=>k10 (z.1,z.2.2.2.1,z.2.2.2.2.2.1,z.2.2.2.2.2.2.2.1)=some r∧OwnD cJ z.2.2.2.2.2.2.2.2.2.toFrz 2 z.2.2.1 z.1∧OneC z.2.1∧OneC z.2.2.2.2.1∧OneC z.2.2.2.2.2.2.1∧OneC z.2.2.2.2.2.2.2.2.1∧F1.toFrz.Le z.2.2.2.2.2.2.2.2.2.toFrz) ?_ ?_
    ·have hq:=fS hk;clear hk;obtain ⟨f15,kk15,hf15,hkk15,hk⟩:=hq;refine gg ?_;refine T.pick [3,2,1,0,4,5,6,7,8] rfl a6 ?_;refine T.loop (ι:=Nat×List GDomain×Value×List (List Value)×List GPair×Value×List GLoad×Value×List GCap×Value×FzB w (fun _=>False) S0) (fun z=>[(2, .pointer (some ⟨g2,0,none⟩)),(4, .pointer (some ⟨g4,0,none⟩)),(6, .pointer (some ⟨g6,0,none⟩)),(8, .pointer (some ⟨g8,0,none⟩)),(38,vp_0),(39, .int .i64 (p.Domains.length:Int)),(40, .int .i64 (z.1:Int))]) (fun z=>[.sl z.2.2.1 98 2 z.2.1.length z.2.2.2.1.flatten, .sl z.2.2.2.2.2.1 100 5 z.2.2.2.2.1.length (z.2.2.2.2.1.flatMap c8), .sl z.2.2.2.2.2.2.2.1 102 5 z.2.2.2.2.2.2.1.length (z.2.2.2.2.2.2.1.flatMap da), .sl z.2.2.2.2.2.2.2.2.2.1 104 4 z.2.2.2.2.2.2.2.2.1.length (z.2.2.2.2.2.2.2.2.1.flatMap dh), .row g8 29 [z.2.2.1,z.2.2.2.2.2.1,z.2.2.2.2.2.2.2.1,z.2.2.2.2.2.2.2.2.2.1], .row g6 83 (r28.1.words.1.map U), .row g4 29 [(.slice none 0 0),(.slice none 0 0),(.slice none 0 0),(.slice none 0 0)], .row g2 29 [vp_0,vp_1,vp_2,vp_3], .fr z.2.2.2.2.2.2.2.2.2.2]) (fun z=>di f15 kk15 (p.Domains.length - z.1) z.1 (z.2.1,z.2.2.2.2.1,z.2.2.2.2.2.2.1,z.2.2.2.2.2.2.2.2.1)=some r∧OwnD cJ z.2.2.2.2.2.2.2.2.2.2.toFrz 2 z.2.2.2.1 z.2.1∧OneC z.2.2.1∧OneC z.2.2.2.2.2.1∧OneC z.2.2.2.2.2.2.2.1∧OneC z.2.2.2.2.2.2.2.2.2.1∧F1.toFrz.Le z.2.2.2.2.2.2.2.2.2.2.toFrz) (fun z=>p.Domains.length - z.1) (0,[],(.slice none 0 0),[],[],(.slice none 0 0),[],(.slice none 0 0),[],(.slice none 0 0),F1) ?_ ?_ ?_ ?_
     ·exact ⟨hk,(OwnD.nil _ _ 2),inferInstance,inferInstance,inferInstance,inferInstance,(Frz.Le.refl _)⟩
     ·exact q4c
     ·exact fv
     ·rintro ⟨i_16,c_11,vc_11,cc_11,c_12,vc_12,c_13,vc_13,c_14,vc_14,F3⟩ ⟨hk,hc_11,oc_11,oc_12,oc_13,oc_14,le1_3⟩; (try dsimp only at *);refine ei ?_;refine T.cond rfl (fun h17=>?_) (fun h17=>?_)
      ·have p17:=of_decide_eq_true h17;rw [fT a5] at hk;generalize hn15:di f15 kk15 (p.Domains.length - (i_16+1)) (i_16+1)=next15 at hk;rw [←hf15] at hk; (try dsimp only at hk);refine fq ?_;refine cI (dL (i:=i_16) rfl rfl rfl (SlD.mono (rep:=cJ) (fun _ _ _ _=>GDomain.mono) hp_0 le1_3).1 (SlD.mono (rep:=cJ) (fun _ _ _ _=>GDomain.mono) hp_0 le1_3).2.1 rfl a5) ?_;refine cI (lT 8 (i:=i_16) (j:=0) rfl rfl rfl (SlD.mono (rep:=cJ) (fun _ _ _ _=>GDomain.mono) hp_0 le1_3).1 (SlD.mono (rep:=cJ) (fun _ _ _ _=>GDomain.mono) hp_0 le1_3).2.1 a5 rfl (im ((SlD.mono (rep:=cJ) (fun _ _ _ _=>GDomain.mono) hp_0 le1_3).2.2 i_16 a5)) rfl) ?_;have hd43_1:=(GDomain.c1 ((SlD.mono (rep:=cJ) (fun _ _ _ _=>GDomain.mono) hp_0 le1_3).2.2 i_16 a5)).2;haveI:=hd43_1.oneC;refine fQ ?_;rintro _ _ ⟨g10,rfl,rfl⟩;refine q3P ?_;have hq:=dM hk;clear hk;obtain ⟨r47,hr47,hk⟩:=hq; (try dsimp only at hk);refine ed ?_;refine q2m ?_;refine cN (cL rfl rfl rfl (fun w hw=>zaB _ w (hw.fr (i:=9) rfl) r28.1 ((cH p.Domains i_16).Station) r47 hr47)) ?_;refine ex ?_;refine TL.ns ?_;refine T.cond rfl (fun h18=>?_) (fun h18=>?_)
       ·replace hk:=dy hk h18;have hq:(db (((cH p.Domains i_16).Channels).length) 8)∧_:=eQ hk;clear hk;obtain ⟨g54,hk⟩:=hq;have hq:(db (c_11++[(GDomain.mk ((cH p.Domains i_16).Station) ((cH p.Domains i_16).Channels))]).length 32)∧_:=eQ hk;clear hk;obtain ⟨g57,hk⟩:=hq; (try dsimp only at hk);refine dT (.still 0 (.still 2 (.still 3 (.still 4 (.still 5 (.two 1 6 (.eff 6 (.still 7 (.eff 8 (.eff 9 (.still 10 (.eff 11 .done)))))) (.still 7 (.two 1 8 (.eff 8 (.eff 9 (.still 10 (.eff 11 .done)))) (.eff 1 (.eff 9 (.still 10 (.eff 11 .done)))))))))))) [.row g10 98 [.int .i64 ((cH p.Domains i_16).Station),(cH (cH cp_0 i_16) 1)], .sl vc_12 100 5 c_12.length (c_12.flatMap c8), .sl vc_13 102 5 c_13.length (c_13.flatMap da), .sl vc_14 104 4 c_14.length (c_14.flatMap dh), .row g6 83 (r28.1.words.1.map U), .row g4 29 [(.slice none 0 0),(.slice none 0 0),(.slice none 0 0),(.slice none 0 0)], .row g2 29 [vp_0,vp_1,vp_2,vp_3], .fr F3] a8 Sx ?_;refine iq ?_;refine fY ?_;refine fY ?_;refine TS.two ?_ ?_
        ·refine fI rfl (Wt.none) rfl rfl (cS 5) (fun w hw=>hw.sub Sx) ?_;refine dF ?_;refine q3o ?_;rintro _ _ ⟨v54_,F4,le3_4,hf54,hq,rfl⟩;obtain rfl:=hq.symm;have le1_4:=le1_3.trans le3_4;haveI:=hf54.oneC;refine ⟨(fun w hw=>(hw.frLe (i:=9) rfl le3_4).sub Sx),?_⟩;refine cR rfl (Yv.build) ?_;refine dF ?_;refine jU ?_;rintro _ _ ⟨g56,rfl,rfl⟩;have hl56:OwnD cJ F4.toFrz 2 [[.int .i64 ((cH p.Domains i_16).Station),v54_]] [(GDomain.mk ((cH p.Domains i_16).Station) ((cH p.Domains i_16).Channels))]:=(cP (OwnD.nil _ _ 2) ⟨_,rfl,hf54⟩);refine ⟨(fun w hw=>(hw.frLe (i:=10) rfl le3_4).sub Sx),?_⟩;refine q1k ?_;rintro v57 _ ⟨hv57,rfl⟩;have ho57:OwnD cJ F4.toFrz 2 (cc_11++[[.int .i64 ((cH p.Domains i_16).Station),v54_]]) (c_11++[(GDomain.mk ((cH p.Domains i_16).Station) ((cH p.Domains i_16).Channels))]):=(cP (OwnD.mono (rep:=cJ) (fun _ _ _ _=>GDomain.mono) hc_11 le3_4) ⟨_,rfl,hf54⟩);refine ⟨(fun w hw=>(hw.frLe (i:=10) rfl le3_4).sub Sx),?_⟩;refine q20 ?_;refine ⟨(fun w hw=>(hw.frLe (i:=10) rfl le3_4).sub Sx),?_⟩;refine q1s ?_;rw [←hn15] at hk;refine q3j ?_;exact K.next ((i_16+1),(c_11++[(GDomain.mk ((cH p.Domains i_16).Station) ((cH p.Domains i_16).Channels))]),v57,(cc_11++[[.int .i64 ((cH p.Domains i_16).Station),v54_]]),c_12,vc_12,c_13,vc_13,c_14,vc_14,F4) ⟨hk,ho57,inferInstance,inferInstance,inferInstance,inferInstance,le1_4⟩ a9 (.c (.c (.c (.c (.c (.c (.c .nil))))))) (List.Sublist.refl _)
        ·refine q3o ?_;rintro _ _ ⟨v54_,F5,le3_5,hf54,hq,rfl⟩;obtain rfl:=hq.symm;have le1_5:=le1_3.trans le3_5;haveI:=hf54.oneC;refine ⟨(fun w hw=>(hw.frLe (i:=9) rfl le3_5).sub Sx),?_⟩;refine cR rfl (Yv.build) ?_;refine TS.two ?_ ?_
         ·refine fI rfl (Wt.none) rfl rfl (cS 5) (fun w hw=>(hw.frLe (i:=9) rfl le3_5).sub Sx) ?_;refine dF ?_;refine jU ?_;rintro _ _ ⟨g56,rfl,rfl⟩;have hl56:OwnD cJ F5.toFrz 2 [[.int .i64 ((cH p.Domains i_16).Station),v54_]] [(GDomain.mk ((cH p.Domains i_16).Station) ((cH p.Domains i_16).Channels))]:=(cP (OwnD.nil _ _ 2) ⟨_,rfl,hf54⟩);refine q2f ?_;refine q1k ?_;rintro v57 _ ⟨hv57,rfl⟩;have ho57:OwnD cJ F5.toFrz 2 (cc_11++[[.int .i64 ((cH p.Domains i_16).Station),v54_]]) (c_11++[(GDomain.mk ((cH p.Domains i_16).Station) ((cH p.Domains i_16).Channels))]):=(cP (OwnD.mono (rep:=cJ) (fun _ _ _ _=>GDomain.mono) hc_11 le3_5) ⟨_,rfl,hf54⟩);refine q2f ?_;refine q20 ?_;refine q2f ?_;refine q1s ?_;rw [←hn15] at hk;refine q3j ?_;exact q4N
         ·refine jU ?_;rintro _ _ ⟨g56,rfl,rfl⟩;have hl56:OwnD cJ F5.toFrz 2 [[.int .i64 ((cH p.Domains i_16).Station),v54_]] [(GDomain.mk ((cH p.Domains i_16).Station) ((cH p.Domains i_16).Channels))]:=(cP (OwnD.nil _ _ 2) ⟨_,rfl,hf54⟩);refine q2f ?_;refine dF ?_;refine fI rfl (Wt.none) rfl rfl (cS 6) (fun w hw=>(hw.frLe (i:=10) rfl le3_5).sub Sx) ?_;refine q1k ?_;rintro v57 _ ⟨hv57,rfl⟩;have ho57:OwnD cJ F5.toFrz 2 (cc_11++[[.int .i64 ((cH p.Domains i_16).Station),v54_]]) (c_11++[(GDomain.mk ((cH p.Domains i_16).Station) ((cH p.Domains i_16).Channels))]):=(cP (OwnD.mono (rep:=cJ) (fun _ _ _ _=>GDomain.mono) hc_11 le3_5) ⟨_,rfl,hf54⟩);refine q2f ?_;refine q20 ?_;refine q2f ?_;refine q1s ?_;rw [←hn15] at hk;refine q3j ?_;exact q4N
       ·replace hk:=dz hk h18;refine gB ?_;rw [←hn15] at hk;refine K.pick [1,2,3,4,5,6,7,8,9] rfl a6 ?_;exact K.next ((i_16+1),c_11,vc_11,cc_11,c_12,vc_12,c_13,vc_13,c_14,vc_14,F3) ⟨hk,hc_11,inferInstance,inferInstance,inferInstance,inferInstance,le1_3⟩ a9 (.c (.c (.c (.c (.c (.c (.c .nil))))))) (List.Sublist.refl _)
      ·have p17:=of_decide_eq_false h17;rw [fR a5,←hkk15] at hk; (try dsimp only at hk);refine ff ?_;exact c4 (c_11,vc_11,cc_11,c_12,vc_12,c_13,vc_13,c_14,vc_14,F3) ⟨hk,hc_11,inferInstance,inferInstance,inferInstance,inferInstance,le1_3⟩ (.c (.c (.c (.c .nil)))) (List.Sublist.refl _)
    ·rintro ⟨c_6,vc_6,cc_6,c_7,vc_7,c_8,vc_8,c_9,vc_9,F2⟩ ⟨hk,hc_6,oc_6,oc_7,oc_8,oc_9,le1_2⟩; (try dsimp only at *);rw [←hk10] at hk; (try dsimp only at hk);refine iJ ?_;refine eZ ?_;refine q2C ?_;refine cI (dA rfl rfl (SlC.mono hp_1 le1_2) (List.length_map _)) ?_;have hm63:p.Rules.Pairs.length≤9223372036854775807:=(List.length_map _)▸(SlC.mono hp_1 le1_2).max;refine dP ?_;have hq:=eP hk;clear hk;obtain ⟨k23,hk23,hk⟩:=hq; (try dsimp only at hk);refine dj (ι:=List GDomain×Value×List (List Value)×List GPair×Value×List GLoad×Value×List GCap×Value) (fun z=>[(2, .pointer (some ⟨g2,0,none⟩)),(4, .pointer (some ⟨g4,0,none⟩)),(6, .pointer (some ⟨g6,0,none⟩)),(8, .pointer (some ⟨g8,0,none⟩))]) (fun z=>[.sl z.2.1 98 2 z.1.length z.2.2.1.flatten, .sl z.2.2.2.2.1 100 5 z.2.2.2.1.length (z.2.2.2.1.flatMap c8), .sl z.2.2.2.2.2.2.1 102 5 z.2.2.2.2.2.1.length (z.2.2.2.2.2.1.flatMap da), .sl z.2.2.2.2.2.2.2.2 104 4 z.2.2.2.2.2.2.2.1.length (z.2.2.2.2.2.2.2.1.flatMap dh), .row g8 29 [z.2.1,z.2.2.2.2.1,z.2.2.2.2.2.2.1,z.2.2.2.2.2.2.2.2], .row g6 83 (r28.1.words.1.map U), .row g4 29 [(.slice none 0 0),(.slice none 0 0),(.slice none 0 0),(.slice none 0 0)], .row g2 29 [vp_0,vp_1,vp_2,vp_3], .fr F2]) (fun z=>k23 (z.1,z.2.2.2.1,z.2.2.2.2.2.1,z.2.2.2.2.2.2.2.1)=some r∧OwnD cJ F2.toFrz 2 z.2.2.1 z.1∧OneC z.2.1∧OneC z.2.2.2.2.1∧OneC z.2.2.2.2.2.2.1∧OneC z.2.2.2.2.2.2.2.2) ?_ ?_
     ·have hq:=fS hk;clear hk;obtain ⟨f28,kk28,hf28,hkk28,hk⟩:=hq;refine gg ?_;refine T.loop (ι:=Nat×List GDomain×Value×List (List Value)×List GPair×Value×List GLoad×Value×List GCap×Value) (fun z=>[(2, .pointer (some ⟨g2,0,none⟩)),(4, .pointer (some ⟨g4,0,none⟩)),(6, .pointer (some ⟨g6,0,none⟩)),(8, .pointer (some ⟨g8,0,none⟩)),(62,vp_1),(63, .int .i64 (p.Rules.Pairs.length:Int)),(64, .int .i64 (z.1:Int))]) (fun z=>[.sl z.2.2.1 98 2 z.2.1.length z.2.2.2.1.flatten, .sl z.2.2.2.2.2.1 100 5 z.2.2.2.2.1.length (z.2.2.2.2.1.flatMap c8), .sl z.2.2.2.2.2.2.2.1 102 5 z.2.2.2.2.2.2.1.length (z.2.2.2.2.2.2.1.flatMap da), .sl z.2.2.2.2.2.2.2.2.2 104 4 z.2.2.2.2.2.2.2.2.1.length (z.2.2.2.2.2.2.2.2.1.flatMap dh), .row g8 29 [z.2.2.1,z.2.2.2.2.2.1,z.2.2.2.2.2.2.2.1,z.2.2.2.2.2.2.2.2.2], .row g6 83 (r28.1.words.1.map U), .row g4 29 [(.slice none 0 0),(.slice none 0 0),(.slice none 0 0),(.slice none 0 0)], .row g2 29 [vp_0,vp_1,vp_2,vp_3], .fr F2]) (fun z=>di f28 kk28 (p.Rules.Pairs.length - z.1) z.1 (z.2.1,z.2.2.2.2.1,z.2.2.2.2.2.2.1,z.2.2.2.2.2.2.2.2.1)=some r∧OwnD cJ F2.toFrz 2 z.2.2.2.1 z.2.1∧OneC z.2.2.1∧OneC z.2.2.2.2.2.1∧OneC z.2.2.2.2.2.2.2.1∧OneC z.2.2.2.2.2.2.2.2.2) (fun z=>p.Rules.Pairs.length - z.1) (0,c_6,vc_6,cc_6,c_7,vc_7,c_8,vc_8,c_9,vc_9) ?_ ?_ ?_ ?_
      ·exact ⟨hk,hc_6,inferInstance,inferInstance,inferInstance,inferInstance⟩
      ·exact q4c
      ·exact fv
      ·rintro ⟨i_29,c_24,vc_24,cc_24,c_25,vc_25,c_26,vc_26,c_27,vc_27⟩ ⟨hk,hc_24,oc_24,oc_25,oc_26,oc_27⟩; (try dsimp only at *);refine ei ?_;refine T.cond rfl (fun h30=>?_) (fun h30=>?_)
       ·have p30:=of_decide_eq_true h30;rw [fT a5] at hk;generalize hn28:di f28 kk28 (p.Rules.Pairs.length - (i_29+1)) (i_29+1)=next28 at hk;rw [←hf28] at hk; (try dsimp only at hk);refine fq ?_;refine cI (dL (i:=i_29) rfl rfl rfl (SlC.mono hp_1 le1_2) (List.length_map _) rfl a5) ?_;refine cI (fE 8 (i:=i_29) rfl rfl rfl (SlC.mono hp_1 le1_2) a5) ?_;refine fQ ?_;rintro _ _ ⟨g12,rfl,rfl⟩;refine q3P ?_;have hq:=dM hk;clear hk;obtain ⟨r71,hr71,hk⟩:=hq; (try dsimp only at hk);have hq:=eP hk;clear hk;obtain ⟨k32,hk32,hk⟩:=hq; (try dsimp only at hk);refine dj (ι:=Bool) (fun z=>[(2, .pointer (some ⟨g2,0,none⟩)),(4, .pointer (some ⟨g4,0,none⟩)),(6, .pointer (some ⟨g6,0,none⟩)),(8, .pointer (some ⟨g8,0,none⟩)),(12, .pointer (some ⟨g12,0,none⟩)),(62,vp_1),(63, .int .i64 (p.Rules.Pairs.length:Int)),(64, .int .i64 (i_29:Int)),(77, .bool z)]) (fun z=>[.row g12 100 [.int .i64 ((cH p.Rules.Pairs i_29).A), .int .i64 ((cH p.Rules.Pairs i_29).B), .int .i64 ((cH p.Rules.Pairs i_29).Offset), .int .i64 ((cH p.Rules.Pairs i_29).Low), .int .i64 ((cH p.Rules.Pairs i_29).High)], .sl vc_24 98 2 c_24.length cc_24.flatten, .sl vc_25 100 5 c_25.length (c_25.flatMap c8), .sl vc_26 102 5 c_26.length (c_26.flatMap da), .sl vc_27 104 4 c_27.length (c_27.flatMap dh), .row g8 29 [vc_24,vc_25,vc_26,vc_27], .row g6 83 (r28.1.words.1.map U), .row g4 29 [(.slice none 0 0),(.slice none 0 0),(.slice none 0 0),(.slice none 0 0)], .row g2 29 [vp_0,vp_1,vp_2,vp_3], .fr F2]) (fun z=>k32 z=some r) ?_ ?_
        ·refine ed ?_;refine q2m ?_;refine cN (cL rfl rfl rfl (fun w hw=>zaB _ w (hw.fr (i:=9) rfl) r28.1 ((cH p.Rules.Pairs i_29).A) r71 hr71)) ?_;refine lJ ?_;refine dQ rfl rfl rfl (fun h33=>?_) (fun h33=>?_)
         ·replace hk:=dy hk h33;refine q2m ?_;have hq:=dM hk;clear hk;obtain ⟨r76,hr76,hk⟩:=hq;refine cN (cL rfl rfl rfl (fun w hw=>zaB _ w (hw.fr (i:=9) rfl) r28.1 ((cH p.Rules.Pairs i_29).B) r76 hr76)) ?_;refine lJ ?_;refine TL.nil ?_;exact c4 r76 hk (.c (.c (.c (.c (.c (.c (.c (.c (.c .nil))))))))) (List.Sublist.refl _)
         ·replace hk:=dz hk h33;refine q2j ?_;exact q4O
        ·rintro x_31 hk;rw [←hk32] at hk; (try dsimp only at hk);refine T.cond rfl (fun h34=>?_) (fun h34=>?_)
         ·replace hk:=dy hk h34;have hq:(db (c_25++[(cH p.Rules.Pairs i_29)]).length 40)∧_:=eQ hk;clear hk;obtain ⟨g83,hk⟩:=hq; (try dsimp only at hk);refine q2P ?_;rintro _ _ ⟨g82,rfl,rfl⟩;refine cN (d8 3 0 rfl rfl rfl rfl rfl rfl (iC (ys:=[(cH p.Rules.Pairs i_29)])) (zcu (enc:=c8) (xs:=c_25) (ys:=[(cH p.Rules.Pairs i_29)])) g83 a6) ?_;rintro v83 _ ⟨hv83,rfl⟩;refine q2U ?_;rw [←hn28] at hk;refine q3j ?_;exact K.next ((i_29+1),c_24,vc_24,cc_24,(c_25++[(cH p.Rules.Pairs i_29)]),v83,c_26,vc_26,c_27,vc_27) ⟨hk,hc_24,inferInstance,inferInstance,inferInstance,inferInstance⟩ a9 (.c (.c (.c (.c (.c (.c (.c .nil))))))) (List.Sublist.refl _)
         ·replace hk:=dz hk h34;refine gB ?_;rw [←hn28] at hk;refine K.pick [1,2,3,4,5,6,7,8,9] rfl a6 ?_;exact K.next ((i_29+1),c_24,vc_24,cc_24,c_25,vc_25,c_26,vc_26,c_27,vc_27) ⟨hk,hc_24,inferInstance,inferInstance,inferInstance,inferInstance⟩ a9 (.c (.c (.c (.c (.c (.c (.c .nil))))))) (List.Sublist.refl _)
       ·have p30:=of_decide_eq_false h30;rw [fR a5,←hkk28] at hk; (try dsimp only at hk);refine ff ?_;exact c4 (c_24,vc_24,cc_24,c_25,vc_25,c_26,vc_26,c_27,vc_27) ⟨hk,hc_24,inferInstance,inferInstance,inferInstance,inferInstance⟩ (.c (.c (.c (.c .nil)))) (List.Sublist.refl _)
     ·rintro ⟨c_19,vc_19,cc_19,c_20,vc_20,c_21,vc_21,c_22,vc_22⟩ ⟨hk,hc_19,oc_19,oc_20,oc_21,oc_22⟩; (try dsimp only at *);rw [←hk23] at hk; (try dsimp only at hk);refine iJ ?_;refine eZ ?_;refine q2C ?_;refine cI (dA rfl rfl (SlC.mono hp_2 le1_2) (List.length_map _)) ?_;have hm90:p.Rules.Loads.length≤9223372036854775807:=(List.length_map _)▸(SlC.mono hp_2 le1_2).max;refine dP ?_;have hq:=eP hk;clear hk;obtain ⟨k39,hk39,hk⟩:=hq; (try dsimp only at hk);refine dj (ι:=List GDomain×Value×List (List Value)×List GPair×Value×List GLoad×Value×List GCap×Value) (fun z=>[(2, .pointer (some ⟨g2,0,none⟩)),(4, .pointer (some ⟨g4,0,none⟩)),(6, .pointer (some ⟨g6,0,none⟩)),(8, .pointer (some ⟨g8,0,none⟩))]) (fun z=>[.sl z.2.1 98 2 z.1.length z.2.2.1.flatten, .sl z.2.2.2.2.1 100 5 z.2.2.2.1.length (z.2.2.2.1.flatMap c8), .sl z.2.2.2.2.2.2.1 102 5 z.2.2.2.2.2.1.length (z.2.2.2.2.2.1.flatMap da), .sl z.2.2.2.2.2.2.2.2 104 4 z.2.2.2.2.2.2.2.1.length (z.2.2.2.2.2.2.2.1.flatMap dh), .row g8 29 [z.2.1,z.2.2.2.2.1,z.2.2.2.2.2.2.1,z.2.2.2.2.2.2.2.2], .row g6 83 (r28.1.words.1.map U), .row g4 29 [(.slice none 0 0),(.slice none 0 0),(.slice none 0 0),(.slice none 0 0)], .row g2 29 [vp_0,vp_1,vp_2,vp_3], .fr F2]) (fun z=>k39 (z.1,z.2.2.2.1,z.2.2.2.2.2.1,z.2.2.2.2.2.2.2.1)=some r∧OwnD cJ F2.toFrz 2 z.2.2.1 z.1∧OneC z.2.1∧OneC z.2.2.2.2.1∧OneC z.2.2.2.2.2.2.1∧OneC z.2.2.2.2.2.2.2.2) ?_ ?_
      ·have hq:=fS hk;clear hk;obtain ⟨f44,kk44,hf44,hkk44,hk⟩:=hq;refine gg ?_;refine T.loop (ι:=Nat×List GDomain×Value×List (List Value)×List GPair×Value×List GLoad×Value×List GCap×Value) (fun z=>[(2, .pointer (some ⟨g2,0,none⟩)),(4, .pointer (some ⟨g4,0,none⟩)),(6, .pointer (some ⟨g6,0,none⟩)),(8, .pointer (some ⟨g8,0,none⟩)),(89,vp_2),(90, .int .i64 (p.Rules.Loads.length:Int)),(91, .int .i64 (z.1:Int))]) (fun z=>[.sl z.2.2.1 98 2 z.2.1.length z.2.2.2.1.flatten, .sl z.2.2.2.2.2.1 100 5 z.2.2.2.2.1.length (z.2.2.2.2.1.flatMap c8), .sl z.2.2.2.2.2.2.2.1 102 5 z.2.2.2.2.2.2.1.length (z.2.2.2.2.2.2.1.flatMap da), .sl z.2.2.2.2.2.2.2.2.2 104 4 z.2.2.2.2.2.2.2.2.1.length (z.2.2.2.2.2.2.2.2.1.flatMap dh), .row g8 29 [z.2.2.1,z.2.2.2.2.2.1,z.2.2.2.2.2.2.2.1,z.2.2.2.2.2.2.2.2.2], .row g6 83 (r28.1.words.1.map U), .row g4 29 [(.slice none 0 0),(.slice none 0 0),(.slice none 0 0),(.slice none 0 0)], .row g2 29 [vp_0,vp_1,vp_2,vp_3], .fr F2]) (fun z=>di f44 kk44 (p.Rules.Loads.length - z.1) z.1 (z.2.1,z.2.2.2.2.1,z.2.2.2.2.2.2.1,z.2.2.2.2.2.2.2.2.1)=some r∧OwnD cJ F2.toFrz 2 z.2.2.2.1 z.2.1∧OneC z.2.2.1∧OneC z.2.2.2.2.2.1∧OneC z.2.2.2.2.2.2.2.1∧OneC z.2.2.2.2.2.2.2.2.2) (fun z=>p.Rules.Loads.length - z.1) (0,c_19,vc_19,cc_19,c_20,vc_20,c_21,vc_21,c_22,vc_22) ?_ ?_ ?_ ?_
       ·exact ⟨hk,hc_19,inferInstance,inferInstance,inferInstance,inferInstance⟩
       ·exact q4c
       ·exact fv
       ·rintro ⟨i_45,c_40,vc_40,cc_40,c_41,vc_41,c_42,vc_42,c_43,vc_43⟩ ⟨hk,hc_40,oc_40,oc_41,oc_42,oc_43⟩; (try dsimp only at *);refine ei ?_;refine T.cond rfl (fun h46=>?_) (fun h46=>?_)
        ·have p46:=of_decide_eq_true h46;rw [fT a5] at hk;generalize hn44:di f44 kk44 (p.Rules.Loads.length - (i_45+1)) (i_45+1)=next44 at hk;rw [←hf44] at hk; (try dsimp only at hk);refine fq ?_;refine cI (dL (i:=i_45) rfl rfl rfl (SlC.mono hp_2 le1_2) (List.length_map _) rfl a5) ?_;refine cI (fE 8 (i:=i_45) rfl rfl rfl (SlC.mono hp_2 le1_2) a5) ?_;refine fQ ?_;rintro _ _ ⟨g14,rfl,rfl⟩;refine q3P ?_;have hq:=dM hk;clear hk;obtain ⟨r98,hr98,hk⟩:=hq; (try dsimp only at hk);have hq:=eP hk;clear hk;obtain ⟨k48,hk48,hk⟩:=hq; (try dsimp only at hk);refine dj (ι:=Bool) (fun z=>[(2, .pointer (some ⟨g2,0,none⟩)),(4, .pointer (some ⟨g4,0,none⟩)),(6, .pointer (some ⟨g6,0,none⟩)),(8, .pointer (some ⟨g8,0,none⟩)),(14, .pointer (some ⟨g14,0,none⟩)),(89,vp_2),(90, .int .i64 (p.Rules.Loads.length:Int)),(91, .int .i64 (i_45:Int)),(104, .bool z)]) (fun z=>[.row g14 102 [.int .i64 ((cH p.Rules.Loads i_45).To), .int .i64 ((cH p.Rules.Loads i_45).From), .int .i64 ((cH p.Rules.Loads i_45).Weight), .int .i64 ((cH p.Rules.Loads i_45).Low), .int .i64 ((cH p.Rules.Loads i_45).High)], .sl vc_40 98 2 c_40.length cc_40.flatten, .sl vc_41 100 5 c_41.length (c_41.flatMap c8), .sl vc_42 102 5 c_42.length (c_42.flatMap da), .sl vc_43 104 4 c_43.length (c_43.flatMap dh), .row g8 29 [vc_40,vc_41,vc_42,vc_43], .row g6 83 (r28.1.words.1.map U), .row g4 29 [(.slice none 0 0),(.slice none 0 0),(.slice none 0 0),(.slice none 0 0)], .row g2 29 [vp_0,vp_1,vp_2,vp_3], .fr F2]) (fun z=>k48 z=some r) ?_ ?_
         ·refine ed ?_;refine q2m ?_;refine cN (cL rfl rfl rfl (fun w hw=>zaB _ w (hw.fr (i:=9) rfl) r28.1 ((cH p.Rules.Loads i_45).To) r98 hr98)) ?_;refine lJ ?_;refine dQ rfl rfl rfl (fun h49=>?_) (fun h49=>?_)
          ·replace hk:=dy hk h49;refine q2m ?_;have hq:=dM hk;clear hk;obtain ⟨r103,hr103,hk⟩:=hq;refine cN (cL rfl rfl rfl (fun w hw=>zaB _ w (hw.fr (i:=9) rfl) r28.1 ((cH p.Rules.Loads i_45).From) r103 hr103)) ?_;refine lJ ?_;refine TL.nil ?_;exact c4 r103 hk (.c (.c (.c (.c (.c (.c (.c (.c (.c .nil))))))))) (List.Sublist.refl _)
          ·replace hk:=dz hk h49;refine q2j ?_;exact q4O
         ·rintro x_47 hk;rw [←hk48] at hk; (try dsimp only at hk);refine T.cond rfl (fun h50=>?_) (fun h50=>?_)
          ·replace hk:=dy hk h50;have hq:(db (c_42++[(cH p.Rules.Loads i_45)]).length 40)∧_:=eQ hk;clear hk;obtain ⟨g110,hk⟩:=hq; (try dsimp only at hk);refine q2P ?_;rintro _ _ ⟨g109,rfl,rfl⟩;refine cN (d8 4 0 rfl rfl rfl rfl rfl rfl (iC (ys:=[(cH p.Rules.Loads i_45)])) (zcu (enc:=da) (xs:=c_42) (ys:=[(cH p.Rules.Loads i_45)])) g110 a6) ?_;rintro v110 _ ⟨hv110,rfl⟩;refine q2U ?_;rw [←hn44] at hk;refine q3j ?_;exact K.next ((i_45+1),c_40,vc_40,cc_40,c_41,vc_41,(c_42++[(cH p.Rules.Loads i_45)]),v110,c_43,vc_43) ⟨hk,hc_40,inferInstance,inferInstance,inferInstance,inferInstance⟩ a9 (.c (.c (.c (.c (.c (.c (.c .nil))))))) (List.Sublist.refl _)
          ·replace hk:=dz hk h50;refine gB ?_;rw [←hn44] at hk;refine K.pick [1,2,3,4,5,6,7,8,9] rfl a6 ?_;exact K.next ((i_45+1),c_40,vc_40,cc_40,c_41,vc_41,c_42,vc_42,c_43,vc_43) ⟨hk,hc_40,inferInstance,inferInstance,inferInstance,inferInstance⟩ a9 (.c (.c (.c (.c (.c (.c (.c .nil))))))) (List.Sublist.refl _)
        ·have p46:=of_decide_eq_false h46;rw [fR a5,←hkk44] at hk; (try dsimp only at hk);refine ff ?_;exact c4 (c_40,vc_40,cc_40,c_41,vc_41,c_42,vc_42,c_43,vc_43) ⟨hk,hc_40,inferInstance,inferInstance,inferInstance,inferInstance⟩ (.c (.c (.c (.c .nil)))) (List.Sublist.refl _)
      ·rintro ⟨c_35,vc_35,cc_35,c_36,vc_36,c_37,vc_37,c_38,vc_38⟩ ⟨hk,hc_35,oc_35,oc_36,oc_37,oc_38⟩; (try dsimp only at *);rw [←hk39] at hk; (try dsimp only at hk);refine iJ ?_;refine eZ ?_;refine q2C ?_;refine cI (dA rfl rfl (SlC.mono hp_3 le1_2) (List.length_map _)) ?_;have hm117:p.Rules.Caps.length≤9223372036854775807:=(List.length_map _)▸(SlC.mono hp_3 le1_2).max;refine dP ?_;have hq:=eP hk;clear hk;obtain ⟨k55,hk55,hk⟩:=hq; (try dsimp only at hk);refine dj (ι:=List GDomain×Value×List (List Value)×List GPair×Value×List GLoad×Value×List GCap×Value) (fun z=>[(4, .pointer (some ⟨g4,0,none⟩)),(8, .pointer (some ⟨g8,0,none⟩))]) (fun z=>[.sl z.2.1 98 2 z.1.length z.2.2.1.flatten, .sl z.2.2.2.2.1 100 5 z.2.2.2.1.length (z.2.2.2.1.flatMap c8), .sl z.2.2.2.2.2.2.1 102 5 z.2.2.2.2.2.1.length (z.2.2.2.2.2.1.flatMap da), .sl z.2.2.2.2.2.2.2.2 104 4 z.2.2.2.2.2.2.2.1.length (z.2.2.2.2.2.2.2.1.flatMap dh), .row g8 29 [z.2.1,z.2.2.2.2.1,z.2.2.2.2.2.2.1,z.2.2.2.2.2.2.2.2], .row g4 29 [(.slice none 0 0),(.slice none 0 0),(.slice none 0 0),(.slice none 0 0)], .fr F2]) (fun z=>k55 (z.1,z.2.2.2.1,z.2.2.2.2.2.1,z.2.2.2.2.2.2.2.1)=some r∧OwnD cJ F2.toFrz 2 z.2.2.1 z.1∧OneC z.2.1∧OneC z.2.2.2.2.1∧OneC z.2.2.2.2.2.2.1∧OneC z.2.2.2.2.2.2.2.2) ?_ ?_
       ·have hq:=fS hk;clear hk;obtain ⟨f60,kk60,hf60,hkk60,hk⟩:=hq;refine gg ?_;refine T.pick [0,1,2,3,4,5,6,8] rfl a6 ?_;refine T.loop (ι:=Nat×List GDomain×Value×List (List Value)×List GPair×Value×List GLoad×Value×List GCap×Value) (fun z=>[(4, .pointer (some ⟨g4,0,none⟩)),(6, .pointer (some ⟨g6,0,none⟩)),(8, .pointer (some ⟨g8,0,none⟩)),(116,vp_3),(117, .int .i64 (p.Rules.Caps.length:Int)),(118, .int .i64 (z.1:Int))]) (fun z=>[.sl z.2.2.1 98 2 z.2.1.length z.2.2.2.1.flatten, .sl z.2.2.2.2.2.1 100 5 z.2.2.2.2.1.length (z.2.2.2.2.1.flatMap c8), .sl z.2.2.2.2.2.2.2.1 102 5 z.2.2.2.2.2.2.1.length (z.2.2.2.2.2.2.1.flatMap da), .sl z.2.2.2.2.2.2.2.2.2 104 4 z.2.2.2.2.2.2.2.2.1.length (z.2.2.2.2.2.2.2.2.1.flatMap dh), .row g8 29 [z.2.2.1,z.2.2.2.2.2.1,z.2.2.2.2.2.2.2.1,z.2.2.2.2.2.2.2.2.2], .row g6 83 (r28.1.words.1.map U), .row g4 29 [(.slice none 0 0),(.slice none 0 0),(.slice none 0 0),(.slice none 0 0)], .fr F2]) (fun z=>di f60 kk60 (p.Rules.Caps.length - z.1) z.1 (z.2.1,z.2.2.2.2.1,z.2.2.2.2.2.2.1,z.2.2.2.2.2.2.2.2.1)=some r∧OwnD cJ F2.toFrz 2 z.2.2.2.1 z.2.1∧OneC z.2.2.1∧OneC z.2.2.2.2.2.1∧OneC z.2.2.2.2.2.2.2.1∧OneC z.2.2.2.2.2.2.2.2.2) (fun z=>p.Rules.Caps.length - z.1) (0,c_35,vc_35,cc_35,c_36,vc_36,c_37,vc_37,c_38,vc_38) ?_ ?_ ?_ ?_
        ·exact ⟨hk,hc_35,inferInstance,inferInstance,inferInstance,inferInstance⟩
        ·exact (.c (.c (.c (.c (.c (.c .nil))))))
        ·exact fv
        ·rintro ⟨i_61,c_56,vc_56,cc_56,c_57,vc_57,c_58,vc_58,c_59,vc_59⟩ ⟨hk,hc_56,oc_56,oc_57,oc_58,oc_59⟩; (try dsimp only at *);refine ei ?_;refine T.cond rfl (fun h62=>?_) (fun h62=>?_)
         ·have p62:=of_decide_eq_true h62;rw [fT a5] at hk;generalize hn60:di f60 kk60 (p.Rules.Caps.length - (i_61+1)) (i_61+1)=next60 at hk;rw [←hf60] at hk; (try dsimp only at hk);refine fq ?_;refine cI (dL (i:=i_61) rfl rfl rfl (SlC.mono hp_3 le1_2) (List.length_map _) rfl a5) ?_;refine cI (fE 7 (i:=i_61) rfl rfl rfl (SlC.mono hp_3 le1_2) a5) ?_;refine fQ ?_;rintro _ _ ⟨g16,rfl,rfl⟩;refine q3P ?_;have hq:=dM hk;clear hk;obtain ⟨r125,hr125,hk⟩:=hq; (try dsimp only at hk);refine ed ?_;refine q2m ?_;refine cN (cL rfl rfl rfl (fun w hw=>zaB _ w (hw.fr (i:=8) rfl) r28.1 ((cH p.Rules.Caps i_61).Station) r125 hr125)) ?_;refine ex ?_;refine TL.ns ?_;refine T.cond rfl (fun h63=>?_) (fun h63=>?_)
          ·replace hk:=dy hk h63;have hq:(db (c_59++[(cH p.Rules.Caps i_61)]).length 32)∧_:=eQ hk;clear hk;obtain ⟨g131,hk⟩:=hq; (try dsimp only at hk);refine q2P ?_;rintro _ _ ⟨g130,rfl,rfl⟩;refine cN (d8 5 0 rfl rfl rfl rfl rfl rfl (iC (ys:=[(cH p.Rules.Caps i_61)])) (zcu (enc:=dh) (xs:=c_59) (ys:=[(cH p.Rules.Caps i_61)])) g131 a6) ?_;rintro v131 _ ⟨hv131,rfl⟩;refine q2U ?_;rw [←hn60] at hk;refine K.pick [2,3,4,5,6,7,8,9] rfl a6 ?_;exact K.next ((i_61+1),c_56,vc_56,cc_56,c_57,vc_57,c_58,vc_58,(c_59++[(cH p.Rules.Caps i_61)]),v131) ⟨hk,hc_56,inferInstance,inferInstance,inferInstance,inferInstance⟩ a9 (.c (.c (.c (.c (.c (.c .nil)))))) (List.Sublist.refl _)
          ·replace hk:=dz hk h63;refine gB ?_;rw [←hn60] at hk;refine K.pick [1,2,3,4,5,6,7,8] rfl a6 ?_;exact K.next ((i_61+1),c_56,vc_56,cc_56,c_57,vc_57,c_58,vc_58,c_59,vc_59) ⟨hk,hc_56,inferInstance,inferInstance,inferInstance,inferInstance⟩ a9 (.c (.c (.c (.c (.c (.c .nil)))))) (List.Sublist.refl _)
         ·have p62:=of_decide_eq_false h62;rw [fR a5,←hkk60] at hk; (try dsimp only at hk);refine ff ?_;refine K.pick [0,1,2,3,4,6,7] rfl a6 ?_;exact c4 (c_56,vc_56,cc_56,c_57,vc_57,c_58,vc_58,c_59,vc_59) ⟨hk,hc_56,inferInstance,inferInstance,inferInstance,inferInstance⟩ (.c (.c .nil)) (List.Sublist.refl _)
       ·rintro ⟨c_51,vc_51,cc_51,c_52,vc_52,c_53,vc_53,c_54,vc_54⟩ ⟨hk,hc_51,oc_51,oc_52,oc_53,oc_54⟩; (try dsimp only at *);rw [←hk55] at hk; (try dsimp only at hk);refine de ?_;refine cI (dJ 4) ?_;refine d7 (dr 5) ?_;refine ex ?_;refine eU ?_;refine jP (fun w hw=>hw.freezeS (i:=6) (j:=0) a6 rfl rfl) ?_;rintro F6 ⟨le2_6,hz6⟩;refine gU ?_;have le1_6:=le1_2.trans le2_6;have hf6:=hz6.toD (OwnD.mono (rep:=cJ) (fun _ _ _ _=>GDomain.mono) hc_51 le2_6) rfl;haveI:=hf6.1.oneC;refine jP (fun w hw=>hw.freezeS (i:=5) (j:=0) a6 rfl rfl) ?_;rintro F7 ⟨le6_7,hz7⟩;refine gU ?_;have le1_7:=le1_6.trans le6_7;have hf7:=hz7.toF rfl GPair.len;haveI:=hf7.oneC;refine jP (fun w hw=>hw.freezeS (i:=4) (j:=0) a6 rfl rfl) ?_;rintro F8 ⟨le7_8,hz8⟩;refine gU ?_;have le1_8:=le1_7.trans le7_8;have le6_8:=le6_7.trans le7_8;have hf8:=hz8.toF rfl GLoad.len;haveI:=hf8.oneC;refine q28 ?_;rintro F9 ⟨le8_9,hz9⟩;refine gU ?_;have le1_9:=le1_8.trans le8_9;have le6_9:=le6_8.trans le8_9;have le7_9:=le7_8.trans le8_9;have hf9:=hz9.toF rfl GCap.len;haveI:=hf9.oneC;obtain rfl:=Option.some.inj hk;exact gz 1 rfl rfl rfl rfl rfl (fun w' hw=>⟨(vc_51,cc_51,vc_52,vc_53,vc_54),F9.toFrz,⟨(SlD.mono (rep:=cJ) (fun _ _ _ _=>GDomain.mono) hf6 le6_9),(SlC.mono hf7 le7_9),(SlC.mono hf8 le8_9),hf9⟩,rfl,fC hw (i:=2) rfl hS0 le1_9⟩)
def zcn (low:Int)(high:Int):Bool:=
 (((decide (2≤low))&&(decide (low≤high)))&&(decide (high≤51)))
def zdc (c:GPair):Bool:=
 (((((ks c.A)&&(ks c.B))&&(decide (c.A<c.B)))&&(zaP c.Offset (-1) 1))&&(zcn c.Low c.High))
def zdf (c:GLoad):Bool:=
 (((((ks c.To)&&(ks c.From))&&(decide (¬c.To=c.From)))&&(zaP c.Weight 1 1073741824))&&(zcn c.Low c.High))
def zdv (c:GCap):Bool:=
 (((ks c.Station)&&(zaP c.Max 0 1099511627776))&&(zcn c.Low c.High))
theorem zjq (i:Nat):((i:Int) - 1).toNat=i - 1:=by omega
theorem fN {s c:Int}{x:GDomain}{q:Int}:q∈(iL s c x).Channels↔q∈x.Channels∧(x.Station=s→q=c):=by
 unfold iL;dsimp only;by_cases hs:x.Station=s
 ·rw [decide_eq_true hs,cond_true]
  cases ha:x.Channels.any (fun k=>decide (k=c)) with
  |true=>
   rw [cond_true];obtain ⟨k,hk,he⟩:=List.any_eq_true.1 ha;have:=of_decide_eq_true he;subst this;simp only [List.mem_singleton];exact ⟨fun h=>by subst h;exact ⟨hk,fun _=>rfl⟩,fun h=>h.2 hs⟩
  |false=>
   rw [cond_false];refine ⟨(fun h=>by cases h),fun h=>?_⟩;have:=h.2 hs;subst this;have:=List.any_eq_false.1 ha q h.1;simp at this
 ·rw [decide_eq_false hs,cond_false];exact ⟨fun h=>⟨h,fun h2=>absurd h2 hs⟩,fun h=>h.1⟩
theorem zhq {s c:Int}{x:GDomain}:(iL s c x).Channels.Sublist x.Channels:=by
 unfold iL;dsimp only
 cases decide (x.Station=s)
 ·exact fv
 ·cases ha:x.Channels.any (fun k=>decide (k=c))
  ·exact List.nil_sublist _
  ·obtain ⟨k,hk,he⟩:=List.any_eq_true.1 ha;have:=of_decide_eq_true he;subst this;exact List.singleton_sublist.2 hk
section
variable {p:GProblem}{a b d:List GDomain}
theorem l9 {s c:Int}:SubD (d.map (iL s c)) d∧OrdD (d.map (iL s c)) d:=by
 refine ⟨⟨List.length_map _,fun i hi=>?_⟩,fun i hi=>?_⟩
 ·rw [jW hi];exact ⟨rfl,fun k hk=>(fN.1 hk).1⟩
 ·rw [jW hi];exact zhq
theorem zkl {s c:Int}(h:SubD a b):SubD (a.map (iL s c)) (b.map (iL s c)):=by
 refine ⟨by rw [List.length_map,List.length_map,h.1],fun i hi=>?_⟩;rw [List.length_map] at hi;rw [jW hi,jW (by rw [h.1];exact hi)];have h2:=h.2 i hi;refine ⟨h2.1,fun k hk=>?_⟩;rw [fN] at hk ⊢;exact ⟨h2.2 k hk.1,fun e=>hk.2 (h2.1.trans e)⟩
theorem OrdD.trans {c:List GDomain}(h:OrdD a b)(k:OrdD b c)(hl:b.length=c.length):OrdD a c:=fun i hi=>(h i (by rw [hl];exact hi)).trans (k i hi)
theorem Bd.ord (hb:Bd b)(hl:a.length=b.length)(h:OrdD a b):Bd a:=by
 refine ⟨by rw [hl];exact hb.len,fun x hx=>?_⟩;obtain ⟨i,hi,rfl⟩:=iS hx; (have hi':i<b.length:=by rw [←hl];exact hi);have h2:=hb.ch _ (gp hi');exact ⟨Nat.le_trans (h i hi').length_le h2.1,h2.2.sublist (h i hi')⟩
theorem PropD.eq {r r':List GDomain×Bool}(hb:Bd d)(h:PropD p d r)(h':PropD p d r'):r=r':=by
 rcases h with ⟨h1,h2,h3,h4⟩|⟨h1,h2⟩
 ·rcases h' with ⟨g1,g2,g3,g4⟩|⟨g1,g2⟩
  ·have e1:=h4 _ g2 g3.1;have e2:=g4 _ h2 h3.1
   have:r.1=r'.1:=by
    refine ze8 (by rw [e2.1]) fun i hi=>?_; (have hi1:i<r'.1.length:=by rw [←e2.1];exact hi); (have hid:i<d.length:=by rw [←h3.1.1];exact hi);have a1:=e1.2 i hi;have a2:=e2.2 i hi1;have hch:(cH r.1 i).Channels=(cH r'.1 i).Channels:=zcZ (h3.2 i hid) (g3.2 i hid) (hb.ch _ (gp hid)).2 (fun x=>⟨a2.2 x,a1.2 x⟩)
    cases hx:cH r.1 i with
    |mk s1 c1=>
     cases hy:cH r'.1 i with
     |mk s2 c2=>
      have b1:=a2.1;rw [hx,hy] at b1 hch;simp only at b1 hch;rw [b1,hch]
   exact Prod.ext this (h1.trans g1.symm)
  ·exact absurd h3.1 (g2 _ h2)
 ·rcases h' with ⟨g1,g2,g3,g4⟩|⟨g1,g2⟩
  ·exact absurd g3.1 (h2 _ g2)
  ·rw [h1,g1]
theorem PropD.keep {m r:List GDomain×Bool}{s c:Int}(h:PropD p d m)(hm:m.2=true)(hr:PropD p (m.1.map (iL s c)) r):PropD p (d.map (iL s c)) r:=by
 rcases h with ⟨_,h2,h3,h4⟩|⟨h1,_⟩
 ·have hsup:∀S,ClosedD p S→SubD S (d.map (iL s c))→SubD S (m.1.map (iL s c)):=fun S hS hs=>by
   have h5:=h4 S hS (hs.trans l9.1);refine ⟨by rw [List.length_map];exact h5.1,fun i hi=>?_⟩;rw [List.length_map] at hi; (have hid:i<d.length:=by rw [←h3.1.1];exact hi);rw [jW hi];have h6:=h5.2 i hi;refine ⟨h6.1,fun k hk=>fN.2 ⟨h6.2 k hk,fun e=>?_⟩⟩;have h7:=(hs.2 i (by rw [List.length_map];exact hid)).2 k hk;rw [jW hid] at h7;exact (fN.1 h7).2 (by rw [←(h3.1.2 i hid).1];exact e)
  rcases hr with ⟨g1,g2,g3,g4⟩|⟨g1,g2⟩
  ·refine .inl ⟨g1,g2,⟨g3.1.trans (zkl h3.1),fun i hi=>?_⟩,fun S hS hs=>g4 S hS (hsup S hS hs)⟩;rw [List.length_map] at hi; (have hi':i<m.1.length:=by rw [h3.1.1];exact hi);have h8:=g3.2 i (by rw [List.length_map];exact hi');rw [jW hi'] at h8;rw [jW hi];refine h8.trans ?_;have hst:=(h3.1.2 i hi).1;have hsb:=h3.2 i hi;unfold iL;dsimp only;rw [hst]
   cases decide ((cH d i).Station=s)
   ·exact hsb
   ·cases ha:(cH m.1 i).Channels.any (fun k=>decide (k=c))
    ·exact List.nil_sublist _
    ·obtain ⟨k,hk,he⟩:=List.any_eq_true.1 ha;rw [List.any_eq_true.2 ⟨k,hsb.subset hk,he⟩];exact fv
  ·exact .inr ⟨g1,fun S hS hs=>g2 S hS (hsup S hS hs)⟩
 ·rw [h1] at hm;cases hm
theorem PropD.ord {m:List GDomain×Bool}(h:PropD p d m)(hm:m.2=true):m.1.length=d.length∧OrdD m.1 d:=by
 rcases h with ⟨_,_,h3,_⟩|⟨h1,_⟩
 ·exact ⟨h3.1.1,h3.2⟩
 ·rw [h1] at hm;cases hm
def zjg (l:List GChoice)(i:Nat):Bool:=inB (cH l i).Station 0 511&&(inB (cH l i).Channel 2 51&& !(decide (0<(i:Int))&&decide ((cH l i).Station≤(cH l (i - 1)).Station)))
theorem zmV (p:GProblem):(ke p).er=p:=by
 unfold ke Pb.er;dsimp only;rw [zee (g:=Dx.er) (fun _=>rfl),zee (g:=Pr.er) (fun _=>rfl),zee (g:=Ld.er) (fun _=>rfl),zee (g:=Cp.er) (fun _=>rfl)]
theorem zie {d:List GDomain}{n:Nat}(h:∀x∈d,x.Channels.length≤n):fu d≤d.length*n:=by
 induction d with
 |nil=>simp [fu]
 |cons x r ih=>
  have h1:=h x a7;have h2:=ih (fun y hy=>h y (by simp [hy]));simp only [fu,List.map_cons,List.sum_cons,List.length_cons,Nat.add_mul] at h2 ⊢;omega
theorem zlX (h:kK p=true):WtP p∧Bd p.Domains∧fu p.Domains≤30000∧p.Domains.length≤512:=by
 have hG:=Pb.good h;have hw:=zmK h;rw [zmV] at hw;have hl:(ke p).ds.length=p.Domains.length:=List.length_map _; (have hn:p.Domains.length≤512:=by rw [←hl];exact hG.n)
 have hc:∀x∈p.Domains,x.Channels.length≤52∧x.Channels.Nodup:=fun x hx=>by
  obtain ⟨i,hi,rfl⟩:=iS hx;have e:cH (ke p).ds i=(cH p.Domains i).b:=zcv hi;have h1:=hG.chs _ (gp (show i<(ke p).ds.length by rw [hl];exact hi));have h2:=zjX h (i:=i) (by rw [hl];exact hi);rw [e] at h1 h2;exact ⟨h1.1,(zd3 List.nodup_range').sublist h2⟩
 refine ⟨hw,⟨by omega,fun x hx=>⟨by have:=(hc x hx).1;omega,(hc x hx).2⟩⟩,?_,hn⟩;have:=zie (d:=p.Domains) (n:=52) (fun x hx=>(hc x hx).1);omega
end
structure GG (p:GProblem):Prop where
 n:p.Domains.length≤512
 st:∀x∈p.Domains,0≤x.Station∧x.Station≤511
 chs:∀x∈p.Domains,x.Channels.length≤52∧∀c∈x.Channels,2≤c∧c≤51
 inc:∀i j,i<j→j<p.Domains.length→(cH p.Domains i).Station<(cH p.Domains j).Station
 ps:∀x∈p.Rules.Pairs,(jh p x.A=true∧jh p x.B=true)∧(x.A<x.B∧ -1≤x.Offset∧x.Offset≤1)∧2≤x.Low∧x.Low≤x.High∧x.High≤51
 ls:∀x∈p.Rules.Loads,(jh p x.To=true∧jh p x.From=true)∧(x.To≠x.From∧1≤x.Weight∧x.Weight≤1073741824)∧2≤x.Low∧x.Low≤x.High∧x.High≤51
 cs:∀x∈p.Rules.Caps,jh p x.Station=true∧(0≤x.Max∧x.Max≤1099511627776)∧2≤x.Low∧x.Low≤x.High∧x.High≤51
 lls:p.Rules.Loads.length≤1024
 lps:p.Rules.Pairs.length≤4096
 lcs:p.Rules.Caps.length≤1024
theorem i5 {p:GProblem}{s:Int}:jh p s=true↔∃x∈p.Domains,x.Station=s:=by
 unfold jh;rw [List.any_eq_true];simp only [decide_eq_true_eq]
structure ValidL (l:List GChoice):Prop where
 good:∀c∈l,0≤c.Station∧c.Station≤511∧2≤c.Channel∧c.Channel≤51
 inc:∀i j,i<j→j<l.length→(cH l i).Station<(cH l j).Station
theorem ku {l:List GChoice}:(List.range l.length).all (zjg l)=true↔ValidL l:=by
 rw [List.all_eq_true];simp only [List.mem_range,zjg,inB,Bool.and_eq_true,decide_eq_true_eq,Bool.not_eq_true',Bool.and_eq_false_iff,decide_eq_false_iff_not];constructor
 ·intro h;refine ⟨fun c hc=>?_,fun i j hij hj=>?_⟩
  ·obtain ⟨i,hi,rfl⟩:=iS hc;have:=h i hi;omega
  ·have key:∀m,i+m+1<l.length→(cH l i).Station<(cH l (i+m+1)).Station:=by
    intro m
    induction m with
    |zero=>intro hm;have:=(h (i+1) hm).2.2;rw [show i+1 - 1=i by omega] at this;rw [Nat.add_zero];omega
    |succ m ih=>intro hm;have h1:=ih a5;have:=(h (i+(m+1)+1) hm).2.2;rw [show i+(m+1)+1 - 1=i+m+1 by omega] at this;omega
   have:=key (j - i - 1) a5
   rwa [show i+(j - i - 1)+1=j by omega] at this
 ·intro h i hi;have:=h.good _ (gp hi);refine ⟨by omega,by omega,?_⟩;rcases Nat.eq_zero_or_pos i with h0|h0
  ·subst h0;left;omega
  ·right;have:=h.inc (i - 1) i a5 hi;omega
theorem ValidL.inj {l:List GChoice}(h:ValidL l){a b:GChoice}(ha:a∈l)(hb:b∈l)(e:a.Station=b.Station):a=b:=by
 obtain ⟨i,hi,rfl⟩:=iS ha;obtain ⟨j,hj,rfl⟩:=iS hb;rcases Nat.lt_trichotomy i j with h1|h1|h1
 ·have:=h.inc i j h1 hj;omega
 ·rw [h1]
 ·have:=h.inc j i h1 hi;omega
def orV (k:Int)(o:Option Nat)(r:GViolation):GViolation:=match o with
 |some i=>⟨k,(i:Int)⟩
 |none=>r
section
variable {p:GProblem}{f:Int→Int}
end
structure FiltD (f:GDomain→GDomain) (φ:Int→Int→Prop):Prop where
 st:∀x,(f x).Station=x.Station
 mem:∀x q,q∈(f x).Channels↔q∈x.Channels∧φ x.Station q
 sub:∀x,(f x).Channels.Sublist x.Channels
 mono:∀x y,x.Station=y.Station→x.Channels.Sublist y.Channels→(f x).Channels.Sublist (f y).Channels
theorem FiltD.id:FiltD id (fun _ _=>True):=⟨fun _=>rfl,fun _ _=>by simp,fun _=>List.Sublist.refl _,fun _ _ _ h=>h⟩
theorem FiltD.keep (s c:Int):FiltD (iL s c) (fun t q=>t=s→q=c):=by
 refine ⟨fun _=>rfl,fun _ _=>fN,fun _=>zhq,fun x y hst hsb=>?_⟩;unfold iL;dsimp only;rw [hst]
 cases decide (y.Station=s)
 ·exact hsb
 ·cases ha:x.Channels.any (fun k=>decide (k=c))
  ·exact List.nil_sublist _
  ·obtain ⟨k,hk,he⟩:=List.any_eq_true.1 ha;rw [List.any_eq_true.2 ⟨k,hsb.subset hk,he⟩];exact fv
theorem FiltD.drop (s c:Int):FiltD (jL s c) (fun t q=>¬t=s∨¬q=c):=by
 refine ⟨fun _=>rfl,fun x q=>?_,fun _=>List.filter_sublist,fun x y hst hsb=>?_⟩
 ·unfold jL;simp only [List.mem_filter,Bool.or_eq_true,decide_eq_true_eq]
 ·unfold jL;dsimp only;rw [hst];exact hsb.filter _
section
variable {p:GProblem}{a b d:List GDomain}{f:GDomain→GDomain}{φ:Int→Int→Prop}
def actC (keep:Bool)(c:GChoice):GDomain→GDomain:=bif zjx c then (bif keep then iL c.Station c.Channel else jL c.Station c.Channel) else id
end
theorem zhI {l:List GChoice}:kc l=(List.range l.length).all (zjg l):=by
 unfold kc;simp only [dS,Nat.sub_zero];rw [zeN (zjg l) (fun i next _=>?_),Bool.and_true];rw [zjq];unfold zjg
 show (bif !(inB (cH l i).Station 0 511)|| !(inB (cH l i).Channel 2 51) then false else _)=_
 cases inB (cH l i).Station 0 511 <;> cases inB (cH l i).Channel 2 51 <;> cases (decide (0<(i:Int))&&decide ((cH l i).Station≤(cH l (i - 1)).Station)) <;> rfl
def bitN (p:GProblem)(i:Nat)(n b:Nat):Prop:=∃j,j<i∧(cH p.Domains j).Station=(n:Int)∧(b=0∨(b:Int)∈(cH p.Domains j).Channels)
def TabN (p:GProblem)(v:Vec 512 (BitVec 64)):Prop:=∀n b,n<512→b<64→((Vec.get v n).getLsbD b=true↔bitN p p.Domains.length n b)
theorem TabN.zero {p:GProblem}{v:Vec 512 (BitVec 64)}(hG:GG p)(h:TabN p v){s:Int}(h0:0≤s∧s≤511):decide (((Vec.get v s.toNat).toNat:Int)=((0#64).toNat:Int))= !jh p s:=by
 have key:jh p s=true↔(Vec.get v s.toNat).getLsbD 0=true:=by
  rw [h _ _ a5 a5,i5];constructor
  ·rintro ⟨x,hx,e⟩;obtain ⟨j,hj,rfl⟩:=iS hx;exact ⟨j,hj,by omega, .inl rfl⟩
  ·rintro ⟨j,hj,e,_⟩;exact ⟨_,gp hj,by omega⟩
 have none:jh p s=false→∀b,b<64→(Vec.get v s.toNat).getLsbD b=false:=fun hf b hb=>by
  cases hg:(Vec.get v s.toNat).getLsbD b with
  |false=>rfl
  |true=>
   obtain ⟨j,hj,e,_⟩:=(h _ _ a5 hb).1 hg;have:jh p s=true:=i5.2 ⟨_,gp hj,by omega⟩;rw [hf] at this;cases this
 cases hh:jh p s with
 |true=>
  refine decide_eq_false fun e=>?_;have h1:=key.1 hh;have e2:Vec.get v s.toNat=0#64:=BitVec.eq_of_toNat_eq a5;rw [e2] at h1;simp at h1
 |false=>
  refine decide_eq_true ?_; (have e2:Vec.get v s.toNat=0#64:=BitVec.eq_of_getLsbD_eq fun b hb=>by rw [none hh b hb];simp);rw [e2]
def zle (p:GProblem)(s c:Int):Bool:=p.Domains.any fun x=>decide (x.Station=s)&&x.Channels.any fun k=>decide (k=c)
theorem zjY {p:GProblem}{s c:Int}:zle p s c=true↔∃x∈p.Domains,x.Station=s∧c∈x.Channels:=by
 unfold zle;simp only [List.any_eq_true,Bool.and_eq_true,decide_eq_true_eq];constructor
 ·rintro ⟨x,hx,h1,k,hk,rfl⟩;exact ⟨x,hx,h1,hk⟩
 ·rintro ⟨x,hx,h1,hk⟩;exact ⟨x,hx,h1,c,hk,rfl⟩
theorem TabN.bit {p:GProblem}{v:Vec 512 (BitVec 64)}(h:TabN p v){s c:Int}(h0:0≤s∧s≤511)(h1:2≤c∧c≤51):(Vec.get v s.toNat).getLsbD c.toNat=zle p s c:=by
 rw [Bool.eq_iff_iff,h _ _ a5 a5,zjY];constructor
 ·rintro ⟨j,hj,e,h2|h2⟩
  ·omega
  ·exact ⟨_,gp hj,by omega,by rw [show c=((c.toNat:Nat):Int) by omega];exact h2⟩
 ·rintro ⟨x,hx,e,h2⟩;obtain ⟨j,hj,rfl⟩:=iS hx;exact ⟨j,hj,by omega, .inr (by rw [show ((c.toNat:Nat):Int)=c by omega];exact h2)⟩
def okN (p:GProblem)(g:List GChoice):Bool:=(List.range g.length).all (zjg g)&&(List.range g.length).all fun i=>zle p (cH g i).Station (cH g i).Channel
theorem zju {ρ:Type}{f:Nat→(Unit→ρ)→Unit→ρ}{k:Unit→ρ}{z:ρ}(q:Nat→Bool){n s:Nat}(hf:∀i next,s≤i→i<s+n→f i next ()=bif q i then next () else z):di f k n s ()=bif (List.range' s n).all q then k () else z:=by
 induction n generalizing s with
 |zero=>rfl
 |succ m ih=>
  show f s (di f k m (s+1)) ()=_
  rw [hf s _ (Nat.le_refl _) a5,ih (fun i next h1 h2=>hf i next a5 a5),List.range'_succ,List.all_cons]
  cases q s <;> rfl
def fx:List Int→List Int→Bool
 |a :: x,b :: y=>bif decide (a=b) then fx x y else decide (a<b)
 |_,_=>false
def cmpc (a b:Int):Int:=bif decide (a<b) then -1 else bif decide (b<a) then 1 else 0
theorem cmp_x (a b:Int):zbb a b=cmpc a b:=by
 unfold zbb zbp;rw [decide_eq_false (fun h=>h rfl),decide_eq_false (fun h=>h rfl)];rfl
def zgh (x:GPair):List Int:=[x.A,x.B,x.Offset,x.Low,x.High]
def zf9 (x:GLoad):List Int:=[x.To,x.From,x.Weight,x.Low,x.High]
def gD (x:GCap):List Int:=[x.Station,x.Max,x.Low,x.High]
def iw {α:Type}[Inhabited α](lt:α→α→Bool)(l:List α):Bool:=(List.range' 1 (l.length - 1)).all fun i=>lt (cH l (i - 1)) (cH l i)
theorem adj_x {α : Type} [Inhabited α] {l : List α} {cmp : α → α → Int} {lt : α → α → Bool} (hc : ∀ a b, decide (0 ≤ cmp a b) = !lt a b) :
    di (fun (i : Nat) (next : Unit → Option Bool) (_ : Unit) => d4 (0 ≤ ((i : Int) - 1) ∧ ((i : Int) - 1) < (l.length : Int)) (bif decide (0 ≤ cmp (cH l (((i : Int) - 1).toNat)) (cH l i)) then some false else next ())) (fun _ => some true) (l.length - 1) 1 () = some (iw lt l) := by
  rw [zju (fun i => lt (cH l (i - 1)) (cH l i)) (z := some false) (fun i next h1 h2 => ?_)]
  · unfold iw; cases (List.range' 1 (l.length - 1)).all fun i => lt (cH l (i - 1)) (cH l i) <;> rfl
  · rw [gG ⟨by omega, by omega⟩, hc, show ((i : Int) - 1).toNat = i - 1 by omega]
    cases lt (cH l (i - 1)) (cH l i) <;> rfl
theorem zl2 {α:Type}[Inhabited α]{l:List α}{q:α→Bool}:di (fun (i:Nat) (next:Unit→Bool) (_:Unit)=>bif !(q (cH l i)) then false else next ()) (fun _=>true) (l.length - 0) 0 ()=l.all q:=by
 rw [Nat.sub_zero,zeN (fun i=>q (cH l i)) (fun i next hi=>by cases q (cH l i) <;> rfl),zeH,Bool.and_true]
def zmR (r:GRules):Bool:=
 decide ((r.Pairs.length:Int)≤4096)&&(r.Pairs.all zdc&&(iw (fun a b=>fx (zgh a) (zgh b)) r.Pairs&&(decide ((r.Loads.length:Int)≤1024)&&(r.Loads.all zdf&&(iw (fun a b=>fx (zf9 a) (zf9 b)) r.Loads&&(decide ((r.Caps.length:Int)≤1024)&&(r.Caps.all zdv&&iw (fun a b=>fx (gD a) (gD b)) r.Caps)))))))
theorem zkH {α:Type}[Inhabited α]{l:List α}{i:Nat}(h:i<l.length):cH l i∈l:=by rw [dW h];exact List.getElem_mem h
theorem zk7 {c b:Nat}(hc:c<64):((1#64) <<< c).getLsbD b=decide (b=c):=by
 rw [BitVec.getLsbD_shiftLeft];by_cases h:b=c
 ·subst h;simp [hc,BitVec.getLsbD_one]
 ·rw [decide_eq_false h];by_cases h2:b<c
  ·simp [h2]
  ·have e:(1#64).getLsbD (b - c)=false:=by
    rw [BitVec.getLsbD_one];simp;omega
   rw [e,Bool.and_false]
theorem zmn {x:BitVec 64}{c:Nat}:decide ((((x >>> c) &&& (1#64)).toNat:Int)=((1#64).toNat:Int))=x.getLsbD c:=by
 have e:((x >>> c) &&& (1#64))=bif x.getLsbD c then 1#64 else 0#64:=by
  refine BitVec.eq_of_getLsbD_eq fun b hb=>?_;rw [BitVec.getLsbD_and,BitVec.getLsbD_ushiftRight,BitVec.getLsbD_one];by_cases h0:b=0
  ·subst h0;cases x.getLsbD c <;> simp
  ·cases x.getLsbD c <;> simp [h0]
 rw [e]
 cases x.getLsbD c <;> decide
def inS (s:GSet)(i:Int):Bool:=(decide (0≤i)&&decide (i<512))&&(Vec.get s.words (i / 64).toNat).getLsbD (i % 64).toNat
theorem zlF (s:GSet)(i:Int):kN s i=some (inS s i):=by
 unfold kN inS za2;by_cases h:0≤i∧i<512
 ·simp only [dS];rw [decide_eq_true h.1,decide_eq_true h.2];simp only [Bool.and_self,cond_true];rw [gG ⟨h.1,by omega,by omega⟩,gG ⟨by omega,by omega⟩,gG ⟨h.1,by omega⟩,gG ⟨by omega,by omega⟩,zmn,Bool.true_and]
 ·have e:(decide (0≤i)&&decide (i<512))=false:=by
   rw [Bool.and_eq_false_iff,decide_eq_false_iff_not,decide_eq_false_iff_not];omega
  simp only [dS];rw [e];rfl
def wS (v:Vec 8 (BitVec 64))(n:Nat):Bool:=(Vec.get v (n / 64)).getLsbD (n % 64)
theorem zmQ {v:Vec 8 (BitVec 64)}{j n:Nat}(hj:j<512):wS (Vec.put v (j / 64) (Vec.get v (j / 64) ||| ((1#64) <<< (j % 64)))) n=(wS v n||decide (n=j)):=by
 unfold wS;rw [jX a5];by_cases h:n / 64=j / 64
 ·rw [if_pos h,BitVec.getLsbD_or,zk7 a5,h]
  congr 1
  by_cases h2:n % 64=j % 64
  ·rw [decide_eq_true h2,decide_eq_true a5]
  ·rw [decide_eq_false h2,decide_eq_false a5]
 ·rw [if_neg h,decide_eq_false a5,Bool.or_false]
theorem zlo {l:List Int}{i:Nat}(hi:i<l.length)(q:Int→Bool):(l.take (i+1)).any q=((l.take i).any q||q (cH l i)):=by
 rw [List.take_add_one,List.getElem?_eq_getElem hi,List.any_append,dW hi];simp
theorem of_x {l:List Int}(h:∀x∈l,0≤x∧x<512):∃s,zbW l=some (s,0)∧∀i:Int,inS s i=((decide (0≤i)&&decide (i<512))&&l.any fun x=>decide (x=i)):=by
 have hn:∀i,i<l.length→0≤cH l i∧cH l i<512:=fun i hi=>h _ (zkH hi);unfold zbW
 obtain ⟨h1,h2⟩:=zc0 (k:=fun s:Vec 8 (BitVec 64)×Vec 8 (BitVec 64)=>(some (GSet.mk s.2,0):Option (GSet×Int))) (n:=l.length) (s:=(Vec.fill 8 (0#64),Vec.fill 8 (0#64)))
  (f:=fun (i_7:Nat) (next6:(Vec 8 (BitVec 64)×Vec 8 (BitVec 64))→Option (GSet×Int)) (s6:Vec 8 (BitVec 64)×Vec 8 (BitVec 64))=>
   (bif !(za2 (cH l i_7)) then
    some ((GSet.mk (Vec.fill 8 (0#64))),2)
    else
    d4 (0≤(cH l i_7)∧(cH l i_7)≤9223372036854775807∧1≤(64:Int)) <|
    d4 (0≤((cH l i_7) / 64)∧((cH l i_7) / 64)<(8:Int)) <|
    d4 (0≤(cH l i_7)∧1≤(64:Int)) <|
    d4 (0≤((cH l i_7) % 64)∧((cH l i_7) % 64)<(64:Int)) <|
    next6 (s6.1,(Vec.put s6.2 (((cH l i_7) / 64).toNat) ((Vec.get s6.2 (((cH l i_7) / 64).toNat)) ||| ((1#64) <<< (((cH l i_7) % 64).toNat)))))))
  (fun i s=>∀n,n<512→wS s.2 n=(l.take i).any fun x=>decide (x=(n:Int)))
  (fun i s=>(s.1,Vec.put s.2 ((cH l i).toNat / 64) (Vec.get s.2 ((cH l i).toNat / 64) ||| ((1#64) <<< ((cH l i).toNat % 64)))))
  (fun n hn=>by
   unfold wS
   rw [jE a5];simp)
  (fun i s hi hs n hn2=>by
   have:=hn i hi;rw [zmQ a5,hs n hn2,zlo hi]
   congr 1
   by_cases e:cH l i=(n:Int)
   ·rw [decide_eq_true e,decide_eq_true a5]
   ·rw [decide_eq_false e,decide_eq_false a5])
  (fun i next s hi hs=>by
   have:=hn i hi
   have e:za2 (cH l i)=true:=by
    unfold za2;rw [decide_eq_true this.1,decide_eq_true this.2];rfl
   rw [e,Bool.not_true,cond_false,gG ⟨this.1,by omega,by omega⟩,gG ⟨by omega,by omega⟩,gG ⟨this.1,by omega⟩,gG ⟨by omega,by omega⟩,show (cH l i / 64).toNat=(cH l i).toNat / 64 by omega,show (cH l i % 64).toNat=(cH l i).toNat % 64 by omega])
 refine ⟨_,h1,fun i=>?_⟩;unfold inS;by_cases hi:0≤i∧i<512
 ·rw [decide_eq_true hi.1,decide_eq_true hi.2,Bool.and_self,Bool.true_and,Bool.true_and];have h3:=h2 i.toNat a5;rw [List.take_length] at h3;unfold wS at h3;rw [show (i / 64).toNat=i.toNat / 64 by omega,show (i % 64).toNat=i.toNat % 64 by omega];refine h3.trans ?_;rw [show ((i.toNat:Nat):Int)=i by omega]
 ·have e:(decide (0≤i)&&decide (i<512))=false:=by
   rw [Bool.and_eq_false_iff,decide_eq_false_iff_not,decide_eq_false_iff_not];omega
  rw [e];rfl
theorem zns (a b:Int):decide (0≤zbb a b)= !decide (a<b):=by
 rw [cmp_x];unfold cmpc;rcases Int.lt_trichotomy a b with h|h|h
 ·rw [decide_eq_true h];rfl
 ·subst h;rw [decide_eq_false (Int.lt_irrefl a)];rfl
 ·rw [decide_eq_false (show ¬a<b by omega),decide_eq_true h];rfl
theorem zji {n:Int}(h:ks n=true):0≤n∧n≤511:=by
 unfold ks zaP at h;rw [Bool.and_eq_true,decide_eq_true_eq,decide_eq_true_eq] at h;exact h
theorem zgf {a b:Bool}(h:(a&&b)=true):a=true:=((Bool.and_eq_true _ _).mp h).1
theorem zgJ {a b:Bool}(h:(a&&b)=true):b=true:=((Bool.and_eq_true _ _).mp h).2
structure RulesGood (r:GRules):Prop where
 np:r.Pairs.length≤4096
 nl:r.Loads.length≤1024
 nc:r.Caps.length≤1024
 p:∀c∈r.Pairs,zdc c=true
 l:∀c∈r.Loads,zdf c=true
 c:∀c∈r.Caps,zdv c=true
def onL:List GChoice→Int→Int
 | [],_=>0
 |x :: r,n=>bif decide (x.Station=n) then x.Channel else onL r n
def TabC (l:List GChoice)(c:Vec 512 Int):Prop:=∀n,n<512→Vec.get c n=onL l (n:Int)
theorem TabC.get {l:List GChoice}{c:Vec 512 Int}(h:TabC l c){i:Int}(hi:0≤i∧i<512):Vec.get c i.toNat=onL l i:=by
 rw [h _ a5,show ((i.toNat:Nat):Int)=i by omega]
theorem zm8 (l:List Int)(v:Int):jb l v=l.any fun x=>decide (x=v):=by
 have h:=zdX (f:=fun (i:Nat) (next:Unit→Bool) (_:Unit)=>bif decide (cH l i=v) then true else next ()) (k:=fun _=>false) (n:=l.length - 0) (fun i=>decide (cH l i=v)) (fun i next hi=>by cases decide (cH l i=v) <;> rfl);rw [Nat.sub_zero,zdw (q:=fun x=>decide (x=v)),Bool.or_false] at h;exact h
def kT (l:List Int):Bool:=l.all ks&&iw (fun a b=>decide (a<b)) l
theorem zfY (l:List Int):zaU l=some (kT l):=by
 have e1:zaL l=l.all ks:=zl2;have e2:zba l=some (iw (fun a b=>decide (a<b)) l):=adj_x zns;unfold zaU kT;rw [e1,e2];simp only [dS,Option.bind_some]
 cases l.all ks <;> rfl
theorem zhX {l:List Int}(h:kT l=true):∀x∈l,0≤x∧x<512:=fun x hx=>by
 have:=zji (List.all_eq_true.1 (zgf h) x hx);omega
theorem zky {l:List Int}{s:GSet}(hs:∀i:Int,inS s i=((decide (0≤i)&&decide (i<512))&&l.any fun x=>decide (x=i)))(h:kT l=true)(i:Int):inS s i=jb l i:=by
 rw [hs,zm8];by_cases hi:0≤i∧i<512
 ·rw [decide_eq_true hi.1,decide_eq_true hi.2];rfl
 ·have e:(decide (0≤i)&&decide (i<512))=false:=by
   rw [Bool.and_eq_false_iff,decide_eq_false_iff_not,decide_eq_false_iff_not];omega
  rw [e,Bool.false_and]
  symm
  rw [List.any_eq_false];intro x hx hd;have:=zhX h x hx;have:=of_decide_eq_true hd;omega
def zng (l:List GChoice)(st:List Int):List GChoice:=(List.range (l.length - 0)).foldl (fun s i=>bif jb st (cH l i).Station then s++[cH l i] else s) []
theorem zml {l : List GChoice} {st : List Int} (hl : l.length ≤ 100000) : zbV l st = some (bif kc l && kT st then (zng l st, 0) else ([], 2)) := by
  unfold zbV;simp only [dS, zfY, Option.bind_some]
  cases kc l
  · rfl
  cases h2 : kT st
  · rfl
  simp only [Bool.not_true, cond_false, Bool.and_self, cond_true]; obtain ⟨s, h3, h4⟩ := of_x (l := st) (zhX h2); rw [h3, Option.bind_some]
  refine (zc0 (k := fun s : List GChoice => some (s, (0 : Int))) (n := l.length - 0) (s := [])
    (f := fun (i_9 : Nat) (next8 : List GChoice → Option (List GChoice × Int)) (some_7 : List GChoice) =>
          (kN s ((cH l i_9).Station)).bind fun r33 =>
          (bif r33 then
            d4 (db (some_7 ++ [(cH l i_9)]).length 16) <|
            next8 (some_7 ++ [(cH l i_9)])
            else
            next8 some_7))
    (fun i s => s.length ≤ i) (fun i s => bif jb st (cH l i).Station then s ++ [cH l i] else s) a7 (fun i s hi hs => ?_) (fun i next s hi hs => ?_)).1
  · cases jb st (cH l i).Station
    · show s.length ≤ i + 1; omega
    · show (s ++ [cH l i]).length ≤ i + 1; rw [List.length_append]; simp; exact hs
  · rw [zlF, zky h4 h2, Option.bind_some]
    cases jb st (cH l i).Station
    · rfl
    · rw [cond_true, cond_true, gG (by unfold db; rw [List.length_append]; simp; omega)]
abbrev RS:=List GDomain×List GPair×List GLoad×List GCap
def gP (p:GProblem)(st:List Int)(i:Nat)(s:RS):RS:=bif jb st (cH p.Rules.Pairs i).A&&jb st (cH p.Rules.Pairs i).B then (s.1,s.2.1++[cH p.Rules.Pairs i],s.2.2.1,s.2.2.2) else (s.1,s.2.1,s.2.2.1,s.2.2.2)
def gL (p:GProblem)(st:List Int)(i:Nat)(s:RS):RS:=bif jb st (cH p.Rules.Loads i).To&&jb st (cH p.Rules.Loads i).From then (s.1,s.2.1,s.2.2.1++[cH p.Rules.Loads i],s.2.2.2) else (s.1,s.2.1,s.2.2.1,s.2.2.2)
def gC (p:GProblem)(st:List Int)(i:Nat)(s:RS):RS:=bif jb st (cH p.Rules.Caps i).Station then (s.1,s.2.1,s.2.2.1,s.2.2.2++[cH p.Rules.Caps i]) else (s.1,s.2.1,s.2.2.1,s.2.2.2)
theorem zgC {σ ρ:Type}{f:Nat→(σ→ρ)→σ→ρ}{k:σ→ρ}{z:ρ}{n:Nat}{s:σ}(q:Nat→Bool)(hf:∀i next,i<n→f i next s=bif q i then next s else z):di f k n 0 s=bif (List.range n).all q then k s else z:=by
 have key:∀m i,i+m=n→di f k m i s=bif (List.range' i m).all q then k s else z:=by
  intro m
  induction m with
  |zero=>intro i _;rfl
  |succ m ih=>
   intro i e
   show f i (di f k m (i+1)) s=_
   rw [hf i _ a5,ih (i+1) a5,List.range'_succ,List.all_cons]
   cases q i <;> rfl
 rw [key n 0 a5,List.range_eq_range']
theorem zim {α:Type}[Inhabited α]{lt:α→α→Bool}(ht:∀a b c,lt a b=true→lt b c=true→lt a c=true){l:List α}:iw lt l=true↔l.Pairwise (fun a b=>lt a b=true):=by
 constructor
 ·intro h;have h1:∀i,i+1<l.length→lt (cH l i) (cH l (i+1))=true:=fun i hi=>List.all_eq_true.1 h (i+1) (List.mem_range'_1.2 ⟨by omega,by omega⟩)
  have h2:∀d i,i+d+1<l.length→lt (cH l i) (cH l (i+d+1))=true:=by
   intro d
   induction d with
   |zero=>intro i hi;exact h1 i hi
   |succ d ih=>intro i hi;exact ht _ _ _ (ih i a5) (h1 (i+d+1) a5)
  refine List.pairwise_iff_getElem.2 fun i j hi hj hij=>?_;rw [←dW hi,←dW hj];have:=h2 (j - i - 1) i a5
  rwa [show i+(j - i - 1)+1=j by omega] at this
 ·intro h;refine List.all_eq_true.2 fun i hi=>?_;have hi:=List.mem_range'_1.1 hi;rw [dW (show i - 1<l.length by omega),dW (show i<l.length by omega)];exact List.pairwise_iff_getElem.1 h (i - 1) i _ _ a5
theorem zkx {a b:Int}{x y:List Int}:fx (a :: x) (b :: y)=true↔a<b∨(a=b∧fx x y=true):=by
 show (bif decide (a=b) then fx x y else decide (a<b))=true↔_
 by_cases h:a=b
 ·rw [decide_eq_true h,cond_true];exact ⟨fun h1=> .inr ⟨h,h1⟩,fun h1=>h1.elim (fun h2=>absurd h2 a5) (·.2)⟩
 ·rw [decide_eq_false h,cond_false,decide_eq_true_eq];exact ⟨.inl,fun h1=>h1.elim id (fun h2=>absurd h2.1 h)⟩
theorem zg7:∀a b c:List Int,fx a b=true→fx b c=true→fx a c=true
 | [],_,_,h,_=>by cases h
 |_ :: _,[],_,h,_=>by cases h
 |_ :: _,_ :: _,[],_,h=>by cases h
 |a :: x,b :: y,c :: z,h1,h2=>by
  rw [zkx] at h1 h2 ⊢;rcases h1 with h1|⟨h1,h3⟩ <;> rcases h2 with h2|⟨h2,h4⟩
  ·left;omega
  ·left;omega
  ·left;omega
  ·exact .inr ⟨by omega,zg7 x y z h3 h4⟩
theorem zg8 {α:Type}[Inhabited α]{lt:α→α→Bool}(ht:∀a b c,lt a b=true→lt b c=true→lt a c=true){l l':List α}(hs:l'.Sublist l)(h:iw lt l=true):iw lt l'=true:=(zim ht).2 (((zim ht).1 h).sublist hs)
theorem zho {a b:Bool}(ha:a=true)(hb:b=true):(a&&b)=true:=by rw [ha,hb];rfl
structure RulesP (r:GRules):Prop where
 g:RulesGood r
 ip:iw (fun a b=>fx (zgh a) (zgh b)) r.Pairs=true
 il:iw (fun a b=>fx (zf9 a) (zf9 b)) r.Loads=true
 ic:iw (fun a b=>fx (gD a) (gD b)) r.Caps=true
theorem RulesP.b {r:GRules}(h:RulesP r):zmR r=true:=by
 have a:=h.g.np;have b:=h.g.nl;have c:=h.g.nc;exact zho (decide_eq_true a5) (zho (List.all_eq_true.2 h.g.p) (zho h.ip (zho (decide_eq_true a5) (zho (List.all_eq_true.2 h.g.l) (zho h.il (zho (decide_eq_true a5) (zho (List.all_eq_true.2 h.g.c) h.ic)))))))
theorem zl6 (a b c:GPair):fx (zgh a) (zgh b)=true→fx (zgh b) (zgh c)=true→fx (zgh a) (zgh c)=true:=zg7 _ _ _
theorem zmN (a b c:GLoad):fx (zf9 a) (zf9 b)=true→fx (zf9 b) (zf9 c)=true→fx (zf9 a) (zf9 c)=true:=zg7 _ _ _
theorem zmO (a b c:GCap):fx (gD a) (gD b)=true→fx (gD b) (gD c)=true→fx (gD a) (gD c)=true:=zg7 _ _ _
theorem RulesP.sub {r r':GRules}(h:RulesP r)(hp:r'.Pairs.Sublist r.Pairs)(hl:r'.Loads.Sublist r.Loads)(hc:r'.Caps.Sublist r.Caps):RulesP r':=by
 refine ⟨⟨?_,?_,?_,fun x hx=>h.g.p x (hp.subset hx),fun x hx=>h.g.l x (hl.subset hx),fun x hx=>h.g.c x (hc.subset hx)⟩,zg8 zl6 hp h.ip,zg8 zmN hl h.il,zg8 zmO hc h.ic⟩
 ·have:=hp.length_le;have:=h.g.np;omega
 ·have:=hl.length_le;have:=h.g.nl;omega
 ·have:=hc.length_le;have:=h.g.nc;omega
section
variable {P:Program}{n:Nat}{B D:World}{M:Nat→Prop}{fs:dH}{hs:HS}{o:Oper}{v:Value}
theorem K.slNil {Q:Exit→Act→World→Prop}{e:Exit}(t:TypeId)(size:Nat)(h:K n B D M Q e fs (.sl (.slice none 0 0) t size 0 [] :: hs)):K n B D M Q e fs hs:=⟨fun a w ha hw hm=>h.out a w ha (hw.slNil t size) hm⟩
def znx (v:Value):Prop:=∃A m c,v= .slice (some A) m c
def NilI {α:Type}(v:Value)(l:List α):Prop:=(l=[]∧v= .slice none 0 0)∨(l≠[]∧znx v)
theorem NilI.nil {α:Type}:NilI (.slice none 0 0) ([]:List α):= .inl ⟨rfl,rfl⟩
end
structure Gfault where
 first:Int
deriving DecidableEq,Inhabited
abbrev kF (x:Gfault):List Value:=[.int .i64 x.first]
theorem Gfault.len (x:Gfault):(kF x).length=1:=rfl
structure GWriter where
 fault:Gfault
 out:List Int
deriving DecidableEq,Inhabited
def eg (F:Frz)(c:List Value)(x:GWriter):Prop:=∃(v1:Value),c=[.int .i64 x.fault.first,v1]∧SlC F v1 1 (x.out.map (eK .u8))
theorem GWriter.mono {F G:Frz}{c:List Value}{x:GWriter}(hle:F.Le G)(h:eg F c x):eg G c x:=by
 obtain ⟨v1,h0,h2⟩:=h;exact ⟨v1,h0,h2.mono hle⟩
theorem GWriter.len {F:Frz}{c:List Value}{x:GWriter}(h:eg F c x):c.length=2:=by
 obtain ⟨v1,h0,h2⟩:=h;subst h0;rfl
theorem GWriter.one {F:Frz}{c:List Value}{x:GWriter}(h:eg F c x):OneCs c:=by
 obtain ⟨v1,h0,h2⟩:=h;subst h0;haveI:=h2.oneC
 infer_instance
theorem GWriter.c0 {F:Frz}{c:List Value}{x:GWriter}(h:eg F c x):c[0]?=some (.int .i64 x.fault.first):=by
 obtain ⟨v1,h0,h2⟩:=h;subst h0;rfl
theorem GWriter.c1 {F:Frz}{c:List Value}{x:GWriter}(h:eg F c x):c[1]?=some (cH c 1)∧SlC F (cH c 1) 1 (x.out.map (eK .u8)):=by
 obtain ⟨v1,h0,h2⟩:=h;subst h0;exact ⟨rfl,h2⟩
theorem GWriter.form {F:Frz}{c:List Value}{x:GWriter}(h:eg F c x):(c.drop 0).take 2=[.int .i64 x.fault.first,cH c 1]:=by
 obtain ⟨v1,h0,h2⟩:=h;subst h0;rfl
def zaN (x0_:Gfault)(e_:Int):Gfault:=
 (bif decide (x0_.first=0) then
  (Gfault.mk e_)
  else
  x0_)
def zbP (fuel:Nat)(l0_:List Int)(n:BitVec 64):Option (List Int):=
 dS (fun (s3:List Int×BitVec 64)=>
  d4 (db (s3.1++[(IntKind.u8.wrap (s3.2.toNat:Int))]).length 1) <|
  some (s3.1++[(IntKind.u8.wrap (s3.2.toNat:Int))]))
 (fun k3=>
  kg (fun (next6:(List Int×BitVec 64)→Option (List Int)) (s6:List Int×BitVec 64)=>
   (bif decide (((127#64).toNat:Int)<(s6.2.toNat:Int)) then
    d4 (db (s6.1++[(orK .u8 (IntKind.u8.wrap (s6.2.toNat:Int)) 128)]).length 1) <|
    next6 ((s6.1++[(orK .u8 (IntKind.u8.wrap (s6.2.toNat:Int)) 128)]),(s6.2 >>> 7))
    else
    k3 (s6.1,s6.2))) fuel (l0_,n))
theorem zeM (F0:Frz)(w:World)(hF0:F0.At w)(l0_:List Int)(v0_:Value)(n:BitVec 64)(hO:Hp w (cZ [.sl v0_ 5 1 l0_.length (l0_.flatMap (eK .u8))]) [.sl v0_ 5 1 l0_.length (l0_.flatMap (eK .u8))] w)(hA:∀g,cZ [.sl v0_ 5 1 l0_.length (l0_.flatMap (eK .u8))] g→¬F0.S g)(fuel:Nat)(r:List Int)(hr:zbP fuel l0_ n=some r):Calls Tryz.prog 102 #[v0_,U n] w fun e w'=>∃(y:Value),(True)∧e= .returned (y)∧FxM F0 w (cZ [.sl v0_ 5 1 l0_.length (l0_.flatMap (eK .u8))]) F0 [.sl y 5 1 r.length (r.flatMap (eK .u8))] w':=by
 have hk:=hr;unfold zbP at hk;haveI:=gN (hO.own (.sl v0_ 5 1 l0_.length (l0_.flatMap (eK .u8))) a7);have hmx0_:=gW (hO.own (.sl v0_ 5 1 l0_.length (l0_.flatMap (eK .u8))) a7);obtain ⟨S0,F1,rfl,hS0,hp0⟩:=ga hF0 hO hA;refine dq (hs:=[.sl v0_ 5 1 l0_.length (l0_.flatMap (eK .u8)), .fr F1]) Tryz.func102 rfl rfl rfl hp0 ?_;refine gy ?_;refine TL.slNil 5 1 ?_;refine i3 ?_;have hq:=eP hk;clear hk;obtain ⟨k3,hk3,hk⟩:=hq; (try dsimp only at hk);refine dj (ι:=List Int×Value×BitVec 64) (fun z=>[(0,z.2.1),(1,U z.2.2)]) (fun z=>[.sl z.2.1 5 1 z.1.length (z.1.flatMap (eK .u8)), .fr F1]) (fun z=>k3 (z.1,z.2.2)=some r∧OneC z.2.1) ?_ ?_
 ·have hq:=zf4 hk;clear hk;obtain ⟨f6,hf6,hk⟩:=hq;refine gg ?_;refine T.pick [1,2] rfl a6 ?_;refine T.loop (ι:=Nat×List Int×Value×BitVec 64) (fun z=>[(0,z.2.2.1),(1,U z.2.2.2)]) (fun z=>[.sl z.2.2.1 5 1 z.2.1.length (z.2.1.flatMap (eK .u8)), .fr F1]) (fun z=>kg f6 z.1 (z.2.1,z.2.2.2)=some r∧OneC z.2.2.1) (fun z=>z.1) (fuel,l0_,v0_,n) ?_ ?_ ?_ ?_
  ·exact q39
  ·exact (.c (.c .nil))
  ·exact fv
  ·rintro ⟨m_7,out_4,vout_4,n_5⟩ ⟨hk,oout_4⟩; (try dsimp only at *);have hq:=zgE hk;clear hk;obtain ⟨m_7',rfl,hk⟩:=hq;generalize hn6:kg f6 m_7'=next6 at hk;rw [←hf6] at hk; (try dsimp only at hk);refine iJ ?_;refine iK ?_;refine T.cond rfl (fun h8=>?_) (fun h8=>?_)
   ·replace hk:=dy hk h8;refine T.skip (K.seq (T.block (T.seq ?_)));have hq:(db (out_4++[(orK .u8 (IntKind.u8.wrap (n_5.toNat:Int)) 128)]).length 1)∧_:=eQ hk;clear hk;obtain ⟨g12,hk⟩:=hq; (try dsimp only at hk);refine gQ ?_;refine cI (j7 (z:=(n_5.toNat:Int)) rfl rfl) ?_;refine cI (Yv.orK (a:=(IntKind.u8.wrap (n_5.toNat:Int))) (b:=128) rfl rfl rfl) ?_;refine jg ?_;rintro _ _ ⟨g11,rfl,rfl⟩;refine cN (d8 1 0 rfl rfl rfl rfl rfl rfl (iC (ys:=[(orK .u8 (IntKind.u8.wrap (n_5.toNat:Int)) 128)])) (zcu (enc:=(eK .u8)) (xs:=out_4) (ys:=[(orK .u8 (IntKind.u8.wrap (n_5.toNat:Int)) 128)])) g12 a6) ?_;rintro v12 _ ⟨hv12,rfl⟩;refine dd ?_;refine TL.ns (T.region ?_);refine dd ?_;refine cI (fD (a:=n_5) 7 rfl rfl rfl (show (7:Int)=((7:Nat):Int) from rfl) a5) ?_;refine dd ?_;refine TL.nil (fh ?_);rw [←hn6] at hk;refine K.pick [1,2] rfl a6 ?_;exact K.next (m_7',(out_4++[(orK .u8 (IntKind.u8.wrap (n_5.toNat:Int)) 128)]),v12,(n_5 >>> 7)) ⟨hk,inferInstance⟩ a9 (.c (.c .nil)) (List.Sublist.refl _)
   ·replace hk:=dz hk h8;refine ff ?_;exact c4 (out_4,vout_4,n_5) ⟨hk,inferInstance⟩ (.c (.c .nil)) (List.Sublist.refl _)
 ·rintro ⟨out_1,vout_1,n_2⟩ ⟨hk,oout_1⟩; (try dsimp only at *);rw [←hk3] at hk; (try dsimp only at hk);refine T.seq ?_;have hq:(db (out_1++[(IntKind.u8.wrap (n_2.toNat:Int))]).length 1)∧_:=eQ hk;clear hk;obtain ⟨g19,hk⟩:=hq; (try dsimp only at hk);refine gQ ?_;refine cI (j7 (z:=(n_2.toNat:Int)) rfl rfl) ?_;refine jg ?_;rintro _ _ ⟨g18,rfl,rfl⟩;refine cN (d8 1 0 rfl rfl rfl rfl rfl rfl (iC (ys:=[(IntKind.u8.wrap (n_2.toNat:Int))])) (zcu (enc:=(eK .u8)) (xs:=out_1) (ys:=[(IntKind.u8.wrap (n_2.toNat:Int))])) g19 a6) ?_;rintro v19 _ ⟨hv19,rfl⟩;refine eU ?_;obtain rfl:=Option.some.inj hk;exact cU rfl rfl (fun w' hw=>⟨v19,trivial,rfl,cX (hw.pick (idx:=[1,2]) rfl a6) hS0 (Frz.Le.refl _)⟩)
def zam (x0_:GWriter):Bool:=
 (decide (x0_.fault.first=0))
theorem zcp (F0:Frz)(w:World)(hF0:F0.At w)(x0_:GWriter)(g0_:Nat)(v0_1:Value)(hO:Hp w (cZ [.row g0_ 128 [.int .i64 x0_.fault.first,v0_1], .sl v0_1 5 1 x0_.out.length (x0_.out.flatMap (eK .u8))]) [.row g0_ 128 [.int .i64 x0_.fault.first,v0_1], .sl v0_1 5 1 x0_.out.length (x0_.out.flatMap (eK .u8))] w)(hA:∀g,cZ [.row g0_ 128 [.int .i64 x0_.fault.first,v0_1], .sl v0_1 5 1 x0_.out.length (x0_.out.flatMap (eK .u8))] g→¬F0.S g):Calls Tryz.prog 99 #[.pointer (some ⟨g0_,0,none⟩)] w fun e w'=>∃(y:Unit),(True)∧e= .returned (.bool (zam x0_))∧FxM F0 w (cZ [.row g0_ 128 [.int .i64 x0_.fault.first,v0_1], .sl v0_1 5 1 x0_.out.length (x0_.out.flatMap (eK .u8))]) F0 [.row g0_ 128 [.int .i64 x0_.fault.first,v0_1], .sl v0_1 5 1 x0_.out.length (x0_.out.flatMap (eK .u8))] w':=by
 obtain ⟨r,hk⟩:∃r,zam x0_=r:=⟨_,rfl⟩;rw [hk];unfold zam at hk;haveI:=gN (hO.own (.sl v0_1 5 1 x0_.out.length (x0_.out.flatMap (eK .u8))) a7);have hmx0_1:=gW (hO.own (.sl v0_1 5 1 x0_.out.length (x0_.out.flatMap (eK .u8))) a7);obtain ⟨S0,F1,rfl,hS0,hp0⟩:=ga hF0 hO hA;refine dq (hs:=[.row g0_ 128 [.int .i64 x0_.fault.first,v0_1], .sl v0_1 5 1 x0_.out.length (x0_.out.flatMap (eK .u8)), .fr F1]) Tryz.func99 rfl rfl rfl hp0 ?_;refine ei ?_;refine dj (ι:=Unit) (fun z=>[(2, .bool (decide (x0_.fault.first=0)))]) (fun z=>[.row g0_ 128 [.int .i64 x0_.fault.first,v0_1], .sl v0_1 5 1 x0_.out.length (x0_.out.flatMap (eK .u8)), .fr F1]) (fun z=>True) ?_ ?_
 ·refine fo ?_;refine cI (kR (e:=128) a8 rfl rfl rfl) ?_;refine eM ?_;refine eZ ?_;refine eu ?_;refine lZ ?_;exact q4m
 ·rintro _ _;refine T.ret ?_;subst hk;exact mj
def zbd (x0_:GWriter)(l1_:List Int):Option (List Int):=
 (bif decide (65536<(l1_.length:Int)) then
  none
  else
  some l1_)
theorem zcg (F0:Frz)(w:World)(hF0:F0.At w)(x0_:GWriter)(g0_:Nat)(v0_1:Value)[iv0_1:OneC v0_1](l1_:List Int)(v1_:Value)(hO:Hp w (cZ [.row g0_ 128 [.int .i64 x0_.fault.first,v0_1], .sl v1_ 5 1 l1_.length (l1_.flatMap (eK .u8))]) [.row g0_ 128 [.int .i64 x0_.fault.first,v0_1], .sl v1_ 5 1 l1_.length (l1_.flatMap (eK .u8))] w)(hA:∀g,cZ [.row g0_ 128 [.int .i64 x0_.fault.first,v0_1], .sl v1_ 5 1 l1_.length (l1_.flatMap (eK .u8))] g→¬F0.S g)(r:List Int)(hr:zbd x0_ l1_=some r):Calls Tryz.prog 101 #[.pointer (some ⟨g0_,0,none⟩),v1_] w fun e w'=>∃(y:Value),(True)∧e= .returned (.tuple #[])∧FxM F0 w (cZ [.row g0_ 128 [.int .i64 x0_.fault.first,v0_1], .sl v1_ 5 1 l1_.length (l1_.flatMap (eK .u8))]) F0 [.row g0_ 128 [.int .i64 x0_.fault.first,y], .sl y 5 1 r.length (r.flatMap (eK .u8))] w':=by
 have hk:=hr;unfold zbd at hk;haveI:=gN (hO.own (.sl v1_ 5 1 l1_.length (l1_.flatMap (eK .u8))) a7);have hmx1_:=gW (hO.own (.sl v1_ 5 1 l1_.length (l1_.flatMap (eK .u8))) a7);obtain ⟨S0,F1,rfl,hS0,hp0⟩:=ga hF0 hO hA;refine q2u ?_;refine T.cond rfl (fun h1=>?_) (fun h1=>?_)
 ·have p1:=of_decide_eq_true h1;replace hk:=dy hk h1;refine T.seq ?_;cases hk
 ·have p1:=of_decide_eq_false h1;replace hk:=dz hk h1;refine T.skip (K.seq (T.region ?_));refine q3E ?_;obtain rfl:=Option.some.inj hk;exact eX rfl (fun w' hw=>⟨v1_,trivial,rfl,cX (hw.pick (idx:=[0,1,2]) rfl a6) hS0 (Frz.Le.refl _)⟩)
def zat (fuel:Nat)(x0_:GWriter)(n:Int):Option (List Int):=
 (bif !(zam x0_) then
  some x0_.out
  else
  (bif decide (n<0) then
   none
   else
   (zbP fuel x0_.out (BitVec.ofInt 64 n)).bind fun r20=>
   (zbd x0_ r20).bind fun r21=>
   some r21))
theorem zaG (F0:Frz)(w:World)(hF0:F0.At w)(x0_:GWriter)(g0_:Nat)(v0_1:Value)(n:Int)(hO:Hp w (cZ [.row g0_ 128 [.int .i64 x0_.fault.first,v0_1], .sl v0_1 5 1 x0_.out.length (x0_.out.flatMap (eK .u8))]) [.row g0_ 128 [.int .i64 x0_.fault.first,v0_1], .sl v0_1 5 1 x0_.out.length (x0_.out.flatMap (eK .u8))] w)(hA:∀g,cZ [.row g0_ 128 [.int .i64 x0_.fault.first,v0_1], .sl v0_1 5 1 x0_.out.length (x0_.out.flatMap (eK .u8))] g→¬F0.S g)(fuel:Nat)(r:List Int)(hr:zat fuel x0_ n=some r):Calls Tryz.prog 68 #[.pointer (some ⟨g0_,0,none⟩), .int .i64 n] w fun e w'=>∃(y:Value),(True)∧e= .returned (.tuple #[])∧FxM F0 w (cZ [.row g0_ 128 [.int .i64 x0_.fault.first,v0_1], .sl v0_1 5 1 x0_.out.length (x0_.out.flatMap (eK .u8))]) F0 [.row g0_ 128 [.int .i64 x0_.fault.first,y], .sl y 5 1 r.length (r.flatMap (eK .u8))] w':=by
 have hk:=hr;unfold zat at hk;haveI:=gN (hO.own (.sl v0_1 5 1 x0_.out.length (x0_.out.flatMap (eK .u8))) a7);have hmx0_1:=gW (hO.own (.sl v0_1 5 1 x0_.out.length (x0_.out.flatMap (eK .u8))) a7);obtain ⟨S0,F1,rfl,hS0,hp0⟩:=ga hF0 hO hA;refine dq (hs:=[.row g0_ 128 [.int .i64 x0_.fault.first,v0_1], .sl v0_1 5 1 x0_.out.length (x0_.out.flatMap (eK .u8)), .fr F1]) Tryz.func68 rfl rfl rfl hp0 ?_;refine iJ ?_;refine dd ?_;refine cN (dl [0,1,2] [.row g0_ 128 [.int .i64 x0_.fault.first,v0_1], .sl v0_1 5 1 x0_.out.length (x0_.out.flatMap (eK .u8))] [] rfl rfl rfl rfl a6 (fun w hw hw2 hF=>zcp _ w hF x0_ g0_ v0_1 hw2.takes.1 hw2.takes.2)) ?_;rintro _ _ ⟨⟨⟩, -,rfl,rfl⟩;refine lC ?_;refine T.cond rfl (fun h1=>?_) (fun h1=>?_)
 ·replace hk:=dy hk h1;refine T.ret (cQ ?_);obtain rfl:=Option.some.inj hk;exact iY rfl (fun w' hw=>⟨v0_1,trivial,rfl,cX (hw.pick (idx:=[0,1,2]) rfl a6) hS0 (Frz.Le.refl _)⟩)
 ·replace hk:=dz hk h1;refine jR ?_;refine iK ?_;refine T.cond rfl (fun h2=>?_) (fun h2=>?_)
  ·have p2:=of_decide_eq_true h2;replace hk:=dy hk h2;refine T.seq ?_;cases hk
  ·have p2:=of_decide_eq_false h2;replace hk:=dz hk h2;refine kl ?_;have hq:=dM hk;clear hk;obtain ⟨r20,hr20,hk⟩:=hq;have hq:=dM hk;clear hk;obtain ⟨r21,hr21,hk⟩:=hq; (try dsimp only at hk);refine q1P ?_;rintro v20_0_0 _ ⟨_, -,rfl,rfl⟩;refine q3H ?_;intro iv20_0_0 hmv20_0_0;refine cN (dl [2,0,1] [.row g0_ 128 [.int .i64 x0_.fault.first,v0_1], .sl v20_0_0 5 1 r20.length (r20.flatMap (eK .u8))] [] rfl rfl rfl rfl a6 (fun w hw hw2 hF=>zcg _ w hF x0_ g0_ v0_1 r20 v20_0_0 hw2.takes.1 hw2.takes.2 r21 hr21)) ?_;rintro _ _ ⟨v21_0_1, -,rfl,rfl⟩;refine q3s ?_;intro iv21_0_1 hmv21_0_1;refine TL.nil ?_;obtain rfl:=Option.some.inj hk;exact eX rfl (fun w' hw=>⟨v21_0_1,trivial,rfl,cX (hw.pick (idx:=[0,1,2]) rfl a6) hS0 (Frz.Le.refl _)⟩)
def zav (x0_:GWriter):Option (List Int×Int):=
 (bif decide (¬x0_.fault.first=0) then
  some ([],x0_.fault.first)
  else
  d4 (db ([]++x0_.out).length 1) <|
  some (([]++x0_.out),0))
theorem zcB (F0:Frz)(w:World)(hF0:F0.At w)(x0_:GWriter)(g0_:Nat)(v0_1:Value)(hO:Hp w (cZ [.row g0_ 128 [.int .i64 x0_.fault.first,v0_1], .sl v0_1 5 1 x0_.out.length (x0_.out.flatMap (eK .u8))]) [.row g0_ 128 [.int .i64 x0_.fault.first,v0_1], .sl v0_1 5 1 x0_.out.length (x0_.out.flatMap (eK .u8))] w)(hA:∀g,cZ [.row g0_ 128 [.int .i64 x0_.fault.first,v0_1], .sl v0_1 5 1 x0_.out.length (x0_.out.flatMap (eK .u8))] g→¬F0.S g)(r:List Int×Int)(hr:zav x0_=some r):Calls Tryz.prog 69 #[.pointer (some ⟨g0_,0,none⟩)] w fun e w'=>∃(y:Value),(True)∧e= .returned (.tuple #[y, .int .i64 r.2])∧FxM F0 w (cZ [.row g0_ 128 [.int .i64 x0_.fault.first,v0_1], .sl v0_1 5 1 x0_.out.length (x0_.out.flatMap (eK .u8))]) F0 [.row g0_ 128 [.int .i64 x0_.fault.first,v0_1], .sl v0_1 5 1 x0_.out.length (x0_.out.flatMap (eK .u8)), .sl y 5 1 r.1.length (r.1.flatMap (eK .u8))] w':=by
 have hk:=hr;unfold zav at hk;haveI:=gN (hO.own (.sl v0_1 5 1 x0_.out.length (x0_.out.flatMap (eK .u8))) a7);have hmx0_1:=gW (hO.own (.sl v0_1 5 1 x0_.out.length (x0_.out.flatMap (eK .u8))) a7);obtain ⟨S0,F1,rfl,hS0,hp0⟩:=ga hF0 hO hA;refine dq (hs:=[.row g0_ 128 [.int .i64 x0_.fault.first,v0_1], .sl v0_1 5 1 x0_.out.length (x0_.out.flatMap (eK .u8)), .fr F1]) Tryz.func69 rfl rfl rfl hp0 ?_;refine q21 ?_;refine T.cond rfl (fun h1=>?_) (fun h1=>?_)
 ·have p1:=of_decide_eq_true h1;replace hk:=dy hk h1;refine q1X ?_;obtain rfl:=Option.some.inj hk;exact q4P
 ·have p1:=of_decide_eq_false h1;replace hk:=dz hk h1;refine iR ?_;have hq:(db ([]++x0_.out).length 1)∧_:=eQ hk;clear hk;obtain ⟨g21,hk⟩:=hq; (try dsimp only at hk);refine q2D ?_;rintro v21 _ ⟨hv21,rfl⟩;refine ji ?_;obtain rfl:=Option.some.inj hk;exact q4Q
end Go.Proofs.YtogbggmckmnlfaaGreatDoor
namespace Go.Proofs.YtogbggmckmnlfaaGreatDoor
open Go.RowKit Go.Sort
section
variable {Fe:Fence}[hFe:Calm Fe]{P:Program}{n:Nat}{B D w:World}{M S0:Nat→Prop}{Q:Exit→Act→World→Prop}{fs:dH}{hs:HS}{ops:Array Oper}
theorem Hp.litO {j g k m size:Nat}{t:TypeId}{l l2:List Value}(hw:Hp B M hs w)(hj:hs[j]?=some (.row g t l))(he:l2=l)(hk:k=m)(hl:l.length=m*size)(hn:m≤1000):Hp B M (hs.set j (.sl (.slice (some ⟨g,0,none⟩) m m) t size k l2)) w:=by
 subst he;subst hk;have hr:=cW.1 (hw.get hj);refine hw.updAt (S:=fun _=>False) hj (Only.refl _ _) (fun _ _ h=>h.elim) (cT.2 ⟨hl, .inr ⟨g,k,_,rfl,Nat.zero_le _,hr,Nat.le_refl _,by unfold maxLen;omega,by simpa using hl,?_⟩⟩) (fun q hq=> .inl ?_)
 ·rw [←hl];simp
 ·have h1:=c9.1 hq;simp only [Value.ownBlock,Option.some.injEq] at h1;exact cO.2 h1.symm
theorem TL.litO {r:List Oper}{g k m size:Nat}{t:TypeId}{l l2:List Value}(j:Nat)(hj:hs[j]?=some (.row g t l))(he:l2=l)(hk:k=m)(hl:l.length=m*size)(hn:m≤1000)(h:TL Fe P n B D M ops Q r fs (hs.set j (.sl (.slice (some ⟨g,0,none⟩) m m) t size k l2))):TL Fe P n B D M ops Q r fs hs:=
 i4 (ι:=Unit) (φ:=fun _=>True) (hs':=fun _=>hs.set j (.sl (.slice (some ⟨g,0,none⟩) m m) t size k l2)) (fun w hw=>⟨(),trivial,hw.litO hj he hk hl hn⟩) (fun _ _=>h)
end
def zks:Go.Shelf.Ren:=⟨fun|35=>49|n=>n,fun|0=>0|3=>3|4=>4|22=>31|23=>50|n=>n,fun|n=>n⟩
theorem znw:Go.Proofs.SlLaysE.n35 Tryz.prog zks:={
 mixed:=by kernel_rfl
 f35:=⟨Tryz.f49.name,by decide,Tryz.func49.trans (congrArg some a8)⟩
 t0:=Tryz.underlying0
 a0:=Tryz.isAgg0
 z0:=Tryz.sizeOf0
 v0:=Tryz.zeroValue0
 t3:=Tryz.underlying3
 a3:=Tryz.isAgg3
 z3:=Tryz.sizeOf3
 v3:=Tryz.zeroValue3
 t4:=Tryz.underlying4
 a4:=Tryz.isAgg4
 z4:=Tryz.sizeOf4
 v4:=Tryz.zeroValue4
 t22:=Tryz.underlying31
 a22:=Tryz.isAgg31
 z22:=Tryz.sizeOf31
 v22:=Tryz.zeroValue31
 a23:=Tryz.isAgg50
 z23:=Tryz.sizeOf50 }
abbrev jY:={ v:Value // v.oneCell'=true }
instance:Inhabited jY:=⟨⟨.int .i64 0,rfl⟩⟩
def iv (x:jY):Value:=x.1
theorem zls:OneCell iv:=fun x=>x.2
theorem mapV {l:List Value}(h:∀v∈l,v.oneCell'=true):∃zs:List jY,zs.map iv=l:=by
 induction l with
 |nil=>exact ⟨[],rfl⟩
 |cons v l ih=>
  obtain ⟨zs,hz⟩:=ih fun u hu=>h u (List.mem_cons_of_mem _ hu);exact ⟨⟨v,h v (List.mem_cons_self ..)⟩ :: zs,by rw [List.map_cons,hz];rfl⟩
theorem revE (blk off cap : Nat) (zs : List jY) (w : World) (hH : Holds iv w blk off zs.toArray) (hsz : zs.length ≤ 9223372036854775807) :
    Calls Tryz.prog 49 #[.slice (some ⟨blk, off, none⟩) zs.length cap] w fun e w' => e = .returned (.tuple #[]) ∧ ∃ n, w' = putRow iv (Sort.ahead w n) blk off zs.reverse.toArray := AnyE.slices_Reverse znw iv zls blk off cap zs w hH hsz
theorem revE0 (a : Option Addr) (cap : Nat) (w : World) :
    Calls Tryz.prog 49 #[.slice a 0 cap] w fun e w' => e = .returned (.tuple #[]) ∧ w' = w := AnyE.slices_Reverse_empty znw a cap w
section
variable {w:World}{g n:Nat}{cur:Array Value}{e:TypeId}{zs:List jY}
theorem zmS (hb:w.heap[g]?=some (.cells cur e (0,0)))(ht:cur.toList.take zs.length=zs.map iv):Holds iv w g 0 zs.toArray:=by
 intro j hj; (have hj':j<zs.length:=by simpa using hj);refine ⟨?_,by simp [World.frozen?,hb]⟩; (have h1:(cur.toList.take zs.length)[j]?=(zs.map iv)[j]?:=by rw [ht]);rw [List.getElem?_take_of_lt hj'] at h1;simp only [World.cell?,hb,Nat.zero_add];simp only [Option.isSome_none,Bool.false_eq_true,if_false];rw [←Array.getElem?_toList,h1];simp [hj']
theorem heapV (d:Array jY)(hb:w.heap[g]?=some (.cells cur e (0,0))):(putRow iv (Sort.ahead w n) g 0 d).heap[g]?=some (.cells (putCells iv 0 d cur) e (0,0)):=by
 have hg:g<w.heap.size:=(Array.getElem?_eq_some_iff.1 hb).1;simp [putRow,mapBlock,Sort.ahead,Array.getElem?_modify,hb,onCells]
theorem onlyV (d:Array jY){v:Value}{size k:Nat}{l:List Value}(hv:v.ownBlock=some g):Only (Ent.sl v e size k l).fp w (putRow iv (Sort.ahead w n) g 0 d):=by
 refine ⟨rfl,rfl,rfl,by simp [putRow,mapBlock,Sort.ahead],fun k hk hn=>?_⟩;have:g≠k:=fun q=>hn (c9.2 (by rw [hv,q]));simp [putRow,mapBlock,Sort.ahead,Array.getElem?_modify,this]
theorem takeV (ts:List jY)(h:ts.length≤cur.size):(putCells iv 0 ts.toArray cur).toList.take ts.length=ts.map iv:=by
 apply List.ext_getElem?;intro j;by_cases hj:j<ts.length
 ·rw [List.getElem?_take_of_lt hj,Array.getElem?_toList];simp [putCells,hj,show j<cur.size by omega]
 ·rw [List.getElem?_take_eq_none a5,List.getElem?_eq_none b8]
end
theorem zl3 {w:World}{v0:Value}{cells:List Value}(hc:∀v∈cells,v.oneCell'=true)(hk:(Ent.sl v0 50 1 cells.length cells).ok w):Calls Tryz.prog 49 #[v0] w fun e w'=>e= .returned (.tuple #[])∧Only (Ent.sl v0 50 1 cells.length cells).fp w w'∧(Ent.sl v0 50 1 cells.length cells.reverse).ok w':=by
 have ho:=cT.1 hk;obtain ⟨zs,rfl⟩:=mapV hc;rcases ho.2 with ⟨rfl,h0⟩|⟨g,cap,cur,rfl,hb,hg,h1,h2,h3,h4⟩
 ·rw [List.length_map] at h0;obtain rfl:=List.eq_nil_of_length_eq_zero h0;refine (revE0 none 0 w).mono ?_;rintro e w' ⟨rfl,rfl⟩;exact ⟨rfl,Only.refl _ _,hk⟩
 ·rw [Nat.mul_one] at h3 h4;rw [List.length_map] at h1 h4 ⊢;refine (revE g 0 cap zs w (zmS hg h4) (by unfold maxLen at h2;omega)).mono ?_;rintro e w' ⟨rfl,n,rfl⟩;refine ⟨rfl,onlyV _ rfl,cT.2 ⟨by simp, .inr ⟨g,cap,_,rfl,Nat.zero_le _,heapV _ hg,h1,h2,by simp [putCells,h3],?_⟩⟩⟩;rw [Nat.mul_one,←List.map_reverse];have:=takeV (cur:=cur) zs.reverse (by rw [List.length_reverse];omega)
  rwa [List.length_reverse] at this
theorem FxM.one {F0:Frz}{w w':World}{E E':Ent}(hF0:F0.At w)(hO:Hp w (cZ [E]) [E] w)(hA:∀g,cZ [E] g→¬F0.S g)(ho:Only E.fp w w')(hok:E'.ok w')(hfp:∀g,E'.fp g→E.fp g∨w.heap.size≤g):FxM F0 w (cZ [E]) F0 [E'] w':=by
 obtain ⟨S0,G,rfl,hS,h⟩:=ga hF0 hO hA;refine cX (es:=[E']) (gE (es:=[E]) (es':=[E']) (hs:=[.fr G]) h ho (fun g _ hg=>⟨E,by simp,hg⟩) (fun e he=>?_) (fun e he g hg=>?_) (List.pairwise_singleton _ _)) hS (Frz.Le.refl _)
 ·obtain rfl:=List.mem_singleton.1 he;exact hok
 ·obtain rfl:=List.mem_singleton.1 he;exact (hfp g hg).imp (fun h=>⟨E,by simp,h⟩) id
def zc8 (l:List (List GChoice)):List (List GChoice):=l.reverse
theorem lR {α:Type}[Inhabited α]{rep:Frz→List Value→α→Prop}{F:Frz}{size:Nat}{cs:List (List Value)}{xs:List α}(h:OwnD rep F size cs xs):OwnD rep F size cs.reverse xs.reverse:=by
 refine ⟨by rw [List.length_reverse,List.length_reverse];exact h.1,fun c hc=>h.2.1 c (List.mem_reverse.1 hc),fun i hi=>?_⟩;rw [List.length_reverse] at hi
 have e1:cH cs.reverse i=cH cs (xs.length - 1 - i):=by
  have:=h.1;rw [dW (by rw [List.length_reverse];omega),dW a5,List.getElem_reverse]
  congr 1;omega
 have e2:cH xs.reverse i=cH xs (xs.length - 1 - i):=by
  rw [dW (by rw [List.length_reverse];omega),dW a5,List.getElem_reverse]
 rw [e1,e2];exact h.2.2 _ a5
theorem ziP:∀ {cs:List (List Value)},(∀c∈cs,c.length=1)→cs.reverse.flatten=cs.flatten.reverse
 | [],_=>rfl
 |c :: cs,h=>by
  rw [List.reverse_cons,List.flatten_append,show (c :: cs).flatten=c++cs.flatten from rfl,List.reverse_append,ziP fun d hd=>h d (List.mem_cons_of_mem _ hd)]
  congr 1
  have hc:=h c (List.mem_cons_self ..)
  match c,hc with
  | [v],_=>rfl
theorem zlR:∀ {cs:List (List Value)},(∀c∈cs,c.length=1)→cs.flatten.length=cs.length
 | [],_=>rfl
 |c :: cs,h=>by
  rw [List.flatten_cons,List.length_append,zlR fun d hd=>h d (List.mem_cons_of_mem _ hd),h c (List.mem_cons_self ..),List.length_cons];omega
theorem zgH (F0 : Frz) (w : World) (hF0 : F0.At w) (l0_ : List (List GChoice)) (v0_ : Value) (c0_ : List (List Value)) (h0_ : OwnD cG F0 1 c0_ l0_) (hO : Hp w (cZ [.sl v0_ 50 1 l0_.length c0_.flatten]) [.sl v0_ 50 1 l0_.length c0_.flatten] w) (hA : ∀ g, cZ [.sl v0_ 50 1 l0_.length c0_.flatten] g → ¬ F0.S g) :
    Calls Tryz.prog 49 #[v0_] w fun e w' => ∃ (y : List (List Value)), (OwnD cG F0 1 y (zc8 l0_)) ∧ e = .returned (.tuple #[]) ∧ FxM F0 w (cZ [.sl v0_ 50 1 l0_.length c0_.flatten]) F0 [.sl v0_ 50 1 (zc8 l0_).length y.flatten] w' := by
  have hk := hO.own _ (List.mem_cons_self ..); (have hl : c0_.flatten.length = l0_.length := by rw [zlR h0_.2.1, h0_.1])
  have h1 : ∀ v ∈ c0_.flatten, v.oneCell' = true := fun v hv => by
    obtain ⟨c, hc, hv⟩ := List.mem_flatten.1 hv; obtain ⟨i, hi, rfl⟩ := List.mem_iff_getElem.1 hc; have := h0_.2.2 i (by have := h0_.1; omega); rw [dW hi] at this; exact (R_List_GChoice.one this).h v hv
  rw [← hl] at hk;refine (zl3 h1 hk).mono ?_; rintro e w' ⟨rfl, h2, h3⟩; rw [hl] at h2 h3;refine ⟨c0_.reverse, lR h0_, rfl, FxM.one hF0 hO hA h2 ?_ fun g h => .inl (c9.2 (c9.1 h))⟩; unfold zc8; rw [List.length_reverse, ziP h0_.2.1]; exact h3
end Go.Proofs.YtogbggmckmnlfaaGreatDoor
