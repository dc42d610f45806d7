/- Yc Yn Sk: shortened and put together by squeeze.py. -/
import Derived.Test.YtogbggmckmnlfaaGreatDoorQ08
set_option maxRecDepth 100000
set_option maxHeartbeats 4000000
set_option linter.unusedVariables false
set_option linter.unusedSectionVars false
set_option linter.unusedSimpArgs false
namespace Go.Proofs.YtogbggmckmnlfaaGreatDoor
open Go.RowKit
theorem b4 {p:Prop}(h:p:=by rw [Vec.len];first|omega|(simp only [List.length_cons,List.length_nil];omega)):p:=h
structure GViolation where
 Kind:Int
 At:Int
deriving DecidableEq,Inhabited
abbrev jD (x:GViolation):List Value:=[.int .i64 x.Kind, .int .i64 x.At]
theorem GViolation.len (x:GViolation):(jD x).length=2:=rfl
def za6 (l:List Int):Bool:=
 dJ (fun (_:Unit)=>
  true)
 (fun k1=>
  c8 (fun (i_3:Nat) (next2:Unit→Bool) (_:Unit)=>
   (bif ((!(j0 (cK l i_3)))||((decide (0<(i_3:Int)))&&(decide ((cK l i_3)≤(cK l (((i_3:Int) - 1).toNat)))))) then
    false
    else
    next2 ()))
  (fun (_:Unit)=>
   k1 ()) (l.length - 0) 0 ())
theorem zek (F0:Frz)(w:World)(hF0:F0.At w)(l:List Int)(vl:Value)(hl:SlC F0 vl 1 (l.map eI)):Calls Tryz.prog 44 #[vl] w fun e w'=>e= .returned (.bool (za6 l))∧Below w.heap.size w w':=by
 obtain ⟨r,hk⟩:∃r,za6 l=r:=⟨_,rfl⟩;rw [hk];unfold za6 at hk;haveI:=hl.oneC;obtain ⟨S0,F1,rfl,hS0,hp0⟩:=eY hF0;refine dv Tryz.func44 rfl rfl rfl hp0 ?_;refine q3v ?_;have hq:=ek hk;clear hk;obtain ⟨k1,hk1,hk⟩:=hq; (try dsimp only at hk);refine da (ι:=Unit) (fun z=>[]) (fun z=>[.fr F1]) (fun z=>k1 ()=r) ?_ ?_
 ·have hq:=fB hk;clear hk;obtain ⟨f2,kk2,hf2,hkk2,hk⟩:=hq;refine fj ?_;refine T.loop (ι:=Nat) (fun z=>[(0,vl),(3, .int .i64 (z:Int))]) (fun z=>[.fr F1]) (fun z=>c8 f2 kk2 (l.length - z) z ()=r) (fun z=>l.length - z) 0 ?_ ?_ ?_ ?_
  ·exact hk
  ·exact q4x
  ·exact eW
  ·rintro i_3 hk;refine kn ?_;refine mX ?_;have hm6:l.length≤9223372036854775807:=(List.length_map _)▸hl.max;refine dB ?_;refine T.cond rfl (fun h4=>?_) (fun h4=>?_)
   ·have p4:=of_decide_eq_true h4;rw [fx a5] at hk;generalize hn2:c8 f2 kk2 (l.length - (i_3+1)) (i_3+1)=next2 at hk;rw [←hf2] at hk; (try dsimp only at hk);refine jQ ?_;refine da (ι:=Unit) (fun z=>[(0,vl),(3, .int .i64 (i_3:Int)),(31, .bool ((!(j0 (cK l i_3)))||((decide (0<(i_3:Int)))&&(decide ((cK l i_3)≤(cK l (((i_3:Int) - 1).toNat)))))))]) (fun z=>[.fr F1]) (fun z=>True) ?_ ?_
    ·refine dM (sN 0 4 (.eff 4 (sN 5 16 (.still 21 .done)))) _ a7 (List.Sublist.refl _) ?_;refine q1s ?_;refine q2t ?_;refine dD ?_;refine c6 rfl (Wt.none) rfl rfl (cN rfl rfl rfl (fun w hw=>zbq _ w (hw.fr (i:=0) rfl) (cK l i_3))) ?_;refine ms ?_;refine dA rfl rfl rfl rfl (fun h5=>?_) (fun h5=>?_)
     ·refine TS.run 15 rfl ?_;refine fQ ?_;exact cS () trivial (.c (.c (.b (jl h5).symm .nil))) (List.Sublist.refl _)
     ·refine gv ?_;refine dA rfl rfl rfl rfl (fun h6=>?_) (fun h6=>?_)
      ·have p6:=of_decide_eq_true h6;refine gQ ?_;refine q17 ?_;refine q23 ?_;refine q2t ?_;refine gv ?_;refine fQ ?_;exact cS () trivial (.c (.c (.b (Eq.trans (kw h6) (io h5)) .nil))) (List.Sublist.refl _)
      ·have p6:=of_decide_eq_false h6;refine TS.run 12 rfl ?_;refine fQ ?_;exact cS () trivial (.c (.c (.b (jR h5 (fY h6)).symm .nil))) (List.Sublist.refl _)
    ·rintro _ _;refine T.cond rfl (fun h7=>?_) (fun h7=>?_)
     ·replace hk:=dt hk h7;refine i2 ?_;subst hk;exact eh
     ·replace hk:=dr hk h7;refine gY ?_;rw [←hn2] at hk;exact K.next (i_3+1) hk a5 (.c (.c .nil)) (List.Sublist.refl _)
   ·have p4:=of_decide_eq_false h4;rw [fw a5,←hkk2] at hk; (try dsimp only at hk);refine eE ?_;exact lv
 ·rintro _ hk;rw [←hk1] at hk; (try dsimp only at hk);refine kE ?_;subst hk;exact eh
def zb7 (p:GProblem)(l:List Int):Option (GProblem×Int):=
 (zb1 p).bind fun r13=>
 (bif ((!r13)||(!(za6 l))) then
  some ((GProblem.mk [] (GRules.mk [] [] [])),2)
  else
  dJ (fun (s7:List GDomain×List GPair×List GLoad×List GCap)=>
   dJ (fun (s20:List GDomain×List GPair×List GLoad×List GCap)=>
    dJ (fun (s33:List GDomain×List GPair×List GLoad×List GCap)=>
     dJ (fun (s47:List GDomain×List GPair×List GLoad×List GCap)=>
      dJ (fun (s61:List GDomain×List GPair×List GLoad×List GCap)=>
       some ((GProblem.mk s61.1 (GRules.mk s61.2.1 s61.2.2.1 s61.2.2.2)),0))
      (fun k61=>
       c8 (fun (i_67:Nat) (next66:(List GDomain×List GPair×List GLoad×List GCap)→Option (GProblem×Int)) (s66:List GDomain×List GPair×List GLoad×List GCap)=>
        (bif (dT l ((cK p.Rules.Caps i_67).Station)) then
         ey (dn (s66.2.2.2++[(cK p.Rules.Caps i_67)]).length 32) <|
         next66 (s66.1,s66.2.1,s66.2.2.1,(s66.2.2.2++[(cK p.Rules.Caps i_67)]))
         else
         next66 (s66.1,s66.2.1,s66.2.2.1,s66.2.2.2)))
       (fun (s66:List GDomain×List GPair×List GLoad×List GCap)=>
        k61 (s66.1,s66.2.1,s66.2.2.1,s66.2.2.2)) (p.Rules.Caps.length - 0) 0 (s47.1,s47.2.1,s47.2.2.1,s47.2.2.2)))
     (fun k47=>
      c8 (fun (i_53:Nat) (next52:(List GDomain×List GPair×List GLoad×List GCap)→Option (GProblem×Int)) (s52:List GDomain×List GPair×List GLoad×List GCap)=>
       (bif ((dT l ((cK p.Rules.Loads i_53).To))&&(dT l ((cK p.Rules.Loads i_53).From))) then
        ey (dn (s52.2.2.1++[(cK p.Rules.Loads i_53)]).length 40) <|
        next52 (s52.1,s52.2.1,(s52.2.2.1++[(cK p.Rules.Loads i_53)]),s52.2.2.2)
        else
        next52 (s52.1,s52.2.1,s52.2.2.1,s52.2.2.2)))
      (fun (s52:List GDomain×List GPair×List GLoad×List GCap)=>
       k47 (s52.1,s52.2.1,s52.2.2.1,s52.2.2.2)) (p.Rules.Loads.length - 0) 0 (s33.1,s33.2.1,s33.2.2.1,s33.2.2.2)))
    (fun k33=>
     c8 (fun (i_39:Nat) (next38:(List GDomain×List GPair×List GLoad×List GCap)→Option (GProblem×Int)) (s38:List GDomain×List GPair×List GLoad×List GCap)=>
      (bif ((dT l ((cK p.Rules.Pairs i_39).A))&&(dT l ((cK p.Rules.Pairs i_39).B))) then
       ey (dn (s38.2.1++[(cK p.Rules.Pairs i_39)]).length 40) <|
       next38 (s38.1,(s38.2.1++[(cK p.Rules.Pairs i_39)]),s38.2.2.1,s38.2.2.2)
       else
       next38 (s38.1,s38.2.1,s38.2.2.1,s38.2.2.2)))
     (fun (s38:List GDomain×List GPair×List GLoad×List GCap)=>
      k33 (s38.1,s38.2.1,s38.2.2.1,s38.2.2.2)) (p.Rules.Pairs.length - 0) 0 (s20.1,s20.2.1,s20.2.2.1,s20.2.2.2)))
   (fun k20=>
    c8 (fun (i_26:Nat) (next25:(List GDomain×List GPair×List GLoad×List GCap)→Option (GProblem×Int)) (s25:List GDomain×List GPair×List GLoad×List GCap)=>
     (bif (dT l ((cK p.Domains i_26).Station)) then
      ey (dn (s25.1++[(cK p.Domains i_26)]).length 32) <|
      next25 ((s25.1++[(cK p.Domains i_26)]),s25.2.1,s25.2.2.1,s25.2.2.2)
      else
      next25 (s25.1,s25.2.1,s25.2.2.1,s25.2.2.2)))
    (fun (s25:List GDomain×List GPair×List GLoad×List GCap)=>
     k20 (s25.1,s25.2.1,s25.2.2.1,s25.2.2.2)) (p.Domains.length - 0) 0 ([],[],[],[])))
  (fun k7=>
   c8 (fun (i_13:Nat) (next12:(List GDomain×List GPair×List GLoad×List GCap)→Option (GProblem×Int)) (s12:List GDomain×List GPair×List GLoad×List GCap)=>
    (bif decide ((ij p (cK l i_13))<0) then
     some ((GProblem.mk [] (GRules.mk [] [] [])),9)
     else
     next12 (s12.1,s12.2.1,s12.2.2.1,s12.2.2.2)))
   (fun (s12:List GDomain×List GPair×List GLoad×List GCap)=>
    k7 (s12.1,s12.2.1,s12.2.2.1,s12.2.2.2)) (l.length - 0) 0 ([],[],[],[])))
theorem zgs (F0:Frz)(w:World)(hF0:F0.At w)(p:GProblem)(vp_0:Value)(cp_0:List (List Value))(hp_0:SlD cL F0 vp_0 2 cp_0 p.Domains)(vp_1:Value)(hp_1:SlC F0 vp_1 5 (p.Rules.Pairs.map cP))(vp_2:Value)(hp_2:SlC F0 vp_2 5 (p.Rules.Loads.map cR))(vp_3:Value)(hp_3:SlC F0 vp_3 4 (p.Rules.Caps.map cV))(l:List Int)(vl:Value)(hl:SlC F0 vl 1 (l.map eI))(r:GProblem×Int)(hr:zb7 p l=some r):Calls Tryz.prog 23 #[.agg [vp_0,vp_1,vp_2,vp_3].toArray,vl] w fun e w'=>∃(y:Value×List (List Value)×Value×Value×Value) (G:Frz),(SlD cL G y.1 2 y.2.1 r.1.Domains∧SlC G y.2.2.1 5 (r.1.Rules.Pairs.map cP)∧SlC G y.2.2.2.1 5 (r.1.Rules.Loads.map cR)∧SlC G y.2.2.2.2 4 (r.1.Rules.Caps.map cV))∧e= .returned (.tuple #[.agg [y.1,y.2.2.1,y.2.2.2.1,y.2.2.2.2].toArray, .int .i64 r.2])∧Fx F0 w G w':=by
 have hk:=hr;unfold zb7 at hk;haveI:=hp_0.1.oneC;haveI:=hp_1.oneC;haveI:=hp_2.oneC;haveI:=hp_3.oneC;haveI:=hl.oneC;obtain ⟨S0,F1,rfl,hS0,hp0⟩:=eY hF0;refine dv Tryz.func23 rfl rfl rfl hp0 ?_;refine iW ?_;rintro _ _ ⟨g2,rfl,rfl⟩;refine gV ?_;rintro _ _ ⟨g4,rfl,rfl⟩;refine df ?_;refine kF ?_;have hq:=ee hk;clear hk;obtain ⟨r13,hr13,hk⟩:=hq; (try dsimp only at hk);refine da (ι:=Unit) (fun z=>[(1,vl),(2, .pointer (some ⟨g2,0,none⟩)),(4, .pointer (some ⟨g4,0,none⟩)),(19, .bool ((!r13)||(!(za6 l))))]) (fun z=>[.row g4 29 [(.slice none 0 0),(.slice none 0 0),(.slice none 0 0),(.slice none 0 0)], .row g2 29 [vp_0,vp_1,vp_2,vp_3], .fr F1]) (fun z=>True) ?_ ?_
 ·refine nb ?_;refine cW (cN rfl rfl rfl (fun w hw=>zh4 _ w (hw.fr (i:=2) rfl) p vp_0 cp_0 hp_0 vp_1 hp_1 vp_2 hp_2 vp_3 hp_3 r13 hr13)) ?_;refine eX ?_;refine eg ?_;refine dl rfl rfl rfl (fun h1=>?_) (fun h1=>?_)
  ·refine kX ?_;exact cS () trivial (.c (.c (.c (.b (jl h1).symm .nil)))) (List.Sublist.refl _)
  ·refine df ?_;refine cW (cN rfl rfl rfl (fun w hw=>zek _ w (hw.fr (i:=2) rfl) l vl hl)) ?_;refine mi ?_;exact cS () trivial (.c (.c (.c (.b (io h1) .nil)))) (List.Sublist.refl _)
 ·rintro _ _;refine T.cond rfl (fun h2=>?_) (fun h2=>?_)
  ·replace hk:=dt hk h2;refine q4p ?_;refine j5 ?_;refine df ?_;refine kB ?_;obtain rfl:=Option.some.inj hk;exact q5b
  ·replace hk:=dr hk h2;refine ka ?_;refine dB ?_;have hq:=ek hk;clear hk;obtain ⟨k7,hk7,hk⟩:=hq; (try dsimp only at hk);refine da (ι:=List GDomain×Value×List (List Value)×List GPair×Value×List GLoad×Value×List GCap×Value×FzB w (fun _=>False) S0) (fun z=>[(1,vl),(2, .pointer (some ⟨g2,0,none⟩)),(4, .pointer (some ⟨g4,0,none⟩))]) (fun z=>[.row g4 29 [z.2.1,z.2.2.2.2.1,z.2.2.2.2.2.2.1,z.2.2.2.2.2.2.2.2.1], .row g2 29 [vp_0,vp_1,vp_2,vp_3], .fr z.2.2.2.2.2.2.2.2.2]) (fun z=>k7 (z.1,z.2.2.2.1,z.2.2.2.2.2.1,z.2.2.2.2.2.2.2.1)=some r∧SlD cL z.2.2.2.2.2.2.2.2.2.toFrz z.2.1 2 z.2.2.1 z.1∧SlC z.2.2.2.2.2.2.2.2.2.toFrz z.2.2.2.2.1 5 (z.2.2.2.1.map cP)∧SlC z.2.2.2.2.2.2.2.2.2.toFrz z.2.2.2.2.2.2.1 5 (z.2.2.2.2.2.1.map cR)∧SlC z.2.2.2.2.2.2.2.2.2.toFrz z.2.2.2.2.2.2.2.2.1 4 (z.2.2.2.2.2.2.2.1.map cV)∧F1.toFrz.Le z.2.2.2.2.2.2.2.2.2.toFrz) ?_ ?_
   ·have hq:=fB hk;clear hk;obtain ⟨f12,kk12,hf12,hkk12,hk⟩:=hq;refine fj ?_;refine T.loop (ι:=Nat×List GDomain×Value×List (List Value)×List GPair×Value×List GLoad×Value×List GCap×Value×FzB w (fun _=>False) S0) (fun z=>[(1,vl),(2, .pointer (some ⟨g2,0,none⟩)),(4, .pointer (some ⟨g4,0,none⟩)),(6, .int .i64 (z.1:Int))]) (fun z=>[.row g4 29 [z.2.2.1,z.2.2.2.2.2.1,z.2.2.2.2.2.2.2.1,z.2.2.2.2.2.2.2.2.2.1], .row g2 29 [vp_0,vp_1,vp_2,vp_3], .fr z.2.2.2.2.2.2.2.2.2.2]) (fun z=>c8 f12 kk12 (l.length - z.1) z.1 (z.2.1,z.2.2.2.2.1,z.2.2.2.2.2.2.1,z.2.2.2.2.2.2.2.2.1)=some r∧SlD cL z.2.2.2.2.2.2.2.2.2.2.toFrz z.2.2.1 2 z.2.2.2.1 z.2.1∧SlC z.2.2.2.2.2.2.2.2.2.2.toFrz z.2.2.2.2.2.1 5 (z.2.2.2.2.1.map cP)∧SlC z.2.2.2.2.2.2.2.2.2.2.toFrz z.2.2.2.2.2.2.2.1 5 (z.2.2.2.2.2.2.1.map cR)∧SlC z.2.2.2.2.2.2.2.2.2.2.toFrz z.2.2.2.2.2.2.2.2.2.1 4 (z.2.2.2.2.2.2.2.2.1.map cV)∧F1.toFrz.Le z.2.2.2.2.2.2.2.2.2.2.toFrz) (fun z=>l.length - z.1) (0,[],(.slice none 0 0),[],[],(.slice none 0 0),[],(.slice none 0 0),[],(.slice none 0 0),F1) ?_ ?_ ?_ ?_
    ·exact ⟨hk,(SlD.nil _ _ 2),(SlC.nil _ 5),(SlC.nil _ 5),(SlC.nil _ 4),(Frz.Le.refl _)⟩
    ·exact m0
    ·exact eW
    ·rintro ⟨i_13,c_8,vc_8,cc_8,c_9,vc_9,c_10,vc_10,c_11,vc_11,F3⟩ ⟨hk,hc_8,hc_9,hc_10,hc_11,le1_3⟩; (try dsimp only at *);haveI:=hc_8.1.oneC;haveI:=hc_9.oneC;haveI:=hc_10.oneC;haveI:=hc_11.oneC;refine kn ?_;refine cM (dg rfl rfl (SlC.mono hl le1_3) (List.length_map _)) ?_;have hm23:l.length≤9223372036854775807:=(List.length_map _)▸(SlC.mono hl le1_3).max;refine dB ?_;refine T.cond rfl (fun h14=>?_) (fun h14=>?_)
     ·have p14:=of_decide_eq_true h14;rw [fx a5] at hk;generalize hn12:c8 f12 kk12 (l.length - (i_13+1)) (i_13+1)=next12 at hk;rw [←hf12] at hk; (try dsimp only at hk);refine jQ ?_;refine dM (sN 0 5 (.eff 5 (.still 6 .done))) _ a7 (List.Sublist.refl _) ?_;refine q3G ?_;refine gQ ?_;refine cT rfl (dh (i:=i_13) rfl rfl rfl (SlC.mono hl le1_3) (List.length_map _) rfl a5) ?_;refine cT rfl (ec 2 (i:=i_13) (j:=0) rfl rfl rfl (SlC.mono hl le1_3) a5) ?_;refine dD ?_;refine c6 rfl (Wt.none) rfl rfl (cN rfl rfl rfl (fun w hw=>zbZ _ w (hw.fr (i:=2) rfl) p vp_0 cp_0 (SlD.mono (rep:=cL) (fun _ _ _ _=>GDomain.mono) hp_0 le1_3) vp_1 (SlC.mono hp_1 le1_3) vp_2 (SlC.mono hp_2 le1_3) vp_3 (SlC.mono hp_3 le1_3) (cK l i_13))) ?_;refine jL ?_;refine kG ?_;refine T.cond rfl (fun h15=>?_) (fun h15=>?_)
      ·have p15:=of_decide_eq_true h15;replace hk:=dt hk h15;refine q4p ?_;refine j5 ?_;refine df ?_;refine q0x ?_;obtain rfl:=Option.some.inj hk;exact iT 0 rfl rfl rfl rfl rfl (fun w' hw=>⟨((.slice none 0 0),[],(.slice none 0 0),(.slice none 0 0),(.slice none 0 0)),F3.toFrz,⟨(SlD.nil _ _ 2),(SlC.nil _ 5),(SlC.nil _ 5),(SlC.nil _ 4)⟩,rfl,fT hw (i:=2) rfl hS0 le1_3⟩)
      ·have p15:=of_decide_eq_false h15;replace hk:=dr hk h15;refine gY ?_;rw [←hn12] at hk;exact K.next ((i_13+1),c_8,vc_8,cc_8,c_9,vc_9,c_10,vc_10,c_11,vc_11,F3) ⟨hk,hc_8,hc_9,hc_10,hc_11,le1_3⟩ a9 (.c (.c (.c (.c .nil)))) (List.Sublist.refl _)
     ·have p14:=of_decide_eq_false h14;rw [fw a5,←hkk12] at hk; (try dsimp only at hk);refine eE ?_;exact cS (c_8,vc_8,cc_8,c_9,vc_9,c_10,vc_10,c_11,vc_11,F3) ⟨hk,hc_8,hc_9,hc_10,hc_11,le1_3⟩ (.c (.c (.c .nil))) (List.Sublist.refl _)
   ·rintro ⟨c_3,vc_3,cc_3,c_4,vc_4,c_5,vc_5,c_6,vc_6,F2⟩ ⟨hk,hc_3,hc_4,hc_5,hc_6,le1_2⟩; (try dsimp only at *);rw [←hk7] at hk; (try dsimp only at hk);haveI:=hc_3.1.oneC;haveI:=hc_4.oneC;haveI:=hc_5.oneC;haveI:=hc_6.oneC;refine dq ?_;refine gV ?_;rintro _ _ ⟨g7,rfl,rfl⟩;refine TL.slNil 98 2 ?_;refine TL.slNil 100 5 ?_;refine TL.slNil 102 5 ?_;refine TL.slNil 104 4 ?_;refine i5 ?_;refine dB ?_;have hq:=ek hk;clear hk;obtain ⟨k20,hk20,hk⟩:=hq; (try dsimp only at hk);refine da (ι:=List GDomain×Value×List (List Value)×List GPair×Value×List GLoad×Value×List GCap×Value×FzB w (fun _=>False) S0) (fun z=>[(1,vl),(2, .pointer (some ⟨g2,0,none⟩)),(4, .pointer (some ⟨g4,0,none⟩)),(7, .pointer (some ⟨g7,0,none⟩))]) (fun z=>[.sl z.2.1 98 2 z.1.length z.2.2.1.flatten, .sl z.2.2.2.2.1 100 5 z.2.2.2.1.length (z.2.2.2.1.flatMap cP), .sl z.2.2.2.2.2.2.1 102 5 z.2.2.2.2.2.1.length (z.2.2.2.2.2.1.flatMap cR), .sl z.2.2.2.2.2.2.2.2.1 104 4 z.2.2.2.2.2.2.2.1.length (z.2.2.2.2.2.2.2.1.flatMap cV), .row g7 29 [z.2.1,z.2.2.2.2.1,z.2.2.2.2.2.2.1,z.2.2.2.2.2.2.2.2.1], .row g4 29 [vc_3,vc_4,vc_5,vc_6], .row g2 29 [vp_0,vp_1,vp_2,vp_3], .fr z.2.2.2.2.2.2.2.2.2]) (fun z=>k20 (z.1,z.2.2.2.1,z.2.2.2.2.2.1,z.2.2.2.2.2.2.2.1)=some r∧OwnD cL z.2.2.2.2.2.2.2.2.2.toFrz 2 z.2.2.1 z.1∧OneC z.2.1∧OneC z.2.2.2.2.1∧OneC z.2.2.2.2.2.2.1∧OneC z.2.2.2.2.2.2.2.2.1∧F2.toFrz.Le z.2.2.2.2.2.2.2.2.2.toFrz) ?_ ?_
    ·have hq:=fB hk;clear hk;obtain ⟨f25,kk25,hf25,hkk25,hk⟩:=hq;refine fj ?_;refine T.pick [3,2,1,0,4,5,6,7] rfl a6 ?_;refine T.loop (ι:=Nat×List GDomain×Value×List (List Value)×List GPair×Value×List GLoad×Value×List GCap×Value×FzB w (fun _=>False) S0) (fun z=>[(1,vl),(2, .pointer (some ⟨g2,0,none⟩)),(4, .pointer (some ⟨g4,0,none⟩)),(7, .pointer (some ⟨g7,0,none⟩)),(8, .int .i64 (z.1:Int))]) (fun z=>[.sl z.2.2.1 98 2 z.2.1.length z.2.2.2.1.flatten, .sl z.2.2.2.2.2.1 100 5 z.2.2.2.2.1.length (z.2.2.2.2.1.flatMap cP), .sl z.2.2.2.2.2.2.2.1 102 5 z.2.2.2.2.2.2.1.length (z.2.2.2.2.2.2.1.flatMap cR), .sl z.2.2.2.2.2.2.2.2.2.1 104 4 z.2.2.2.2.2.2.2.2.1.length (z.2.2.2.2.2.2.2.2.1.flatMap cV), .row g7 29 [z.2.2.1,z.2.2.2.2.2.1,z.2.2.2.2.2.2.2.1,z.2.2.2.2.2.2.2.2.2.1], .row g4 29 [vc_3,vc_4,vc_5,vc_6], .row g2 29 [vp_0,vp_1,vp_2,vp_3], .fr z.2.2.2.2.2.2.2.2.2.2]) (fun z=>c8 f25 kk25 (p.Domains.length - z.1) z.1 (z.2.1,z.2.2.2.2.1,z.2.2.2.2.2.2.1,z.2.2.2.2.2.2.2.2.1)=some r∧OwnD cL z.2.2.2.2.2.2.2.2.2.2.toFrz 2 z.2.2.2.1 z.2.1∧OneC z.2.2.1∧OneC z.2.2.2.2.2.1∧OneC z.2.2.2.2.2.2.2.1∧OneC z.2.2.2.2.2.2.2.2.2.1∧F2.toFrz.Le z.2.2.2.2.2.2.2.2.2.2.toFrz) (fun z=>p.Domains.length - z.1) (0,[],(.slice none 0 0),[],[],(.slice none 0 0),[],(.slice none 0 0),[],(.slice none 0 0),F2) ?_ ?_ ?_ ?_
     ·exact q5c
     ·exact mh
     ·exact eW
     ·rintro ⟨i_26,c_21,vc_21,cc_21,c_22,vc_22,c_23,vc_23,c_24,vc_24,F5⟩ ⟨hk,hc_21,oc_21,oc_22,oc_23,oc_24,le2_5⟩; (try dsimp only at *);have le1_5:=le1_2.trans le2_5;refine kO ?_;refine q4i ?_;refine cM (dg rfl rfl (SlD.mono (rep:=cL) (fun _ _ _ _=>GDomain.mono) hp_0 le1_5).1 (SlD.mono (rep:=cL) (fun _ _ _ _=>GDomain.mono) hp_0 le1_5).2.1) ?_;have hm38:p.Domains.length≤9223372036854775807:=(SlD.mono (rep:=cL) (fun _ _ _ _=>GDomain.mono) hp_0 le1_5).2.1▸(SlD.mono (rep:=cL) (fun _ _ _ _=>GDomain.mono) hp_0 le1_5).1.max;refine dB ?_;refine T.cond rfl (fun h27=>?_) (fun h27=>?_)
      ·have p27:=of_decide_eq_true h27;rw [fx a5] at hk;generalize hn25:c8 f25 kk25 (p.Domains.length - (i_26+1)) (i_26+1)=next25 at hk;rw [←hf25] at hk; (try dsimp only at hk);refine q4k ?_;refine q4i ?_;refine df ?_;refine cM (dh (i:=i_26) rfl rfl rfl (SlD.mono (rep:=cL) (fun _ _ _ _=>GDomain.mono) hp_0 le1_5).1 (SlD.mono (rep:=cL) (fun _ _ _ _=>GDomain.mono) hp_0 le1_5).2.1 rfl a5) ?_;refine cM (gj rfl rfl (SlD.mono (rep:=cL) (fun _ _ _ _=>GDomain.mono) hp_0 le1_5).1 (SlD.mono (rep:=cL) (fun _ _ _ _=>GDomain.mono) hp_0 le1_5).2.1 a5) ?_;refine cM (dU 7 (i:=i_26) (j:=0) rfl rfl rfl (SlD.mono (rep:=cL) (fun _ _ _ _=>GDomain.mono) hp_0 le1_5).1 (SlD.mono (rep:=cL) (fun _ _ _ _=>GDomain.mono) hp_0 le1_5).2.1 a5 rfl (GDomain.c0 ((SlD.mono (rep:=cL) (fun _ _ _ _=>GDomain.mono) hp_0 le1_5).2.2 i_26 a5))) ?_;refine cW (cN rfl rfl rfl (fun w hw=>zbH _ w (hw.fr (i:=7) rfl) l vl (SlC.mono hl le1_5) ((cK p.Domains i_26).Station))) ?_;refine q3W ?_;refine T.cond rfl (fun h28=>?_) (fun h28=>?_)
       ·replace hk:=dt hk h28;have hq:(dn (c_21++[(cK p.Domains i_26)]).length 32)∧_:=gg hk;clear hk;obtain ⟨g58,hk⟩:=hq; (try dsimp only at hk);refine dM (.still 0 (.still 2 (.still 3 (.still 4 (.still 5 (.still 6 (.two 1 7 (.eff 7 (.eff 8 (.still 9 (.eff 10 .done)))) (.eff 1 (.eff 8 (.still 9 (.eff 10 .done))))))))))) [.sl vc_22 100 5 c_22.length (c_22.flatMap cP), .sl vc_23 102 5 c_23.length (c_23.flatMap cR), .sl vc_24 104 4 c_24.length (c_24.flatMap cV), .row g4 29 [vc_3,vc_4,vc_5,vc_6], .row g2 29 [vp_0,vp_1,vp_2,vp_3], .fr F5] a7 Sx ?_;refine gr ?_;refine q2J ?_;refine fF ?_;refine cT rfl (dh (i:=i_26) rfl rfl rfl (SlD.mono (rep:=cL) (fun _ _ _ _=>GDomain.mono) hp_0 le1_5).1 (SlD.mono (rep:=cL) (fun _ _ _ _=>GDomain.mono) hp_0 le1_5).2.1 rfl a5) ?_;refine cT rfl (kM 5 (i:=i_26) (j:=0) rfl rfl rfl (SlD.mono (rep:=cL) (fun _ _ _ _=>GDomain.mono) hp_0 le1_5).1 (SlD.mono (rep:=cL) (fun _ _ _ _=>GDomain.mono) hp_0 le1_5).2.1 a5 rfl (fW ((SlD.mono (rep:=cL) (fun _ _ _ _=>GDomain.mono) hp_0 le1_5).2.2 i_26 a5)) rfl) ?_;have hd56_1:=(GDomain.c1 ((SlD.mono (rep:=cL) (fun _ _ _ _=>GDomain.mono) hp_0 le1_5).2.2 i_26 a5)).2;haveI:=hd56_1.oneC;refine TS.two ?_ ?_
        ·refine q2d ?_;rintro _ _ ⟨g57,rfl,rfl⟩;have hl57:OwnD cL F5.toFrz 2 [[.int .i64 ((cK p.Domains i_26).Station),(cK (cK cp_0 i_26) 1)]] [(cK p.Domains i_26)]:=(di (OwnD.nil _ _ 2) ⟨_,rfl,hd56_1⟩);refine q2s ?_;refine dD ?_;refine q2P ?_;rintro v58 _ ⟨hv58,rfl⟩;have ho58:OwnD cL F5.toFrz 2 (cc_21++[[.int .i64 ((cK p.Domains i_26).Station),(cK (cK cp_0 i_26) 1)]]) (c_21++[(cK p.Domains i_26)]):=(di hc_21 ⟨_,rfl,hd56_1⟩);refine q2s ?_;refine q0E ?_;rw [←hn25] at hk;refine q2j ?_;exact q5d
        ·refine nk ?_;rintro _ _ ⟨g57,rfl,rfl⟩;have hl57:OwnD cL F5.toFrz 2 [[.int .i64 ((cK p.Domains i_26).Station),(cK (cK cp_0 i_26) 1)]] [(cK p.Domains i_26)]:=(di (OwnD.nil _ _ 2) ⟨_,rfl,hd56_1⟩);refine q1J ?_;refine q2P ?_;rintro v58 _ ⟨hv58,rfl⟩;have ho58:OwnD cL F5.toFrz 2 (cc_21++[[.int .i64 ((cK p.Domains i_26).Station),(cK (cK cp_0 i_26) 1)]]) (c_21++[(cK p.Domains i_26)]):=(di hc_21 ⟨_,rfl,hd56_1⟩);refine q2s ?_;refine q0E ?_;rw [←hn25] at hk;refine q2j ?_;exact q5d
       ·replace hk:=dr hk h28;refine gY ?_;rw [←hn25] at hk;exact K.next ((i_26+1),c_21,vc_21,cc_21,c_22,vc_22,c_23,vc_23,c_24,vc_24,F5) ⟨hk,hc_21,inferInstance,inferInstance,inferInstance,inferInstance,le2_5⟩ a9 (.c (.c (.c (.c (.c .nil))))) (List.Sublist.refl _)
      ·have p27:=of_decide_eq_false h27;rw [fw a5,←hkk25] at hk; (try dsimp only at hk);refine eE ?_;exact cS (c_21,vc_21,cc_21,c_22,vc_22,c_23,vc_23,c_24,vc_24,F5) ⟨hk,hc_21,inferInstance,inferInstance,inferInstance,inferInstance,le2_5⟩ (.c (.c (.c (.c .nil)))) (List.Sublist.refl _)
    ·rintro ⟨c_16,vc_16,cc_16,c_17,vc_17,c_18,vc_18,c_19,vc_19,F4⟩ ⟨hk,hc_16,oc_16,oc_17,oc_18,oc_19,le2_4⟩; (try dsimp only at *);rw [←hk20] at hk; (try dsimp only at hk);have le1_4:=le1_2.trans le2_4;refine ma ?_;have hq:=ek hk;clear hk;obtain ⟨k33,hk33,hk⟩:=hq; (try dsimp only at hk);refine da (ι:=List GDomain×Value×List (List Value)×List GPair×Value×List GLoad×Value×List GCap×Value) (fun z=>[(1,vl),(2, .pointer (some ⟨g2,0,none⟩)),(4, .pointer (some ⟨g4,0,none⟩)),(7, .pointer (some ⟨g7,0,none⟩))]) (fun z=>[.sl z.2.1 98 2 z.1.length z.2.2.1.flatten, .sl z.2.2.2.2.1 100 5 z.2.2.2.1.length (z.2.2.2.1.flatMap cP), .sl z.2.2.2.2.2.2.1 102 5 z.2.2.2.2.2.1.length (z.2.2.2.2.2.1.flatMap cR), .sl z.2.2.2.2.2.2.2.2 104 4 z.2.2.2.2.2.2.2.1.length (z.2.2.2.2.2.2.2.1.flatMap cV), .row g7 29 [z.2.1,z.2.2.2.2.1,z.2.2.2.2.2.2.1,z.2.2.2.2.2.2.2.2], .row g4 29 [vc_3,vc_4,vc_5,vc_6], .row g2 29 [vp_0,vp_1,vp_2,vp_3], .fr F4]) (fun z=>k33 (z.1,z.2.2.2.1,z.2.2.2.2.2.1,z.2.2.2.2.2.2.2.1)=some r∧OwnD cL F4.toFrz 2 z.2.2.1 z.1∧OneC z.2.1∧OneC z.2.2.2.2.1∧OneC z.2.2.2.2.2.2.1∧OneC z.2.2.2.2.2.2.2.2) ?_ ?_
     ·have hq:=fB hk;clear hk;obtain ⟨f38,kk38,hf38,hkk38,hk⟩:=hq;refine fj ?_;refine T.loop (ι:=Nat×List GDomain×Value×List (List Value)×List GPair×Value×List GLoad×Value×List GCap×Value) (fun z=>[(1,vl),(2, .pointer (some ⟨g2,0,none⟩)),(4, .pointer (some ⟨g4,0,none⟩)),(7, .pointer (some ⟨g7,0,none⟩)),(9, .int .i64 (z.1:Int))]) (fun z=>[.sl z.2.2.1 98 2 z.2.1.length z.2.2.2.1.flatten, .sl z.2.2.2.2.2.1 100 5 z.2.2.2.2.1.length (z.2.2.2.2.1.flatMap cP), .sl z.2.2.2.2.2.2.2.1 102 5 z.2.2.2.2.2.2.1.length (z.2.2.2.2.2.2.1.flatMap cR), .sl z.2.2.2.2.2.2.2.2.2 104 4 z.2.2.2.2.2.2.2.2.1.length (z.2.2.2.2.2.2.2.2.1.flatMap cV), .row g7 29 [z.2.2.1,z.2.2.2.2.2.1,z.2.2.2.2.2.2.2.1,z.2.2.2.2.2.2.2.2.2], .row g4 29 [vc_3,vc_4,vc_5,vc_6], .row g2 29 [vp_0,vp_1,vp_2,vp_3], .fr F4]) (fun z=>c8 f38 kk38 (p.Rules.Pairs.length - z.1) z.1 (z.2.1,z.2.2.2.2.1,z.2.2.2.2.2.2.1,z.2.2.2.2.2.2.2.2.1)=some r∧OwnD cL F4.toFrz 2 z.2.2.2.1 z.2.1∧OneC z.2.2.1∧OneC z.2.2.2.2.2.1∧OneC z.2.2.2.2.2.2.2.1∧OneC z.2.2.2.2.2.2.2.2.2) (fun z=>p.Rules.Pairs.length - z.1) (0,c_16,vc_16,cc_16,c_17,vc_17,c_18,vc_18,c_19,vc_19) ?_ ?_ ?_ ?_
      ·exact ⟨hk,hc_16,inferInstance,inferInstance,inferInstance,inferInstance⟩
      ·exact mh
      ·exact eW
      ·rintro ⟨i_39,c_34,vc_34,cc_34,c_35,vc_35,c_36,vc_36,c_37,vc_37⟩ ⟨hk,hc_34,oc_34,oc_35,oc_36,oc_37⟩; (try dsimp only at *);refine lE ?_;refine q1w ?_;refine cM (dg rfl rfl (SlC.mono hp_1 le1_4) (List.length_map _)) ?_;have hm64:p.Rules.Pairs.length≤9223372036854775807:=(List.length_map _)▸(SlC.mono hp_1 le1_4).max;refine dB ?_;refine T.cond rfl (fun h40=>?_) (fun h40=>?_)
       ·have p40:=of_decide_eq_true h40;rw [fx a5] at hk;generalize hn38:c8 f38 kk38 (p.Rules.Pairs.length - (i_39+1)) (i_39+1)=next38 at hk;rw [←hf38] at hk; (try dsimp only at hk);refine jQ ?_;refine da (ι:=Unit) (fun z=>[(1,vl),(2, .pointer (some ⟨g2,0,none⟩)),(4, .pointer (some ⟨g4,0,none⟩)),(7, .pointer (some ⟨g7,0,none⟩)),(9, .int .i64 (i_39:Int)),(87, .bool ((dT l ((cK p.Rules.Pairs i_39).A))&&(dT l ((cK p.Rules.Pairs i_39).B))))]) (fun z=>[.sl vc_34 98 2 c_34.length cc_34.flatten, .sl vc_35 100 5 c_35.length (c_35.flatMap cP), .sl vc_36 102 5 c_36.length (c_36.flatMap cR), .sl vc_37 104 4 c_37.length (c_37.flatMap cV), .row g7 29 [vc_34,vc_35,vc_36,vc_37], .row g4 29 [vc_3,vc_4,vc_5,vc_6], .row g2 29 [vp_0,vp_1,vp_2,vp_3], .fr F4]) (fun z=>True) ?_ ?_
        ·refine fN ?_;refine q25 ?_;refine cM (ec 7 (i:=i_39) (j:=0) rfl rfl rfl (SlC.mono hp_1 le1_4) a5) ?_;refine cW (cN rfl rfl rfl (fun w hw=>zbH _ w (hw.fr (i:=7) rfl) l vl (SlC.mono hl le1_4) ((cK p.Rules.Pairs i_39).A))) ?_;refine jn ?_;refine dl rfl rfl rfl (fun h41=>?_) (fun h41=>?_)
         ·refine q25 ?_;refine cM (ec 7 (i:=i_39) (j:=1) rfl rfl rfl (SlC.mono hp_1 le1_4) a5) ?_;refine cW (cN rfl rfl rfl (fun w hw=>zbH _ w (hw.fr (i:=7) rfl) l vl (SlC.mono hl le1_4) ((cK p.Rules.Pairs i_39).B))) ?_;refine jn ?_;refine ff ?_;exact cS () trivial (.c (.c (.c (.c (.c (.b (kw h41) .nil)))))) (List.Sublist.refl _)
         ·refine TL.run 10 rfl ?_;refine ff ?_;exact cS () trivial (.c (.c (.c (.c (.c (.b (fY h41).symm .nil)))))) (List.Sublist.refl _)
        ·rintro _ _;refine T.cond rfl (fun h42=>?_) (fun h42=>?_)
         ·replace hk:=dt hk h42;have hq:(dn (c_35++[(cK p.Rules.Pairs i_39)]).length 40)∧_:=gg hk;clear hk;obtain ⟨g98,hk⟩:=hq; (try dsimp only at hk);refine dM (.still 0 (.still 1 (.still 3 (.still 4 (.still 5 (.still 6 (.still 7 (.still 8 (.two 2 9 (.eff 9 (.eff 10 (sN 11 2 (.eff 13 .done)))) (.eff 2 (.eff 10 (sN 11 2 (.eff 13 .done))))))))))))) [.sl vc_34 98 2 c_34.length cc_34.flatten, .sl vc_36 102 5 c_36.length (c_36.flatMap cR), .sl vc_37 104 4 c_37.length (c_37.flatMap cV), .row g4 29 [vc_3,vc_4,vc_5,vc_6], .row g2 29 [vp_0,vp_1,vp_2,vp_3], .fr F4] a7 Sx ?_;refine gr ?_;refine gr ?_;refine gr ?_;refine q2J ?_;refine fF ?_;refine cT rfl (dh (i:=i_39) rfl rfl rfl (SlC.mono hp_1 le1_4) (List.length_map _) rfl a5) ?_;refine cT rfl (ef 5 (i:=i_39) rfl rfl rfl (SlC.mono hp_1 le1_4) a5) ?_;refine TS.two ?_ ?_
          ·refine q2d ?_;rintro _ _ ⟨g97,rfl,rfl⟩;refine q2s ?_;refine dD ?_;refine q3c ?_;rintro v98 _ ⟨hv98,rfl⟩;refine q31 ?_;rw [←hn38] at hk;refine q2j ?_;exact q5e
          ·refine nk ?_;rintro _ _ ⟨g97,rfl,rfl⟩;refine q1J ?_;refine q3c ?_;rintro v98 _ ⟨hv98,rfl⟩;refine q31 ?_;rw [←hn38] at hk;refine q2j ?_;exact q5e
         ·replace hk:=dr hk h42;refine gY ?_;rw [←hn38] at hk;exact K.next ((i_39+1),c_34,vc_34,cc_34,c_35,vc_35,c_36,vc_36,c_37,vc_37) ⟨hk,hc_34,inferInstance,inferInstance,inferInstance,inferInstance⟩ a9 (.c (.c (.c (.c (.c .nil))))) (List.Sublist.refl _)
       ·have p40:=of_decide_eq_false h40;rw [fw a5,←hkk38] at hk; (try dsimp only at hk);refine eE ?_;exact cS (c_34,vc_34,cc_34,c_35,vc_35,c_36,vc_36,c_37,vc_37) ⟨hk,hc_34,inferInstance,inferInstance,inferInstance,inferInstance⟩ (.c (.c (.c (.c .nil)))) (List.Sublist.refl _)
     ·rintro ⟨c_29,vc_29,cc_29,c_30,vc_30,c_31,vc_31,c_32,vc_32⟩ ⟨hk,hc_29,oc_29,oc_30,oc_31,oc_32⟩; (try dsimp only at *);rw [←hk33] at hk; (try dsimp only at hk);refine ma ?_;have hq:=ek hk;clear hk;obtain ⟨k47,hk47,hk⟩:=hq; (try dsimp only at hk);refine da (ι:=List GDomain×Value×List (List Value)×List GPair×Value×List GLoad×Value×List GCap×Value) (fun z=>[(1,vl),(2, .pointer (some ⟨g2,0,none⟩)),(4, .pointer (some ⟨g4,0,none⟩)),(7, .pointer (some ⟨g7,0,none⟩))]) (fun z=>[.sl z.2.1 98 2 z.1.length z.2.2.1.flatten, .sl z.2.2.2.2.1 100 5 z.2.2.2.1.length (z.2.2.2.1.flatMap cP), .sl z.2.2.2.2.2.2.1 102 5 z.2.2.2.2.2.1.length (z.2.2.2.2.2.1.flatMap cR), .sl z.2.2.2.2.2.2.2.2 104 4 z.2.2.2.2.2.2.2.1.length (z.2.2.2.2.2.2.2.1.flatMap cV), .row g7 29 [z.2.1,z.2.2.2.2.1,z.2.2.2.2.2.2.1,z.2.2.2.2.2.2.2.2], .row g4 29 [vc_3,vc_4,vc_5,vc_6], .row g2 29 [vp_0,vp_1,vp_2,vp_3], .fr F4]) (fun z=>k47 (z.1,z.2.2.2.1,z.2.2.2.2.2.1,z.2.2.2.2.2.2.2.1)=some r∧OwnD cL F4.toFrz 2 z.2.2.1 z.1∧OneC z.2.1∧OneC z.2.2.2.2.1∧OneC z.2.2.2.2.2.2.1∧OneC z.2.2.2.2.2.2.2.2) ?_ ?_
      ·have hq:=fB hk;clear hk;obtain ⟨f52,kk52,hf52,hkk52,hk⟩:=hq;refine fj ?_;refine T.loop (ι:=Nat×List GDomain×Value×List (List Value)×List GPair×Value×List GLoad×Value×List GCap×Value) (fun z=>[(1,vl),(2, .pointer (some ⟨g2,0,none⟩)),(4, .pointer (some ⟨g4,0,none⟩)),(7, .pointer (some ⟨g7,0,none⟩)),(10, .int .i64 (z.1:Int))]) (fun z=>[.sl z.2.2.1 98 2 z.2.1.length z.2.2.2.1.flatten, .sl z.2.2.2.2.2.1 100 5 z.2.2.2.2.1.length (z.2.2.2.2.1.flatMap cP), .sl z.2.2.2.2.2.2.2.1 102 5 z.2.2.2.2.2.2.1.length (z.2.2.2.2.2.2.1.flatMap cR), .sl z.2.2.2.2.2.2.2.2.2 104 4 z.2.2.2.2.2.2.2.2.1.length (z.2.2.2.2.2.2.2.2.1.flatMap cV), .row g7 29 [z.2.2.1,z.2.2.2.2.2.1,z.2.2.2.2.2.2.2.1,z.2.2.2.2.2.2.2.2.2], .row g4 29 [vc_3,vc_4,vc_5,vc_6], .row g2 29 [vp_0,vp_1,vp_2,vp_3], .fr F4]) (fun z=>c8 f52 kk52 (p.Rules.Loads.length - z.1) z.1 (z.2.1,z.2.2.2.2.1,z.2.2.2.2.2.2.1,z.2.2.2.2.2.2.2.2.1)=some r∧OwnD cL F4.toFrz 2 z.2.2.2.1 z.2.1∧OneC z.2.2.1∧OneC z.2.2.2.2.2.1∧OneC z.2.2.2.2.2.2.2.1∧OneC z.2.2.2.2.2.2.2.2.2) (fun z=>p.Rules.Loads.length - z.1) (0,c_29,vc_29,cc_29,c_30,vc_30,c_31,vc_31,c_32,vc_32) ?_ ?_ ?_ ?_
       ·exact ⟨hk,hc_29,inferInstance,inferInstance,inferInstance,inferInstance⟩
       ·exact mh
       ·exact eW
       ·rintro ⟨i_53,c_48,vc_48,cc_48,c_49,vc_49,c_50,vc_50,c_51,vc_51⟩ ⟨hk,hc_48,oc_48,oc_49,oc_50,oc_51⟩; (try dsimp only at *);refine lE ?_;refine q1w ?_;refine cM (dg rfl rfl (SlC.mono hp_2 le1_4) (List.length_map _)) ?_;have hm105:p.Rules.Loads.length≤9223372036854775807:=(List.length_map _)▸(SlC.mono hp_2 le1_4).max;refine dB ?_;refine T.cond rfl (fun h54=>?_) (fun h54=>?_)
        ·have p54:=of_decide_eq_true h54;rw [fx a5] at hk;generalize hn52:c8 f52 kk52 (p.Rules.Loads.length - (i_53+1)) (i_53+1)=next52 at hk;rw [←hf52] at hk; (try dsimp only at hk);refine jQ ?_;refine da (ι:=Unit) (fun z=>[(1,vl),(2, .pointer (some ⟨g2,0,none⟩)),(4, .pointer (some ⟨g4,0,none⟩)),(7, .pointer (some ⟨g7,0,none⟩)),(10, .int .i64 (i_53:Int)),(128, .bool ((dT l ((cK p.Rules.Loads i_53).To))&&(dT l ((cK p.Rules.Loads i_53).From))))]) (fun z=>[.sl vc_48 98 2 c_48.length cc_48.flatten, .sl vc_49 100 5 c_49.length (c_49.flatMap cP), .sl vc_50 102 5 c_50.length (c_50.flatMap cR), .sl vc_51 104 4 c_51.length (c_51.flatMap cV), .row g7 29 [vc_48,vc_49,vc_50,vc_51], .row g4 29 [vc_3,vc_4,vc_5,vc_6], .row g2 29 [vp_0,vp_1,vp_2,vp_3], .fr F4]) (fun z=>True) ?_ ?_
         ·refine fN ?_;refine q3a ?_;refine cM (ec 7 (i:=i_53) (j:=0) rfl rfl rfl (SlC.mono hp_2 le1_4) a5) ?_;refine cW (cN rfl rfl rfl (fun w hw=>zbH _ w (hw.fr (i:=7) rfl) l vl (SlC.mono hl le1_4) ((cK p.Rules.Loads i_53).To))) ?_;refine jn ?_;refine dl rfl rfl rfl (fun h55=>?_) (fun h55=>?_)
          ·refine q3a ?_;refine cM (ec 7 (i:=i_53) (j:=1) rfl rfl rfl (SlC.mono hp_2 le1_4) a5) ?_;refine cW (cN rfl rfl rfl (fun w hw=>zbH _ w (hw.fr (i:=7) rfl) l vl (SlC.mono hl le1_4) ((cK p.Rules.Loads i_53).From))) ?_;refine jn ?_;refine ff ?_;exact cS () trivial (.c (.c (.c (.c (.c (.b (kw h55) .nil)))))) (List.Sublist.refl _)
          ·refine TL.run 10 rfl ?_;refine ff ?_;exact cS () trivial (.c (.c (.c (.c (.c (.b (fY h55).symm .nil)))))) (List.Sublist.refl _)
         ·rintro _ _;refine T.cond rfl (fun h56=>?_) (fun h56=>?_)
          ·replace hk:=dt hk h56;have hq:(dn (c_50++[(cK p.Rules.Loads i_53)]).length 40)∧_:=gg hk;clear hk;obtain ⟨g139,hk⟩:=hq; (try dsimp only at hk);refine dM (.still 0 (.still 1 (.still 3 (.still 4 (.still 5 (.still 6 (.still 7 (.still 8 (.two 2 9 (.eff 9 (.eff 10 (sN 11 2 (.eff 13 .done)))) (.eff 2 (.eff 10 (sN 11 2 (.eff 13 .done))))))))))))) [.sl vc_48 98 2 c_48.length cc_48.flatten, .sl vc_49 100 5 c_49.length (c_49.flatMap cP), .sl vc_51 104 4 c_51.length (c_51.flatMap cV), .row g4 29 [vc_3,vc_4,vc_5,vc_6], .row g2 29 [vp_0,vp_1,vp_2,vp_3], .fr F4] a7 Sx ?_;refine gr ?_;refine gr ?_;refine gr ?_;refine q2J ?_;refine fF ?_;refine cT rfl (dh (i:=i_53) rfl rfl rfl (SlC.mono hp_2 le1_4) (List.length_map _) rfl a5) ?_;refine cT rfl (ef 5 (i:=i_53) rfl rfl rfl (SlC.mono hp_2 le1_4) a5) ?_;refine TS.two ?_ ?_
           ·refine q2d ?_;rintro _ _ ⟨g138,rfl,rfl⟩;refine q2s ?_;refine dD ?_;refine q28 ?_;rintro v139 _ ⟨hv139,rfl⟩;refine q31 ?_;rw [←hn52] at hk;refine q2j ?_;exact q5f
           ·refine nk ?_;rintro _ _ ⟨g138,rfl,rfl⟩;refine q1J ?_;refine q28 ?_;rintro v139 _ ⟨hv139,rfl⟩;refine q31 ?_;rw [←hn52] at hk;refine q2j ?_;exact q5f
          ·replace hk:=dr hk h56;refine gY ?_;rw [←hn52] at hk;exact K.next ((i_53+1),c_48,vc_48,cc_48,c_49,vc_49,c_50,vc_50,c_51,vc_51) ⟨hk,hc_48,inferInstance,inferInstance,inferInstance,inferInstance⟩ a9 (.c (.c (.c (.c (.c .nil))))) (List.Sublist.refl _)
        ·have p54:=of_decide_eq_false h54;rw [fw a5,←hkk52] at hk; (try dsimp only at hk);refine eE ?_;exact cS (c_48,vc_48,cc_48,c_49,vc_49,c_50,vc_50,c_51,vc_51) ⟨hk,hc_48,inferInstance,inferInstance,inferInstance,inferInstance⟩ (.c (.c (.c (.c .nil)))) (List.Sublist.refl _)
      ·rintro ⟨c_43,vc_43,cc_43,c_44,vc_44,c_45,vc_45,c_46,vc_46⟩ ⟨hk,hc_43,oc_43,oc_44,oc_45,oc_46⟩; (try dsimp only at *);rw [←hk47] at hk; (try dsimp only at hk);refine ma ?_;have hq:=ek hk;clear hk;obtain ⟨k61,hk61,hk⟩:=hq; (try dsimp only at hk);refine da (ι:=List GDomain×Value×List (List Value)×List GPair×Value×List GLoad×Value×List GCap×Value) (fun z=>[(4, .pointer (some ⟨g4,0,none⟩)),(7, .pointer (some ⟨g7,0,none⟩))]) (fun z=>[.sl z.2.1 98 2 z.1.length z.2.2.1.flatten, .sl z.2.2.2.2.1 100 5 z.2.2.2.1.length (z.2.2.2.1.flatMap cP), .sl z.2.2.2.2.2.2.1 102 5 z.2.2.2.2.2.1.length (z.2.2.2.2.2.1.flatMap cR), .sl z.2.2.2.2.2.2.2.2 104 4 z.2.2.2.2.2.2.2.1.length (z.2.2.2.2.2.2.2.1.flatMap cV), .row g7 29 [z.2.1,z.2.2.2.2.1,z.2.2.2.2.2.2.1,z.2.2.2.2.2.2.2.2], .row g4 29 [vc_3,vc_4,vc_5,vc_6], .fr F4]) (fun z=>k61 (z.1,z.2.2.2.1,z.2.2.2.2.2.1,z.2.2.2.2.2.2.2.1)=some r∧OwnD cL F4.toFrz 2 z.2.2.1 z.1∧OneC z.2.1∧OneC z.2.2.2.2.1∧OneC z.2.2.2.2.2.2.1∧OneC z.2.2.2.2.2.2.2.2) ?_ ?_
       ·have hq:=fB hk;clear hk;obtain ⟨f66,kk66,hf66,hkk66,hk⟩:=hq;refine fj ?_;refine T.loop (ι:=Nat×List GDomain×Value×List (List Value)×List GPair×Value×List GLoad×Value×List GCap×Value) (fun z=>[(1,vl),(2, .pointer (some ⟨g2,0,none⟩)),(4, .pointer (some ⟨g4,0,none⟩)),(7, .pointer (some ⟨g7,0,none⟩)),(11, .int .i64 (z.1:Int))]) (fun z=>[.sl z.2.2.1 98 2 z.2.1.length z.2.2.2.1.flatten, .sl z.2.2.2.2.2.1 100 5 z.2.2.2.2.1.length (z.2.2.2.2.1.flatMap cP), .sl z.2.2.2.2.2.2.2.1 102 5 z.2.2.2.2.2.2.1.length (z.2.2.2.2.2.2.1.flatMap cR), .sl z.2.2.2.2.2.2.2.2.2 104 4 z.2.2.2.2.2.2.2.2.1.length (z.2.2.2.2.2.2.2.2.1.flatMap cV), .row g7 29 [z.2.2.1,z.2.2.2.2.2.1,z.2.2.2.2.2.2.2.1,z.2.2.2.2.2.2.2.2.2], .row g4 29 [vc_3,vc_4,vc_5,vc_6], .row g2 29 [vp_0,vp_1,vp_2,vp_3], .fr F4]) (fun z=>c8 f66 kk66 (p.Rules.Caps.length - z.1) z.1 (z.2.1,z.2.2.2.2.1,z.2.2.2.2.2.2.1,z.2.2.2.2.2.2.2.2.1)=some r∧OwnD cL F4.toFrz 2 z.2.2.2.1 z.2.1∧OneC z.2.2.1∧OneC z.2.2.2.2.2.1∧OneC z.2.2.2.2.2.2.2.1∧OneC z.2.2.2.2.2.2.2.2.2) (fun z=>p.Rules.Caps.length - z.1) (0,c_43,vc_43,cc_43,c_44,vc_44,c_45,vc_45,c_46,vc_46) ?_ ?_ ?_ ?_
        ·exact ⟨hk,hc_43,inferInstance,inferInstance,inferInstance,inferInstance⟩
        ·exact mh
        ·exact eW
        ·rintro ⟨i_67,c_62,vc_62,cc_62,c_63,vc_63,c_64,vc_64,c_65,vc_65⟩ ⟨hk,hc_62,oc_62,oc_63,oc_64,oc_65⟩; (try dsimp only at *);refine lE ?_;refine q1w ?_;refine cM (dg rfl rfl (SlC.mono hp_3 le1_4) (List.length_map _)) ?_;have hm146:p.Rules.Caps.length≤9223372036854775807:=(List.length_map _)▸(SlC.mono hp_3 le1_4).max;refine dB ?_;refine T.cond rfl (fun h68=>?_) (fun h68=>?_)
         ·have p68:=of_decide_eq_true h68;rw [fx a5] at hk;generalize hn66:c8 f66 kk66 (p.Rules.Caps.length - (i_67+1)) (i_67+1)=next66 at hk;rw [←hf66] at hk; (try dsimp only at hk);refine fS ?_;refine q1w ?_;refine df ?_;refine cM (dh (i:=i_67) rfl rfl rfl (SlC.mono hp_3 le1_4) (List.length_map _) rfl a5) ?_;refine cM (gj rfl rfl (SlC.mono hp_3 le1_4) (List.length_map _) a5) ?_;refine cM (ec 7 (i:=i_67) (j:=0) rfl rfl rfl (SlC.mono hp_3 le1_4) a5) ?_;refine cW (cN rfl rfl rfl (fun w hw=>zbH _ w (hw.fr (i:=7) rfl) l vl (SlC.mono hl le1_4) ((cK p.Rules.Caps i_67).Station))) ?_;refine q3W ?_;refine T.cond rfl (fun h69=>?_) (fun h69=>?_)
          ·replace hk:=dt hk h69;have hq:(dn (c_65++[(cK p.Rules.Caps i_67)]).length 32)∧_:=gg hk;clear hk;obtain ⟨g169,hk⟩:=hq; (try dsimp only at hk);refine dM (.still 0 (.still 1 (.still 3 (.still 4 (.still 5 (.still 6 (.still 7 (.still 8 (.two 2 9 (.eff 9 (.eff 10 (sN 11 2 (.eff 13 .done)))) (.eff 2 (.eff 10 (sN 11 2 (.eff 13 .done))))))))))))) [.sl vc_62 98 2 c_62.length cc_62.flatten, .sl vc_63 100 5 c_63.length (c_63.flatMap cP), .sl vc_64 102 5 c_64.length (c_64.flatMap cR), .row g4 29 [vc_3,vc_4,vc_5,vc_6], .row g2 29 [vp_0,vp_1,vp_2,vp_3], .fr F4] a7 Sx ?_;refine gr ?_;refine gr ?_;refine gr ?_;refine q2J ?_;refine fF ?_;refine cT rfl (dh (i:=i_67) rfl rfl rfl (SlC.mono hp_3 le1_4) (List.length_map _) rfl a5) ?_;refine cT rfl (ef 5 (i:=i_67) rfl rfl rfl (SlC.mono hp_3 le1_4) a5) ?_;refine TS.two ?_ ?_
           ·refine q2d ?_;rintro _ _ ⟨g168,rfl,rfl⟩;refine q2s ?_;refine dD ?_;refine q3f ?_;rintro v169 _ ⟨hv169,rfl⟩;refine q31 ?_;rw [←hn66] at hk;refine q2j ?_;exact q5g
           ·refine nk ?_;rintro _ _ ⟨g168,rfl,rfl⟩;refine q1J ?_;refine q3f ?_;rintro v169 _ ⟨hv169,rfl⟩;refine q31 ?_;rw [←hn66] at hk;refine q2j ?_;exact q5g
          ·replace hk:=dr hk h69;refine gY ?_;rw [←hn66] at hk;exact K.next ((i_67+1),c_62,vc_62,cc_62,c_63,vc_63,c_64,vc_64,c_65,vc_65) ⟨hk,hc_62,inferInstance,inferInstance,inferInstance,inferInstance⟩ a9 (.c (.c (.c (.c (.c .nil))))) (List.Sublist.refl _)
         ·have p68:=of_decide_eq_false h68;rw [fw a5,←hkk66] at hk; (try dsimp only at hk);refine eE ?_;refine K.pick [0,1,2,3,4,5,7] rfl a6 ?_;exact cS (c_62,vc_62,cc_62,c_63,vc_63,c_64,vc_64,c_65,vc_65) ⟨hk,hc_62,inferInstance,inferInstance,inferInstance,inferInstance⟩ (.c (.c .nil)) (List.Sublist.refl _)
       ·rintro ⟨c_57,vc_57,cc_57,c_58,vc_58,c_59,vc_59,c_60,vc_60⟩ ⟨hk,hc_57,oc_57,oc_58,oc_59,oc_60⟩; (try dsimp only at *);rw [←hk61] at hk; (try dsimp only at hk);refine q29 ?_;rintro F6 ⟨le4_6,hz6⟩;refine iX ?_;have le1_6:=le1_4.trans le4_6;have hf6:=hz6.toD (OwnD.mono (rep:=cL) (fun _ _ _ _=>GDomain.mono) hc_57 le4_6) rfl;haveI:=hf6.1.oneC;refine jg (fun w hw=>hw.freezeS (i:=5) (j:=0) a6 rfl rfl) ?_;rintro F7 ⟨le6_7,hz7⟩;refine iX ?_;have le1_7:=le1_6.trans le6_7;have hf7:=hz7.toF rfl GPair.len;haveI:=hf7.oneC;refine jg (fun w hw=>hw.freezeS (i:=4) (j:=0) a6 rfl rfl) ?_;rintro F8 ⟨le7_8,hz8⟩;refine iX ?_;have le1_8:=le1_7.trans le7_8;have le6_8:=le6_7.trans le7_8;have hf8:=hz8.toF rfl GLoad.len;haveI:=hf8.oneC;refine jg (fun w hw=>hw.freezeS (i:=3) (j:=0) a6 rfl rfl) ?_;rintro F9 ⟨le8_9,hz9⟩;refine iX ?_;have le1_9:=le1_8.trans le8_9;have le6_9:=le6_8.trans le8_9;have le7_9:=le7_8.trans le8_9;have hf9:=hz9.toF rfl GCap.len;haveI:=hf9.oneC;obtain rfl:=Option.some.inj hk;exact iT 1 rfl rfl rfl rfl rfl (fun w' hw=>⟨(vc_57,cc_57,vc_58,vc_59,vc_60),F9.toFrz,⟨(SlD.mono (rep:=cL) (fun _ _ _ _=>GDomain.mono) hf6 le6_9),(SlC.mono hf7 le7_9),(SlC.mono hf8 le8_9),hf9⟩,rfl,fT hw (i:=2) rfl hS0 le1_9⟩)
def lP (x_:GPair)(l:List GChoice):Bool:=
 (((((decide (¬(ie l x_.A)=0))&&(decide (¬(ie l x_.B)=0)))&&(decide (x_.Low≤(ie l x_.A))))&&(decide ((ie l x_.A)≤x_.High)))&&(decide ((ie l x_.B)=wI ((ie l x_.A)+x_.Offset))))
theorem zfD (F0:Frz)(w:World)(hF0:F0.At w)(x_:GPair)(l:List GChoice)(vl:Value)(hl:SlC F0 vl 2 (l.map cQ)):Calls Tryz.prog 86 #[.agg [.int .i64 x_.A, .int .i64 x_.B, .int .i64 x_.Offset, .int .i64 x_.Low, .int .i64 x_.High].toArray,vl] w fun e w'=>e= .returned (.bool (lP x_ l))∧Below w.heap.size w w':=by
 obtain ⟨r,hk⟩:∃r,lP x_ l=r:=⟨_,rfl⟩;rw [hk];unfold lP at hk;haveI:=hl.oneC;obtain ⟨S0,F1,rfl,hS0,hp0⟩:=eY hF0;refine dv Tryz.func86 rfl rfl rfl hp0 ?_;refine iW ?_;rintro _ _ ⟨g2,rfl,rfl⟩;refine kq ?_;refine dM (sN 0 3 (sN 4 3 (.eff 3 (.eff 7 (.still 8 (.still 9 .done)))))) _ a7 (List.Sublist.refl _) ?_;refine fF ?_;refine fH ?_;refine fF ?_;refine mW ?_;refine c6 rfl (Wt.none) rfl rfl (cN rfl rfl rfl (fun w hw=>zdQ _ w (hw.fr (i:=1) rfl) l vl hl x_.A)) ?_;refine jL ?_;refine dD ?_;refine c6 rfl (Wt.none) rfl rfl (cN rfl rfl rfl (fun w hw=>zdQ _ w (hw.fr (i:=1) rfl) l vl hl x_.B)) ?_;refine ms ?_;refine fQ ?_;refine K.seq (T.seq ?_);refine da (ι:=Unit) (fun z=>[(4, .bool (((((decide (¬(ie l x_.A)=0))&&(decide (¬(ie l x_.B)=0)))&&(decide (x_.Low≤(ie l x_.A))))&&(decide ((ie l x_.A)≤x_.High)))&&(decide ((ie l x_.B)=wI ((ie l x_.A)+x_.Offset)))))]) (fun z=>[.row g2 100 [.int .i64 x_.A, .int .i64 x_.B, .int .i64 x_.Offset, .int .i64 x_.Low, .int .i64 x_.High], .fr F1]) (fun z=>True) ?_ ?_
 ·refine m7 ?_;refine dl rfl rfl rfl (fun h1=>?_) (fun h1=>?_)
  ·have p1:=of_decide_eq_true h1;refine lC ?_;refine dl rfl rfl rfl (fun h2=>?_) (fun h2=>?_)
   ·have p2:=of_decide_eq_true h2;refine ei ?_;refine lC ?_;refine dl rfl rfl rfl (fun h3=>?_) (fun h3=>?_)
    ·have p3:=of_decide_eq_true h3;refine df ?_;refine ei ?_;refine eR ?_;refine dl rfl rfl rfl (fun h4=>?_) (fun h4=>?_)
     ·have p4:=of_decide_eq_true h4;refine eg ?_;refine ei ?_;refine kX ?_;exact cS () trivial (.b (kw (iL (iL (iL h1 h2) h3) h4)) .nil) (List.Sublist.refl _)
     ·have p4:=of_decide_eq_false h4;refine TL.run 8 rfl ?_;refine ff ?_;exact cS () trivial (.b (fY (iL (iL (iL h1 h2) h3) h4)).symm .nil) (List.Sublist.refl _)
    ·have p3:=of_decide_eq_false h3;refine TL.run 14 rfl ?_;refine ff ?_;exact cS () trivial (.b (fY (fY (iL (iL h1 h2) h3))).symm .nil) (List.Sublist.refl _)
   ·have p2:=of_decide_eq_false h2;refine TL.run 20 rfl ?_;refine ff ?_;exact cS () trivial (.b (fY (fY (fY (iL h1 h2)))).symm .nil) (List.Sublist.refl _)
  ·have p1:=of_decide_eq_false h1;refine TL.run 24 rfl ?_;refine ff ?_;exact cS () trivial (.b (fY (fY (fY (fY h1)))).symm .nil) (List.Sublist.refl _)
 ·refine mS ?_;subst hk;exact eh
def zb0 (p:GProblem)(n:Int)(channel:Int)(l:List GChoice):Int:=
 dJ (fun (sum_1:Int)=>
  sum_1)
 (fun k2=>
  c8 (fun (i_5:Nat) (next4:Int→Int) (sum_3:Int)=>
   (bif ((((decide ((cK p.Rules.Loads i_5).To=n))&&(decide ((ie l ((cK p.Rules.Loads i_5).From))=channel)))&&(decide ((cK p.Rules.Loads i_5).Low≤channel)))&&(decide (channel≤(cK p.Rules.Loads i_5).High))) then
    next4 (wI (sum_3+((cK p.Rules.Loads i_5).Weight)))
    else
    next4 sum_3))
  (fun (sum_3:Int)=>
   k2 sum_3) (p.Rules.Loads.length - 0) 0 0)
theorem zjy (F0:Frz)(w:World)(hF0:F0.At w)(p:GProblem)(vp_0:Value)(cp_0:List (List Value))(hp_0:SlD cL F0 vp_0 2 cp_0 p.Domains)(vp_1:Value)(hp_1:SlC F0 vp_1 5 (p.Rules.Pairs.map cP))(vp_2:Value)(hp_2:SlC F0 vp_2 5 (p.Rules.Loads.map cR))(vp_3:Value)(hp_3:SlC F0 vp_3 4 (p.Rules.Caps.map cV))(n:Int)(channel:Int)(l:List GChoice)(vl:Value)(hl:SlC F0 vl 2 (l.map cQ)):Calls Tryz.prog 125 #[.agg [vp_0,vp_1,vp_2,vp_3].toArray, .int .i64 n, .int .i64 channel,vl] w fun e w'=>e= .returned (.int .i64 (zb0 p n channel l))∧Below w.heap.size w w':=by
 obtain ⟨r,hk⟩:∃r,zb0 p n channel l=r:=⟨_,rfl⟩;rw [hk];unfold zb0 at hk;haveI:=hp_0.1.oneC;haveI:=hp_1.oneC;haveI:=hp_2.oneC;haveI:=hp_3.oneC;haveI:=hl.oneC;obtain ⟨S0,F1,rfl,hS0,hp0⟩:=eY hF0;refine dv Tryz.func125 rfl rfl rfl hp0 ?_;refine iW ?_;rintro _ _ ⟨g4,rfl,rfl⟩;refine ig ?_;refine jN ?_;refine dB ?_;have hq:=ek hk;clear hk;obtain ⟨k2,hk2,hk⟩:=hq; (try dsimp only at hk);refine da (ι:=Int) (fun z=>[(9, .int .i64 z)]) (fun z=>[.fr F1]) (fun z=>k2 z=r) ?_ ?_
 ·have hq:=fB hk;clear hk;obtain ⟨f4,kk4,hf4,hkk4,hk⟩:=hq;refine fj ?_;refine T.loop (ι:=Nat×Int) (fun z=>[(1, .int .i64 n),(2, .int .i64 channel),(3,vl),(4, .pointer (some ⟨g4,0,none⟩)),(9, .int .i64 z.2),(10, .int .i64 (z.1:Int))]) (fun z=>[.row g4 29 [vp_0,vp_1,vp_2,vp_3], .fr F1]) (fun z=>c8 f4 kk4 (p.Rules.Loads.length - z.1) z.1 z.2=r) (fun z=>p.Rules.Loads.length - z.1) (0,0) ?_ ?_ ?_ ?_
  ·exact hk
  ·exact (.c (.c (.c (.c (.c (.c .nil))))))
  ·exact eW
  ·rintro ⟨i_5,sum_3⟩ hk; (try dsimp only at *);refine kO ?_;refine q38 ?_;have hm16:p.Rules.Loads.length≤9223372036854775807:=(List.length_map _)▸hp_2.max;refine dB ?_;refine T.cond rfl (fun h6=>?_) (fun h6=>?_)
   ·have p6:=of_decide_eq_true h6;rw [fx a5] at hk;generalize hn4:c8 f4 kk4 (p.Rules.Loads.length - (i_5+1)) (i_5+1)=next4 at hk;rw [←hf4] at hk; (try dsimp only at hk);refine fS ?_;refine fC ?_;refine q4e ?_;refine cM (dh (i:=i_5) rfl rfl rfl hp_2 (List.length_map _) rfl a5) ?_;refine cM (ef 1 (i:=i_5) rfl rfl rfl hp_2 a5) ?_;refine gV ?_;rintro _ _ ⟨g11,rfl,rfl⟩;refine mL ?_;refine da (ι:=Unit) (fun z=>[(1, .int .i64 n),(2, .int .i64 channel),(3,vl),(4, .pointer (some ⟨g4,0,none⟩)),(9, .int .i64 sum_3),(10, .int .i64 (i_5:Int)),(11, .pointer (some ⟨g11,0,none⟩)),(49, .bool ((((decide ((cK p.Rules.Loads i_5).To=n))&&(decide ((ie l ((cK p.Rules.Loads i_5).From))=channel)))&&(decide ((cK p.Rules.Loads i_5).Low≤channel)))&&(decide (channel≤(cK p.Rules.Loads i_5).High))))]) (fun z=>[.row g11 102 [.int .i64 ((cK p.Rules.Loads i_5).To), .int .i64 ((cK p.Rules.Loads i_5).From), .int .i64 ((cK p.Rules.Loads i_5).Weight), .int .i64 ((cK p.Rules.Loads i_5).Low), .int .i64 ((cK p.Rules.Loads i_5).High)], .row g4 29 [vp_0,vp_1,vp_2,vp_3], .fr F1]) (fun z=>True) ?_ ?_
    ·refine mw ?_;refine eR ?_;refine dl rfl rfl rfl (fun h7=>?_) (fun h7=>?_)
     ·have p7:=of_decide_eq_true h7;refine df ?_;refine ei ?_;refine cW (cN rfl rfl rfl (fun w hw=>zdQ _ w (hw.fr (i:=2) rfl) l vl hl ((cK p.Rules.Loads i_5).From))) ?_;refine eX ?_;refine lC ?_;refine dl rfl rfl rfl (fun h8=>?_) (fun h8=>?_)
      ·have p8:=of_decide_eq_true h8;refine ei ?_;refine lC ?_;refine dl rfl rfl rfl (fun h9=>?_) (fun h9=>?_)
       ·have p9:=of_decide_eq_true h9;refine df ?_;refine ei ?_;refine eg ?_;refine ff ?_;exact cS () trivial (.c (.c (.c (.c (.c (.c (.c (.b (kw (iL (iL h7 h8) h9)) .nil)))))))) (List.Sublist.refl _)
       ·have p9:=of_decide_eq_false h9;refine mm ?_;exact cS () trivial (.c (.c (.c (.c (.c (.c (.c (.b (fY (iL (iL h7 h8) h9)).symm .nil)))))))) (List.Sublist.refl _)
      ·have p8:=of_decide_eq_false h8;refine TL.run 11 rfl ?_;refine ff ?_;exact cS () trivial (.c (.c (.c (.c (.c (.c (.c (.b (fY (fY (iL h7 h8))).symm .nil)))))))) (List.Sublist.refl _)
     ·have p7:=of_decide_eq_false h7;refine TL.run 19 rfl ?_;refine ff ?_;exact cS () trivial (.c (.c (.c (.c (.c (.c (.c (.b (fY (fY (fY h7))).symm .nil)))))))) (List.Sublist.refl _)
    ·rintro _ _;refine T.cond rfl (fun h10=>?_) (fun h10=>?_)
     ·have p10:=h10; (try simp only [cY] at p10);replace hk:=dt hk h10;refine iV ?_;refine ei ?_;refine eg ?_;refine q2H ?_;rw [←hn4] at hk;refine K.pick [1,2] rfl a6 ?_;exact K.next ((i_5+1),wI (sum_3+((cK p.Rules.Loads i_5).Weight))) hk a9 (.c (.c (.c (.c (.c (.c .nil)))))) (List.Sublist.refl _)
     ·replace hk:=dr hk h10;refine gY ?_;rw [←hn4] at hk;refine K.pick [1,2] rfl a6 ?_;exact K.next ((i_5+1),sum_3) hk a9 (.c (.c (.c (.c (.c (.c .nil)))))) (List.Sublist.refl _)
   ·have p6:=of_decide_eq_false h6;rw [fw a5,←hkk4] at hk; (try dsimp only at hk);refine eE ?_;refine q2R ?_;exact cS sum_3 hk (.c .nil) (List.Sublist.refl _)
 ·rintro sum_1 hk;rw [←hk2] at hk; (try dsimp only at hk);refine jO ?_;refine gH ?_;subst hk;exact eh
def lL (p:GProblem)(x_:GCap)(l:List GChoice):Bool:=
 ((((decide (¬(ie l x_.Station)=0))&&(decide (x_.Low≤(ie l x_.Station))))&&(decide ((ie l x_.Station)≤x_.High)))&&(decide (x_.Max<(zb0 p x_.Station (ie l x_.Station) l))))
theorem zf6 (F0:Frz)(w:World)(hF0:F0.At w)(p:GProblem)(vp_0:Value)(cp_0:List (List Value))(hp_0:SlD cL F0 vp_0 2 cp_0 p.Domains)(vp_1:Value)(hp_1:SlC F0 vp_1 5 (p.Rules.Pairs.map cP))(vp_2:Value)(hp_2:SlC F0 vp_2 5 (p.Rules.Loads.map cR))(vp_3:Value)(hp_3:SlC F0 vp_3 4 (p.Rules.Caps.map cV))(x_:GCap)(l:List GChoice)(vl:Value)(hl:SlC F0 vl 2 (l.map cQ)):Calls Tryz.prog 87 #[.agg [vp_0,vp_1,vp_2,vp_3].toArray, .agg [.int .i64 x_.Station, .int .i64 x_.Max, .int .i64 x_.Low, .int .i64 x_.High].toArray,vl] w fun e w'=>e= .returned (.bool (lL p x_ l))∧Below w.heap.size w w':=by
 obtain ⟨r,hk⟩:∃r,lL p x_ l=r:=⟨_,rfl⟩;rw [hk];unfold lL at hk;haveI:=hp_0.1.oneC;haveI:=hp_1.oneC;haveI:=hp_2.oneC;haveI:=hp_3.oneC;haveI:=hl.oneC;obtain ⟨S0,F1,rfl,hS0,hp0⟩:=eY hF0;refine dv Tryz.func87 rfl rfl rfl hp0 ?_;refine iW ?_;rintro _ _ ⟨g3,rfl,rfl⟩;refine q3J ?_;rintro _ _ ⟨g4,rfl,rfl⟩;refine li ?_;refine ei ?_;refine cW (cN rfl rfl rfl (fun w hw=>zdQ _ w (hw.fr (i:=2) rfl) l vl hl x_.Station)) ?_;refine jn ?_;refine ly ?_;refine da (ι:=Unit) (fun z=>[(6, .bool ((((decide (¬(ie l x_.Station)=0))&&(decide (x_.Low≤(ie l x_.Station))))&&(decide ((ie l x_.Station)≤x_.High)))&&(decide (x_.Max<(zb0 p x_.Station (ie l x_.Station) l)))))]) (fun z=>[.row g4 104 [.int .i64 x_.Station, .int .i64 x_.Max, .int .i64 x_.Low, .int .i64 x_.High], .row g3 29 [vp_0,vp_1,vp_2,vp_3], .fr F1]) (fun z=>True) ?_ ?_
 ·refine dM (sN 0 20 (sN 21 2 (.eff 20 (sN 23 2 (.still 25 .done))))) _ a7 (List.Sublist.refl _) ?_;refine gv ?_;refine dA rfl rfl rfl rfl (fun h1=>?_) (fun h1=>?_)
  ·have p1:=of_decide_eq_true h1;refine fH ?_;refine TS.run 4 rfl ?_;refine dA rfl rfl rfl rfl (fun h2=>?_) (fun h2=>?_)
   ·have p2:=of_decide_eq_true h2;refine fF ?_;refine fH ?_;refine gv ?_;refine dA rfl rfl rfl rfl (fun h3=>?_) (fun h3=>?_)
    ·have p3:=of_decide_eq_true h3;refine q3G ?_;refine fH ?_;refine gQ ?_;refine mW ?_;refine c6 rfl (Wt.some) rfl rfl (cN rfl rfl rfl (fun w hw=>zjy _ w (hw.fr (i:=2) rfl) p vp_0 cp_0 hp_0 vp_1 hp_1 vp_2 hp_2 vp_3 hp_3 x_.Station (ie l x_.Station) l vl hl)) ?_;refine jL ?_;refine gv ?_;refine fQ ?_;exact cS () trivial (.b (kw (iL (iL h1 h2) h3)) .nil) (List.Sublist.refl _)
    ·have p3:=of_decide_eq_false h3;refine TS.run 7 rfl ?_;refine jv ?_;refine gv ?_;refine fQ ?_;exact cS () trivial (.b (fY (iL (iL h1 h2) h3)).symm .nil) (List.Sublist.refl _)
   ·have p2:=of_decide_eq_false h2;refine TS.run 13 rfl ?_;refine jv ?_;refine gv ?_;refine fQ ?_;exact cS () trivial (.b (fY (fY (iL h1 h2))).symm .nil) (List.Sublist.refl _)
  ·have p1:=of_decide_eq_false h1;refine TS.run 19 rfl ?_;refine jv ?_;refine gv ?_;refine fQ ?_;exact cS () trivial (.b (fY (fY (fY h1))).symm .nil) (List.Sublist.refl _)
 ·refine mS ?_;subst hk;exact eh
def ml (p:GProblem)(l:List GChoice)(all:Bool):GViolation:=
 dJ (fun (s3:Int×Int)=>
  dJ (fun (s16:Int×Int)=>
   dJ (fun (s25:Int×Int)=>
    dJ (fun (s34:Int×Int)=>
     (GViolation.mk 0 0))
    (fun k34=>
     c8 (fun (i_38:Nat) (next37:(Int×Int)→GViolation) (s37:Int×Int)=>
      (bif (lL p (cK p.Rules.Caps i_38) l) then
       (GViolation.mk 4 (i_38:Int))
       else
       next37 (s37.1,s37.2)))
     (fun (s37:Int×Int)=>
      k34 (s37.1,s37.2)) (p.Rules.Caps.length - 0) 0 (s25.1,s25.2)))
   (fun k25=>
    c8 (fun (i_29:Nat) (next28:(Int×Int)→GViolation) (s28:Int×Int)=>
     (bif (lP (cK p.Rules.Pairs i_29) l) then
      (GViolation.mk 3 (i_29:Int))
      else
      next28 (s28.1,s28.2)))
    (fun (s28:Int×Int)=>
     k25 (s28.1,s28.2)) (p.Rules.Pairs.length - 0) 0 (s16.1,s16.2)))
  (fun k16=>
   c8 (fun (i_20:Nat) (next19:(Int×Int)→GViolation) (s19:Int×Int)=>
    (bif decide ((ij p ((cK l i_20).Station))<0) then
     (GViolation.mk 2 (i_20:Int))
     else
     next19 (s19.1,s19.2)))
   (fun (s19:Int×Int)=>
    k16 (s19.1,s19.2)) (l.length - 0) 0 (s3.1,s3.2)))
 (fun k3=>
  c8 (fun (i_7:Nat) (next6:(Int×Int)→GViolation) (s6:Int×Int)=>
   (bif (((decide ((ie l ((cK p.Domains i_7).Station))=0))&&all)||((decide (¬(ie l ((cK p.Domains i_7).Station))=0))&&(!(dT ((cK p.Domains i_7).Channels) (ie l ((cK p.Domains i_7).Station)))))) then
    (GViolation.mk 1 (i_7:Int))
    else
    next6 (s6.1,s6.2)))
  (fun (s6:Int×Int)=>
   k3 (s6.1,s6.2)) (p.Domains.length - 0) 0 (0,0))
theorem zin (F0:Frz)(w:World)(hF0:F0.At w)(p:GProblem)(vp_0:Value)(cp_0:List (List Value))(hp_0:SlD cL F0 vp_0 2 cp_0 p.Domains)(vp_1:Value)(hp_1:SlC F0 vp_1 5 (p.Rules.Pairs.map cP))(vp_2:Value)(hp_2:SlC F0 vp_2 5 (p.Rules.Loads.map cR))(vp_3:Value)(hp_3:SlC F0 vp_3 4 (p.Rules.Caps.map cV))(l:List GChoice)(vl:Value)(hl:SlC F0 vl 2 (l.map cQ))(all:Bool):Calls Tryz.prog 54 #[.agg [vp_0,vp_1,vp_2,vp_3].toArray,vl, .bool all] w fun e w'=>e= .returned (.agg [.int .i64 ((ml p l all).Kind), .int .i64 ((ml p l all).At)].toArray)∧Below w.heap.size w w':=by
 obtain ⟨r,hk⟩:∃r,ml p l all=r:=⟨_,rfl⟩;rw [hk];unfold ml at hk;haveI:=hp_0.1.oneC;haveI:=hp_1.oneC;haveI:=hp_2.oneC;haveI:=hp_3.oneC;haveI:=hl.oneC;obtain ⟨S0,F1,rfl,hS0,hp0⟩:=eY hF0;refine dv Tryz.func54 rfl rfl rfl hp0 ?_;refine iW ?_;rintro _ _ ⟨g3,rfl,rfl⟩;refine gV ?_;rintro _ _ ⟨g6,rfl,rfl⟩;refine i5 ?_;refine dB ?_;have hq:=ek hk;clear hk;obtain ⟨k3,hk3,hk⟩:=hq; (try dsimp only at hk);refine da (ι:=Int×Int) (fun z=>[(1,vl),(3, .pointer (some ⟨g3,0,none⟩)),(6, .pointer (some ⟨g6,0,none⟩))]) (fun z=>[.row g6 107 [.int .i64 z.1, .int .i64 z.2], .row g3 29 [vp_0,vp_1,vp_2,vp_3], .fr F1]) (fun z=>k3 (z.1,z.2)=r) ?_ ?_
 ·have hq:=fB hk;clear hk;obtain ⟨f6,kk6,hf6,hkk6,hk⟩:=hq;refine fj ?_;refine T.loop (ι:=Nat×Int×Int) (fun z=>[(1,vl),(2, .bool all),(3, .pointer (some ⟨g3,0,none⟩)),(6, .pointer (some ⟨g6,0,none⟩)),(7, .int .i64 (z.1:Int))]) (fun z=>[.row g6 107 [.int .i64 z.2.1, .int .i64 z.2.2], .row g3 29 [vp_0,vp_1,vp_2,vp_3], .fr F1]) (fun z=>c8 f6 kk6 (p.Domains.length - z.1) z.1 (z.2.1,z.2.2)=r) (fun z=>p.Domains.length - z.1) (0,0,0) ?_ ?_ ?_ ?_
  ·exact hk
  ·exact mh
  ·exact eW
  ·rintro ⟨i_7,c_4,c_5⟩ hk; (try dsimp only at *);refine kO ?_;refine jZ ?_;refine q2g ?_;have hm15:p.Domains.length≤9223372036854775807:=hp_0.2.1▸hp_0.1.max;refine dB ?_;refine T.cond rfl (fun h8=>?_) (fun h8=>?_)
   ·have p8:=of_decide_eq_true h8;rw [fx a5] at hk;generalize hn6:c8 f6 kk6 (p.Domains.length - (i_7+1)) (i_7+1)=next6 at hk;rw [←hf6] at hk; (try dsimp only at hk);refine q4k ?_;refine q2k ?_;refine cM (dU 2 (i:=i_7) (j:=0) rfl rfl rfl hp_0.1 hp_0.2.1 a5 rfl (GDomain.c0 (hp_0.2.2 i_7 a5))) ?_;refine cW (cN rfl rfl rfl (fun w hw=>zdQ _ w (hw.fr (i:=2) rfl) l vl hl ((cK p.Domains i_7).Station))) ?_;refine jn ?_;refine ly ?_;refine da (ι:=Unit) (fun z=>[(1,vl),(2, .bool all),(3, .pointer (some ⟨g3,0,none⟩)),(6, .pointer (some ⟨g6,0,none⟩)),(7, .int .i64 (i_7:Int)),(46, .bool (((decide ((ie l ((cK p.Domains i_7).Station))=0))&&all)||((decide (¬(ie l ((cK p.Domains i_7).Station))=0))&&(!(dT ((cK p.Domains i_7).Channels) (ie l ((cK p.Domains i_7).Station)))))))]) (fun z=>[.row g6 107 [.int .i64 c_4, .int .i64 c_5], .row g3 29 [vp_0,vp_1,vp_2,vp_3], .fr F1]) (fun z=>True) ?_ ?_
    ·refine m7 ?_;refine dl rfl rfl rfl (fun h9=>?_) (fun h9=>?_)
     ·have p9:=of_decide_eq_true h9;refine eR ?_;refine dl rfl rfl rfl (fun h10=>?_) (fun h10=>?_)
      ·refine TL.run 14 rfl ?_;refine ff ?_;exact cS () trivial (.c (.c (.c (.c (.c (.b (jl (iL h9 h10)).symm .nil)))))) (List.Sublist.refl _)
      ·refine eR ?_;refine dl rfl rfl rfl (fun h11=>?_) (fun h11=>?_)
       ·have p11:=of_decide_eq_true h11;refine q4c ?_;have hd41_1:=(GDomain.c1 (hp_0.2.2 i_7 a5)).2;haveI:=hd41_1.oneC;refine df ?_;refine q2U ?_;exact cS () trivial (.c (.c (.c (.c (.c (.b (Eq.trans (kw h11) (io (iL h9 h10))) .nil)))))) (List.Sublist.refl _)
       ·have p11:=of_decide_eq_false h11;refine TL.run 11 rfl ?_;refine ff ?_;exact cS () trivial (.c (.c (.c (.c (.c (.b (jR (iL h9 h10) (fY h11)).symm .nil)))))) (List.Sublist.refl _)
     ·have p9:=of_decide_eq_false h9;refine TL.run 6 rfl ?_;refine dl rfl rfl rfl (fun h12=>?_) (fun h12=>?_)
      ·have p12:=of_decide_eq_true h12;refine q4c ?_;have hd41_1:=(GDomain.c1 (hp_0.2.2 i_7 a5)).2;haveI:=hd41_1.oneC;refine df ?_;refine q2U ?_;exact cS () trivial (.c (.c (.c (.c (.c (.b (Eq.trans (kw h12) (io (fY h9))) .nil)))))) (List.Sublist.refl _)
      ·have p12:=of_decide_eq_false h12;refine TL.run 11 rfl ?_;refine ff ?_;exact cS () trivial (.c (.c (.c (.c (.c (.b (jR (fY h9) (fY h12)).symm .nil)))))) (List.Sublist.refl _)
    ·rintro _ _;refine T.cond rfl (fun h13=>?_) (fun h13=>?_)
     ·replace hk:=dt hk h13;refine q4g ?_;subst hk;exact q4H
     ·replace hk:=dr hk h13;refine gY ?_;rw [←hn6] at hk;exact K.next ((i_7+1),c_4,c_5) hk a9 (.c (.c (.c (.c (.c .nil))))) (List.Sublist.refl _)
   ·have p8:=of_decide_eq_false h8;rw [fw a5,←hkk6] at hk; (try dsimp only at hk);refine eE ?_;exact cS (c_4,c_5) hk (.c (.c (.c .nil))) (List.Sublist.refl _)
 ·rintro ⟨c_1,c_2⟩ hk; (try dsimp only at *);rw [←hk3] at hk; (try dsimp only at hk);refine ma ?_;have hq:=ek hk;clear hk;obtain ⟨k16,hk16,hk⟩:=hq; (try dsimp only at hk);refine da (ι:=Int×Int) (fun z=>[(1,vl),(3, .pointer (some ⟨g3,0,none⟩)),(6, .pointer (some ⟨g6,0,none⟩))]) (fun z=>[.row g6 107 [.int .i64 z.1, .int .i64 z.2], .row g3 29 [vp_0,vp_1,vp_2,vp_3], .fr F1]) (fun z=>k16 (z.1,z.2)=r) ?_ ?_
  ·have hq:=fB hk;clear hk;obtain ⟨f19,kk19,hf19,hkk19,hk⟩:=hq;refine fj ?_;refine T.loop (ι:=Nat×Int×Int) (fun z=>[(1,vl),(3, .pointer (some ⟨g3,0,none⟩)),(6, .pointer (some ⟨g6,0,none⟩)),(9, .int .i64 (z.1:Int))]) (fun z=>[.row g6 107 [.int .i64 z.2.1, .int .i64 z.2.2], .row g3 29 [vp_0,vp_1,vp_2,vp_3], .fr F1]) (fun z=>c8 f19 kk19 (l.length - z.1) z.1 (z.2.1,z.2.2)=r) (fun z=>l.length - z.1) (0,c_1,c_2) ?_ ?_ ?_ ?_
   ·exact hk
   ·exact m0
   ·exact eW
   ·rintro ⟨i_20,c_17,c_18⟩ hk; (try dsimp only at *);refine kn ?_;refine mX ?_;have hm51:l.length≤9223372036854775807:=(List.length_map _)▸hl.max;refine dB ?_;refine T.cond rfl (fun h21=>?_) (fun h21=>?_)
    ·have p21:=of_decide_eq_true h21;rw [fx a5] at hk;generalize hn19:c8 f19 kk19 (l.length - (i_20+1)) (i_20+1)=next19 at hk;rw [←hf19] at hk; (try dsimp only at hk);refine jQ ?_;refine dM (sN 0 6 (.eff 6 (.still 7 .done))) _ a7 (List.Sublist.refl _) ?_;refine q3G ?_;refine gQ ?_;refine cT rfl (dh (i:=i_20) rfl rfl rfl hl (List.length_map _) rfl a5) ?_;refine q19 ?_;refine cT rfl (ec 2 (i:=i_20) (j:=0) rfl rfl rfl hl a5) ?_;refine dD ?_;refine c6 rfl (Wt.none) rfl rfl (cN rfl rfl rfl (fun w hw=>zbZ _ w (hw.fr (i:=2) rfl) p vp_0 cp_0 hp_0 vp_1 hp_1 vp_2 hp_2 vp_3 hp_3 ((cK l i_20).Station))) ?_;refine jL ?_;refine kG ?_;refine T.cond rfl (fun h22=>?_) (fun h22=>?_)
     ·have p22:=of_decide_eq_true h22;replace hk:=dt hk h22;refine q4g ?_;subst hk;exact q4H
     ·have p22:=of_decide_eq_false h22;replace hk:=dr hk h22;refine gY ?_;rw [←hn19] at hk;exact K.next ((i_20+1),c_17,c_18) hk a9 (.c (.c (.c (.c .nil)))) (List.Sublist.refl _)
    ·have p21:=of_decide_eq_false h21;rw [fw a5,←hkk19] at hk; (try dsimp only at hk);refine eE ?_;exact cS (c_17,c_18) hk (.c (.c (.c .nil))) (List.Sublist.refl _)
  ·rintro ⟨c_14,c_15⟩ hk; (try dsimp only at *);rw [←hk16] at hk; (try dsimp only at hk);refine ma ?_;have hq:=ek hk;clear hk;obtain ⟨k25,hk25,hk⟩:=hq; (try dsimp only at hk);refine da (ι:=Int×Int) (fun z=>[(1,vl),(3, .pointer (some ⟨g3,0,none⟩)),(6, .pointer (some ⟨g6,0,none⟩))]) (fun z=>[.row g6 107 [.int .i64 z.1, .int .i64 z.2], .row g3 29 [vp_0,vp_1,vp_2,vp_3], .fr F1]) (fun z=>k25 (z.1,z.2)=r) ?_ ?_
   ·have hq:=fB hk;clear hk;obtain ⟨f28,kk28,hf28,hkk28,hk⟩:=hq;refine fj ?_;refine T.loop (ι:=Nat×Int×Int) (fun z=>[(1,vl),(3, .pointer (some ⟨g3,0,none⟩)),(6, .pointer (some ⟨g6,0,none⟩)),(10, .int .i64 (z.1:Int))]) (fun z=>[.row g6 107 [.int .i64 z.2.1, .int .i64 z.2.2], .row g3 29 [vp_0,vp_1,vp_2,vp_3], .fr F1]) (fun z=>c8 f28 kk28 (p.Rules.Pairs.length - z.1) z.1 (z.2.1,z.2.2)=r) (fun z=>p.Rules.Pairs.length - z.1) (0,c_14,c_15) ?_ ?_ ?_ ?_
    ·exact hk
    ·exact m0
    ·exact eW
    ·rintro ⟨i_29,c_26,c_27⟩ hk; (try dsimp only at *);refine kO ?_;refine fC ?_;refine jZ ?_;refine cM (dg rfl rfl hp_1 (List.length_map _)) ?_;have hm69:p.Rules.Pairs.length≤9223372036854775807:=(List.length_map _)▸hp_1.max;refine dB ?_;refine T.cond rfl (fun h30=>?_) (fun h30=>?_)
     ·have p30:=of_decide_eq_true h30;rw [fx a5] at hk;generalize hn28:c8 f28 kk28 (p.Rules.Pairs.length - (i_29+1)) (i_29+1)=next28 at hk;rw [←hf28] at hk; (try dsimp only at hk);refine fS ?_;refine fC ?_;refine jZ ?_;refine df ?_;refine cM (dh (i:=i_29) rfl rfl rfl hp_1 (List.length_map _) rfl a5) ?_;refine cM (ef 2 (i:=i_29) rfl rfl rfl hp_1 a5) ?_;refine df ?_;refine cW (cN rfl rfl rfl (fun w hw=>zfD _ w (hw.fr (i:=2) rfl) (cK p.Rules.Pairs i_29) l vl hl)) ?_;refine q3W ?_;refine T.cond rfl (fun h31=>?_) (fun h31=>?_)
      ·replace hk:=dt hk h31;refine q4g ?_;subst hk;exact q4H
      ·replace hk:=dr hk h31;refine gY ?_;rw [←hn28] at hk;exact K.next ((i_29+1),c_26,c_27) hk a9 (.c (.c (.c (.c .nil)))) (List.Sublist.refl _)
     ·have p30:=of_decide_eq_false h30;rw [fw a5,←hkk28] at hk; (try dsimp only at hk);refine eE ?_;exact cS (c_26,c_27) hk (.c (.c (.c .nil))) (List.Sublist.refl _)
   ·rintro ⟨c_23,c_24⟩ hk; (try dsimp only at *);rw [←hk25] at hk; (try dsimp only at hk);refine ma ?_;have hq:=ek hk;clear hk;obtain ⟨k34,hk34,hk⟩:=hq; (try dsimp only at hk);refine da (ι:=Int×Int) (fun z=>[(6, .pointer (some ⟨g6,0,none⟩))]) (fun z=>[.row g6 107 [.int .i64 z.1, .int .i64 z.2], .fr F1]) (fun z=>k34 (z.1,z.2)=r) ?_ ?_
    ·have hq:=fB hk;clear hk;obtain ⟨f37,kk37,hf37,hkk37,hk⟩:=hq;refine fj ?_;refine T.loop (ι:=Nat×Int×Int) (fun z=>[(1,vl),(3, .pointer (some ⟨g3,0,none⟩)),(6, .pointer (some ⟨g6,0,none⟩)),(11, .int .i64 (z.1:Int))]) (fun z=>[.row g6 107 [.int .i64 z.2.1, .int .i64 z.2.2], .row g3 29 [vp_0,vp_1,vp_2,vp_3], .fr F1]) (fun z=>c8 f37 kk37 (p.Rules.Caps.length - z.1) z.1 (z.2.1,z.2.2)=r) (fun z=>p.Rules.Caps.length - z.1) (0,c_23,c_24) ?_ ?_ ?_ ?_
     ·exact hk
     ·exact m0
     ·exact eW
     ·rintro ⟨i_38,c_35,c_36⟩ hk; (try dsimp only at *);refine kO ?_;refine fC ?_;refine jZ ?_;refine cM (dg rfl rfl hp_3 (List.length_map _)) ?_;have hm87:p.Rules.Caps.length≤9223372036854775807:=(List.length_map _)▸hp_3.max;refine dB ?_;refine T.cond rfl (fun h39=>?_) (fun h39=>?_)
      ·have p39:=of_decide_eq_true h39;rw [fx a5] at hk;generalize hn37:c8 f37 kk37 (p.Rules.Caps.length - (i_38+1)) (i_38+1)=next37 at hk;rw [←hf37] at hk; (try dsimp only at hk);refine jQ ?_;refine dM (sN 0 8 (.eff 8 .done)) _ a7 (List.Sublist.refl _) ?_;refine q3G ?_;refine gr ?_;refine q11 ?_;refine cT rfl (dh (i:=i_38) rfl rfl rfl hp_3 (List.length_map _) rfl a5) ?_;refine cT rfl (ef 2 (i:=i_38) rfl rfl rfl hp_3 a5) ?_;refine fF ?_;refine dD ?_;refine c6 rfl (Wt.none) rfl rfl (cN rfl rfl rfl (fun w hw=>zf6 _ w (hw.fr (i:=2) rfl) p vp_0 cp_0 hp_0 vp_1 hp_1 vp_2 hp_2 vp_3 hp_3 (cK p.Rules.Caps i_38) l vl hl)) ?_;refine jL ?_;refine fQ ?_;refine K.seq ?_;refine T.cond rfl (fun h40=>?_) (fun h40=>?_)
       ·replace hk:=dt hk h40;refine q4g ?_;subst hk;exact q4H
       ·replace hk:=dr hk h40;refine gY ?_;rw [←hn37] at hk;exact K.next ((i_38+1),c_35,c_36) hk a9 (.c (.c (.c (.c .nil)))) (List.Sublist.refl _)
      ·have p39:=of_decide_eq_false h39;rw [fw a5,←hkk37] at hk; (try dsimp only at hk);refine eE ?_;refine K.pick [0,2] rfl a6 ?_;exact cS (c_35,c_36) hk (.c .nil) (List.Sublist.refl _)
    ·rintro ⟨c_32,c_33⟩ hk; (try dsimp only at *);rw [←hk34] at hk; (try dsimp only at hk);refine q4p ?_;refine j5 ?_;refine gH ?_;subst hk;exact q4H
def lI (p:GProblem)(l:List GChoice):Bool:=
 ((zbj l)&&(decide ((ml p l true).Kind=0)&&decide ((ml p l true).At=0)))
theorem zeq (F0:Frz)(w:World)(hF0:F0.At w)(p:GProblem)(vp_0:Value)(cp_0:List (List Value))(hp_0:SlD cL F0 vp_0 2 cp_0 p.Domains)(vp_1:Value)(hp_1:SlC F0 vp_1 5 (p.Rules.Pairs.map cP))(vp_2:Value)(hp_2:SlC F0 vp_2 5 (p.Rules.Loads.map cR))(vp_3:Value)(hp_3:SlC F0 vp_3 4 (p.Rules.Caps.map cV))(l:List GChoice)(vl:Value)(hl:SlC F0 vl 2 (l.map cQ)):Calls Tryz.prog 24 #[.agg [vp_0,vp_1,vp_2,vp_3].toArray,vl] w fun e w'=>e= .returned (.bool (lI p l))∧Below w.heap.size w w':=by
 obtain ⟨r,hk⟩:∃r,lI p l=r:=⟨_,rfl⟩;rw [hk];unfold lI at hk;haveI:=hp_0.1.oneC;haveI:=hp_1.oneC;haveI:=hp_2.oneC;haveI:=hp_3.oneC;haveI:=hl.oneC;obtain ⟨S0,F1,rfl,hS0,hp0⟩:=eY hF0;refine dv Tryz.func24 rfl rfl rfl hp0 ?_;refine iW ?_;rintro _ _ ⟨g2,rfl,rfl⟩;refine kq ?_;refine da (ι:=Unit) (fun z=>[(4, .bool ((zbj l)&&(decide ((ml p l true).Kind=0)&&decide ((ml p l true).At=0))))]) (fun z=>[.row g2 29 [vp_0,vp_1,vp_2,vp_3], .fr F1]) (fun z=>True) ?_ ?_
 ·refine iV ?_;refine cW (cN rfl rfl rfl (fun w hw=>zfO _ w (hw.fr (i:=1) rfl) l vl hl)) ?_;refine jn ?_;refine dl rfl rfl rfl (fun h1=>?_) (fun h1=>?_)
  ·refine iv ?_;refine df ?_;refine cW (cN rfl rfl rfl (fun w hw=>zin _ w (hw.fr (i:=1) rfl) p vp_0 cp_0 hp_0 vp_1 hp_1 vp_2 hp_2 vp_3 hp_3 l vl hl true)) ?_;refine eX ?_;refine ll ?_;refine cM (Yv.cA a7 rfl rfl rfl) ?_;refine eg ?_;refine ff ?_;exact q4D
  ·refine TL.run 7 rfl ?_;refine ff ?_;exact q4E
 ·refine mS ?_;subst hk;exact eh
def zdC (l:List GChoice)(stations:List Int):Option (List GChoice):=
 dJ (fun (out_1:List GChoice)=>
  some out_1)
 (fun k2=>
  c8 (fun (i_5:Nat) (next4:List GChoice→Option (List GChoice)) (out_3:List GChoice)=>
   (bif (dT stations ((cK l i_5).Station)) then
    ey (dn (out_3++[(cK l i_5)]).length 16) <|
    next4 (out_3++[(cK l i_5)])
    else
    next4 out_3))
  (fun (out_3:List GChoice)=>
   k2 out_3) (l.length - 0) 0 [])
theorem zi6 (F0:Frz)(w:World)(hF0:F0.At w)(l:List GChoice)(vl:Value)(hl:SlC F0 vl 2 (l.map cQ))(stations:List Int)(vstations:Value)(hstations:SlC F0 vstations 1 (stations.map eI))(r:List GChoice)(hr:zdC l stations=some r):Calls Tryz.prog 25 #[vl,vstations] w fun e w'=>∃(y:Value) (G:Frz),(SlC G y 2 (r.map cQ))∧e= .returned (y)∧Fx F0 w G w':=by
 have hk:=hr;unfold zdC at hk;haveI:=hl.oneC;haveI:=hstations.oneC;obtain ⟨S0,F1,rfl,hS0,hp0⟩:=eY hF0;refine dv Tryz.func25 rfl rfl rfl hp0 ?_;refine gu ?_;refine j9 ?_;refine TL.slNil 68 2 ?_;refine i5 ?_;refine dB ?_;have hq:=ek hk;clear hk;obtain ⟨k2,hk2,hk⟩:=hq; (try dsimp only at hk);refine da (ι:=List GChoice×Value) (fun z=>[(5,z.2)]) (fun z=>[.sl z.2 68 2 z.1.length (z.1.flatMap cQ), .fr F1]) (fun z=>k2 z.1=some r∧OneC z.2) ?_ ?_
 ·have hq:=fB hk;clear hk;obtain ⟨f4,kk4,hf4,hkk4,hk⟩:=hq;refine fj ?_;refine T.loop (ι:=Nat×List GChoice×Value) (fun z=>[(0,vl),(1,vstations),(5,z.2.2),(6, .int .i64 (z.1:Int))]) (fun z=>[.sl z.2.2 68 2 z.2.1.length (z.2.1.flatMap cQ), .fr F1]) (fun z=>c8 f4 kk4 (l.length - z.1) z.1 z.2.1=some r∧OneC z.2.2) (fun z=>l.length - z.1) (0,[],(.slice none 0 0)) ?_ ?_ ?_ ?_
  ·exact q4B
  ·exact m0
  ·exact eW
  ·rintro ⟨i_5,out_3,vout_3⟩ ⟨hk,oout_3⟩; (try dsimp only at *);refine kn ?_;refine mX ?_;have hm9:l.length≤9223372036854775807:=(List.length_map _)▸hl.max;refine dB ?_;refine T.cond rfl (fun h6=>?_) (fun h6=>?_)
   ·have p6:=of_decide_eq_true h6;rw [fx a5] at hk;generalize hn4:c8 f4 kk4 (l.length - (i_5+1)) (i_5+1)=next4 at hk;rw [←hf4] at hk; (try dsimp only at hk);refine fS ?_;refine eR ?_;refine cM (dh (i:=i_5) rfl rfl rfl hl (List.length_map _) rfl a5) ?_;refine cM (gj rfl rfl hl (List.length_map _) a5) ?_;refine cM (ec 1 (i:=i_5) (j:=0) rfl rfl rfl hl a5) ?_;refine cW (cN rfl rfl rfl (fun w hw=>zbH _ w (hw.fr (i:=1) rfl) stations vstations hstations ((cK l i_5).Station))) ?_;refine q3W ?_;refine T.cond rfl (fun h7=>?_) (fun h7=>?_)
    ·replace hk:=dt hk h7;have hq:(dn (out_3++[(cK l i_5)]).length 16)∧_:=gg hk;clear hk;obtain ⟨g26,hk⟩:=hq; (try dsimp only at hk);refine m7 ?_;refine cM (dh (i:=i_5) rfl rfl rfl hl (List.length_map _) rfl a5) ?_;refine cM (ef 1 (i:=i_5) rfl rfl rfl hl a5) ?_;refine jW ?_;rintro _ _ ⟨g25,rfl,rfl⟩;refine cW (fM 1 0 rfl rfl rfl rfl rfl rfl (kS (ys:=[(cK l i_5)])) (ni (enc:=cQ) (xs:=out_3) (ys:=[(cK l i_5)])) g26 a6) ?_;rintro v26 _ ⟨hv26,rfl⟩;refine df ?_;refine q2H ?_;rw [←hn4] at hk;refine K.pick [1,2] rfl a6 ?_;exact K.next ((i_5+1),(out_3++[(cK l i_5)]),v26) ⟨hk,inferInstance⟩ a9 (.c (.c (.c (.c .nil)))) (List.Sublist.refl _)
    ·replace hk:=dr hk h7;refine gY ?_;rw [←hn4] at hk;exact K.next ((i_5+1),out_3,vout_3) ⟨hk,inferInstance⟩ a9 (.c (.c (.c (.c .nil)))) (List.Sublist.refl _)
   ·have p6:=of_decide_eq_false h6;rw [fw a5,←hkk4] at hk; (try dsimp only at hk);refine eE ?_;exact cS (out_3,vout_3) ⟨hk,inferInstance⟩ (.c .nil) (List.Sublist.refl _)
 ·rintro ⟨out_1,vout_1⟩ ⟨hk,oout_1⟩; (try dsimp only at *);rw [←hk2] at hk; (try dsimp only at hk);refine jO ?_;refine gH ?_;refine jg (fun w hw=>hw.freezeS (i:=1) (j:=0) a6 rfl rfl) ?_;rintro F2 ⟨le1_2,hz2⟩;refine iX ?_;have hf2:=hz2.toF rfl GChoice.len;haveI:=hf2.oneC;obtain rfl:=Option.some.inj hk;exact cZ rfl rfl (fun w' hw=>⟨vout_1,F2.toFrz,hf2,rfl,fT hw (i:=0) rfl hS0 le1_2⟩)
def zcG (fuel:Nat)(p:GProblem)(domains:Int)(rules:Int):Option Bool:=
 dJ (fun (_:Unit)=>
  some ((((decide ((p.Domains.length:Int)≤domains))&&(decide ((p.Rules.Pairs.length:Int)≤rules)))&&(decide ((p.Rules.Loads.length:Int)≤rules)))&&(decide ((p.Rules.Caps.length:Int)≤rules))))
 (fun k1=>
  jP (fun (next3:Int→Option Bool) (i_2:Int)=>
   (bif ((decide (i_2<(p.Domains.length:Int)))&&(decide (i_2<600))) then
    ey (0≤i_2∧i_2<(p.Domains.length:Int)) <|
    (bif decide (60<(((cK p.Domains i_2.toNat).Channels).length:Int)) then
     some false
     else
     next3 (i_2+1))
    else
    k1 ())) fuel 0)
theorem zir (F0:Frz)(w:World)(hF0:F0.At w)(p:GProblem)(vp_0:Value)(cp_0:List (List Value))(hp_0:SlD cL F0 vp_0 2 cp_0 p.Domains)(vp_1:Value)(hp_1:SlC F0 vp_1 5 (p.Rules.Pairs.map cP))(vp_2:Value)(hp_2:SlC F0 vp_2 5 (p.Rules.Loads.map cR))(vp_3:Value)(hp_3:SlC F0 vp_3 4 (p.Rules.Caps.map cV))(domains:Int)(rules:Int)(fuel:Nat)(r:Bool)(hr:zcG fuel p domains rules=some r):Calls Tryz.prog 32 #[.agg [vp_0,vp_1,vp_2,vp_3].toArray, .int .i64 domains, .int .i64 rules] w fun e w'=>e= .returned (.bool r)∧Below w.heap.size w w':=by
 have hk:=hr;unfold zcG at hk;haveI:=hp_0.1.oneC;haveI:=hp_1.oneC;haveI:=hp_2.oneC;haveI:=hp_3.oneC;obtain ⟨S0,F1,rfl,hS0,hp0⟩:=eY hF0;refine dv Tryz.func32 rfl rfl rfl hp0 ?_;refine iW ?_;rintro _ _ ⟨g3,rfl,rfl⟩;refine jN ?_;refine dB ?_;have hq:=ek hk;clear hk;obtain ⟨k1,hk1,hk⟩:=hq; (try dsimp only at hk);refine da (ι:=Unit) (fun z=>[(1, .int .i64 domains),(2, .int .i64 rules),(3, .pointer (some ⟨g3,0,none⟩))]) (fun z=>[.row g3 29 [vp_0,vp_1,vp_2,vp_3], .fr F1]) (fun z=>k1 ()=some r) ?_ ?_
 ·have hq:=zd0 hk;clear hk;obtain ⟨f3,hf3,hk⟩:=hq;refine fj ?_;refine T.loop (ι:=Nat×Int) (fun z=>[(1, .int .i64 domains),(2, .int .i64 rules),(3, .pointer (some ⟨g3,0,none⟩)),(7, .int .i64 z.2)]) (fun z=>[.row g3 29 [vp_0,vp_1,vp_2,vp_3], .fr F1]) (fun z=>jP f3 z.1 z.2=some r) (fun z=>z.1) (fuel,0) ?_ ?_ ?_ ?_
  ·exact hk
  ·exact m0
  ·exact eW
  ·rintro ⟨m_4,i_2⟩ hk; (try dsimp only at *);have hq:=zeW hk;clear hk;obtain ⟨m_4',rfl,hk⟩:=hq;generalize hn3:jP f3 m_4'=next3 at hk;rw [←hf3] at hk; (try dsimp only at hk);refine T.seq (T.seq ?_);refine da (ι:=Unit) (fun z=>[(1, .int .i64 domains),(2, .int .i64 rules),(3, .pointer (some ⟨g3,0,none⟩)),(7, .int .i64 i_2),(16, .bool ((decide (i_2<(p.Domains.length:Int)))&&(decide (i_2<600))))]) (fun z=>[.row g3 29 [vp_0,vp_1,vp_2,vp_3], .fr F1]) (fun z=>True) ?_ ?_
   ·refine iV ?_;refine ei ?_;refine q2g ?_;have hm11:p.Domains.length≤9223372036854775807:=hp_0.2.1▸hp_0.1.max;refine eg ?_;refine dl rfl rfl rfl (fun h5=>?_) (fun h5=>?_)
    ·have p5:=of_decide_eq_true h5;refine eR ?_;refine ff ?_;exact cS () trivial (.c (.c (.c (.c (.b (kw h5) .nil))))) (List.Sublist.refl _)
    ·have p5:=of_decide_eq_false h5;refine eR ?_;refine ff ?_;exact cS () trivial (.c (.c (.c (.c (.b (fY h5).symm .nil))))) (List.Sublist.refl _)
   ·rintro _ _;have hm11:p.Domains.length≤9223372036854775807:=hp_0.2.1▸hp_0.1.max;refine T.cond rfl (fun h6=>?_) (fun h6=>?_)
    ·have p6:=h6; (try simp only [cY] at p6);replace hk:=dt hk h6;refine jQ ?_;have hq:(0≤i_2∧i_2<(p.Domains.length:Int))∧_:=gg hk;clear hk;obtain ⟨g22,hk⟩:=hq; (try dsimp only at hk);refine mw ?_;refine df ?_;refine cM (dh (i:=i_2.toNat) rfl rfl rfl hp_0.1 hp_0.2.1 a5 a5) ?_;refine cM (gj rfl rfl hp_0.1 hp_0.2.1 a5) ?_;refine cM (dU 1 (i:=i_2.toNat) (j:=1) rfl rfl rfl hp_0.1 hp_0.2.1 a5 rfl (GDomain.c1 (hp_0.2.2 i_2.toNat a5)).1) ?_;have hd24_1:=(GDomain.c1 (hp_0.2.2 i_2.toNat a5)).2;haveI:=hd24_1.oneC;refine cM (dg rfl rfl hd24_1 (List.length_map _)) ?_;have hm25:((cK p.Domains i_2.toNat).Channels).length≤9223372036854775807:=(List.length_map _)▸hd24_1.max;refine dB ?_;refine T.cond rfl (fun h7=>?_) (fun h7=>?_)
     ·have p7:=of_decide_eq_true h7;replace hk:=dt hk h7;refine i2 ?_;obtain rfl:=Option.some.inj hk;exact eh
     ·have p7:=of_decide_eq_false h7;replace hk:=dr hk h7;refine gY ?_;rw [←hn3] at hk;exact K.next (m_4',(i_2+1)) hk a9 (.c (.c (.c (.c .nil)))) (List.Sublist.refl _)
    ·replace hk:=dr hk h6;refine eE ?_;exact cS () hk (.c (.c (.c .nil))) (List.Sublist.refl _)
 ·rintro _ hk;rw [←hk1] at hk; (try dsimp only at hk);refine T.seq ?_;refine da (ι:=Unit) (fun z=>[(6, .bool ((((decide ((p.Domains.length:Int)≤domains))&&(decide ((p.Rules.Pairs.length:Int)≤rules)))&&(decide ((p.Rules.Loads.length:Int)≤rules)))&&(decide ((p.Rules.Caps.length:Int)≤rules))))]) (fun z=>[.row g3 29 [vp_0,vp_1,vp_2,vp_3], .fr F1]) (fun z=>True) ?_ ?_
  ·refine mw ?_;refine q2g ?_;have hm29:p.Domains.length≤9223372036854775807:=hp_0.2.1▸hp_0.1.max;refine eR ?_;refine dl rfl rfl rfl (fun h8=>?_) (fun h8=>?_)
   ·have p8:=of_decide_eq_true h8;refine fC ?_;refine ei ?_;refine cM (dg rfl rfl hp_1 (List.length_map _)) ?_;have hm36:p.Rules.Pairs.length≤9223372036854775807:=(List.length_map _)▸hp_1.max;refine lC ?_;refine dl rfl rfl rfl (fun h9=>?_) (fun h9=>?_)
    ·have p9:=of_decide_eq_true h9;refine q38 ?_;have hm44:p.Rules.Loads.length≤9223372036854775807:=(List.length_map _)▸hp_2.max;refine lC ?_;refine dl rfl rfl rfl (fun h10=>?_) (fun h10=>?_)
     ·have p10:=of_decide_eq_true h10;refine fC ?_;refine ei ?_;refine cM (dg rfl rfl hp_3 (List.length_map _)) ?_;have hm52:p.Rules.Caps.length≤9223372036854775807:=(List.length_map _)▸hp_3.max;refine kX ?_;exact cS () trivial (.b (kw (iL (iL h8 h9) h10)) .nil) (List.Sublist.refl _)
     ·have p10:=of_decide_eq_false h10;refine TL.run 8 rfl ?_;refine ff ?_;exact cS () trivial (.b (fY (iL (iL h8 h9) h10)).symm .nil) (List.Sublist.refl _)
    ·have p9:=of_decide_eq_false h9;refine TL.run 16 rfl ?_;refine ff ?_;exact cS () trivial (.b (fY (fY (iL h8 h9))).symm .nil) (List.Sublist.refl _)
   ·have p8:=of_decide_eq_false h8;refine TL.run 24 rfl ?_;refine ff ?_;exact cS () trivial (.b (fY (fY (fY h8))).symm .nil) (List.Sublist.refl _)
  ·rintro _ _;have hm29:p.Domains.length≤9223372036854775807:=hp_0.2.1▸hp_0.1.max;have hm36:p.Rules.Pairs.length≤9223372036854775807:=(List.length_map _)▸hp_1.max;have hm44:p.Rules.Loads.length≤9223372036854775807:=(List.length_map _)▸hp_2.max;have hm52:p.Rules.Caps.length≤9223372036854775807:=(List.length_map _)▸hp_3.max;refine T.ret ?_;obtain rfl:=Option.some.inj hk;exact eh
def cJ (F:Frz)(c:List Value)(x:List GChoice):Prop:=∃(v0:Value),c=[v0]∧SlC F v0 2 (x.map cQ)
theorem R_List_GChoice.mono {F G:Frz}{c:List Value}{x:List GChoice}(hle:F.Le G)(h:cJ F c x):cJ G c x:=by
 obtain ⟨v0,h0,h1⟩:=h;exact ⟨v0,h0,h1.mono hle⟩
theorem R_List_GChoice.len {F:Frz}{c:List Value}{x:List GChoice}(h:cJ F c x):c.length=1:=by
 obtain ⟨v0,h0,h1⟩:=h;subst h0;rfl
theorem R_List_GChoice.one {F:Frz}{c:List Value}{x:List GChoice}(h:cJ F c x):OneCs c:=by
 obtain ⟨v0,h0,h1⟩:=h;subst h0;haveI:=h1.oneC
 infer_instance
theorem R_List_GChoice.c0 {F:Frz}{c:List Value}{x:List GChoice}(h:cJ F c x):c[0]?=some (cK c 0)∧SlC F (cK c 0) 2 (x.map cQ):=by
 obtain ⟨v0,h0,h1⟩:=h;subst h0;exact ⟨rfl,h1⟩
theorem lk {F:Frz}{c:List Value}{x:List GChoice}(h:cJ F c x):(c.drop 0).take 1=[cK c 0]:=by
 obtain ⟨v0,h0,h1⟩:=h;subst h0;rfl
def zci (a:List (List GChoice))(b:List (List GChoice)):Bool:=
 (bif decide (¬(a.length:Int)=(b.length:Int)) then
  false
  else
  dJ (fun (_:Unit)=>
   true)
  (fun k2=>
   c8 (fun (i_4:Nat) (next3:Unit→Bool) (_:Unit)=>
    (bif !(zbL (cK a i_4) (cK b i_4)) then
     false
     else
     next3 ()))
   (fun (_:Unit)=>
    k2 ()) (a.length - 0) 0 ()))
theorem zjs (F0:Frz)(w:World)(hF0:F0.At w)(a:List (List GChoice))(va:Value)(ca:List (List Value))(ha:SlD cJ F0 va 1 ca a)(b:List (List GChoice))(vb:Value)(cb:List (List Value))(hb:SlD cJ F0 vb 1 cb b):Calls Tryz.prog 53 #[va,vb] w fun e w'=>e= .returned (.bool (zci a b))∧Below w.heap.size w w':=by
 obtain ⟨r,hk⟩:∃r,zci a b=r:=⟨_,rfl⟩;rw [hk];unfold zci at hk;haveI:=ha.1.oneC;haveI:=hb.1.oneC;obtain ⟨S0,F1,rfl,hS0,hp0⟩:=eY hF0;refine dv Tryz.func53 rfl rfl rfl hp0 ?_;refine ju ?_;refine cM (dg rfl rfl ha.1 ha.2.1) ?_;have hm7:a.length≤9223372036854775807:=ha.2.1▸ha.1.max;refine df ?_;refine cM (dg rfl rfl hb.1 hb.2.1) ?_;have hm9:b.length≤9223372036854775807:=hb.2.1▸hb.1.max;refine dB ?_;refine T.cond rfl (fun h1=>?_) (fun h1=>?_)
 ·have p1:=of_decide_eq_true h1;replace hk:=dt hk h1;refine iN ?_;subst hk;exact eh
 ·have p1:=of_decide_eq_false h1;replace hk:=dr hk h1;refine ka ?_;refine dB ?_;have hq:=ek hk;clear hk;obtain ⟨k2,hk2,hk⟩:=hq; (try dsimp only at hk);refine da (ι:=Unit) (fun z=>[]) (fun z=>[.fr F1]) (fun z=>k2 ()=r) ?_ ?_
  ·have hq:=fB hk;clear hk;obtain ⟨f3,kk3,hf3,hkk3,hk⟩:=hq;refine fj ?_;refine T.loop (ι:=Nat) (fun z=>[(0,va),(1,vb),(5, .int .i64 (z:Int))]) (fun z=>[.fr F1]) (fun z=>c8 f3 kk3 (a.length - z) z ()=r) (fun z=>a.length - z) 0 ?_ ?_ ?_ ?_
   ·exact hk
   ·exact nA
   ·exact eW
   ·rintro i_4 hk;refine kn ?_;refine cM (dg rfl rfl ha.1 ha.2.1) ?_;refine dB ?_;refine T.cond rfl (fun h5=>?_) (fun h5=>?_)
    ·have p5:=of_decide_eq_true h5;rw [fx a5] at hk;generalize hn3:c8 f3 kk3 (a.length - (i_4+1)) (i_4+1)=next3 at hk;rw [←hf3] at hk; (try dsimp only at hk);refine q3u ?_;refine gQ ?_;refine cT rfl (dh (i:=i_4) rfl rfl rfl ha.1 ha.2.1 rfl a5) ?_;refine cT rfl (dU 0 (i:=i_4) (j:=0) rfl rfl rfl ha.1 ha.2.1 a5 rfl (R_List_GChoice.c0 (ha.2.2 i_4 a5)).1) ?_;have hd20_0:=(R_List_GChoice.c0 (ha.2.2 i_4 a5)).2;haveI:=hd20_0.oneC;refine gQ ?_;refine cT rfl (dh (i:=i_4) rfl rfl rfl hb.1 hb.2.1 rfl a5) ?_;refine cT rfl (dU 0 (i:=i_4) (j:=0) rfl rfl rfl hb.1 hb.2.1 a5 rfl (R_List_GChoice.c0 (hb.2.2 i_4 a5)).1) ?_;have hd24_0:=(R_List_GChoice.c0 (hb.2.2 i_4 a5)).2;haveI:=hd24_0.oneC;refine dD ?_;refine c6 rfl (Wt.none) rfl rfl (cN rfl rfl rfl (fun w hw=>zgo _ w (hw.fr (i:=0) rfl) (cK a i_4) (cK (cK ca i_4) 0) hd20_0 (cK b i_4) (cK (cK cb i_4) 0) hd24_0)) ?_;refine jL ?_;refine kG ?_;refine T.cond rfl (fun h6=>?_) (fun h6=>?_)
     ·replace hk:=dt hk h6;refine i2 ?_;subst hk;exact eh
     ·replace hk:=dr hk h6;refine gY ?_;rw [←hn3] at hk;exact q4V
    ·have p5:=of_decide_eq_false h5;rw [fw a5,←hkk3] at hk; (try dsimp only at hk);refine eE ?_;exact lv
  ·rintro _ hk;rw [←hk2] at hk; (try dsimp only at hk);refine kE ?_;subst hk;exact eh
def zcC (fuel:Nat)(l:List (List GChoice))(most:Int):Option Bool:=
 dJ (fun (_:Unit)=>
  some (decide ((l.length:Int)≤most)))
 (fun k1=>
  jP (fun (next3:Int→Option Bool) (i_2:Int)=>
   (bif ((decide (i_2<(l.length:Int)))&&(decide (i_2≤most))) then
    ey (0≤i_2∧i_2<(l.length:Int)) <|
    (bif decide (20<((cK l i_2.toNat).length:Int)) then
     some false
     else
     next3 (i_2+1))
    else
    k1 ())) fuel 0)
theorem zh6 (F0:Frz)(w:World)(hF0:F0.At w)(l:List (List GChoice))(vl:Value)(cl:List (List Value))(hl:SlD cJ F0 vl 1 cl l)(most:Int)(fuel:Nat)(r:Bool)(hr:zcC fuel l most=some r):Calls Tryz.prog 57 #[vl, .int .i64 most] w fun e w'=>e= .returned (.bool r)∧Below w.heap.size w w':=by
 have hk:=hr;unfold zcC at hk;haveI:=hl.1.oneC;obtain ⟨S0,F1,rfl,hS0,hp0⟩:=eY hF0;refine dv Tryz.func57 rfl rfl rfl hp0 ?_;refine q3v ?_;have hq:=ek hk;clear hk;obtain ⟨k1,hk1,hk⟩:=hq; (try dsimp only at hk);refine da (ι:=Unit) (fun z=>[(0,vl),(1, .int .i64 most)]) (fun z=>[.fr F1]) (fun z=>k1 ()=some r) ?_ ?_
 ·have hq:=zd0 hk;clear hk;obtain ⟨f3,hf3,hk⟩:=hq;refine fj ?_;refine T.loop (ι:=Nat×Int) (fun z=>[(0,vl),(1, .int .i64 most),(5, .int .i64 z.2)]) (fun z=>[.fr F1]) (fun z=>jP f3 z.1 z.2=some r) (fun z=>z.1) (fuel,0) ?_ ?_ ?_ ?_
  ·exact hk
  ·exact nA
  ·exact eW
  ·rintro ⟨m_4,i_2⟩ hk; (try dsimp only at *);have hq:=zeW hk;clear hk;obtain ⟨m_4',rfl,hk⟩:=hq;generalize hn3:jP f3 m_4'=next3 at hk;rw [←hf3] at hk; (try dsimp only at hk);refine T.seq (T.seq ?_);refine da (ι:=Unit) (fun z=>[(0,vl),(1, .int .i64 most),(5, .int .i64 i_2),(14, .bool ((decide (i_2<(l.length:Int)))&&(decide (i_2≤most))))]) (fun z=>[.fr F1]) (fun z=>True) ?_ ?_
   ·refine ji ?_;refine cM (dg rfl rfl hl.1 hl.2.1) ?_;have hm8:l.length≤9223372036854775807:=hl.2.1▸hl.1.max;refine eg ?_;refine dl rfl rfl rfl (fun h5=>?_) (fun h5=>?_)
    ·have p5:=of_decide_eq_true h5;refine kX ?_;exact cS () trivial (.c (.c (.c (.b (kw h5) .nil)))) (List.Sublist.refl _)
    ·have p5:=of_decide_eq_false h5;refine kX ?_;exact cS () trivial (.c (.c (.c (.b (fY h5).symm .nil)))) (List.Sublist.refl _)
   ·rintro _ _;have hm8:l.length≤9223372036854775807:=hl.2.1▸hl.1.max;refine T.cond rfl (fun h6=>?_) (fun h6=>?_)
    ·have p6:=h6; (try simp only [cY] at p6);replace hk:=dt hk h6;refine jQ ?_;have hq:(0≤i_2∧i_2<(l.length:Int))∧_:=gg hk;clear hk;obtain ⟨g19,hk⟩:=hq; (try dsimp only at hk);refine ji ?_;refine cM (dh (i:=i_2.toNat) rfl rfl rfl hl.1 hl.2.1 a5 a5) ?_;refine cM (dU 0 (i:=i_2.toNat) (j:=0) rfl rfl rfl hl.1 hl.2.1 a5 rfl (R_List_GChoice.c0 (hl.2.2 i_2.toNat a5)).1) ?_;have hd20_0:=(R_List_GChoice.c0 (hl.2.2 i_2.toNat a5)).2;haveI:=hd20_0.oneC;refine cM (dg rfl rfl hd20_0 (List.length_map _)) ?_;have hm21:(cK l i_2.toNat).length≤9223372036854775807:=(List.length_map _)▸hd20_0.max;refine dB ?_;refine T.cond rfl (fun h7=>?_) (fun h7=>?_)
     ·have p7:=of_decide_eq_true h7;replace hk:=dt hk h7;refine i2 ?_;obtain rfl:=Option.some.inj hk;exact eh
     ·have p7:=of_decide_eq_false h7;replace hk:=dr hk h7;refine gY ?_;rw [←hn3] at hk;exact K.next (m_4',(i_2+1)) hk a9 (.c (.c (.c .nil))) (List.Sublist.refl _)
    ·replace hk:=dr hk h6;refine eE ?_;exact cS () hk (.c (.c .nil)) (List.Sublist.refl _)
 ·rintro _ hk;rw [←hk1] at hk; (try dsimp only at hk);refine gu ?_;refine cM (dg rfl rfl hl.1 hl.2.1) ?_;have hm24:l.length≤9223372036854775807:=hl.2.1▸hl.1.max;refine eR ?_;refine gH ?_;obtain rfl:=Option.some.inj hk;exact eh
theorem zlC (F0:Frz)(w:World)(hF0:F0.At w)(l:List GChoice)(vl:Value)(hl:SlC F0 vl 2 (l.map cQ))(hr:dn l.length 16):Calls Tryz.prog 50 #[vl] w fun e w'=>∃v':Value,True∧e= .returned v'∧Hp w (fun _=>False) [.sl v' 68 2 l.length (l.flatMap cQ)] w':=by
 haveI:=hl.oneC;have hl0:=hl;obtain ⟨A,cap,hv,hlc,hcm,hcl,hcs⟩:=hl0;have hlen:(l.map cQ).length=l.length:=List.length_map _;obtain ⟨S0,F1,hF1,hS0,hp0⟩:=eY hF0
 cases hA:A with
 |none=>
  have h0:l=[]:=by
   cases l with
   |nil=>rfl
   |cons x r=>
    obtain ⟨g,off,h1,_⟩:=hcs a8;rw [hA] at h1;cases h1
  subst h0;refine dv (M:=fun _=>False) (hs:=[.fr F1]) Tryz.func50 rfl rfl rfl hp0 ?_;refine q2X ?_;refine gu ?_;refine TL.slNil 68 2 ?_;refine kB ?_;exact cZ rfl rfl (fun w' hw=>⟨.slice none 0 0,trivial,rfl,hw.sub Sx⟩)
 |some a=>
  rw [←hF1] at hl;refine dv (M:=fun _=>False) (hs:=[.fr F1]) Tryz.func50 rfl rfl rfl hp0 ?_;refine q15 ?_;rintro _ _ ⟨g,rfl,rfl⟩;refine df ?_;refine cW (l7 0 1 (k':=l.length) (l':=l.flatMap cQ) (zjN (enc:=cQ) (fun _=>inferInstance)) rfl rfl rfl rfl rfl hl cF (by rw [List.nil_append,←List.flatMap_def]) hr a6) ?_;rintro v' _ ⟨hv',rfl⟩;refine fO ?_;exact cZ rfl rfl (fun w' hw=>⟨v',trivial,rfl,hw.sub Sx⟩)
theorem zg9 (F0:Frz)(w:World)(hF0:F0.At w)(l:List GChoice)(vl:Value)(hl:SlC F0 vl 2 (l.map cQ))(hr:dn l.length 16):Calls Tryz.prog 50 #[vl] w fun e w'=>∃(y:Value) (G:Frz),SlC G y 2 (l.map cQ)∧e= .returned y∧Fx F0 w G w':=by
 refine (zlC F0 w hF0 l vl hl hr).mono ?_;rintro e w' ⟨v',_,rfl,hw⟩;obtain ⟨G,h1,h2,h3⟩:=Fx.hp hF0 hw;have h4:=jw (G:=G) (hw.own (.sl v' 68 2 l.length (l.flatMap cQ)) a8) h2 (h3 _ a8);exact ⟨v',G,h4.toF rfl (fun _=>rfl),rfl,h1⟩
theorem zfU (F0:Frz)(w:World)(hF0:F0.At w)(l:List (List GChoice))(vl:Value)(cl:List (List Value))(hl:SlD cJ F0 vl 1 cl l)(hr:dn l.length 24):Calls Tryz.prog 48 #[vl] w fun e w'=>∃v':Value,True∧e= .returned v'∧Hp w (fun _=>False) [.sl v' 50 1 l.length cl.flatten] w':=by
 haveI:=hl.1.oneC;have hl0:=hl.1;obtain ⟨A,cap,hv,hlc,hcm,hcl,hcs⟩:=hl0;have hlen:=hl.2.1;obtain ⟨S0,F1,hF1,hS0,hp0⟩:=eY hF0
 cases hA:A with
 |none=>
  have h0:l=[]:=by
   refine List.eq_nil_of_length_eq_zero ?_;rw [←hlen];refine Nat.eq_zero_of_not_pos fun h=>?_;obtain ⟨g,off,h1,_⟩:=hcs h;rw [hA] at h1;cases h1
  subst h0;obtain rfl:cl=[]:=List.eq_nil_of_length_eq_zero hlen;refine dv (M:=fun _=>False) (hs:=[.fr F1]) Tryz.func48 rfl rfl rfl hp0 ?_;refine q2X ?_;refine gu ?_;refine TL.slNil 50 1 ?_;refine kB ?_;exact cZ rfl rfl (fun w' hw=>⟨.slice none 0 0,trivial,rfl,hw.sub Sx⟩)
 |some a=>
  rw [←hF1] at hl;refine dv (M:=fun _=>False) (hs:=[.fr F1]) Tryz.func48 rfl rfl rfl hp0 ?_;refine q15 ?_;rintro _ _ ⟨g,rfl,rfl⟩;refine df ?_;refine cW (l7 0 1 (k':=l.length) (l':=cl.flatten) (zov hl (fun _ _ _=>R_List_GChoice.one)) rfl rfl rfl rfl rfl hl.1 (by rw [hl.2.1];omega) (by rw [List.nil_append]) hr a6) ?_;rintro v' _ ⟨hv',rfl⟩;refine fO ?_;exact cZ rfl rfl (fun w' hw=>⟨v',trivial,rfl,hw.sub Sx⟩)
theorem zf9 (F0:Frz)(w:World)(hF0:F0.At w)(l:List Int)(vl:Value)(hl:SlC F0 vl 1 (l.map eI))(hr:dn l.length 8):Calls Tryz.prog 51 #[vl] w fun e w'=>∃(y:Value) (G:Frz),SlC G y 1 (l.map eI)∧e= .returned y∧Fx F0 w G w':=by
 haveI:=hl.oneC;have hl0:=hl;obtain ⟨A,cap,hv,hlc,hcm,hcl,hcs⟩:=hl0;have hlen:(l.map eI).length=l.length:=List.length_map _
 cases hA:A with
 |none=>
  have h0:¬0<l.length:=fun h=>by
   obtain ⟨g,off,h1,_⟩:=hcs (by rw [hlen];exact h);rw [hA] at h1;cases h1
  refine Calls.mono (R:=fun e w'=>e= .returned (.slice none 0 0)∧Below w.heap.size w w') ?_ ?_
  ·obtain ⟨S0,F1,hF1,hS0,hp0⟩:=eY hF0;refine dv (M:=fun _=>False) (hs:=[.fr F1]) Tryz.func51 rfl rfl rfl hp0 ?_;refine q2X ?_;refine iN ?_;exact eh
  ·rintro e w' ⟨rfl,hb⟩
   cases l with
   |nil=>exact ⟨.slice none 0 0,F0,SlC.nil _ 1,rfl,Fx.refl hF0 hb⟩
   |cons x r=>simp at h0
 |some a=>
  refine Calls.mono (R:=fun e w'=>∃v':Value,e= .returned v'∧Hp w (fun _=>False) [.sl v' 3 1 l.length (l.flatMap eI)] w') ?_ ?_
  ·obtain ⟨S0,F1,hF1,hS0,hp0⟩:=eY hF0;rw [←hF1] at hl;refine dv (M:=fun _=>False) (hs:=[.fr F1]) Tryz.func51 rfl rfl rfl hp0 ?_;refine q15 ?_;rintro _ _ ⟨g,rfl,rfl⟩;refine df ?_;refine cW (l7 0 1 (k':=l.length) (l':=l.flatMap eI) (zjN (enc:=eI) (fun _=>inferInstance)) rfl rfl rfl rfl rfl hl cF (by rw [List.nil_append,←List.flatMap_def]) hr a6) ?_;rintro v' _ ⟨hv',rfl⟩;refine fO ?_;exact cZ rfl rfl (fun w' hw=>⟨v',rfl,hw.sub Sx⟩)
  ·rintro e w' ⟨v',rfl,hw⟩;obtain ⟨G,h1,h2,h3⟩:=Fx.hp hF0 hw;have h4:=jw (G:=G) (hw.own (.sl v' 3 1 l.length (l.flatMap eI)) a8) h2 (h3 _ a8);exact ⟨v',G,h4.toF rfl (fun _=>rfl),rfl,h1⟩
theorem zkC {F0 : Frz} {w : World} {vd vp vl vc : Value} {cd : List (List Value)} {p : GProblem} (hF0 : F0.At w) (h : PbF F0 vd cd vp vl vc p) :
    Calls Tryz.prog 72 #[.agg [vd, vp, vl, vc].toArray] w fun e w' => e = .returned (.bool (gW p)) ∧ Below w.heap.size w w' := by
  obtain ⟨P, rfl, hP⟩ := zjH h hF0; rw [← zpa]; exact zg8 P vd vp vl vc w hP
end Go.Proofs.YtogbggmckmnlfaaGreatDoor
