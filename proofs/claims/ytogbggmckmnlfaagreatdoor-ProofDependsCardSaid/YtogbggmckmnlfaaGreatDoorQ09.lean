/- Yc Yn Sk: shortened and put together by squeeze.py. -/
import Derived.Test.YtogbggmckmnlfaaGreatDoorQ08
set_option maxRecDepth 100000
set_option maxHeartbeats 4000000
set_option linter.unusedVariables false
set_option linter.unusedSectionVars false
set_option linter.unusedSimpArgs false
namespace Go.Proofs.YtogbggmckmnlfaaGreatDoor
open Go.RowKit
theorem b4 {p:Prop}(h:p:=by rw [Vec.len];first|omega|(simp only [List.length_cons,List.length_nil];omega)):p:=h
structure GViolation where
 Kind:Int
 At:Int
deriving DecidableEq,Inhabited
abbrev i8 (x:GViolation):List Value:=[.int .i64 x.Kind, .int .i64 x.At]
theorem GViolation.len (x:GViolation):(i8 x).length=2:=rfl
def zaO (l:List Int):Bool:=
 dL (fun (_:Unit)=>
  true)
 (fun k1=>
  da (fun (i_3:Nat) (next2:Unit→Bool) (_:Unit)=>
   (bif ((!(jC (cI l i_3)))||((decide (0<(i_3:Int)))&&(decide ((cI l i_3)≤(cI l (((i_3:Int) - 1).toNat)))))) then
    false
    else
    next2 ()))
  (fun (_:Unit)=>
   k1 ()) (l.length - 0) 0 ())
theorem zcQ (F0:Frz)(w:World)(hF0:F0.At w)(l:List Int)(vl:Value)(hl:SlC F0 vl 1 (l.map eI)):Calls Tryz.prog 44 #[vl] w fun e w'=>e= .returned (.bool (zaO l))∧Below w.heap.size w w':=by
 obtain ⟨r,hk⟩:∃r,zaO l=r:=⟨_,rfl⟩;rw [hk];unfold zaO at hk;haveI:=hl.oneC;obtain ⟨S0,F1,rfl,hS0,hp0⟩:=eX hF0;refine dv Tryz.func44 rfl rfl rfl hp0 ?_;refine q3R ?_;have hq:=em hk;clear hk;obtain ⟨k1,hk1,hk⟩:=hq; (try dsimp only at hk);refine dc (ι:=Unit) (fun z=>[]) (fun z=>[.fr F1]) (fun z=>k1 ()=r) ?_ ?_
 ·have hq:=fx hk;clear hk;obtain ⟨f2,kk2,hf2,hkk2,hk⟩:=hq;refine fm ?_;refine T.loop (ι:=Nat) (fun z=>[(0,vl),(3, .int .i64 (z:Int))]) (fun z=>[.fr F1]) (fun z=>da f2 kk2 (l.length - z) z ()=r) (fun z=>l.length - z) 0 ?_ ?_ ?_ ?_
  ·exact hk
  ·exact mO
  ·exact eQ
  ·rintro i_3 hk;refine mm ?_;refine q2k ?_;have hm6:l.length≤9223372036854775807:=(List.length_map _)▸hl.max;refine dD ?_;refine T.cond rfl (fun h4=>?_) (fun h4=>?_)
   ·have p4:=of_decide_eq_true h4;rw [fw a5] at hk;generalize hn2:da f2 kk2 (l.length - (i_3+1)) (i_3+1)=next2 at hk;rw [←hf2] at hk; (try dsimp only at hk);refine j1 ?_;refine dc (ι:=Unit) (fun z=>[(0,vl),(3, .int .i64 (i_3:Int)),(31, .bool ((!(jC (cI l i_3)))||((decide (0<(i_3:Int)))&&(decide ((cI l i_3)≤(cI l (((i_3:Int) - 1).toNat)))))))]) (fun z=>[.fr F1]) (fun z=>True) ?_ ?_
    ·refine dI (sN 0 4 (.eff 4 (sN 5 16 (.still 21 .done)))) _ a7 (List.Sublist.refl _) ?_;refine q1o ?_;refine q2q ?_;refine dy ?_;refine c6 rfl (Wt.none) rfl rfl (cL rfl rfl rfl (fun w hw=>zbf _ w (hw.fr (i:=0) rfl) (cI l i_3))) ?_;refine mQ ?_;refine dB rfl rfl rfl rfl (fun h5=>?_) (fun h5=>?_)
     ·refine TS.run 15 rfl ?_;refine fc ?_;exact cS () trivial (.c (.c (.b (iC h5).symm .nil))) (List.Sublist.refl _)
     ·refine gp ?_;refine dB rfl rfl rfl rfl (fun h6=>?_) (fun h6=>?_)
      ·have p6:=of_decide_eq_true h6;refine gM ?_;refine q13 ?_;refine q2X ?_;refine q2q ?_;refine gp ?_;refine fc ?_;exact cS () trivial (.c (.c (.b (Eq.trans (l5 h6) (gN h5)) .nil))) (List.Sublist.refl _)
      ·have p6:=of_decide_eq_false h6;refine TS.run 12 rfl ?_;refine fc ?_;exact cS () trivial (.c (.c (.b (jM h5 (jr h6)).symm .nil))) (List.Sublist.refl _)
    ·rintro _ _;refine T.cond rfl (fun h7=>?_) (fun h7=>?_)
     ·replace hk:=dp hk h7;refine iu ?_;subst hk;exact d7
     ·replace hk:=dn hk h7;refine im ?_;rw [←hn2] at hk;exact K.next (i_3+1) hk a5 (.c (.c .nil)) (List.Sublist.refl _)
   ·have p4:=of_decide_eq_false h4;rw [fA a5,←hkk2] at hk; (try dsimp only at hk);refine eF ?_;exact kx
 ·rintro _ hk;rw [←hk1] at hk; (try dsimp only at hk);refine kd ?_;subst hk;exact d7
def zbY (p:GProblem)(l:List Int):Option (GProblem×Int):=
 (zbF p).bind fun r13=>
 (bif ((!r13)||(!(zaO l))) then
  some ((GProblem.mk [] (GRules.mk [] [] [])),2)
  else
  dL (fun (s7:List GDomain×List GPair×List GLoad×List GCap)=>
   dL (fun (s20:List GDomain×List GPair×List GLoad×List GCap)=>
    dL (fun (s33:List GDomain×List GPair×List GLoad×List GCap)=>
     dL (fun (s47:List GDomain×List GPair×List GLoad×List GCap)=>
      dL (fun (s61:List GDomain×List GPair×List GLoad×List GCap)=>
       some ((GProblem.mk s61.1 (GRules.mk s61.2.1 s61.2.2.1 s61.2.2.2)),0))
      (fun k61=>
       da (fun (i_67:Nat) (next66:(List GDomain×List GPair×List GLoad×List GCap)→Option (GProblem×Int)) (s66:List GDomain×List GPair×List GLoad×List GCap)=>
        (bif (d4 l ((cI p.Rules.Caps i_67).Station)) then
         eg (dl (s66.2.2.2++[(cI p.Rules.Caps i_67)]).length 32) <|
         next66 (s66.1,s66.2.1,s66.2.2.1,(s66.2.2.2++[(cI p.Rules.Caps i_67)]))
         else
         next66 (s66.1,s66.2.1,s66.2.2.1,s66.2.2.2)))
       (fun (s66:List GDomain×List GPair×List GLoad×List GCap)=>
        k61 (s66.1,s66.2.1,s66.2.2.1,s66.2.2.2)) (p.Rules.Caps.length - 0) 0 (s47.1,s47.2.1,s47.2.2.1,s47.2.2.2)))
     (fun k47=>
      da (fun (i_53:Nat) (next52:(List GDomain×List GPair×List GLoad×List GCap)→Option (GProblem×Int)) (s52:List GDomain×List GPair×List GLoad×List GCap)=>
       (bif ((d4 l ((cI p.Rules.Loads i_53).To))&&(d4 l ((cI p.Rules.Loads i_53).From))) then
        eg (dl (s52.2.2.1++[(cI p.Rules.Loads i_53)]).length 40) <|
        next52 (s52.1,s52.2.1,(s52.2.2.1++[(cI p.Rules.Loads i_53)]),s52.2.2.2)
        else
        next52 (s52.1,s52.2.1,s52.2.2.1,s52.2.2.2)))
      (fun (s52:List GDomain×List GPair×List GLoad×List GCap)=>
       k47 (s52.1,s52.2.1,s52.2.2.1,s52.2.2.2)) (p.Rules.Loads.length - 0) 0 (s33.1,s33.2.1,s33.2.2.1,s33.2.2.2)))
    (fun k33=>
     da (fun (i_39:Nat) (next38:(List GDomain×List GPair×List GLoad×List GCap)→Option (GProblem×Int)) (s38:List GDomain×List GPair×List GLoad×List GCap)=>
      (bif ((d4 l ((cI p.Rules.Pairs i_39).A))&&(d4 l ((cI p.Rules.Pairs i_39).B))) then
       eg (dl (s38.2.1++[(cI p.Rules.Pairs i_39)]).length 40) <|
       next38 (s38.1,(s38.2.1++[(cI p.Rules.Pairs i_39)]),s38.2.2.1,s38.2.2.2)
       else
       next38 (s38.1,s38.2.1,s38.2.2.1,s38.2.2.2)))
     (fun (s38:List GDomain×List GPair×List GLoad×List GCap)=>
      k33 (s38.1,s38.2.1,s38.2.2.1,s38.2.2.2)) (p.Rules.Pairs.length - 0) 0 (s20.1,s20.2.1,s20.2.2.1,s20.2.2.2)))
   (fun k20=>
    da (fun (i_26:Nat) (next25:(List GDomain×List GPair×List GLoad×List GCap)→Option (GProblem×Int)) (s25:List GDomain×List GPair×List GLoad×List GCap)=>
     (bif (d4 l ((cI p.Domains i_26).Station)) then
      eg (dl (s25.1++[(cI p.Domains i_26)]).length 32) <|
      next25 ((s25.1++[(cI p.Domains i_26)]),s25.2.1,s25.2.2.1,s25.2.2.2)
      else
      next25 (s25.1,s25.2.1,s25.2.2.1,s25.2.2.2)))
    (fun (s25:List GDomain×List GPair×List GLoad×List GCap)=>
     k20 (s25.1,s25.2.1,s25.2.2.1,s25.2.2.2)) (p.Domains.length - 0) 0 ([],[],[],[])))
  (fun k7=>
   da (fun (i_13:Nat) (next12:(List GDomain×List GPair×List GLoad×List GCap)→Option (GProblem×Int)) (s12:List GDomain×List GPair×List GLoad×List GCap)=>
    (bif decide ((iI p (cI l i_13))<0) then
     some ((GProblem.mk [] (GRules.mk [] [] [])),9)
     else
     next12 (s12.1,s12.2.1,s12.2.2.1,s12.2.2.2)))
   (fun (s12:List GDomain×List GPair×List GLoad×List GCap)=>
    k7 (s12.1,s12.2.1,s12.2.2.1,s12.2.2.2)) (l.length - 0) 0 ([],[],[],[])))
theorem zfS (F0:Frz)(w:World)(hF0:F0.At w)(p:GProblem)(vp_0:Value)(cp_0:List (List Value))(hp_0:SlD cJ F0 vp_0 2 cp_0 p.Domains)(vp_1:Value)(hp_1:SlC F0 vp_1 5 (p.Rules.Pairs.map cN))(vp_2:Value)(hp_2:SlC F0 vp_2 5 (p.Rules.Loads.map cO))(vp_3:Value)(hp_3:SlC F0 vp_3 4 (p.Rules.Caps.map cR))(l:List Int)(vl:Value)(hl:SlC F0 vl 1 (l.map eI))(r:GProblem×Int)(hr:zbY p l=some r):Calls Tryz.prog 23 #[.agg [vp_0,vp_1,vp_2,vp_3].toArray,vl] w fun e w'=>∃(y:Value×List (List Value)×Value×Value×Value) (G:Frz),(SlD cJ G y.1 2 y.2.1 r.1.Domains∧SlC G y.2.2.1 5 (r.1.Rules.Pairs.map cN)∧SlC G y.2.2.2.1 5 (r.1.Rules.Loads.map cO)∧SlC G y.2.2.2.2 4 (r.1.Rules.Caps.map cR))∧e= .returned (.tuple #[.agg [y.1,y.2.2.1,y.2.2.2.1,y.2.2.2.2].toArray, .int .i64 r.2])∧Fx F0 w G w':=by
 have hk:=hr;unfold zbY at hk;haveI:=hp_0.1.oneC;haveI:=hp_1.oneC;haveI:=hp_2.oneC;haveI:=hp_3.oneC;haveI:=hl.oneC;obtain ⟨S0,F1,rfl,hS0,hp0⟩:=eX hF0;refine dv Tryz.func23 rfl rfl rfl hp0 ?_;refine iW ?_;rintro _ _ ⟨g2,rfl,rfl⟩;refine gB ?_;rintro _ _ ⟨g4,rfl,rfl⟩;refine q4a ?_;have hq:=dZ hk;clear hk;obtain ⟨r13,hr13,hk⟩:=hq; (try dsimp only at hk);refine dc (ι:=Unit) (fun z=>[(1,vl),(2, .pointer (some ⟨g2,0,none⟩)),(4, .pointer (some ⟨g4,0,none⟩)),(19, .bool ((!r13)||(!(zaO l))))]) (fun z=>[.row g4 29 [(.slice none 0 0),(.slice none 0 0),(.slice none 0 0),(.slice none 0 0)], .row g2 29 [vp_0,vp_1,vp_2,vp_3], .fr F1]) (fun z=>True) ?_ ?_
 ·refine mR ?_;refine cT (cL rfl rfl rfl (fun w hw=>zfd _ w (hw.fr (i:=2) rfl) p vp_0 cp_0 hp_0 vp_1 hp_1 vp_2 hp_2 vp_3 hp_3 r13 hr13)) ?_;refine mi ?_;refine dw rfl rfl rfl (fun h1=>?_) (fun h1=>?_)
  ·refine ku ?_;exact cS () trivial (.c (.c (.c (.b (iC h1).symm .nil)))) (List.Sublist.refl _)
  ·refine dd ?_;refine cT (cL rfl rfl rfl (fun w hw=>zcQ _ w (hw.fr (i:=2) rfl) l vl hl)) ?_;refine lz ?_;exact cS () trivial (.c (.c (.c (.b (gN h1) .nil)))) (List.Sublist.refl _)
 ·rintro _ _;refine T.cond rfl (fun h2=>?_) (fun h2=>?_)
  ·replace hk:=dp hk h2;refine dk ?_;refine jq ?_;refine kH ?_;refine dd ?_;refine j8 ?_;obtain rfl:=Option.some.inj hk;exact q4Z
  ·replace hk:=dn hk h2;refine jx ?_;refine dD ?_;have hq:=em hk;clear hk;obtain ⟨k7,hk7,hk⟩:=hq; (try dsimp only at hk);refine dc (ι:=List GDomain×Value×List (List Value)×List GPair×Value×List GLoad×Value×List GCap×Value×FzB w (fun _=>False) S0) (fun z=>[(1,vl),(2, .pointer (some ⟨g2,0,none⟩)),(4, .pointer (some ⟨g4,0,none⟩))]) (fun z=>[.row g4 29 [z.2.1,z.2.2.2.2.1,z.2.2.2.2.2.2.1,z.2.2.2.2.2.2.2.2.1], .row g2 29 [vp_0,vp_1,vp_2,vp_3], .fr z.2.2.2.2.2.2.2.2.2]) (fun z=>k7 (z.1,z.2.2.2.1,z.2.2.2.2.2.1,z.2.2.2.2.2.2.2.1)=some r∧SlD cJ z.2.2.2.2.2.2.2.2.2.toFrz z.2.1 2 z.2.2.1 z.1∧SlC z.2.2.2.2.2.2.2.2.2.toFrz z.2.2.2.2.1 5 (z.2.2.2.1.map cN)∧SlC z.2.2.2.2.2.2.2.2.2.toFrz z.2.2.2.2.2.2.1 5 (z.2.2.2.2.2.1.map cO)∧SlC z.2.2.2.2.2.2.2.2.2.toFrz z.2.2.2.2.2.2.2.2.1 4 (z.2.2.2.2.2.2.2.1.map cR)∧F1.toFrz.Le z.2.2.2.2.2.2.2.2.2.toFrz) ?_ ?_
   ·have hq:=fx hk;clear hk;obtain ⟨f12,kk12,hf12,hkk12,hk⟩:=hq;refine fm ?_;refine T.loop (ι:=Nat×List GDomain×Value×List (List Value)×List GPair×Value×List GLoad×Value×List GCap×Value×FzB w (fun _=>False) S0) (fun z=>[(1,vl),(2, .pointer (some ⟨g2,0,none⟩)),(4, .pointer (some ⟨g4,0,none⟩)),(6, .int .i64 (z.1:Int))]) (fun z=>[.row g4 29 [z.2.2.1,z.2.2.2.2.2.1,z.2.2.2.2.2.2.2.1,z.2.2.2.2.2.2.2.2.2.1], .row g2 29 [vp_0,vp_1,vp_2,vp_3], .fr z.2.2.2.2.2.2.2.2.2.2]) (fun z=>da f12 kk12 (l.length - z.1) z.1 (z.2.1,z.2.2.2.2.1,z.2.2.2.2.2.2.1,z.2.2.2.2.2.2.2.2.1)=some r∧SlD cJ z.2.2.2.2.2.2.2.2.2.2.toFrz z.2.2.1 2 z.2.2.2.1 z.2.1∧SlC z.2.2.2.2.2.2.2.2.2.2.toFrz z.2.2.2.2.2.1 5 (z.2.2.2.2.1.map cN)∧SlC z.2.2.2.2.2.2.2.2.2.2.toFrz z.2.2.2.2.2.2.2.1 5 (z.2.2.2.2.2.2.1.map cO)∧SlC z.2.2.2.2.2.2.2.2.2.2.toFrz z.2.2.2.2.2.2.2.2.2.1 4 (z.2.2.2.2.2.2.2.2.1.map cR)∧F1.toFrz.Le z.2.2.2.2.2.2.2.2.2.2.toFrz) (fun z=>l.length - z.1) (0,[],(.slice none 0 0),[],[],(.slice none 0 0),[],(.slice none 0 0),[],(.slice none 0 0),F1) ?_ ?_ ?_ ?_
    ·exact ⟨hk,(SlD.nil _ _ 2),(SlC.nil _ 5),(SlC.nil _ 5),(SlC.nil _ 4),(Frz.Le.refl _)⟩
    ·exact q4o
    ·exact eQ
    ·rintro ⟨i_13,c_8,vc_8,cc_8,c_9,vc_9,c_10,vc_10,c_11,vc_11,F3⟩ ⟨hk,hc_8,hc_9,hc_10,hc_11,le1_3⟩; (try dsimp only at *);haveI:=hc_8.1.oneC;haveI:=hc_9.oneC;haveI:=hc_10.oneC;haveI:=hc_11.oneC;refine mm ?_;refine cK (dh rfl rfl (SlC.mono hl le1_3) (List.length_map _)) ?_;have hm23:l.length≤9223372036854775807:=(List.length_map _)▸(SlC.mono hl le1_3).max;refine dD ?_;refine T.cond rfl (fun h14=>?_) (fun h14=>?_)
     ·have p14:=of_decide_eq_true h14;rw [fw a5] at hk;generalize hn12:da f12 kk12 (l.length - (i_13+1)) (i_13+1)=next12 at hk;rw [←hf12] at hk; (try dsimp only at hk);refine j1 ?_;refine dI (sN 0 5 (.eff 5 (.still 6 .done))) _ a7 (List.Sublist.refl _) ?_;refine cP rfl (d5 1) ?_;refine gM ?_;refine cP rfl (dg (i:=i_13) rfl rfl rfl (SlC.mono hl le1_3) (List.length_map _) rfl a5) ?_;refine cP rfl (d6 2 (i:=i_13) (j:=0) rfl rfl rfl (SlC.mono hl le1_3) a5) ?_;refine dy ?_;refine c6 rfl (Wt.none) rfl rfl (cL rfl rfl rfl (fun w hw=>zck _ w (hw.fr (i:=2) rfl) p vp_0 cp_0 (SlD.mono (rep:=cJ) (fun _ _ _ _=>GDomain.mono) hp_0 le1_3) vp_1 (SlC.mono hp_1 le1_3) vp_2 (SlC.mono hp_2 le1_3) vp_3 (SlC.mono hp_3 le1_3) (cI l i_13))) ?_;refine jZ ?_;refine j9 ?_;refine T.cond rfl (fun h15=>?_) (fun h15=>?_)
      ·have p15:=of_decide_eq_true h15;replace hk:=dp hk h15;refine dk ?_;refine jq ?_;refine kH ?_;refine dd ?_;refine q3b ?_;obtain rfl:=Option.some.inj hk;exact gX 0 rfl rfl rfl rfl rfl (fun w' hw=>⟨((.slice none 0 0),[],(.slice none 0 0),(.slice none 0 0),(.slice none 0 0)),F3.toFrz,⟨(SlD.nil _ _ 2),(SlC.nil _ 5),(SlC.nil _ 5),(SlC.nil _ 4)⟩,rfl,fN hw (i:=2) rfl hS0 le1_3⟩)
      ·have p15:=of_decide_eq_false h15;replace hk:=dn hk h15;refine im ?_;rw [←hn12] at hk;exact K.next ((i_13+1),c_8,vc_8,cc_8,c_9,vc_9,c_10,vc_10,c_11,vc_11,F3) ⟨hk,hc_8,hc_9,hc_10,hc_11,le1_3⟩ a9 (.c (.c (.c (.c .nil)))) (List.Sublist.refl _)
     ·have p14:=of_decide_eq_false h14;rw [fA a5,←hkk12] at hk; (try dsimp only at hk);refine eF ?_;exact cS (c_8,vc_8,cc_8,c_9,vc_9,c_10,vc_10,c_11,vc_11,F3) ⟨hk,hc_8,hc_9,hc_10,hc_11,le1_3⟩ (.c (.c (.c .nil))) (List.Sublist.refl _)
   ·rintro ⟨c_3,vc_3,cc_3,c_4,vc_4,c_5,vc_5,c_6,vc_6,F2⟩ ⟨hk,hc_3,hc_4,hc_5,hc_6,le1_2⟩; (try dsimp only at *);rw [←hk7] at hk; (try dsimp only at hk);haveI:=hc_3.1.oneC;haveI:=hc_4.oneC;haveI:=hc_5.oneC;haveI:=hc_6.oneC;refine dk ?_;refine gB ?_;rintro _ _ ⟨g7,rfl,rfl⟩;refine TL.slNil 98 2 ?_;refine TL.slNil 100 5 ?_;refine TL.slNil 102 5 ?_;refine TL.slNil 104 4 ?_;refine iS ?_;refine dD ?_;have hq:=em hk;clear hk;obtain ⟨k20,hk20,hk⟩:=hq; (try dsimp only at hk);refine dc (ι:=List GDomain×Value×List (List Value)×List GPair×Value×List GLoad×Value×List GCap×Value×FzB w (fun _=>False) S0) (fun z=>[(1,vl),(2, .pointer (some ⟨g2,0,none⟩)),(4, .pointer (some ⟨g4,0,none⟩)),(7, .pointer (some ⟨g7,0,none⟩))]) (fun z=>[.sl z.2.1 98 2 z.1.length z.2.2.1.flatten, .sl z.2.2.2.2.1 100 5 z.2.2.2.1.length (z.2.2.2.1.flatMap cN), .sl z.2.2.2.2.2.2.1 102 5 z.2.2.2.2.2.1.length (z.2.2.2.2.2.1.flatMap cO), .sl z.2.2.2.2.2.2.2.2.1 104 4 z.2.2.2.2.2.2.2.1.length (z.2.2.2.2.2.2.2.1.flatMap cR), .row g7 29 [z.2.1,z.2.2.2.2.1,z.2.2.2.2.2.2.1,z.2.2.2.2.2.2.2.2.1], .row g4 29 [vc_3,vc_4,vc_5,vc_6], .row g2 29 [vp_0,vp_1,vp_2,vp_3], .fr z.2.2.2.2.2.2.2.2.2]) (fun z=>k20 (z.1,z.2.2.2.1,z.2.2.2.2.2.1,z.2.2.2.2.2.2.2.1)=some r∧OwnD cJ z.2.2.2.2.2.2.2.2.2.toFrz 2 z.2.2.1 z.1∧OneC z.2.1∧OneC z.2.2.2.2.1∧OneC z.2.2.2.2.2.2.1∧OneC z.2.2.2.2.2.2.2.2.1∧F2.toFrz.Le z.2.2.2.2.2.2.2.2.2.toFrz) ?_ ?_
    ·have hq:=fx hk;clear hk;obtain ⟨f25,kk25,hf25,hkk25,hk⟩:=hq;refine fm ?_;refine T.pick [3,2,1,0,4,5,6,7] rfl a6 ?_;refine T.loop (ι:=Nat×List GDomain×Value×List (List Value)×List GPair×Value×List GLoad×Value×List GCap×Value×FzB w (fun _=>False) S0) (fun z=>[(1,vl),(2, .pointer (some ⟨g2,0,none⟩)),(4, .pointer (some ⟨g4,0,none⟩)),(7, .pointer (some ⟨g7,0,none⟩)),(8, .int .i64 (z.1:Int))]) (fun z=>[.sl z.2.2.1 98 2 z.2.1.length z.2.2.2.1.flatten, .sl z.2.2.2.2.2.1 100 5 z.2.2.2.2.1.length (z.2.2.2.2.1.flatMap cN), .sl z.2.2.2.2.2.2.2.1 102 5 z.2.2.2.2.2.2.1.length (z.2.2.2.2.2.2.1.flatMap cO), .sl z.2.2.2.2.2.2.2.2.2.1 104 4 z.2.2.2.2.2.2.2.2.1.length (z.2.2.2.2.2.2.2.2.1.flatMap cR), .row g7 29 [z.2.2.1,z.2.2.2.2.2.1,z.2.2.2.2.2.2.2.1,z.2.2.2.2.2.2.2.2.2.1], .row g4 29 [vc_3,vc_4,vc_5,vc_6], .row g2 29 [vp_0,vp_1,vp_2,vp_3], .fr z.2.2.2.2.2.2.2.2.2.2]) (fun z=>da f25 kk25 (p.Domains.length - z.1) z.1 (z.2.1,z.2.2.2.2.1,z.2.2.2.2.2.2.1,z.2.2.2.2.2.2.2.2.1)=some r∧OwnD cJ z.2.2.2.2.2.2.2.2.2.2.toFrz 2 z.2.2.2.1 z.2.1∧OneC z.2.2.1∧OneC z.2.2.2.2.2.1∧OneC z.2.2.2.2.2.2.2.1∧OneC z.2.2.2.2.2.2.2.2.2.1∧F2.toFrz.Le z.2.2.2.2.2.2.2.2.2.2.toFrz) (fun z=>p.Domains.length - z.1) (0,[],(.slice none 0 0),[],[],(.slice none 0 0),[],(.slice none 0 0),[],(.slice none 0 0),F2) ?_ ?_ ?_ ?_
     ·exact q40
     ·exact lQ
     ·exact eQ
     ·rintro ⟨i_26,c_21,vc_21,cc_21,c_22,vc_22,c_23,vc_23,c_24,vc_24,F5⟩ ⟨hk,hc_21,oc_21,oc_22,oc_23,oc_24,le2_5⟩; (try dsimp only at *);have le1_5:=le1_2.trans le2_5;refine jp ?_;refine dd ?_;refine q4c ?_;refine cK (dh rfl rfl (SlD.mono (rep:=cJ) (fun _ _ _ _=>GDomain.mono) hp_0 le1_5).1 (SlD.mono (rep:=cJ) (fun _ _ _ _=>GDomain.mono) hp_0 le1_5).2.1) ?_;have hm38:p.Domains.length≤9223372036854775807:=(SlD.mono (rep:=cJ) (fun _ _ _ _=>GDomain.mono) hp_0 le1_5).2.1▸(SlD.mono (rep:=cJ) (fun _ _ _ _=>GDomain.mono) hp_0 le1_5).1.max;refine dD ?_;refine T.cond rfl (fun h27=>?_) (fun h27=>?_)
      ·have p27:=of_decide_eq_true h27;rw [fw a5] at hk;generalize hn25:da f25 kk25 (p.Domains.length - (i_26+1)) (i_26+1)=next25 at hk;rw [←hf25] at hk; (try dsimp only at hk);refine fv ?_;refine dd ?_;refine q4c ?_;refine dd ?_;refine cK (dg (i:=i_26) rfl rfl rfl (SlD.mono (rep:=cJ) (fun _ _ _ _=>GDomain.mono) hp_0 le1_5).1 (SlD.mono (rep:=cJ) (fun _ _ _ _=>GDomain.mono) hp_0 le1_5).2.1 rfl a5) ?_;refine cK (gj rfl rfl (SlD.mono (rep:=cJ) (fun _ _ _ _=>GDomain.mono) hp_0 le1_5).1 (SlD.mono (rep:=cJ) (fun _ _ _ _=>GDomain.mono) hp_0 le1_5).2.1 a5) ?_;refine cK (dT 7 (i:=i_26) (j:=0) rfl rfl rfl (SlD.mono (rep:=cJ) (fun _ _ _ _=>GDomain.mono) hp_0 le1_5).1 (SlD.mono (rep:=cJ) (fun _ _ _ _=>GDomain.mono) hp_0 le1_5).2.1 a5 rfl (GDomain.c0 ((SlD.mono (rep:=cJ) (fun _ _ _ _=>GDomain.mono) hp_0 le1_5).2.2 i_26 a5))) ?_;refine cT (cL rfl rfl rfl (fun w hw=>zcf _ w (hw.fr (i:=7) rfl) l vl (SlC.mono hl le1_5) ((cI p.Domains i_26).Station))) ?_;refine eP ?_;refine c4 ?_;refine T.cond rfl (fun h28=>?_) (fun h28=>?_)
       ·replace hk:=dp hk h28;have hq:(dl (c_21++[(cI p.Domains i_26)]).length 32)∧_:=fQ hk;clear hk;obtain ⟨g58,hk⟩:=hq; (try dsimp only at hk);refine dI (.still 0 (.still 2 (.still 3 (.still 4 (.still 5 (.still 6 (.two 1 7 (.eff 7 (.eff 8 (.still 9 (.eff 10 .done)))) (.eff 1 (.eff 8 (.still 9 (.eff 10 .done))))))))))) [.sl vc_22 100 5 c_22.length (c_22.flatMap cN), .sl vc_23 102 5 c_23.length (c_23.flatMap cO), .sl vc_24 104 4 c_24.length (c_24.flatMap cR), .row g4 29 [vc_3,vc_4,vc_5,vc_6], .row g2 29 [vp_0,vp_1,vp_2,vp_3], .fr F5] a7 Sx ?_;refine fT ?_;refine q2G ?_;refine fe ?_;refine cP rfl (dg (i:=i_26) rfl rfl rfl (SlD.mono (rep:=cJ) (fun _ _ _ _=>GDomain.mono) hp_0 le1_5).1 (SlD.mono (rep:=cJ) (fun _ _ _ _=>GDomain.mono) hp_0 le1_5).2.1 rfl a5) ?_;refine cP rfl (kr 5 (i:=i_26) (j:=0) rfl rfl rfl (SlD.mono (rep:=cJ) (fun _ _ _ _=>GDomain.mono) hp_0 le1_5).1 (SlD.mono (rep:=cJ) (fun _ _ _ _=>GDomain.mono) hp_0 le1_5).2.1 a5 rfl (fE ((SlD.mono (rep:=cJ) (fun _ _ _ _=>GDomain.mono) hp_0 le1_5).2.2 i_26 a5)) rfl) ?_;have hd56_1:=(GDomain.c1 ((SlD.mono (rep:=cJ) (fun _ _ _ _=>GDomain.mono) hp_0 le1_5).2.2 i_26 a5)).2;haveI:=hd56_1.oneC;refine TS.two ?_ ?_
        ·refine q19 ?_;rintro _ _ ⟨g57,rfl,rfl⟩;have hl57:OwnD cJ F5.toFrz 2 [[.int .i64 ((cI p.Domains i_26).Station),(cI (cI cp_0 i_26) 1)]] [(cI p.Domains i_26)]:=(de (OwnD.nil _ _ 2) ⟨_,rfl,hd56_1⟩);refine ma ?_;refine dy ?_;refine q2J ?_;rintro v58 _ ⟨hv58,rfl⟩;have ho58:OwnD cJ F5.toFrz 2 (cc_21++[[.int .i64 ((cI p.Domains i_26).Station),(cI (cI cp_0 i_26) 1)]]) (c_21++[(cI p.Domains i_26)]):=(de hc_21 ⟨_,rfl,hd56_1⟩);refine ma ?_;refine q0y ?_;rw [←hn25] at hk;refine q2d ?_;exact q41
        ·refine my ?_;rintro _ _ ⟨g57,rfl,rfl⟩;have hl57:OwnD cJ F5.toFrz 2 [[.int .i64 ((cI p.Domains i_26).Station),(cI (cI cp_0 i_26) 1)]] [(cI p.Domains i_26)]:=(de (OwnD.nil _ _ 2) ⟨_,rfl,hd56_1⟩);refine ma ?_;refine dy ?_;refine q1W ?_;refine q2J ?_;rintro v58 _ ⟨hv58,rfl⟩;have ho58:OwnD cJ F5.toFrz 2 (cc_21++[[.int .i64 ((cI p.Domains i_26).Station),(cI (cI cp_0 i_26) 1)]]) (c_21++[(cI p.Domains i_26)]):=(de hc_21 ⟨_,rfl,hd56_1⟩);refine ma ?_;refine q0y ?_;rw [←hn25] at hk;refine q2d ?_;exact q41
       ·replace hk:=dn hk h28;refine im ?_;rw [←hn25] at hk;exact K.next ((i_26+1),c_21,vc_21,cc_21,c_22,vc_22,c_23,vc_23,c_24,vc_24,F5) ⟨hk,hc_21,inferInstance,inferInstance,inferInstance,inferInstance,le2_5⟩ a9 (.c (.c (.c (.c (.c .nil))))) (List.Sublist.refl _)
      ·have p27:=of_decide_eq_false h27;rw [fA a5,←hkk25] at hk; (try dsimp only at hk);refine eF ?_;exact cS (c_21,vc_21,cc_21,c_22,vc_22,c_23,vc_23,c_24,vc_24,F5) ⟨hk,hc_21,inferInstance,inferInstance,inferInstance,inferInstance,le2_5⟩ (.c (.c (.c (.c .nil)))) (List.Sublist.refl _)
    ·rintro ⟨c_16,vc_16,cc_16,c_17,vc_17,c_18,vc_18,c_19,vc_19,F4⟩ ⟨hk,hc_16,oc_16,oc_17,oc_18,oc_19,le2_4⟩; (try dsimp only at *);rw [←hk20] at hk; (try dsimp only at hk);have le1_4:=le1_2.trans le2_4;refine mD ?_;have hq:=em hk;clear hk;obtain ⟨k33,hk33,hk⟩:=hq; (try dsimp only at hk);refine dc (ι:=List GDomain×Value×List (List Value)×List GPair×Value×List GLoad×Value×List GCap×Value) (fun z=>[(1,vl),(2, .pointer (some ⟨g2,0,none⟩)),(4, .pointer (some ⟨g4,0,none⟩)),(7, .pointer (some ⟨g7,0,none⟩))]) (fun z=>[.sl z.2.1 98 2 z.1.length z.2.2.1.flatten, .sl z.2.2.2.2.1 100 5 z.2.2.2.1.length (z.2.2.2.1.flatMap cN), .sl z.2.2.2.2.2.2.1 102 5 z.2.2.2.2.2.1.length (z.2.2.2.2.2.1.flatMap cO), .sl z.2.2.2.2.2.2.2.2 104 4 z.2.2.2.2.2.2.2.1.length (z.2.2.2.2.2.2.2.1.flatMap cR), .row g7 29 [z.2.1,z.2.2.2.2.1,z.2.2.2.2.2.2.1,z.2.2.2.2.2.2.2.2], .row g4 29 [vc_3,vc_4,vc_5,vc_6], .row g2 29 [vp_0,vp_1,vp_2,vp_3], .fr F4]) (fun z=>k33 (z.1,z.2.2.2.1,z.2.2.2.2.2.1,z.2.2.2.2.2.2.2.1)=some r∧OwnD cJ F4.toFrz 2 z.2.2.1 z.1∧OneC z.2.1∧OneC z.2.2.2.2.1∧OneC z.2.2.2.2.2.2.1∧OneC z.2.2.2.2.2.2.2.2) ?_ ?_
     ·have hq:=fx hk;clear hk;obtain ⟨f38,kk38,hf38,hkk38,hk⟩:=hq;refine fm ?_;refine T.loop (ι:=Nat×List GDomain×Value×List (List Value)×List GPair×Value×List GLoad×Value×List GCap×Value) (fun z=>[(1,vl),(2, .pointer (some ⟨g2,0,none⟩)),(4, .pointer (some ⟨g4,0,none⟩)),(7, .pointer (some ⟨g7,0,none⟩)),(9, .int .i64 (z.1:Int))]) (fun z=>[.sl z.2.2.1 98 2 z.2.1.length z.2.2.2.1.flatten, .sl z.2.2.2.2.2.1 100 5 z.2.2.2.2.1.length (z.2.2.2.2.1.flatMap cN), .sl z.2.2.2.2.2.2.2.1 102 5 z.2.2.2.2.2.2.1.length (z.2.2.2.2.2.2.1.flatMap cO), .sl z.2.2.2.2.2.2.2.2.2 104 4 z.2.2.2.2.2.2.2.2.1.length (z.2.2.2.2.2.2.2.2.1.flatMap cR), .row g7 29 [z.2.2.1,z.2.2.2.2.2.1,z.2.2.2.2.2.2.2.1,z.2.2.2.2.2.2.2.2.2], .row g4 29 [vc_3,vc_4,vc_5,vc_6], .row g2 29 [vp_0,vp_1,vp_2,vp_3], .fr F4]) (fun z=>da f38 kk38 (p.Rules.Pairs.length - z.1) z.1 (z.2.1,z.2.2.2.2.1,z.2.2.2.2.2.2.1,z.2.2.2.2.2.2.2.2.1)=some r∧OwnD cJ F4.toFrz 2 z.2.2.2.1 z.2.1∧OneC z.2.2.1∧OneC z.2.2.2.2.2.1∧OneC z.2.2.2.2.2.2.2.1∧OneC z.2.2.2.2.2.2.2.2.2) (fun z=>p.Rules.Pairs.length - z.1) (0,c_16,vc_16,cc_16,c_17,vc_17,c_18,vc_18,c_19,vc_19) ?_ ?_ ?_ ?_
      ·exact ⟨hk,hc_16,inferInstance,inferInstance,inferInstance,inferInstance⟩
      ·exact lQ
      ·exact eQ
      ·rintro ⟨i_39,c_34,vc_34,cc_34,c_35,vc_35,c_36,vc_36,c_37,vc_37⟩ ⟨hk,hc_34,oc_34,oc_35,oc_36,oc_37⟩; (try dsimp only at *);refine jp ?_;refine q1w ?_;refine cK (dh rfl rfl (SlC.mono hp_1 le1_4) (List.length_map _)) ?_;have hm64:p.Rules.Pairs.length≤9223372036854775807:=(List.length_map _)▸(SlC.mono hp_1 le1_4).max;refine dD ?_;refine T.cond rfl (fun h40=>?_) (fun h40=>?_)
       ·have p40:=of_decide_eq_true h40;rw [fw a5] at hk;generalize hn38:da f38 kk38 (p.Rules.Pairs.length - (i_39+1)) (i_39+1)=next38 at hk;rw [←hf38] at hk; (try dsimp only at hk);refine j1 ?_;refine dc (ι:=Unit) (fun z=>[(1,vl),(2, .pointer (some ⟨g2,0,none⟩)),(4, .pointer (some ⟨g4,0,none⟩)),(7, .pointer (some ⟨g7,0,none⟩)),(9, .int .i64 (i_39:Int)),(87, .bool ((d4 l ((cI p.Rules.Pairs i_39).A))&&(d4 l ((cI p.Rules.Pairs i_39).B))))]) (fun z=>[.sl vc_34 98 2 c_34.length cc_34.flatten, .sl vc_35 100 5 c_35.length (c_35.flatMap cN), .sl vc_36 102 5 c_36.length (c_36.flatMap cO), .sl vc_37 104 4 c_37.length (c_37.flatMap cR), .row g7 29 [vc_34,vc_35,vc_36,vc_37], .row g4 29 [vc_3,vc_4,vc_5,vc_6], .row g2 29 [vp_0,vp_1,vp_2,vp_3], .fr F4]) (fun z=>True) ?_ ?_
        ·refine eS ?_;refine q2R ?_;refine cK (d6 7 (i:=i_39) (j:=0) rfl rfl rfl (SlC.mono hp_1 le1_4) a5) ?_;refine cT (cL rfl rfl rfl (fun w hw=>zcf _ w (hw.fr (i:=7) rfl) l vl (SlC.mono hl le1_4) ((cI p.Rules.Pairs i_39).A))) ?_;refine jL ?_;refine dw rfl rfl rfl (fun h41=>?_) (fun h41=>?_)
         ·refine q2R ?_;refine cK (d6 7 (i:=i_39) (j:=1) rfl rfl rfl (SlC.mono hp_1 le1_4) a5) ?_;refine cT (cL rfl rfl rfl (fun w hw=>zcf _ w (hw.fr (i:=7) rfl) l vl (SlC.mono hl le1_4) ((cI p.Rules.Pairs i_39).B))) ?_;refine jL ?_;refine fG ?_;exact cS () trivial (.c (.c (.c (.c (.c (.b (l5 h41) .nil)))))) (List.Sublist.refl _)
         ·refine TL.run 10 rfl ?_;refine fG ?_;exact cS () trivial (.c (.c (.c (.c (.c (.b (jr h41).symm .nil)))))) (List.Sublist.refl _)
        ·rintro _ _;refine T.cond rfl (fun h42=>?_) (fun h42=>?_)
         ·replace hk:=dp hk h42;have hq:(dl (c_35++[(cI p.Rules.Pairs i_39)]).length 40)∧_:=fQ hk;clear hk;obtain ⟨g98,hk⟩:=hq; (try dsimp only at hk);refine dI (.still 0 (.still 1 (.still 3 (.still 4 (.still 5 (.still 6 (.still 7 (.still 8 (.two 2 9 (.eff 9 (.eff 10 (sN 11 2 (.eff 13 .done)))) (.eff 2 (.eff 10 (sN 11 2 (.eff 13 .done))))))))))))) [.sl vc_34 98 2 c_34.length cc_34.flatten, .sl vc_36 102 5 c_36.length (c_36.flatMap cO), .sl vc_37 104 4 c_37.length (c_37.flatMap cR), .row g4 29 [vc_3,vc_4,vc_5,vc_6], .row g2 29 [vp_0,vp_1,vp_2,vp_3], .fr F4] a7 Sx ?_;refine fT ?_;refine fT ?_;refine fT ?_;refine q2G ?_;refine fe ?_;refine cP rfl (dg (i:=i_39) rfl rfl rfl (SlC.mono hp_1 le1_4) (List.length_map _) rfl a5) ?_;refine cP rfl (ep 5 (i:=i_39) rfl rfl rfl (SlC.mono hp_1 le1_4) a5) ?_;refine TS.two ?_ ?_
          ·refine q19 ?_;rintro _ _ ⟨g97,rfl,rfl⟩;refine ma ?_;refine dy ?_;refine q25 ?_;rintro v98 _ ⟨hv98,rfl⟩;refine q3Y ?_;rw [←hn38] at hk;refine q2d ?_;exact q42
          ·refine my ?_;rintro _ _ ⟨g97,rfl,rfl⟩;refine ma ?_;refine dy ?_;refine q1W ?_;refine q25 ?_;rintro v98 _ ⟨hv98,rfl⟩;refine q3Y ?_;rw [←hn38] at hk;refine q2d ?_;exact q42
         ·replace hk:=dn hk h42;refine im ?_;rw [←hn38] at hk;exact K.next ((i_39+1),c_34,vc_34,cc_34,c_35,vc_35,c_36,vc_36,c_37,vc_37) ⟨hk,hc_34,inferInstance,inferInstance,inferInstance,inferInstance⟩ a9 (.c (.c (.c (.c (.c .nil))))) (List.Sublist.refl _)
       ·have p40:=of_decide_eq_false h40;rw [fA a5,←hkk38] at hk; (try dsimp only at hk);refine eF ?_;exact cS (c_34,vc_34,cc_34,c_35,vc_35,c_36,vc_36,c_37,vc_37) ⟨hk,hc_34,inferInstance,inferInstance,inferInstance,inferInstance⟩ (.c (.c (.c (.c .nil)))) (List.Sublist.refl _)
     ·rintro ⟨c_29,vc_29,cc_29,c_30,vc_30,c_31,vc_31,c_32,vc_32⟩ ⟨hk,hc_29,oc_29,oc_30,oc_31,oc_32⟩; (try dsimp only at *);rw [←hk33] at hk; (try dsimp only at hk);refine mD ?_;have hq:=em hk;clear hk;obtain ⟨k47,hk47,hk⟩:=hq; (try dsimp only at hk);refine dc (ι:=List GDomain×Value×List (List Value)×List GPair×Value×List GLoad×Value×List GCap×Value) (fun z=>[(1,vl),(2, .pointer (some ⟨g2,0,none⟩)),(4, .pointer (some ⟨g4,0,none⟩)),(7, .pointer (some ⟨g7,0,none⟩))]) (fun z=>[.sl z.2.1 98 2 z.1.length z.2.2.1.flatten, .sl z.2.2.2.2.1 100 5 z.2.2.2.1.length (z.2.2.2.1.flatMap cN), .sl z.2.2.2.2.2.2.1 102 5 z.2.2.2.2.2.1.length (z.2.2.2.2.2.1.flatMap cO), .sl z.2.2.2.2.2.2.2.2 104 4 z.2.2.2.2.2.2.2.1.length (z.2.2.2.2.2.2.2.1.flatMap cR), .row g7 29 [z.2.1,z.2.2.2.2.1,z.2.2.2.2.2.2.1,z.2.2.2.2.2.2.2.2], .row g4 29 [vc_3,vc_4,vc_5,vc_6], .row g2 29 [vp_0,vp_1,vp_2,vp_3], .fr F4]) (fun z=>k47 (z.1,z.2.2.2.1,z.2.2.2.2.2.1,z.2.2.2.2.2.2.2.1)=some r∧OwnD cJ F4.toFrz 2 z.2.2.1 z.1∧OneC z.2.1∧OneC z.2.2.2.2.1∧OneC z.2.2.2.2.2.2.1∧OneC z.2.2.2.2.2.2.2.2) ?_ ?_
      ·have hq:=fx hk;clear hk;obtain ⟨f52,kk52,hf52,hkk52,hk⟩:=hq;refine fm ?_;refine T.loop (ι:=Nat×List GDomain×Value×List (List Value)×List GPair×Value×List GLoad×Value×List GCap×Value) (fun z=>[(1,vl),(2, .pointer (some ⟨g2,0,none⟩)),(4, .pointer (some ⟨g4,0,none⟩)),(7, .pointer (some ⟨g7,0,none⟩)),(10, .int .i64 (z.1:Int))]) (fun z=>[.sl z.2.2.1 98 2 z.2.1.length z.2.2.2.1.flatten, .sl z.2.2.2.2.2.1 100 5 z.2.2.2.2.1.length (z.2.2.2.2.1.flatMap cN), .sl z.2.2.2.2.2.2.2.1 102 5 z.2.2.2.2.2.2.1.length (z.2.2.2.2.2.2.1.flatMap cO), .sl z.2.2.2.2.2.2.2.2.2 104 4 z.2.2.2.2.2.2.2.2.1.length (z.2.2.2.2.2.2.2.2.1.flatMap cR), .row g7 29 [z.2.2.1,z.2.2.2.2.2.1,z.2.2.2.2.2.2.2.1,z.2.2.2.2.2.2.2.2.2], .row g4 29 [vc_3,vc_4,vc_5,vc_6], .row g2 29 [vp_0,vp_1,vp_2,vp_3], .fr F4]) (fun z=>da f52 kk52 (p.Rules.Loads.length - z.1) z.1 (z.2.1,z.2.2.2.2.1,z.2.2.2.2.2.2.1,z.2.2.2.2.2.2.2.2.1)=some r∧OwnD cJ F4.toFrz 2 z.2.2.2.1 z.2.1∧OneC z.2.2.1∧OneC z.2.2.2.2.2.1∧OneC z.2.2.2.2.2.2.2.1∧OneC z.2.2.2.2.2.2.2.2.2) (fun z=>p.Rules.Loads.length - z.1) (0,c_29,vc_29,cc_29,c_30,vc_30,c_31,vc_31,c_32,vc_32) ?_ ?_ ?_ ?_
       ·exact ⟨hk,hc_29,inferInstance,inferInstance,inferInstance,inferInstance⟩
       ·exact lQ
       ·exact eQ
       ·rintro ⟨i_53,c_48,vc_48,cc_48,c_49,vc_49,c_50,vc_50,c_51,vc_51⟩ ⟨hk,hc_48,oc_48,oc_49,oc_50,oc_51⟩; (try dsimp only at *);refine jp ?_;refine q1w ?_;refine cK (dh rfl rfl (SlC.mono hp_2 le1_4) (List.length_map _)) ?_;have hm105:p.Rules.Loads.length≤9223372036854775807:=(List.length_map _)▸(SlC.mono hp_2 le1_4).max;refine dD ?_;refine T.cond rfl (fun h54=>?_) (fun h54=>?_)
        ·have p54:=of_decide_eq_true h54;rw [fw a5] at hk;generalize hn52:da f52 kk52 (p.Rules.Loads.length - (i_53+1)) (i_53+1)=next52 at hk;rw [←hf52] at hk; (try dsimp only at hk);refine j1 ?_;refine dc (ι:=Unit) (fun z=>[(1,vl),(2, .pointer (some ⟨g2,0,none⟩)),(4, .pointer (some ⟨g4,0,none⟩)),(7, .pointer (some ⟨g7,0,none⟩)),(10, .int .i64 (i_53:Int)),(128, .bool ((d4 l ((cI p.Rules.Loads i_53).To))&&(d4 l ((cI p.Rules.Loads i_53).From))))]) (fun z=>[.sl vc_48 98 2 c_48.length cc_48.flatten, .sl vc_49 100 5 c_49.length (c_49.flatMap cN), .sl vc_50 102 5 c_50.length (c_50.flatMap cO), .sl vc_51 104 4 c_51.length (c_51.flatMap cR), .row g7 29 [vc_48,vc_49,vc_50,vc_51], .row g4 29 [vc_3,vc_4,vc_5,vc_6], .row g2 29 [vp_0,vp_1,vp_2,vp_3], .fr F4]) (fun z=>True) ?_ ?_
         ·refine eS ?_;refine q2T ?_;refine cK (d6 7 (i:=i_53) (j:=0) rfl rfl rfl (SlC.mono hp_2 le1_4) a5) ?_;refine cT (cL rfl rfl rfl (fun w hw=>zcf _ w (hw.fr (i:=7) rfl) l vl (SlC.mono hl le1_4) ((cI p.Rules.Loads i_53).To))) ?_;refine jL ?_;refine dw rfl rfl rfl (fun h55=>?_) (fun h55=>?_)
          ·refine q2T ?_;refine cK (d6 7 (i:=i_53) (j:=1) rfl rfl rfl (SlC.mono hp_2 le1_4) a5) ?_;refine cT (cL rfl rfl rfl (fun w hw=>zcf _ w (hw.fr (i:=7) rfl) l vl (SlC.mono hl le1_4) ((cI p.Rules.Loads i_53).From))) ?_;refine jL ?_;refine fG ?_;exact cS () trivial (.c (.c (.c (.c (.c (.b (l5 h55) .nil)))))) (List.Sublist.refl _)
          ·refine TL.run 10 rfl ?_;refine fG ?_;exact cS () trivial (.c (.c (.c (.c (.c (.b (jr h55).symm .nil)))))) (List.Sublist.refl _)
         ·rintro _ _;refine T.cond rfl (fun h56=>?_) (fun h56=>?_)
          ·replace hk:=dp hk h56;have hq:(dl (c_50++[(cI p.Rules.Loads i_53)]).length 40)∧_:=fQ hk;clear hk;obtain ⟨g139,hk⟩:=hq; (try dsimp only at hk);refine dI (.still 0 (.still 1 (.still 3 (.still 4 (.still 5 (.still 6 (.still 7 (.still 8 (.two 2 9 (.eff 9 (.eff 10 (sN 11 2 (.eff 13 .done)))) (.eff 2 (.eff 10 (sN 11 2 (.eff 13 .done))))))))))))) [.sl vc_48 98 2 c_48.length cc_48.flatten, .sl vc_49 100 5 c_49.length (c_49.flatMap cN), .sl vc_51 104 4 c_51.length (c_51.flatMap cR), .row g4 29 [vc_3,vc_4,vc_5,vc_6], .row g2 29 [vp_0,vp_1,vp_2,vp_3], .fr F4] a7 Sx ?_;refine fT ?_;refine fT ?_;refine fT ?_;refine q2G ?_;refine fe ?_;refine cP rfl (dg (i:=i_53) rfl rfl rfl (SlC.mono hp_2 le1_4) (List.length_map _) rfl a5) ?_;refine cP rfl (ep 5 (i:=i_53) rfl rfl rfl (SlC.mono hp_2 le1_4) a5) ?_;refine TS.two ?_ ?_
           ·refine q19 ?_;rintro _ _ ⟨g138,rfl,rfl⟩;refine ma ?_;refine dy ?_;refine q22 ?_;rintro v139 _ ⟨hv139,rfl⟩;refine q3Y ?_;rw [←hn52] at hk;refine q2d ?_;exact q43
           ·refine my ?_;rintro _ _ ⟨g138,rfl,rfl⟩;refine ma ?_;refine dy ?_;refine q1W ?_;refine q22 ?_;rintro v139 _ ⟨hv139,rfl⟩;refine q3Y ?_;rw [←hn52] at hk;refine q2d ?_;exact q43
          ·replace hk:=dn hk h56;refine im ?_;rw [←hn52] at hk;exact K.next ((i_53+1),c_48,vc_48,cc_48,c_49,vc_49,c_50,vc_50,c_51,vc_51) ⟨hk,hc_48,inferInstance,inferInstance,inferInstance,inferInstance⟩ a9 (.c (.c (.c (.c (.c .nil))))) (List.Sublist.refl _)
        ·have p54:=of_decide_eq_false h54;rw [fA a5,←hkk52] at hk; (try dsimp only at hk);refine eF ?_;exact cS (c_48,vc_48,cc_48,c_49,vc_49,c_50,vc_50,c_51,vc_51) ⟨hk,hc_48,inferInstance,inferInstance,inferInstance,inferInstance⟩ (.c (.c (.c (.c .nil)))) (List.Sublist.refl _)
      ·rintro ⟨c_43,vc_43,cc_43,c_44,vc_44,c_45,vc_45,c_46,vc_46⟩ ⟨hk,hc_43,oc_43,oc_44,oc_45,oc_46⟩; (try dsimp only at *);rw [←hk47] at hk; (try dsimp only at hk);refine mD ?_;have hq:=em hk;clear hk;obtain ⟨k61,hk61,hk⟩:=hq; (try dsimp only at hk);refine dc (ι:=List GDomain×Value×List (List Value)×List GPair×Value×List GLoad×Value×List GCap×Value) (fun z=>[(4, .pointer (some ⟨g4,0,none⟩)),(7, .pointer (some ⟨g7,0,none⟩))]) (fun z=>[.sl z.2.1 98 2 z.1.length z.2.2.1.flatten, .sl z.2.2.2.2.1 100 5 z.2.2.2.1.length (z.2.2.2.1.flatMap cN), .sl z.2.2.2.2.2.2.1 102 5 z.2.2.2.2.2.1.length (z.2.2.2.2.2.1.flatMap cO), .sl z.2.2.2.2.2.2.2.2 104 4 z.2.2.2.2.2.2.2.1.length (z.2.2.2.2.2.2.2.1.flatMap cR), .row g7 29 [z.2.1,z.2.2.2.2.1,z.2.2.2.2.2.2.1,z.2.2.2.2.2.2.2.2], .row g4 29 [vc_3,vc_4,vc_5,vc_6], .fr F4]) (fun z=>k61 (z.1,z.2.2.2.1,z.2.2.2.2.2.1,z.2.2.2.2.2.2.2.1)=some r∧OwnD cJ F4.toFrz 2 z.2.2.1 z.1∧OneC z.2.1∧OneC z.2.2.2.2.1∧OneC z.2.2.2.2.2.2.1∧OneC z.2.2.2.2.2.2.2.2) ?_ ?_
       ·have hq:=fx hk;clear hk;obtain ⟨f66,kk66,hf66,hkk66,hk⟩:=hq;refine fm ?_;refine T.loop (ι:=Nat×List GDomain×Value×List (List Value)×List GPair×Value×List GLoad×Value×List GCap×Value) (fun z=>[(1,vl),(2, .pointer (some ⟨g2,0,none⟩)),(4, .pointer (some ⟨g4,0,none⟩)),(7, .pointer (some ⟨g7,0,none⟩)),(11, .int .i64 (z.1:Int))]) (fun z=>[.sl z.2.2.1 98 2 z.2.1.length z.2.2.2.1.flatten, .sl z.2.2.2.2.2.1 100 5 z.2.2.2.2.1.length (z.2.2.2.2.1.flatMap cN), .sl z.2.2.2.2.2.2.2.1 102 5 z.2.2.2.2.2.2.1.length (z.2.2.2.2.2.2.1.flatMap cO), .sl z.2.2.2.2.2.2.2.2.2 104 4 z.2.2.2.2.2.2.2.2.1.length (z.2.2.2.2.2.2.2.2.1.flatMap cR), .row g7 29 [z.2.2.1,z.2.2.2.2.2.1,z.2.2.2.2.2.2.2.1,z.2.2.2.2.2.2.2.2.2], .row g4 29 [vc_3,vc_4,vc_5,vc_6], .row g2 29 [vp_0,vp_1,vp_2,vp_3], .fr F4]) (fun z=>da f66 kk66 (p.Rules.Caps.length - z.1) z.1 (z.2.1,z.2.2.2.2.1,z.2.2.2.2.2.2.1,z.2.2.2.2.2.2.2.2.1)=some r∧OwnD cJ F4.toFrz 2 z.2.2.2.1 z.2.1∧OneC z.2.2.1∧OneC z.2.2.2.2.2.1∧OneC z.2.2.2.2.2.2.2.1∧OneC z.2.2.2.2.2.2.2.2.2) (fun z=>p.Rules.Caps.length - z.1) (0,c_43,vc_43,cc_43,c_44,vc_44,c_45,vc_45,c_46,vc_46) ?_ ?_ ?_ ?_
        ·exact ⟨hk,hc_43,inferInstance,inferInstance,inferInstance,inferInstance⟩
        ·exact lQ
        ·exact eQ
        ·rintro ⟨i_67,c_62,vc_62,cc_62,c_63,vc_63,c_64,vc_64,c_65,vc_65⟩ ⟨hk,hc_62,oc_62,oc_63,oc_64,oc_65⟩; (try dsimp only at *);refine jp ?_;refine q1w ?_;refine cK (dh rfl rfl (SlC.mono hp_3 le1_4) (List.length_map _)) ?_;have hm146:p.Rules.Caps.length≤9223372036854775807:=(List.length_map _)▸(SlC.mono hp_3 le1_4).max;refine dD ?_;refine T.cond rfl (fun h68=>?_) (fun h68=>?_)
         ·have p68:=of_decide_eq_true h68;rw [fw a5] at hk;generalize hn66:da f66 kk66 (p.Rules.Caps.length - (i_67+1)) (i_67+1)=next66 at hk;rw [←hf66] at hk; (try dsimp only at hk);refine fv ?_;refine q1w ?_;refine dd ?_;refine cK (dg (i:=i_67) rfl rfl rfl (SlC.mono hp_3 le1_4) (List.length_map _) rfl a5) ?_;refine cK (gj rfl rfl (SlC.mono hp_3 le1_4) (List.length_map _) a5) ?_;refine cK (d6 7 (i:=i_67) (j:=0) rfl rfl rfl (SlC.mono hp_3 le1_4) a5) ?_;refine cT (cL rfl rfl rfl (fun w hw=>zcf _ w (hw.fr (i:=7) rfl) l vl (SlC.mono hl le1_4) ((cI p.Rules.Caps i_67).Station))) ?_;refine eP ?_;refine c4 ?_;refine T.cond rfl (fun h69=>?_) (fun h69=>?_)
          ·replace hk:=dp hk h69;have hq:(dl (c_65++[(cI p.Rules.Caps i_67)]).length 32)∧_:=fQ hk;clear hk;obtain ⟨g169,hk⟩:=hq; (try dsimp only at hk);refine dI (.still 0 (.still 1 (.still 3 (.still 4 (.still 5 (.still 6 (.still 7 (.still 8 (.two 2 9 (.eff 9 (.eff 10 (sN 11 2 (.eff 13 .done)))) (.eff 2 (.eff 10 (sN 11 2 (.eff 13 .done))))))))))))) [.sl vc_62 98 2 c_62.length cc_62.flatten, .sl vc_63 100 5 c_63.length (c_63.flatMap cN), .sl vc_64 102 5 c_64.length (c_64.flatMap cO), .row g4 29 [vc_3,vc_4,vc_5,vc_6], .row g2 29 [vp_0,vp_1,vp_2,vp_3], .fr F4] a7 Sx ?_;refine fT ?_;refine fT ?_;refine fT ?_;refine q2G ?_;refine fe ?_;refine cP rfl (dg (i:=i_67) rfl rfl rfl (SlC.mono hp_3 le1_4) (List.length_map _) rfl a5) ?_;refine cP rfl (ep 5 (i:=i_67) rfl rfl rfl (SlC.mono hp_3 le1_4) a5) ?_;refine TS.two ?_ ?_
           ·refine q19 ?_;rintro _ _ ⟨g168,rfl,rfl⟩;refine ma ?_;refine dy ?_;refine q28 ?_;rintro v169 _ ⟨hv169,rfl⟩;refine q3Y ?_;rw [←hn66] at hk;refine q2d ?_;exact q44
           ·refine my ?_;rintro _ _ ⟨g168,rfl,rfl⟩;refine ma ?_;refine dy ?_;refine q1W ?_;refine q28 ?_;rintro v169 _ ⟨hv169,rfl⟩;refine q3Y ?_;rw [←hn66] at hk;refine q2d ?_;exact q44
          ·replace hk:=dn hk h69;refine im ?_;rw [←hn66] at hk;exact K.next ((i_67+1),c_62,vc_62,cc_62,c_63,vc_63,c_64,vc_64,c_65,vc_65) ⟨hk,hc_62,inferInstance,inferInstance,inferInstance,inferInstance⟩ a9 (.c (.c (.c (.c (.c .nil))))) (List.Sublist.refl _)
         ·have p68:=of_decide_eq_false h68;rw [fA a5,←hkk66] at hk; (try dsimp only at hk);refine eF ?_;refine K.pick [0,1,2,3,4,5,7] rfl a6 ?_;exact cS (c_62,vc_62,cc_62,c_63,vc_63,c_64,vc_64,c_65,vc_65) ⟨hk,hc_62,inferInstance,inferInstance,inferInstance,inferInstance⟩ (.c (.c .nil)) (List.Sublist.refl _)
       ·rintro ⟨c_57,vc_57,cc_57,c_58,vc_58,c_59,vc_59,c_60,vc_60⟩ ⟨hk,hc_57,oc_57,oc_58,oc_59,oc_60⟩; (try dsimp only at *);rw [←hk61] at hk; (try dsimp only at hk);refine q23 ?_;rintro F6 ⟨le4_6,hz6⟩;refine iG ?_;have le1_6:=le1_4.trans le4_6;have hf6:=hz6.toD (OwnD.mono (rep:=cJ) (fun _ _ _ _=>GDomain.mono) hc_57 le4_6) rfl;haveI:=hf6.1.oneC;refine i0 (fun w hw=>hw.freezeS (i:=5) (j:=0) a6 rfl rfl) ?_;rintro F7 ⟨le6_7,hz7⟩;refine iG ?_;have le1_7:=le1_6.trans le6_7;have hf7:=hz7.toF rfl GPair.len;haveI:=hf7.oneC;refine i0 (fun w hw=>hw.freezeS (i:=4) (j:=0) a6 rfl rfl) ?_;rintro F8 ⟨le7_8,hz8⟩;refine iG ?_;have le1_8:=le1_7.trans le7_8;have le6_8:=le6_7.trans le7_8;have hf8:=hz8.toF rfl GLoad.len;haveI:=hf8.oneC;refine i0 (fun w hw=>hw.freezeS (i:=3) (j:=0) a6 rfl rfl) ?_;rintro F9 ⟨le8_9,hz9⟩;refine iG ?_;have le1_9:=le1_8.trans le8_9;have le6_9:=le6_8.trans le8_9;have le7_9:=le7_8.trans le8_9;have hf9:=hz9.toF rfl GCap.len;haveI:=hf9.oneC;obtain rfl:=Option.some.inj hk;exact gX 1 rfl rfl rfl rfl rfl (fun w' hw=>⟨(vc_57,cc_57,vc_58,vc_59,vc_60),F9.toFrz,⟨(SlD.mono (rep:=cJ) (fun _ _ _ _=>GDomain.mono) hf6 le6_9),(SlC.mono hf7 le7_9),(SlC.mono hf8 le8_9),hf9⟩,rfl,fN hw (i:=2) rfl hS0 le1_9⟩)
def zcm (fuel:Nat)(p:GProblem)(domains:Int)(rules:Int):Option Bool:=
 dL (fun (_:Unit)=>
  some ((((decide ((p.Domains.length:Int)≤domains))&&(decide ((p.Rules.Pairs.length:Int)≤rules)))&&(decide ((p.Rules.Loads.length:Int)≤rules)))&&(decide ((p.Rules.Caps.length:Int)≤rules))))
 (fun k1=>
  jn (fun (next3:Int→Option Bool) (i_2:Int)=>
   (bif ((decide (i_2<(p.Domains.length:Int)))&&(decide (i_2<600))) then
    eg (0≤i_2∧i_2<(p.Domains.length:Int)) <|
    (bif decide (60<(((cI p.Domains i_2.toNat).Channels).length:Int)) then
     some false
     else
     next3 (i_2+1))
    else
    k1 ())) fuel 0)
theorem zhH (F0:Frz)(w:World)(hF0:F0.At w)(p:GProblem)(vp_0:Value)(cp_0:List (List Value))(hp_0:SlD cJ F0 vp_0 2 cp_0 p.Domains)(vp_1:Value)(hp_1:SlC F0 vp_1 5 (p.Rules.Pairs.map cN))(vp_2:Value)(hp_2:SlC F0 vp_2 5 (p.Rules.Loads.map cO))(vp_3:Value)(hp_3:SlC F0 vp_3 4 (p.Rules.Caps.map cR))(domains:Int)(rules:Int)(fuel:Nat)(r:Bool)(hr:zcm fuel p domains rules=some r):Calls Tryz.prog 32 #[.agg [vp_0,vp_1,vp_2,vp_3].toArray, .int .i64 domains, .int .i64 rules] w fun e w'=>e= .returned (.bool r)∧Below w.heap.size w w':=by
 have hk:=hr;unfold zcm at hk;haveI:=hp_0.1.oneC;haveI:=hp_1.oneC;haveI:=hp_2.oneC;haveI:=hp_3.oneC;obtain ⟨S0,F1,rfl,hS0,hp0⟩:=eX hF0;refine dv Tryz.func32 rfl rfl rfl hp0 ?_;refine iW ?_;rintro _ _ ⟨g3,rfl,rfl⟩;refine jl ?_;refine dD ?_;have hq:=em hk;clear hk;obtain ⟨k1,hk1,hk⟩:=hq; (try dsimp only at hk);refine dc (ι:=Unit) (fun z=>[(1, .int .i64 domains),(2, .int .i64 rules),(3, .pointer (some ⟨g3,0,none⟩))]) (fun z=>[.row g3 29 [vp_0,vp_1,vp_2,vp_3], .fr F1]) (fun z=>k1 ()=some r) ?_ ?_
 ·have hq:=zdT hk;clear hk;obtain ⟨f3,hf3,hk⟩:=hq;refine fm ?_;refine T.loop (ι:=Nat×Int) (fun z=>[(1, .int .i64 domains),(2, .int .i64 rules),(3, .pointer (some ⟨g3,0,none⟩)),(7, .int .i64 z.2)]) (fun z=>[.row g3 29 [vp_0,vp_1,vp_2,vp_3], .fr F1]) (fun z=>jn f3 z.1 z.2=some r) (fun z=>z.1) (fuel,0) ?_ ?_ ?_ ?_
  ·exact hk
  ·exact q4o
  ·exact eQ
  ·rintro ⟨m_4,i_2⟩ hk; (try dsimp only at *);have hq:=zez hk;clear hk;obtain ⟨m_4',rfl,hk⟩:=hq;generalize hn3:jn f3 m_4'=next3 at hk;rw [←hf3] at hk; (try dsimp only at hk);refine T.seq (T.seq ?_);refine dc (ι:=Unit) (fun z=>[(1, .int .i64 domains),(2, .int .i64 rules),(3, .pointer (some ⟨g3,0,none⟩)),(7, .int .i64 i_2),(16, .bool ((decide (i_2<(p.Domains.length:Int)))&&(decide (i_2<600))))]) (fun z=>[.row g3 29 [vp_0,vp_1,vp_2,vp_3], .fr F1]) (fun z=>True) ?_ ?_
   ·refine it ?_;refine ef ?_;refine q2o ?_;have hm11:p.Domains.length≤9223372036854775807:=hp_0.2.1▸hp_0.1.max;refine eh ?_;refine dw rfl rfl rfl (fun h5=>?_) (fun h5=>?_)
    ·have p5:=of_decide_eq_true h5;refine eM ?_;refine fG ?_;exact cS () trivial (.c (.c (.c (.c (.b (l5 h5) .nil))))) (List.Sublist.refl _)
    ·have p5:=of_decide_eq_false h5;refine eM ?_;refine fG ?_;exact cS () trivial (.c (.c (.c (.c (.b (jr h5).symm .nil))))) (List.Sublist.refl _)
   ·rintro _ _;have hm11:p.Domains.length≤9223372036854775807:=hp_0.2.1▸hp_0.1.max;refine T.cond rfl (fun h6=>?_) (fun h6=>?_)
    ·have p6:=h6; (try simp only [cW] at p6);replace hk:=dp hk h6;refine j1 ?_;have hq:(0≤i_2∧i_2<(p.Domains.length:Int))∧_:=fQ hk;clear hk;obtain ⟨g22,hk⟩:=hq; (try dsimp only at hk);refine l4 ?_;refine dd ?_;refine cK (dg (i:=i_2.toNat) rfl rfl rfl hp_0.1 hp_0.2.1 a5 a5) ?_;refine cK (gj rfl rfl hp_0.1 hp_0.2.1 a5) ?_;refine cK (dT 1 (i:=i_2.toNat) (j:=1) rfl rfl rfl hp_0.1 hp_0.2.1 a5 rfl (GDomain.c1 (hp_0.2.2 i_2.toNat a5)).1) ?_;have hd24_1:=(GDomain.c1 (hp_0.2.2 i_2.toNat a5)).2;haveI:=hd24_1.oneC;refine cK (dh rfl rfl hd24_1 (List.length_map _)) ?_;have hm25:((cI p.Domains i_2.toNat).Channels).length≤9223372036854775807:=(List.length_map _)▸hd24_1.max;refine dD ?_;refine T.cond rfl (fun h7=>?_) (fun h7=>?_)
     ·have p7:=of_decide_eq_true h7;replace hk:=dp hk h7;refine iu ?_;obtain rfl:=Option.some.inj hk;exact d7
     ·have p7:=of_decide_eq_false h7;replace hk:=dn hk h7;refine im ?_;rw [←hn3] at hk;exact K.next (m_4',(i_2+1)) hk a9 (.c (.c (.c (.c .nil)))) (List.Sublist.refl _)
    ·replace hk:=dn hk h6;refine eF ?_;exact cS () hk (.c (.c (.c .nil))) (List.Sublist.refl _)
 ·rintro _ hk;rw [←hk1] at hk; (try dsimp only at hk);refine T.seq ?_;refine dc (ι:=Unit) (fun z=>[(6, .bool ((((decide ((p.Domains.length:Int)≤domains))&&(decide ((p.Rules.Pairs.length:Int)≤rules)))&&(decide ((p.Rules.Loads.length:Int)≤rules)))&&(decide ((p.Rules.Caps.length:Int)≤rules))))]) (fun z=>[.row g3 29 [vp_0,vp_1,vp_2,vp_3], .fr F1]) (fun z=>True) ?_ ?_
  ·refine l4 ?_;refine q2o ?_;have hm29:p.Domains.length≤9223372036854775807:=hp_0.2.1▸hp_0.1.max;refine eM ?_;refine dw rfl rfl rfl (fun h8=>?_) (fun h8=>?_)
   ·have p8:=of_decide_eq_true h8;refine fj ?_;refine ef ?_;refine cK (dh rfl rfl hp_1 (List.length_map _)) ?_;have hm36:p.Rules.Pairs.length≤9223372036854775807:=(List.length_map _)▸hp_1.max;refine TL.run 4 rfl ?_;refine dw rfl rfl rfl (fun h9=>?_) (fun h9=>?_)
    ·have p9:=of_decide_eq_true h9;refine fj ?_;refine ef ?_;refine cK (dh rfl rfl hp_2 (List.length_map _)) ?_;have hm44:p.Rules.Loads.length≤9223372036854775807:=(List.length_map _)▸hp_2.max;refine TL.run 4 rfl ?_;refine dw rfl rfl rfl (fun h10=>?_) (fun h10=>?_)
     ·have p10:=of_decide_eq_true h10;refine fj ?_;refine ef ?_;refine cK (dh rfl rfl hp_3 (List.length_map _)) ?_;have hm52:p.Rules.Caps.length≤9223372036854775807:=(List.length_map _)▸hp_3.max;refine ku ?_;exact cS () trivial (.b (l5 (ze6 (ze6 h8 h9) h10)) .nil) (List.Sublist.refl _)
     ·have p10:=of_decide_eq_false h10;refine TL.run 8 rfl ?_;refine fG ?_;exact cS () trivial (.b (jr (ze6 (ze6 h8 h9) h10)).symm .nil) (List.Sublist.refl _)
    ·have p9:=of_decide_eq_false h9;refine TL.run 16 rfl ?_;refine fG ?_;exact cS () trivial (.b (jr (jr (ze6 h8 h9))).symm .nil) (List.Sublist.refl _)
   ·have p8:=of_decide_eq_false h8;refine TL.run 24 rfl ?_;refine fG ?_;exact cS () trivial (.b (jr (jr (jr h8))).symm .nil) (List.Sublist.refl _)
  ·rintro _ _;have hm29:p.Domains.length≤9223372036854775807:=hp_0.2.1▸hp_0.1.max;have hm36:p.Rules.Pairs.length≤9223372036854775807:=(List.length_map _)▸hp_1.max;have hm44:p.Rules.Loads.length≤9223372036854775807:=(List.length_map _)▸hp_2.max;have hm52:p.Rules.Caps.length≤9223372036854775807:=(List.length_map _)▸hp_3.max;refine T.ret ?_;obtain rfl:=Option.some.inj hk;exact d7
def cH (F:Frz)(c:List Value)(x:List GChoice):Prop:=∃(v0:Value),c=[v0]∧SlC F v0 2 (x.map cU)
theorem R_List_GChoice.mono {F G:Frz}{c:List Value}{x:List GChoice}(hle:F.Le G)(h:cH F c x):cH G c x:=by
 obtain ⟨v0,h0,h1⟩:=h;exact ⟨v0,h0,h1.mono hle⟩
theorem R_List_GChoice.len {F:Frz}{c:List Value}{x:List GChoice}(h:cH F c x):c.length=1:=by
 obtain ⟨v0,h0,h1⟩:=h;subst h0;rfl
theorem R_List_GChoice.one {F:Frz}{c:List Value}{x:List GChoice}(h:cH F c x):OneCs c:=by
 obtain ⟨v0,h0,h1⟩:=h;subst h0;haveI:=h1.oneC
 infer_instance
theorem R_List_GChoice.c0 {F:Frz}{c:List Value}{x:List GChoice}(h:cH F c x):c[0]?=some (cI c 0)∧SlC F (cI c 0) 2 (x.map cU):=by
 obtain ⟨v0,h0,h1⟩:=h;subst h0;exact ⟨rfl,h1⟩
theorem kJ {F:Frz}{c:List Value}{x:List GChoice}(h:cH F c x):(c.drop 0).take 1=[cI c 0]:=by
 obtain ⟨v0,h0,h1⟩:=h;subst h0;rfl
def zcV (a:List (List GChoice))(b:List (List GChoice)):Bool:=
 (bif decide (¬(a.length:Int)=(b.length:Int)) then
  false
  else
  dL (fun (_:Unit)=>
   true)
  (fun k2=>
   da (fun (i_4:Nat) (next3:Unit→Bool) (_:Unit)=>
    (bif !(zcd (cI a i_4) (cI b i_4)) then
     false
     else
     next3 ()))
   (fun (_:Unit)=>
    k2 ()) (a.length - 0) 0 ()))
theorem zh8 (F0:Frz)(w:World)(hF0:F0.At w)(a:List (List GChoice))(va:Value)(ca:List (List Value))(ha:SlD cH F0 va 1 ca a)(b:List (List GChoice))(vb:Value)(cb:List (List Value))(hb:SlD cH F0 vb 1 cb b):Calls Tryz.prog 53 #[va,vb] w fun e w'=>e= .returned (.bool (zcV a b))∧Below w.heap.size w w':=by
 obtain ⟨r,hk⟩:∃r,zcV a b=r:=⟨_,rfl⟩;rw [hk];unfold zcV at hk;haveI:=ha.1.oneC;haveI:=hb.1.oneC;obtain ⟨S0,F1,rfl,hS0,hp0⟩:=eX hF0;refine dv Tryz.func53 rfl rfl rfl hp0 ?_;refine i5 ?_;refine cK (dh rfl rfl ha.1 ha.2.1) ?_;have hm7:a.length≤9223372036854775807:=ha.2.1▸ha.1.max;refine dd ?_;refine cK (dh rfl rfl hb.1 hb.2.1) ?_;have hm9:b.length≤9223372036854775807:=hb.2.1▸hb.1.max;refine dD ?_;refine T.cond rfl (fun h1=>?_) (fun h1=>?_)
 ·have p1:=of_decide_eq_true h1;replace hk:=dp hk h1;refine ik ?_;subst hk;exact d7
 ·have p1:=of_decide_eq_false h1;replace hk:=dn hk h1;refine jx ?_;refine dD ?_;have hq:=em hk;clear hk;obtain ⟨k2,hk2,hk⟩:=hq; (try dsimp only at hk);refine dc (ι:=Unit) (fun z=>[]) (fun z=>[.fr F1]) (fun z=>k2 ()=r) ?_ ?_
  ·have hq:=fx hk;clear hk;obtain ⟨f3,kk3,hf3,hkk3,hk⟩:=hq;refine fm ?_;refine T.loop (ι:=Nat) (fun z=>[(0,va),(1,vb),(5, .int .i64 (z:Int))]) (fun z=>[.fr F1]) (fun z=>da f3 kk3 (a.length - z) z ()=r) (fun z=>a.length - z) 0 ?_ ?_ ?_ ?_
   ·exact hk
   ·exact q4m
   ·exact eQ
   ·rintro i_4 hk;refine mm ?_;refine cK (dh rfl rfl ha.1 ha.2.1) ?_;refine dD ?_;refine T.cond rfl (fun h5=>?_) (fun h5=>?_)
    ·have p5:=of_decide_eq_true h5;rw [fw a5] at hk;generalize hn3:da f3 kk3 (a.length - (i_4+1)) (i_4+1)=next3 at hk;rw [←hf3] at hk; (try dsimp only at hk);refine q3p ?_;refine gM ?_;refine cP rfl (dg (i:=i_4) rfl rfl rfl ha.1 ha.2.1 rfl a5) ?_;refine cP rfl (dT 0 (i:=i_4) (j:=0) rfl rfl rfl ha.1 ha.2.1 a5 rfl (R_List_GChoice.c0 (ha.2.2 i_4 a5)).1) ?_;have hd20_0:=(R_List_GChoice.c0 (ha.2.2 i_4 a5)).2;haveI:=hd20_0.oneC;refine gM ?_;refine cP rfl (dg (i:=i_4) rfl rfl rfl hb.1 hb.2.1 rfl a5) ?_;refine cP rfl (dT 0 (i:=i_4) (j:=0) rfl rfl rfl hb.1 hb.2.1 a5 rfl (R_List_GChoice.c0 (hb.2.2 i_4 a5)).1) ?_;have hd24_0:=(R_List_GChoice.c0 (hb.2.2 i_4 a5)).2;haveI:=hd24_0.oneC;refine dy ?_;refine c6 rfl (Wt.none) rfl rfl (cL rfl rfl rfl (fun w hw=>zfT _ w (hw.fr (i:=0) rfl) (cI a i_4) (cI (cI ca i_4) 0) hd20_0 (cI b i_4) (cI (cI cb i_4) 0) hd24_0)) ?_;refine jZ ?_;refine j9 ?_;refine T.cond rfl (fun h6=>?_) (fun h6=>?_)
     ·replace hk:=dp hk h6;refine iu ?_;subst hk;exact d7
     ·replace hk:=dn hk h6;refine im ?_;rw [←hn3] at hk;exact q4K
    ·have p5:=of_decide_eq_false h5;rw [fA a5,←hkk3] at hk; (try dsimp only at hk);refine eF ?_;exact kx
  ·rintro _ hk;rw [←hk2] at hk; (try dsimp only at hk);refine kd ?_;subst hk;exact d7
def zcr (fuel:Nat)(l:List (List GChoice))(most:Int):Option Bool:=
 dL (fun (_:Unit)=>
  some (decide ((l.length:Int)≤most)))
 (fun k1=>
  jn (fun (next3:Int→Option Bool) (i_2:Int)=>
   (bif ((decide (i_2<(l.length:Int)))&&(decide (i_2≤most))) then
    eg (0≤i_2∧i_2<(l.length:Int)) <|
    (bif decide (20<((cI l i_2.toNat).length:Int)) then
     some false
     else
     next3 (i_2+1))
    else
    k1 ())) fuel 0)
theorem zhx (F0:Frz)(w:World)(hF0:F0.At w)(l:List (List GChoice))(vl:Value)(cl:List (List Value))(hl:SlD cH F0 vl 1 cl l)(most:Int)(fuel:Nat)(r:Bool)(hr:zcr fuel l most=some r):Calls Tryz.prog 57 #[vl, .int .i64 most] w fun e w'=>e= .returned (.bool r)∧Below w.heap.size w w':=by
 have hk:=hr;unfold zcr at hk;haveI:=hl.1.oneC;obtain ⟨S0,F1,rfl,hS0,hp0⟩:=eX hF0;refine dv Tryz.func57 rfl rfl rfl hp0 ?_;refine q3R ?_;have hq:=em hk;clear hk;obtain ⟨k1,hk1,hk⟩:=hq; (try dsimp only at hk);refine dc (ι:=Unit) (fun z=>[(0,vl),(1, .int .i64 most)]) (fun z=>[.fr F1]) (fun z=>k1 ()=some r) ?_ ?_
 ·have hq:=zdT hk;clear hk;obtain ⟨f3,hf3,hk⟩:=hq;refine fm ?_;refine T.loop (ι:=Nat×Int) (fun z=>[(0,vl),(1, .int .i64 most),(5, .int .i64 z.2)]) (fun z=>[.fr F1]) (fun z=>jn f3 z.1 z.2=some r) (fun z=>z.1) (fuel,0) ?_ ?_ ?_ ?_
  ·exact hk
  ·exact q4m
  ·exact eQ
  ·rintro ⟨m_4,i_2⟩ hk; (try dsimp only at *);have hq:=zez hk;clear hk;obtain ⟨m_4',rfl,hk⟩:=hq;generalize hn3:jn f3 m_4'=next3 at hk;rw [←hf3] at hk; (try dsimp only at hk);refine T.seq (T.seq ?_);refine dc (ι:=Unit) (fun z=>[(0,vl),(1, .int .i64 most),(5, .int .i64 i_2),(14, .bool ((decide (i_2<(l.length:Int)))&&(decide (i_2≤most))))]) (fun z=>[.fr F1]) (fun z=>True) ?_ ?_
   ·refine i1 ?_;refine cK (dh rfl rfl hl.1 hl.2.1) ?_;have hm8:l.length≤9223372036854775807:=hl.2.1▸hl.1.max;refine eh ?_;refine dw rfl rfl rfl (fun h5=>?_) (fun h5=>?_)
    ·have p5:=of_decide_eq_true h5;refine ku ?_;exact cS () trivial (.c (.c (.c (.b (l5 h5) .nil)))) (List.Sublist.refl _)
    ·have p5:=of_decide_eq_false h5;refine ku ?_;exact cS () trivial (.c (.c (.c (.b (jr h5).symm .nil)))) (List.Sublist.refl _)
   ·rintro _ _;have hm8:l.length≤9223372036854775807:=hl.2.1▸hl.1.max;refine T.cond rfl (fun h6=>?_) (fun h6=>?_)
    ·have p6:=h6; (try simp only [cW] at p6);replace hk:=dp hk h6;refine j1 ?_;have hq:(0≤i_2∧i_2<(l.length:Int))∧_:=fQ hk;clear hk;obtain ⟨g19,hk⟩:=hq; (try dsimp only at hk);refine i1 ?_;refine cK (dg (i:=i_2.toNat) rfl rfl rfl hl.1 hl.2.1 a5 a5) ?_;refine cK (dT 0 (i:=i_2.toNat) (j:=0) rfl rfl rfl hl.1 hl.2.1 a5 rfl (R_List_GChoice.c0 (hl.2.2 i_2.toNat a5)).1) ?_;have hd20_0:=(R_List_GChoice.c0 (hl.2.2 i_2.toNat a5)).2;haveI:=hd20_0.oneC;refine cK (dh rfl rfl hd20_0 (List.length_map _)) ?_;have hm21:(cI l i_2.toNat).length≤9223372036854775807:=(List.length_map _)▸hd20_0.max;refine dD ?_;refine T.cond rfl (fun h7=>?_) (fun h7=>?_)
     ·have p7:=of_decide_eq_true h7;replace hk:=dp hk h7;refine iu ?_;obtain rfl:=Option.some.inj hk;exact d7
     ·have p7:=of_decide_eq_false h7;replace hk:=dn hk h7;refine im ?_;rw [←hn3] at hk;exact K.next (m_4',(i_2+1)) hk a9 (.c (.c (.c .nil))) (List.Sublist.refl _)
    ·replace hk:=dn hk h6;refine eF ?_;exact cS () hk (.c (.c .nil)) (List.Sublist.refl _)
 ·rintro _ hk;rw [←hk1] at hk; (try dsimp only at hk);refine f7 ?_;refine cK (dh rfl rfl hl.1 hl.2.1) ?_;have hm24:l.length≤9223372036854775807:=hl.2.1▸hl.1.max;refine eM ?_;refine gb ?_;obtain rfl:=Option.some.inj hk;exact d7
theorem zlh (F0:Frz)(w:World)(hF0:F0.At w)(l:List GChoice)(vl:Value)(hl:SlC F0 vl 2 (l.map cU))(hr:dl l.length 16):Calls Tryz.prog 50 #[vl] w fun e w'=>∃v':Value,True∧e= .returned v'∧Hp w (fun _=>False) [.sl v' 68 2 l.length (l.flatMap cU)] w':=by
 haveI:=hl.oneC;have hl0:=hl;obtain ⟨A,cap,hv,hlc,hcm,hcl,hcs⟩:=hl0;have hlen:(l.map cU).length=l.length:=List.length_map _;obtain ⟨S0,F1,hF1,hS0,hp0⟩:=eX hF0
 cases hA:A with
 |none=>
  have h0:l=[]:=by
   cases l with
   |nil=>rfl
   |cons x r=>
    obtain ⟨g,off,h1,_⟩:=hcs a8;rw [hA] at h1;cases h1
  subst h0;refine dv (M:=fun _=>False) (hs:=[.fr F1]) Tryz.func50 rfl rfl rfl hp0 ?_;refine q2U ?_;refine f7 ?_;refine TL.slNil 68 2 ?_;refine j8 ?_;exact cX rfl rfl (fun w' hw=>⟨.slice none 0 0,trivial,rfl,hw.sub Sx⟩)
 |some a=>
  rw [←hF1] at hl;refine dv (M:=fun _=>False) (hs:=[.fr F1]) Tryz.func50 rfl rfl rfl hp0 ?_;refine q12 ?_;rintro _ _ ⟨g,rfl,rfl⟩;refine dd ?_;refine cT (lH 0 1 (k':=l.length) (l':=l.flatMap cU) (ziV (enc:=cU) (fun _=>inferInstance)) rfl rfl rfl rfl rfl hl cD (by rw [List.nil_append,←List.flatMap_def]) hr a6) ?_;rintro v' _ ⟨hv',rfl⟩;refine fo ?_;exact cX rfl rfl (fun w' hw=>⟨v',trivial,rfl,hw.sub Sx⟩)
theorem zgd (F0:Frz)(w:World)(hF0:F0.At w)(l:List GChoice)(vl:Value)(hl:SlC F0 vl 2 (l.map cU))(hr:dl l.length 16):Calls Tryz.prog 50 #[vl] w fun e w'=>∃(y:Value) (G:Frz),SlC G y 2 (l.map cU)∧e= .returned y∧Fx F0 w G w':=by
 refine (zlh F0 w hF0 l vl hl hr).mono ?_;rintro e w' ⟨v',_,rfl,hw⟩;obtain ⟨G,h1,h2,h3⟩:=Fx.hp hF0 hw;have h4:=i4 (G:=G) (hw.own (.sl v' 68 2 l.length (l.flatMap cU)) a8) h2 (h3 _ a8);exact ⟨v',G,h4.toF rfl (fun _=>rfl),rfl,h1⟩
theorem zfv (F0:Frz)(w:World)(hF0:F0.At w)(l:List (List GChoice))(vl:Value)(cl:List (List Value))(hl:SlD cH F0 vl 1 cl l)(hr:dl l.length 24):Calls Tryz.prog 48 #[vl] w fun e w'=>∃v':Value,True∧e= .returned v'∧Hp w (fun _=>False) [.sl v' 50 1 l.length cl.flatten] w':=by
 haveI:=hl.1.oneC;have hl0:=hl.1;obtain ⟨A,cap,hv,hlc,hcm,hcl,hcs⟩:=hl0;have hlen:=hl.2.1;obtain ⟨S0,F1,hF1,hS0,hp0⟩:=eX hF0
 cases hA:A with
 |none=>
  have h0:l=[]:=by
   refine List.eq_nil_of_length_eq_zero ?_;rw [←hlen];refine Nat.eq_zero_of_not_pos fun h=>?_;obtain ⟨g,off,h1,_⟩:=hcs h;rw [hA] at h1;cases h1
  subst h0;obtain rfl:cl=[]:=List.eq_nil_of_length_eq_zero hlen;refine dv (M:=fun _=>False) (hs:=[.fr F1]) Tryz.func48 rfl rfl rfl hp0 ?_;refine q2U ?_;refine f7 ?_;refine TL.slNil 50 1 ?_;refine j8 ?_;exact cX rfl rfl (fun w' hw=>⟨.slice none 0 0,trivial,rfl,hw.sub Sx⟩)
 |some a=>
  rw [←hF1] at hl;refine dv (M:=fun _=>False) (hs:=[.fr F1]) Tryz.func48 rfl rfl rfl hp0 ?_;refine q12 ?_;rintro _ _ ⟨g,rfl,rfl⟩;refine dd ?_;refine cT (lH 0 1 (k':=l.length) (l':=cl.flatten) (znt hl (fun _ _ _=>R_List_GChoice.one)) rfl rfl rfl rfl rfl hl.1 (by rw [hl.2.1];omega) (by rw [List.nil_append]) hr a6) ?_;rintro v' _ ⟨hv',rfl⟩;refine fo ?_;exact cX rfl rfl (fun w' hw=>⟨v',trivial,rfl,hw.sub Sx⟩)
theorem zfz (F0:Frz)(w:World)(hF0:F0.At w)(l:List Int)(vl:Value)(hl:SlC F0 vl 1 (l.map eI))(hr:dl l.length 8):Calls Tryz.prog 51 #[vl] w fun e w'=>∃(y:Value) (G:Frz),SlC G y 1 (l.map eI)∧e= .returned y∧Fx F0 w G w':=by
 haveI:=hl.oneC;have hl0:=hl;obtain ⟨A,cap,hv,hlc,hcm,hcl,hcs⟩:=hl0;have hlen:(l.map eI).length=l.length:=List.length_map _
 cases hA:A with
 |none=>
  have h0:¬0<l.length:=fun h=>by
   obtain ⟨g,off,h1,_⟩:=hcs (by rw [hlen];exact h);rw [hA] at h1;cases h1
  refine Calls.mono (R:=fun e w'=>e= .returned (.slice none 0 0)∧Below w.heap.size w w') ?_ ?_
  ·obtain ⟨S0,F1,hF1,hS0,hp0⟩:=eX hF0;refine dv (M:=fun _=>False) (hs:=[.fr F1]) Tryz.func51 rfl rfl rfl hp0 ?_;refine q2U ?_;refine ik ?_;exact d7
  ·rintro e w' ⟨rfl,hb⟩
   cases l with
   |nil=>exact ⟨.slice none 0 0,F0,SlC.nil _ 1,rfl,Fx.refl hF0 hb⟩
   |cons x r=>simp at h0
 |some a=>
  refine Calls.mono (R:=fun e w'=>∃v':Value,e= .returned v'∧Hp w (fun _=>False) [.sl v' 3 1 l.length (l.flatMap eI)] w') ?_ ?_
  ·obtain ⟨S0,F1,hF1,hS0,hp0⟩:=eX hF0;rw [←hF1] at hl;refine dv (M:=fun _=>False) (hs:=[.fr F1]) Tryz.func51 rfl rfl rfl hp0 ?_;refine q12 ?_;rintro _ _ ⟨g,rfl,rfl⟩;refine dd ?_;refine cT (lH 0 1 (k':=l.length) (l':=l.flatMap eI) (ziV (enc:=eI) (fun _=>inferInstance)) rfl rfl rfl rfl rfl hl cD (by rw [List.nil_append,←List.flatMap_def]) hr a6) ?_;rintro v' _ ⟨hv',rfl⟩;refine fo ?_;exact cX rfl rfl (fun w' hw=>⟨v',rfl,hw.sub Sx⟩)
  ·rintro e w' ⟨v',rfl,hw⟩;obtain ⟨G,h1,h2,h3⟩:=Fx.hp hF0 hw;have h4:=i4 (G:=G) (hw.own (.sl v' 3 1 l.length (l.flatMap eI)) a8) h2 (h3 _ a8);exact ⟨v',G,h4.toF rfl (fun _=>rfl),rfl,h1⟩
theorem zjT {F0 : Frz} {w : World} {vd vp vl vc : Value} {cd : List (List Value)} {p : GProblem} (hF0 : F0.At w) (h : PbF F0 vd cd vp vl vc p) :
    Calls Tryz.prog 72 #[.agg [vd, vp, vl, vc].toArray] w fun e w' => e = .returned (.bool (gJ p)) ∧ Below w.heap.size w w' := by
  obtain ⟨P, rfl, hP⟩ := zi2 h hF0; rw [← znM]; exact zgw P vd vp vl vc w hP
end Go.Proofs.YtogbggmckmnlfaaGreatDoor
