/- Yc Yn Sk: shortened and put together by squeeze.py. -/
import Derived.Test.YtogbggmckmnlfaaGreatDoorQ08
set_option maxRecDepth 100000
set_option maxHeartbeats 4000000
set_option linter.unusedVariables false
set_option linter.unusedSectionVars false
set_option linter.unusedSimpArgs false
namespace Go.Proofs.YtogbggmckmnlfaaGreatDoor
open Go.RowKit
theorem b4 {p:Prop}(h:p:=by rw [Vec.len];first|omega|(simp only [List.length_cons,List.length_nil];omega)):p:=h
structure GViolation where
 Kind:Int
 At:Int
deriving DecidableEq,Inhabited
abbrev jw (x:GViolation):List Value:=[.int .i64 x.Kind, .int .i64 x.At]
theorem GViolation.len (x:GViolation):(jw x).length=2:=rfl
def zaQ (l:List Int):Bool:=
 dH (fun (_:Unit)=>
  true)
 (fun k1=>
  c6 (fun (i_3:Nat) (next2:Unit→Bool) (_:Unit)=>
   (bif ((!(kb (cJ l i_3)))||((decide (0<(i_3:Int)))&&(decide ((cJ l i_3)≤(cJ l (((i_3:Int) - 1).toNat)))))) then
    false
    else
    next2 ()))
  (fun (_:Unit)=>
   k1 ()) (l.length - 0) 0 ())
theorem zdf (F0:Frz)(w:World)(hF0:F0.At w)(l:List Int)(vl:Value)(hl:SlC F0 vl 1 (l.map eI)):Calls Tryz.prog 44 #[vl] w fun e w'=>e= .returned (.bool (zaQ l))∧Below w.heap.size w w':=by
 obtain ⟨r,hk⟩:∃r,zaQ l=r:=⟨_,rfl⟩;rw [hk];unfold zaQ at hk;haveI:=hl.oneC;obtain ⟨S0,F1,rfl,hS0,hp0⟩:=ey hF0;refine dt Tryz.func44 rfl rfl rfl hp0 ?_;refine gy ?_;refine mc ?_;have hq:=d7 hk;clear hk;obtain ⟨k1,hk1,hk⟩:=hq; (try dsimp only at hk);refine cZ (ι:=Unit) (fun z=>[]) (fun z=>[.fr F1]) (fun z=>k1 ()=r) ?_ ?_
 ·have hq:=eS hk;clear hk;obtain ⟨f2,kk2,hf2,hkk2,hk⟩:=hq;refine eA ?_;refine T.loop (ι:=Nat) (fun z=>[(0,vl),(3, .int .i64 (z:Int))]) (fun z=>[.fr F1]) (fun z=>c6 f2 kk2 (l.length - z) z ()=r) (fun z=>l.length - z) 0 ?_ ?_ ?_ ?_
  ·exact hk
  ·exact nE
  ·exact eh
  ·rintro i_3 hk;refine iC ?_;refine q2D ?_;have hm6:l.length≤9223372036854775807:=(List.length_map _)▸hl.max;refine dA ?_;refine T.cond rfl (fun h4=>?_) (fun h4=>?_)
   ·have p4:=of_decide_eq_true h4;rw [eQ a5] at hk;generalize hn2:c6 f2 kk2 (l.length - (i_3+1)) (i_3+1)=next2 at hk;rw [←hf2] at hk; (try dsimp only at hk);refine je ?_;refine cZ (ι:=Unit) (fun z=>[(0,vl),(3, .int .i64 (i_3:Int)),(31, .bool ((!(kb (cJ l i_3)))||((decide (0<(i_3:Int)))&&(decide ((cJ l i_3)≤(cJ l (((i_3:Int) - 1).toNat)))))))]) (fun z=>[.fr F1]) (fun z=>True) ?_ ?_
    ·refine dD (sN 0 4 (.eff 4 (sN 5 16 (.still 21 .done)))) _ a7 (List.Sublist.refl _) ?_;refine q1A ?_;refine q2M ?_;refine dy ?_;refine cW rfl (Wt.none) rfl rfl (cM rfl rfl rfl (fun w hw=>zbl _ w (hw.fr (i:=0) rfl) (cJ l i_3))) ?_;refine mL ?_;refine dB rfl rfl rfl rfl (fun h5=>?_) (fun h5=>?_)
     ·refine TS.run 15 rfl ?_;refine gh ?_;exact cS () trivial (.c (.c (.b (ie h5).symm .nil))) (List.Sublist.refl _)
     ·refine gb ?_;refine dB rfl rfl rfl rfl (fun h6=>?_) (fun h6=>?_)
      ·have p6:=of_decide_eq_true h6;refine gV ?_;refine q2j ?_;refine q3k ?_;refine q2M ?_;refine gb ?_;refine gh ?_;exact cS () trivial (.c (.c (.b (Eq.trans (ku h6) (f9 h5)) .nil))) (List.Sublist.refl _)
      ·have p6:=of_decide_eq_false h6;refine TS.run 12 rfl ?_;refine gh ?_;exact cS () trivial (.c (.c (.b (jK h5 (gr h6)).symm .nil))) (List.Sublist.refl _)
    ·rintro _ _;refine T.cond rfl (fun h7=>?_) (fun h7=>?_)
     ·replace hk:=dr hk h7;refine gN ?_;subst hk;exact dW
     ·replace hk:=dq hk h7;refine ga ?_;rw [←hn2] at hk;exact K.next (i_3+1) hk a5 (.c (.c .nil)) (List.Sublist.refl _)
   ·have p4:=of_decide_eq_false h4;rw [eO a5,←hkk2] at hk; (try dsimp only at hk);refine eC ?_;exact jS
 ·rintro _ hk;rw [←hk1] at hk; (try dsimp only at hk);refine jB ?_;subst hk;exact dW
def zce (p:GProblem)(l:List Int):Option (GProblem×Int):=
 (zbw p).bind fun r13=>
 (bif ((!r13)||(!(zaQ l))) then
  some ((GProblem.mk [] (GRules.mk [] [] [])),2)
  else
  dH (fun (s7:List GDomain×List GPair×List GLoad×List GCap)=>
   dH (fun (s20:List GDomain×List GPair×List GLoad×List GCap)=>
    dH (fun (s33:List GDomain×List GPair×List GLoad×List GCap)=>
     dH (fun (s47:List GDomain×List GPair×List GLoad×List GCap)=>
      dH (fun (s61:List GDomain×List GPair×List GLoad×List GCap)=>
       some ((GProblem.mk s61.1 (GRules.mk s61.2.1 s61.2.2.1 s61.2.2.2)),0))
      (fun k61=>
       c6 (fun (i_67:Nat) (next66:(List GDomain×List GPair×List GLoad×List GCap)→Option (GProblem×Int)) (s66:List GDomain×List GPair×List GLoad×List GCap)=>
        (bif (ed l ((cJ p.Rules.Caps i_67).Station)) then
         ej (dl (s66.2.2.2++[(cJ p.Rules.Caps i_67)]).length 32) <|
         next66 (s66.1,s66.2.1,s66.2.2.1,(s66.2.2.2++[(cJ p.Rules.Caps i_67)]))
         else
         next66 (s66.1,s66.2.1,s66.2.2.1,s66.2.2.2)))
       (fun (s66:List GDomain×List GPair×List GLoad×List GCap)=>
        k61 (s66.1,s66.2.1,s66.2.2.1,s66.2.2.2)) (p.Rules.Caps.length - 0) 0 (s47.1,s47.2.1,s47.2.2.1,s47.2.2.2)))
     (fun k47=>
      c6 (fun (i_53:Nat) (next52:(List GDomain×List GPair×List GLoad×List GCap)→Option (GProblem×Int)) (s52:List GDomain×List GPair×List GLoad×List GCap)=>
       (bif ((ed l ((cJ p.Rules.Loads i_53).To))&&(ed l ((cJ p.Rules.Loads i_53).From))) then
        ej (dl (s52.2.2.1++[(cJ p.Rules.Loads i_53)]).length 40) <|
        next52 (s52.1,s52.2.1,(s52.2.2.1++[(cJ p.Rules.Loads i_53)]),s52.2.2.2)
        else
        next52 (s52.1,s52.2.1,s52.2.2.1,s52.2.2.2)))
      (fun (s52:List GDomain×List GPair×List GLoad×List GCap)=>
       k47 (s52.1,s52.2.1,s52.2.2.1,s52.2.2.2)) (p.Rules.Loads.length - 0) 0 (s33.1,s33.2.1,s33.2.2.1,s33.2.2.2)))
    (fun k33=>
     c6 (fun (i_39:Nat) (next38:(List GDomain×List GPair×List GLoad×List GCap)→Option (GProblem×Int)) (s38:List GDomain×List GPair×List GLoad×List GCap)=>
      (bif ((ed l ((cJ p.Rules.Pairs i_39).A))&&(ed l ((cJ p.Rules.Pairs i_39).B))) then
       ej (dl (s38.2.1++[(cJ p.Rules.Pairs i_39)]).length 40) <|
       next38 (s38.1,(s38.2.1++[(cJ p.Rules.Pairs i_39)]),s38.2.2.1,s38.2.2.2)
       else
       next38 (s38.1,s38.2.1,s38.2.2.1,s38.2.2.2)))
     (fun (s38:List GDomain×List GPair×List GLoad×List GCap)=>
      k33 (s38.1,s38.2.1,s38.2.2.1,s38.2.2.2)) (p.Rules.Pairs.length - 0) 0 (s20.1,s20.2.1,s20.2.2.1,s20.2.2.2)))
   (fun k20=>
    c6 (fun (i_26:Nat) (next25:(List GDomain×List GPair×List GLoad×List GCap)→Option (GProblem×Int)) (s25:List GDomain×List GPair×List GLoad×List GCap)=>
     (bif (ed l ((cJ p.Domains i_26).Station)) then
      ej (dl (s25.1++[(cJ p.Domains i_26)]).length 32) <|
      next25 ((s25.1++[(cJ p.Domains i_26)]),s25.2.1,s25.2.2.1,s25.2.2.2)
      else
      next25 (s25.1,s25.2.1,s25.2.2.1,s25.2.2.2)))
    (fun (s25:List GDomain×List GPair×List GLoad×List GCap)=>
     k20 (s25.1,s25.2.1,s25.2.2.1,s25.2.2.2)) (p.Domains.length - 0) 0 ([],[],[],[])))
  (fun k7=>
   c6 (fun (i_13:Nat) (next12:(List GDomain×List GPair×List GLoad×List GCap)→Option (GProblem×Int)) (s12:List GDomain×List GPair×List GLoad×List GCap)=>
    (bif decide ((fF p (cJ l i_13))<0) then
     some ((GProblem.mk [] (GRules.mk [] [] [])),9)
     else
     next12 (s12.1,s12.2.1,s12.2.2.1,s12.2.2.2)))
   (fun (s12:List GDomain×List GPair×List GLoad×List GCap)=>
    k7 (s12.1,s12.2.1,s12.2.2.1,s12.2.2.2)) (l.length - 0) 0 ([],[],[],[])))
theorem zgo (F0:Frz)(w:World)(hF0:F0.At w)(p:GProblem)(vp_0:Value)(cp_0:List (List Value))(hp_0:SlD cK F0 vp_0 2 cp_0 p.Domains)(vp_1:Value)(hp_1:SlC F0 vp_1 5 (p.Rules.Pairs.map cO))(vp_2:Value)(hp_2:SlC F0 vp_2 5 (p.Rules.Loads.map cP))(vp_3:Value)(hp_3:SlC F0 vp_3 4 (p.Rules.Caps.map cR))(l:List Int)(vl:Value)(hl:SlC F0 vl 1 (l.map eI))(r:GProblem×Int)(hr:zce p l=some r):Calls Tryz.prog 23 #[.agg [vp_0,vp_1,vp_2,vp_3].toArray,vl] w fun e w'=>∃(y:Value×List (List Value)×Value×Value×Value) (G:Frz),(SlD cK G y.1 2 y.2.1 r.1.Domains∧SlC G y.2.2.1 5 (r.1.Rules.Pairs.map cO)∧SlC G y.2.2.2.1 5 (r.1.Rules.Loads.map cP)∧SlC G y.2.2.2.2 4 (r.1.Rules.Caps.map cR))∧e= .returned (.tuple #[.agg [y.1,y.2.2.1,y.2.2.2.1,y.2.2.2.2].toArray, .int .i64 r.2])∧Fx F0 w G w':=by
 have hk:=hr;unfold zce at hk;haveI:=hp_0.1.oneC;haveI:=hp_1.oneC;haveI:=hp_2.oneC;haveI:=hp_3.oneC;haveI:=hl.oneC;obtain ⟨S0,F1,rfl,hS0,hp0⟩:=ey hF0;refine dt Tryz.func23 rfl rfl rfl hp0 ?_;refine gp ?_;rintro _ _ ⟨g2,rfl,rfl⟩;refine fX ?_;rintro _ _ ⟨g4,rfl,rfl⟩;refine mJ ?_;have hq:=d5 hk;clear hk;obtain ⟨r13,hr13,hk⟩:=hq; (try dsimp only at hk);refine cZ (ι:=Unit) (fun z=>[(1,vl),(2, .pointer (some ⟨g2,0,none⟩)),(4, .pointer (some ⟨g4,0,none⟩)),(19, .bool ((!r13)||(!(zaQ l))))]) (fun z=>[.row g4 29 [(.slice none 0 0),(.slice none 0 0),(.slice none 0 0),(.slice none 0 0)], .row g2 29 [vp_0,vp_1,vp_2,vp_3], .fr F1]) (fun z=>True) ?_ ?_
 ·refine my ?_;refine cU (cM rfl rfl rfl (fun w hw=>zea _ w (hw.fr (i:=2) rfl) p vp_0 cp_0 hp_0 vp_1 hp_1 vp_2 hp_2 vp_3 hp_3 r13 hr13)) ?_;refine kx ?_;refine dn rfl rfl rfl (fun h1=>?_) (fun h1=>?_)
  ·refine kA ?_;exact cS () trivial (.c (.c (.c (.b (ie h1).symm .nil)))) (List.Sublist.refl _)
  ·refine di ?_;refine cU (cM rfl rfl rfl (fun w hw=>zdf _ w (hw.fr (i:=2) rfl) l vl hl)) ?_;refine lc ?_;exact cS () trivial (.c (.c (.c (.b (f9 h1) .nil)))) (List.Sublist.refl _)
 ·rintro _ _;refine T.cond rfl (fun h2=>?_) (fun h2=>?_)
  ·replace hk:=dr hk h2;refine q4P ?_;refine j8 ?_;refine di ?_;refine kh ?_;obtain rfl:=Option.some.inj hk;exact q5G
  ·replace hk:=dq hk h2;refine m5 ?_;have hq:=d7 hk;clear hk;obtain ⟨k7,hk7,hk⟩:=hq; (try dsimp only at hk);refine cZ (ι:=List GDomain×Value×List (List Value)×List GPair×Value×List GLoad×Value×List GCap×Value×FzB w (fun _=>False) S0) (fun z=>[(1,vl),(2, .pointer (some ⟨g2,0,none⟩)),(4, .pointer (some ⟨g4,0,none⟩))]) (fun z=>[.row g4 29 [z.2.1,z.2.2.2.2.1,z.2.2.2.2.2.2.1,z.2.2.2.2.2.2.2.2.1], .row g2 29 [vp_0,vp_1,vp_2,vp_3], .fr z.2.2.2.2.2.2.2.2.2]) (fun z=>k7 (z.1,z.2.2.2.1,z.2.2.2.2.2.1,z.2.2.2.2.2.2.2.1)=some r∧SlD cK z.2.2.2.2.2.2.2.2.2.toFrz z.2.1 2 z.2.2.1 z.1∧SlC z.2.2.2.2.2.2.2.2.2.toFrz z.2.2.2.2.1 5 (z.2.2.2.1.map cO)∧SlC z.2.2.2.2.2.2.2.2.2.toFrz z.2.2.2.2.2.2.1 5 (z.2.2.2.2.2.1.map cP)∧SlC z.2.2.2.2.2.2.2.2.2.toFrz z.2.2.2.2.2.2.2.2.1 4 (z.2.2.2.2.2.2.2.1.map cR)∧F1.toFrz.Le z.2.2.2.2.2.2.2.2.2.toFrz) ?_ ?_
   ·have hq:=eS hk;clear hk;obtain ⟨f12,kk12,hf12,hkk12,hk⟩:=hq;refine eA ?_;refine T.loop (ι:=Nat×List GDomain×Value×List (List Value)×List GPair×Value×List GLoad×Value×List GCap×Value×FzB w (fun _=>False) S0) (fun z=>[(1,vl),(2, .pointer (some ⟨g2,0,none⟩)),(4, .pointer (some ⟨g4,0,none⟩)),(6, .int .i64 (z.1:Int))]) (fun z=>[.row g4 29 [z.2.2.1,z.2.2.2.2.2.1,z.2.2.2.2.2.2.2.1,z.2.2.2.2.2.2.2.2.2.1], .row g2 29 [vp_0,vp_1,vp_2,vp_3], .fr z.2.2.2.2.2.2.2.2.2.2]) (fun z=>c6 f12 kk12 (l.length - z.1) z.1 (z.2.1,z.2.2.2.2.1,z.2.2.2.2.2.2.1,z.2.2.2.2.2.2.2.2.1)=some r∧SlD cK z.2.2.2.2.2.2.2.2.2.2.toFrz z.2.2.1 2 z.2.2.2.1 z.2.1∧SlC z.2.2.2.2.2.2.2.2.2.2.toFrz z.2.2.2.2.2.1 5 (z.2.2.2.2.1.map cO)∧SlC z.2.2.2.2.2.2.2.2.2.2.toFrz z.2.2.2.2.2.2.2.1 5 (z.2.2.2.2.2.2.1.map cP)∧SlC z.2.2.2.2.2.2.2.2.2.2.toFrz z.2.2.2.2.2.2.2.2.2.1 4 (z.2.2.2.2.2.2.2.2.1.map cR)∧F1.toFrz.Le z.2.2.2.2.2.2.2.2.2.2.toFrz) (fun z=>l.length - z.1) (0,[],(.slice none 0 0),[],[],(.slice none 0 0),[],(.slice none 0 0),[],(.slice none 0 0),F1) ?_ ?_ ?_ ?_
    ·exact ⟨hk,(SlD.nil _ _ 2),(SlC.nil _ 5),(SlC.nil _ 5),(SlC.nil _ 4),(Frz.Le.refl _)⟩
    ·exact nA
    ·exact eh
    ·rintro ⟨i_13,c_8,vc_8,cc_8,c_9,vc_9,c_10,vc_10,c_11,vc_11,F3⟩ ⟨hk,hc_8,hc_9,hc_10,hc_11,le1_3⟩; (try dsimp only at *);haveI:=hc_8.1.oneC;haveI:=hc_9.oneC;haveI:=hc_10.oneC;haveI:=hc_11.oneC;refine iC ?_;refine cL (df rfl rfl (SlC.mono hl le1_3) (List.length_map _)) ?_;have hm23:l.length≤9223372036854775807:=(List.length_map _)▸(SlC.mono hl le1_3).max;refine dA ?_;refine T.cond rfl (fun h14=>?_) (fun h14=>?_)
     ·have p14:=of_decide_eq_true h14;rw [eQ a5] at hk;generalize hn12:c6 f12 kk12 (l.length - (i_13+1)) (i_13+1)=next12 at hk;rw [←hf12] at hk; (try dsimp only at hk);refine je ?_;refine dD (sN 0 5 (.eff 5 (.still 6 .done))) _ a7 (List.Sublist.refl _) ?_;refine cQ rfl (dO 1) ?_;refine gV ?_;refine cQ rfl (c8 (i:=i_13) rfl rfl rfl (SlC.mono hl le1_3) (List.length_map _) rfl a5) ?_;refine cQ rfl (dN 2 (i:=i_13) (j:=0) rfl rfl rfl (SlC.mono hl le1_3) a5) ?_;refine dy ?_;refine cW rfl (Wt.none) rfl rfl (cM rfl rfl rfl (fun w hw=>zcp _ w (hw.fr (i:=2) rfl) p vp_0 cp_0 (SlD.mono (rep:=cK) (fun _ _ _ _=>GDomain.mono) hp_0 le1_3) vp_1 (SlC.mono hp_1 le1_3) vp_2 (SlC.mono hp_2 le1_3) vp_3 (SlC.mono hp_3 le1_3) (cJ l i_13))) ?_;refine iJ ?_;refine kg ?_;refine T.cond rfl (fun h15=>?_) (fun h15=>?_)
      ·have p15:=of_decide_eq_true h15;replace hk:=dr hk h15;refine q4P ?_;refine j8 ?_;refine di ?_;refine q2p ?_;obtain rfl:=Option.some.inj hk;exact gZ 0 rfl rfl rfl rfl rfl (fun w' hw=>⟨((.slice none 0 0),[],(.slice none 0 0),(.slice none 0 0),(.slice none 0 0)),F3.toFrz,⟨(SlD.nil _ _ 2),(SlC.nil _ 5),(SlC.nil _ 5),(SlC.nil _ 4)⟩,rfl,eJ hw (i:=2) rfl hS0 le1_3⟩)
      ·have p15:=of_decide_eq_false h15;replace hk:=dq hk h15;refine ga ?_;rw [←hn12] at hk;exact K.next ((i_13+1),c_8,vc_8,cc_8,c_9,vc_9,c_10,vc_10,c_11,vc_11,F3) ⟨hk,hc_8,hc_9,hc_10,hc_11,le1_3⟩ a8 (.c (.c (.c (.c .nil)))) (List.Sublist.refl _)
     ·have p14:=of_decide_eq_false h14;rw [eO a5,←hkk12] at hk; (try dsimp only at hk);refine eC ?_;exact cS (c_8,vc_8,cc_8,c_9,vc_9,c_10,vc_10,c_11,vc_11,F3) ⟨hk,hc_8,hc_9,hc_10,hc_11,le1_3⟩ (.c (.c (.c .nil))) (List.Sublist.refl _)
   ·rintro ⟨c_3,vc_3,cc_3,c_4,vc_4,c_5,vc_5,c_6,vc_6,F2⟩ ⟨hk,hc_3,hc_4,hc_5,hc_6,le1_2⟩; (try dsimp only at *);rw [←hk7] at hk; (try dsimp only at hk);haveI:=hc_3.1.oneC;haveI:=hc_4.oneC;haveI:=hc_5.oneC;haveI:=hc_6.oneC;refine dh ?_;refine fX ?_;rintro _ _ ⟨g7,rfl,rfl⟩;refine TL.slNil 98 2 ?_;refine TL.slNil 100 5 ?_;refine TL.slNil 102 5 ?_;refine TL.slNil 104 4 ?_;refine mc ?_;have hq:=d7 hk;clear hk;obtain ⟨k20,hk20,hk⟩:=hq; (try dsimp only at hk);refine cZ (ι:=List GDomain×Value×List (List Value)×List GPair×Value×List GLoad×Value×List GCap×Value×FzB w (fun _=>False) S0) (fun z=>[(1,vl),(2, .pointer (some ⟨g2,0,none⟩)),(4, .pointer (some ⟨g4,0,none⟩)),(7, .pointer (some ⟨g7,0,none⟩))]) (fun z=>[.sl z.2.1 98 2 z.1.length z.2.2.1.flatten, .sl z.2.2.2.2.1 100 5 z.2.2.2.1.length (z.2.2.2.1.flatMap cO), .sl z.2.2.2.2.2.2.1 102 5 z.2.2.2.2.2.1.length (z.2.2.2.2.2.1.flatMap cP), .sl z.2.2.2.2.2.2.2.2.1 104 4 z.2.2.2.2.2.2.2.1.length (z.2.2.2.2.2.2.2.1.flatMap cR), .row g7 29 [z.2.1,z.2.2.2.2.1,z.2.2.2.2.2.2.1,z.2.2.2.2.2.2.2.2.1], .row g4 29 [vc_3,vc_4,vc_5,vc_6], .row g2 29 [vp_0,vp_1,vp_2,vp_3], .fr z.2.2.2.2.2.2.2.2.2]) (fun z=>k20 (z.1,z.2.2.2.1,z.2.2.2.2.2.1,z.2.2.2.2.2.2.2.1)=some r∧OwnD cK z.2.2.2.2.2.2.2.2.2.toFrz 2 z.2.2.1 z.1∧OneC z.2.1∧OneC z.2.2.2.2.1∧OneC z.2.2.2.2.2.2.1∧OneC z.2.2.2.2.2.2.2.2.1∧F2.toFrz.Le z.2.2.2.2.2.2.2.2.2.toFrz) ?_ ?_
    ·have hq:=eS hk;clear hk;obtain ⟨f25,kk25,hf25,hkk25,hk⟩:=hq;refine eA ?_;refine T.pick [3,2,1,0,4,5,6,7] rfl a6 ?_;refine T.loop (ι:=Nat×List GDomain×Value×List (List Value)×List GPair×Value×List GLoad×Value×List GCap×Value×FzB w (fun _=>False) S0) (fun z=>[(1,vl),(2, .pointer (some ⟨g2,0,none⟩)),(4, .pointer (some ⟨g4,0,none⟩)),(7, .pointer (some ⟨g7,0,none⟩)),(8, .int .i64 (z.1:Int))]) (fun z=>[.sl z.2.2.1 98 2 z.2.1.length z.2.2.2.1.flatten, .sl z.2.2.2.2.2.1 100 5 z.2.2.2.2.1.length (z.2.2.2.2.1.flatMap cO), .sl z.2.2.2.2.2.2.2.1 102 5 z.2.2.2.2.2.2.1.length (z.2.2.2.2.2.2.1.flatMap cP), .sl z.2.2.2.2.2.2.2.2.2.1 104 4 z.2.2.2.2.2.2.2.2.1.length (z.2.2.2.2.2.2.2.2.1.flatMap cR), .row g7 29 [z.2.2.1,z.2.2.2.2.2.1,z.2.2.2.2.2.2.2.1,z.2.2.2.2.2.2.2.2.2.1], .row g4 29 [vc_3,vc_4,vc_5,vc_6], .row g2 29 [vp_0,vp_1,vp_2,vp_3], .fr z.2.2.2.2.2.2.2.2.2.2]) (fun z=>c6 f25 kk25 (p.Domains.length - z.1) z.1 (z.2.1,z.2.2.2.2.1,z.2.2.2.2.2.2.1,z.2.2.2.2.2.2.2.2.1)=some r∧OwnD cK z.2.2.2.2.2.2.2.2.2.2.toFrz 2 z.2.2.2.1 z.2.1∧OneC z.2.2.1∧OneC z.2.2.2.2.2.1∧OneC z.2.2.2.2.2.2.2.1∧OneC z.2.2.2.2.2.2.2.2.2.1∧F2.toFrz.Le z.2.2.2.2.2.2.2.2.2.2.toFrz) (fun z=>p.Domains.length - z.1) (0,[],(.slice none 0 0),[],[],(.slice none 0 0),[],(.slice none 0 0),[],(.slice none 0 0),F2) ?_ ?_ ?_ ?_
     ·exact q5H
     ·exact jM
     ·exact eh
     ·rintro ⟨i_26,c_21,vc_21,cc_21,c_22,vc_22,c_23,vc_23,c_24,vc_24,F5⟩ ⟨hk,hc_21,oc_21,oc_22,oc_23,oc_24,le2_5⟩; (try dsimp only at *);have le1_5:=le1_2.trans le2_5;refine jz ?_;refine q1O ?_;refine cL (df rfl rfl (SlD.mono (rep:=cK) (fun _ _ _ _=>GDomain.mono) hp_0 le1_5).1 (SlD.mono (rep:=cK) (fun _ _ _ _=>GDomain.mono) hp_0 le1_5).2.1) ?_;have hm38:p.Domains.length≤9223372036854775807:=(SlD.mono (rep:=cK) (fun _ _ _ _=>GDomain.mono) hp_0 le1_5).2.1▸(SlD.mono (rep:=cK) (fun _ _ _ _=>GDomain.mono) hp_0 le1_5).1.max;refine dA ?_;refine T.cond rfl (fun h27=>?_) (fun h27=>?_)
      ·have p27:=of_decide_eq_true h27;rw [eQ a5] at hk;generalize hn25:c6 f25 kk25 (p.Domains.length - (i_26+1)) (i_26+1)=next25 at hk;rw [←hf25] at hk; (try dsimp only at hk);refine q4I ?_;refine q1O ?_;refine di ?_;refine cL (c8 (i:=i_26) rfl rfl rfl (SlD.mono (rep:=cK) (fun _ _ _ _=>GDomain.mono) hp_0 le1_5).1 (SlD.mono (rep:=cK) (fun _ _ _ _=>GDomain.mono) hp_0 le1_5).2.1 rfl a5) ?_;refine cL (eE rfl rfl (SlD.mono (rep:=cK) (fun _ _ _ _=>GDomain.mono) hp_0 le1_5).1 (SlD.mono (rep:=cK) (fun _ _ _ _=>GDomain.mono) hp_0 le1_5).2.1 a5) ?_;refine cL (dj 7 (i:=i_26) (j:=0) rfl rfl rfl (SlD.mono (rep:=cK) (fun _ _ _ _=>GDomain.mono) hp_0 le1_5).1 (SlD.mono (rep:=cK) (fun _ _ _ _=>GDomain.mono) hp_0 le1_5).2.1 a5 rfl (GDomain.c0 ((SlD.mono (rep:=cK) (fun _ _ _ _=>GDomain.mono) hp_0 le1_5).2.2 i_26 a5))) ?_;refine cU (cM rfl rfl rfl (fun w hw=>zb7 _ w (hw.fr (i:=7) rfl) l vl (SlC.mono hl le1_5) ((cJ p.Domains i_26).Station))) ?_;refine nJ ?_;refine T.cond rfl (fun h28=>?_) (fun h28=>?_)
       ·replace hk:=dr hk h28;have hq:(dl (c_21++[(cJ p.Domains i_26)]).length 32)∧_:=fu hk;clear hk;obtain ⟨g58,hk⟩:=hq; (try dsimp only at hk);refine dD (.still 0 (.still 2 (.still 3 (.still 4 (.still 5 (.still 6 (.two 1 7 (.eff 7 (.eff 8 (.still 9 (.eff 10 .done)))) (.eff 1 (.eff 8 (.still 9 (.eff 10 .done))))))))))) [.sl vc_22 100 5 c_22.length (c_22.flatMap cO), .sl vc_23 102 5 c_23.length (c_23.flatMap cP), .sl vc_24 104 4 c_24.length (c_24.flatMap cR), .row g4 29 [vc_3,vc_4,vc_5,vc_6], .row g2 29 [vp_0,vp_1,vp_2,vp_3], .fr F5] a7 Sx ?_;refine fH ?_;refine q2Z ?_;refine fK ?_;refine cQ rfl (c8 (i:=i_26) rfl rfl rfl (SlD.mono (rep:=cK) (fun _ _ _ _=>GDomain.mono) hp_0 le1_5).1 (SlD.mono (rep:=cK) (fun _ _ _ _=>GDomain.mono) hp_0 le1_5).2.1 rfl a5) ?_;refine cQ rfl (kO 5 (i:=i_26) (j:=0) rfl rfl rfl (SlD.mono (rep:=cK) (fun _ _ _ _=>GDomain.mono) hp_0 le1_5).1 (SlD.mono (rep:=cK) (fun _ _ _ _=>GDomain.mono) hp_0 le1_5).2.1 a5 rfl (fL ((SlD.mono (rep:=cK) (fun _ _ _ _=>GDomain.mono) hp_0 le1_5).2.2 i_26 a5)) rfl) ?_;have hd56_1:=(GDomain.c1 ((SlD.mono (rep:=cK) (fun _ _ _ _=>GDomain.mono) hp_0 le1_5).2.2 i_26 a5)).2;haveI:=hd56_1.oneC;refine TS.two ?_ ?_
        ·refine q2r ?_;rintro _ _ ⟨g57,rfl,rfl⟩;have hl57:OwnD cK F5.toFrz 2 [[.int .i64 ((cJ p.Domains i_26).Station),(cJ (cJ cp_0 i_26) 1)]] [(cJ p.Domains i_26)]:=(c9 (OwnD.nil _ _ 2) ⟨_,rfl,hd56_1⟩);refine nb ?_;refine q28 ?_;rintro v58 _ ⟨hv58,rfl⟩;have ho58:OwnD cK F5.toFrz 2 (cc_21++[[.int .i64 ((cJ p.Domains i_26).Station),(cJ (cJ cp_0 i_26) 1)]]) (c_21++[(cJ p.Domains i_26)]):=(c9 hc_21 ⟨_,rfl,hd56_1⟩);refine q1t ?_;refine fH ?_;refine q0J ?_;rw [←hn25] at hk;refine q2x ?_;exact q5I
        ·refine lH ?_;rintro _ _ ⟨g57,rfl,rfl⟩;have hl57:OwnD cK F5.toFrz 2 [[.int .i64 ((cJ p.Domains i_26).Station),(cJ (cJ cp_0 i_26) 1)]] [(cJ p.Domains i_26)]:=(c9 (OwnD.nil _ _ 2) ⟨_,rfl,hd56_1⟩);refine nb ?_;refine q2a ?_;refine q28 ?_;rintro v58 _ ⟨hv58,rfl⟩;have ho58:OwnD cK F5.toFrz 2 (cc_21++[[.int .i64 ((cJ p.Domains i_26).Station),(cJ (cJ cp_0 i_26) 1)]]) (c_21++[(cJ p.Domains i_26)]):=(c9 hc_21 ⟨_,rfl,hd56_1⟩);refine q1t ?_;refine fH ?_;refine q0J ?_;rw [←hn25] at hk;refine q2x ?_;exact q5I
       ·replace hk:=dq hk h28;refine ga ?_;rw [←hn25] at hk;exact K.next ((i_26+1),c_21,vc_21,cc_21,c_22,vc_22,c_23,vc_23,c_24,vc_24,F5) ⟨hk,hc_21,inferInstance,inferInstance,inferInstance,inferInstance,le2_5⟩ a8 (.c (.c (.c (.c (.c .nil))))) (List.Sublist.refl _)
      ·have p27:=of_decide_eq_false h27;rw [eO a5,←hkk25] at hk; (try dsimp only at hk);refine eC ?_;exact cS (c_21,vc_21,cc_21,c_22,vc_22,c_23,vc_23,c_24,vc_24,F5) ⟨hk,hc_21,inferInstance,inferInstance,inferInstance,inferInstance,le2_5⟩ (.c (.c (.c (.c .nil)))) (List.Sublist.refl _)
    ·rintro ⟨c_16,vc_16,cc_16,c_17,vc_17,c_18,vc_18,c_19,vc_19,F4⟩ ⟨hk,hc_16,oc_16,oc_17,oc_18,oc_19,le2_4⟩; (try dsimp only at *);rw [←hk20] at hk; (try dsimp only at hk);have le1_4:=le1_2.trans le2_4;refine lT ?_;have hq:=d7 hk;clear hk;obtain ⟨k33,hk33,hk⟩:=hq; (try dsimp only at hk);refine cZ (ι:=List GDomain×Value×List (List Value)×List GPair×Value×List GLoad×Value×List GCap×Value) (fun z=>[(1,vl),(2, .pointer (some ⟨g2,0,none⟩)),(4, .pointer (some ⟨g4,0,none⟩)),(7, .pointer (some ⟨g7,0,none⟩))]) (fun z=>[.sl z.2.1 98 2 z.1.length z.2.2.1.flatten, .sl z.2.2.2.2.1 100 5 z.2.2.2.1.length (z.2.2.2.1.flatMap cO), .sl z.2.2.2.2.2.2.1 102 5 z.2.2.2.2.2.1.length (z.2.2.2.2.2.1.flatMap cP), .sl z.2.2.2.2.2.2.2.2 104 4 z.2.2.2.2.2.2.2.1.length (z.2.2.2.2.2.2.2.1.flatMap cR), .row g7 29 [z.2.1,z.2.2.2.2.1,z.2.2.2.2.2.2.1,z.2.2.2.2.2.2.2.2], .row g4 29 [vc_3,vc_4,vc_5,vc_6], .row g2 29 [vp_0,vp_1,vp_2,vp_3], .fr F4]) (fun z=>k33 (z.1,z.2.2.2.1,z.2.2.2.2.2.1,z.2.2.2.2.2.2.2.1)=some r∧OwnD cK F4.toFrz 2 z.2.2.1 z.1∧OneC z.2.1∧OneC z.2.2.2.2.1∧OneC z.2.2.2.2.2.2.1∧OneC z.2.2.2.2.2.2.2.2) ?_ ?_
     ·have hq:=eS hk;clear hk;obtain ⟨f38,kk38,hf38,hkk38,hk⟩:=hq;refine eA ?_;refine T.loop (ι:=Nat×List GDomain×Value×List (List Value)×List GPair×Value×List GLoad×Value×List GCap×Value) (fun z=>[(1,vl),(2, .pointer (some ⟨g2,0,none⟩)),(4, .pointer (some ⟨g4,0,none⟩)),(7, .pointer (some ⟨g7,0,none⟩)),(9, .int .i64 (z.1:Int))]) (fun z=>[.sl z.2.2.1 98 2 z.2.1.length z.2.2.2.1.flatten, .sl z.2.2.2.2.2.1 100 5 z.2.2.2.2.1.length (z.2.2.2.2.1.flatMap cO), .sl z.2.2.2.2.2.2.2.1 102 5 z.2.2.2.2.2.2.1.length (z.2.2.2.2.2.2.1.flatMap cP), .sl z.2.2.2.2.2.2.2.2.2 104 4 z.2.2.2.2.2.2.2.2.1.length (z.2.2.2.2.2.2.2.2.1.flatMap cR), .row g7 29 [z.2.2.1,z.2.2.2.2.2.1,z.2.2.2.2.2.2.2.1,z.2.2.2.2.2.2.2.2.2], .row g4 29 [vc_3,vc_4,vc_5,vc_6], .row g2 29 [vp_0,vp_1,vp_2,vp_3], .fr F4]) (fun z=>c6 f38 kk38 (p.Rules.Pairs.length - z.1) z.1 (z.2.1,z.2.2.2.2.1,z.2.2.2.2.2.2.1,z.2.2.2.2.2.2.2.2.1)=some r∧OwnD cK F4.toFrz 2 z.2.2.2.1 z.2.1∧OneC z.2.2.1∧OneC z.2.2.2.2.2.1∧OneC z.2.2.2.2.2.2.2.1∧OneC z.2.2.2.2.2.2.2.2.2) (fun z=>p.Rules.Pairs.length - z.1) (0,c_16,vc_16,cc_16,c_17,vc_17,c_18,vc_18,c_19,vc_19) ?_ ?_ ?_ ?_
      ·exact ⟨hk,hc_16,inferInstance,inferInstance,inferInstance,inferInstance⟩
      ·exact jM
      ·exact eh
      ·rintro ⟨i_39,c_34,vc_34,cc_34,c_35,vc_35,c_36,vc_36,c_37,vc_37⟩ ⟨hk,hc_34,oc_34,oc_35,oc_36,oc_37⟩; (try dsimp only at *);refine jz ?_;refine fc ?_;refine q1O ?_;refine cL (df rfl rfl (SlC.mono hp_1 le1_4) (List.length_map _)) ?_;have hm64:p.Rules.Pairs.length≤9223372036854775807:=(List.length_map _)▸(SlC.mono hp_1 le1_4).max;refine dA ?_;refine T.cond rfl (fun h40=>?_) (fun h40=>?_)
       ·have p40:=of_decide_eq_true h40;rw [eQ a5] at hk;generalize hn38:c6 f38 kk38 (p.Rules.Pairs.length - (i_39+1)) (i_39+1)=next38 at hk;rw [←hf38] at hk; (try dsimp only at hk);refine je ?_;refine cZ (ι:=Unit) (fun z=>[(1,vl),(2, .pointer (some ⟨g2,0,none⟩)),(4, .pointer (some ⟨g4,0,none⟩)),(7, .pointer (some ⟨g7,0,none⟩)),(9, .int .i64 (i_39:Int)),(87, .bool ((ed l ((cJ p.Rules.Pairs i_39).A))&&(ed l ((cJ p.Rules.Pairs i_39).B))))]) (fun z=>[.sl vc_34 98 2 c_34.length cc_34.flatten, .sl vc_35 100 5 c_35.length (c_35.flatMap cO), .sl vc_36 102 5 c_36.length (c_36.flatMap cP), .sl vc_37 104 4 c_37.length (c_37.flatMap cR), .row g7 29 [vc_34,vc_35,vc_36,vc_37], .row g4 29 [vc_3,vc_4,vc_5,vc_6], .row g2 29 [vp_0,vp_1,vp_2,vp_3], .fr F4]) (fun z=>True) ?_ ?_
        ·refine gM ?_;refine q27 ?_;refine cL (dN 7 (i:=i_39) (j:=0) rfl rfl rfl (SlC.mono hp_1 le1_4) a5) ?_;refine cU (cM rfl rfl rfl (fun w hw=>zb7 _ w (hw.fr (i:=7) rfl) l vl (SlC.mono hl le1_4) ((cJ p.Rules.Pairs i_39).A))) ?_;refine kq ?_;refine dn rfl rfl rfl (fun h41=>?_) (fun h41=>?_)
         ·refine di ?_;refine q27 ?_;refine cL (dN 7 (i:=i_39) (j:=1) rfl rfl rfl (SlC.mono hp_1 le1_4) a5) ?_;refine cU (cM rfl rfl rfl (fun w hw=>zb7 _ w (hw.fr (i:=7) rfl) l vl (SlC.mono hl le1_4) ((cJ p.Rules.Pairs i_39).B))) ?_;refine kq ?_;refine eW ?_;exact cS () trivial (.c (.c (.c (.c (.c (.b (ku h41) .nil)))))) (List.Sublist.refl _)
         ·refine TL.run 10 rfl ?_;refine eW ?_;exact cS () trivial (.c (.c (.c (.c (.c (.b (gr h41).symm .nil)))))) (List.Sublist.refl _)
        ·rintro _ _;refine T.cond rfl (fun h42=>?_) (fun h42=>?_)
         ·replace hk:=dr hk h42;have hq:(dl (c_35++[(cJ p.Rules.Pairs i_39)]).length 40)∧_:=fu hk;clear hk;obtain ⟨g98,hk⟩:=hq; (try dsimp only at hk);refine dD (.still 0 (.still 1 (.still 3 (.still 4 (.still 5 (.still 6 (.still 7 (.still 8 (.two 2 9 (.eff 9 (.eff 10 (sN 11 2 (.eff 13 .done)))) (.eff 2 (.eff 10 (sN 11 2 (.eff 13 .done))))))))))))) [.sl vc_34 98 2 c_34.length cc_34.flatten, .sl vc_36 102 5 c_36.length (c_36.flatMap cP), .sl vc_37 104 4 c_37.length (c_37.flatMap cR), .row g4 29 [vc_3,vc_4,vc_5,vc_6], .row g2 29 [vp_0,vp_1,vp_2,vp_3], .fr F4] a7 Sx ?_;refine fH ?_;refine fH ?_;refine fH ?_;refine q2Z ?_;refine fK ?_;refine cQ rfl (c8 (i:=i_39) rfl rfl rfl (SlC.mono hp_1 le1_4) (List.length_map _) rfl a5) ?_;refine cQ rfl (eg 5 (i:=i_39) rfl rfl rfl (SlC.mono hp_1 le1_4) a5) ?_;refine TS.two ?_ ?_
          ·refine q2r ?_;rintro _ _ ⟨g97,rfl,rfl⟩;refine nb ?_;refine q3u ?_;rintro v98 _ ⟨hv98,rfl⟩;refine q3d ?_;rw [←hn38] at hk;refine q2x ?_;exact q5J
          ·refine lH ?_;rintro _ _ ⟨g97,rfl,rfl⟩;refine nb ?_;refine q2a ?_;refine q3u ?_;rintro v98 _ ⟨hv98,rfl⟩;refine q3d ?_;rw [←hn38] at hk;refine q2x ?_;exact q5J
         ·replace hk:=dq hk h42;refine ga ?_;rw [←hn38] at hk;exact K.next ((i_39+1),c_34,vc_34,cc_34,c_35,vc_35,c_36,vc_36,c_37,vc_37) ⟨hk,hc_34,inferInstance,inferInstance,inferInstance,inferInstance⟩ a8 (.c (.c (.c (.c (.c .nil))))) (List.Sublist.refl _)
       ·have p40:=of_decide_eq_false h40;rw [eO a5,←hkk38] at hk; (try dsimp only at hk);refine eC ?_;exact cS (c_34,vc_34,cc_34,c_35,vc_35,c_36,vc_36,c_37,vc_37) ⟨hk,hc_34,inferInstance,inferInstance,inferInstance,inferInstance⟩ (.c (.c (.c (.c .nil)))) (List.Sublist.refl _)
     ·rintro ⟨c_29,vc_29,cc_29,c_30,vc_30,c_31,vc_31,c_32,vc_32⟩ ⟨hk,hc_29,oc_29,oc_30,oc_31,oc_32⟩; (try dsimp only at *);rw [←hk33] at hk; (try dsimp only at hk);refine lT ?_;have hq:=d7 hk;clear hk;obtain ⟨k47,hk47,hk⟩:=hq; (try dsimp only at hk);refine cZ (ι:=List GDomain×Value×List (List Value)×List GPair×Value×List GLoad×Value×List GCap×Value) (fun z=>[(1,vl),(2, .pointer (some ⟨g2,0,none⟩)),(4, .pointer (some ⟨g4,0,none⟩)),(7, .pointer (some ⟨g7,0,none⟩))]) (fun z=>[.sl z.2.1 98 2 z.1.length z.2.2.1.flatten, .sl z.2.2.2.2.1 100 5 z.2.2.2.1.length (z.2.2.2.1.flatMap cO), .sl z.2.2.2.2.2.2.1 102 5 z.2.2.2.2.2.1.length (z.2.2.2.2.2.1.flatMap cP), .sl z.2.2.2.2.2.2.2.2 104 4 z.2.2.2.2.2.2.2.1.length (z.2.2.2.2.2.2.2.1.flatMap cR), .row g7 29 [z.2.1,z.2.2.2.2.1,z.2.2.2.2.2.2.1,z.2.2.2.2.2.2.2.2], .row g4 29 [vc_3,vc_4,vc_5,vc_6], .row g2 29 [vp_0,vp_1,vp_2,vp_3], .fr F4]) (fun z=>k47 (z.1,z.2.2.2.1,z.2.2.2.2.2.1,z.2.2.2.2.2.2.2.1)=some r∧OwnD cK F4.toFrz 2 z.2.2.1 z.1∧OneC z.2.1∧OneC z.2.2.2.2.1∧OneC z.2.2.2.2.2.2.1∧OneC z.2.2.2.2.2.2.2.2) ?_ ?_
      ·have hq:=eS hk;clear hk;obtain ⟨f52,kk52,hf52,hkk52,hk⟩:=hq;refine eA ?_;refine T.loop (ι:=Nat×List GDomain×Value×List (List Value)×List GPair×Value×List GLoad×Value×List GCap×Value) (fun z=>[(1,vl),(2, .pointer (some ⟨g2,0,none⟩)),(4, .pointer (some ⟨g4,0,none⟩)),(7, .pointer (some ⟨g7,0,none⟩)),(10, .int .i64 (z.1:Int))]) (fun z=>[.sl z.2.2.1 98 2 z.2.1.length z.2.2.2.1.flatten, .sl z.2.2.2.2.2.1 100 5 z.2.2.2.2.1.length (z.2.2.2.2.1.flatMap cO), .sl z.2.2.2.2.2.2.2.1 102 5 z.2.2.2.2.2.2.1.length (z.2.2.2.2.2.2.1.flatMap cP), .sl z.2.2.2.2.2.2.2.2.2 104 4 z.2.2.2.2.2.2.2.2.1.length (z.2.2.2.2.2.2.2.2.1.flatMap cR), .row g7 29 [z.2.2.1,z.2.2.2.2.2.1,z.2.2.2.2.2.2.2.1,z.2.2.2.2.2.2.2.2.2], .row g4 29 [vc_3,vc_4,vc_5,vc_6], .row g2 29 [vp_0,vp_1,vp_2,vp_3], .fr F4]) (fun z=>c6 f52 kk52 (p.Rules.Loads.length - z.1) z.1 (z.2.1,z.2.2.2.2.1,z.2.2.2.2.2.2.1,z.2.2.2.2.2.2.2.2.1)=some r∧OwnD cK F4.toFrz 2 z.2.2.2.1 z.2.1∧OneC z.2.2.1∧OneC z.2.2.2.2.2.1∧OneC z.2.2.2.2.2.2.2.1∧OneC z.2.2.2.2.2.2.2.2.2) (fun z=>p.Rules.Loads.length - z.1) (0,c_29,vc_29,cc_29,c_30,vc_30,c_31,vc_31,c_32,vc_32) ?_ ?_ ?_ ?_
       ·exact ⟨hk,hc_29,inferInstance,inferInstance,inferInstance,inferInstance⟩
       ·exact jM
       ·exact eh
       ·rintro ⟨i_53,c_48,vc_48,cc_48,c_49,vc_49,c_50,vc_50,c_51,vc_51⟩ ⟨hk,hc_48,oc_48,oc_49,oc_50,oc_51⟩; (try dsimp only at *);refine jz ?_;refine fc ?_;refine q1O ?_;refine cL (df rfl rfl (SlC.mono hp_2 le1_4) (List.length_map _)) ?_;have hm105:p.Rules.Loads.length≤9223372036854775807:=(List.length_map _)▸(SlC.mono hp_2 le1_4).max;refine dA ?_;refine T.cond rfl (fun h54=>?_) (fun h54=>?_)
        ·have p54:=of_decide_eq_true h54;rw [eQ a5] at hk;generalize hn52:c6 f52 kk52 (p.Rules.Loads.length - (i_53+1)) (i_53+1)=next52 at hk;rw [←hf52] at hk; (try dsimp only at hk);refine je ?_;refine cZ (ι:=Unit) (fun z=>[(1,vl),(2, .pointer (some ⟨g2,0,none⟩)),(4, .pointer (some ⟨g4,0,none⟩)),(7, .pointer (some ⟨g7,0,none⟩)),(10, .int .i64 (i_53:Int)),(128, .bool ((ed l ((cJ p.Rules.Loads i_53).To))&&(ed l ((cJ p.Rules.Loads i_53).From))))]) (fun z=>[.sl vc_48 98 2 c_48.length cc_48.flatten, .sl vc_49 100 5 c_49.length (c_49.flatMap cO), .sl vc_50 102 5 c_50.length (c_50.flatMap cP), .sl vc_51 104 4 c_51.length (c_51.flatMap cR), .row g7 29 [vc_48,vc_49,vc_50,vc_51], .row g4 29 [vc_3,vc_4,vc_5,vc_6], .row g2 29 [vp_0,vp_1,vp_2,vp_3], .fr F4]) (fun z=>True) ?_ ?_
         ·refine gM ?_;refine q3g ?_;refine cL (dN 7 (i:=i_53) (j:=0) rfl rfl rfl (SlC.mono hp_2 le1_4) a5) ?_;refine cU (cM rfl rfl rfl (fun w hw=>zb7 _ w (hw.fr (i:=7) rfl) l vl (SlC.mono hl le1_4) ((cJ p.Rules.Loads i_53).To))) ?_;refine kq ?_;refine dn rfl rfl rfl (fun h55=>?_) (fun h55=>?_)
          ·refine di ?_;refine q3g ?_;refine cL (dN 7 (i:=i_53) (j:=1) rfl rfl rfl (SlC.mono hp_2 le1_4) a5) ?_;refine cU (cM rfl rfl rfl (fun w hw=>zb7 _ w (hw.fr (i:=7) rfl) l vl (SlC.mono hl le1_4) ((cJ p.Rules.Loads i_53).From))) ?_;refine kq ?_;refine eW ?_;exact cS () trivial (.c (.c (.c (.c (.c (.b (ku h55) .nil)))))) (List.Sublist.refl _)
          ·refine TL.run 10 rfl ?_;refine eW ?_;exact cS () trivial (.c (.c (.c (.c (.c (.b (gr h55).symm .nil)))))) (List.Sublist.refl _)
         ·rintro _ _;refine T.cond rfl (fun h56=>?_) (fun h56=>?_)
          ·replace hk:=dr hk h56;have hq:(dl (c_50++[(cJ p.Rules.Loads i_53)]).length 40)∧_:=fu hk;clear hk;obtain ⟨g139,hk⟩:=hq; (try dsimp only at hk);refine dD (.still 0 (.still 1 (.still 3 (.still 4 (.still 5 (.still 6 (.still 7 (.still 8 (.two 2 9 (.eff 9 (.eff 10 (sN 11 2 (.eff 13 .done)))) (.eff 2 (.eff 10 (sN 11 2 (.eff 13 .done))))))))))))) [.sl vc_48 98 2 c_48.length cc_48.flatten, .sl vc_49 100 5 c_49.length (c_49.flatMap cO), .sl vc_51 104 4 c_51.length (c_51.flatMap cR), .row g4 29 [vc_3,vc_4,vc_5,vc_6], .row g2 29 [vp_0,vp_1,vp_2,vp_3], .fr F4] a7 Sx ?_;refine fH ?_;refine fH ?_;refine fH ?_;refine q2Z ?_;refine fK ?_;refine cQ rfl (c8 (i:=i_53) rfl rfl rfl (SlC.mono hp_2 le1_4) (List.length_map _) rfl a5) ?_;refine cQ rfl (eg 5 (i:=i_53) rfl rfl rfl (SlC.mono hp_2 le1_4) a5) ?_;refine TS.two ?_ ?_
           ·refine q2r ?_;rintro _ _ ⟨g138,rfl,rfl⟩;refine nb ?_;refine q3q ?_;rintro v139 _ ⟨hv139,rfl⟩;refine q3d ?_;rw [←hn52] at hk;refine q2x ?_;exact q5K
           ·refine lH ?_;rintro _ _ ⟨g138,rfl,rfl⟩;refine nb ?_;refine q2a ?_;refine q3q ?_;rintro v139 _ ⟨hv139,rfl⟩;refine q3d ?_;rw [←hn52] at hk;refine q2x ?_;exact q5K
          ·replace hk:=dq hk h56;refine ga ?_;rw [←hn52] at hk;exact K.next ((i_53+1),c_48,vc_48,cc_48,c_49,vc_49,c_50,vc_50,c_51,vc_51) ⟨hk,hc_48,inferInstance,inferInstance,inferInstance,inferInstance⟩ a8 (.c (.c (.c (.c (.c .nil))))) (List.Sublist.refl _)
        ·have p54:=of_decide_eq_false h54;rw [eO a5,←hkk52] at hk; (try dsimp only at hk);refine eC ?_;exact cS (c_48,vc_48,cc_48,c_49,vc_49,c_50,vc_50,c_51,vc_51) ⟨hk,hc_48,inferInstance,inferInstance,inferInstance,inferInstance⟩ (.c (.c (.c (.c .nil)))) (List.Sublist.refl _)
      ·rintro ⟨c_43,vc_43,cc_43,c_44,vc_44,c_45,vc_45,c_46,vc_46⟩ ⟨hk,hc_43,oc_43,oc_44,oc_45,oc_46⟩; (try dsimp only at *);rw [←hk47] at hk; (try dsimp only at hk);refine lT ?_;have hq:=d7 hk;clear hk;obtain ⟨k61,hk61,hk⟩:=hq; (try dsimp only at hk);refine cZ (ι:=List GDomain×Value×List (List Value)×List GPair×Value×List GLoad×Value×List GCap×Value) (fun z=>[(4, .pointer (some ⟨g4,0,none⟩)),(7, .pointer (some ⟨g7,0,none⟩))]) (fun z=>[.sl z.2.1 98 2 z.1.length z.2.2.1.flatten, .sl z.2.2.2.2.1 100 5 z.2.2.2.1.length (z.2.2.2.1.flatMap cO), .sl z.2.2.2.2.2.2.1 102 5 z.2.2.2.2.2.1.length (z.2.2.2.2.2.1.flatMap cP), .sl z.2.2.2.2.2.2.2.2 104 4 z.2.2.2.2.2.2.2.1.length (z.2.2.2.2.2.2.2.1.flatMap cR), .row g7 29 [z.2.1,z.2.2.2.2.1,z.2.2.2.2.2.2.1,z.2.2.2.2.2.2.2.2], .row g4 29 [vc_3,vc_4,vc_5,vc_6], .fr F4]) (fun z=>k61 (z.1,z.2.2.2.1,z.2.2.2.2.2.1,z.2.2.2.2.2.2.2.1)=some r∧OwnD cK F4.toFrz 2 z.2.2.1 z.1∧OneC z.2.1∧OneC z.2.2.2.2.1∧OneC z.2.2.2.2.2.2.1∧OneC z.2.2.2.2.2.2.2.2) ?_ ?_
       ·have hq:=eS hk;clear hk;obtain ⟨f66,kk66,hf66,hkk66,hk⟩:=hq;refine eA ?_;refine T.loop (ι:=Nat×List GDomain×Value×List (List Value)×List GPair×Value×List GLoad×Value×List GCap×Value) (fun z=>[(1,vl),(2, .pointer (some ⟨g2,0,none⟩)),(4, .pointer (some ⟨g4,0,none⟩)),(7, .pointer (some ⟨g7,0,none⟩)),(11, .int .i64 (z.1:Int))]) (fun z=>[.sl z.2.2.1 98 2 z.2.1.length z.2.2.2.1.flatten, .sl z.2.2.2.2.2.1 100 5 z.2.2.2.2.1.length (z.2.2.2.2.1.flatMap cO), .sl z.2.2.2.2.2.2.2.1 102 5 z.2.2.2.2.2.2.1.length (z.2.2.2.2.2.2.1.flatMap cP), .sl z.2.2.2.2.2.2.2.2.2 104 4 z.2.2.2.2.2.2.2.2.1.length (z.2.2.2.2.2.2.2.2.1.flatMap cR), .row g7 29 [z.2.2.1,z.2.2.2.2.2.1,z.2.2.2.2.2.2.2.1,z.2.2.2.2.2.2.2.2.2], .row g4 29 [vc_3,vc_4,vc_5,vc_6], .row g2 29 [vp_0,vp_1,vp_2,vp_3], .fr F4]) (fun z=>c6 f66 kk66 (p.Rules.Caps.length - z.1) z.1 (z.2.1,z.2.2.2.2.1,z.2.2.2.2.2.2.1,z.2.2.2.2.2.2.2.2.1)=some r∧OwnD cK F4.toFrz 2 z.2.2.2.1 z.2.1∧OneC z.2.2.1∧OneC z.2.2.2.2.2.1∧OneC z.2.2.2.2.2.2.2.1∧OneC z.2.2.2.2.2.2.2.2.2) (fun z=>p.Rules.Caps.length - z.1) (0,c_43,vc_43,cc_43,c_44,vc_44,c_45,vc_45,c_46,vc_46) ?_ ?_ ?_ ?_
        ·exact ⟨hk,hc_43,inferInstance,inferInstance,inferInstance,inferInstance⟩
        ·exact jM
        ·exact eh
        ·rintro ⟨i_67,c_62,vc_62,cc_62,c_63,vc_63,c_64,vc_64,c_65,vc_65⟩ ⟨hk,hc_62,oc_62,oc_63,oc_64,oc_65⟩; (try dsimp only at *);refine jz ?_;refine fc ?_;refine q1O ?_;refine cL (df rfl rfl (SlC.mono hp_3 le1_4) (List.length_map _)) ?_;have hm146:p.Rules.Caps.length≤9223372036854775807:=(List.length_map _)▸(SlC.mono hp_3 le1_4).max;refine dA ?_;refine T.cond rfl (fun h68=>?_) (fun h68=>?_)
         ·have p68:=of_decide_eq_true h68;rw [eQ a5] at hk;generalize hn66:c6 f66 kk66 (p.Rules.Caps.length - (i_67+1)) (i_67+1)=next66 at hk;rw [←hf66] at hk; (try dsimp only at hk);refine q4I ?_;refine fc ?_;refine q1O ?_;refine di ?_;refine cL (c8 (i:=i_67) rfl rfl rfl (SlC.mono hp_3 le1_4) (List.length_map _) rfl a5) ?_;refine cL (eE rfl rfl (SlC.mono hp_3 le1_4) (List.length_map _) a5) ?_;refine cL (dN 7 (i:=i_67) (j:=0) rfl rfl rfl (SlC.mono hp_3 le1_4) a5) ?_;refine cU (cM rfl rfl rfl (fun w hw=>zb7 _ w (hw.fr (i:=7) rfl) l vl (SlC.mono hl le1_4) ((cJ p.Rules.Caps i_67).Station))) ?_;refine nJ ?_;refine T.cond rfl (fun h69=>?_) (fun h69=>?_)
          ·replace hk:=dr hk h69;have hq:(dl (c_65++[(cJ p.Rules.Caps i_67)]).length 32)∧_:=fu hk;clear hk;obtain ⟨g169,hk⟩:=hq; (try dsimp only at hk);refine dD (.still 0 (.still 1 (.still 3 (.still 4 (.still 5 (.still 6 (.still 7 (.still 8 (.two 2 9 (.eff 9 (.eff 10 (sN 11 2 (.eff 13 .done)))) (.eff 2 (.eff 10 (sN 11 2 (.eff 13 .done))))))))))))) [.sl vc_62 98 2 c_62.length cc_62.flatten, .sl vc_63 100 5 c_63.length (c_63.flatMap cO), .sl vc_64 102 5 c_64.length (c_64.flatMap cP), .row g4 29 [vc_3,vc_4,vc_5,vc_6], .row g2 29 [vp_0,vp_1,vp_2,vp_3], .fr F4] a7 Sx ?_;refine fH ?_;refine fH ?_;refine fH ?_;refine q2Z ?_;refine fK ?_;refine cQ rfl (c8 (i:=i_67) rfl rfl rfl (SlC.mono hp_3 le1_4) (List.length_map _) rfl a5) ?_;refine cQ rfl (eg 5 (i:=i_67) rfl rfl rfl (SlC.mono hp_3 le1_4) a5) ?_;refine TS.two ?_ ?_
           ·refine q2r ?_;rintro _ _ ⟨g168,rfl,rfl⟩;refine nb ?_;refine q3w ?_;rintro v169 _ ⟨hv169,rfl⟩;refine q3d ?_;rw [←hn66] at hk;refine q2x ?_;exact q5L
           ·refine lH ?_;rintro _ _ ⟨g168,rfl,rfl⟩;refine nb ?_;refine q2a ?_;refine q3w ?_;rintro v169 _ ⟨hv169,rfl⟩;refine q3d ?_;rw [←hn66] at hk;refine q2x ?_;exact q5L
          ·replace hk:=dq hk h69;refine ga ?_;rw [←hn66] at hk;exact K.next ((i_67+1),c_62,vc_62,cc_62,c_63,vc_63,c_64,vc_64,c_65,vc_65) ⟨hk,hc_62,inferInstance,inferInstance,inferInstance,inferInstance⟩ a8 (.c (.c (.c (.c (.c .nil))))) (List.Sublist.refl _)
         ·have p68:=of_decide_eq_false h68;rw [eO a5,←hkk66] at hk; (try dsimp only at hk);refine eC ?_;refine K.pick [0,1,2,3,4,5,7] rfl a6 ?_;exact cS (c_62,vc_62,cc_62,c_63,vc_63,c_64,vc_64,c_65,vc_65) ⟨hk,hc_62,inferInstance,inferInstance,inferInstance,inferInstance⟩ (.c (.c .nil)) (List.Sublist.refl _)
       ·rintro ⟨c_57,vc_57,cc_57,c_58,vc_58,c_59,vc_59,c_60,vc_60⟩ ⟨hk,hc_57,oc_57,oc_58,oc_59,oc_60⟩; (try dsimp only at *);rw [←hk61] at hk; (try dsimp only at hk);refine q3r ?_;rintro F6 ⟨le4_6,hz6⟩;refine it ?_;have le1_6:=le1_4.trans le4_6;have hf6:=hz6.toD (OwnD.mono (rep:=cK) (fun _ _ _ _=>GDomain.mono) hc_57 le4_6) rfl;haveI:=hf6.1.oneC;refine iQ (fun w hw=>hw.freezeS (i:=5) (j:=0) a6 rfl rfl) ?_;rintro F7 ⟨le6_7,hz7⟩;refine it ?_;have le1_7:=le1_6.trans le6_7;have hf7:=hz7.toF rfl GPair.len;haveI:=hf7.oneC;refine iQ (fun w hw=>hw.freezeS (i:=4) (j:=0) a6 rfl rfl) ?_;rintro F8 ⟨le7_8,hz8⟩;refine it ?_;have le1_8:=le1_7.trans le7_8;have le6_8:=le6_7.trans le7_8;have hf8:=hz8.toF rfl GLoad.len;haveI:=hf8.oneC;refine iQ (fun w hw=>hw.freezeS (i:=3) (j:=0) a6 rfl rfl) ?_;rintro F9 ⟨le8_9,hz9⟩;refine it ?_;have le1_9:=le1_8.trans le8_9;have le6_9:=le6_8.trans le8_9;have le7_9:=le7_8.trans le8_9;have hf9:=hz9.toF rfl GCap.len;haveI:=hf9.oneC;obtain rfl:=Option.some.inj hk;exact gZ 1 rfl rfl rfl rfl rfl (fun w' hw=>⟨(vc_57,cc_57,vc_58,vc_59,vc_60),F9.toFrz,⟨(SlD.mono (rep:=cK) (fun _ _ _ _=>GDomain.mono) hf6 le6_9),(SlC.mono hf7 le7_9),(SlC.mono hf8 le8_9),hf9⟩,rfl,eJ hw (i:=2) rfl hS0 le1_9⟩)
def zcJ (fuel:Nat)(p:GProblem)(domains:Int)(rules:Int):Option Bool:=
 dH (fun (_:Unit)=>
  some ((((decide ((p.Domains.length:Int)≤domains))&&(decide ((p.Rules.Pairs.length:Int)≤rules)))&&(decide ((p.Rules.Loads.length:Int)≤rules)))&&(decide ((p.Rules.Caps.length:Int)≤rules))))
 (fun k1=>
  iZ (fun (next3:Int→Option Bool) (i_2:Int)=>
   (bif ((decide (i_2<(p.Domains.length:Int)))&&(decide (i_2<600))) then
    ej (0≤i_2∧i_2<(p.Domains.length:Int)) <|
    (bif decide (60<(((cJ p.Domains i_2.toNat).Channels).length:Int)) then
     some false
     else
     next3 (i_2+1))
    else
    k1 ())) fuel 0)
theorem zia (F0:Frz)(w:World)(hF0:F0.At w)(p:GProblem)(vp_0:Value)(cp_0:List (List Value))(hp_0:SlD cK F0 vp_0 2 cp_0 p.Domains)(vp_1:Value)(hp_1:SlC F0 vp_1 5 (p.Rules.Pairs.map cO))(vp_2:Value)(hp_2:SlC F0 vp_2 5 (p.Rules.Loads.map cP))(vp_3:Value)(hp_3:SlC F0 vp_3 4 (p.Rules.Caps.map cR))(domains:Int)(rules:Int)(fuel:Nat)(r:Bool)(hr:zcJ fuel p domains rules=some r):Calls Tryz.prog 32 #[.agg [vp_0,vp_1,vp_2,vp_3].toArray, .int .i64 domains, .int .i64 rules] w fun e w'=>e= .returned (.bool r)∧Below w.heap.size w w':=by
 have hk:=hr;unfold zcJ at hk;haveI:=hp_0.1.oneC;haveI:=hp_1.oneC;haveI:=hp_2.oneC;haveI:=hp_3.oneC;obtain ⟨S0,F1,rfl,hS0,hp0⟩:=ey hF0;refine dt Tryz.func32 rfl rfl rfl hp0 ?_;refine gp ?_;rintro _ _ ⟨g3,rfl,rfl⟩;refine mX ?_;have hq:=d7 hk;clear hk;obtain ⟨k1,hk1,hk⟩:=hq; (try dsimp only at hk);refine cZ (ι:=Unit) (fun z=>[(1, .int .i64 domains),(2, .int .i64 rules),(3, .pointer (some ⟨g3,0,none⟩))]) (fun z=>[.row g3 29 [vp_0,vp_1,vp_2,vp_3], .fr F1]) (fun z=>k1 ()=some r) ?_ ?_
 ·have hq:=zcS hk;clear hk;obtain ⟨f3,hf3,hk⟩:=hq;refine eA ?_;refine T.loop (ι:=Nat×Int) (fun z=>[(1, .int .i64 domains),(2, .int .i64 rules),(3, .pointer (some ⟨g3,0,none⟩)),(7, .int .i64 z.2)]) (fun z=>[.row g3 29 [vp_0,vp_1,vp_2,vp_3], .fr F1]) (fun z=>iZ f3 z.1 z.2=some r) (fun z=>z.1) (fuel,0) ?_ ?_ ?_ ?_
  ·exact hk
  ·exact nA
  ·exact eh
  ·rintro ⟨m_4,i_2⟩ hk; (try dsimp only at *);have hq:=zdv hk;clear hk;obtain ⟨m_4',rfl,hk⟩:=hq;generalize hn3:iZ f3 m_4'=next3 at hk;rw [←hf3] at hk; (try dsimp only at hk);refine T.seq (T.seq ?_);refine cZ (ι:=Unit) (fun z=>[(1, .int .i64 domains),(2, .int .i64 rules),(3, .pointer (some ⟨g3,0,none⟩)),(7, .int .i64 i_2),(16, .bool ((decide (i_2<(p.Domains.length:Int)))&&(decide (i_2<600))))]) (fun z=>[.row g3 29 [vp_0,vp_1,vp_2,vp_3], .fr F1]) (fun z=>True) ?_ ?_
   ·refine gM ?_;refine ef ?_;refine q2J ?_;have hm11:p.Domains.length≤9223372036854775807:=hp_0.2.1▸hp_0.1.max;refine d8 ?_;refine dn rfl rfl rfl (fun h5=>?_) (fun h5=>?_)
    ·have p5:=of_decide_eq_true h5;refine eB ?_;refine eW ?_;exact cS () trivial (.c (.c (.c (.c (.b (ku h5) .nil))))) (List.Sublist.refl _)
    ·have p5:=of_decide_eq_false h5;refine eB ?_;refine eW ?_;exact cS () trivial (.c (.c (.c (.c (.b (gr h5).symm .nil))))) (List.Sublist.refl _)
   ·rintro _ _;have hm11:p.Domains.length≤9223372036854775807:=hp_0.2.1▸hp_0.1.max;refine T.cond rfl (fun h6=>?_) (fun h6=>?_)
    ·have p6:=h6; (try simp only [cX] at p6);replace hk:=dr hk h6;refine je ?_;have hq:(0≤i_2∧i_2<(p.Domains.length:Int))∧_:=fu hk;clear hk;obtain ⟨g22,hk⟩:=hq; (try dsimp only at hk);refine fP ?_;refine i2 ?_;refine cL (c8 (i:=i_2.toNat) rfl rfl rfl hp_0.1 hp_0.2.1 a5 a5) ?_;refine cL (eE rfl rfl hp_0.1 hp_0.2.1 a5) ?_;refine cL (dj 1 (i:=i_2.toNat) (j:=1) rfl rfl rfl hp_0.1 hp_0.2.1 a5 rfl (GDomain.c1 (hp_0.2.2 i_2.toNat a5)).1) ?_;have hd24_1:=(GDomain.c1 (hp_0.2.2 i_2.toNat a5)).2;haveI:=hd24_1.oneC;refine cL (df rfl rfl hd24_1 (List.length_map _)) ?_;have hm25:((cJ p.Domains i_2.toNat).Channels).length≤9223372036854775807:=(List.length_map _)▸hd24_1.max;refine dA ?_;refine T.cond rfl (fun h7=>?_) (fun h7=>?_)
     ·have p7:=of_decide_eq_true h7;replace hk:=dr hk h7;refine gN ?_;obtain rfl:=Option.some.inj hk;exact dW
     ·have p7:=of_decide_eq_false h7;replace hk:=dq hk h7;refine ga ?_;rw [←hn3] at hk;exact K.next (m_4',(i_2+1)) hk a8 (.c (.c (.c (.c .nil)))) (List.Sublist.refl _)
    ·replace hk:=dq hk h6;refine eC ?_;exact cS () hk (.c (.c (.c .nil))) (List.Sublist.refl _)
 ·rintro _ hk;rw [←hk1] at hk; (try dsimp only at hk);refine T.seq ?_;refine cZ (ι:=Unit) (fun z=>[(6, .bool ((((decide ((p.Domains.length:Int)≤domains))&&(decide ((p.Rules.Pairs.length:Int)≤rules)))&&(decide ((p.Rules.Loads.length:Int)≤rules)))&&(decide ((p.Rules.Caps.length:Int)≤rules))))]) (fun z=>[.row g3 29 [vp_0,vp_1,vp_2,vp_3], .fr F1]) (fun z=>True) ?_ ?_
  ·refine lj ?_;refine q2J ?_;have hm29:p.Domains.length≤9223372036854775807:=hp_0.2.1▸hp_0.1.max;refine eB ?_;refine dn rfl rfl rfl (fun h8=>?_) (fun h8=>?_)
   ·have p8:=of_decide_eq_true h8;refine q4r ?_;have hm36:p.Rules.Pairs.length≤9223372036854775807:=(List.length_map _)▸hp_1.max;refine TL.run 4 rfl ?_;refine dn rfl rfl rfl (fun h9=>?_) (fun h9=>?_)
    ·have p9:=of_decide_eq_true h9;refine q3m ?_;have hm44:p.Rules.Loads.length≤9223372036854775807:=(List.length_map _)▸hp_2.max;refine TL.run 4 rfl ?_;refine dn rfl rfl rfl (fun h10=>?_) (fun h10=>?_)
     ·have p10:=of_decide_eq_true h10;refine q4w ?_;have hm52:p.Rules.Caps.length≤9223372036854775807:=(List.length_map _)▸hp_3.max;refine kA ?_;exact cS () trivial (.b (ku (jn (jn h8 h9) h10)) .nil) (List.Sublist.refl _)
     ·have p10:=of_decide_eq_false h10;refine TL.run 8 rfl ?_;refine eW ?_;exact cS () trivial (.b (gr (jn (jn h8 h9) h10)).symm .nil) (List.Sublist.refl _)
    ·have p9:=of_decide_eq_false h9;refine TL.run 16 rfl ?_;refine eW ?_;exact cS () trivial (.b (gr (gr (jn h8 h9))).symm .nil) (List.Sublist.refl _)
   ·have p8:=of_decide_eq_false h8;refine TL.run 24 rfl ?_;refine eW ?_;exact cS () trivial (.b (gr (gr (gr h8))).symm .nil) (List.Sublist.refl _)
  ·rintro _ _;have hm29:p.Domains.length≤9223372036854775807:=hp_0.2.1▸hp_0.1.max;have hm36:p.Rules.Pairs.length≤9223372036854775807:=(List.length_map _)▸hp_1.max;have hm44:p.Rules.Loads.length≤9223372036854775807:=(List.length_map _)▸hp_2.max;have hm52:p.Rules.Caps.length≤9223372036854775807:=(List.length_map _)▸hp_3.max;refine T.ret ?_;obtain rfl:=Option.some.inj hk;exact dW
def cI (F:Frz)(c:List Value)(x:List GChoice):Prop:=∃(v0:Value),c=[v0]∧SlC F v0 2 (x.map cV)
theorem R_List_GChoice.mono {F G:Frz}{c:List Value}{x:List GChoice}(hle:F.Le G)(h:cI F c x):cI G c x:=by
 obtain ⟨v0,h0,h1⟩:=h;exact ⟨v0,h0,h1.mono hle⟩
theorem R_List_GChoice.len {F:Frz}{c:List Value}{x:List GChoice}(h:cI F c x):c.length=1:=by
 obtain ⟨v0,h0,h1⟩:=h;subst h0;rfl
theorem R_List_GChoice.one {F:Frz}{c:List Value}{x:List GChoice}(h:cI F c x):OneCs c:=by
 obtain ⟨v0,h0,h1⟩:=h;subst h0;haveI:=h1.oneC
 infer_instance
theorem R_List_GChoice.c0 {F:Frz}{c:List Value}{x:List GChoice}(h:cI F c x):c[0]?=some (cJ c 0)∧SlC F (cJ c 0) 2 (x.map cV):=by
 obtain ⟨v0,h0,h1⟩:=h;subst h0;exact ⟨rfl,h1⟩
theorem kZ {F:Frz}{c:List Value}{x:List GChoice}(h:cI F c x):(c.drop 0).take 1=[cJ c 0]:=by
 obtain ⟨v0,h0,h1⟩:=h;subst h0;rfl
def zb6 (p:GProblem)(g_:List GChoice):Option Bool:=
 (zbw p).bind fun r8=>
 (bif ((!r8)||(!(zaS g_))) then
  some false
  else
  dH (fun (_:Unit)=>
   some true)
  (fun k3=>
   c6 (fun (i_5:Nat) (next4:Unit→Option Bool) (_:Unit)=>
    dH (fun (x_7:Bool)=>
     (bif x_7 then
      some false
      else
      next4 ()))
    (fun k8=>
     (bif decide ((fF p ((cJ g_ i_5).Station))<0) then
      k8 true
      else
      ej (0≤(fF p ((cJ g_ i_5).Station))∧(fF p ((cJ g_ i_5).Station))<(p.Domains.length:Int)) <|
      k8 (!(ed ((cJ p.Domains ((fF p ((cJ g_ i_5).Station)).toNat)).Channels) ((cJ g_ i_5).Channel))))))
   (fun (_:Unit)=>
    k3 ()) (g_.length - 0) 0 ()))
theorem zik (F0:Frz)(w:World)(hF0:F0.At w)(p:GProblem)(vp_0:Value)(cp_0:List (List Value))(hp_0:SlD cK F0 vp_0 2 cp_0 p.Domains)(vp_1:Value)(hp_1:SlC F0 vp_1 5 (p.Rules.Pairs.map cO))(vp_2:Value)(hp_2:SlC F0 vp_2 5 (p.Rules.Loads.map cP))(vp_3:Value)(hp_3:SlC F0 vp_3 4 (p.Rules.Caps.map cR))(g_:List GChoice)(vg_:Value)(hg_:SlC F0 vg_ 2 (g_.map cV))(r:Bool)(hr:zb6 p g_=some r):Calls Tryz.prog 38 #[.agg [vp_0,vp_1,vp_2,vp_3].toArray,vg_] w fun e w'=>e= .returned (.bool r)∧Below w.heap.size w w':=by
 have hk:=hr;unfold zb6 at hk;haveI:=hp_0.1.oneC;haveI:=hp_1.oneC;haveI:=hp_2.oneC;haveI:=hp_3.oneC;haveI:=hg_.oneC;obtain ⟨S0,F1,rfl,hS0,hp0⟩:=ey hF0;refine dt Tryz.func38 rfl rfl rfl hp0 ?_;refine gp ?_;rintro _ _ ⟨g2,rfl,rfl⟩;refine mJ ?_;have hq:=d5 hk;clear hk;obtain ⟨r8,hr8,hk⟩:=hq; (try dsimp only at hk);refine cZ (ι:=Unit) (fun z=>[(1,vg_),(2, .pointer (some ⟨g2,0,none⟩)),(14, .bool ((!r8)||(!(zaS g_))))]) (fun z=>[.row g2 29 [vp_0,vp_1,vp_2,vp_3], .fr F1]) (fun z=>True) ?_ ?_
 ·refine mH ?_;refine cU (cM rfl rfl rfl (fun w hw=>zea _ w (hw.fr (i:=1) rfl) p vp_0 cp_0 hp_0 vp_1 hp_1 vp_2 hp_2 vp_3 hp_3 r8 hr8)) ?_;refine kx ?_;refine dn rfl rfl rfl (fun h1=>?_) (fun h1=>?_)
  ·refine kA ?_;exact cS () trivial (.c (.c (.b (ie h1).symm .nil))) (List.Sublist.refl _)
  ·refine di ?_;refine cU (cM rfl rfl rfl (fun w hw=>zdY _ w (hw.fr (i:=1) rfl) g_ vg_ hg_)) ?_;refine lc ?_;exact cS () trivial (.c (.c (.b (f9 h1) .nil))) (List.Sublist.refl _)
 ·rintro _ _;refine T.cond rfl (fun h2=>?_) (fun h2=>?_)
  ·replace hk:=dr hk h2;refine iw ?_;obtain rfl:=Option.some.inj hk;exact dW
  ·replace hk:=dq hk h2;refine m5 ?_;have hq:=d7 hk;clear hk;obtain ⟨k3,hk3,hk⟩:=hq; (try dsimp only at hk);refine cZ (ι:=Unit) (fun z=>[]) (fun z=>[.fr F1]) (fun z=>k3 ()=some r) ?_ ?_
   ·have hq:=eS hk;clear hk;obtain ⟨f4,kk4,hf4,hkk4,hk⟩:=hq;refine eA ?_;refine T.loop (ι:=Nat) (fun z=>[(1,vg_),(2, .pointer (some ⟨g2,0,none⟩)),(5, .int .i64 (z:Int))]) (fun z=>[.row g2 29 [vp_0,vp_1,vp_2,vp_3], .fr F1]) (fun z=>c6 f4 kk4 (g_.length - z) z ()=some r) (fun z=>g_.length - z) 0 ?_ ?_ ?_ ?_
    ·exact hk
    ·exact l9
    ·exact eh
    ·rintro i_5 hk;refine iC ?_;refine q3V ?_;have hm17:g_.length≤9223372036854775807:=(List.length_map _)▸hg_.max;refine dA ?_;refine T.cond rfl (fun h6=>?_) (fun h6=>?_)
     ·have p6:=of_decide_eq_true h6;rw [eQ a5] at hk;generalize hn4:c6 f4 kk4 (g_.length - (i_5+1)) (i_5+1)=next4 at hk;rw [←hf4] at hk; (try dsimp only at hk);refine je ?_;refine dD (sN 0 6 (.eff 6 (.still 7 .done))) _ a7 (List.Sublist.refl _) ?_;refine jL ?_;refine gV ?_;refine q1U ?_;refine cQ rfl (dN 1 (i:=i_5) (j:=0) rfl rfl rfl hg_ a5) ?_;refine dy ?_;refine cW rfl (Wt.none) rfl rfl (cM rfl rfl rfl (fun w hw=>zcp _ w (hw.fr (i:=1) rfl) p vp_0 cp_0 hp_0 vp_1 hp_1 vp_2 hp_2 vp_3 hp_3 ((cJ g_ i_5).Station))) ?_;refine iJ ?_;refine mO ?_;refine K.seq (T.seq ?_); (try dsimp only at hk);have hq:=d7 hk;clear hk;obtain ⟨k8,hk8,hk⟩:=hq; (try dsimp only at hk);refine cZ (ι:=Bool) (fun z=>[(1,vg_),(2, .pointer (some ⟨g2,0,none⟩)),(5, .int .i64 (i_5:Int)),(44, .bool z)]) (fun z=>[.row g2 29 [vp_0,vp_1,vp_2,vp_3], .fr F1]) (fun z=>k8 z=some r) ?_ ?_
      ·refine dD (sN 0 14 (.eff 14 (.still 15 (.still 16 .done)))) _ a7 (List.Sublist.refl _) ?_;refine gb ?_;refine dB rfl rfl rfl rfl (fun h9=>?_) (fun h9=>?_)
       ·have p9:=of_decide_eq_true h9;replace hk:=dr hk h9;refine TS.run 11 rfl ?_;refine iX ?_;refine kR ?_;exact q5w
       ·have p9:=of_decide_eq_false h9;replace hk:=dq hk h9;refine ni ?_;have hq:(0≤(fF p ((cJ g_ i_5).Station))∧(fF p ((cJ g_ i_5).Station))<(p.Domains.length:Int))∧_:=fu hk;clear hk;obtain ⟨g34,hk⟩:=hq;refine cQ rfl (c8 (i:=(fF p ((cJ g_ i_5).Station)).toNat) rfl rfl rfl hp_0.1 hp_0.2.1 a5 a5) ?_;refine cQ rfl (eE rfl rfl hp_0.1 hp_0.2.1 a5) ?_;refine cQ rfl (dj 1 (i:=(fF p ((cJ g_ i_5).Station)).toNat) (j:=1) rfl rfl rfl hp_0.1 hp_0.2.1 a5 rfl (GDomain.c1 (hp_0.2.2 ((fF p ((cJ g_ i_5).Station)).toNat) a5)).1) ?_;have hd36_1:=(GDomain.c1 (hp_0.2.2 ((fF p ((cJ g_ i_5).Station)).toNat) a5)).2;haveI:=hd36_1.oneC;refine gV ?_;refine q1U ?_;refine cQ rfl (dN 1 (i:=i_5) (j:=1) rfl rfl rfl hg_ a5) ?_;refine dy ?_;refine cW rfl (Wt.some) rfl rfl (cM rfl rfl rfl (fun w hw=>zb7 _ w (hw.fr (i:=1) rfl) ((cJ p.Domains ((fF p ((cJ g_ i_5).Station)).toNat)).Channels) (cJ (cJ cp_0 ((fF p ((cJ g_ i_5).Station)).toNat)) 1) hd36_1 ((cJ g_ i_5).Channel))) ?_;refine iJ ?_;refine kR ?_;exact cS (!(ed ((cJ p.Domains ((fF p ((cJ g_ i_5).Station)).toNat)).Channels) ((cJ g_ i_5).Channel))) hk (.c (.c (.c (.c .nil)))) (List.Sublist.refl _)
      ·rintro x_7 hk;rw [←hk8] at hk; (try dsimp only at hk);refine T.cond rfl (fun h10=>?_) (fun h10=>?_)
       ·replace hk:=dr hk h10;refine gN ?_;obtain rfl:=Option.some.inj hk;exact dW
       ·replace hk:=dq hk h10;refine ga ?_;rw [←hn4] at hk;exact K.next (i_5+1) hk a5 (.c (.c (.c .nil))) (List.Sublist.refl _)
     ·have p6:=of_decide_eq_false h6;rw [eO a5,←hkk4] at hk; (try dsimp only at hk);refine nI ?_;exact jS
   ·rintro _ hk;rw [←hk3] at hk; (try dsimp only at hk);refine jB ?_;obtain rfl:=Option.some.inj hk;exact dW
def zbL (d:List GDomain)(g_:List GChoice)(s:Int)(c:Int):Bool:=
 dH (fun (has_1:Bool)=>
  has_1)
 (fun k2=>
  c6 (fun (i_5:Nat) (next4:Bool→Bool) (has_3:Bool)=>
   (bif decide ((cJ g_ i_5).Station=s) then
    next4 (decide ((cJ g_ i_5).Channel=c))
    else
    (bif !(lX d ((cJ g_ i_5).Station) ((cJ g_ i_5).Channel)) then
     false
     else
     next4 has_3)))
  (fun (has_3:Bool)=>
   k2 has_3) (g_.length - 0) 0 false)
theorem zgn (F0:Frz)(w:World)(hF0:F0.At w)(d:List GDomain)(vd:Value)(cd:List (List Value))(hd:SlD cK F0 vd 2 cd d)(g_:List GChoice)(vg_:Value)(hg_:SlC F0 vg_ 2 (g_.map cV))(s:Int)(c:Int):Calls Tryz.prog 162 #[vd,vg_, .int .i64 s, .int .i64 c] w fun e w'=>e= .returned (.bool (zbL d g_ s c))∧Below w.heap.size w w':=by
 obtain ⟨r,hk⟩:∃r,zbL d g_ s c=r:=⟨_,rfl⟩;rw [hk];unfold zbL at hk;haveI:=hd.1.oneC;haveI:=hg_.oneC;obtain ⟨S0,F1,rfl,hS0,hp0⟩:=ey hF0;refine dt Tryz.func162 rfl rfl rfl hp0 ?_;refine mE ?_;refine mX ?_;have hq:=d7 hk;clear hk;obtain ⟨k2,hk2,hk⟩:=hq; (try dsimp only at hk);refine cZ (ι:=Bool) (fun z=>[(9, .bool z)]) (fun z=>[.fr F1]) (fun z=>k2 z=r) ?_ ?_
 ·have hq:=eS hk;clear hk;obtain ⟨f4,kk4,hf4,hkk4,hk⟩:=hq;refine eA ?_;refine T.loop (ι:=Nat×Bool) (fun z=>[(0,vd),(1,vg_),(2, .int .i64 s),(3, .int .i64 c),(9, .bool z.2),(10, .int .i64 (z.1:Int))]) (fun z=>[.fr F1]) (fun z=>c6 f4 kk4 (g_.length - z.1) z.1 z.2=r) (fun z=>g_.length - z.1) (0,false) ?_ ?_ ?_ ?_
  ·exact hk
  ·exact q5j
  ·exact eh
  ·rintro ⟨i_5,has_3⟩ hk; (try dsimp only at *);refine iC ?_;refine q3V ?_;have hm13:g_.length≤9223372036854775807:=(List.length_map _)▸hg_.max;refine dA ?_;refine T.cond rfl (fun h6=>?_) (fun h6=>?_)
   ·have p6:=of_decide_eq_true h6;rw [eQ a5] at hk;generalize hn4:c6 f4 kk4 (g_.length - (i_5+1)) (i_5+1)=next4 at hk;rw [←hf4] at hk; (try dsimp only at hk);refine fh ?_;refine d8 ?_;refine q4v ?_;refine cL (dN 0 (i:=i_5) (j:=0) rfl rfl rfl hg_ a5) ?_;refine jE ?_;refine T.cond rfl (fun h7=>?_) (fun h7=>?_)
    ·have p7:=of_decide_eq_true h7;replace hk:=dr hk h7;refine iW ?_;refine q4v ?_;refine cL (dN 0 (i:=i_5) (j:=1) rfl rfl rfl hg_ a5) ?_;refine eB ?_;refine q4o ?_;rw [←hn4] at hk;exact K.next ((i_5+1),decide ((cJ g_ i_5).Channel=c)) hk a8 (.c (.c (.c (.c (.c (.c .nil)))))) (List.Sublist.refl _)
    ·have p7:=of_decide_eq_false h7;replace hk:=dq hk h7;refine T.seq ?_;refine q3e ?_;refine q1U ?_;refine cQ rfl (dN 0 (i:=i_5) (j:=0) rfl rfl rfl hg_ a5) ?_;refine gV ?_;refine q1U ?_;refine cQ rfl (dN 0 (i:=i_5) (j:=1) rfl rfl rfl hg_ a5) ?_;refine dy ?_;refine cW rfl (Wt.none) rfl rfl (cM rfl rfl rfl (fun w hw=>zdb _ w (hw.fr (i:=0) rfl) d vd cd hd ((cJ g_ i_5).Station) ((cJ g_ i_5).Channel))) ?_;refine iJ ?_;refine kg ?_;refine T.cond rfl (fun h8=>?_) (fun h8=>?_)
     ·replace hk:=dr hk h8;refine gN ?_;subst hk;exact dW
     ·replace hk:=dq hk h8;refine ga ?_;rw [←hn4] at hk;exact K.next ((i_5+1),has_3) hk a8 (.c (.c (.c (.c (.c (.c .nil)))))) (List.Sublist.refl _)
   ·have p6:=of_decide_eq_false h6;rw [eO a5,←hkk4] at hk; (try dsimp only at hk);refine eC ?_;exact cS has_3 hk (.c .nil) (List.Sublist.refl _)
 ·rintro has_1 hk;rw [←hk2] at hk; (try dsimp only at hk);refine jg ?_;refine fW ?_;subst hk;exact dW
def zb0 (p:GProblem)(store:List (List GChoice))(d:List GDomain)(s:Int)(c:Int):Bool:=
 dH (fun (_:Unit)=>
  (zbH p d s c))
 (fun k1=>
  c6 (fun (i_3:Nat) (next2:Unit→Bool) (_:Unit)=>
   (bif (zbL d (cJ store i_3) s c) then
    true
    else
    next2 ()))
  (fun (_:Unit)=>
   k1 ()) (store.length - 0) 0 ())
theorem zhb (F0:Frz)(w:World)(hF0:F0.At w)(p:GProblem)(vp_0:Value)(cp_0:List (List Value))(hp_0:SlD cK F0 vp_0 2 cp_0 p.Domains)(vp_1:Value)(hp_1:SlC F0 vp_1 5 (p.Rules.Pairs.map cO))(vp_2:Value)(hp_2:SlC F0 vp_2 5 (p.Rules.Loads.map cP))(vp_3:Value)(hp_3:SlC F0 vp_3 4 (p.Rules.Caps.map cR))(store:List (List GChoice))(vstore:Value)(cstore:List (List Value))(hstore:SlD cI F0 vstore 1 cstore store)(d:List GDomain)(vd:Value)(cd:List (List Value))(hd:SlD cK F0 vd 2 cd d)(s:Int)(c:Int):Calls Tryz.prog 149 #[.agg [vp_0,vp_1,vp_2,vp_3].toArray,vstore,vd, .int .i64 s, .int .i64 c] w fun e w'=>e= .returned (.bool (zb0 p store d s c))∧Below w.heap.size w w':=by
 obtain ⟨r,hk⟩:∃r,zb0 p store d s c=r:=⟨_,rfl⟩;rw [hk];unfold zb0 at hk;haveI:=hp_0.1.oneC;haveI:=hp_1.oneC;haveI:=hp_2.oneC;haveI:=hp_3.oneC;haveI:=hstore.1.oneC;haveI:=hd.1.oneC;obtain ⟨S0,F1,rfl,hS0,hp0⟩:=ey hF0;refine dt Tryz.func149 rfl rfl rfl hp0 ?_;refine gp ?_;rintro _ _ ⟨g5,rfl,rfl⟩;refine mX ?_;have hq:=d7 hk;clear hk;obtain ⟨k1,hk1,hk⟩:=hq; (try dsimp only at hk);refine cZ (ι:=Unit) (fun z=>[(2,vd),(3, .int .i64 s),(4, .int .i64 c),(5, .pointer (some ⟨g5,0,none⟩))]) (fun z=>[.row g5 29 [vp_0,vp_1,vp_2,vp_3], .fr F1]) (fun z=>k1 ()=r) ?_ ?_
 ·have hq:=eS hk;clear hk;obtain ⟨f2,kk2,hf2,hkk2,hk⟩:=hq;refine eA ?_;refine T.loop (ι:=Nat) (fun z=>[(1,vstore),(2,vd),(3, .int .i64 s),(4, .int .i64 c),(5, .pointer (some ⟨g5,0,none⟩)),(11, .int .i64 (z:Int))]) (fun z=>[.row g5 29 [vp_0,vp_1,vp_2,vp_3], .fr F1]) (fun z=>c6 f2 kk2 (store.length - z) z ()=r) (fun z=>store.length - z) 0 ?_ ?_ ?_ ?_
  ·exact hk
  ·exact q5j
  ·exact eh
  ·rintro i_3 hk;refine iC ?_;refine cL (df rfl rfl hstore.1 hstore.2.1) ?_;have hm14:store.length≤9223372036854775807:=hstore.2.1▸hstore.1.max;refine dA ?_;refine T.cond rfl (fun h4=>?_) (fun h4=>?_)
   ·have p4:=of_decide_eq_true h4;rw [eQ a5] at hk;generalize hn2:c6 f2 kk2 (store.length - (i_3+1)) (i_3+1)=next2 at hk;rw [←hf2] at hk; (try dsimp only at hk);refine fh ?_;refine eB ?_;refine cL (c8 (i:=i_3) rfl rfl rfl hstore.1 hstore.2.1 rfl a5) ?_;refine cL (dj 1 (i:=i_3) (j:=0) rfl rfl rfl hstore.1 hstore.2.1 a5 rfl (R_List_GChoice.c0 (hstore.2.2 i_3 a5)).1) ?_;have hd22_0:=(R_List_GChoice.c0 (hstore.2.2 i_3 a5)).2;haveI:=hd22_0.oneC;refine d8 ?_;refine cU (cM rfl rfl rfl (fun w hw=>zgn _ w (hw.fr (i:=1) rfl) d vd cd hd (cJ store i_3) (cJ (cJ cstore i_3) 0) hd22_0 s c)) ?_;refine nJ ?_;refine T.cond rfl (fun h5=>?_) (fun h5=>?_)
    ·replace hk:=dr hk h5;refine gN ?_;subst hk;exact dW
    ·replace hk:=dq hk h5;refine ga ?_;rw [←hn2] at hk;exact K.next (i_3+1) hk a5 (.c (.c (.c (.c (.c (.c .nil)))))) (List.Sublist.refl _)
   ·have p4:=of_decide_eq_false h4;rw [eO a5,←hkk2] at hk; (try dsimp only at hk);refine eC ?_;exact q5n
 ·rintro _ hk;rw [←hk1] at hk; (try dsimp only at hk);refine dh ?_;refine ik ?_;refine eB ?_;refine cU (cM rfl rfl rfl (fun w hw=>zgX _ w (hw.fr (i:=1) rfl) p vp_0 cp_0 hp_0 vp_1 hp_1 vp_2 hp_2 vp_3 hp_3 d vd cd hd s c)) ?_;refine fD ?_;refine fw ?_;subst hk;exact dW
def zbZ (fuel:Nat)(p:GProblem)(store:List (List GChoice))(d:List GDomain):Option (List GDomain×Bool):=
 dH (fun (d_1:List GDomain)=>
  dH (fun (_:Unit)=>
   dH (fun (_:Unit)=>
    some (d_1,true))
   (fun k25=>
    c6 (fun (i_27:Nat) (next26:Unit→Option (List GDomain×Bool)) (_:Unit)=>
     (bif decide (((cJ store i_27).length:Int)=0) then
      some ([],false)
      else
      next26 ()))
    (fun (_:Unit)=>
     k25 ()) (store.length - 0) 0 ()))
  (fun k20=>
   c6 (fun (i_22:Nat) (next21:Unit→Option (List GDomain×Bool)) (_:Unit)=>
    (bif decide ((((cJ d_1 i_22).Channels).length:Int)=0) then
     some ([],false)
     else
     next21 ()))
   (fun (_:Unit)=>
    k20 ()) (d_1.length - 0) 0 ()))
 (fun k2=>
  iZ (fun (next5:(List GDomain×Bool)→Option (List GDomain×Bool)) (s5:List GDomain×Bool)=>
   (bif s5.2 then
    iZ (fun (next11:(List GDomain×Bool×Int)→Option (List GDomain×Bool)) (s11:List GDomain×Bool×Int)=>
     (bif decide (s11.2.2<(s11.1.length:Int)) then
      ej (0≤s11.2.2∧s11.2.2<(s11.1.length:Int)) <|
      ks (fun (k_17:Nat) (next16:(List GDomain×Bool)→Option (List GDomain×Bool)) (s16:List GDomain×Bool)=>
       ej (0≤s11.2.2∧s11.2.2<(s16.1.length:Int)) <|
       ej (0≤(k_17:Int)∧(k_17:Int)<(((cJ s16.1 s11.2.2.toNat).Channels).length:Int)) <|
       (bif (zb0 p store s16.1 ((cJ s16.1 s11.2.2.toNat).Station) (cJ ((cJ s16.1 s11.2.2.toNat).Channels) k_17)) then
        (zbx s16.1 ((cJ s16.1 s11.2.2.toNat).Station) (cJ ((cJ s16.1 s11.2.2.toNat).Channels) k_17)).bind fun r55=>
        next16 (r55,true)
        else
        next16 (s16.1,s16.2)))
      (fun (s16:List GDomain×Bool)=>
       next11 (s16.1,s16.2,(s11.2.2+1))) (((cJ s11.1 s11.2.2.toNat).Channels).length) (s11.1,s11.2.1)
      else
      next5 (s11.1,s11.2.1))) fuel (s5.1,false,0)
    else
    k2 s5.1)) fuel (d,true))
theorem zf5 (F0:Frz)(w:World)(hF0:F0.At w)(p:GProblem)(vp_0:Value)(cp_0:List (List Value))(hp_0:SlD cK F0 vp_0 2 cp_0 p.Domains)(vp_1:Value)(hp_1:SlC F0 vp_1 5 (p.Rules.Pairs.map cO))(vp_2:Value)(hp_2:SlC F0 vp_2 5 (p.Rules.Loads.map cP))(vp_3:Value)(hp_3:SlC F0 vp_3 4 (p.Rules.Caps.map cR))(store:List (List GChoice))(vstore:Value)(cstore:List (List Value))(hstore:SlD cI F0 vstore 1 cstore store)(d:List GDomain)(vd:Value)(cd:List (List Value))(hd:SlD cK F0 vd 2 cd d)(fuel:Nat)(r:List GDomain×Bool)(hr:zbZ fuel p store d=some r):Calls Tryz.prog 121 #[.agg [vp_0,vp_1,vp_2,vp_3].toArray,vstore,vd] w fun e w'=>∃(y:Value×List (List Value)) (G:Frz),(SlD cK G y.1 2 y.2 r.1)∧e= .returned (.tuple #[y.1, .bool r.2])∧Fx F0 w G w':=by
 have hk:=hr;unfold zbZ at hk;haveI:=hp_0.1.oneC;haveI:=hp_1.oneC;haveI:=hp_2.oneC;haveI:=hp_3.oneC;haveI:=hstore.1.oneC;haveI:=hd.1.oneC;obtain ⟨S0,F1,rfl,hS0,hp0⟩:=ey hF0;refine dt Tryz.func121 rfl rfl rfl hp0 ?_;refine gp ?_;rintro _ _ ⟨g3,rfl,rfl⟩;refine d8 ?_;refine mc ?_;have hq:=d7 hk;clear hk;obtain ⟨k2,hk2,hk⟩:=hq; (try dsimp only at hk);refine cZ (ι:=List GDomain×Value×List (List Value)×FzB w (fun _=>False) S0) (fun z=>[(1,vstore),(2,z.2.1)]) (fun z=>[.fr z.2.2.2]) (fun z=>k2 z.1=some r∧SlD cK z.2.2.2.toFrz z.2.1 2 z.2.2.1 z.1∧F1.toFrz.Le z.2.2.2.toFrz) ?_ ?_
 ·have hq:=zcS hk;clear hk;obtain ⟨f5,hf5,hk⟩:=hq;refine eA ?_;refine T.loop (ι:=Nat×List GDomain×Value×List (List Value)×Bool×FzB w (fun _=>False) S0) (fun z=>[(1,vstore),(2,z.2.2.1),(3, .pointer (some ⟨g3,0,none⟩)),(8, .bool z.2.2.2.2.1)]) (fun z=>[.row g3 29 [vp_0,vp_1,vp_2,vp_3], .fr z.2.2.2.2.2]) (fun z=>iZ f5 z.1 (z.2.1,z.2.2.2.2.1)=some r∧SlD cK z.2.2.2.2.2.toFrz z.2.2.1 2 z.2.2.2.1 z.2.1∧F1.toFrz.Le z.2.2.2.2.2.toFrz) (fun z=>z.1) (fuel,d,vd,cd,true,F1) ?_ ?_ ?_ ?_
  ·exact ⟨hk,hd,(Frz.Le.refl _)⟩
  ·exact nA
  ·exact eh
  ·rintro ⟨m_6,d_3,vd_3,cd_3,again_4,F3⟩ ⟨hk,hd_3,le1_3⟩; (try dsimp only at *);haveI:=hd_3.1.oneC;have hq:=zdv hk;clear hk;obtain ⟨m_6',rfl,hk⟩:=hq;generalize hn5:iZ f5 m_6'=next5 at hk;rw [←hf5] at hk; (try dsimp only at hk);refine lT ?_;refine T.cond rfl (fun h7=>?_) (fun h7=>?_)
   ·replace hk:=dr hk h7;refine T.skip (K.seq (T.block (dh ?_)));refine gF ?_;refine dA ?_;have hq:=zcS hk;clear hk;obtain ⟨f11,hf11,hk⟩:=hq;refine eA ?_;refine T.loop (ι:=Nat×List GDomain×Value×List (List Value)×Bool×Int×FzB w (fun _=>False) S0) (fun z=>[(1,vstore),(2,z.2.2.1),(3, .pointer (some ⟨g3,0,none⟩)),(8, .bool z.2.2.2.2.1),(9, .int .i64 z.2.2.2.2.2.1)]) (fun z=>[.row g3 29 [vp_0,vp_1,vp_2,vp_3], .fr z.2.2.2.2.2.2]) (fun z=>iZ f11 z.1 (z.2.1,z.2.2.2.2.1,z.2.2.2.2.2.1)=some r∧SlD cK z.2.2.2.2.2.2.toFrz z.2.2.1 2 z.2.2.2.1 z.2.1∧F3.toFrz.Le z.2.2.2.2.2.2.toFrz) (fun z=>z.1) (fuel,d_3,vd_3,cd_3,false,0,F3) ?_ ?_ ?_ ?_
    ·exact ⟨hk,hd_3,(Frz.Le.refl _)⟩
    ·exact jM
    ·exact eh
    ·rintro ⟨m_12,d_8,vd_8,cd_8,again_9,i_10,F4⟩ ⟨hk,hd_8,le3_4⟩; (try dsimp only at *);have le1_4:=le1_3.trans le3_4;haveI:=hd_8.1.oneC;have hq:=zdv hk;clear hk;obtain ⟨m_12',rfl,hk⟩:=hq;generalize hn11:iZ f11 m_12'=next11 at hk;rw [←hf11] at hk; (try dsimp only at hk);refine iC ?_;refine cL (df rfl rfl hd_8.1 hd_8.2.1) ?_;have hm18:d_8.length≤9223372036854775807:=hd_8.2.1▸hd_8.1.max;refine dA ?_;refine T.cond rfl (fun h13=>?_) (fun h13=>?_)
     ·have p13:=of_decide_eq_true h13;replace hk:=dr hk h13;refine je ?_;have hq:(0≤i_10∧i_10<(d_8.length:Int))∧_:=fu hk;clear hk;obtain ⟨g24,hk⟩:=hq; (try dsimp only at hk);refine iW ?_;refine cL (c8 (i:=i_10.toNat) rfl rfl rfl hd_8.1 hd_8.2.1 a5 a5) ?_;refine cL (eE rfl rfl hd_8.1 hd_8.2.1 a5) ?_;refine cL (dj 1 (i:=i_10.toNat) (j:=1) rfl rfl rfl hd_8.1 hd_8.2.1 a5 rfl (GDomain.c1 (hd_8.2.2 i_10.toNat a5)).1) ?_;have hd26_1:=(GDomain.c1 (hd_8.2.2 i_10.toNat a5)).2;haveI:=hd26_1.oneC;refine cL (df rfl rfl hd26_1 (List.length_map _)) ?_;have hm27:((cJ d_8 i_10.toNat).Channels).length≤9223372036854775807:=(List.length_map _)▸hd26_1.max;refine nh ?_;refine dA ?_;have hq:=zfN hk;clear hk;obtain ⟨f16,kk16,hf16,hkk16,hk⟩:=hq;refine eA ?_;refine T.loop (ι:=Nat×List GDomain×Value×List (List Value)×Bool×FzB w (fun _=>False) S0) (fun z=>[(1,vstore),(2,z.2.2.1),(3, .pointer (some ⟨g3,0,none⟩)),(8, .bool z.2.2.2.2.1),(9, .int .i64 i_10),(10, .int .i64 ((z.1:Int) - 1))]) (fun z=>[.row g3 29 [vp_0,vp_1,vp_2,vp_3], .fr z.2.2.2.2.2]) (fun z=>ks f16 kk16 z.1 (z.2.1,z.2.2.2.2.1)=some r∧z.1≤((cJ d_8 i_10.toNat).Channels).length∧SlD cK z.2.2.2.2.2.toFrz z.2.2.1 2 z.2.2.2.1 z.2.1∧F4.toFrz.Le z.2.2.2.2.2.toFrz) (fun z=>z.1) (((cJ d_8 i_10.toNat).Channels).length,d_8,vd_8,cd_8,again_9,F4) ?_ ?_ ?_ ?_
      ·exact ⟨hk,(Nat.le_refl _),hd_8,(Frz.Le.refl _)⟩
      ·exact q5j
      ·exact eh
      ·rintro ⟨k_17,d_14,vd_14,cd_14,again_15,F5⟩ ⟨hk,hle16,hd_14,le4_5⟩; (try dsimp only at *);have le1_5:=le1_4.trans le4_5;have le3_5:=le3_4.trans le4_5;haveI:=hd_14.1.oneC;refine iC ?_;refine db ?_;refine T.cond rfl (fun h18=>?_) (fun h18=>?_)
       ·have p18:=of_decide_eq_true h18;obtain ⟨k_17',rfl⟩:∃q,k_17=q+1:=⟨k_17 - 1,by omega⟩;replace hk:f16 k_17' (ks f16 kk16 k_17') (d_14,again_15)=some r:=hk;generalize hn16:ks f16 kk16 k_17'=next16 at hk;rw [←hf16] at hk; (try dsimp only at hk);refine T.aN (gs:=[(1,vstore),(2,vd_14),(3, .pointer (some ⟨g3,0,none⟩)),(8, .bool again_15),(9, .int .i64 i_10),(10, .int .i64 (k_17':Int))]) (by repeat (first|exact Sub.nil|refine Sub.cons rfl ?_|refine ex rfl a5 ?_|refine ii rfl cD ?_)) (List.Sublist.refl _) ?_;refine je ?_;have hq:(0≤i_10∧i_10<(d_14.length:Int))∧_:=fu hk;clear hk;obtain ⟨g35,hk⟩:=hq;have hq:(0≤(k_17':Int)∧(k_17':Int)<(((cJ d_14 i_10.toNat).Channels).length:Int))∧_:=fu hk;clear hk;obtain ⟨g44,hk⟩:=hq; (try dsimp only at hk);refine dD (sN 0 14 (.still 14 .done)) _ a7 (List.Sublist.refl _) ?_;refine q35 ?_;refine cQ rfl (dj 1 (i:=i_10.toNat) (j:=0) rfl rfl rfl hd_14.1 hd_14.2.1 a5 rfl (GDomain.c0 (hd_14.2.2 i_10.toNat a5))) ?_;refine q35 ?_;refine cQ rfl (dj 1 (i:=i_10.toNat) (j:=1) rfl rfl rfl hd_14.1 hd_14.2.1 a5 rfl (GDomain.c1 (hd_14.2.2 i_10.toNat a5)).1) ?_;have hd42_1:=(GDomain.c1 (hd_14.2.2 i_10.toNat a5)).2;haveI:=hd42_1.oneC;refine fK ?_;refine cQ rfl (c8 (i:=k_17') rfl rfl rfl hd42_1 (List.length_map _) rfl a5) ?_;refine cQ rfl (dN 1 (i:=k_17') (j:=0) rfl rfl rfl hd42_1 a5) ?_;refine kR ?_;refine K.seq (dh ?_);refine ik ?_;refine TL.run 4 rfl ?_;refine cU (cM rfl rfl rfl (fun w hw=>zhb _ w (hw.fr (i:=1) rfl) p vp_0 cp_0 (SlD.mono (rep:=cK) (fun _ _ _ _=>GDomain.mono) hp_0 le1_5) vp_1 (SlC.mono hp_1 le1_5) vp_2 (SlC.mono hp_2 le1_5) vp_3 (SlC.mono hp_3 le1_5) store vstore cstore (SlD.mono (rep:=cI) (fun _ _ _ _=>R_List_GChoice.mono) hstore le1_5) d_14 vd_14 cd_14 hd_14 ((cJ d_14 i_10.toNat).Station) (cJ ((cJ d_14 i_10.toNat).Channels) k_17'))) ?_;refine nJ ?_;refine T.cond rfl (fun h19=>?_) (fun h19=>?_)
        ·replace hk:=dr hk h19;have hq:=d5 hk;clear hk;obtain ⟨r55,hr55,hk⟩:=hq; (try dsimp only at hk);refine q4F ?_;refine cU (dR 1 rfl rfl rfl rfl (fun w hw hF=>zji _ w hF d_14 vd_14 cd_14 hd_14 ((cJ d_14 i_10.toNat).Station) (cJ ((cJ d_14 i_10.toNat).Channels) k_17') r55 hr55)) ?_;rintro _ _ ⟨⟨v55_0_0,cs55_0_0⟩,F6,le5_6,hf55_0_0,hq,rfl⟩;obtain rfl:=hq.symm;dsimp only at hf55_0_0 ⊢;have le4_6:=le4_5.trans le5_6;haveI:=hf55_0_0.1.oneC;refine d8 ?_;refine q0U ?_;refine q20 ?_;rw [←hn16] at hk;exact K.next (k_17',r55,v55_0_0,cs55_0_0,true,F6) ⟨hk,a8,hf55_0_0,le4_6⟩ a8 (.c (.c (.c (.c (.c (.c .nil)))))) (List.Sublist.refl _)
        ·replace hk:=dq hk h19;refine q0p ?_;refine q20 ?_;rw [←hn16] at hk;exact K.next (k_17',d_14,vd_14,cd_14,again_15,F5) ⟨hk,a8,hd_14,le4_5⟩ a8 (.c (.c (.c (.c (.c (.c .nil)))))) (List.Sublist.refl _)
       ·have p18:=of_decide_eq_false h18;obtain rfl:k_17=0:=a5;replace hk:kk16 (d_14,again_15)=some r:=hk;rw [←hkk16] at hk; (try dsimp only at hk);refine q2R ?_;refine di ?_;refine jH ?_;rw [←hn11] at hk;exact K.next (m_12',d_14,vd_14,cd_14,again_15,(i_10+1),F5) ⟨hk,hd_14,le3_5⟩ a8 (.c (.c (.c (.c (.c .nil))))) (List.Sublist.refl _)
     ·have p13:=of_decide_eq_false h13;replace hk:=dq hk h13;refine q36 ?_;rw [←hn5] at hk;exact K.next (m_6',d_8,vd_8,cd_8,again_9,F4) ⟨hk,hd_8,le1_4⟩ a8 (.c (.c (.c (.c .nil)))) (List.Sublist.refl _)
   ·replace hk:=dq hk h7;refine nI ?_;exact cS (d_3,vd_3,cd_3,F3) ⟨hk,hd_3,le1_3⟩ (.c (.c .nil)) (List.Sublist.refl _)
 ·rintro ⟨d_1,vd_1,cd_1,F2⟩ ⟨hk,hd_1,le1_2⟩; (try dsimp only at *);rw [←hk2] at hk; (try dsimp only at hk);haveI:=hd_1.1.oneC;refine lT ?_;have hq:=d7 hk;clear hk;obtain ⟨k20,hk20,hk⟩:=hq; (try dsimp only at hk);refine cZ (ι:=Unit) (fun z=>[(1,vstore),(2,vd_1)]) (fun z=>[.fr F2]) (fun z=>k20 ()=some r) ?_ ?_
  ·have hq:=eS hk;clear hk;obtain ⟨f21,kk21,hf21,hkk21,hk⟩:=hq;refine eA ?_;refine T.loop (ι:=Nat) (fun z=>[(1,vstore),(2,vd_1),(13, .int .i64 (z:Int))]) (fun z=>[.fr F2]) (fun z=>c6 f21 kk21 (d_1.length - z) z ()=some r) (fun z=>d_1.length - z) 0 ?_ ?_ ?_ ?_
   ·exact hk
   ·exact l9
   ·exact eh
   ·rintro i_22 hk;refine iC ?_;refine cL (df rfl rfl hd_1.1 hd_1.2.1) ?_;have hm58:d_1.length≤9223372036854775807:=hd_1.2.1▸hd_1.1.max;refine dA ?_;refine T.cond rfl (fun h23=>?_) (fun h23=>?_)
    ·have p23:=of_decide_eq_true h23;rw [eQ a5] at hk;generalize hn21:c6 f21 kk21 (d_1.length - (i_22+1)) (i_22+1)=next21 at hk;rw [←hf21] at hk; (try dsimp only at hk);refine fh ?_;refine d8 ?_;refine cL (c8 (i:=i_22) rfl rfl rfl hd_1.1 hd_1.2.1 rfl a5) ?_;refine cL (eE rfl rfl hd_1.1 hd_1.2.1 a5) ?_;refine cL (dj 0 (i:=i_22) (j:=1) rfl rfl rfl hd_1.1 hd_1.2.1 a5 rfl (GDomain.c1 (hd_1.2.2 i_22 a5)).1) ?_;have hd66_1:=(GDomain.c1 (hd_1.2.2 i_22 a5)).2;haveI:=hd66_1.oneC;refine cL (df rfl rfl hd66_1 (List.length_map _)) ?_;have hm67:((cJ d_1 i_22).Channels).length≤9223372036854775807:=(List.length_map _)▸hd66_1.max;refine dA ?_;refine T.cond rfl (fun h24=>?_) (fun h24=>?_)
     ·have p24:=of_decide_eq_true h24;replace hk:=dr hk h24;refine jg ?_;refine q2p ?_;obtain rfl:=Option.some.inj hk;exact q5M
     ·have p24:=of_decide_eq_false h24;replace hk:=dq hk h24;refine ga ?_;rw [←hn21] at hk;exact K.next (i_22+1) hk a5 (.c (.c (.c .nil))) (List.Sublist.refl _)
    ·have p23:=of_decide_eq_false h23;rw [eO a5,←hkk21] at hk; (try dsimp only at hk);refine eC ?_;exact cS () hk (.c (.c .nil)) (List.Sublist.refl _)
  ·rintro _ hk;rw [←hk20] at hk; (try dsimp only at hk);refine lT ?_;have hq:=d7 hk;clear hk;obtain ⟨k25,hk25,hk⟩:=hq; (try dsimp only at hk);refine cZ (ι:=Unit) (fun z=>[(2,vd_1)]) (fun z=>[.fr F2]) (fun z=>k25 ()=some r) ?_ ?_
   ·have hq:=eS hk;clear hk;obtain ⟨f26,kk26,hf26,hkk26,hk⟩:=hq;refine eA ?_;refine T.loop (ι:=Nat) (fun z=>[(1,vstore),(2,vd_1),(14, .int .i64 (z:Int))]) (fun z=>[.fr F2]) (fun z=>c6 f26 kk26 (store.length - z) z ()=some r) (fun z=>store.length - z) 0 ?_ ?_ ?_ ?_
    ·exact hk
    ·exact l9
    ·exact eh
    ·rintro i_27 hk;refine iC ?_;refine cL (df rfl rfl (SlD.mono (rep:=cI) (fun _ _ _ _=>R_List_GChoice.mono) hstore le1_2).1 (SlD.mono (rep:=cI) (fun _ _ _ _=>R_List_GChoice.mono) hstore le1_2).2.1) ?_;have hm71:store.length≤9223372036854775807:=(SlD.mono (rep:=cI) (fun _ _ _ _=>R_List_GChoice.mono) hstore le1_2).2.1▸(SlD.mono (rep:=cI) (fun _ _ _ _=>R_List_GChoice.mono) hstore le1_2).1.max;refine dA ?_;refine T.cond rfl (fun h28=>?_) (fun h28=>?_)
     ·have p28:=of_decide_eq_true h28;rw [eQ a5] at hk;generalize hn26:c6 f26 kk26 (store.length - (i_27+1)) (i_27+1)=next26 at hk;rw [←hf26] at hk; (try dsimp only at hk);refine fh ?_;refine d8 ?_;refine cL (c8 (i:=i_27) rfl rfl rfl (SlD.mono (rep:=cI) (fun _ _ _ _=>R_List_GChoice.mono) hstore le1_2).1 (SlD.mono (rep:=cI) (fun _ _ _ _=>R_List_GChoice.mono) hstore le1_2).2.1 rfl a5) ?_;refine cL (dj 0 (i:=i_27) (j:=0) rfl rfl rfl (SlD.mono (rep:=cI) (fun _ _ _ _=>R_List_GChoice.mono) hstore le1_2).1 (SlD.mono (rep:=cI) (fun _ _ _ _=>R_List_GChoice.mono) hstore le1_2).2.1 a5 rfl (R_List_GChoice.c0 ((SlD.mono (rep:=cI) (fun _ _ _ _=>R_List_GChoice.mono) hstore le1_2).2.2 i_27 a5)).1) ?_;have hd78_0:=(R_List_GChoice.c0 ((SlD.mono (rep:=cI) (fun _ _ _ _=>R_List_GChoice.mono) hstore le1_2).2.2 i_27 a5)).2;haveI:=hd78_0.oneC;refine cL (df rfl rfl hd78_0 (List.length_map _)) ?_;have hm79:(cJ store i_27).length≤9223372036854775807:=(List.length_map _)▸hd78_0.max;refine dA ?_;refine T.cond rfl (fun h29=>?_) (fun h29=>?_)
      ·have p29:=of_decide_eq_true h29;replace hk:=dr hk h29;refine jg ?_;refine q2p ?_;obtain rfl:=Option.some.inj hk;exact q5M
      ·have p29:=of_decide_eq_false h29;replace hk:=dq hk h29;refine ga ?_;rw [←hn26] at hk;exact K.next (i_27+1) hk a5 (.c (.c (.c .nil))) (List.Sublist.refl _)
     ·have p28:=of_decide_eq_false h28;rw [eO a5,←hkk26] at hk; (try dsimp only at hk);refine eC ?_;exact q5h
   ·rintro _ hk;rw [←hk25] at hk; (try dsimp only at hk);refine dh ?_;refine eB ?_;refine fW ?_;obtain rfl:=Option.some.inj hk;exact ez rfl rfl rfl (fun w' hw=>⟨(vd_1,cd_1),F2.toFrz,hd_1,rfl,eJ hw (i:=0) rfl hS0 le1_2⟩)
def zdI (fuel:Nat)(p:GProblem)(store:List (List GChoice))(l:List GChoice):Option (List GDomain×Bool):=
 dH (fun (d_1:List GDomain)=>
  (zbZ fuel p store d_1).bind fun r33=>
  some (r33.1,r33.2))
 (fun k2=>
  c6 (fun (i_5:Nat) (next4:List GDomain→Option (List GDomain×Bool)) (d_3:List GDomain)=>
   (zb2 d_3 ((cJ l i_5).Station) ((cJ l i_5).Channel)).bind fun r29=>
   next4 r29)
  (fun (d_3:List GDomain)=>
   k2 d_3) (l.length - 0) 0 p.Domains)
theorem zjV (F0:Frz)(w:World)(hF0:F0.At w)(p:GProblem)(vp_0:Value)(cp_0:List (List Value))(hp_0:SlD cK F0 vp_0 2 cp_0 p.Domains)(vp_1:Value)(hp_1:SlC F0 vp_1 5 (p.Rules.Pairs.map cO))(vp_2:Value)(hp_2:SlC F0 vp_2 5 (p.Rules.Loads.map cP))(vp_3:Value)(hp_3:SlC F0 vp_3 4 (p.Rules.Caps.map cR))(store:List (List GChoice))(vstore:Value)(cstore:List (List Value))(hstore:SlD cI F0 vstore 1 cstore store)(l:List GChoice)(vl:Value)(hl:SlC F0 vl 2 (l.map cV))(fuel:Nat)(r:List GDomain×Bool)(hr:zdI fuel p store l=some r):Calls Tryz.prog 76 #[.agg [vp_0,vp_1,vp_2,vp_3].toArray,vstore,vl] w fun e w'=>∃(y:Value×List (List Value)) (G:Frz),(SlD cK G y.1 2 y.2 r.1)∧e= .returned (.tuple #[y.1, .bool r.2])∧Fx F0 w G w':=by
 have hk:=hr;unfold zdI at hk;haveI:=hp_0.1.oneC;haveI:=hp_1.oneC;haveI:=hp_2.oneC;haveI:=hp_3.oneC;haveI:=hstore.1.oneC;haveI:=hl.oneC;obtain ⟨S0,F1,rfl,hS0,hp0⟩:=ey hF0;refine dt Tryz.func76 rfl rfl rfl hp0 ?_;refine gp ?_;rintro _ _ ⟨g3,rfl,rfl⟩;refine d8 ?_;refine dX ?_;refine ef ?_;refine mX ?_;have hq:=d7 hk;clear hk;obtain ⟨k2,hk2,hk⟩:=hq; (try dsimp only at hk);refine cZ (ι:=List GDomain×Value×List (List Value)×FzB w (fun _=>False) S0) (fun z=>[(1,vstore),(3, .pointer (some ⟨g3,0,none⟩)),(8,z.2.1)]) (fun z=>[.row g3 29 [vp_0,vp_1,vp_2,vp_3], .fr z.2.2.2]) (fun z=>k2 z.1=some r∧SlD cK z.2.2.2.toFrz z.2.1 2 z.2.2.1 z.1∧F1.toFrz.Le z.2.2.2.toFrz) ?_ ?_
 ·have hq:=eS hk;clear hk;obtain ⟨f4,kk4,hf4,hkk4,hk⟩:=hq;refine eA ?_;refine T.loop (ι:=Nat×List GDomain×Value×List (List Value)×FzB w (fun _=>False) S0) (fun z=>[(1,vstore),(2,vl),(3, .pointer (some ⟨g3,0,none⟩)),(8,z.2.2.1),(9, .int .i64 (z.1:Int))]) (fun z=>[.row g3 29 [vp_0,vp_1,vp_2,vp_3], .fr z.2.2.2.2]) (fun z=>c6 f4 kk4 (l.length - z.1) z.1 z.2.1=some r∧SlD cK z.2.2.2.2.toFrz z.2.2.1 2 z.2.2.2.1 z.2.1∧F1.toFrz.Le z.2.2.2.2.toFrz) (fun z=>l.length - z.1) (0,p.Domains,vp_0,cp_0,F1) ?_ ?_ ?_ ?_
  ·exact ⟨hk,hp_0,(Frz.Le.refl _)⟩
  ·exact jM
  ·exact eh
  ·rintro ⟨i_5,d_3,vd_3,cd_3,F3⟩ ⟨hk,hd_3,le1_3⟩; (try dsimp only at *);haveI:=hd_3.1.oneC;refine iC ?_;refine cL (df rfl rfl (SlC.mono hl le1_3) (List.length_map _)) ?_;have hm14:l.length≤9223372036854775807:=(List.length_map _)▸(SlC.mono hl le1_3).max;refine dA ?_;refine T.cond rfl (fun h6=>?_) (fun h6=>?_)
   ·have p6:=of_decide_eq_true h6;rw [eQ a5] at hk;generalize hn4:c6 f4 kk4 (l.length - (i_5+1)) (i_5+1)=next4 at hk;rw [←hf4] at hk; (try dsimp only at hk);refine T.skip (K.seq (T.seq (T.block ?_)));have hq:=d5 hk;clear hk;obtain ⟨r29,hr29,hk⟩:=hq; (try dsimp only at hk);refine q3e ?_;refine q3H ?_;refine cQ rfl (dN 1 (i:=i_5) (j:=0) rfl rfl rfl (SlC.mono hl le1_3) a5) ?_;refine gV ?_;refine q3H ?_;refine cQ rfl (dN 1 (i:=i_5) (j:=1) rfl rfl rfl (SlC.mono hl le1_3) a5) ?_;refine dy ?_;refine cW rfl (Wt.none) rfl rfl (dR 1 rfl rfl rfl rfl (fun w hw hF=>zi9 _ w hF d_3 vd_3 cd_3 hd_3 ((cJ l i_5).Station) ((cJ l i_5).Channel) r29 hr29)) ?_;rintro _ _ ⟨⟨v29_0_0,cs29_0_0⟩,F4,le3_4,hf29_0_0,hq,rfl⟩;obtain rfl:=hq.symm;dsimp only at hf29_0_0 ⊢;have le1_4:=le1_3.trans le3_4;haveI:=hf29_0_0.1.oneC;refine ⟨(fun w hw=>(hw.frLe (i:=1) rfl le3_4).sub Sx),?_⟩;refine mO ?_;refine gT (K.seq (T.region ?_));refine di ?_;refine jH ?_;rw [←hn4] at hk;exact K.next ((i_5+1),r29,v29_0_0,cs29_0_0,F4) ⟨hk,hf29_0_0,le1_4⟩ a8 (.c (.c (.c (.c (.c .nil))))) (List.Sublist.refl _)
   ·have p6:=of_decide_eq_false h6;rw [eO a5,←hkk4] at hk; (try dsimp only at hk);refine eC ?_;exact cS (d_3,vd_3,cd_3,F3) ⟨hk,hd_3,le1_3⟩ (.c (.c (.c .nil))) (List.Sublist.refl _)
 ·rintro ⟨d_1,vd_1,cd_1,F2⟩ ⟨hk,hd_1,le1_2⟩; (try dsimp only at *);rw [←hk2] at hk; (try dsimp only at hk);haveI:=hd_1.1.oneC;refine T.seq ?_;have hq:=d5 hk;clear hk;obtain ⟨r33,hr33,hk⟩:=hq; (try dsimp only at hk);refine mH ?_;refine d8 ?_;refine cU (dR 1 rfl rfl rfl rfl (fun w hw hF=>zf5 _ w hF p vp_0 cp_0 (SlD.mono (rep:=cK) (fun _ _ _ _=>GDomain.mono) hp_0 le1_2) vp_1 (SlC.mono hp_1 le1_2) vp_2 (SlC.mono hp_2 le1_2) vp_3 (SlC.mono hp_3 le1_2) store vstore cstore (SlD.mono (rep:=cI) (fun _ _ _ _=>R_List_GChoice.mono) hstore le1_2) d_1 vd_1 cd_1 hd_1 fuel r33 hr33)) ?_;rintro _ _ ⟨⟨v33_0_0,cs33_0_0⟩,F5,le2_5,hf33_0_0,rfl,rfl⟩;dsimp only at hf33_0_0 ⊢;have le1_5:=le1_2.trans le2_5;haveI:=hf33_0_0.1.oneC;refine TL.run 4 rfl ?_;refine fW ?_;obtain rfl:=Option.some.inj hk;exact ez rfl rfl rfl (fun w' hw=>⟨(v33_0_0,cs33_0_0),F5.toFrz,hf33_0_0,rfl,eJ hw (i:=1) rfl hS0 le1_5⟩)
def zcl (fuel:Nat)(p:GProblem)(store:List (List GChoice))(g_:List GChoice):Option Bool:=
 (zdI fuel p store g_).bind fun r13=>
 some (!r13.2)
theorem zgY (F0:Frz)(w:World)(hF0:F0.At w)(p:GProblem)(vp_0:Value)(cp_0:List (List Value))(hp_0:SlD cK F0 vp_0 2 cp_0 p.Domains)(vp_1:Value)(hp_1:SlC F0 vp_1 5 (p.Rules.Pairs.map cO))(vp_2:Value)(hp_2:SlC F0 vp_2 5 (p.Rules.Loads.map cP))(vp_3:Value)(hp_3:SlC F0 vp_3 4 (p.Rules.Caps.map cR))(store:List (List GChoice))(vstore:Value)(cstore:List (List Value))(hstore:SlD cI F0 vstore 1 cstore store)(g_:List GChoice)(vg_:Value)(hg_:SlC F0 vg_ 2 (g_.map cV))(fuel:Nat)(r:Bool)(hr:zcl fuel p store g_=some r):Calls Tryz.prog 39 #[.agg [vp_0,vp_1,vp_2,vp_3].toArray,vstore,vg_] w fun e w'=>e= .returned (.bool r)∧Below w.heap.size w w':=by
 have hk:=hr;unfold zcl at hk;haveI:=hp_0.1.oneC;haveI:=hp_1.oneC;haveI:=hp_2.oneC;haveI:=hp_3.oneC;haveI:=hstore.1.oneC;haveI:=hg_.oneC;obtain ⟨S0,F1,rfl,hS0,hp0⟩:=ey hF0;refine dt Tryz.func39 rfl rfl rfl hp0 ?_;refine gp ?_;rintro _ _ ⟨g3,rfl,rfl⟩;refine j9 ?_;have hq:=d5 hk;clear hk;obtain ⟨r13,hr13,hk⟩:=hq; (try dsimp only at hk);refine mH ?_;refine d8 ?_;refine cU (dR 1 rfl rfl rfl rfl (fun w hw hF=>zjV _ w hF p vp_0 cp_0 hp_0 vp_1 hp_1 vp_2 hp_2 vp_3 hp_3 store vstore cstore hstore g_ vg_ hg_ fuel r13 hr13)) ?_;rintro _ _ ⟨⟨v13_0_0,cs13_0_0⟩,F2,le1_2,hf13_0_0,rfl,rfl⟩;dsimp only at hf13_0_0 ⊢;haveI:=hf13_0_0.1.oneC;refine TL.run 5 rfl ?_;refine dX ?_;refine eB ?_;refine fW ?_;obtain rfl:=Option.some.inj hk;exact dW
def zco (a:List (List GChoice))(b:List (List GChoice)):Bool:=
 (bif decide (¬(a.length:Int)=(b.length:Int)) then
  false
  else
  dH (fun (_:Unit)=>
   true)
  (fun k2=>
   c6 (fun (i_4:Nat) (next3:Unit→Bool) (_:Unit)=>
    (bif !(zbM (cJ a i_4) (cJ b i_4)) then
     false
     else
     next3 ()))
   (fun (_:Unit)=>
    k2 ()) (a.length - 0) 0 ()))
theorem ziD (F0:Frz)(w:World)(hF0:F0.At w)(a:List (List GChoice))(va:Value)(ca:List (List Value))(ha:SlD cI F0 va 1 ca a)(b:List (List GChoice))(vb:Value)(cb:List (List Value))(hb:SlD cI F0 vb 1 cb b):Calls Tryz.prog 53 #[va,vb] w fun e w'=>e= .returned (.bool (zco a b))∧Below w.heap.size w w':=by
 obtain ⟨r,hk⟩:∃r,zco a b=r:=⟨_,rfl⟩;rw [hk];unfold zco at hk;haveI:=ha.1.oneC;haveI:=hb.1.oneC;obtain ⟨S0,F1,rfl,hS0,hp0⟩:=ey hF0;refine dt Tryz.func53 rfl rfl rfl hp0 ?_;refine jo ?_;refine cL (df rfl rfl ha.1 ha.2.1) ?_;have hm7:a.length≤9223372036854775807:=ha.2.1▸ha.1.max;refine di ?_;refine cL (df rfl rfl hb.1 hb.2.1) ?_;have hm9:b.length≤9223372036854775807:=hb.2.1▸hb.1.max;refine dA ?_;refine T.cond rfl (fun h1=>?_) (fun h1=>?_)
 ·have p1:=of_decide_eq_true h1;replace hk:=dr hk h1;refine iw ?_;subst hk;exact dW
 ·have p1:=of_decide_eq_false h1;replace hk:=dq hk h1;refine m5 ?_;have hq:=d7 hk;clear hk;obtain ⟨k2,hk2,hk⟩:=hq; (try dsimp only at hk);refine cZ (ι:=Unit) (fun z=>[]) (fun z=>[.fr F1]) (fun z=>k2 ()=r) ?_ ?_
  ·have hq:=eS hk;clear hk;obtain ⟨f3,kk3,hf3,hkk3,hk⟩:=hq;refine eA ?_;refine T.loop (ι:=Nat) (fun z=>[(0,va),(1,vb),(5, .int .i64 (z:Int))]) (fun z=>[.fr F1]) (fun z=>c6 f3 kk3 (a.length - z) z ()=r) (fun z=>a.length - z) 0 ?_ ?_ ?_ ?_
   ·exact hk
   ·exact l9
   ·exact eh
   ·rintro i_4 hk;refine iC ?_;refine cL (df rfl rfl ha.1 ha.2.1) ?_;refine dA ?_;refine T.cond rfl (fun h5=>?_) (fun h5=>?_)
    ·have p5:=of_decide_eq_true h5;rw [eQ a5] at hk;generalize hn3:c6 f3 kk3 (a.length - (i_4+1)) (i_4+1)=next3 at hk;rw [←hf3] at hk; (try dsimp only at hk);refine q3T ?_;refine gV ?_;refine cQ rfl (c8 (i:=i_4) rfl rfl rfl ha.1 ha.2.1 rfl a5) ?_;refine cQ rfl (dj 0 (i:=i_4) (j:=0) rfl rfl rfl ha.1 ha.2.1 a5 rfl (R_List_GChoice.c0 (ha.2.2 i_4 a5)).1) ?_;have hd20_0:=(R_List_GChoice.c0 (ha.2.2 i_4 a5)).2;haveI:=hd20_0.oneC;refine gV ?_;refine cQ rfl (c8 (i:=i_4) rfl rfl rfl hb.1 hb.2.1 rfl a5) ?_;refine cQ rfl (dj 0 (i:=i_4) (j:=0) rfl rfl rfl hb.1 hb.2.1 a5 rfl (R_List_GChoice.c0 (hb.2.2 i_4 a5)).1) ?_;have hd24_0:=(R_List_GChoice.c0 (hb.2.2 i_4 a5)).2;haveI:=hd24_0.oneC;refine dy ?_;refine cW rfl (Wt.none) rfl rfl (cM rfl rfl rfl (fun w hw=>zgh _ w (hw.fr (i:=0) rfl) (cJ a i_4) (cJ (cJ ca i_4) 0) hd20_0 (cJ b i_4) (cJ (cJ cb i_4) 0) hd24_0)) ?_;refine iJ ?_;refine kg ?_;refine T.cond rfl (fun h6=>?_) (fun h6=>?_)
     ·replace hk:=dr hk h6;refine gN ?_;subst hk;exact dW
     ·replace hk:=dq hk h6;refine ga ?_;rw [←hn3] at hk;exact q5m
    ·have p5:=of_decide_eq_false h5;rw [eO a5,←hkk3] at hk; (try dsimp only at hk);refine eC ?_;exact jS
  ·rintro _ hk;rw [←hk2] at hk; (try dsimp only at hk);refine jB ?_;subst hk;exact dW
def zcG (fuel:Nat)(l:List (List GChoice))(most:Int):Option Bool:=
 dH (fun (_:Unit)=>
  some (decide ((l.length:Int)≤most)))
 (fun k1=>
  iZ (fun (next3:Int→Option Bool) (i_2:Int)=>
   (bif ((decide (i_2<(l.length:Int)))&&(decide (i_2≤most))) then
    ej (0≤i_2∧i_2<(l.length:Int)) <|
    (bif decide (20<((cJ l i_2.toNat).length:Int)) then
     some false
     else
     next3 (i_2+1))
    else
    k1 ())) fuel 0)
theorem zii (F0:Frz)(w:World)(hF0:F0.At w)(l:List (List GChoice))(vl:Value)(cl:List (List Value))(hl:SlD cI F0 vl 1 cl l)(most:Int)(fuel:Nat)(r:Bool)(hr:zcG fuel l most=some r):Calls Tryz.prog 57 #[vl, .int .i64 most] w fun e w'=>e= .returned (.bool r)∧Below w.heap.size w w':=by
 have hk:=hr;unfold zcG at hk;haveI:=hl.1.oneC;obtain ⟨S0,F1,rfl,hS0,hp0⟩:=ey hF0;refine dt Tryz.func57 rfl rfl rfl hp0 ?_;refine gy ?_;refine mc ?_;have hq:=d7 hk;clear hk;obtain ⟨k1,hk1,hk⟩:=hq; (try dsimp only at hk);refine cZ (ι:=Unit) (fun z=>[(0,vl),(1, .int .i64 most)]) (fun z=>[.fr F1]) (fun z=>k1 ()=some r) ?_ ?_
 ·have hq:=zcS hk;clear hk;obtain ⟨f3,hf3,hk⟩:=hq;refine eA ?_;refine T.loop (ι:=Nat×Int) (fun z=>[(0,vl),(1, .int .i64 most),(5, .int .i64 z.2)]) (fun z=>[.fr F1]) (fun z=>iZ f3 z.1 z.2=some r) (fun z=>z.1) (fuel,0) ?_ ?_ ?_ ?_
  ·exact hk
  ·exact l9
  ·exact eh
  ·rintro ⟨m_4,i_2⟩ hk; (try dsimp only at *);have hq:=zdv hk;clear hk;obtain ⟨m_4',rfl,hk⟩:=hq;generalize hn3:iZ f3 m_4'=next3 at hk;rw [←hf3] at hk; (try dsimp only at hk);refine T.seq (T.seq ?_);refine cZ (ι:=Unit) (fun z=>[(0,vl),(1, .int .i64 most),(5, .int .i64 i_2),(14, .bool ((decide (i_2<(l.length:Int)))&&(decide (i_2≤most))))]) (fun z=>[.fr F1]) (fun z=>True) ?_ ?_
   ·refine iW ?_;refine cL (df rfl rfl hl.1 hl.2.1) ?_;have hm8:l.length≤9223372036854775807:=hl.2.1▸hl.1.max;refine d8 ?_;refine dn rfl rfl rfl (fun h5=>?_) (fun h5=>?_)
    ·have p5:=of_decide_eq_true h5;refine kA ?_;exact cS () trivial (.c (.c (.c (.b (ku h5) .nil)))) (List.Sublist.refl _)
    ·have p5:=of_decide_eq_false h5;refine kA ?_;exact cS () trivial (.c (.c (.c (.b (gr h5).symm .nil)))) (List.Sublist.refl _)
   ·rintro _ _;have hm8:l.length≤9223372036854775807:=hl.2.1▸hl.1.max;refine T.cond rfl (fun h6=>?_) (fun h6=>?_)
    ·have p6:=h6; (try simp only [cX] at p6);replace hk:=dr hk h6;refine je ?_;have hq:(0≤i_2∧i_2<(l.length:Int))∧_:=fu hk;clear hk;obtain ⟨g19,hk⟩:=hq; (try dsimp only at hk);refine iW ?_;refine cL (c8 (i:=i_2.toNat) rfl rfl rfl hl.1 hl.2.1 a5 a5) ?_;refine cL (dj 0 (i:=i_2.toNat) (j:=0) rfl rfl rfl hl.1 hl.2.1 a5 rfl (R_List_GChoice.c0 (hl.2.2 i_2.toNat a5)).1) ?_;have hd20_0:=(R_List_GChoice.c0 (hl.2.2 i_2.toNat a5)).2;haveI:=hd20_0.oneC;refine cL (df rfl rfl hd20_0 (List.length_map _)) ?_;have hm21:(cJ l i_2.toNat).length≤9223372036854775807:=(List.length_map _)▸hd20_0.max;refine dA ?_;refine T.cond rfl (fun h7=>?_) (fun h7=>?_)
     ·have p7:=of_decide_eq_true h7;replace hk:=dr hk h7;refine gN ?_;obtain rfl:=Option.some.inj hk;exact dW
     ·have p7:=of_decide_eq_false h7;replace hk:=dq hk h7;refine ga ?_;rw [←hn3] at hk;exact K.next (m_4',(i_2+1)) hk a8 (.c (.c (.c .nil))) (List.Sublist.refl _)
    ·replace hk:=dq hk h6;refine eC ?_;exact cS () hk (.c (.c .nil)) (List.Sublist.refl _)
 ·rintro _ hk;rw [←hk1] at hk; (try dsimp only at hk);refine gy ?_;refine cL (df rfl rfl hl.1 hl.2.1) ?_;have hm24:l.length≤9223372036854775807:=hl.2.1▸hl.1.max;refine eB ?_;refine fW ?_;obtain rfl:=Option.some.inj hk;exact dW
theorem zlp (F0:Frz)(w:World)(hF0:F0.At w)(l:List GChoice)(vl:Value)(hl:SlC F0 vl 2 (l.map cV))(hr:dl l.length 16):Calls Tryz.prog 50 #[vl] w fun e w'=>∃v':Value,True∧e= .returned v'∧Hp w (fun _=>False) [.sl v' 68 2 l.length (l.flatMap cV)] w':=by
 haveI:=hl.oneC;have hl0:=hl;obtain ⟨A,cap,hv,hlc,hcm,hcl,hcs⟩:=hl0;have hlen:(l.map cV).length=l.length:=List.length_map _;obtain ⟨S0,F1,hF1,hS0,hp0⟩:=ey hF0
 cases hA:A with
 |none=>
  have h0:l=[]:=by
   cases l with
   |nil=>rfl
   |cons x r=>
    obtain ⟨g,off,h1,_⟩:=hcs a9;rw [hA] at h1;cases h1
  subst h0;refine dt (M:=fun _=>False) (hs:=[.fr F1]) Tryz.func50 rfl rfl rfl hp0 ?_;refine q3i ?_;refine gy ?_;refine TL.slNil 68 2 ?_;refine kh ?_;exact c4 rfl rfl (fun w' hw=>⟨.slice none 0 0,trivial,rfl,hw.sub Sx⟩)
 |some a=>
  rw [←hF1] at hl;refine dt (M:=fun _=>False) (hs:=[.fr F1]) Tryz.func50 rfl rfl rfl hp0 ?_;refine q2h ?_;rintro _ _ ⟨g,rfl,rfl⟩;refine di ?_;refine cU (jZ 0 1 (k':=l.length) (l':=l.flatMap cV) (zgP (enc:=cV) (fun _=>inferInstance)) rfl rfl rfl rfl rfl hl cE (by rw [List.nil_append,←List.flatMap_def]) hr a6) ?_;rintro v' _ ⟨hv',rfl⟩;refine fw ?_;exact c4 rfl rfl (fun w' hw=>⟨v',trivial,rfl,hw.sub Sx⟩)
theorem zgG (F0:Frz)(w:World)(hF0:F0.At w)(l:List GChoice)(vl:Value)(hl:SlC F0 vl 2 (l.map cV))(hr:dl l.length 16):Calls Tryz.prog 50 #[vl] w fun e w'=>∃(y:Value) (G:Frz),SlC G y 2 (l.map cV)∧e= .returned y∧Fx F0 w G w':=by
 refine (zlp F0 w hF0 l vl hl hr).mono ?_;rintro e w' ⟨v',_,rfl,hw⟩;obtain ⟨G,h1,h2,h3⟩:=Fx.hp hF0 hw;have h4:=jm (G:=G) (hw.own (.sl v' 68 2 l.length (l.flatMap cV)) a9) h2 (h3 _ a9);exact ⟨v',G,h4.toF rfl (fun _=>rfl),rfl,h1⟩
theorem zfR (F0:Frz)(w:World)(hF0:F0.At w)(l:List (List GChoice))(vl:Value)(cl:List (List Value))(hl:SlD cI F0 vl 1 cl l)(hr:dl l.length 24):Calls Tryz.prog 48 #[vl] w fun e w'=>∃v':Value,True∧e= .returned v'∧Hp w (fun _=>False) [.sl v' 50 1 l.length cl.flatten] w':=by
 haveI:=hl.1.oneC;have hl0:=hl.1;obtain ⟨A,cap,hv,hlc,hcm,hcl,hcs⟩:=hl0;have hlen:=hl.2.1;obtain ⟨S0,F1,hF1,hS0,hp0⟩:=ey hF0
 cases hA:A with
 |none=>
  have h0:l=[]:=by
   refine List.eq_nil_of_length_eq_zero ?_;rw [←hlen];refine Nat.eq_zero_of_not_pos fun h=>?_;obtain ⟨g,off,h1,_⟩:=hcs h;rw [hA] at h1;cases h1
  subst h0;obtain rfl:cl=[]:=List.eq_nil_of_length_eq_zero hlen;refine dt (M:=fun _=>False) (hs:=[.fr F1]) Tryz.func48 rfl rfl rfl hp0 ?_;refine q3i ?_;refine gy ?_;refine TL.slNil 50 1 ?_;refine kh ?_;exact c4 rfl rfl (fun w' hw=>⟨.slice none 0 0,trivial,rfl,hw.sub Sx⟩)
 |some a=>
  rw [←hF1] at hl;refine dt (M:=fun _=>False) (hs:=[.fr F1]) Tryz.func48 rfl rfl rfl hp0 ?_;refine q2h ?_;rintro _ _ ⟨g,rfl,rfl⟩;refine di ?_;refine cU (jZ 0 1 (k':=l.length) (l':=cl.flatten) (zn2 hl (fun _ _ _=>R_List_GChoice.one)) rfl rfl rfl rfl rfl hl.1 (by rw [hl.2.1];omega) (by rw [List.nil_append]) hr a6) ?_;rintro v' _ ⟨hv',rfl⟩;refine fw ?_;exact c4 rfl rfl (fun w' hw=>⟨v',trivial,rfl,hw.sub Sx⟩)
theorem zfW (F0:Frz)(w:World)(hF0:F0.At w)(l:List Int)(vl:Value)(hl:SlC F0 vl 1 (l.map eI))(hr:dl l.length 8):Calls Tryz.prog 51 #[vl] w fun e w'=>∃(y:Value) (G:Frz),SlC G y 1 (l.map eI)∧e= .returned y∧Fx F0 w G w':=by
 haveI:=hl.oneC;have hl0:=hl;obtain ⟨A,cap,hv,hlc,hcm,hcl,hcs⟩:=hl0;have hlen:(l.map eI).length=l.length:=List.length_map _
 cases hA:A with
 |none=>
  have h0:¬0<l.length:=fun h=>by
   obtain ⟨g,off,h1,_⟩:=hcs (by rw [hlen];exact h);rw [hA] at h1;cases h1
  refine Calls.mono (R:=fun e w'=>e= .returned (.slice none 0 0)∧Below w.heap.size w w') ?_ ?_
  ·obtain ⟨S0,F1,hF1,hS0,hp0⟩:=ey hF0;refine dt (M:=fun _=>False) (hs:=[.fr F1]) Tryz.func51 rfl rfl rfl hp0 ?_;refine q3i ?_;refine iw ?_;exact dW
  ·rintro e w' ⟨rfl,hb⟩
   cases l with
   |nil=>exact ⟨.slice none 0 0,F0,SlC.nil _ 1,rfl,Fx.refl hF0 hb⟩
   |cons x r=>simp at h0
 |some a=>
  refine Calls.mono (R:=fun e w'=>∃v':Value,e= .returned v'∧Hp w (fun _=>False) [.sl v' 3 1 l.length (l.flatMap eI)] w') ?_ ?_
  ·obtain ⟨S0,F1,hF1,hS0,hp0⟩:=ey hF0;rw [←hF1] at hl;refine dt (M:=fun _=>False) (hs:=[.fr F1]) Tryz.func51 rfl rfl rfl hp0 ?_;refine q2h ?_;rintro _ _ ⟨g,rfl,rfl⟩;refine di ?_;refine cU (jZ 0 1 (k':=l.length) (l':=l.flatMap eI) (zgP (enc:=eI) (fun _=>inferInstance)) rfl rfl rfl rfl rfl hl cE (by rw [List.nil_append,←List.flatMap_def]) hr a6) ?_;rintro v' _ ⟨hv',rfl⟩;refine fw ?_;exact c4 rfl rfl (fun w' hw=>⟨v',rfl,hw.sub Sx⟩)
  ·rintro e w' ⟨v',rfl,hw⟩;obtain ⟨G,h1,h2,h3⟩:=Fx.hp hF0 hw;have h4:=jm (G:=G) (hw.own (.sl v' 3 1 l.length (l.flatMap eI)) a9) h2 (h3 _ a9);exact ⟨v',G,h4.toF rfl (fun _=>rfl),rfl,h1⟩
theorem zkf {F0 : Frz} {w : World} {vd vp vl vc : Value} {cd : List (List Value)} {p : GProblem} (hF0 : F0.At w) (h : PbF F0 vd cd vp vl vc p) :
    Calls Tryz.prog 72 #[.agg [vd, vp, vl, vc].toArray] w fun e w' => e = .returned (.bool (gv p)) ∧ Below w.heap.size w w' := by
  obtain ⟨P, rfl, hP⟩ := zjF h hF0; rw [← zob]; exact zg0 P vd vp vl vc w hP
end Go.Proofs.YtogbggmckmnlfaaGreatDoor
