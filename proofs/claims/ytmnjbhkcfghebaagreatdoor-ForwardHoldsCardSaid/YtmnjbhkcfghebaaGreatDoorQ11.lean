/- Yj: shortened and put together by squeeze.py. -/
import Derived.Test.YtmnjbhkcfghebaaGreatDoorQ10
set_option maxRecDepth 100000
set_option maxHeartbeats 4000000
set_option linter.unusedVariables false
set_option linter.unusedSectionVars false
set_option linter.unusedSimpArgs false
namespace Go.Proofs.YtmnjbhkcfghebaaGreatDoor
open Go.RowKit
def zdm (fuel:Nat)(l:List GBid):Option Bool:=
 (bif decide (128<(l.length:Int)) then
 some false
 else
 dF (fun (_:Unit)=>
 some true)
 (fun k2=>
 dq (fun (i_5:Nat) (next4:Int→Option Bool) (last_3:Int)=>
 (bif ((((decide ((nth l i_5).Bidder<last_3))||(decide (32≤(nth l i_5).Bidder)))||(decide ((nth l i_5).Product<0)))||(decide (128≤(nth l i_5).Product))) then
 some false
 else
 dF (fun (x_11:Bool)=>
 (bif x_11 then
 some false
 else
 next4 ((nth l i_5).Bidder)))
 (fun k12=>
 (bif decide ((nth l i_5).Change<(-12)) then
 k12 true
 else
 (bif decide (12<(nth l i_5).Change) then
 k12 true
 else
 (bif decide ((nth l i_5).Change=0) then
 k12 true
 else
 (zbd fuel ((nth l i_5).Point)).bind fun r50=>
 k12 (!r50)))))))
 (fun (last_3:Int)=>
 k2 ()) (l.length - 0) 0 0))
theorem zfu (F0:Frz)(w:World)(hF0:F0.At w)(l:List GBid)(vl:Value)(cl:List (List Value))(hl:SlD cW F0 vl 7 cl l)(fuel:Nat)(r:Bool)(hr:zdm fuel l=some r):Calls Tryz.prog 95 #[vl] w fun e w'=>e= .returned (.bool r)∧Below w.heap.size w w':=by
 have hk:=hr;unfold zdm at hk;haveI:=hl.1.oneC;obtain ⟨S0,F1,rfl,hS0,hp0⟩:=eo hF0;refine dQ Tryz.func95 rfl rfl rfl hp0 ?_;refine jQ ?_;refine q3t ?_;have hm7:l.length≤9223372036854775807:=hl.2.1▸hl.1.max;refine dZ ?_;refine T.cond rfl (fun h1=>?_) (fun h1=>?_)
 ·have p1:=of_decide_eq_true h1;replace hk:=dr hk h1;refine iQ ?_;obtain rfl:=Option.some.inj hk;exact d8
 ·have p1:=of_decide_eq_false h1;replace hk:=dt hk h1;refine kO ?_;refine j3 ?_;refine q3t ?_;refine dZ ?_;have hq:=d7 hk;clear hk;obtain ⟨k2,hk2,hk⟩:=hq; (try dsimp only at hk);refine c9 (ι:=Unit) (fun z=>[]) (fun z=>[.fr F1]) (fun z=>k2 ()=some r) ?_ ?_
  ·have hq:=fJ hk;clear hk;obtain ⟨f4,kk4,hf4,hkk4,hk⟩:=hq;refine eH ?_;refine T.loop (ι:=Nat×Int) (fun z=>[(3, .int .i64 z.2),(9,vl),(10, .int .i64 (l.length:Int)),(11, .int .i64 (z.1:Int))]) (fun z=>[.fr F1]) (fun z=>dq f4 kk4 (l.length - z.1) z.1 z.2=some r) (fun z=>l.length - z.1) (0,0) ?_ ?_ ?_ ?_
   ·exact hk
   ·exact jo
   ·exact eG
   ·rintro ⟨i_5,last_3⟩ hk; (try dsimp only at *);refine eW ?_;refine T.cond rfl (fun h6=>?_) (fun h6=>?_)
    ·have p6:=of_decide_eq_true h6;rw [fF a7] at hk;generalize hn4:dq f4 kk4 (l.length - (i_5+1)) (i_5+1)=next4 at hk;rw [←hf4] at hk; (try dsimp only at hk);refine j1 ?_;refine cS (df (i:=i_5) rfl rfl rfl hl.1 hl.2.1 rfl a7) ?_;refine cS (fv 0 (i:=i_5) (j:=0) rfl rfl rfl hl.1 hl.2.1 a7 rfl (eC (hl.2.2 i_5 a7))) ?_;have hd14_4:=(fo (hl.2.2 i_5 a7)).2;haveI:=hd14_4.oneC;have hd14_6:=(fj (hl.2.2 i_5 a7)).2;haveI:=hd14_6.oneC;refine fW ?_;rintro _ _ ⟨g5,rfl,rfl⟩;refine gg ?_;refine iT ?_;refine c9 (ι:=Unit) (fun z=>[(5, .pointer (some ⟨g5,0,none⟩)),(9,vl),(10, .int .i64 (l.length:Int)),(11, .int .i64 (i_5:Int)),(33, .bool ((((decide ((nth l i_5).Bidder<last_3))||(decide (32≤(nth l i_5).Bidder)))||(decide ((nth l i_5).Product<0)))||(decide (128≤(nth l i_5).Product))))]) (fun z=>[.row g5 79 [.int .i64 ((nth l i_5).Bidder), .int .i64 ((nth l i_5).Product), .int .i64 ((nth l i_5).Change), .bool ((nth l i_5).Point.Num.Neg),(nth (nth cl i_5) 4), .bool ((nth l i_5).Point.Den.Neg),(nth (nth cl i_5) 6)], .fr F1]) (fun z=>True) ?_ ?_
     ·refine gy ?_;refine kN ?_;refine dg rfl rfl rfl (fun h7=>?_) (fun h7=>?_)
      ·have p7:=of_decide_eq_true h7;refine TL.run 14 rfl ?_;refine fG ?_;exact cY () trivial (.c (.c (.c (.c (.b (eD (eD (eD h7))).symm .nil))))) (List.Sublist.refl _)
      ·have p7:=of_decide_eq_false h7;refine kN ?_;refine dg rfl rfl rfl (fun h8=>?_) (fun h8=>?_)
       ·have p8:=of_decide_eq_true h8;refine TL.run 9 rfl ?_;refine fG ?_;exact cY () trivial (.c (.c (.c (.c (.b (eD (eD (fw h7 h8))).symm .nil))))) (List.Sublist.refl _)
       ·have p8:=of_decide_eq_false h8;refine kN ?_;refine dg rfl rfl rfl (fun h9=>?_) (fun h9=>?_)
        ·have p9:=of_decide_eq_true h9;refine jH ?_;exact cY () trivial (.c (.c (.c (.c (.b (eD (fw (fw h7 h8) h9)).symm .nil))))) (List.Sublist.refl _)
        ·have p9:=of_decide_eq_false h9;refine gC ?_;refine jZ ?_;exact cY () trivial (.c (.c (.c (.c (.b (fK (fw (fw h7 h8) h9)) .nil))))) (List.Sublist.refl _)
     ·rintro _ _;refine T.cond rfl (fun h10=>?_) (fun h10=>?_)
      ·replace hk:=dr hk h10;refine lf ?_;obtain rfl:=Option.some.inj hk;exact d8
      ·have p10:=h10; (try simp only [iC] at p10);replace hk:=dt hk h10;refine q2z ?_; (try dsimp only at hk);have hq:=d7 hk;clear hk;obtain ⟨k12,hk12,hk⟩:=hq; (try dsimp only at hk);refine c9 (ι:=Bool) (fun z=>[(5, .pointer (some ⟨g5,0,none⟩)),(9,vl),(10, .int .i64 (l.length:Int)),(11, .int .i64 (i_5:Int)),(52, .bool z)]) (fun z=>[.row g5 79 [.int .i64 ((nth l i_5).Bidder), .int .i64 ((nth l i_5).Product), .int .i64 ((nth l i_5).Change), .bool ((nth l i_5).Point.Num.Neg),(nth (nth cl i_5) 4), .bool ((nth l i_5).Point.Den.Neg),(nth (nth cl i_5) 6)], .fr F1]) (fun z=>k12 z=some r) ?_ ?_
       ·refine gy ?_;refine gC ?_;refine ek ?_;refine dg rfl rfl rfl (fun h13=>?_) (fun h13=>?_)
        ·have p13:=of_decide_eq_true h13;replace hk:=dr hk h13;refine TL.run 15 rfl ?_;refine fG ?_;exact q4d
        ·have p13:=of_decide_eq_false h13;replace hk:=dt hk h13;refine kN ?_;refine dg rfl rfl rfl (fun h14=>?_) (fun h14=>?_)
         ·have p14:=of_decide_eq_true h14;replace hk:=dr hk h14;refine q31 ?_;exact q4d
         ·have p14:=of_decide_eq_false h14;replace hk:=dt hk h14;refine kN ?_;refine dg rfl rfl rfl (fun h15=>?_) (fun h15=>?_)
          ·have p15:=of_decide_eq_true h15;replace hk:=dr hk h15;refine lE ?_;exact q4d
          ·have p15:=of_decide_eq_false h15;replace hk:=dt hk h15;refine gn ?_;refine cS (fa 0 (m:=[.bool ((nth l i_5).Point.Num.Neg),(nth (nth cl i_5) 4), .bool ((nth l i_5).Point.Den.Neg),(nth (nth cl i_5) 6)])) ?_;have hq:=dw hk;clear hk;obtain ⟨r50,hr50,hk⟩:=hq;refine cX (de rfl rfl rfl (fun w hw=>zd1 _ w (hw.fr (i:=1) rfl) ((nth l i_5).Point) (nth (nth cl i_5) 4) hd14_4 (nth (nth cl i_5) 6) hd14_6 fuel r50 hr50)) ?_;refine kZ ?_;exact cY (!r50) hk (.c (.c (.c (.c (.c .nil))))) (List.Sublist.refl _)
       ·rintro x_11 hk;rw [←hk12] at hk; (try dsimp only at hk);refine T.cond rfl (fun h16=>?_) (fun h16=>?_)
        ·replace hk:=dr hk h16;refine lf ?_;obtain rfl:=Option.some.inj hk;exact d8
        ·replace hk:=dt hk h16;refine T.skip (K.seq (T.region ?_));refine kA ?_;refine jg ?_;rw [←hn4] at hk;refine kH ?_;exact K.next ((i_5+1),(nth l i_5).Bidder) hk b5 (.c (.c (.c (.c .nil)))) (List.Sublist.refl _)
    ·have p6:=of_decide_eq_false h6;rw [fH a7,←hkk4] at hk; (try dsimp only at hk);refine eN ?_;exact kY
  ·rintro _ hk;rw [←hk2] at hk; (try dsimp only at hk);refine kp ?_;obtain rfl:=Option.some.inj hk;exact d8
def zdZ (fuel:Nat)(l:List GBid):Option (List Int×Int):=
 (zdm fuel l).bind fun r12=>
 (bif !r12 then
 some ([],2)
 else
 (j4 fuel (GWriter.mk (Gfault.mk 0) []) (l.length:Int)).bind fun r16=>
 dF (fun (c_2:List Int)=>
 (zbf (GWriter.mk (Gfault.mk 0) c_2)).bind fun r51=>
 some (r51.1,r51.2))
 (fun k3=>
 dq (fun (i_6:Nat) (next5:List Int→Option (List Int×Int)) (c_4:List Int)=>
 (zbM ((nth l i_6).Point.Num)).bind fun r27=>
 (zbM ((nth l i_6).Point.Den)).bind fun r34=>
 (j4 fuel (GWriter.mk (Gfault.mk 0) c_4) ((nth l i_6).Bidder)).bind fun r39=>
 (j4 fuel (GWriter.mk (Gfault.mk 0) r39) ((nth l i_6).Product)).bind fun r42=>
 (zb6 fuel (GWriter.mk (Gfault.mk 0) r42) ((nth l i_6).Change)).bind fun r45=>
 (j4 fuel (GWriter.mk (Gfault.mk 0) r45) r27.1).bind fun r47=>
 (j4 fuel (GWriter.mk (Gfault.mk 0) r47) r34.1).bind fun r49=>
 next5 r49)
 (fun (c_4:List Int)=>
 k3 c_4) (l.length - 0) 0 r16))
theorem zgc (F0:Frz)(w:World)(hF0:F0.At w)(l:List GBid)(vl:Value)(cl:List (List Value))(hl:SlD cW F0 vl 7 cl l)(fuel:Nat)(r:List Int×Int)(hr:zdZ fuel l=some r):Calls Tryz.prog 34 #[vl] w fun e w'=>∃(y:Value) (G:Frz),(SlC G y 1 (r.1.map (eK .u8)))∧e= .returned (.tuple #[y, .int .i64 r.2])∧Fx F0 w G w':=by
 have hk:=hr;unfold zdZ at hk;haveI:=hl.1.oneC;obtain ⟨S0,F1,rfl,hS0,hp0⟩:=eo hF0;refine dQ Tryz.func34 rfl rfl rfl hp0 ?_;refine gO ?_;refine iT ?_;have hq:=dw hk;clear hk;obtain ⟨r12,hr12,hk⟩:=hq; (try dsimp only at hk);refine ef ?_;refine cX (de rfl rfl rfl (fun w hw=>zfu _ w (hw.fr (i:=0) rfl) l vl cl hl fuel r12 hr12)) ?_;refine mw ?_;refine T.cond rfl (fun h1=>?_) (fun h1=>?_)
 ·replace hk:=dr hk h1;refine kM ?_;obtain rfl:=Option.some.inj hk;exact q4F
 ·replace hk:=dt hk h1;refine T.skip (K.seq (dY ?_));refine fW ?_;rintro _ _ ⟨g4,rfl,rfl⟩;refine TL.slNil 5 1 ?_;refine fi ?_;have hq:=dw hk;clear hk;obtain ⟨r16,hr16,hk⟩:=hq; (try dsimp only at hk);refine ef ?_;refine q3t ?_;have hm15:l.length≤9223372036854775807:=hl.2.1▸hl.1.max;refine cX (dI [1,0,2] [.row g4 145 [.int .i64 0,(.slice none 0 0)], .sl (.slice none 0 0) 5 1 ([]:List Int).length ([].flatMap (eK .u8))] [] rfl rfl rfl rfl a8 (fun w hw hw2 hF=>zaF _ w hF (GWriter.mk (Gfault.mk 0) []) g4 (.slice none 0 0) (l.length:Int) hw2.takes.1 hw2.takes.2 fuel r16 hr16)) ?_;rintro _ _ ⟨v16_0_1, -,rfl,rfl⟩;refine lv ?_;intro iv16_0_1 hmv16_0_1;refine j3 ?_;refine q3t ?_;refine dZ ?_;have hq:=d7 hk;clear hk;obtain ⟨k3,hk3,hk⟩:=hq; (try dsimp only at hk);refine c9 (ι:=List Int×Value) (fun z=>[(4, .pointer (some ⟨g4,0,none⟩))]) (fun z=>[.sl z.2 5 1 z.1.length (z.1.flatMap (eK .u8)), .row g4 145 [.int .i64 0,z.2], .fr F1]) (fun z=>k3 z.1=some r∧OneC z.2) ?_ ?_
  ·have hq:=fJ hk;clear hk;obtain ⟨f5,kk5,hf5,hkk5,hk⟩:=hq;refine q3Y ?_;refine T.loop (ι:=Nat×List Int×Value) (fun z=>[(4, .pointer (some ⟨g4,0,none⟩)),(17,vl),(18, .int .i64 (l.length:Int)),(19, .int .i64 (z.1:Int))]) (fun z=>[.sl z.2.2 5 1 z.2.1.length (z.2.1.flatMap (eK .u8)), .row g4 145 [.int .i64 0,z.2.2], .fr F1]) (fun z=>dq f5 kk5 (l.length - z.1) z.1 z.2.1=some r∧OneC z.2.2) (fun z=>l.length - z.1) (0,r16,v16_0_1) ?_ ?_ ?_ ?_
   ·exact q4g
   ·exact jo
   ·exact eG
   ·rintro ⟨i_6,c_4,vc_4⟩ ⟨hk,oc_4⟩; (try dsimp only at *);refine eW ?_;refine T.cond rfl (fun h7=>?_) (fun h7=>?_)
    ·have p7:=of_decide_eq_true h7;rw [fF a7] at hk;generalize hn5:dq f5 kk5 (l.length - (i_6+1)) (i_6+1)=next5 at hk;rw [←hf5] at hk; (try dsimp only at hk);refine j1 ?_;refine cS (df (i:=i_6) rfl rfl rfl hl.1 hl.2.1 rfl a7) ?_;refine cS (fv 2 (i:=i_6) (j:=0) rfl rfl rfl hl.1 hl.2.1 a7 rfl (eC (hl.2.2 i_6 a7))) ?_;have hd22_4:=(fo (hl.2.2 i_6 a7)).2;haveI:=hd22_4.oneC;have hd22_6:=(fj (hl.2.2 i_6 a7)).2;haveI:=hd22_6.oneC;refine fW ?_;rintro _ _ ⟨g6,rfl,rfl⟩;refine gg ?_;refine fi ?_;have hq:=dw hk;clear hk;obtain ⟨r27,hr27,hk⟩:=hq; (try dsimp only at hk);refine mr ?_;refine gn ?_;refine cS (fa 0 (m:=[.bool ((nth l i_6).Point.Num.Neg),(nth (nth cl i_6) 4)])) ?_;refine cX (de rfl rfl rfl (fun w hw=>zdR _ w (hw.fr (i:=3) rfl) ((nth l i_6).Point.Num) (nth (nth cl i_6) 4) hd22_4 r27 hr27)) ?_;refine ee ?_;refine io ?_;refine fi ?_;have hq:=dw hk;clear hk;obtain ⟨r34,hr34,hk⟩:=hq; (try dsimp only at hk);refine mr ?_;refine gn ?_;refine cS (fa 0 (m:=[.bool ((nth l i_6).Point.Den.Neg),(nth (nth cl i_6) 6)])) ?_;refine cX (de rfl rfl rfl (fun w hw=>zdR _ w (hw.fr (i:=3) rfl) ((nth l i_6).Point.Den) (nth (nth cl i_6) 6) hd22_6 r34 hr34)) ?_;refine ee ?_;refine io ?_;refine fi ?_;have hq:=dw hk;clear hk;obtain ⟨r39,hr39,hk⟩:=hq; (try dsimp only at hk);refine gy ?_;refine gC ?_;refine cX (dI [2,1,3,0] [.row g4 145 [.int .i64 0,vc_4], .sl vc_4 5 1 c_4.length (c_4.flatMap (eK .u8))] [.row g6 79 [.int .i64 ((nth l i_6).Bidder), .int .i64 ((nth l i_6).Product), .int .i64 ((nth l i_6).Change), .bool ((nth l i_6).Point.Num.Neg),(nth (nth cl i_6) 4), .bool ((nth l i_6).Point.Den.Neg),(nth (nth cl i_6) 6)]] rfl rfl rfl rfl a8 (fun w hw hw2 hF=>zaF _ w hF (GWriter.mk (Gfault.mk 0) c_4) g4 vc_4 ((nth l i_6).Bidder) hw2.takes.1 hw2.takes.2 fuel r39 hr39)) ?_;rintro _ _ ⟨v39_0_1, -,rfl,rfl⟩;refine lv ?_;intro iv39_0_1 hmv39_0_1;refine fi ?_;have hq:=dw hk;clear hk;obtain ⟨r42,hr42,hk⟩:=hq; (try dsimp only at hk);refine q1z ?_;refine cX (dI [0,1,2,3] [.row g4 145 [.int .i64 0,v39_0_1], .sl v39_0_1 5 1 r39.length (r39.flatMap (eK .u8))] [.row g6 79 [.int .i64 ((nth l i_6).Bidder), .int .i64 ((nth l i_6).Product), .int .i64 ((nth l i_6).Change), .bool ((nth l i_6).Point.Num.Neg),(nth (nth cl i_6) 4), .bool ((nth l i_6).Point.Den.Neg),(nth (nth cl i_6) 6)]] rfl rfl rfl rfl a8 (fun w hw hw2 hF=>zaF _ w hF (GWriter.mk (Gfault.mk 0) r39) g4 v39_0_1 ((nth l i_6).Product) hw2.takes.1 hw2.takes.2 fuel r42 hr42)) ?_;rintro _ _ ⟨v42_0_1, -,rfl,rfl⟩;refine lv ?_;intro iv42_0_1 hmv42_0_1;refine fi ?_;have hq:=dw hk;clear hk;obtain ⟨r45,hr45,hk⟩:=hq; (try dsimp only at hk);refine q1z ?_;refine cX (dI [0,1,2,3] [.row g4 145 [.int .i64 0,v42_0_1], .sl v42_0_1 5 1 r42.length (r42.flatMap (eK .u8))] [.row g6 79 [.int .i64 ((nth l i_6).Bidder), .int .i64 ((nth l i_6).Product), .int .i64 ((nth l i_6).Change), .bool ((nth l i_6).Point.Num.Neg),(nth (nth cl i_6) 4), .bool ((nth l i_6).Point.Den.Neg),(nth (nth cl i_6) 6)]] rfl rfl rfl rfl a8 (fun w hw hw2 hF=>zdY _ w hF (GWriter.mk (Gfault.mk 0) r42) g4 v42_0_1 ((nth l i_6).Change) hw2.takes.1 hw2.takes.2 fuel r45 hr45)) ?_;rintro _ _ ⟨v45_0_1, -,rfl,rfl⟩;refine lv ?_;intro iv45_0_1 hmv45_0_1;refine fi ?_;have hq:=dw hk;clear hk;obtain ⟨r47,hr47,hk⟩:=hq; (try dsimp only at hk);refine ef ?_;refine cX (dI [0,1,2,3] [.row g4 145 [.int .i64 0,v45_0_1], .sl v45_0_1 5 1 r45.length (r45.flatMap (eK .u8))] [.row g6 79 [.int .i64 ((nth l i_6).Bidder), .int .i64 ((nth l i_6).Product), .int .i64 ((nth l i_6).Change), .bool ((nth l i_6).Point.Num.Neg),(nth (nth cl i_6) 4), .bool ((nth l i_6).Point.Den.Neg),(nth (nth cl i_6) 6)]] rfl rfl rfl rfl a8 (fun w hw hw2 hF=>zaF _ w hF (GWriter.mk (Gfault.mk 0) r45) g4 v45_0_1 r27.1 hw2.takes.1 hw2.takes.2 fuel r47 hr47)) ?_;rintro _ _ ⟨v47_0_1, -,rfl,rfl⟩;refine lv ?_;intro iv47_0_1 hmv47_0_1;refine dz ?_;have hq:=dw hk;clear hk;obtain ⟨r49,hr49,hk⟩:=hq; (try dsimp only at hk);refine ef ?_;refine cX (dI [0,1,2,3] [.row g4 145 [.int .i64 0,v47_0_1], .sl v47_0_1 5 1 r47.length (r47.flatMap (eK .u8))] [.row g6 79 [.int .i64 ((nth l i_6).Bidder), .int .i64 ((nth l i_6).Product), .int .i64 ((nth l i_6).Change), .bool ((nth l i_6).Point.Num.Neg),(nth (nth cl i_6) 4), .bool ((nth l i_6).Point.Den.Neg),(nth (nth cl i_6) 6)]] rfl rfl rfl rfl a8 (fun w hw hw2 hF=>zaF _ w hF (GWriter.mk (Gfault.mk 0) r47) g4 v47_0_1 r34.1 hw2.takes.1 hw2.takes.2 fuel r49 hr49)) ?_;rintro _ _ ⟨v49_0_1, -,rfl,rfl⟩;refine lv ?_;intro iv49_0_1 hmv49_0_1;refine jg ?_;rw [←hn5] at hk;refine K.pick [1,0,2] rfl a8 ?_;exact K.next ((i_6+1),r49,v49_0_1) ⟨hk,inferInstance⟩ b5 (.c (.c (.c (.c .nil)))) (List.Sublist.refl _)
    ·have p7:=of_decide_eq_false h7;rw [fH a7,←hkk5] at hk; (try dsimp only at hk);refine eN ?_;exact cY (c_4,vc_4) ⟨hk,inferInstance⟩ (.c .nil) (List.Sublist.refl _)
  ·rintro ⟨c_2,vc_2⟩ ⟨hk,oc_2⟩; (try dsimp only at *);rw [←hk3] at hk; (try dsimp only at hk);refine T.seq ?_;have hq:=dw hk;clear hk;obtain ⟨r51,hr51,hk⟩:=hq; (try dsimp only at hk);refine gy ?_;refine cX (dI [1,0,2] [.row g4 145 [.int .i64 0,vc_2], .sl vc_2 5 1 c_2.length (c_2.flatMap (eK .u8))] [] rfl rfl rfl rfl a8 (fun w hw hw2 hF=>zcL _ w hF (GWriter.mk (Gfault.mk 0) c_2) g4 vc_2 hw2.takes.1 hw2.takes.2 r51 hr51)) ?_;rintro _ _ ⟨v51_0_0, -,rfl,rfl⟩;refine ft ?_;refine gv 2 rfl ?_;intro iv51_0_0 hmv51_0_0;refine kJ ?_;refine il ?_;refine lI (fun w hw=>hw.freezeS (i:=3) (j:=2) a8 rfl rfl) ?_;rintro F2 ⟨le1_2,hz2⟩;refine fI ?_;have hfF2:=hz2.toF rfl (fun _=>rfl);haveI:=hfF2.oneC;obtain rfl:=Option.some.inj hk;exact fh rfl rfl rfl (fun w' hw=>⟨v51_0_0,F2.toFrz,hfF2,rfl,dU hw (i:=2) rfl hS0 le1_2⟩)
def zbk (b:GBidder)(xf0_:Int):Bool:=
 (decide (b.ID=xf0_))
theorem zc6 (F0:Frz)(w:World)(hF0:F0.At w)(b:GBidder)(vb_3:Value)(hb_3:SlC F0 vb_3 1 (b.Blocks.map eI))(xf0_:Int)(gf0_:Nat)(hO:Hp w (dG [.row gf0_ 3 [.int .i64 xf0_]]) [.row gf0_ 3 [.int .i64 xf0_]] w)(hA:∀g,dG [.row gf0_ 3 [.int .i64 xf0_]] g→¬F0.S g):Calls Tryz.prog 119 #[.agg [.int .i64 b.ID, .int .i64 b.Eligibility, .int .i64 b.Waivers,vb_3].toArray, .pointer (some ⟨gf0_,0,none⟩)] w fun e w'=>∃(y:Unit),(True)∧e= .returned (.bool (zbk b xf0_))∧FxM F0 w (dG [.row gf0_ 3 [.int .i64 xf0_]]) F0 [.row gf0_ 3 [.int .i64 xf0_]] w':=by
 obtain ⟨r,hk⟩:∃r,zbk b xf0_=r:=⟨_,rfl⟩;rw [hk];unfold zbk at hk;haveI:=hb_3.oneC;obtain ⟨S0,F1,rfl,hS0,hp0⟩:=gl hF0 hO hA;refine dQ (hs:=[.row gf0_ 3 [.int .i64 xf0_], .fr F1]) Tryz.func119 rfl rfl rfl hp0 ?_;refine iA ?_;rintro _ _ ⟨g2,rfl,rfl⟩;refine dy ?_;refine eR ?_;refine gC ?_;refine cS (di 1) ?_;refine mf ?_;subst hk;exact q4m
def gi (s:List GBidder)(x1c0_:Int):Int:=
 dF (fun (_:Unit)=>
 (-1))
 (fun k1=>
 dq (fun (i_3:Nat) (next2:Unit→Int) (_:Unit)=>
 (bif (zbk (nth s i_3) x1c0_) then
 (i_3:Int)
 else
 next2 ()))
 (fun (_:Unit)=>
 k1 ()) (s.length - 0) 0 ())
theorem zbI (F0:Frz)(w:World)(hF0:F0.At w)(s:List GBidder)(vs:Value)(cs:List (List Value))(hs:SlD cR F0 vs 4 cs s)(x1c0_:Int)(g1c0_:Nat)(hO:Hp w (dG [.row g1c0_ 3 [.int .i64 x1c0_]]) [.row g1c0_ 3 [.int .i64 x1c0_]] w)(hA:∀g,dG [.row g1c0_ 3 [.int .i64 x1c0_]] g→¬F0.S g):Calls Tryz.prog 118 #[vs, .func (.func 119) #[] #[.pointer (some ⟨g1c0_,0,none⟩)]] w fun e w'=>∃(y:Unit),(True)∧e= .returned (.int .i64 (gi s x1c0_))∧FxM F0 w (dG [.row g1c0_ 3 [.int .i64 x1c0_]]) F0 [.row g1c0_ 3 [.int .i64 x1c0_]] w':=by
 obtain ⟨r,hk⟩:∃r,gi s x1c0_=r:=⟨_,rfl⟩;rw [hk];unfold gi at hk;haveI:=hs.1.oneC;obtain ⟨S0,F1,rfl,hS0,hp0⟩:=gl hF0 hO hA;refine dQ (hs:=[.row g1c0_ 3 [.int .i64 x1c0_], .fr F1]) Tryz.func118 rfl rfl rfl hp0 ?_;refine jQ ?_;refine cS (dk rfl rfl hs.1 hs.2.1) ?_;have hm7:s.length≤9223372036854775807:=hs.2.1▸hs.1.max;refine dZ ?_;have hq:=d7 hk;clear hk;obtain ⟨k1,hk1,hk⟩:=hq; (try dsimp only at hk);refine c9 (ι:=Unit) (fun z=>[]) (fun z=>[.row g1c0_ 3 [.int .i64 x1c0_], .fr F1]) (fun z=>k1 ()=r) ?_ ?_
 ·have hq:=fJ hk;clear hk;obtain ⟨f2,kk2,hf2,hkk2,hk⟩:=hq;refine eH ?_;refine T.loop (ι:=Nat) (fun z=>[(0,vs),(1, .func (.func 119) #[] #[.pointer (some ⟨g1c0_,0,none⟩)]),(7, .int .i64 (s.length:Int)),(8, .int .i64 (z:Int))]) (fun z=>[.row g1c0_ 3 [.int .i64 x1c0_], .fr F1]) (fun z=>dq f2 kk2 (s.length - z) z ()=r) (fun z=>s.length - z) 0 ?_ ?_ ?_ ?_
  ·exact hk
  ·exact jo
  ·exact eG
  ·rintro i_3 hk;refine eW ?_;refine T.cond rfl (fun h4=>?_) (fun h4=>?_)
   ·have p4:=of_decide_eq_true h4;rw [fF a7] at hk;generalize hn2:dq f2 kk2 (s.length - (i_3+1)) (i_3+1)=next2 at hk;rw [←hf2] at hk; (try dsimp only at hk);refine q2j ?_;have hd15_3:=(eL (hs.2.2 i_3 a7)).2;haveI:=hd15_3.oneC;refine cX (dI [0,1] [.row g1c0_ 3 [.int .i64 x1c0_]] [] rfl rfl rfl rfl a8 (fun w hw hw2 hF=>zc6 _ w hF (nth s i_3) (nth (nth cs i_3) 3) hd15_3 x1c0_ g1c0_ hw2.takes.1 hw2.takes.2)) ?_;rintro _ _ ⟨⟨⟩, -,rfl,rfl⟩;refine lY ?_;refine T.cond rfl (fun h5=>?_) (fun h5=>?_)
    ·replace hk:=dr hk h5;refine gO ?_;refine ky ?_;subst hk;exact lU
    ·replace hk:=dt hk h5;refine q3T ?_;rw [←hn2] at hk;exact q4h
   ·have p4:=of_decide_eq_false h4;rw [fH a7,←hkk2] at hk; (try dsimp only at hk);refine eN ?_;exact kY
 ·rintro _ hk;rw [←hk1] at hk; (try dsimp only at hk);refine kp ?_;subst hk;exact lU
def zbv (x0_:GAuction)(id:Int):Option (GBidder×Int):=
 (bif (lj x0_) then
 some ((GBidder.mk 0 0 0 []),1)
 else
 (bif decide ((gi x0_.bidders id)<0) then
 some ((GBidder.mk 0 0 0 []),9)
 else
 dj (0≤wI ((gi x0_.bidders id)+1)∧wI ((gi x0_.bidders id)+1)≤(x0_.bidders.length:Int)) <|
 dj (0≤(gi x0_.bidders id)∧(gi x0_.bidders id)≤(wI ((gi x0_.bidders id)+1):Int)) <|
 dj (jy ((x0_.bidders.take ((wI ((gi x0_.bidders id)+1)).toNat)).drop ((gi x0_.bidders id).toNat))) <|
 dj (0≤0∧0<(((x0_.bidders.take ((wI ((gi x0_.bidders id)+1)).toNat)).drop ((gi x0_.bidders id).toNat)).length:Int)) <|
 some ((nth ((x0_.bidders.take ((wI ((gi x0_.bidders id)+1)).toNat)).drop ((gi x0_.bidders id).toNat)) 0),0)))
theorem zca (F0:Frz)(w:World)(hF0:F0.At w)(x0_:GAuction)(g0_:Nat)(v0_0:Value)(h0_0:SlC F0 v0_0 5 (x0_.catalogue.map cV))(v0_1:Value)(c0_1:List (List Value))(h0_1:SlD cR F0 v0_1 4 c0_1 x0_.bidders)(v0_4:Value)(h0_4:SlC F0 v0_4 1 (x0_.key.map (eK .u8)))(v0_6:Value)(h0_6:SlC F0 v0_6 1 (x0_.prices.map eI))(id:Int)(hO:Hp w (dG [.row g0_ 104 [v0_0,v0_1, .int .i64 x0_.increment.Activity, .int .i64 x0_.increment.Step,v0_4, .int .i64 x0_.rounds,v0_6]]) [.row g0_ 104 [v0_0,v0_1, .int .i64 x0_.increment.Activity, .int .i64 x0_.increment.Step,v0_4, .int .i64 x0_.rounds,v0_6]] w)(hA:∀g,dG [.row g0_ 104 [v0_0,v0_1, .int .i64 x0_.increment.Activity, .int .i64 x0_.increment.Step,v0_4, .int .i64 x0_.rounds,v0_6]] g→¬F0.S g)(r:GBidder×Int)(hr:zbv x0_ id=some r):Calls Tryz.prog 41 #[.pointer (some ⟨g0_,0,none⟩), .int .i64 id] w fun e w'=>∃(y:Value) (G:Frz),(SlC G y 1 (r.1.Blocks.map eI))∧e= .returned (.tuple #[.agg [.int .i64 r.1.ID, .int .i64 r.1.Eligibility, .int .i64 r.1.Waivers,y].toArray, .int .i64 r.2])∧FxM F0 w (dG [.row g0_ 104 [v0_0,v0_1, .int .i64 x0_.increment.Activity, .int .i64 x0_.increment.Step,v0_4, .int .i64 x0_.rounds,v0_6]]) G [.row g0_ 104 [v0_0,v0_1, .int .i64 x0_.increment.Activity, .int .i64 x0_.increment.Step,v0_4, .int .i64 x0_.rounds,v0_6]] w':=by
 have hk:=hr;unfold zbv at hk;haveI:=h0_0.oneC;haveI:=h0_1.1.oneC;haveI:=h0_4.oneC;haveI:=h0_6.oneC;obtain ⟨S0,F1,rfl,hS0,hp0⟩:=gl hF0 hO hA;refine dQ (hs:=[.row g0_ 104 [v0_0,v0_1, .int .i64 x0_.increment.Activity, .int .i64 x0_.increment.Step,v0_4, .int .i64 x0_.rounds,v0_6], .fr F1]) Tryz.func41 rfl rfl rfl hp0 ?_;refine dY ?_;refine cX (Ew.box rfl rfl) ?_;rintro _ _ ⟨g3,rfl,rfl⟩;refine fW ?_;rintro _ _ ⟨g4,rfl,rfl⟩;refine li ?_;refine cX (dI [2,3,0,1] [.row g0_ 104 [v0_0,v0_1, .int .i64 x0_.increment.Activity, .int .i64 x0_.increment.Step,v0_4, .int .i64 x0_.rounds,v0_6]] [.row g4 57 [.int .i64 0, .int .i64 0, .int .i64 0,(.slice none 0 0)], .row g3 3 [.int .i64 id]] rfl rfl rfl rfl a8 (fun w hw hw2 hF=>zaw _ w hF x0_ g0_ v0_0 h0_0 v0_1 c0_1 h0_1 v0_4 h0_4 v0_6 h0_6 hw2.takes.1 hw2.takes.2)) ?_;rintro _ _ ⟨⟨⟩, -,rfl,rfl⟩;refine lY ?_;refine T.cond rfl (fun h1=>?_) (fun h1=>?_)
 ·replace hk:=dr hk h1;refine q3G ?_;refine q3o ?_;refine lw ?_;obtain rfl:=Option.some.inj hk;exact iE 2 rfl rfl rfl rfl rfl (fun w' hw=>⟨(.slice none 0 0),F1.toFrz,(SlC.nil _ 1),rfl,dp (hw.pick (idx:=[0,1]) rfl a8) hS0 (Frz.Le.refl _)⟩)
 ·replace hk:=dt hk h1;refine T.skip (K.seq (dY ?_));refine ek ?_;refine kA ?_;refine cX (dI [3,1,0,2] [.row g3 3 [.int .i64 id]] [.row g0_ 104 [v0_0,v0_1, .int .i64 x0_.increment.Activity, .int .i64 x0_.increment.Step,v0_4, .int .i64 x0_.rounds,v0_6], .row g4 57 [.int .i64 0, .int .i64 0, .int .i64 0,(.slice none 0 0)]] rfl rfl rfl rfl a8 (fun w hw hw2 hF=>zbI _ w hF x0_.bidders v0_1 c0_1 h0_1 id g3 hw2.takes.1 hw2.takes.2)) ?_;rintro _ _ ⟨⟨⟩, -,rfl,rfl⟩;refine ft ?_;refine q3W ?_;refine T.cond rfl (fun h2=>?_) (fun h2=>?_)
  ·have p2:=of_decide_eq_true h2;replace hk:=dr hk h2;refine q3G ?_;refine dM (fD 3) ?_;refine ee ?_;refine lw ?_;obtain rfl:=Option.some.inj hk;exact iE 3 rfl rfl rfl rfl rfl (fun w' hw=>⟨(.slice none 0 0),F1.toFrz,(SlC.nil _ 1),rfl,dp (hw.pick (idx:=[2,1]) rfl a8) hS0 (Frz.Le.refl _)⟩)
  ·have p2:=of_decide_eq_false h2;replace hk:=dt hk h2;refine fN ?_;have hq:(0≤wI ((gi x0_.bidders id)+1)∧wI ((gi x0_.bidders id)+1)≤(x0_.bidders.length:Int))∧_:=dB hk;clear hk;obtain ⟨g26h,hk⟩:=hq;have hq:(0≤(gi x0_.bidders id)∧(gi x0_.bidders id)≤(wI ((gi x0_.bidders id)+1):Int))∧_:=dB hk;clear hk;obtain ⟨g26l,hk⟩:=hq;have hq:(jy ((x0_.bidders.take ((wI ((gi x0_.bidders id)+1)).toNat)).drop ((gi x0_.bidders id).toNat)))∧_:=dB hk;clear hk;obtain ⟨g27,hk⟩:=hq;have hq:(0≤0∧0<(((x0_.bidders.take ((wI ((gi x0_.bidders id)+1)).toNat)).drop ((gi x0_.bidders id).toNat)).length:Int))∧_:=dB hk;clear hk;obtain ⟨g28,hk⟩:=hq; (try dsimp only at hk);refine eO ?_;refine q1S ?_;refine ek ?_;refine cS (dh (v:= .int .i64 (wI ((gi x0_.bidders id)+1)))) ?_;refine cS (Yv.cw (l:=(gi x0_.bidders id).toNat) (i:=(wI ((gi x0_.bidders id)+1)).toNat) rfl rfl rfl rfl h0_1.1 h0_1.2.1 a7 a7 a7 a7) ?_;have hs26_:SlD cR F1.toFrz (gd v0_1 ((gi x0_.bidders id).toNat) ((wI ((gi x0_.bidders id)+1)).toNat) 4) 4 ((c0_1.take ((wI ((gi x0_.bidders id)+1)).toNat)).drop ((gi x0_.bidders id).toNat)) ((x0_.bidders.take ((wI ((gi x0_.bidders id)+1)).toNat)).drop ((gi x0_.bidders id).toNat)):=h0_1.slicelh (l:=(gi x0_.bidders id).toNat) (i:=(wI ((gi x0_.bidders id)+1)).toNat) a7 a7;haveI:=hs26_.1.oneC;refine cX (dl 1 rfl rfl rfl rfl (fun w hw hF=>zhx _ w hF ((x0_.bidders.take ((wI ((gi x0_.bidders id)+1)).toNat)).drop ((gi x0_.bidders id).toNat)) (gd v0_1 ((gi x0_.bidders id).toNat) ((wI ((gi x0_.bidders id)+1)).toNat) 4) ((c0_1.take ((wI ((gi x0_.bidders id)+1)).toNat)).drop ((gi x0_.bidders id).toNat)) hs26_ g27)) ?_;rintro _ _ ⟨⟨v27_,c27_⟩,F2,le1_2,hf27,hq,rfl⟩;obtain rfl:=hq.symm;dsimp only at hf27 ⊢;haveI:=hf27.1.oneC;refine cS (df (i:=0) rfl rfl rfl hf27.1 hf27.2.1 (show (0:Int)=((0:Nat):Int) from rfl) a7) ?_;refine cS (fv 1 (i:=0) (j:=0) rfl rfl rfl hf27.1 hf27.2.1 a7 rfl (eP (hf27.2.2 0 a7))) ?_;have hd29_3:=(eL (hf27.2.2 0 a7)).2;haveI:=hd29_3.oneC;refine dM (fD 3) ?_;refine ee ?_;refine iw ?_;obtain rfl:=Option.some.inj hk;exact iE 3 rfl rfl rfl rfl rfl (fun w' hw=>⟨(nth (nth c27_ 0) 3),F2.toFrz,hd29_3,rfl,dp (hw.pick (idx:=[2,1]) rfl a8) hS0 le1_2⟩)
def zbB (x0_:GAuction):Option Int:=
 (bif (lj x0_) then
 some 0
 else
 (zaA x0_).bind fun r9=>
 dF (fun (sum_2:Int)=>
 some sum_2)
 (fun k3=>
 dq (fun (i_6:Nat) (next5:Int→Option Int) (sum_4:Int)=>
 dj (0≤(i_6:Int)∧(i_6:Int)<(x0_.prices.length:Int)) <|
 next5 (wI (sum_4+(wI ((nth r9 i_6) * (nth x0_.prices i_6))))))
 (fun (sum_4:Int)=>
 k3 sum_4) (r9.length - 0) 0 0))
theorem zc7 (F0:Frz)(w:World)(hF0:F0.At w)(x0_:GAuction)(g0_:Nat)(v0_0:Value)(h0_0:SlC F0 v0_0 5 (x0_.catalogue.map cV))(v0_1:Value)(c0_1:List (List Value))(h0_1:SlD cR F0 v0_1 4 c0_1 x0_.bidders)(v0_4:Value)(h0_4:SlC F0 v0_4 1 (x0_.key.map (eK .u8)))(v0_6:Value)(h0_6:SlC F0 v0_6 1 (x0_.prices.map eI))(hO:Hp w (dG [.row g0_ 104 [v0_0,v0_1, .int .i64 x0_.increment.Activity, .int .i64 x0_.increment.Step,v0_4, .int .i64 x0_.rounds,v0_6]]) [.row g0_ 104 [v0_0,v0_1, .int .i64 x0_.increment.Activity, .int .i64 x0_.increment.Step,v0_4, .int .i64 x0_.rounds,v0_6]] w)(hA:∀g,dG [.row g0_ 104 [v0_0,v0_1, .int .i64 x0_.increment.Activity, .int .i64 x0_.increment.Step,v0_4, .int .i64 x0_.rounds,v0_6]] g→¬F0.S g)(r:Int)(hr:zbB x0_=some r):Calls Tryz.prog 43 #[.pointer (some ⟨g0_,0,none⟩)] w fun e w'=>∃(y:Unit),(True)∧e= .returned (.int .i64 r)∧FxM F0 w (dG [.row g0_ 104 [v0_0,v0_1, .int .i64 x0_.increment.Activity, .int .i64 x0_.increment.Step,v0_4, .int .i64 x0_.rounds,v0_6]]) F0 [.row g0_ 104 [v0_0,v0_1, .int .i64 x0_.increment.Activity, .int .i64 x0_.increment.Step,v0_4, .int .i64 x0_.rounds,v0_6]] w':=by
 have hk:=hr;unfold zbB at hk;haveI:=h0_0.oneC;haveI:=h0_1.1.oneC;haveI:=h0_4.oneC;haveI:=h0_6.oneC;obtain ⟨S0,F1,rfl,hS0,hp0⟩:=gl hF0 hO hA;refine dQ (hs:=[.row g0_ 104 [v0_0,v0_1, .int .i64 x0_.increment.Activity, .int .i64 x0_.increment.Step,v0_4, .int .i64 x0_.rounds,v0_6], .fr F1]) Tryz.func43 rfl rfl rfl hp0 ?_;refine jQ ?_;refine q0o ?_;rintro _ _ ⟨⟨⟩, -,rfl,rfl⟩;refine lY ?_;refine T.cond rfl (fun h1=>?_) (fun h1=>?_)
 ·replace hk:=dr hk h1;refine iQ ?_;obtain rfl:=Option.some.inj hk;exact lU
 ·replace hk:=dt hk h1;refine kO ?_;refine iT ?_;have hq:=dw hk;clear hk;obtain ⟨r9,hr9,hk⟩:=hq; (try dsimp only at hk);refine q1Y ?_;rintro v9_0_0 _ ⟨_, -,rfl,rfl⟩;refine lv ?_;intro iv9_0_0 hmv9_0_0;refine cS (gw 1 rfl rfl rfl) ?_;refine dZ ?_;have hq:=d7 hk;clear hk;obtain ⟨k3,hk3,hk⟩:=hq; (try dsimp only at hk);refine c9 (ι:=Int) (fun z=>[(3, .int .i64 z)]) (fun z=>[.row g0_ 104 [v0_0,v0_1, .int .i64 x0_.increment.Activity, .int .i64 x0_.increment.Step,v0_4, .int .i64 x0_.rounds,v0_6], .fr F1]) (fun z=>k3 z=some r) ?_ ?_
  ·have hq:=fJ hk;clear hk;obtain ⟨f5,kk5,hf5,hkk5,hk⟩:=hq;refine eH ?_;refine T.loop (ι:=Nat×Int) (fun z=>[(0, .pointer (some ⟨g0_,0,none⟩)),(3, .int .i64 z.2),(9,v9_0_0),(10, .int .i64 (r9.length:Int)),(11, .int .i64 (z.1:Int))]) (fun z=>[.row g0_ 104 [v0_0,v0_1, .int .i64 x0_.increment.Activity, .int .i64 x0_.increment.Step,v0_4, .int .i64 x0_.rounds,v0_6], .sl v9_0_0 3 1 r9.length (r9.flatMap eI), .fr F1]) (fun z=>dq f5 kk5 (r9.length - z.1) z.1 z.2=some r) (fun z=>r9.length - z.1) (0,0) ?_ ?_ ?_ ?_
   ·exact hk
   ·exact kn
   ·exact eG
   ·rintro ⟨i_6,sum_4⟩ hk; (try dsimp only at *);refine eW ?_;refine T.cond rfl (fun h7=>?_) (fun h7=>?_)
    ·have p7:=of_decide_eq_true h7;rw [fF a7] at hk;generalize hn5:dq f5 kk5 (r9.length - (i_6+1)) (i_6+1)=next5 at hk;rw [←hf5] at hk; (try dsimp only at hk);refine q2K ?_;have hq:(0≤(i_6:Int)∧(i_6:Int)<(x0_.prices.length:Int))∧_:=dB hk;clear hk;obtain ⟨g23,hk⟩:=hq; (try dsimp only at hk);refine lX ?_;refine kA ?_;refine cS (df (i:=i_6) rfl rfl rfl h0_6 (List.length_map _) rfl a7) ?_;refine cS (dD 2 (i:=i_6) (j:=0) rfl rfl rfl h0_6 a7) ?_;refine cS (dh (v:= .int .i64 (wI ((nth r9 i_6) * (nth x0_.prices i_6))))) ?_;refine cS (dh (v:= .int .i64 (wI (sum_4+(wI ((nth r9 i_6) * (nth x0_.prices i_6))))))) ?_;refine dy ?_;refine jg ?_;rw [←hn5] at hk;exact K.next ((i_6+1),wI (sum_4+(wI ((nth r9 i_6) * (nth x0_.prices i_6))))) hk b5 (.c (.c (.c (.c (.c .nil))))) (List.Sublist.refl _)
    ·have p7:=of_decide_eq_false h7;rw [fH a7,←hkk5] at hk; (try dsimp only at hk);refine eN ?_;refine K.pick [0,2] rfl a8 ?_;exact cY sum_4 hk (.c .nil) (List.Sublist.refl _)
  ·rintro sum_2 hk;rw [←hk3] at hk; (try dsimp only at hk);refine q3S ?_;obtain rfl:=Option.some.inj hk;exact lU
def zbJ (x0_:GAuction):Option Int:=
 (bif (lj x0_) then
 some 0
 else
 (zaA x0_).bind fun r9=>
 dF (fun (sum_2:Int)=>
 some sum_2)
 (fun k3=>
 dq (fun (i_6:Nat) (next5:Int→Option Int) (sum_4:Int)=>
 dj (0≤(i_6:Int)∧(i_6:Int)<(x0_.catalogue.length:Int)) <|
 next5 (wI (sum_4+(wI ((nth r9 i_6) * ((nth x0_.catalogue i_6).Units))))))
 (fun (sum_4:Int)=>
 k3 sum_4) (r9.length - 0) 0 0))
theorem zdr (F0:Frz)(w:World)(hF0:F0.At w)(x0_:GAuction)(g0_:Nat)(v0_0:Value)(h0_0:SlC F0 v0_0 5 (x0_.catalogue.map cV))(v0_1:Value)(c0_1:List (List Value))(h0_1:SlD cR F0 v0_1 4 c0_1 x0_.bidders)(v0_4:Value)(h0_4:SlC F0 v0_4 1 (x0_.key.map (eK .u8)))(v0_6:Value)(h0_6:SlC F0 v0_6 1 (x0_.prices.map eI))(hO:Hp w (dG [.row g0_ 104 [v0_0,v0_1, .int .i64 x0_.increment.Activity, .int .i64 x0_.increment.Step,v0_4, .int .i64 x0_.rounds,v0_6]]) [.row g0_ 104 [v0_0,v0_1, .int .i64 x0_.increment.Activity, .int .i64 x0_.increment.Step,v0_4, .int .i64 x0_.rounds,v0_6]] w)(hA:∀g,dG [.row g0_ 104 [v0_0,v0_1, .int .i64 x0_.increment.Activity, .int .i64 x0_.increment.Step,v0_4, .int .i64 x0_.rounds,v0_6]] g→¬F0.S g)(r:Int)(hr:zbJ x0_=some r):Calls Tryz.prog 44 #[.pointer (some ⟨g0_,0,none⟩)] w fun e w'=>∃(y:Unit),(True)∧e= .returned (.int .i64 r)∧FxM F0 w (dG [.row g0_ 104 [v0_0,v0_1, .int .i64 x0_.increment.Activity, .int .i64 x0_.increment.Step,v0_4, .int .i64 x0_.rounds,v0_6]]) F0 [.row g0_ 104 [v0_0,v0_1, .int .i64 x0_.increment.Activity, .int .i64 x0_.increment.Step,v0_4, .int .i64 x0_.rounds,v0_6]] w':=by
 have hk:=hr;unfold zbJ at hk;haveI:=h0_0.oneC;haveI:=h0_1.1.oneC;haveI:=h0_4.oneC;haveI:=h0_6.oneC;obtain ⟨S0,F1,rfl,hS0,hp0⟩:=gl hF0 hO hA;refine dQ (hs:=[.row g0_ 104 [v0_0,v0_1, .int .i64 x0_.increment.Activity, .int .i64 x0_.increment.Step,v0_4, .int .i64 x0_.rounds,v0_6], .fr F1]) Tryz.func44 rfl rfl rfl hp0 ?_;refine jQ ?_;refine q0o ?_;rintro _ _ ⟨⟨⟩, -,rfl,rfl⟩;refine lY ?_;refine T.cond rfl (fun h1=>?_) (fun h1=>?_)
 ·replace hk:=dr hk h1;refine iQ ?_;obtain rfl:=Option.some.inj hk;exact lU
 ·replace hk:=dt hk h1;refine kO ?_;refine iT ?_;have hq:=dw hk;clear hk;obtain ⟨r9,hr9,hk⟩:=hq; (try dsimp only at hk);refine q1Y ?_;rintro v9_0_0 _ ⟨_, -,rfl,rfl⟩;refine lv ?_;intro iv9_0_0 hmv9_0_0;refine cS (gw 1 rfl rfl rfl) ?_;refine dZ ?_;have hq:=d7 hk;clear hk;obtain ⟨k3,hk3,hk⟩:=hq; (try dsimp only at hk);refine c9 (ι:=Int) (fun z=>[(3, .int .i64 z)]) (fun z=>[.row g0_ 104 [v0_0,v0_1, .int .i64 x0_.increment.Activity, .int .i64 x0_.increment.Step,v0_4, .int .i64 x0_.rounds,v0_6], .fr F1]) (fun z=>k3 z=some r) ?_ ?_
  ·have hq:=fJ hk;clear hk;obtain ⟨f5,kk5,hf5,hkk5,hk⟩:=hq;refine eH ?_;refine T.loop (ι:=Nat×Int) (fun z=>[(0, .pointer (some ⟨g0_,0,none⟩)),(3, .int .i64 z.2),(9,v9_0_0),(10, .int .i64 (r9.length:Int)),(11, .int .i64 (z.1:Int))]) (fun z=>[.row g0_ 104 [v0_0,v0_1, .int .i64 x0_.increment.Activity, .int .i64 x0_.increment.Step,v0_4, .int .i64 x0_.rounds,v0_6], .sl v9_0_0 3 1 r9.length (r9.flatMap eI), .fr F1]) (fun z=>dq f5 kk5 (r9.length - z.1) z.1 z.2=some r) (fun z=>r9.length - z.1) (0,0) ?_ ?_ ?_ ?_
   ·exact hk
   ·exact kn
   ·exact eG
   ·rintro ⟨i_6,sum_4⟩ hk; (try dsimp only at *);refine eW ?_;refine T.cond rfl (fun h7=>?_) (fun h7=>?_)
    ·have p7:=of_decide_eq_true h7;rw [fF a7] at hk;generalize hn5:dq f5 kk5 (r9.length - (i_6+1)) (i_6+1)=next5 at hk;rw [←hf5] at hk; (try dsimp only at hk);refine q2K ?_;have hq:(0≤(i_6:Int)∧(i_6:Int)<(x0_.catalogue.length:Int))∧_:=dB hk;clear hk;obtain ⟨g23,hk⟩:=hq; (try dsimp only at hk);refine lX ?_;refine kA ?_;refine cS (df (i:=i_6) rfl rfl rfl h0_0 (List.length_map _) rfl a7) ?_;refine cS (fL rfl rfl h0_0 (List.length_map _) a7) ?_;refine cS (dD 2 (i:=i_6) (j:=3) rfl rfl rfl h0_0 a7) ?_;refine cS (dh (v:= .int .i64 (wI ((nth r9 i_6) * ((nth x0_.catalogue i_6).Units))))) ?_;refine cS (dh (v:= .int .i64 (wI (sum_4+(wI ((nth r9 i_6) * ((nth x0_.catalogue i_6).Units))))))) ?_;refine dy ?_;refine jg ?_;rw [←hn5] at hk;exact K.next ((i_6+1),wI (sum_4+(wI ((nth r9 i_6) * ((nth x0_.catalogue i_6).Units))))) hk b5 (.c (.c (.c (.c (.c .nil))))) (List.Sublist.refl _)
    ·have p7:=of_decide_eq_false h7;rw [fH a7,←hkk5] at hk; (try dsimp only at hk);refine eN ?_;refine K.pick [0,2] rfl a8 ?_;exact cY sum_4 hk (.c .nil) (List.Sublist.refl _)
  ·rintro sum_2 hk;rw [←hk3] at hk; (try dsimp only at hk);refine q3S ?_;obtain rfl:=Option.some.inj hk;exact lU
end Go.Proofs.YtmnjbhkcfghebaaGreatDoor
