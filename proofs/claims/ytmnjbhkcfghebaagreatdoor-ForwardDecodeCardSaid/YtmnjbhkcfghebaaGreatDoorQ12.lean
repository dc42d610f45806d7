/- Yj Yu: shortened and put together by squeeze.py. -/
import Derived.Test.YtmnjbhkcfghebaaGreatDoorQ11
set_option maxRecDepth 100000
set_option maxHeartbeats 4000000
set_option linter.unusedVariables false
set_option linter.unusedSectionVars false
set_option linter.unusedSimpArgs false
namespace Go.Proofs.YtmnjbhkcfghebaaGreatDoor
open Go.RowKit
def zbr (fuel:Nat)(l:List GBid):Option Bool:=
 (bif decide (128<(l.length:Int)) then
 some false
 else
 dO (fun (_:Unit)=>
 some true)
 (fun k2=>
 dN (fun (i_5:Nat) (next4:Int→Option Bool) (last_3:Int)=>
 (bif ((((decide ((nth l i_5).Bidder<last_3))||(decide (32≤(nth l i_5).Bidder)))||(decide ((nth l i_5).Product<0)))||(decide (128≤(nth l i_5).Product))) then
 some false
 else
 dO (fun (x_11:Bool)=>
 (bif x_11 then
 some false
 else
 next4 ((nth l i_5).Bidder)))
 (fun k12=>
 (bif decide ((nth l i_5).Change<(-12)) then
 k12 true
 else
 (bif decide (12<(nth l i_5).Change) then
 k12 true
 else
 (bif decide ((nth l i_5).Change=0) then
 k12 true
 else
 (zbV fuel ((nth l i_5).Point)).bind fun r50=>
 k12 (!r50)))))))
 (fun (last_3:Int)=>
 k2 ()) (l.length - 0) 0 0))
theorem zeE (F0:Frz)(w:World)(hF0:F0.At w)(l:List GBid)(vl:Value)(cl:List (List Value))(hl:SlD df F0 vl 7 cl l)(fuel:Nat)(r:Bool)(hr:zbr fuel l=some r):Calls Tryz.prog 95 #[vl] w fun e w'=>e= .returned (.bool r)∧Below w.heap.size w w':=by
 have hk:=hr;unfold zbr at hk;haveI:=hl.1.oneC;obtain ⟨S0,F1,rfl,hS0,hp0⟩:=eH hF0;refine dT Tryz.func95 rfl rfl rfl hp0 ?_;refine jy ?_;refine q21 ?_;have hm7:l.length≤9223372036854775807:=hl.2.1▸hl.1.max;refine ez ?_;refine T.cond rfl (fun h1=>?_) (fun h1=>?_)
 ·have p1:=of_decide_eq_true h1;replace hk:=dt hk h1;refine iu ?_;obtain rfl:=Option.some.inj hk;exact eB
 ·have p1:=of_decide_eq_false h1;replace hk:=dw hk h1;refine iz ?_;refine jb ?_;refine q21 ?_;refine ez ?_;have hq:=ek hk;clear hk;obtain ⟨k2,hk2,hk⟩:=hq; (try dsimp only at hk);refine dk (ι:=Unit) (fun z=>[]) (fun z=>[.fr F1]) (fun z=>k2 ()=some r) ?_ ?_
  ·have hq:=fX hk;clear hk;obtain ⟨f4,kk4,hf4,hkk4,hk⟩:=hq;refine ff ?_;refine T.loop (ι:=Nat×Int) (fun z=>[(3, .int .i64 z.2),(9,vl),(10, .int .i64 (l.length:Int)),(11, .int .i64 (z.1:Int))]) (fun z=>[.fr F1]) (fun z=>dN f4 kk4 (l.length - z.1) z.1 z.2=some r) (fun z=>l.length - z.1) (0,0) ?_ ?_ ?_ ?_
   ·exact hk
   ·exact jB
   ·exact fa
   ·rintro ⟨i_5,last_3⟩ hk; (try dsimp only at *);refine ft ?_;refine T.cond rfl (fun h6=>?_) (fun h6=>?_)
    ·have p6:=of_decide_eq_true h6;rw [fW a6] at hk;generalize hn4:dN f4 kk4 (l.length - (i_5+1)) (i_5+1)=next4 at hk;rw [←hf4] at hk; (try dsimp only at hk);refine jc ?_;refine cY (dA (i:=i_5) rfl rfl rfl hl.1 hl.2.1 rfl a6) ?_;refine cY (fG 0 (i:=i_5) (j:=0) rfl rfl rfl hl.1 hl.2.1 a6 rfl (eL (hl.2.2 i_5 a6))) ?_;have hd14_4:=(fo (hl.2.2 i_5 a6)).2;haveI:=hd14_4.oneC;have hd14_6:=(fm (hl.2.2 i_5 a6)).2;haveI:=hd14_6.oneC;refine fJ ?_;rintro _ _ ⟨g5,rfl,rfl⟩;refine ga ?_;refine jv ?_;refine dk (ι:=Unit) (fun z=>[(5, .pointer (some ⟨g5,0,none⟩)),(9,vl),(10, .int .i64 (l.length:Int)),(11, .int .i64 (i_5:Int)),(33, .bool ((((decide ((nth l i_5).Bidder<last_3))||(decide (32≤(nth l i_5).Bidder)))||(decide ((nth l i_5).Product<0)))||(decide (128≤(nth l i_5).Product))))]) (fun z=>[.row g5 79 [.int .i64 ((nth l i_5).Bidder), .int .i64 ((nth l i_5).Product), .int .i64 ((nth l i_5).Change), .bool ((nth l i_5).Point.Num.Neg),(nth (nth cl i_5) 4), .bool ((nth l i_5).Point.Den.Neg),(nth (nth cl i_5) 6)], .fr F1]) (fun z=>True) ?_ ?_
     ·refine fu ?_;refine lD ?_;refine dp rfl rfl rfl (fun h7=>?_) (fun h7=>?_)
      ·have p7:=of_decide_eq_true h7;refine TL.run 14 rfl ?_;refine fM ?_;exact dg () trivial (.c (.c (.c (.c (.b (fO (fO (fO h7))).symm .nil))))) (List.Sublist.refl _)
      ·have p7:=of_decide_eq_false h7;refine lD ?_;refine dp rfl rfl rfl (fun h8=>?_) (fun h8=>?_)
       ·have p8:=of_decide_eq_true h8;refine q32 ?_;exact dg () trivial (.c (.c (.c (.c (.b (fO (fO (gH h7 h8))).symm .nil))))) (List.Sublist.refl _)
       ·have p8:=of_decide_eq_false h8;refine lD ?_;refine dp rfl rfl rfl (fun h9=>?_) (fun h9=>?_)
        ·have p9:=of_decide_eq_true h9;refine iK ?_;exact dg () trivial (.c (.c (.c (.c (.b (fO (gH (gH h7 h8) h9)).symm .nil))))) (List.Sublist.refl _)
        ·have p9:=of_decide_eq_false h9;refine gh ?_;refine jh ?_;exact dg () trivial (.c (.c (.c (.c (.b (gE (gH (gH h7 h8) h9)) .nil))))) (List.Sublist.refl _)
     ·rintro _ _;refine T.cond rfl (fun h10=>?_) (fun h10=>?_)
      ·replace hk:=dt hk h10;refine q4c ?_;obtain rfl:=Option.some.inj hk;exact eB
      ·have p10:=h10; (try simp only [iy] at p10);replace hk:=dw hk h10;refine q2y ?_; (try dsimp only at hk);have hq:=ek hk;clear hk;obtain ⟨k12,hk12,hk⟩:=hq; (try dsimp only at hk);refine dk (ι:=Bool) (fun z=>[(5, .pointer (some ⟨g5,0,none⟩)),(9,vl),(10, .int .i64 (l.length:Int)),(11, .int .i64 (i_5:Int)),(52, .bool z)]) (fun z=>[.row g5 79 [.int .i64 ((nth l i_5).Bidder), .int .i64 ((nth l i_5).Product), .int .i64 ((nth l i_5).Change), .bool ((nth l i_5).Point.Num.Neg),(nth (nth cl i_5) 4), .bool ((nth l i_5).Point.Den.Neg),(nth (nth cl i_5) 6)], .fr F1]) (fun z=>k12 z=some r) ?_ ?_
       ·refine fu ?_;refine gh ?_;refine ep ?_;refine dp rfl rfl rfl (fun h13=>?_) (fun h13=>?_)
        ·have p13:=of_decide_eq_true h13;replace hk:=dt hk h13;refine TL.run 15 rfl ?_;refine fM ?_;exact q4B
        ·have p13:=of_decide_eq_false h13;replace hk:=dw hk h13;refine lD ?_;refine dp rfl rfl rfl (fun h14=>?_) (fun h14=>?_)
         ·have p14:=of_decide_eq_true h14;replace hk:=dt hk h14;refine q3T ?_;exact q4B
         ·have p14:=of_decide_eq_false h14;replace hk:=dw hk h14;refine lD ?_;refine dp rfl rfl rfl (fun h15=>?_) (fun h15=>?_)
          ·have p15:=of_decide_eq_true h15;replace hk:=dt hk h15;refine kw ?_;exact q4B
          ·have p15:=of_decide_eq_false h15;replace hk:=dw hk h15;refine fK ?_;refine cY (eW 0 (m:=[.bool ((nth l i_5).Point.Num.Neg),(nth (nth cl i_5) 4), .bool ((nth l i_5).Point.Den.Neg),(nth (nth cl i_5) 6)])) ?_;have hq:=dC hk;clear hk;obtain ⟨r50,hr50,hk⟩:=hq;refine de (dj rfl rfl rfl (fun w hw=>zev _ w (hw.fr (i:=1) rfl) ((nth l i_5).Point) (nth (nth cl i_5) 4) hd14_4 (nth (nth cl i_5) 6) hd14_6 fuel r50 hr50)) ?_;refine jH ?_;exact dg (!r50) hk (.c (.c (.c (.c (.c .nil))))) (List.Sublist.refl _)
       ·rintro x_11 hk;rw [←hk12] at hk; (try dsimp only at hk);refine T.cond rfl (fun h16=>?_) (fun h16=>?_)
        ·replace hk:=dt hk h16;refine q4c ?_;obtain rfl:=Option.some.inj hk;exact eB
        ·replace hk:=dw hk h16;refine T.skip (K.seq (T.region ?_));refine kg ?_;refine jw ?_;rw [←hn4] at hk;refine jd ?_;exact K.next ((i_5+1),(nth l i_5).Bidder) hk a9 (.c (.c (.c (.c .nil)))) (List.Sublist.refl _)
    ·have p6:=of_decide_eq_false h6;rw [fY a6,←hkk4] at hk; (try dsimp only at hk);refine fi ?_;exact lz
  ·rintro _ hk;rw [←hk2] at hk; (try dsimp only at hk);refine kK ?_;obtain rfl:=Option.some.inj hk;exact eB
def zcu (fuel:Nat)(l:List GBid):Option (List Int×Int):=
 (zbr fuel l).bind fun r12=>
 (bif !r12 then
 some ([],2)
 else
 (lS fuel (GWriter.mk (Gfault.mk 0) []) (l.length:Int)).bind fun r16=>
 dO (fun (c_2:List Int)=>
 (zbk (GWriter.mk (Gfault.mk 0) c_2)).bind fun r51=>
 some (r51.1,r51.2))
 (fun k3=>
 dN (fun (i_6:Nat) (next5:List Int→Option (List Int×Int)) (c_4:List Int)=>
 (zbR ((nth l i_6).Point.Num)).bind fun r27=>
 (zbR ((nth l i_6).Point.Den)).bind fun r34=>
 (lS fuel (GWriter.mk (Gfault.mk 0) c_4) ((nth l i_6).Bidder)).bind fun r39=>
 (lS fuel (GWriter.mk (Gfault.mk 0) r39) ((nth l i_6).Product)).bind fun r42=>
 (zbl fuel (GWriter.mk (Gfault.mk 0) r42) ((nth l i_6).Change)).bind fun r45=>
 (lS fuel (GWriter.mk (Gfault.mk 0) r45) r27.1).bind fun r47=>
 (lS fuel (GWriter.mk (Gfault.mk 0) r47) r34.1).bind fun r49=>
 next5 r49)
 (fun (c_4:List Int)=>
 k3 c_4) (l.length - 0) 0 r16))
theorem zfl (F0:Frz)(w:World)(hF0:F0.At w)(l:List GBid)(vl:Value)(cl:List (List Value))(hl:SlD df F0 vl 7 cl l)(fuel:Nat)(r:List Int×Int)(hr:zcu fuel l=some r):Calls Tryz.prog 34 #[vl] w fun e w'=>∃(y:Value) (G:Frz),(SlC G y 1 (r.1.map (eK .u8)))∧e= .returned (.tuple #[y, .int .i64 r.2])∧Fx F0 w G w':=by
 have hk:=hr;unfold zcu at hk;haveI:=hl.1.oneC;obtain ⟨S0,F1,rfl,hS0,hp0⟩:=eH hF0;refine dT Tryz.func34 rfl rfl rfl hp0 ?_;refine gS ?_;refine jv ?_;have hq:=dC hk;clear hk;obtain ⟨r12,hr12,hk⟩:=hq; (try dsimp only at hk);refine eF ?_;refine de (dj rfl rfl rfl (fun w hw=>zeE _ w (hw.fr (i:=0) rfl) l vl cl hl fuel r12 hr12)) ?_;refine lL ?_;refine T.cond rfl (fun h1=>?_) (fun h1=>?_)
 ·replace hk:=dt hk h1;refine kn ?_;obtain rfl:=Option.some.inj hk;exact q5g
 ·replace hk:=dw hk h1;refine iz ?_;refine fJ ?_;rintro _ _ ⟨g4,rfl,rfl⟩;refine kU ?_;refine fv ?_;have hq:=dC hk;clear hk;obtain ⟨r16,hr16,hk⟩:=hq; (try dsimp only at hk);refine eF ?_;refine q21 ?_;have hm15:l.length≤9223372036854775807:=hl.2.1▸hl.1.max;refine de (dG [1,0,2] [.row g4 145 [.int .i64 0,(.slice none 0 0)], .sl (.slice none 0 0) 5 1 ([]:List Int).length ([].flatMap (eK .u8))] [] rfl rfl rfl rfl a7 (fun w hw hw2 hF=>zaD _ w hF (GWriter.mk (Gfault.mk 0) []) g4 (.slice none 0 0) (l.length:Int) hw2.takes.1 hw2.takes.2 fuel r16 hr16)) ?_;rintro _ _ ⟨v16_0_1, -,rfl,rfl⟩;refine lg ?_;intro iv16_0_1 hmv16_0_1;refine q02 ?_;refine q21 ?_;refine ez ?_;have hq:=ek hk;clear hk;obtain ⟨k3,hk3,hk⟩:=hq; (try dsimp only at hk);refine dk (ι:=List Int×Value) (fun z=>[(4, .pointer (some ⟨g4,0,none⟩))]) (fun z=>[.sl z.2 5 1 z.1.length (z.1.flatMap (eK .u8)), .row g4 145 [.int .i64 0,z.2], .fr F1]) (fun z=>k3 z.1=some r∧OneC z.2) ?_ ?_
  ·have hq:=fX hk;clear hk;obtain ⟨f5,kk5,hf5,hkk5,hk⟩:=hq;refine q4i ?_;refine T.loop (ι:=Nat×List Int×Value) (fun z=>[(4, .pointer (some ⟨g4,0,none⟩)),(17,vl),(18, .int .i64 (l.length:Int)),(19, .int .i64 (z.1:Int))]) (fun z=>[.sl z.2.2 5 1 z.2.1.length (z.2.1.flatMap (eK .u8)), .row g4 145 [.int .i64 0,z.2.2], .fr F1]) (fun z=>dN f5 kk5 (l.length - z.1) z.1 z.2.1=some r∧OneC z.2.2) (fun z=>l.length - z.1) (0,r16,v16_0_1) ?_ ?_ ?_ ?_
   ·exact q4G
   ·exact jB
   ·exact fa
   ·rintro ⟨i_6,c_4,vc_4⟩ ⟨hk,oc_4⟩; (try dsimp only at *);refine ft ?_;refine T.cond rfl (fun h7=>?_) (fun h7=>?_)
    ·have p7:=of_decide_eq_true h7;rw [fW a6] at hk;generalize hn5:dN f5 kk5 (l.length - (i_6+1)) (i_6+1)=next5 at hk;rw [←hf5] at hk; (try dsimp only at hk);refine jc ?_;refine cY (dA (i:=i_6) rfl rfl rfl hl.1 hl.2.1 rfl a6) ?_;refine cY (fG 2 (i:=i_6) (j:=0) rfl rfl rfl hl.1 hl.2.1 a6 rfl (eL (hl.2.2 i_6 a6))) ?_;have hd22_4:=(fo (hl.2.2 i_6 a6)).2;haveI:=hd22_4.oneC;have hd22_6:=(fm (hl.2.2 i_6 a6)).2;haveI:=hd22_6.oneC;refine fJ ?_;rintro _ _ ⟨g6,rfl,rfl⟩;refine ga ?_;refine fv ?_;have hq:=dC hk;clear hk;obtain ⟨r27,hr27,hk⟩:=hq; (try dsimp only at hk);refine q4d ?_;refine fK ?_;refine cY (eW 0 (m:=[.bool ((nth l i_6).Point.Num.Neg),(nth (nth cl i_6) 4)])) ?_;refine de (dj rfl rfl rfl (fun w hw=>zei _ w (hw.fr (i:=3) rfl) ((nth l i_6).Point.Num) (nth (nth cl i_6) 4) hd22_4 r27 hr27)) ?_;refine eA ?_;refine i9 ?_;refine fv ?_;have hq:=dC hk;clear hk;obtain ⟨r34,hr34,hk⟩:=hq; (try dsimp only at hk);refine q4d ?_;refine fK ?_;refine cY (eW 0 (m:=[.bool ((nth l i_6).Point.Den.Neg),(nth (nth cl i_6) 6)])) ?_;refine de (dj rfl rfl rfl (fun w hw=>zei _ w (hw.fr (i:=3) rfl) ((nth l i_6).Point.Den) (nth (nth cl i_6) 6) hd22_6 r34 hr34)) ?_;refine eA ?_;refine i9 ?_;refine fv ?_;have hq:=dC hk;clear hk;obtain ⟨r39,hr39,hk⟩:=hq; (try dsimp only at hk);refine fu ?_;refine gh ?_;refine de (dG [2,1,3,0] [.row g4 145 [.int .i64 0,vc_4], .sl vc_4 5 1 c_4.length (c_4.flatMap (eK .u8))] [.row g6 79 [.int .i64 ((nth l i_6).Bidder), .int .i64 ((nth l i_6).Product), .int .i64 ((nth l i_6).Change), .bool ((nth l i_6).Point.Num.Neg),(nth (nth cl i_6) 4), .bool ((nth l i_6).Point.Den.Neg),(nth (nth cl i_6) 6)]] rfl rfl rfl rfl a7 (fun w hw hw2 hF=>zaD _ w hF (GWriter.mk (Gfault.mk 0) c_4) g4 vc_4 ((nth l i_6).Bidder) hw2.takes.1 hw2.takes.2 fuel r39 hr39)) ?_;rintro _ _ ⟨v39_0_1, -,rfl,rfl⟩;refine lg ?_;intro iv39_0_1 hmv39_0_1;refine fv ?_;have hq:=dC hk;clear hk;obtain ⟨r42,hr42,hk⟩:=hq; (try dsimp only at hk);refine fu ?_;refine q1H ?_;refine de (dG [0,1,2,3] [.row g4 145 [.int .i64 0,v39_0_1], .sl v39_0_1 5 1 r39.length (r39.flatMap (eK .u8))] [.row g6 79 [.int .i64 ((nth l i_6).Bidder), .int .i64 ((nth l i_6).Product), .int .i64 ((nth l i_6).Change), .bool ((nth l i_6).Point.Num.Neg),(nth (nth cl i_6) 4), .bool ((nth l i_6).Point.Den.Neg),(nth (nth cl i_6) 6)]] rfl rfl rfl rfl a7 (fun w hw hw2 hF=>zaD _ w hF (GWriter.mk (Gfault.mk 0) r39) g4 v39_0_1 ((nth l i_6).Product) hw2.takes.1 hw2.takes.2 fuel r42 hr42)) ?_;rintro _ _ ⟨v42_0_1, -,rfl,rfl⟩;refine lg ?_;intro iv42_0_1 hmv42_0_1;refine fv ?_;have hq:=dC hk;clear hk;obtain ⟨r45,hr45,hk⟩:=hq; (try dsimp only at hk);refine fu ?_;refine q1H ?_;refine de (dG [0,1,2,3] [.row g4 145 [.int .i64 0,v42_0_1], .sl v42_0_1 5 1 r42.length (r42.flatMap (eK .u8))] [.row g6 79 [.int .i64 ((nth l i_6).Bidder), .int .i64 ((nth l i_6).Product), .int .i64 ((nth l i_6).Change), .bool ((nth l i_6).Point.Num.Neg),(nth (nth cl i_6) 4), .bool ((nth l i_6).Point.Den.Neg),(nth (nth cl i_6) 6)]] rfl rfl rfl rfl a7 (fun w hw hw2 hF=>zes _ w hF (GWriter.mk (Gfault.mk 0) r42) g4 v42_0_1 ((nth l i_6).Change) hw2.takes.1 hw2.takes.2 fuel r45 hr45)) ?_;rintro _ _ ⟨v45_0_1, -,rfl,rfl⟩;refine lg ?_;intro iv45_0_1 hmv45_0_1;refine fv ?_;have hq:=dC hk;clear hk;obtain ⟨r47,hr47,hk⟩:=hq; (try dsimp only at hk);refine eF ?_;refine de (dG [0,1,2,3] [.row g4 145 [.int .i64 0,v45_0_1], .sl v45_0_1 5 1 r45.length (r45.flatMap (eK .u8))] [.row g6 79 [.int .i64 ((nth l i_6).Bidder), .int .i64 ((nth l i_6).Product), .int .i64 ((nth l i_6).Change), .bool ((nth l i_6).Point.Num.Neg),(nth (nth cl i_6) 4), .bool ((nth l i_6).Point.Den.Neg),(nth (nth cl i_6) 6)]] rfl rfl rfl rfl a7 (fun w hw hw2 hF=>zaD _ w hF (GWriter.mk (Gfault.mk 0) r45) g4 v45_0_1 r27.1 hw2.takes.1 hw2.takes.2 fuel r47 hr47)) ?_;rintro _ _ ⟨v47_0_1, -,rfl,rfl⟩;refine lg ?_;intro iv47_0_1 hmv47_0_1;refine dX ?_;have hq:=dC hk;clear hk;obtain ⟨r49,hr49,hk⟩:=hq; (try dsimp only at hk);refine eF ?_;refine de (dG [0,1,2,3] [.row g4 145 [.int .i64 0,v47_0_1], .sl v47_0_1 5 1 r47.length (r47.flatMap (eK .u8))] [.row g6 79 [.int .i64 ((nth l i_6).Bidder), .int .i64 ((nth l i_6).Product), .int .i64 ((nth l i_6).Change), .bool ((nth l i_6).Point.Num.Neg),(nth (nth cl i_6) 4), .bool ((nth l i_6).Point.Den.Neg),(nth (nth cl i_6) 6)]] rfl rfl rfl rfl a7 (fun w hw hw2 hF=>zaD _ w hF (GWriter.mk (Gfault.mk 0) r47) g4 v47_0_1 r34.1 hw2.takes.1 hw2.takes.2 fuel r49 hr49)) ?_;rintro _ _ ⟨v49_0_1, -,rfl,rfl⟩;refine lg ?_;intro iv49_0_1 hmv49_0_1;refine jw ?_;rw [←hn5] at hk;refine K.pick [1,0,2] rfl a7 ?_;exact K.next ((i_6+1),r49,v49_0_1) ⟨hk,inferInstance⟩ a9 (.c (.c (.c (.c .nil)))) (List.Sublist.refl _)
    ·have p7:=of_decide_eq_false h7;rw [fY a6,←hkk5] at hk; (try dsimp only at hk);refine fi ?_;exact dg (c_4,vc_4) ⟨hk,inferInstance⟩ (.c .nil) (List.Sublist.refl _)
  ·rintro ⟨c_2,vc_2⟩ ⟨hk,oc_2⟩; (try dsimp only at *);rw [←hk3] at hk; (try dsimp only at hk);refine T.seq ?_;have hq:=dC hk;clear hk;obtain ⟨r51,hr51,hk⟩:=hq; (try dsimp only at hk);refine fu ?_;refine de (dG [1,0,2] [.row g4 145 [.int .i64 0,vc_2], .sl vc_2 5 1 c_2.length (c_2.flatMap (eK .u8))] [] rfl rfl rfl rfl a7 (fun w hw hw2 hF=>zc2 _ w hF (GWriter.mk (Gfault.mk 0) c_2) g4 vc_2 hw2.takes.1 hw2.takes.2 r51 hr51)) ?_;rintro _ _ ⟨v51_0_0, -,rfl,rfl⟩;refine fe ?_;refine gN 2 rfl ?_;intro iv51_0_0 hmv51_0_0;refine iv ?_;refine ik ?_;refine lH (fun w hw=>hw.freezeS (i:=3) (j:=2) a7 rfl rfl) ?_;rintro F2 ⟨le1_2,hz2⟩;refine fQ ?_;have hfF2:=hz2.toF rfl (fun _=>rfl);haveI:=hfF2.oneC;obtain rfl:=Option.some.inj hk;exact fk rfl rfl rfl (fun w' hw=>⟨v51_0_0,F2.toFrz,hfF2,rfl,dP hw (i:=2) rfl hS0 le1_2⟩)
def zcp (fuel:Nat)(num:Int)(den:Int):Option (GRatio×Bool):=
 (zd3 fuel num den).bind fun r11=>
 (bif decide (¬r11.2=0) then
 some ((GRatio.mk (GInt.mk false []) (GInt.mk false [])),false)
 else
 (zcC fuel num).bind fun r21=>
 (zbt fuel r11.1.Num r21).bind fun r22=>
 dO (fun (s7:Bool×Bool×List Int×Bool×List Int)=>
 some ((GRatio.mk (GInt.mk s7.2.1 s7.2.2.1) (GInt.mk s7.2.2.2.1 s7.2.2.2.2)),s7.1))
 (fun k7=>
 (bif decide (r22=0) then
 (zcC fuel den).bind fun r28=>
 (zbt fuel r11.1.Den r28).bind fun r29=>
 k7 (decide (r29=0),r11.1.Num.Neg,r11.1.Num.Digits,r11.1.Den.Neg,r11.1.Den.Digits)
 else
 k7 (false,r11.1.Num.Neg,r11.1.Num.Digits,r11.1.Den.Neg,r11.1.Den.Digits))))
theorem zg1 (F0:Frz)(w:World)(hF0:F0.At w)(num:Int)(den:Int)(fuel:Nat)(r:GRatio×Bool)(hr:zcp fuel num den=some r):Calls Tryz.prog 107 #[.int .i64 num, .int .i64 den] w fun e w'=>∃(y:Value×Value) (G:Frz),(SlC G y.1 1 (r.1.Num.Digits.map (eK .u8))∧SlC G y.2 1 (r.1.Den.Digits.map (eK .u8)))∧e= .returned (.tuple #[.agg [.bool r.1.Num.Neg,y.1, .bool r.1.Den.Neg,y.2].toArray, .bool r.2])∧Fx F0 w G w':=by
 have hk:=hr;unfold zcp at hk;obtain ⟨S0,F1,rfl,hS0,hp0⟩:=eH hF0;refine dT Tryz.func107 rfl rfl rfl hp0 ?_;refine ee ?_;refine fJ ?_;rintro _ _ ⟨g4,rfl,rfl⟩;refine gj ?_;have hq:=dC hk;clear hk;obtain ⟨r11,hr11,hk⟩:=hq; (try dsimp only at hk);refine eZ ?_;refine de (dr 1 rfl rfl rfl rfl (fun w hw hF=>zja _ w hF num den fuel r11 hr11)) ?_;rintro _ _ ⟨⟨v11_0_1,v11_0_3⟩,F2,le1_2,⟨hf11_0_1,hf11_0_3⟩,rfl,rfl⟩;dsimp only at hf11_0_1 hf11_0_3 ⊢;haveI:=hf11_0_1.oneC;haveI:=hf11_0_3.oneC;refine lP ?_;rintro _ _ ⟨g6,rfl,rfl⟩;refine ga ?_;refine kH ?_;refine T.cond rfl (fun h1=>?_) (fun h1=>?_)
 ·have p1:=of_decide_eq_true h1;replace hk:=dt hk h1;refine kJ ?_;refine kX ?_;refine iV ?_;obtain rfl:=Option.some.inj hk;exact gg 1 rfl rfl rfl rfl rfl (fun w' hw=>⟨((.slice none 0 0),(.slice none 0 0)),F2.toFrz,⟨(SlC.nil _ 1),(SlC.nil _ 1)⟩,rfl,dP hw (i:=2) rfl hS0 le1_2⟩)
 ·have p1:=of_decide_eq_false h1;replace hk:=dw hk h1;refine fV ?_;have hq:=dC hk;clear hk;obtain ⟨r21,hr21,hk⟩:=hq;have hq:=dC hk;clear hk;obtain ⟨r22,hr22,hk⟩:=hq; (try dsimp only at hk);have hq:=ek hk;clear hk;obtain ⟨k7,hk7,hk⟩:=hq; (try dsimp only at hk);refine dk (ι:=Bool×Bool×List Int×Value×Bool×List Int×Value×FzB w (fun _=>False) S0) (fun z=>[(4, .pointer (some ⟨g4,0,none⟩)),(5, .bool z.1)]) (fun z=>[.row g4 28 [.bool z.2.1,z.2.2.2.1, .bool z.2.2.2.2.1,z.2.2.2.2.2.2.1], .fr z.2.2.2.2.2.2.2]) (fun z=>k7 (z.1,z.2.1,z.2.2.1,z.2.2.2.2.1,z.2.2.2.2.2.1)=some r∧SlC z.2.2.2.2.2.2.2.toFrz z.2.2.2.1 1 (z.2.2.1.map (eK .u8))∧SlC z.2.2.2.2.2.2.2.toFrz z.2.2.2.2.2.2.1 1 (z.2.2.2.2.2.1.map (eK .u8))∧F2.toFrz.Le z.2.2.2.2.2.2.2.toFrz) ?_ ?_
  ·refine ef (sN 0 4 (.eff 4 (.eff 5 (sN 6 5 (.eff 11 (.eff 12 (sN 13 2 (.eff 15 (.still 16 .done))))))))) [.row g6 28 [.bool r11.1.Num.Neg,v11_0_1, .bool r11.1.Den.Neg,v11_0_3], .fr F2] a8 Sx ?_;refine q2m ?_;refine jD ?_;refine dc rfl (eW 0 (m:=[.bool r11.1.Num.Neg,v11_0_1])) ?_;refine q4k ?_;refine dl rfl (c9) rfl rfl (dr 2 rfl rfl rfl rfl (fun w hw hF=>zd2 _ w hF num fuel r21 hr21)) ?_;rintro _ _ ⟨v21_0_1,F4,le2_4,hf21_0_1,rfl,rfl⟩;haveI:=hf21_0_1.oneC;refine q3b ?_;refine d7 ?_;refine dl rfl (c9) rfl rfl (dj rfl rfl rfl (fun w hw=>zcv _ w (hw.fr (i:=2) rfl) r11.1.Num v11_0_1 (SlC.mono hf11_0_1 le2_4) r21 v21_0_1 hf21_0_1 fuel r22 hr22)) ?_;refine eA ?_;refine q3b ?_;refine gc ?_;refine fq rfl rfl rfl rfl (fun h8=>?_) (fun h8=>?_)
   ·have p8:=of_decide_eq_true h8;replace hk:=dt hk h8;refine jD ?_;refine dc rfl (eW 0 (m:=[.bool r11.1.Den.Neg,v11_0_3])) ?_;refine q4k ?_;have hq:=dC hk;clear hk;obtain ⟨r28,hr28,hk⟩:=hq;refine dl rfl (Wt.some) rfl rfl (dr 2 rfl rfl rfl rfl (fun w hw hF=>zd2 _ w hF den fuel r28 hr28)) ?_;rintro _ _ ⟨v28_0_1,F5,le4_5,hf28_0_1,rfl,rfl⟩;have le2_5:=le2_4.trans le4_5;haveI:=hf28_0_1.oneC;refine ⟨(fun w hw=>(hw.frLe (i:=2) rfl le2_5).sub Sx),?_⟩;refine d7 ?_;have hq:=dC hk;clear hk;obtain ⟨r29,hr29,hk⟩:=hq;refine dl rfl (Wt.some) rfl rfl (dj rfl rfl rfl (fun w hw=>zcv _ w (hw.fr (i:=2) rfl) r11.1.Den v11_0_3 (SlC.mono hf11_0_3 le2_5) r28 v28_0_1 hf28_0_1 fuel r29 hr29)) ?_;refine eA ?_;refine ⟨(fun w hw=>(hw.frLe (i:=2) rfl le2_5).sub Sx),?_⟩;refine gc ?_;refine q2u ?_;refine ⟨(fun w hw=>(hw.frLe (i:=2) rfl le2_5).sub Sx),?_⟩;refine jp ?_;refine q4g ?_;exact dg (decide (r29=0),r11.1.Num.Neg,r11.1.Num.Digits,v11_0_1,r11.1.Den.Neg,r11.1.Den.Digits,v11_0_3,F5) ⟨hk,(SlC.mono hf11_0_1 le2_5),(SlC.mono hf11_0_3 le2_5),le2_5⟩ (.c (.c .nil)) (List.Sublist.refl _)
   ·have p8:=of_decide_eq_false h8;replace hk:=dw hk h8;refine gO ?_;refine lJ ?_;refine lJ ?_;refine gc ?_;refine q2u ?_;refine q3b ?_;refine jp ?_;refine q4g ?_;exact dg (false,r11.1.Num.Neg,r11.1.Num.Digits,v11_0_1,r11.1.Den.Neg,r11.1.Den.Digits,v11_0_3,F4) ⟨hk,(SlC.mono hf11_0_1 le2_4),(SlC.mono hf11_0_3 le2_4),le2_4⟩ (.c (.c .nil)) (List.Sublist.refl _)
  ·rintro ⟨x_2,c_3,c_4,vc_4,c_5,c_6,vc_6,F3⟩ ⟨hk,hc_4,hc_6,le2_3⟩; (try dsimp only at *);rw [←hk7] at hk; (try dsimp only at hk);have le1_3:=le1_2.trans le2_3;haveI:=hc_4.oneC;haveI:=hc_6.oneC;refine T.ret ?_;obtain rfl:=Option.some.inj hk;exact gg 0 rfl rfl rfl rfl rfl (fun w' hw=>⟨(vc_4,vc_6),F3.toFrz,⟨hc_4,hc_6⟩,rfl,dP hw (i:=1) rfl hS0 le1_3⟩)
def za3 (b:GBidder)(xf0_:Int):Bool:=
 (decide (b.ID=xf0_))
theorem zdj (F0:Frz)(w:World)(hF0:F0.At w)(b:GBidder)(vb_3:Value)(hb_3:SlC F0 vb_3 1 (b.Blocks.map eI))(xf0_:Int)(gf0_:Nat)(hO:Hp w (dD [.row gf0_ 3 [.int .i64 xf0_]]) [.row gf0_ 3 [.int .i64 xf0_]] w)(hA:∀g,dD [.row gf0_ 3 [.int .i64 xf0_]] g→¬F0.S g):Calls Tryz.prog 119 #[.agg [.int .i64 b.ID, .int .i64 b.Eligibility, .int .i64 b.Waivers,vb_3].toArray, .pointer (some ⟨gf0_,0,none⟩)] w fun e w'=>∃(y:Unit),(True)∧e= .returned (.bool (za3 b xf0_))∧FxM F0 w (dD [.row gf0_ 3 [.int .i64 xf0_]]) F0 [.row gf0_ 3 [.int .i64 xf0_]] w':=by
 obtain ⟨r,hk⟩:∃r,za3 b xf0_=r:=⟨_,rfl⟩;rw [hk];unfold za3 at hk;haveI:=hb_3.oneC;obtain ⟨S0,F1,rfl,hS0,hp0⟩:=fN hF0 hO hA;refine dT (hs:=[.row gf0_ 3 [.int .i64 xf0_], .fr F1]) Tryz.func119 rfl rfl rfl hp0 ?_;refine gY ?_;rintro _ _ ⟨g2,rfl,rfl⟩;refine iw ?_;refine gh ?_;refine cY (dM 1) ?_;refine kW ?_;subst hk;exact q4O
def gC (s:List GBidder)(x1c0_:Int):Int:=
 dO (fun (_:Unit)=>
 (-1))
 (fun k1=>
 dN (fun (i_3:Nat) (next2:Unit→Int) (_:Unit)=>
 (bif (za3 (nth s i_3) x1c0_) then
 (i_3:Int)
 else
 next2 ()))
 (fun (_:Unit)=>
 k1 ()) (s.length - 0) 0 ())
theorem zbK (F0:Frz)(w:World)(hF0:F0.At w)(s:List GBidder)(vs:Value)(cs:List (List Value))(hs:SlD cZ F0 vs 4 cs s)(x1c0_:Int)(g1c0_:Nat)(hO:Hp w (dD [.row g1c0_ 3 [.int .i64 x1c0_]]) [.row g1c0_ 3 [.int .i64 x1c0_]] w)(hA:∀g,dD [.row g1c0_ 3 [.int .i64 x1c0_]] g→¬F0.S g):Calls Tryz.prog 118 #[vs, .func (.func 119) #[] #[.pointer (some ⟨g1c0_,0,none⟩)]] w fun e w'=>∃(y:Unit),(True)∧e= .returned (.int .i64 (gC s x1c0_))∧FxM F0 w (dD [.row g1c0_ 3 [.int .i64 x1c0_]]) F0 [.row g1c0_ 3 [.int .i64 x1c0_]] w':=by
 obtain ⟨r,hk⟩:∃r,gC s x1c0_=r:=⟨_,rfl⟩;rw [hk];unfold gC at hk;haveI:=hs.1.oneC;obtain ⟨S0,F1,rfl,hS0,hp0⟩:=fN hF0 hO hA;refine dT (hs:=[.row g1c0_ 3 [.int .i64 x1c0_], .fr F1]) Tryz.func118 rfl rfl rfl hp0 ?_;refine jy ?_;refine cY (dE rfl rfl hs.1 hs.2.1) ?_;have hm7:s.length≤9223372036854775807:=hs.2.1▸hs.1.max;refine ez ?_;have hq:=ek hk;clear hk;obtain ⟨k1,hk1,hk⟩:=hq; (try dsimp only at hk);refine dk (ι:=Unit) (fun z=>[]) (fun z=>[.row g1c0_ 3 [.int .i64 x1c0_], .fr F1]) (fun z=>k1 ()=r) ?_ ?_
 ·have hq:=fX hk;clear hk;obtain ⟨f2,kk2,hf2,hkk2,hk⟩:=hq;refine ff ?_;refine T.loop (ι:=Nat) (fun z=>[(0,vs),(1, .func (.func 119) #[] #[.pointer (some ⟨g1c0_,0,none⟩)]),(7, .int .i64 (s.length:Int)),(8, .int .i64 (z:Int))]) (fun z=>[.row g1c0_ 3 [.int .i64 x1c0_], .fr F1]) (fun z=>dN f2 kk2 (s.length - z) z ()=r) (fun z=>s.length - z) 0 ?_ ?_ ?_ ?_
  ·exact hk
  ·exact jB
  ·exact fa
  ·rintro i_3 hk;refine ft ?_;refine T.cond rfl (fun h4=>?_) (fun h4=>?_)
   ·have p4:=of_decide_eq_true h4;rw [fW a6] at hk;generalize hn2:dN f2 kk2 (s.length - (i_3+1)) (i_3+1)=next2 at hk;rw [←hf2] at hk; (try dsimp only at hk);refine q2W ?_;have hd15_3:=(fB (hs.2.2 i_3 a6)).2;haveI:=hd15_3.oneC;refine de (dG [0,1] [.row g1c0_ 3 [.int .i64 x1c0_]] [] rfl rfl rfl rfl a7 (fun w hw hw2 hF=>zdj _ w hF (nth s i_3) (nth (nth cs i_3) 3) hd15_3 x1c0_ g1c0_ hw2.takes.1 hw2.takes.2)) ?_;rintro _ _ ⟨⟨⟩, -,rfl,rfl⟩;refine ms ?_;refine T.cond rfl (fun h5=>?_) (fun h5=>?_)
    ·replace hk:=dt hk h5;refine gS ?_;refine kE ?_;subst hk;exact lY
    ·replace hk:=dw hk h5;refine mm ?_;rw [←hn2] at hk;exact q4H
   ·have p4:=of_decide_eq_false h4;rw [fY a6,←hkk2] at hk; (try dsimp only at hk);refine fi ?_;exact lz
 ·rintro _ hk;rw [←hk1] at hk; (try dsimp only at hk);refine kK ?_;subst hk;exact lY
def zbb (x0_:GAuction)(id:Int):Option (GBidder×Int):=
 (bif (mI x0_) then
 some ((GBidder.mk 0 0 0 []),1)
 else
 (bif decide ((gC x0_.bidders id)<0) then
 some ((GBidder.mk 0 0 0 []),9)
 else
 dB (0≤wI ((gC x0_.bidders id)+1)∧wI ((gC x0_.bidders id)+1)≤(x0_.bidders.length:Int)) <|
 dB (0≤(gC x0_.bidders id)∧(gC x0_.bidders id)≤(wI ((gC x0_.bidders id)+1):Int)) <|
 dB (mH ((x0_.bidders.take ((wI ((gC x0_.bidders id)+1)).toNat)).drop ((gC x0_.bidders id).toNat))) <|
 dB (0≤0∧0<(((x0_.bidders.take ((wI ((gC x0_.bidders id)+1)).toNat)).drop ((gC x0_.bidders id).toNat)).length:Int)) <|
 some ((nth ((x0_.bidders.take ((wI ((gC x0_.bidders id)+1)).toNat)).drop ((gC x0_.bidders id).toNat)) 0),0)))
theorem zcl (F0:Frz)(w:World)(hF0:F0.At w)(x0_:GAuction)(g0_:Nat)(v0_0:Value)(h0_0:SlC F0 v0_0 5 (x0_.catalogue.map dh))(v0_1:Value)(c0_1:List (List Value))(h0_1:SlD cZ F0 v0_1 4 c0_1 x0_.bidders)(v0_4:Value)(h0_4:SlC F0 v0_4 1 (x0_.key.map (eK .u8)))(v0_6:Value)(h0_6:SlC F0 v0_6 1 (x0_.prices.map eI))(id:Int)(hO:Hp w (dD [.row g0_ 104 [v0_0,v0_1, .int .i64 x0_.increment.Activity, .int .i64 x0_.increment.Step,v0_4, .int .i64 x0_.rounds,v0_6]]) [.row g0_ 104 [v0_0,v0_1, .int .i64 x0_.increment.Activity, .int .i64 x0_.increment.Step,v0_4, .int .i64 x0_.rounds,v0_6]] w)(hA:∀g,dD [.row g0_ 104 [v0_0,v0_1, .int .i64 x0_.increment.Activity, .int .i64 x0_.increment.Step,v0_4, .int .i64 x0_.rounds,v0_6]] g→¬F0.S g)(r:GBidder×Int)(hr:zbb x0_ id=some r):Calls Tryz.prog 41 #[.pointer (some ⟨g0_,0,none⟩), .int .i64 id] w fun e w'=>∃(y:Value) (G:Frz),(SlC G y 1 (r.1.Blocks.map eI))∧e= .returned (.tuple #[.agg [.int .i64 r.1.ID, .int .i64 r.1.Eligibility, .int .i64 r.1.Waivers,y].toArray, .int .i64 r.2])∧FxM F0 w (dD [.row g0_ 104 [v0_0,v0_1, .int .i64 x0_.increment.Activity, .int .i64 x0_.increment.Step,v0_4, .int .i64 x0_.rounds,v0_6]]) G [.row g0_ 104 [v0_0,v0_1, .int .i64 x0_.increment.Activity, .int .i64 x0_.increment.Step,v0_4, .int .i64 x0_.rounds,v0_6]] w':=by
 have hk:=hr;unfold zbb at hk;haveI:=h0_0.oneC;haveI:=h0_1.1.oneC;haveI:=h0_4.oneC;haveI:=h0_6.oneC;obtain ⟨S0,F1,rfl,hS0,hp0⟩:=fN hF0 hO hA;refine dT (hs:=[.row g0_ 104 [v0_0,v0_1, .int .i64 x0_.increment.Activity, .int .i64 x0_.increment.Step,v0_4, .int .i64 x0_.rounds,v0_6], .fr F1]) Tryz.func41 rfl rfl rfl hp0 ?_;refine q31 ?_;rintro _ _ ⟨g3,rfl,rfl⟩;refine fJ ?_;rintro _ _ ⟨g4,rfl,rfl⟩;refine jb ?_;refine de (dG [2,3,0,1] [.row g0_ 104 [v0_0,v0_1, .int .i64 x0_.increment.Activity, .int .i64 x0_.increment.Step,v0_4, .int .i64 x0_.rounds,v0_6]] [.row g4 57 [.int .i64 0, .int .i64 0, .int .i64 0,(.slice none 0 0)], .row g3 3 [.int .i64 id]] rfl rfl rfl rfl a7 (fun w hw hw2 hF=>zaA _ w hF x0_ g0_ v0_0 h0_0 v0_1 c0_1 h0_1 v0_4 h0_4 v0_6 h0_6 hw2.takes.1 hw2.takes.2)) ?_;rintro _ _ ⟨⟨⟩, -,rfl,rfl⟩;refine ms ?_;refine T.cond rfl (fun h1=>?_) (fun h1=>?_)
 ·replace hk:=dt hk h1;refine kJ ?_;refine q3O ?_;refine iV ?_;obtain rfl:=Option.some.inj hk;exact gg 2 rfl rfl rfl rfl rfl (fun w' hw=>⟨(.slice none 0 0),F1.toFrz,(SlC.nil _ 1),rfl,dz (hw.pick (idx:=[0,1]) rfl a7) hS0 (Frz.Le.refl _)⟩)
 ·replace hk:=dw hk h1;refine iz ?_;refine ep ?_;refine kg ?_;refine de (dG [3,1,0,2] [.row g3 3 [.int .i64 id]] [.row g0_ 104 [v0_0,v0_1, .int .i64 x0_.increment.Activity, .int .i64 x0_.increment.Step,v0_4, .int .i64 x0_.rounds,v0_6], .row g4 57 [.int .i64 0, .int .i64 0, .int .i64 0,(.slice none 0 0)]] rfl rfl rfl rfl a7 (fun w hw hw2 hF=>zbK _ w hF x0_.bidders v0_1 c0_1 h0_1 id g3 hw2.takes.1 hw2.takes.2)) ?_;rintro _ _ ⟨⟨⟩, -,rfl,rfl⟩;refine fe ?_;refine kH ?_;refine T.cond rfl (fun h2=>?_) (fun h2=>?_)
  ·have p2:=of_decide_eq_true h2;replace hk:=dt hk h2;refine kJ ?_;refine q3Q ?_;refine iV ?_;obtain rfl:=Option.some.inj hk;exact gg 3 rfl rfl rfl rfl rfl (fun w' hw=>⟨(.slice none 0 0),F1.toFrz,(SlC.nil _ 1),rfl,dz (hw.pick (idx:=[2,1]) rfl a7) hS0 (Frz.Le.refl _)⟩)
  ·have p2:=of_decide_eq_false h2;replace hk:=dw hk h2;refine fV ?_;have hq:(0≤wI ((gC x0_.bidders id)+1)∧wI ((gC x0_.bidders id)+1)≤(x0_.bidders.length:Int))∧_:=dJ hk;clear hk;obtain ⟨g26h,hk⟩:=hq;have hq:(0≤(gC x0_.bidders id)∧(gC x0_.bidders id)≤(wI ((gC x0_.bidders id)+1):Int))∧_:=dJ hk;clear hk;obtain ⟨g26l,hk⟩:=hq;have hq:(mH ((x0_.bidders.take ((wI ((gC x0_.bidders id)+1)).toNat)).drop ((gC x0_.bidders id).toNat)))∧_:=dJ hk;clear hk;obtain ⟨g27,hk⟩:=hq;have hq:(0≤0∧0<(((x0_.bidders.take ((wI ((gC x0_.bidders id)+1)).toNat)).drop ((gC x0_.bidders id).toNat)).length:Int))∧_:=dJ hk;clear hk;obtain ⟨g28,hk⟩:=hq; (try dsimp only at hk);refine eZ ?_;refine fK ?_;refine lu ?_;refine ep ?_;refine cY (dq (v:= .int .i64 (wI ((gC x0_.bidders id)+1)))) ?_;refine cY (Yv.cG (l:=(gC x0_.bidders id).toNat) (i:=(wI ((gC x0_.bidders id)+1)).toNat) rfl rfl rfl rfl h0_1.1 h0_1.2.1 a6 a6 a6 a6) ?_;have hs26_:SlD cZ F1.toFrz (gz v0_1 ((gC x0_.bidders id).toNat) ((wI ((gC x0_.bidders id)+1)).toNat) 4) 4 ((c0_1.take ((wI ((gC x0_.bidders id)+1)).toNat)).drop ((gC x0_.bidders id).toNat)) ((x0_.bidders.take ((wI ((gC x0_.bidders id)+1)).toNat)).drop ((gC x0_.bidders id).toNat)):=h0_1.slicelh (l:=(gC x0_.bidders id).toNat) (i:=(wI ((gC x0_.bidders id)+1)).toNat) a6 a6;haveI:=hs26_.1.oneC;refine de (dr 1 rfl rfl rfl rfl (fun w hw hF=>ziV _ w hF ((x0_.bidders.take ((wI ((gC x0_.bidders id)+1)).toNat)).drop ((gC x0_.bidders id).toNat)) (gz v0_1 ((gC x0_.bidders id).toNat) ((wI ((gC x0_.bidders id)+1)).toNat) 4) ((c0_1.take ((wI ((gC x0_.bidders id)+1)).toNat)).drop ((gC x0_.bidders id).toNat)) hs26_ g27)) ?_;rintro _ _ ⟨⟨v27_,c27_⟩,F2,le1_2,hf27,hq,rfl⟩;obtain rfl:=hq.symm;dsimp only at hf27 ⊢;haveI:=hf27.1.oneC;refine cY (dA (i:=0) rfl rfl rfl hf27.1 hf27.2.1 (show (0:Int)=((0:Nat):Int) from rfl) a6) ?_;refine cY (fG 1 (i:=0) (j:=0) rfl rfl rfl hf27.1 hf27.2.1 a6 rfl (fF (hf27.2.2 0 a6))) ?_;have hd29_3:=(fB (hf27.2.2 0 a6)).2;haveI:=hd29_3.oneC;refine q3Q ?_;refine gW ?_;obtain rfl:=Option.some.inj hk;exact gg 3 rfl rfl rfl rfl rfl (fun w' hw=>⟨(nth (nth c27_ 0) 3),F2.toFrz,hd29_3,rfl,dz (hw.pick (idx:=[2,1]) rfl a7) hS0 le1_2⟩)
def zbv (x0_:GAuction):Option Int:=
 (bif (mI x0_) then
 some 0
 else
 (zaN x0_).bind fun r9=>
 dO (fun (sum_2:Int)=>
 some sum_2)
 (fun k3=>
 dN (fun (i_6:Nat) (next5:Int→Option Int) (sum_4:Int)=>
 dB (0≤(i_6:Int)∧(i_6:Int)<(x0_.prices.length:Int)) <|
 next5 (wI (sum_4+(wI ((nth r9 i_6) * (nth x0_.prices i_6))))))
 (fun (sum_4:Int)=>
 k3 sum_4) (r9.length - 0) 0 0))
theorem zdm (F0:Frz)(w:World)(hF0:F0.At w)(x0_:GAuction)(g0_:Nat)(v0_0:Value)(h0_0:SlC F0 v0_0 5 (x0_.catalogue.map dh))(v0_1:Value)(c0_1:List (List Value))(h0_1:SlD cZ F0 v0_1 4 c0_1 x0_.bidders)(v0_4:Value)(h0_4:SlC F0 v0_4 1 (x0_.key.map (eK .u8)))(v0_6:Value)(h0_6:SlC F0 v0_6 1 (x0_.prices.map eI))(hO:Hp w (dD [.row g0_ 104 [v0_0,v0_1, .int .i64 x0_.increment.Activity, .int .i64 x0_.increment.Step,v0_4, .int .i64 x0_.rounds,v0_6]]) [.row g0_ 104 [v0_0,v0_1, .int .i64 x0_.increment.Activity, .int .i64 x0_.increment.Step,v0_4, .int .i64 x0_.rounds,v0_6]] w)(hA:∀g,dD [.row g0_ 104 [v0_0,v0_1, .int .i64 x0_.increment.Activity, .int .i64 x0_.increment.Step,v0_4, .int .i64 x0_.rounds,v0_6]] g→¬F0.S g)(r:Int)(hr:zbv x0_=some r):Calls Tryz.prog 43 #[.pointer (some ⟨g0_,0,none⟩)] w fun e w'=>∃(y:Unit),(True)∧e= .returned (.int .i64 r)∧FxM F0 w (dD [.row g0_ 104 [v0_0,v0_1, .int .i64 x0_.increment.Activity, .int .i64 x0_.increment.Step,v0_4, .int .i64 x0_.rounds,v0_6]]) F0 [.row g0_ 104 [v0_0,v0_1, .int .i64 x0_.increment.Activity, .int .i64 x0_.increment.Step,v0_4, .int .i64 x0_.rounds,v0_6]] w':=by
 have hk:=hr;unfold zbv at hk;haveI:=h0_0.oneC;haveI:=h0_1.1.oneC;haveI:=h0_4.oneC;haveI:=h0_6.oneC;obtain ⟨S0,F1,rfl,hS0,hp0⟩:=fN hF0 hO hA;refine dT (hs:=[.row g0_ 104 [v0_0,v0_1, .int .i64 x0_.increment.Activity, .int .i64 x0_.increment.Step,v0_4, .int .i64 x0_.rounds,v0_6], .fr F1]) Tryz.func43 rfl rfl rfl hp0 ?_;refine jy ?_;refine q0w ?_;rintro _ _ ⟨⟨⟩, -,rfl,rfl⟩;refine ms ?_;refine T.cond rfl (fun h1=>?_) (fun h1=>?_)
 ·replace hk:=dt hk h1;refine iu ?_;obtain rfl:=Option.some.inj hk;exact lY
 ·replace hk:=dw hk h1;refine iz ?_;refine jr ?_;have hq:=dC hk;clear hk;obtain ⟨r9,hr9,hk⟩:=hq; (try dsimp only at hk);refine q2b ?_;rintro v9_0_0 _ ⟨_, -,rfl,rfl⟩;refine lg ?_;intro iv9_0_0 hmv9_0_0;refine cY (gM 1 rfl rfl rfl) ?_;refine ez ?_;have hq:=ek hk;clear hk;obtain ⟨k3,hk3,hk⟩:=hq; (try dsimp only at hk);refine dk (ι:=Int) (fun z=>[(3, .int .i64 z)]) (fun z=>[.row g0_ 104 [v0_0,v0_1, .int .i64 x0_.increment.Activity, .int .i64 x0_.increment.Step,v0_4, .int .i64 x0_.rounds,v0_6], .fr F1]) (fun z=>k3 z=some r) ?_ ?_
  ·have hq:=fX hk;clear hk;obtain ⟨f5,kk5,hf5,hkk5,hk⟩:=hq;refine ff ?_;refine T.loop (ι:=Nat×Int) (fun z=>[(0, .pointer (some ⟨g0_,0,none⟩)),(3, .int .i64 z.2),(9,v9_0_0),(10, .int .i64 (r9.length:Int)),(11, .int .i64 (z.1:Int))]) (fun z=>[.row g0_ 104 [v0_0,v0_1, .int .i64 x0_.increment.Activity, .int .i64 x0_.increment.Step,v0_4, .int .i64 x0_.rounds,v0_6], .sl v9_0_0 3 1 r9.length (r9.flatMap eI), .fr F1]) (fun z=>dN f5 kk5 (r9.length - z.1) z.1 z.2=some r) (fun z=>r9.length - z.1) (0,0) ?_ ?_ ?_ ?_
   ·exact hk
   ·exact jW
   ·exact fa
   ·rintro ⟨i_6,sum_4⟩ hk; (try dsimp only at *);refine ft ?_;refine T.cond rfl (fun h7=>?_) (fun h7=>?_)
    ·have p7:=of_decide_eq_true h7;rw [fW a6] at hk;generalize hn5:dN f5 kk5 (r9.length - (i_6+1)) (i_6+1)=next5 at hk;rw [←hf5] at hk; (try dsimp only at hk);refine q25 ?_;have hq:(0≤(i_6:Int)∧(i_6:Int)<(x0_.prices.length:Int))∧_:=dJ hk;clear hk;obtain ⟨g23,hk⟩:=hq; (try dsimp only at hk);refine lC ?_;refine kg ?_;refine cY (dA (i:=i_6) rfl rfl rfl h0_6 (List.length_map _) rfl a6) ?_;refine cY (dR 2 (i:=i_6) (j:=0) rfl rfl rfl h0_6 a6) ?_;refine cY (dq (v:= .int .i64 (wI ((nth r9 i_6) * (nth x0_.prices i_6))))) ?_;refine cY (dq (v:= .int .i64 (wI (sum_4+(wI ((nth r9 i_6) * (nth x0_.prices i_6))))))) ?_;refine dH ?_;refine jw ?_;rw [←hn5] at hk;exact K.next ((i_6+1),wI (sum_4+(wI ((nth r9 i_6) * (nth x0_.prices i_6))))) hk a9 (.c (.c (.c (.c (.c .nil))))) (List.Sublist.refl _)
    ·have p7:=of_decide_eq_false h7;rw [fY a6,←hkk5] at hk; (try dsimp only at hk);refine fi ?_;refine K.pick [0,2] rfl a7 ?_;exact dg sum_4 hk (.c .nil) (List.Sublist.refl _)
  ·rintro sum_2 hk;rw [←hk3] at hk; (try dsimp only at hk);refine lW ?_;obtain rfl:=Option.some.inj hk;exact lY
def zbM (x0_:GAuction):Option Int:=
 (bif (mI x0_) then
 some 0
 else
 (zaN x0_).bind fun r9=>
 dO (fun (sum_2:Int)=>
 some sum_2)
 (fun k3=>
 dN (fun (i_6:Nat) (next5:Int→Option Int) (sum_4:Int)=>
 dB (0≤(i_6:Int)∧(i_6:Int)<(x0_.catalogue.length:Int)) <|
 next5 (wI (sum_4+(wI ((nth r9 i_6) * ((nth x0_.catalogue i_6).Units))))))
 (fun (sum_4:Int)=>
 k3 sum_4) (r9.length - 0) 0 0))
theorem zdI (F0:Frz)(w:World)(hF0:F0.At w)(x0_:GAuction)(g0_:Nat)(v0_0:Value)(h0_0:SlC F0 v0_0 5 (x0_.catalogue.map dh))(v0_1:Value)(c0_1:List (List Value))(h0_1:SlD cZ F0 v0_1 4 c0_1 x0_.bidders)(v0_4:Value)(h0_4:SlC F0 v0_4 1 (x0_.key.map (eK .u8)))(v0_6:Value)(h0_6:SlC F0 v0_6 1 (x0_.prices.map eI))(hO:Hp w (dD [.row g0_ 104 [v0_0,v0_1, .int .i64 x0_.increment.Activity, .int .i64 x0_.increment.Step,v0_4, .int .i64 x0_.rounds,v0_6]]) [.row g0_ 104 [v0_0,v0_1, .int .i64 x0_.increment.Activity, .int .i64 x0_.increment.Step,v0_4, .int .i64 x0_.rounds,v0_6]] w)(hA:∀g,dD [.row g0_ 104 [v0_0,v0_1, .int .i64 x0_.increment.Activity, .int .i64 x0_.increment.Step,v0_4, .int .i64 x0_.rounds,v0_6]] g→¬F0.S g)(r:Int)(hr:zbM x0_=some r):Calls Tryz.prog 44 #[.pointer (some ⟨g0_,0,none⟩)] w fun e w'=>∃(y:Unit),(True)∧e= .returned (.int .i64 r)∧FxM F0 w (dD [.row g0_ 104 [v0_0,v0_1, .int .i64 x0_.increment.Activity, .int .i64 x0_.increment.Step,v0_4, .int .i64 x0_.rounds,v0_6]]) F0 [.row g0_ 104 [v0_0,v0_1, .int .i64 x0_.increment.Activity, .int .i64 x0_.increment.Step,v0_4, .int .i64 x0_.rounds,v0_6]] w':=by
 have hk:=hr;unfold zbM at hk;haveI:=h0_0.oneC;haveI:=h0_1.1.oneC;haveI:=h0_4.oneC;haveI:=h0_6.oneC;obtain ⟨S0,F1,rfl,hS0,hp0⟩:=fN hF0 hO hA;refine dT (hs:=[.row g0_ 104 [v0_0,v0_1, .int .i64 x0_.increment.Activity, .int .i64 x0_.increment.Step,v0_4, .int .i64 x0_.rounds,v0_6], .fr F1]) Tryz.func44 rfl rfl rfl hp0 ?_;refine jy ?_;refine q0w ?_;rintro _ _ ⟨⟨⟩, -,rfl,rfl⟩;refine ms ?_;refine T.cond rfl (fun h1=>?_) (fun h1=>?_)
 ·replace hk:=dt hk h1;refine iu ?_;obtain rfl:=Option.some.inj hk;exact lY
 ·replace hk:=dw hk h1;refine iz ?_;refine jr ?_;have hq:=dC hk;clear hk;obtain ⟨r9,hr9,hk⟩:=hq; (try dsimp only at hk);refine q2b ?_;rintro v9_0_0 _ ⟨_, -,rfl,rfl⟩;refine lg ?_;intro iv9_0_0 hmv9_0_0;refine cY (gM 1 rfl rfl rfl) ?_;refine ez ?_;have hq:=ek hk;clear hk;obtain ⟨k3,hk3,hk⟩:=hq; (try dsimp only at hk);refine dk (ι:=Int) (fun z=>[(3, .int .i64 z)]) (fun z=>[.row g0_ 104 [v0_0,v0_1, .int .i64 x0_.increment.Activity, .int .i64 x0_.increment.Step,v0_4, .int .i64 x0_.rounds,v0_6], .fr F1]) (fun z=>k3 z=some r) ?_ ?_
  ·have hq:=fX hk;clear hk;obtain ⟨f5,kk5,hf5,hkk5,hk⟩:=hq;refine ff ?_;refine T.loop (ι:=Nat×Int) (fun z=>[(0, .pointer (some ⟨g0_,0,none⟩)),(3, .int .i64 z.2),(9,v9_0_0),(10, .int .i64 (r9.length:Int)),(11, .int .i64 (z.1:Int))]) (fun z=>[.row g0_ 104 [v0_0,v0_1, .int .i64 x0_.increment.Activity, .int .i64 x0_.increment.Step,v0_4, .int .i64 x0_.rounds,v0_6], .sl v9_0_0 3 1 r9.length (r9.flatMap eI), .fr F1]) (fun z=>dN f5 kk5 (r9.length - z.1) z.1 z.2=some r) (fun z=>r9.length - z.1) (0,0) ?_ ?_ ?_ ?_
   ·exact hk
   ·exact jW
   ·exact fa
   ·rintro ⟨i_6,sum_4⟩ hk; (try dsimp only at *);refine ft ?_;refine T.cond rfl (fun h7=>?_) (fun h7=>?_)
    ·have p7:=of_decide_eq_true h7;rw [fW a6] at hk;generalize hn5:dN f5 kk5 (r9.length - (i_6+1)) (i_6+1)=next5 at hk;rw [←hf5] at hk; (try dsimp only at hk);refine q25 ?_;have hq:(0≤(i_6:Int)∧(i_6:Int)<(x0_.catalogue.length:Int))∧_:=dJ hk;clear hk;obtain ⟨g23,hk⟩:=hq; (try dsimp only at hk);refine lC ?_;refine kg ?_;refine cY (dA (i:=i_6) rfl rfl rfl h0_0 (List.length_map _) rfl a6) ?_;refine cY (gD rfl rfl h0_0 (List.length_map _) a6) ?_;refine cY (dR 2 (i:=i_6) (j:=3) rfl rfl rfl h0_0 a6) ?_;refine cY (dq (v:= .int .i64 (wI ((nth r9 i_6) * ((nth x0_.catalogue i_6).Units))))) ?_;refine cY (dq (v:= .int .i64 (wI (sum_4+(wI ((nth r9 i_6) * ((nth x0_.catalogue i_6).Units))))))) ?_;refine dH ?_;refine jw ?_;rw [←hn5] at hk;exact K.next ((i_6+1),wI (sum_4+(wI ((nth r9 i_6) * ((nth x0_.catalogue i_6).Units))))) hk a9 (.c (.c (.c (.c (.c .nil))))) (List.Sublist.refl _)
    ·have p7:=of_decide_eq_false h7;rw [fY a6,←hkk5] at hk; (try dsimp only at hk);refine fi ?_;refine K.pick [0,2] rfl a7 ?_;exact dg sum_4 hk (.c .nil) (List.Sublist.refl _)
  ·rintro sum_2 hk;rw [←hk3] at hk; (try dsimp only at hk);refine lW ?_;obtain rfl:=Option.some.inj hk;exact lY
def zaK (x0_:GReader):Int:=
 (bif !(za7 x0_) then
 1
 else
 x0_.fault.first)
theorem zeu (F0:Frz)(w:World)(hF0:F0.At w)(x0_:GReader)(g0_:Nat)(v0_2:Value)(hO:Hp w (dD [.row g0_ 232 [.int .i64 x0_.fault.first, .bool x0_.made,v0_2, .int .i64 x0_.at_], .sl v0_2 5 1 x0_.in_.length (x0_.in_.flatMap (eK .u8))]) [.row g0_ 232 [.int .i64 x0_.fault.first, .bool x0_.made,v0_2, .int .i64 x0_.at_], .sl v0_2 5 1 x0_.in_.length (x0_.in_.flatMap (eK .u8))] w)(hA:∀g,dD [.row g0_ 232 [.int .i64 x0_.fault.first, .bool x0_.made,v0_2, .int .i64 x0_.at_], .sl v0_2 5 1 x0_.in_.length (x0_.in_.flatMap (eK .u8))] g→¬F0.S g):Calls Tryz.prog 104 #[.pointer (some ⟨g0_,0,none⟩)] w fun e w'=>∃(y:Unit),(True)∧e= .returned (.int .i64 (zaK x0_))∧FxM F0 w (dD [.row g0_ 232 [.int .i64 x0_.fault.first, .bool x0_.made,v0_2, .int .i64 x0_.at_], .sl v0_2 5 1 x0_.in_.length (x0_.in_.flatMap (eK .u8))]) F0 [.row g0_ 232 [.int .i64 x0_.fault.first, .bool x0_.made,v0_2, .int .i64 x0_.at_], .sl v0_2 5 1 x0_.in_.length (x0_.in_.flatMap (eK .u8))] w':=by
 obtain ⟨r,hk⟩:∃r,zaK x0_=r:=⟨_,rfl⟩;rw [hk];unfold zaK at hk;haveI:=gV (hO.own (.sl v0_2 5 1 x0_.in_.length (x0_.in_.flatMap (eK .u8))) b3);have hmx0_2:=ij (hO.own (.sl v0_2 5 1 x0_.in_.length (x0_.in_.flatMap (eK .u8))) b3);obtain ⟨S0,F1,rfl,hS0,hp0⟩:=fN hF0 hO hA;refine dT (hs:=[.row g0_ 232 [.int .i64 x0_.fault.first, .bool x0_.made,v0_2, .int .i64 x0_.at_], .sl v0_2 5 1 x0_.in_.length (x0_.in_.flatMap (eK .u8)), .fr F1]) Tryz.func104 rfl rfl rfl hp0 ?_;refine q2o ?_;rintro _ _ ⟨⟨⟩, -,rfl,rfl⟩;refine fe ?_;refine ez ?_;refine T.cond rfl (fun h1=>?_) (fun h1=>?_)
 ·replace hk:=dt hk h1;refine iu ?_;subst hk;exact q4E
 ·replace hk:=dw hk h1;refine iz ?_;refine ep ?_;refine fK ?_;refine gh ?_;refine gW ?_;subst hk;exact q4E
def mN (x0_:GReader):Int:=
 (bif !(za7 x0_) then
 1
 else
 (bif ((decide (x0_.fault.first=0))&&(decide (x0_.at_<(x0_.in_.length:Int)))) then
 5
 else
 x0_.fault.first))
theorem zet (F0:Frz)(w:World)(hF0:F0.At w)(x0_:GReader)(g0_:Nat)(v0_2:Value)(hO:Hp w (dD [.row g0_ 232 [.int .i64 x0_.fault.first, .bool x0_.made,v0_2, .int .i64 x0_.at_], .sl v0_2 5 1 x0_.in_.length (x0_.in_.flatMap (eK .u8))]) [.row g0_ 232 [.int .i64 x0_.fault.first, .bool x0_.made,v0_2, .int .i64 x0_.at_], .sl v0_2 5 1 x0_.in_.length (x0_.in_.flatMap (eK .u8))] w)(hA:∀g,dD [.row g0_ 232 [.int .i64 x0_.fault.first, .bool x0_.made,v0_2, .int .i64 x0_.at_], .sl v0_2 5 1 x0_.in_.length (x0_.in_.flatMap (eK .u8))] g→¬F0.S g):Calls Tryz.prog 108 #[.pointer (some ⟨g0_,0,none⟩)] w fun e w'=>∃(y:Unit),(True)∧e= .returned (.int .i64 (mN x0_))∧FxM F0 w (dD [.row g0_ 232 [.int .i64 x0_.fault.first, .bool x0_.made,v0_2, .int .i64 x0_.at_], .sl v0_2 5 1 x0_.in_.length (x0_.in_.flatMap (eK .u8))]) F0 [.row g0_ 232 [.int .i64 x0_.fault.first, .bool x0_.made,v0_2, .int .i64 x0_.at_], .sl v0_2 5 1 x0_.in_.length (x0_.in_.flatMap (eK .u8))] w':=by
 obtain ⟨r,hk⟩:∃r,mN x0_=r:=⟨_,rfl⟩;rw [hk];unfold mN at hk;haveI:=gV (hO.own (.sl v0_2 5 1 x0_.in_.length (x0_.in_.flatMap (eK .u8))) b3);have hmx0_2:=ij (hO.own (.sl v0_2 5 1 x0_.in_.length (x0_.in_.flatMap (eK .u8))) b3);obtain ⟨S0,F1,rfl,hS0,hp0⟩:=fN hF0 hO hA;refine dT (hs:=[.row g0_ 232 [.int .i64 x0_.fault.first, .bool x0_.made,v0_2, .int .i64 x0_.at_], .sl v0_2 5 1 x0_.in_.length (x0_.in_.flatMap (eK .u8)), .fr F1]) Tryz.func108 rfl rfl rfl hp0 ?_;refine q2o ?_;rintro _ _ ⟨⟨⟩, -,rfl,rfl⟩;refine fe ?_;refine ez ?_;refine T.cond rfl (fun h1=>?_) (fun h1=>?_)
 ·replace hk:=dt hk h1;refine iu ?_;subst hk;exact q4E
 ·replace hk:=dw hk h1;refine q2y ?_;refine dk (ι:=Unit) (fun z=>[(0, .pointer (some ⟨g0_,0,none⟩)),(23, .bool ((decide (x0_.fault.first=0))&&(decide (x0_.at_<(x0_.in_.length:Int)))))]) (fun z=>[.row g0_ 232 [.int .i64 x0_.fault.first, .bool x0_.made,v0_2, .int .i64 x0_.at_], .sl v0_2 5 1 x0_.in_.length (x0_.in_.flatMap (eK .u8)), .fr F1]) (fun z=>True) ?_ ?_
  ·refine ef (sN 0 17 (.still 17 .done)) _ a8 (List.Sublist.refl _) ?_;refine lR ?_;refine ip ?_;refine gc ?_;refine fq rfl rfl rfl rfl (fun h2=>?_) (fun h2=>?_)
   ·have p2:=of_decide_eq_true h2;refine kR ?_;refine kR ?_;refine dc rfl (gM 1 rfl rfl rfl) ?_;refine kq ?_;exact dg () trivial (.c (.b (iX h2) .nil)) (List.Sublist.refl _)
   ·have p2:=of_decide_eq_false h2;refine TS.run 11 rfl ?_;refine TS.done ?_;exact dg () trivial (.c (.b (gQ h2).symm .nil)) (List.Sublist.refl _)
  ·rintro _ _;refine T.cond rfl (fun h3=>?_) (fun h3=>?_)
   ·have p3:=h3; (try simp only [iy] at p3);replace hk:=dt hk h3;refine iu ?_;subst hk;exact q4E
   ·replace hk:=dw hk h3;refine iz ?_;refine ep ?_;refine fK ?_;refine gh ?_;refine gW ?_;subst hk;exact q4E
def zec (b:List Int):Option (Option GReader):=
 dB (dK ([]++b).length 1) <|
 some (some (GReader.mk (Gfault.mk 0) true ([]++b) 0))
theorem zgY (F0:Frz)(w:World)(hF0:F0.At w)(b:List Int)(vb:Value)(hb:SlC F0 vb 1 (b.map (eK .u8)))(r:Option GReader)(hr:zec b=some r):Calls Tryz.prog 102 #[vb] w fun e w'=>((r).isSome=true→∃(y:Nat×Value) (G:Frz),(True)∧e= .returned (.pointer (some ⟨y.1,0,none⟩))∧FxM F0 w (dD []) G [.row y.1 232 [.int .i64 ((r.getD default).fault.first), .bool ((r.getD default).made),y.2, .int .i64 ((r.getD default).at_)], .sl y.2 5 1 ((r.getD default).in_).length (((r.getD default).in_).flatMap (eK .u8))] w')∧((r).isSome=false→∃(y:Unit) (G:Frz),(True)∧e= .returned (.pointer none)∧FxM F0 w (dD []) G [] w'):=by
 have hk:=hr;unfold zec at hk;haveI:=hb.oneC;obtain ⟨S0,F1,rfl,hS0,hp0⟩:=eH hF0;rw [zg8];refine dT Tryz.func102 rfl rfl rfl hp0 ?_;refine ft ?_;have hq:(dK ([]++b).length 1)∧_:=dJ hk;clear hk;obtain ⟨g4,hk⟩:=hq; (try dsimp only at hk);refine eF ?_;refine kU ?_;refine de (kz 0 1 (zhT (fun _=>inferInstance)) rfl rfl rfl rfl rfl hb (zj6 (xs:=([]:List Int))) (zjs (xs:=([]:List Int))) g4 a7) ?_;rintro v4 _ ⟨hv4,rfl⟩;refine jj ?_;refine lk ?_;rintro _ _ ⟨g6,rfl,rfl⟩;refine gW ?_;obtain rfl:=Option.some.inj hk;exact fg rfl rfl (fun w' hw=>⟨fun _=>⟨(g6,v4),F1.toFrz,trivial,rfl,dz (hw.pick (idx:=[0,1,2]) rfl a7) hS0 (Frz.Le.refl _)⟩,fun h=>(by cases h)⟩)
def zct (fuel:Nat)(b:List Int):Option (List GBid×Int):=
 (zec b).bind fun r15=>
 (bif (r15).isSome then
 (zaz (r15.getD default) 128).bind fun r17=>
 dO (fun (s6:List GBid×Bool×Int×Int)=>
 (bif decide (¬(mN (GReader.mk (Gfault.mk s6.2.2.1) ((r15.getD default).made) ((r15.getD default).in_) s6.2.2.2))=0) then
 some ([],(mN (GReader.mk (Gfault.mk s6.2.2.1) ((r15.getD default).made) ((r15.getD default).in_) s6.2.2.2)))
 else
 dO (fun (x_18:Bool)=>
 (bif x_18 then
 some ([],6)
 else
 some (s6.1,0)))
 (fun k19=>
 (bif !s6.2.1 then
 k19 true
 else
 (zbr fuel s6.1).bind fun r63=>
 k19 (!r63)))))
 (fun k6=>
 eV (fun (next12:(List GBid×Bool×Int×Int×Int)→Option (List GBid×Int)) (s12:List GBid×Bool×Int×Int×Int)=>
 (bif ((decide (s12.2.2.1<r17.1))&&(decide ((zaK (GReader.mk (Gfault.mk s12.2.2.2.1) ((r15.getD default).made) ((r15.getD default).in_) s12.2.2.2.2))=0))) then
 (j1 (GReader.mk (Gfault.mk s12.2.2.2.1) ((r15.getD default).made) ((r15.getD default).in_) s12.2.2.2.2)).bind fun r29=>
 (j1 (GReader.mk (Gfault.mk r29.2.1) ((r15.getD default).made) ((r15.getD default).in_) r29.2.2)).bind fun r31=>
 (zay (GReader.mk (Gfault.mk r31.2.1) ((r15.getD default).made) ((r15.getD default).in_) r31.2.2)).bind fun r33=>
 (j1 (GReader.mk (Gfault.mk r33.2.1) ((r15.getD default).made) ((r15.getD default).in_) r33.2.2)).bind fun r36=>
 (j1 (GReader.mk (Gfault.mk r36.2.1) ((r15.getD default).made) ((r15.getD default).in_) r36.2.2)).bind fun r38=>
 (zcp fuel r36.1 r38.1).bind fun r42=>
 dB (dK (s12.1++[(GBid.mk r29.1 r31.1 r33.1 (GRatio.mk (GInt.mk r42.1.Num.Neg r42.1.Num.Digits) (GInt.mk r42.1.Den.Neg r42.1.Den.Digits)))]).length 88) <|
 next12 ((s12.1++[(GBid.mk r29.1 r31.1 r33.1 (GRatio.mk (GInt.mk r42.1.Num.Neg r42.1.Num.Digits) (GInt.mk r42.1.Den.Neg r42.1.Den.Digits)))]),(s12.2.1&&r42.2),wI (s12.2.2.1+1),r38.2.1,r38.2.2)
 else
 k6 (s12.1,s12.2.1,s12.2.2.2.1,s12.2.2.2.2))) fuel ([],true,0,r17.2.1,r17.2.2))
 else
 none)
theorem zgB (F0:Frz)(w:World)(hF0:F0.At w)(b:List Int)(vb:Value)(hb:SlC F0 vb 1 (b.map (eK .u8)))(fuel:Nat)(r:List GBid×Int)(hr:zct fuel b=some r):Calls Tryz.prog 36 #[vb] w fun e w'=>∃(y:Value×List (List Value)) (G:Frz),(SlD df G y.1 7 y.2 r.1)∧e= .returned (.tuple #[y.1, .int .i64 r.2])∧Fx F0 w G w':=by
 have hk:=hr;unfold zct at hk;haveI:=hb.oneC;obtain ⟨S0,F1,rfl,hS0,hp0⟩:=eH hF0;refine dT Tryz.func36 rfl rfl rfl hp0 ?_;refine gS ?_;refine fv ?_;have hq:=dC hk;clear hk;obtain ⟨r15,hr15,hk⟩:=hq; (try dsimp only at hk);refine jz ((r15).isSome) (fun h1=>?_) (fun h1=>?_)
 ·replace hk:=dt hk h1;refine eF ?_;refine de (eM [0] [] [] rfl rfl rfl rfl a7 (fun w hw hw2 hF=>(zgY _ w hF b vb hb r15 hr15).mono (fun e w' hp=>hp.1 h1))) ?_;rintro _ _ ⟨⟨g15_n,v15_n_2⟩,F2,le1_2, -,rfl,rfl⟩;refine lg ?_;intro iv15_n_2 hmv15_n_2;refine gj ?_;have hq:=dC hk;clear hk;obtain ⟨r17,hr17,hk⟩:=hq; (try dsimp only at hk);refine eF ?_;refine de (dG [0,1,2] [.row g15_n 232 [.int .i64 ((r15.getD default).fault.first), .bool ((r15.getD default).made),v15_n_2, .int .i64 ((r15.getD default).at_)], .sl v15_n_2 5 1 ((r15.getD default).in_).length (((r15.getD default).in_).flatMap (eK .u8))] [] rfl rfl rfl rfl a7 (fun w hw hw2 hF=>zd1 _ w hF (r15.getD default) g15_n v15_n_2 128 hw2.takes.1 hw2.takes.2 r17 hr17)) ?_;rintro _ _ ⟨⟨⟩, -,rfl,rfl⟩;refine fe ?_;refine iw ?_;refine dH ?_;refine TL.slNil 79 7 ?_;refine q4o ?_;have hq:=ek hk;clear hk;obtain ⟨k6,hk6,hk⟩:=hq; (try dsimp only at hk);refine dk (ι:=List GBid×Value×List (List Value)×Bool×Int×Int×FzB w (fun _=>False) S0) (fun z=>[(4, .pointer (some ⟨g15_n,0,none⟩)),(6,z.2.1),(7, .bool z.2.2.2.1)]) (fun z=>[.sl z.2.1 79 7 z.1.length z.2.2.1.flatten, .row g15_n 232 [.int .i64 z.2.2.2.2.1, .bool ((r15.getD default).made),v15_n_2, .int .i64 z.2.2.2.2.2.1], .sl v15_n_2 5 1 ((r15.getD default).in_).length (((r15.getD default).in_).flatMap (eK .u8)), .fr z.2.2.2.2.2.2]) (fun z=>k6 (z.1,z.2.2.2.1,z.2.2.2.2.1,z.2.2.2.2.2.1)=some r∧OwnD df z.2.2.2.2.2.2.toFrz 7 z.2.2.1 z.1∧OneC z.2.1∧F2.toFrz.Le z.2.2.2.2.2.2.toFrz) ?_ ?_
  ·have hq:=j7 hk;clear hk;obtain ⟨f12,hf12,hk⟩:=hq;refine ff ?_;refine T.loop (ι:=Nat×List GBid×Value×List (List Value)×Bool×Int×Int×Int×FzB w (fun _=>False) S0) (fun z=>[(4, .pointer (some ⟨g15_n,0,none⟩)),(5, .int .i64 r17.1),(6,z.2.2.1),(7, .bool z.2.2.2.2.1),(8, .int .i64 z.2.2.2.2.2.1)]) (fun z=>[.sl z.2.2.1 79 7 z.2.1.length z.2.2.2.1.flatten, .row g15_n 232 [.int .i64 z.2.2.2.2.2.2.1, .bool ((r15.getD default).made),v15_n_2, .int .i64 z.2.2.2.2.2.2.2.1], .sl v15_n_2 5 1 ((r15.getD default).in_).length (((r15.getD default).in_).flatMap (eK .u8)), .fr z.2.2.2.2.2.2.2.2]) (fun z=>eV f12 z.1 (z.2.1,z.2.2.2.2.1,z.2.2.2.2.2.1,z.2.2.2.2.2.2.1,z.2.2.2.2.2.2.2.1)=some r∧OwnD df z.2.2.2.2.2.2.2.2.toFrz 7 z.2.2.2.1 z.2.1∧OneC z.2.2.1∧F2.toFrz.Le z.2.2.2.2.2.2.2.2.toFrz) (fun z=>z.1) (fuel,[],(.slice none 0 0),[],true,0,r17.2.1,r17.2.2,F2) ?_ ?_ ?_ ?_
   ·exact ⟨hk,(OwnD.nil _ _ 7),inferInstance,(Frz.Le.refl _)⟩
   ·exact jW
   ·exact fa
   ·rintro ⟨m_13,l_7,vl_7,cl_7,lowest_8,i_9,c_10,c_11,F4⟩ ⟨hk,hl_7,ol_7,le2_4⟩; (try dsimp only at *);have hq:=jZ hk;clear hk;obtain ⟨m_13',rfl,hk⟩:=hq;generalize hn12:eV f12 m_13'=next12 at hk;rw [←hf12] at hk; (try dsimp only at hk);refine li ?_;refine dk (ι:=Unit) (fun z=>[(4, .pointer (some ⟨g15_n,0,none⟩)),(5, .int .i64 r17.1),(6,vl_7),(7, .bool lowest_8),(8, .int .i64 i_9),(25, .bool ((decide (i_9<r17.1))&&(decide ((zaK (GReader.mk (Gfault.mk c_10) ((r15.getD default).made) ((r15.getD default).in_) c_11))=0))))]) (fun z=>[.sl vl_7 79 7 l_7.length cl_7.flatten, .row g15_n 232 [.int .i64 c_10, .bool ((r15.getD default).made),v15_n_2, .int .i64 c_11], .sl v15_n_2 5 1 ((r15.getD default).in_).length (((r15.getD default).in_).flatMap (eK .u8)), .fr F4]) (fun z=>True) ?_ ?_
    ·refine lC ?_;refine dp rfl rfl rfl (fun h14=>?_) (fun h14=>?_)
     ·have p14:=of_decide_eq_true h14;refine dH ?_;refine de (dG [1,2,3,0] [.row g15_n 232 [.int .i64 c_10, .bool ((r15.getD default).made),v15_n_2, .int .i64 c_11], .sl v15_n_2 5 1 ((r15.getD default).in_).length (((r15.getD default).in_).flatMap (eK .u8))] [.sl vl_7 79 7 l_7.length cl_7.flatten] rfl rfl rfl rfl a7 (fun w hw hw2 hF=>zeu _ w hF (GReader.mk (Gfault.mk c_10) ((r15.getD default).made) ((r15.getD default).in_) c_11) g15_n v15_n_2 hw2.takes.1 hw2.takes.2)) ?_;rintro _ _ ⟨⟨⟩, -,rfl,rfl⟩;refine fe ?_;refine jh ?_;refine K.pick [3,0,1,2] rfl a7 ?_;exact dg () trivial (.c (.c (.c (.c (.c (.b (iX h14) .nil)))))) (List.Sublist.refl _)
     ·have p14:=of_decide_eq_false h14;refine iK ?_;exact dg () trivial (.c (.c (.c (.c (.c (.b (gQ h14).symm .nil)))))) (List.Sublist.refl _)
    ·rintro _ _;refine T.cond rfl (fun h15=>?_) (fun h15=>?_)
     ·have p15:=h15; (try simp only [iy] at p15);replace hk:=dt hk h15;refine q2K ?_;have hq:=dC hk;clear hk;obtain ⟨r29,hr29,hk⟩:=hq;have hq:=dC hk;clear hk;obtain ⟨r31,hr31,hk⟩:=hq;have hq:=dC hk;clear hk;obtain ⟨r33,hr33,hk⟩:=hq; (try dsimp only at hk);refine eF ?_;refine de (dG [1,2,3,0] [.row g15_n 232 [.int .i64 c_10, .bool ((r15.getD default).made),v15_n_2, .int .i64 c_11], .sl v15_n_2 5 1 ((r15.getD default).in_).length (((r15.getD default).in_).flatMap (eK .u8))] [.sl vl_7 79 7 l_7.length cl_7.flatten] rfl rfl rfl rfl a7 (fun w hw hw2 hF=>zbC _ w hF (GReader.mk (Gfault.mk c_10) ((r15.getD default).made) ((r15.getD default).in_) c_11) g15_n v15_n_2 hw2.takes.1 hw2.takes.2 r29 hr29)) ?_;rintro _ _ ⟨⟨⟩, -,rfl,rfl⟩;refine fe ?_;refine dH ?_;refine de (dG [0,1,2,3] [.row g15_n 232 [.int .i64 r29.2.1, .bool ((r15.getD default).made),v15_n_2, .int .i64 r29.2.2], .sl v15_n_2 5 1 ((r15.getD default).in_).length (((r15.getD default).in_).flatMap (eK .u8))] [.sl vl_7 79 7 l_7.length cl_7.flatten] rfl rfl rfl rfl a7 (fun w hw hw2 hF=>zbC _ w hF (GReader.mk (Gfault.mk r29.2.1) ((r15.getD default).made) ((r15.getD default).in_) r29.2.2) g15_n v15_n_2 hw2.takes.1 hw2.takes.2 r31 hr31)) ?_;rintro _ _ ⟨⟨⟩, -,rfl,rfl⟩;refine fe ?_;refine dH ?_;refine de (dG [0,1,2,3] [.row g15_n 232 [.int .i64 r31.2.1, .bool ((r15.getD default).made),v15_n_2, .int .i64 r31.2.2], .sl v15_n_2 5 1 ((r15.getD default).in_).length (((r15.getD default).in_).flatMap (eK .u8))] [.sl vl_7 79 7 l_7.length cl_7.flatten] rfl rfl rfl rfl a7 (fun w hw hw2 hF=>zer _ w hF (GReader.mk (Gfault.mk r31.2.1) ((r15.getD default).made) ((r15.getD default).in_) r31.2.2) g15_n v15_n_2 hw2.takes.1 hw2.takes.2 r33 hr33)) ?_;rintro _ _ ⟨⟨⟩, -,rfl,rfl⟩;refine fe ?_;refine jj ?_;refine fJ ?_;rintro _ _ ⟨g9,rfl,rfl⟩;refine ga ?_;refine fv ?_;have hq:=dC hk;clear hk;obtain ⟨r36,hr36,hk⟩:=hq;have hq:=dC hk;clear hk;obtain ⟨r38,hr38,hk⟩:=hq; (try dsimp only at hk);refine eF ?_;refine de (dG [1,2,3,0,4] [.row g15_n 232 [.int .i64 r33.2.1, .bool ((r15.getD default).made),v15_n_2, .int .i64 r33.2.2], .sl v15_n_2 5 1 ((r15.getD default).in_).length (((r15.getD default).in_).flatMap (eK .u8))] [.row g9 79 [.int .i64 r29.1, .int .i64 r31.1, .int .i64 r33.1, .bool false,(.slice none 0 0), .bool false,(.slice none 0 0)], .sl vl_7 79 7 l_7.length cl_7.flatten] rfl rfl rfl rfl a7 (fun w hw hw2 hF=>zbC _ w hF (GReader.mk (Gfault.mk r33.2.1) ((r15.getD default).made) ((r15.getD default).in_) r33.2.2) g15_n v15_n_2 hw2.takes.1 hw2.takes.2 r36 hr36)) ?_;rintro _ _ ⟨⟨⟩, -,rfl,rfl⟩;refine fe ?_;refine dH ?_;refine de (dG [0,1,2,3,4] [.row g15_n 232 [.int .i64 r36.2.1, .bool ((r15.getD default).made),v15_n_2, .int .i64 r36.2.2], .sl v15_n_2 5 1 ((r15.getD default).in_).length (((r15.getD default).in_).flatMap (eK .u8))] [.row g9 79 [.int .i64 r29.1, .int .i64 r31.1, .int .i64 r33.1, .bool false,(.slice none 0 0), .bool false,(.slice none 0 0)], .sl vl_7 79 7 l_7.length cl_7.flatten] rfl rfl rfl rfl a7 (fun w hw hw2 hF=>zbC _ w hF (GReader.mk (Gfault.mk r36.2.1) ((r15.getD default).made) ((r15.getD default).in_) r36.2.2) g15_n v15_n_2 hw2.takes.1 hw2.takes.2 r38 hr38)) ?_;rintro _ _ ⟨⟨⟩, -,rfl,rfl⟩;refine fe ?_;refine ep ?_;refine eP ?_;refine gj ?_;have hq:=dC hk;clear hk;obtain ⟨r42,hr42,hk⟩:=hq; (try dsimp only at hk);refine eZ ?_;refine de (dr 2 rfl rfl rfl rfl (fun w hw hF=>zg1 _ w hF r36.1 r38.1 fuel r42 hr42)) ?_;rintro _ _ ⟨⟨v42_0_1,v42_0_3⟩,F5,le4_5,⟨hf42_0_1,hf42_0_3⟩,rfl,rfl⟩;dsimp only at hf42_0_1 hf42_0_3 ⊢;have le2_5:=le2_4.trans le4_5;haveI:=hf42_0_1.oneC;haveI:=hf42_0_3.oneC;refine fU ?_;refine fK ?_;refine dU (Ew.bP 3 rfl rfl rfl rfl rfl b3) ?_;refine eA ?_;refine gj ?_;refine dk (ι:=Unit) (fun z=>[(4, .pointer (some ⟨g15_n,0,none⟩)),(5, .int .i64 r17.1),(6,vl_7),(7, .bool (lowest_8&&r42.2)),(8, .int .i64 i_9),(9, .pointer (some ⟨g9,0,none⟩))]) (fun z=>[.row g15_n 232 [.int .i64 r38.2.1, .bool ((r15.getD default).made),v15_n_2, .int .i64 r38.2.2], .sl v15_n_2 5 1 ((r15.getD default).in_).length (((r15.getD default).in_).flatMap (eK .u8)), .row g9 79 [.int .i64 r29.1, .int .i64 r31.1, .int .i64 r33.1, .bool r42.1.Num.Neg,v42_0_1, .bool r42.1.Den.Neg,v42_0_3], .sl vl_7 79 7 l_7.length cl_7.flatten, .fr F5]) (fun z=>True) ?_ ?_
      ·refine eZ ?_;refine dp rfl rfl rfl (fun h16=>?_) (fun h16=>?_)
       ·refine iU ?_;refine K.pick [0,1,3,4,2] rfl a7 ?_;exact dg () trivial (.c (.c (.c (.b (iX h16) (.c (.c .nil)))))) (List.Sublist.refl _)
       ·refine iU ?_;refine K.pick [0,1,3,4,2] rfl a7 ?_;exact dg () trivial (.c (.c (.c (.b (gQ h16).symm (.c (.c .nil)))))) (List.Sublist.refl _)
      ·rintro _ _;have hq:(dK (l_7++[(GBid.mk r29.1 r31.1 r33.1 (GRatio.mk (GInt.mk r42.1.Num.Neg r42.1.Num.Digits) (GInt.mk r42.1.Den.Neg r42.1.Den.Digits)))]).length 88)∧_:=dJ hk;clear hk;obtain ⟨g53,hk⟩:=hq; (try dsimp only at hk);refine eF ?_;refine q2x ?_;refine iA ?_;rintro _ _ ⟨g52,rfl,rfl⟩;have hl52:OwnD df F5.toFrz 7 [[.int .i64 r29.1, .int .i64 r31.1, .int .i64 r33.1, .bool r42.1.Num.Neg,v42_0_1, .bool r42.1.Den.Neg,v42_0_3]] [(GBid.mk r29.1 r31.1 r33.1 (GRatio.mk (GInt.mk r42.1.Num.Neg r42.1.Num.Digits) (GInt.mk r42.1.Den.Neg r42.1.Den.Digits)))]:=(eS (OwnD.nil _ _ 7) ⟨_,_,rfl,hf42_0_1,hf42_0_3⟩);refine de (gP 4 0 rfl rfl rfl rfl rfl rfl (l7 (ys:=[(GBid.mk r29.1 r31.1 r33.1 (GRatio.mk (GInt.mk r42.1.Num.Neg r42.1.Num.Digits) (GInt.mk r42.1.Den.Neg r42.1.Den.Digits)))])) (zh8 (cs:=cl_7) (ds:=[[.int .i64 r29.1, .int .i64 r31.1, .int .i64 r33.1, .bool r42.1.Num.Neg,v42_0_1, .bool r42.1.Den.Neg,v42_0_3]])) g53 a7) ?_;rintro v53 _ ⟨hv53,rfl⟩;have ho53:OwnD df F5.toFrz 7 (cl_7++[[.int .i64 r29.1, .int .i64 r31.1, .int .i64 r33.1, .bool r42.1.Num.Neg,v42_0_1, .bool r42.1.Den.Neg,v42_0_3]]) (l_7++[(GBid.mk r29.1 r31.1 r33.1 (GRatio.mk (GInt.mk r42.1.Num.Neg r42.1.Num.Digits) (GInt.mk r42.1.Den.Neg r42.1.Den.Digits)))]):=(eS (OwnD.mono (rep:=df) (fun _ _ _ _=>GBid.mono) hl_7 le4_5) ⟨_,_,rfl,hf42_0_1,hf42_0_3⟩);refine q16 ?_;refine cY (dq (v:= .int .i64 (wI (i_9+1)))) ?_;refine gU ?_;rw [←hn12] at hk;refine K.pick [4,1,2,5] rfl a7 ?_;exact K.next (m_13',(l_7++[(GBid.mk r29.1 r31.1 r33.1 (GRatio.mk (GInt.mk r42.1.Num.Neg r42.1.Num.Digits) (GInt.mk r42.1.Den.Neg r42.1.Den.Digits)))]),v53,(cl_7++[[.int .i64 r29.1, .int .i64 r31.1, .int .i64 r33.1, .bool r42.1.Num.Neg,v42_0_1, .bool r42.1.Den.Neg,v42_0_3]]),(lowest_8&&r42.2),wI (i_9+1),r38.2.1,r38.2.2,F5) ⟨hk,ho53,inferInstance,le2_5⟩ a9 (.c (.c (.c (.c (.c .nil))))) (List.Sublist.refl _)
     ·replace hk:=dw hk h15;refine fi ?_;exact dg (l_7,vl_7,cl_7,lowest_8,c_10,c_11,F4) ⟨hk,hl_7,inferInstance,le2_4⟩ (.c (.c (.c .nil))) (List.Sublist.refl _)
  ·rintro ⟨l_2,vl_2,cl_2,lowest_3,c_4,c_5,F3⟩ ⟨hk,hl_2,ol_2,le2_3⟩; (try dsimp only at *);rw [←hk6] at hk; (try dsimp only at hk);have le1_3:=le1_2.trans le2_3;refine q4b ?_;refine de (dG [1,2,3,0] [.row g15_n 232 [.int .i64 c_4, .bool ((r15.getD default).made),v15_n_2, .int .i64 c_5], .sl v15_n_2 5 1 ((r15.getD default).in_).length (((r15.getD default).in_).flatMap (eK .u8))] [.sl vl_2 79 7 l_2.length cl_2.flatten] rfl rfl rfl rfl a7 (fun w hw hw2 hF=>zet _ w hF (GReader.mk (Gfault.mk c_4) ((r15.getD default).made) ((r15.getD default).in_) c_5) g15_n v15_n_2 hw2.takes.1 hw2.takes.2)) ?_;rintro _ _ ⟨⟨⟩, -,rfl,rfl⟩;refine fe ?_;refine iw ?_;refine jG ?_;refine T.cond rfl (fun h17=>?_) (fun h17=>?_)
   ·have p17:=of_decide_eq_true h17;replace hk:=dt hk h17;refine iY ?_;refine jF ?_;obtain rfl:=Option.some.inj hk;exact fk rfl rfl rfl (fun w' hw=>⟨((.slice none 0 0),[]),F3.toFrz,(SlD.nil _ _ 7),rfl,dP hw (i:=2) rfl hS0 le1_3⟩)
   ·have p17:=of_decide_eq_false h17;replace hk:=dw hk h17;refine q2y ?_;refine j9 (fun w hw=>hw.freezeS (i:=2) (j:=3) a7 rfl rfl) ?_;rintro F6 ⟨le3_6,hz6⟩;refine fQ ?_;have le1_6:=le1_3.trans le3_6;have hfF6:=hz6.toD (OwnD.mono (rep:=df) (fun _ _ _ _=>GBid.mono) hl_2 le3_6) rfl;haveI:=hfF6.1.oneC; (try dsimp only at hk);have hq:=ek hk;clear hk;obtain ⟨k19,hk19,hk⟩:=hq; (try dsimp only at hk);refine dk (ι:=Bool) (fun z=>[(6,vl_2),(65, .bool z)]) (fun z=>[.fr F6]) (fun z=>k19 z=some r) ?_ ?_
    ·refine gR ?_;refine dp rfl rfl rfl (fun h20=>?_) (fun h20=>?_)
     ·replace hk:=dt hk h20;refine iK ?_;refine q3f ?_;exact q42
     ·replace hk:=dw hk h20;refine dH ?_;have hq:=dC hk;clear hk;obtain ⟨r63,hr63,hk⟩:=hq;refine de (dj rfl rfl rfl (fun w hw=>zeE _ w (hw.fr (i:=2) rfl) l_2 vl_2 cl_2 hfF6 fuel r63 hr63)) ?_;refine jH ?_;refine q3f ?_;exact dg (!r63) hk (.c (.c .nil)) (List.Sublist.refl _)
    ·rintro x_18 hk;rw [←hk19] at hk; (try dsimp only at hk);refine T.cond rfl (fun h21=>?_) (fun h21=>?_)
     ·replace hk:=dt hk h21;refine kn ?_;obtain rfl:=Option.some.inj hk;exact q5m
     ·replace hk:=dw hk h21;refine iz ?_;refine fU ?_;refine ik ?_;obtain rfl:=Option.some.inj hk;exact fk rfl rfl rfl (fun w' hw=>⟨(vl_2,cl_2),F6.toFrz,hfF6,rfl,dP hw (i:=0) rfl hS0 le1_6⟩)
 ·replace hk:=dw hk h1;refine eF ?_;refine de (eM [0] [] [] rfl rfl rfl rfl a7 (fun w hw hw2 hF=>(zgY _ w hF b vb hb r15 hr15).mono (fun e w' hp=>hp.2 h1))) ?_;rintro _ _ ⟨⟨⟩,F7,le1_7, -,rfl,rfl⟩;refine fe ?_;refine gj ?_;cases hk
end Go.Proofs.YtmnjbhkcfghebaaGreatDoor
