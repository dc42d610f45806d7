/- Yj Yu: shortened and put together by squeeze.py. -/
import Derived.Test.YtmnjbhkcfghebaaGreatDoorQ11
set_option maxRecDepth 100000
set_option maxHeartbeats 4000000
set_option linter.unusedVariables false
set_option linter.unusedSectionVars false
set_option linter.unusedSimpArgs false
namespace Go.Proofs.YtmnjbhkcfghebaaGreatDoor
open Go.RowKit
def zbq (fuel:Nat)(l:List GBid):Option Bool:=
 (bif decide (128<(l.length:Int)) then
 some false
 else
 dM (fun (_:Unit)=>
 some true)
 (fun k2=>
 dN (fun (i_5:Nat) (next4:Int→Option Bool) (last_3:Int)=>
 (bif ((((decide ((nth l i_5).Bidder<last_3))||(decide (32≤(nth l i_5).Bidder)))||(decide ((nth l i_5).Product<0)))||(decide (128≤(nth l i_5).Product))) then
 some false
 else
 dM (fun (x_11:Bool)=>
 (bif x_11 then
 some false
 else
 next4 ((nth l i_5).Bidder)))
 (fun k12=>
 (bif decide ((nth l i_5).Change<(-12)) then
 k12 true
 else
 (bif decide (12<(nth l i_5).Change) then
 k12 true
 else
 (bif decide ((nth l i_5).Change=0) then
 k12 true
 else
 (zbU fuel ((nth l i_5).Point)).bind fun r50=>
 k12 (!r50)))))))
 (fun (last_3:Int)=>
 k2 ()) (l.length - 0) 0 0))
theorem zeE (F0:Frz)(w:World)(hF0:F0.At w)(l:List GBid)(vl:Value)(cl:List (List Value))(hl:SlD cY F0 vl 7 cl l)(fuel:Nat)(r:Bool)(hr:zbq fuel l=some r):Calls Tryz.prog 95 #[vl] w fun e w'=>e= .returned (.bool r)∧Below w.heap.size w w':=by
 have hk:=hr;unfold zbq at hk;haveI:=hl.1.oneC;obtain ⟨S0,F1,rfl,hS0,hp0⟩:=eC hF0;refine dS Tryz.func95 rfl rfl rfl hp0 ?_;refine jn ?_;refine me ?_;have hm7:l.length≤9223372036854775807:=hl.2.1▸hl.1.max;refine d9 ?_;refine T.cond rfl (fun h1=>?_) (fun h1=>?_)
 ·have p1:=of_decide_eq_true h1;replace hk:=dt hk h1;refine il ?_;obtain rfl:=Option.some.inj hk;exact eo
 ·have p1:=of_decide_eq_false h1;replace hk:=dw hk h1;refine iO ?_;refine iR ?_;refine me ?_;refine d9 ?_;have hq:=d7 hk;clear hk;obtain ⟨k2,hk2,hk⟩:=hq; (try dsimp only at hk);refine dk (ι:=Unit) (fun z=>[]) (fun z=>[.fr F1]) (fun z=>k2 ()=some r) ?_ ?_
  ·have hq:=fP hk;clear hk;obtain ⟨f4,kk4,hf4,hkk4,hk⟩:=hq;refine eW ?_;refine T.loop (ι:=Nat×Int) (fun z=>[(3, .int .i64 z.2),(9,vl),(10, .int .i64 (l.length:Int)),(11, .int .i64 (z.1:Int))]) (fun z=>[.fr F1]) (fun z=>dN f4 kk4 (l.length - z.1) z.1 z.2=some r) (fun z=>l.length - z.1) (0,0) ?_ ?_ ?_ ?_
   ·exact hk
   ·exact jU
   ·exact eT
   ·rintro ⟨i_5,last_3⟩ hk; (try dsimp only at *);refine ff ?_;refine T.cond rfl (fun h6=>?_) (fun h6=>?_)
    ·have p6:=of_decide_eq_true h6;rw [fN a7] at hk;generalize hn4:dN f4 kk4 (l.length - (i_5+1)) (i_5+1)=next4 at hk;rw [←hf4] at hk; (try dsimp only at hk);refine iT ?_;refine cW (dq (i:=i_5) rfl rfl rfl hl.1 hl.2.1 rfl a7) ?_;refine cW (fk 0 (i:=i_5) (j:=0) rfl rfl rfl hl.1 hl.2.1 a7 rfl (ek (hl.2.2 i_5 a7))) ?_;have hd14_4:=(eH (hl.2.2 i_5 a7)).2;haveI:=hd14_4.oneC;have hd14_6:=(eJ (hl.2.2 i_5 a7)).2;haveI:=hd14_6.oneC;refine fG ?_;rintro _ _ ⟨g5,rfl,rfl⟩;refine fS ?_;refine ju ?_;refine dk (ι:=Unit) (fun z=>[(5, .pointer (some ⟨g5,0,none⟩)),(9,vl),(10, .int .i64 (l.length:Int)),(11, .int .i64 (i_5:Int)),(33, .bool ((((decide ((nth l i_5).Bidder<last_3))||(decide (32≤(nth l i_5).Bidder)))||(decide ((nth l i_5).Product<0)))||(decide (128≤(nth l i_5).Product))))]) (fun z=>[.row g5 79 [.int .i64 ((nth l i_5).Bidder), .int .i64 ((nth l i_5).Product), .int .i64 ((nth l i_5).Change), .bool ((nth l i_5).Point.Num.Neg),(nth (nth cl i_5) 4), .bool ((nth l i_5).Point.Den.Neg),(nth (nth cl i_5) 6)], .fr F1]) (fun z=>True) ?_ ?_
     ·refine fg ?_;refine lk ?_;refine dm rfl rfl rfl (fun h7=>?_) (fun h7=>?_)
      ·have p7:=of_decide_eq_true h7;refine TL.run 14 rfl ?_;refine fH ?_;exact de () trivial (.c (.c (.c (.c (.b (gg (gg (gg h7))).symm .nil))))) (List.Sublist.refl _)
      ·have p7:=of_decide_eq_false h7;refine lk ?_;refine dm rfl rfl rfl (fun h8=>?_) (fun h8=>?_)
       ·have p8:=of_decide_eq_true h8;refine q31 ?_;exact de () trivial (.c (.c (.c (.c (.b (gg (gg (iP h7 h8))).symm .nil))))) (List.Sublist.refl _)
       ·have p8:=of_decide_eq_false h8;refine lk ?_;refine dm rfl rfl rfl (fun h9=>?_) (fun h9=>?_)
        ·have p9:=of_decide_eq_true h9;refine iZ ?_;exact de () trivial (.c (.c (.c (.c (.b (gg (iP (iP h7 h8) h9)).symm .nil))))) (List.Sublist.refl _)
        ·have p9:=of_decide_eq_false h9;refine ga ?_;refine jh ?_;exact de () trivial (.c (.c (.c (.c (.b (gx (iP (iP h7 h8) h9)) .nil))))) (List.Sublist.refl _)
     ·rintro _ _;refine T.cond rfl (fun h10=>?_) (fun h10=>?_)
      ·replace hk:=dt hk h10;refine q4c ?_;obtain rfl:=Option.some.inj hk;exact eo
      ·have p10:=h10; (try simp only [iS] at p10);replace hk:=dw hk h10;refine q3b ?_; (try dsimp only at hk);have hq:=d7 hk;clear hk;obtain ⟨k12,hk12,hk⟩:=hq; (try dsimp only at hk);refine dk (ι:=Bool) (fun z=>[(5, .pointer (some ⟨g5,0,none⟩)),(9,vl),(10, .int .i64 (l.length:Int)),(11, .int .i64 (i_5:Int)),(52, .bool z)]) (fun z=>[.row g5 79 [.int .i64 ((nth l i_5).Bidder), .int .i64 ((nth l i_5).Product), .int .i64 ((nth l i_5).Change), .bool ((nth l i_5).Point.Num.Neg),(nth (nth cl i_5) 4), .bool ((nth l i_5).Point.Den.Neg),(nth (nth cl i_5) 6)], .fr F1]) (fun z=>k12 z=some r) ?_ ?_
       ·refine fg ?_;refine ga ?_;refine ee ?_;refine dm rfl rfl rfl (fun h13=>?_) (fun h13=>?_)
        ·have p13:=of_decide_eq_true h13;replace hk:=dt hk h13;refine TL.run 15 rfl ?_;refine fH ?_;exact q4z
        ·have p13:=of_decide_eq_false h13;replace hk:=dw hk h13;refine lk ?_;refine dm rfl rfl rfl (fun h14=>?_) (fun h14=>?_)
         ·have p14:=of_decide_eq_true h14;replace hk:=dt hk h14;refine q3V ?_;exact q4z
         ·have p14:=of_decide_eq_false h14;replace hk:=dw hk h14;refine lk ?_;refine dm rfl rfl rfl (fun h15=>?_) (fun h15=>?_)
          ·have p15:=of_decide_eq_true h15;replace hk:=dt hk h15;refine kK ?_;exact q4z
          ·have p15:=of_decide_eq_false h15;replace hk:=dw hk h15;refine fL ?_;refine cW (eR 0 (m:=[.bool ((nth l i_5).Point.Num.Neg),(nth (nth cl i_5) 4), .bool ((nth l i_5).Point.Den.Neg),(nth (nth cl i_5) 6)])) ?_;have hq:=dC hk;clear hk;obtain ⟨r50,hr50,hk⟩:=hq;refine dc (dh rfl rfl rfl (fun w hw=>zeq _ w (hw.fr (i:=1) rfl) ((nth l i_5).Point) (nth (nth cl i_5) 4) hd14_4 (nth (nth cl i_5) 6) hd14_6 fuel r50 hr50)) ?_;refine jV ?_;exact de (!r50) hk (.c (.c (.c (.c (.c .nil))))) (List.Sublist.refl _)
       ·rintro x_11 hk;rw [←hk12] at hk; (try dsimp only at hk);refine T.cond rfl (fun h16=>?_) (fun h16=>?_)
        ·replace hk:=dt hk h16;refine q4c ?_;obtain rfl:=Option.some.inj hk;exact eo
        ·replace hk:=dw hk h16;refine T.skip (K.seq (T.region ?_));refine kg ?_;refine jk ?_;rw [←hn4] at hk;refine iX ?_;exact K.next ((i_5+1),(nth l i_5).Bidder) hk b3 (.c (.c (.c (.c .nil)))) (List.Sublist.refl _)
    ·have p6:=of_decide_eq_false h6;rw [fO a7,←hkk4] at hk; (try dsimp only at hk);refine fb ?_;exact lK
  ·rintro _ hk;rw [←hk2] at hk; (try dsimp only at hk);refine kS ?_;obtain rfl:=Option.some.inj hk;exact eo
def zbV (fuel:Nat)(l:List GBid):Option (List Int×Int):=
 (zbq fuel l).bind fun r12=>
 (bif !r12 then
 some ([],2)
 else
 (lP fuel (GWriter.mk (Gfault.mk 0) []) (l.length:Int)).bind fun r16=>
 dM (fun (c_2:List Int)=>
 (zbk (GWriter.mk (Gfault.mk 0) c_2)).bind fun r51=>
 some (r51.1,r51.2))
 (fun k3=>
 dN (fun (i_6:Nat) (next5:List Int→Option (List Int×Int)) (c_4:List Int)=>
 (zbQ ((nth l i_6).Point.Num)).bind fun r27=>
 (zbQ ((nth l i_6).Point.Den)).bind fun r34=>
 (lP fuel (GWriter.mk (Gfault.mk 0) c_4) ((nth l i_6).Bidder)).bind fun r39=>
 (lP fuel (GWriter.mk (Gfault.mk 0) r39) ((nth l i_6).Product)).bind fun r42=>
 (zbj fuel (GWriter.mk (Gfault.mk 0) r42) ((nth l i_6).Change)).bind fun r45=>
 (lP fuel (GWriter.mk (Gfault.mk 0) r45) r27.1).bind fun r47=>
 (lP fuel (GWriter.mk (Gfault.mk 0) r47) r34.1).bind fun r49=>
 next5 r49)
 (fun (c_4:List Int)=>
 k3 c_4) (l.length - 0) 0 r16))
theorem zfo (F0:Frz)(w:World)(hF0:F0.At w)(l:List GBid)(vl:Value)(cl:List (List Value))(hl:SlD cY F0 vl 7 cl l)(fuel:Nat)(r:List Int×Int)(hr:zbV fuel l=some r):Calls Tryz.prog 34 #[vl] w fun e w'=>∃(y:Value) (G:Frz),(SlC G y 1 (r.1.map (eK .u8)))∧e= .returned (.tuple #[y, .int .i64 r.2])∧Fx F0 w G w':=by
 have hk:=hr;unfold zbV at hk;haveI:=hl.1.oneC;obtain ⟨S0,F1,rfl,hS0,hp0⟩:=eC hF0;refine dS Tryz.func34 rfl rfl rfl hp0 ?_;refine gI ?_;refine ju ?_;have hq:=dC hk;clear hk;obtain ⟨r12,hr12,hk⟩:=hq; (try dsimp only at hk);refine eA ?_;refine dc (dh rfl rfl rfl (fun w hw=>zeE _ w (hw.fr (i:=0) rfl) l vl cl hl fuel r12 hr12)) ?_;refine lD ?_;refine T.cond rfl (fun h1=>?_) (fun h1=>?_)
 ·replace hk:=dt hk h1;refine kI ?_;obtain rfl:=Option.some.inj hk;exact q40
 ·replace hk:=dw hk h1;refine iO ?_;refine fG ?_;rintro _ _ ⟨g4,rfl,rfl⟩;refine ku ?_;refine ft ?_;have hq:=dC hk;clear hk;obtain ⟨r16,hr16,hk⟩:=hq; (try dsimp only at hk);refine eA ?_;refine me ?_;have hm15:l.length≤9223372036854775807:=hl.2.1▸hl.1.max;refine dc (dD [1,0,2] [.row g4 145 [.int .i64 0,(.slice none 0 0)], .sl (.slice none 0 0) 5 1 ([]:List Int).length ([].flatMap (eK .u8))] [] rfl rfl rfl rfl a8 (fun w hw hw2 hF=>zaA _ w hF (GWriter.mk (Gfault.mk 0) []) g4 (.slice none 0 0) (l.length:Int) hw2.takes.1 hw2.takes.2 fuel r16 hr16)) ?_;rintro _ _ ⟨v16_0_1, -,rfl,rfl⟩;refine kQ ?_;intro iv16_0_1 hmv16_0_1;refine q02 ?_;refine me ?_;refine d9 ?_;have hq:=d7 hk;clear hk;obtain ⟨k3,hk3,hk⟩:=hq; (try dsimp only at hk);refine dk (ι:=List Int×Value) (fun z=>[(4, .pointer (some ⟨g4,0,none⟩))]) (fun z=>[.sl z.2 5 1 z.1.length (z.1.flatMap (eK .u8)), .row g4 145 [.int .i64 0,z.2], .fr F1]) (fun z=>k3 z.1=some r∧OneC z.2) ?_ ?_
  ·have hq:=fP hk;clear hk;obtain ⟨f5,kk5,hf5,hkk5,hk⟩:=hq;refine q4i ?_;refine T.loop (ι:=Nat×List Int×Value) (fun z=>[(4, .pointer (some ⟨g4,0,none⟩)),(17,vl),(18, .int .i64 (l.length:Int)),(19, .int .i64 (z.1:Int))]) (fun z=>[.sl z.2.2 5 1 z.2.1.length (z.2.1.flatMap (eK .u8)), .row g4 145 [.int .i64 0,z.2.2], .fr F1]) (fun z=>dN f5 kk5 (l.length - z.1) z.1 z.2.1=some r∧OneC z.2.2) (fun z=>l.length - z.1) (0,r16,v16_0_1) ?_ ?_ ?_ ?_
   ·exact q4C
   ·exact jU
   ·exact eT
   ·rintro ⟨i_6,c_4,vc_4⟩ ⟨hk,oc_4⟩; (try dsimp only at *);refine ff ?_;refine T.cond rfl (fun h7=>?_) (fun h7=>?_)
    ·have p7:=of_decide_eq_true h7;rw [fN a7] at hk;generalize hn5:dN f5 kk5 (l.length - (i_6+1)) (i_6+1)=next5 at hk;rw [←hf5] at hk; (try dsimp only at hk);refine iT ?_;refine cW (dq (i:=i_6) rfl rfl rfl hl.1 hl.2.1 rfl a7) ?_;refine cW (fk 2 (i:=i_6) (j:=0) rfl rfl rfl hl.1 hl.2.1 a7 rfl (ek (hl.2.2 i_6 a7))) ?_;have hd22_4:=(eH (hl.2.2 i_6 a7)).2;haveI:=hd22_4.oneC;have hd22_6:=(eJ (hl.2.2 i_6 a7)).2;haveI:=hd22_6.oneC;refine fG ?_;rintro _ _ ⟨g6,rfl,rfl⟩;refine fS ?_;refine ft ?_;have hq:=dC hk;clear hk;obtain ⟨r27,hr27,hk⟩:=hq; (try dsimp only at hk);refine q4f ?_;refine fL ?_;refine cW (eR 0 (m:=[.bool ((nth l i_6).Point.Num.Neg),(nth (nth cl i_6) 4)])) ?_;refine dc (dh rfl rfl rfl (fun w hw=>zec _ w (hw.fr (i:=3) rfl) ((nth l i_6).Point.Num) (nth (nth cl i_6) 4) hd22_4 r27 hr27)) ?_;refine ez ?_;refine iV ?_;refine ft ?_;have hq:=dC hk;clear hk;obtain ⟨r34,hr34,hk⟩:=hq; (try dsimp only at hk);refine q4f ?_;refine fL ?_;refine cW (eR 0 (m:=[.bool ((nth l i_6).Point.Den.Neg),(nth (nth cl i_6) 6)])) ?_;refine dc (dh rfl rfl rfl (fun w hw=>zec _ w (hw.fr (i:=3) rfl) ((nth l i_6).Point.Den) (nth (nth cl i_6) 6) hd22_6 r34 hr34)) ?_;refine ez ?_;refine iV ?_;refine ft ?_;have hq:=dC hk;clear hk;obtain ⟨r39,hr39,hk⟩:=hq; (try dsimp only at hk);refine fg ?_;refine ga ?_;refine dc (dD [2,1,3,0] [.row g4 145 [.int .i64 0,vc_4], .sl vc_4 5 1 c_4.length (c_4.flatMap (eK .u8))] [.row g6 79 [.int .i64 ((nth l i_6).Bidder), .int .i64 ((nth l i_6).Product), .int .i64 ((nth l i_6).Change), .bool ((nth l i_6).Point.Num.Neg),(nth (nth cl i_6) 4), .bool ((nth l i_6).Point.Den.Neg),(nth (nth cl i_6) 6)]] rfl rfl rfl rfl a8 (fun w hw hw2 hF=>zaA _ w hF (GWriter.mk (Gfault.mk 0) c_4) g4 vc_4 ((nth l i_6).Bidder) hw2.takes.1 hw2.takes.2 fuel r39 hr39)) ?_;rintro _ _ ⟨v39_0_1, -,rfl,rfl⟩;refine kQ ?_;intro iv39_0_1 hmv39_0_1;refine ft ?_;have hq:=dC hk;clear hk;obtain ⟨r42,hr42,hk⟩:=hq; (try dsimp only at hk);refine fg ?_;refine q1F ?_;refine dc (dD [0,1,2,3] [.row g4 145 [.int .i64 0,v39_0_1], .sl v39_0_1 5 1 r39.length (r39.flatMap (eK .u8))] [.row g6 79 [.int .i64 ((nth l i_6).Bidder), .int .i64 ((nth l i_6).Product), .int .i64 ((nth l i_6).Change), .bool ((nth l i_6).Point.Num.Neg),(nth (nth cl i_6) 4), .bool ((nth l i_6).Point.Den.Neg),(nth (nth cl i_6) 6)]] rfl rfl rfl rfl a8 (fun w hw hw2 hF=>zaA _ w hF (GWriter.mk (Gfault.mk 0) r39) g4 v39_0_1 ((nth l i_6).Product) hw2.takes.1 hw2.takes.2 fuel r42 hr42)) ?_;rintro _ _ ⟨v42_0_1, -,rfl,rfl⟩;refine kQ ?_;intro iv42_0_1 hmv42_0_1;refine ft ?_;have hq:=dC hk;clear hk;obtain ⟨r45,hr45,hk⟩:=hq; (try dsimp only at hk);refine fg ?_;refine q1F ?_;refine dc (dD [0,1,2,3] [.row g4 145 [.int .i64 0,v42_0_1], .sl v42_0_1 5 1 r42.length (r42.flatMap (eK .u8))] [.row g6 79 [.int .i64 ((nth l i_6).Bidder), .int .i64 ((nth l i_6).Product), .int .i64 ((nth l i_6).Change), .bool ((nth l i_6).Point.Num.Neg),(nth (nth cl i_6) 4), .bool ((nth l i_6).Point.Den.Neg),(nth (nth cl i_6) 6)]] rfl rfl rfl rfl a8 (fun w hw hw2 hF=>zeo _ w hF (GWriter.mk (Gfault.mk 0) r42) g4 v42_0_1 ((nth l i_6).Change) hw2.takes.1 hw2.takes.2 fuel r45 hr45)) ?_;rintro _ _ ⟨v45_0_1, -,rfl,rfl⟩;refine kQ ?_;intro iv45_0_1 hmv45_0_1;refine ft ?_;have hq:=dC hk;clear hk;obtain ⟨r47,hr47,hk⟩:=hq; (try dsimp only at hk);refine eA ?_;refine dc (dD [0,1,2,3] [.row g4 145 [.int .i64 0,v45_0_1], .sl v45_0_1 5 1 r45.length (r45.flatMap (eK .u8))] [.row g6 79 [.int .i64 ((nth l i_6).Bidder), .int .i64 ((nth l i_6).Product), .int .i64 ((nth l i_6).Change), .bool ((nth l i_6).Point.Num.Neg),(nth (nth cl i_6) 4), .bool ((nth l i_6).Point.Den.Neg),(nth (nth cl i_6) 6)]] rfl rfl rfl rfl a8 (fun w hw hw2 hF=>zaA _ w hF (GWriter.mk (Gfault.mk 0) r45) g4 v45_0_1 r27.1 hw2.takes.1 hw2.takes.2 fuel r47 hr47)) ?_;rintro _ _ ⟨v47_0_1, -,rfl,rfl⟩;refine kQ ?_;intro iv47_0_1 hmv47_0_1;refine dW ?_;have hq:=dC hk;clear hk;obtain ⟨r49,hr49,hk⟩:=hq; (try dsimp only at hk);refine eA ?_;refine dc (dD [0,1,2,3] [.row g4 145 [.int .i64 0,v47_0_1], .sl v47_0_1 5 1 r47.length (r47.flatMap (eK .u8))] [.row g6 79 [.int .i64 ((nth l i_6).Bidder), .int .i64 ((nth l i_6).Product), .int .i64 ((nth l i_6).Change), .bool ((nth l i_6).Point.Num.Neg),(nth (nth cl i_6) 4), .bool ((nth l i_6).Point.Den.Neg),(nth (nth cl i_6) 6)]] rfl rfl rfl rfl a8 (fun w hw hw2 hF=>zaA _ w hF (GWriter.mk (Gfault.mk 0) r47) g4 v47_0_1 r34.1 hw2.takes.1 hw2.takes.2 fuel r49 hr49)) ?_;rintro _ _ ⟨v49_0_1, -,rfl,rfl⟩;refine kQ ?_;intro iv49_0_1 hmv49_0_1;refine jk ?_;rw [←hn5] at hk;refine K.pick [1,0,2] rfl a8 ?_;exact K.next ((i_6+1),r49,v49_0_1) ⟨hk,inferInstance⟩ b3 (.c (.c (.c (.c .nil)))) (List.Sublist.refl _)
    ·have p7:=of_decide_eq_false h7;rw [fO a7,←hkk5] at hk; (try dsimp only at hk);refine fb ?_;exact de (c_4,vc_4) ⟨hk,inferInstance⟩ (.c .nil) (List.Sublist.refl _)
  ·rintro ⟨c_2,vc_2⟩ ⟨hk,oc_2⟩; (try dsimp only at *);rw [←hk3] at hk; (try dsimp only at hk);refine T.seq ?_;have hq:=dC hk;clear hk;obtain ⟨r51,hr51,hk⟩:=hq; (try dsimp only at hk);refine fg ?_;refine dc (dD [1,0,2] [.row g4 145 [.int .i64 0,vc_2], .sl vc_2 5 1 c_2.length (c_2.flatMap (eK .u8))] [] rfl rfl rfl rfl a8 (fun w hw hw2 hF=>zc2 _ w hF (GWriter.mk (Gfault.mk 0) c_2) g4 vc_2 hw2.takes.1 hw2.takes.2 r51 hr51)) ?_;rintro _ _ ⟨v51_0_0, -,rfl,rfl⟩;refine eS ?_;refine gD 2 rfl ?_;intro iv51_0_0 hmv51_0_0;refine ks ?_;refine ir ?_;refine lM (fun w hw=>hw.freezeS (i:=3) (j:=2) a8 rfl rfl) ?_;rintro F2 ⟨le1_2,hz2⟩;refine fD ?_;have hfF2:=hz2.toF rfl (fun _=>rfl);haveI:=hfF2.oneC;obtain rfl:=Option.some.inj hk;exact fc rfl rfl rfl (fun w' hw=>⟨v51_0_0,F2.toFrz,hfF2,rfl,dO hw (i:=2) rfl hS0 le1_2⟩)
def zck (fuel:Nat)(num:Int)(den:Int):Option (GRatio×Bool):=
 (zd4 fuel num den).bind fun r11=>
 (bif decide (¬r11.2=0) then
 some ((GRatio.mk (GInt.mk false []) (GInt.mk false [])),false)
 else
 (zcH fuel num).bind fun r21=>
 (zbt fuel r11.1.Num r21).bind fun r22=>
 dM (fun (s7:Bool×Bool×List Int×Bool×List Int)=>
 some ((GRatio.mk (GInt.mk s7.2.1 s7.2.2.1) (GInt.mk s7.2.2.2.1 s7.2.2.2.2)),s7.1))
 (fun k7=>
 (bif decide (r22=0) then
 (zcH fuel den).bind fun r28=>
 (zbt fuel r11.1.Den r28).bind fun r29=>
 k7 (decide (r29=0),r11.1.Num.Neg,r11.1.Num.Digits,r11.1.Den.Neg,r11.1.Den.Digits)
 else
 k7 (false,r11.1.Num.Neg,r11.1.Num.Digits,r11.1.Den.Neg,r11.1.Den.Digits))))
theorem zg7 (F0:Frz)(w:World)(hF0:F0.At w)(num:Int)(den:Int)(fuel:Nat)(r:GRatio×Bool)(hr:zck fuel num den=some r):Calls Tryz.prog 107 #[.int .i64 num, .int .i64 den] w fun e w'=>∃(y:Value×Value) (G:Frz),(SlC G y.1 1 (r.1.Num.Digits.map (eK .u8))∧SlC G y.2 1 (r.1.Den.Digits.map (eK .u8)))∧e= .returned (.tuple #[.agg [.bool r.1.Num.Neg,y.1, .bool r.1.Den.Neg,y.2].toArray, .bool r.2])∧Fx F0 w G w':=by
 have hk:=hr;unfold zck at hk;obtain ⟨S0,F1,rfl,hS0,hp0⟩:=eC hF0;refine dS Tryz.func107 rfl rfl rfl hp0 ?_;refine ey ?_;refine fG ?_;rintro _ _ ⟨g4,rfl,rfl⟩;refine fV ?_;have hq:=dC hk;clear hk;obtain ⟨r11,hr11,hk⟩:=hq; (try dsimp only at hk);refine fa ?_;refine dc (dp 1 rfl rfl rfl rfl (fun w hw hF=>zja _ w hF num den fuel r11 hr11)) ?_;rintro _ _ ⟨⟨v11_0_1,v11_0_3⟩,F2,le1_2,⟨hf11_0_1,hf11_0_3⟩,rfl,rfl⟩;dsimp only at hf11_0_1 hf11_0_3 ⊢;haveI:=hf11_0_1.oneC;haveI:=hf11_0_3.oneC;refine lG ?_;rintro _ _ ⟨g6,rfl,rfl⟩;refine fS ?_;refine kp ?_;refine T.cond rfl (fun h1=>?_) (fun h1=>?_)
 ·have p1:=of_decide_eq_true h1;replace hk:=dt hk h1;refine kJ ?_;refine kM ?_;refine iI ?_;obtain rfl:=Option.some.inj hk;exact fY 1 rfl rfl rfl rfl rfl (fun w' hw=>⟨((.slice none 0 0),(.slice none 0 0)),F2.toFrz,⟨(SlC.nil _ 1),(SlC.nil _ 1)⟩,rfl,dO hw (i:=2) rfl hS0 le1_2⟩)
 ·have p1:=of_decide_eq_false h1;replace hk:=dw hk h1;refine fT ?_;have hq:=dC hk;clear hk;obtain ⟨r21,hr21,hk⟩:=hq;have hq:=dC hk;clear hk;obtain ⟨r22,hr22,hk⟩:=hq; (try dsimp only at hk);have hq:=d7 hk;clear hk;obtain ⟨k7,hk7,hk⟩:=hq; (try dsimp only at hk);refine dk (ι:=Bool×Bool×List Int×Value×Bool×List Int×Value×FzB w (fun _=>False) S0) (fun z=>[(4, .pointer (some ⟨g4,0,none⟩)),(5, .bool z.1)]) (fun z=>[.row g4 28 [.bool z.2.1,z.2.2.2.1, .bool z.2.2.2.2.1,z.2.2.2.2.2.2.1], .fr z.2.2.2.2.2.2.2]) (fun z=>k7 (z.1,z.2.1,z.2.2.1,z.2.2.2.2.1,z.2.2.2.2.2.1)=some r∧SlC z.2.2.2.2.2.2.2.toFrz z.2.2.2.1 1 (z.2.2.1.map (eK .u8))∧SlC z.2.2.2.2.2.2.2.toFrz z.2.2.2.2.2.2.1 1 (z.2.2.2.2.2.1.map (eK .u8))∧F2.toFrz.Le z.2.2.2.2.2.2.2.toFrz) ?_ ?_
  ·refine d5 (sN 0 4 (.eff 4 (.eff 5 (sN 6 5 (.eff 11 (.eff 12 (sN 13 2 (.eff 15 (.still 16 .done))))))))) [.row g6 28 [.bool r11.1.Num.Neg,v11_0_1, .bool r11.1.Den.Neg,v11_0_3], .fr F2] a9 Sx ?_;refine q2o ?_;refine jt ?_;refine c9 rfl (eR 0 (m:=[.bool r11.1.Num.Neg,v11_0_1])) ?_;refine q4k ?_;refine di rfl (cZ) rfl rfl (dp 2 rfl rfl rfl rfl (fun w hw hF=>zdY _ w hF num fuel r21 hr21)) ?_;rintro _ _ ⟨v21_0_1,F4,le2_4,hf21_0_1,rfl,rfl⟩;haveI:=hf21_0_1.oneC;refine q28 ?_;refine dZ ?_;refine di rfl (cZ) rfl rfl (dh rfl rfl rfl (fun w hw=>zcr _ w (hw.fr (i:=2) rfl) r11.1.Num v11_0_1 (SlC.mono hf11_0_1 le2_4) r21 v21_0_1 hf21_0_1 fuel r22 hr22)) ?_;refine ez ?_;refine q28 ?_;refine fR ?_;refine fh rfl rfl rfl rfl (fun h8=>?_) (fun h8=>?_)
   ·have p8:=of_decide_eq_true h8;replace hk:=dt hk h8;refine jt ?_;refine c9 rfl (eR 0 (m:=[.bool r11.1.Den.Neg,v11_0_3])) ?_;refine q4k ?_;have hq:=dC hk;clear hk;obtain ⟨r28,hr28,hk⟩:=hq;refine di rfl (Wt.some) rfl rfl (dp 2 rfl rfl rfl rfl (fun w hw hF=>zdY _ w hF den fuel r28 hr28)) ?_;rintro _ _ ⟨v28_0_1,F5,le4_5,hf28_0_1,rfl,rfl⟩;have le2_5:=le2_4.trans le4_5;haveI:=hf28_0_1.oneC;refine ⟨(fun w hw=>(hw.frLe (i:=2) rfl le2_5).sub Sx),?_⟩;refine dZ ?_;have hq:=dC hk;clear hk;obtain ⟨r29,hr29,hk⟩:=hq;refine di rfl (Wt.some) rfl rfl (dh rfl rfl rfl (fun w hw=>zcr _ w (hw.fr (i:=2) rfl) r11.1.Den v11_0_3 (SlC.mono hf11_0_3 le2_5) r28 v28_0_1 hf28_0_1 fuel r29 hr29)) ?_;refine ez ?_;refine ⟨(fun w hw=>(hw.frLe (i:=2) rfl le2_5).sub Sx),?_⟩;refine fR ?_;refine q2u ?_;refine ⟨(fun w hw=>(hw.frLe (i:=2) rfl le2_5).sub Sx),?_⟩;refine jb ?_;refine q3R ?_;exact de (decide (r29=0),r11.1.Num.Neg,r11.1.Num.Digits,v11_0_1,r11.1.Den.Neg,r11.1.Den.Digits,v11_0_3,F5) ⟨hk,(SlC.mono hf11_0_1 le2_5),(SlC.mono hf11_0_3 le2_5),le2_5⟩ (.c (.c .nil)) (List.Sublist.refl _)
   ·have p8:=of_decide_eq_false h8;replace hk:=dw hk h8;refine gG ?_;refine lL ?_;refine lL ?_;refine fR ?_;refine q2u ?_;refine q28 ?_;refine jb ?_;refine q3R ?_;exact de (false,r11.1.Num.Neg,r11.1.Num.Digits,v11_0_1,r11.1.Den.Neg,r11.1.Den.Digits,v11_0_3,F4) ⟨hk,(SlC.mono hf11_0_1 le2_4),(SlC.mono hf11_0_3 le2_4),le2_4⟩ (.c (.c .nil)) (List.Sublist.refl _)
  ·rintro ⟨x_2,c_3,c_4,vc_4,c_5,c_6,vc_6,F3⟩ ⟨hk,hc_4,hc_6,le2_3⟩; (try dsimp only at *);rw [←hk7] at hk; (try dsimp only at hk);have le1_3:=le1_2.trans le2_3;haveI:=hc_4.oneC;haveI:=hc_6.oneC;refine T.ret ?_;obtain rfl:=Option.some.inj hk;exact fY 0 rfl rfl rfl rfl rfl (fun w' hw=>⟨(vc_4,vc_6),F3.toFrz,⟨hc_4,hc_6⟩,rfl,dO hw (i:=1) rfl hS0 le1_3⟩)
def za3 (b:GBidder)(xf0_:Int):Bool:=
 (decide (b.ID=xf0_))
theorem zdf (F0:Frz)(w:World)(hF0:F0.At w)(b:GBidder)(vb_3:Value)(hb_3:SlC F0 vb_3 1 (b.Blocks.map eI))(xf0_:Int)(gf0_:Nat)(hO:Hp w (dB [.row gf0_ 3 [.int .i64 xf0_]]) [.row gf0_ 3 [.int .i64 xf0_]] w)(hA:∀g,dB [.row gf0_ 3 [.int .i64 xf0_]] g→¬F0.S g):Calls Tryz.prog 119 #[.agg [.int .i64 b.ID, .int .i64 b.Eligibility, .int .i64 b.Waivers,vb_3].toArray, .pointer (some ⟨gf0_,0,none⟩)] w fun e w'=>∃(y:Unit),(True)∧e= .returned (.bool (za3 b xf0_))∧FxM F0 w (dB [.row gf0_ 3 [.int .i64 xf0_]]) F0 [.row gf0_ 3 [.int .i64 xf0_]] w':=by
 obtain ⟨r,hk⟩:∃r,za3 b xf0_=r:=⟨_,rfl⟩;rw [hk];unfold za3 at hk;haveI:=hb_3.oneC;obtain ⟨S0,F1,rfl,hS0,hp0⟩:=fI hF0 hO hA;refine dS (hs:=[.row gf0_ 3 [.int .i64 xf0_], .fr F1]) Tryz.func119 rfl rfl rfl hp0 ?_;refine gN ?_;rintro _ _ ⟨g2,rfl,rfl⟩;refine iC ?_;refine ga ?_;refine cW (dK 1) ?_;refine ld ?_;subst hk;exact q4L
def gw (s:List GBidder)(x1c0_:Int):Int:=
 dM (fun (_:Unit)=>
 (-1))
 (fun k1=>
 dN (fun (i_3:Nat) (next2:Unit→Int) (_:Unit)=>
 (bif (za3 (nth s i_3) x1c0_) then
 (i_3:Int)
 else
 next2 ()))
 (fun (_:Unit)=>
 k1 ()) (s.length - 0) 0 ())
theorem zbK (F0:Frz)(w:World)(hF0:F0.At w)(s:List GBidder)(vs:Value)(cs:List (List Value))(hs:SlD cX F0 vs 4 cs s)(x1c0_:Int)(g1c0_:Nat)(hO:Hp w (dB [.row g1c0_ 3 [.int .i64 x1c0_]]) [.row g1c0_ 3 [.int .i64 x1c0_]] w)(hA:∀g,dB [.row g1c0_ 3 [.int .i64 x1c0_]] g→¬F0.S g):Calls Tryz.prog 118 #[vs, .func (.func 119) #[] #[.pointer (some ⟨g1c0_,0,none⟩)]] w fun e w'=>∃(y:Unit),(True)∧e= .returned (.int .i64 (gw s x1c0_))∧FxM F0 w (dB [.row g1c0_ 3 [.int .i64 x1c0_]]) F0 [.row g1c0_ 3 [.int .i64 x1c0_]] w':=by
 obtain ⟨r,hk⟩:∃r,gw s x1c0_=r:=⟨_,rfl⟩;rw [hk];unfold gw at hk;haveI:=hs.1.oneC;obtain ⟨S0,F1,rfl,hS0,hp0⟩:=fI hF0 hO hA;refine dS (hs:=[.row g1c0_ 3 [.int .i64 x1c0_], .fr F1]) Tryz.func118 rfl rfl rfl hp0 ?_;refine jn ?_;refine cW (dE rfl rfl hs.1 hs.2.1) ?_;have hm7:s.length≤9223372036854775807:=hs.2.1▸hs.1.max;refine d9 ?_;have hq:=d7 hk;clear hk;obtain ⟨k1,hk1,hk⟩:=hq; (try dsimp only at hk);refine dk (ι:=Unit) (fun z=>[]) (fun z=>[.row g1c0_ 3 [.int .i64 x1c0_], .fr F1]) (fun z=>k1 ()=r) ?_ ?_
 ·have hq:=fP hk;clear hk;obtain ⟨f2,kk2,hf2,hkk2,hk⟩:=hq;refine eW ?_;refine T.loop (ι:=Nat) (fun z=>[(0,vs),(1, .func (.func 119) #[] #[.pointer (some ⟨g1c0_,0,none⟩)]),(7, .int .i64 (s.length:Int)),(8, .int .i64 (z:Int))]) (fun z=>[.row g1c0_ 3 [.int .i64 x1c0_], .fr F1]) (fun z=>dN f2 kk2 (s.length - z) z ()=r) (fun z=>s.length - z) 0 ?_ ?_ ?_ ?_
  ·exact hk
  ·exact jU
  ·exact eT
  ·rintro i_3 hk;refine ff ?_;refine T.cond rfl (fun h4=>?_) (fun h4=>?_)
   ·have p4:=of_decide_eq_true h4;rw [fN a7] at hk;generalize hn2:dN f2 kk2 (s.length - (i_3+1)) (i_3+1)=next2 at hk;rw [←hf2] at hk; (try dsimp only at hk);refine q2R ?_;have hd15_3:=(fo (hs.2.2 i_3 a7)).2;haveI:=hd15_3.oneC;refine dc (dD [0,1] [.row g1c0_ 3 [.int .i64 x1c0_]] [] rfl rfl rfl rfl a8 (fun w hw hw2 hF=>zdf _ w hF (nth s i_3) (nth (nth cs i_3) 3) hd15_3 x1c0_ g1c0_ hw2.takes.1 hw2.takes.2)) ?_;rintro _ _ ⟨⟨⟩, -,rfl,rfl⟩;refine mq ?_;refine T.cond rfl (fun h5=>?_) (fun h5=>?_)
    ·replace hk:=dt hk h5;refine gI ?_;refine kU ?_;subst hk;exact lZ
    ·replace hk:=dw hk h5;refine mf ?_;rw [←hn2] at hk;exact q4F
   ·have p4:=of_decide_eq_false h4;rw [fO a7,←hkk2] at hk; (try dsimp only at hk);refine fb ?_;exact lK
 ·rintro _ hk;rw [←hk1] at hk; (try dsimp only at hk);refine kS ?_;subst hk;exact lZ
def zba (x0_:GAuction)(id:Int):Option (GBidder×Int):=
 (bif (ms x0_) then
 some ((GBidder.mk 0 0 0 []),1)
 else
 (bif decide ((gw x0_.bidders id)<0) then
 some ((GBidder.mk 0 0 0 []),9)
 else
 dz (0≤wI ((gw x0_.bidders id)+1)∧wI ((gw x0_.bidders id)+1)≤(x0_.bidders.length:Int)) <|
 dz (0≤(gw x0_.bidders id)∧(gw x0_.bidders id)≤(wI ((gw x0_.bidders id)+1):Int)) <|
 dz (mC ((x0_.bidders.take ((wI ((gw x0_.bidders id)+1)).toNat)).drop ((gw x0_.bidders id).toNat))) <|
 dz (0≤0∧0<(((x0_.bidders.take ((wI ((gw x0_.bidders id)+1)).toNat)).drop ((gw x0_.bidders id).toNat)).length:Int)) <|
 some ((nth ((x0_.bidders.take ((wI ((gw x0_.bidders id)+1)).toNat)).drop ((gw x0_.bidders id).toNat)) 0),0)))
theorem zcg (F0:Frz)(w:World)(hF0:F0.At w)(x0_:GAuction)(g0_:Nat)(v0_0:Value)(h0_0:SlC F0 v0_0 5 (x0_.catalogue.map df))(v0_1:Value)(c0_1:List (List Value))(h0_1:SlD cX F0 v0_1 4 c0_1 x0_.bidders)(v0_4:Value)(h0_4:SlC F0 v0_4 1 (x0_.key.map (eK .u8)))(v0_6:Value)(h0_6:SlC F0 v0_6 1 (x0_.prices.map eI))(id:Int)(hO:Hp w (dB [.row g0_ 104 [v0_0,v0_1, .int .i64 x0_.increment.Activity, .int .i64 x0_.increment.Step,v0_4, .int .i64 x0_.rounds,v0_6]]) [.row g0_ 104 [v0_0,v0_1, .int .i64 x0_.increment.Activity, .int .i64 x0_.increment.Step,v0_4, .int .i64 x0_.rounds,v0_6]] w)(hA:∀g,dB [.row g0_ 104 [v0_0,v0_1, .int .i64 x0_.increment.Activity, .int .i64 x0_.increment.Step,v0_4, .int .i64 x0_.rounds,v0_6]] g→¬F0.S g)(r:GBidder×Int)(hr:zba x0_ id=some r):Calls Tryz.prog 41 #[.pointer (some ⟨g0_,0,none⟩), .int .i64 id] w fun e w'=>∃(y:Value) (G:Frz),(SlC G y 1 (r.1.Blocks.map eI))∧e= .returned (.tuple #[.agg [.int .i64 r.1.ID, .int .i64 r.1.Eligibility, .int .i64 r.1.Waivers,y].toArray, .int .i64 r.2])∧FxM F0 w (dB [.row g0_ 104 [v0_0,v0_1, .int .i64 x0_.increment.Activity, .int .i64 x0_.increment.Step,v0_4, .int .i64 x0_.rounds,v0_6]]) G [.row g0_ 104 [v0_0,v0_1, .int .i64 x0_.increment.Activity, .int .i64 x0_.increment.Step,v0_4, .int .i64 x0_.rounds,v0_6]] w':=by
 have hk:=hr;unfold zba at hk;haveI:=h0_0.oneC;haveI:=h0_1.1.oneC;haveI:=h0_4.oneC;haveI:=h0_6.oneC;obtain ⟨S0,F1,rfl,hS0,hp0⟩:=fI hF0 hO hA;refine dS (hs:=[.row g0_ 104 [v0_0,v0_1, .int .i64 x0_.increment.Activity, .int .i64 x0_.increment.Step,v0_4, .int .i64 x0_.rounds,v0_6], .fr F1]) Tryz.func41 rfl rfl rfl hp0 ?_;refine q34 ?_;rintro _ _ ⟨g3,rfl,rfl⟩;refine fG ?_;rintro _ _ ⟨g4,rfl,rfl⟩;refine iR ?_;refine dc (dD [2,3,0,1] [.row g0_ 104 [v0_0,v0_1, .int .i64 x0_.increment.Activity, .int .i64 x0_.increment.Step,v0_4, .int .i64 x0_.rounds,v0_6]] [.row g4 57 [.int .i64 0, .int .i64 0, .int .i64 0,(.slice none 0 0)], .row g3 3 [.int .i64 id]] rfl rfl rfl rfl a8 (fun w hw hw2 hF=>zax _ w hF x0_ g0_ v0_0 h0_0 v0_1 c0_1 h0_1 v0_4 h0_4 v0_6 h0_6 hw2.takes.1 hw2.takes.2)) ?_;rintro _ _ ⟨⟨⟩, -,rfl,rfl⟩;refine mq ?_;refine T.cond rfl (fun h1=>?_) (fun h1=>?_)
 ·replace hk:=dt hk h1;refine kJ ?_;refine q3O ?_;refine iI ?_;obtain rfl:=Option.some.inj hk;exact fY 2 rfl rfl rfl rfl rfl (fun w' hw=>⟨(.slice none 0 0),F1.toFrz,(SlC.nil _ 1),rfl,dr (hw.pick (idx:=[0,1]) rfl a8) hS0 (Frz.Le.refl _)⟩)
 ·replace hk:=dw hk h1;refine iO ?_;refine ee ?_;refine kg ?_;refine dc (dD [3,1,0,2] [.row g3 3 [.int .i64 id]] [.row g0_ 104 [v0_0,v0_1, .int .i64 x0_.increment.Activity, .int .i64 x0_.increment.Step,v0_4, .int .i64 x0_.rounds,v0_6], .row g4 57 [.int .i64 0, .int .i64 0, .int .i64 0,(.slice none 0 0)]] rfl rfl rfl rfl a8 (fun w hw hw2 hF=>zbK _ w hF x0_.bidders v0_1 c0_1 h0_1 id g3 hw2.takes.1 hw2.takes.2)) ?_;rintro _ _ ⟨⟨⟩, -,rfl,rfl⟩;refine eS ?_;refine kp ?_;refine T.cond rfl (fun h2=>?_) (fun h2=>?_)
  ·have p2:=of_decide_eq_true h2;replace hk:=dt hk h2;refine kJ ?_;refine q3Q ?_;refine iI ?_;obtain rfl:=Option.some.inj hk;exact fY 3 rfl rfl rfl rfl rfl (fun w' hw=>⟨(.slice none 0 0),F1.toFrz,(SlC.nil _ 1),rfl,dr (hw.pick (idx:=[2,1]) rfl a8) hS0 (Frz.Le.refl _)⟩)
  ·have p2:=of_decide_eq_false h2;replace hk:=dw hk h2;refine fT ?_;have hq:(0≤wI ((gw x0_.bidders id)+1)∧wI ((gw x0_.bidders id)+1)≤(x0_.bidders.length:Int))∧_:=dH hk;clear hk;obtain ⟨g26h,hk⟩:=hq;have hq:(0≤(gw x0_.bidders id)∧(gw x0_.bidders id)≤(wI ((gw x0_.bidders id)+1):Int))∧_:=dH hk;clear hk;obtain ⟨g26l,hk⟩:=hq;have hq:(mC ((x0_.bidders.take ((wI ((gw x0_.bidders id)+1)).toNat)).drop ((gw x0_.bidders id).toNat)))∧_:=dH hk;clear hk;obtain ⟨g27,hk⟩:=hq;have hq:(0≤0∧0<(((x0_.bidders.take ((wI ((gw x0_.bidders id)+1)).toNat)).drop ((gw x0_.bidders id).toNat)).length:Int))∧_:=dH hk;clear hk;obtain ⟨g28,hk⟩:=hq; (try dsimp only at hk);refine fa ?_;refine fL ?_;refine lm ?_;refine ee ?_;refine cW (dl (v:= .int .i64 (wI ((gw x0_.bidders id)+1)))) ?_;refine cW (Yv.cD (l:=(gw x0_.bidders id).toNat) (i:=(wI ((gw x0_.bidders id)+1)).toNat) rfl rfl rfl rfl h0_1.1 h0_1.2.1 a7 a7 a7 a7) ?_;have hs26_:SlD cX F1.toFrz (gr v0_1 ((gw x0_.bidders id).toNat) ((wI ((gw x0_.bidders id)+1)).toNat) 4) 4 ((c0_1.take ((wI ((gw x0_.bidders id)+1)).toNat)).drop ((gw x0_.bidders id).toNat)) ((x0_.bidders.take ((wI ((gw x0_.bidders id)+1)).toNat)).drop ((gw x0_.bidders id).toNat)):=h0_1.slicelh (l:=(gw x0_.bidders id).toNat) (i:=(wI ((gw x0_.bidders id)+1)).toNat) a7 a7;haveI:=hs26_.1.oneC;refine dc (dp 1 rfl rfl rfl rfl (fun w hw hF=>ziE _ w hF ((x0_.bidders.take ((wI ((gw x0_.bidders id)+1)).toNat)).drop ((gw x0_.bidders id).toNat)) (gr v0_1 ((gw x0_.bidders id).toNat) ((wI ((gw x0_.bidders id)+1)).toNat) 4) ((c0_1.take ((wI ((gw x0_.bidders id)+1)).toNat)).drop ((gw x0_.bidders id).toNat)) hs26_ g27)) ?_;rintro _ _ ⟨⟨v27_,c27_⟩,F2,le1_2,hf27,hq,rfl⟩;obtain rfl:=hq.symm;dsimp only at hf27 ⊢;haveI:=hf27.1.oneC;refine cW (dq (i:=0) rfl rfl rfl hf27.1 hf27.2.1 (show (0:Int)=((0:Nat):Int) from rfl) a7) ?_;refine cW (fk 1 (i:=0) (j:=0) rfl rfl rfl hf27.1 hf27.2.1 a7 rfl (fB (hf27.2.2 0 a7))) ?_;have hd29_3:=(fo (hf27.2.2 0 a7)).2;haveI:=hd29_3.oneC;refine q3Q ?_;refine gJ ?_;obtain rfl:=Option.some.inj hk;exact fY 3 rfl rfl rfl rfl rfl (fun w' hw=>⟨(nth (nth c27_ 0) 3),F2.toFrz,hd29_3,rfl,dr (hw.pick (idx:=[2,1]) rfl a8) hS0 le1_2⟩)
def zbv (x0_:GAuction):Option Int:=
 (bif (ms x0_) then
 some 0
 else
 (zaL x0_).bind fun r9=>
 dM (fun (sum_2:Int)=>
 some sum_2)
 (fun k3=>
 dN (fun (i_6:Nat) (next5:Int→Option Int) (sum_4:Int)=>
 dz (0≤(i_6:Int)∧(i_6:Int)<(x0_.prices.length:Int)) <|
 next5 (wI (sum_4+(wI ((nth r9 i_6) * (nth x0_.prices i_6))))))
 (fun (sum_4:Int)=>
 k3 sum_4) (r9.length - 0) 0 0))
theorem zdd (F0:Frz)(w:World)(hF0:F0.At w)(x0_:GAuction)(g0_:Nat)(v0_0:Value)(h0_0:SlC F0 v0_0 5 (x0_.catalogue.map df))(v0_1:Value)(c0_1:List (List Value))(h0_1:SlD cX F0 v0_1 4 c0_1 x0_.bidders)(v0_4:Value)(h0_4:SlC F0 v0_4 1 (x0_.key.map (eK .u8)))(v0_6:Value)(h0_6:SlC F0 v0_6 1 (x0_.prices.map eI))(hO:Hp w (dB [.row g0_ 104 [v0_0,v0_1, .int .i64 x0_.increment.Activity, .int .i64 x0_.increment.Step,v0_4, .int .i64 x0_.rounds,v0_6]]) [.row g0_ 104 [v0_0,v0_1, .int .i64 x0_.increment.Activity, .int .i64 x0_.increment.Step,v0_4, .int .i64 x0_.rounds,v0_6]] w)(hA:∀g,dB [.row g0_ 104 [v0_0,v0_1, .int .i64 x0_.increment.Activity, .int .i64 x0_.increment.Step,v0_4, .int .i64 x0_.rounds,v0_6]] g→¬F0.S g)(r:Int)(hr:zbv x0_=some r):Calls Tryz.prog 43 #[.pointer (some ⟨g0_,0,none⟩)] w fun e w'=>∃(y:Unit),(True)∧e= .returned (.int .i64 r)∧FxM F0 w (dB [.row g0_ 104 [v0_0,v0_1, .int .i64 x0_.increment.Activity, .int .i64 x0_.increment.Step,v0_4, .int .i64 x0_.rounds,v0_6]]) F0 [.row g0_ 104 [v0_0,v0_1, .int .i64 x0_.increment.Activity, .int .i64 x0_.increment.Step,v0_4, .int .i64 x0_.rounds,v0_6]] w':=by
 have hk:=hr;unfold zbv at hk;haveI:=h0_0.oneC;haveI:=h0_1.1.oneC;haveI:=h0_4.oneC;haveI:=h0_6.oneC;obtain ⟨S0,F1,rfl,hS0,hp0⟩:=fI hF0 hO hA;refine dS (hs:=[.row g0_ 104 [v0_0,v0_1, .int .i64 x0_.increment.Activity, .int .i64 x0_.increment.Step,v0_4, .int .i64 x0_.rounds,v0_6], .fr F1]) Tryz.func43 rfl rfl rfl hp0 ?_;refine jn ?_;refine q0w ?_;rintro _ _ ⟨⟨⟩, -,rfl,rfl⟩;refine mq ?_;refine T.cond rfl (fun h1=>?_) (fun h1=>?_)
 ·replace hk:=dt hk h1;refine il ?_;obtain rfl:=Option.some.inj hk;exact lZ
 ·replace hk:=dw hk h1;refine iO ?_;refine jp ?_;have hq:=dC hk;clear hk;obtain ⟨r9,hr9,hk⟩:=hq; (try dsimp only at hk);refine q19 ?_;rintro v9_0_0 _ ⟨_, -,rfl,rfl⟩;refine kQ ?_;intro iv9_0_0 hmv9_0_0;refine cW (gF 1 rfl rfl rfl) ?_;refine d9 ?_;have hq:=d7 hk;clear hk;obtain ⟨k3,hk3,hk⟩:=hq; (try dsimp only at hk);refine dk (ι:=Int) (fun z=>[(3, .int .i64 z)]) (fun z=>[.row g0_ 104 [v0_0,v0_1, .int .i64 x0_.increment.Activity, .int .i64 x0_.increment.Step,v0_4, .int .i64 x0_.rounds,v0_6], .fr F1]) (fun z=>k3 z=some r) ?_ ?_
  ·have hq:=fP hk;clear hk;obtain ⟨f5,kk5,hf5,hkk5,hk⟩:=hq;refine eW ?_;refine T.loop (ι:=Nat×Int) (fun z=>[(0, .pointer (some ⟨g0_,0,none⟩)),(3, .int .i64 z.2),(9,v9_0_0),(10, .int .i64 (r9.length:Int)),(11, .int .i64 (z.1:Int))]) (fun z=>[.row g0_ 104 [v0_0,v0_1, .int .i64 x0_.increment.Activity, .int .i64 x0_.increment.Step,v0_4, .int .i64 x0_.rounds,v0_6], .sl v9_0_0 3 1 r9.length (r9.flatMap eI), .fr F1]) (fun z=>dN f5 kk5 (r9.length - z.1) z.1 z.2=some r) (fun z=>r9.length - z.1) (0,0) ?_ ?_ ?_ ?_
   ·exact hk
   ·exact jM
   ·exact eT
   ·rintro ⟨i_6,sum_4⟩ hk; (try dsimp only at *);refine ff ?_;refine T.cond rfl (fun h7=>?_) (fun h7=>?_)
    ·have p7:=of_decide_eq_true h7;rw [fN a7] at hk;generalize hn5:dN f5 kk5 (r9.length - (i_6+1)) (i_6+1)=next5 at hk;rw [←hf5] at hk; (try dsimp only at hk);refine q20 ?_;have hq:(0≤(i_6:Int)∧(i_6:Int)<(x0_.prices.length:Int))∧_:=dH hk;clear hk;obtain ⟨g23,hk⟩:=hq; (try dsimp only at hk);refine lB ?_;refine kg ?_;refine cW (dq (i:=i_6) rfl rfl rfl h0_6 (List.length_map _) rfl a7) ?_;refine cW (dP 2 (i:=i_6) (j:=0) rfl rfl rfl h0_6 a7) ?_;refine cW (dl (v:= .int .i64 (wI ((nth r9 i_6) * (nth x0_.prices i_6))))) ?_;refine cW (dl (v:= .int .i64 (wI (sum_4+(wI ((nth r9 i_6) * (nth x0_.prices i_6))))))) ?_;refine dJ ?_;refine jk ?_;rw [←hn5] at hk;exact K.next ((i_6+1),wI (sum_4+(wI ((nth r9 i_6) * (nth x0_.prices i_6))))) hk b3 (.c (.c (.c (.c (.c .nil))))) (List.Sublist.refl _)
    ·have p7:=of_decide_eq_false h7;rw [fO a7,←hkk5] at hk; (try dsimp only at hk);refine fb ?_;refine K.pick [0,2] rfl a8 ?_;exact de sum_4 hk (.c .nil) (List.Sublist.refl _)
  ·rintro sum_2 hk;rw [←hk3] at hk; (try dsimp only at hk);refine lY ?_;obtain rfl:=Option.some.inj hk;exact lZ
def zbL (x0_:GAuction):Option Int:=
 (bif (ms x0_) then
 some 0
 else
 (zaL x0_).bind fun r9=>
 dM (fun (sum_2:Int)=>
 some sum_2)
 (fun k3=>
 dN (fun (i_6:Nat) (next5:Int→Option Int) (sum_4:Int)=>
 dz (0≤(i_6:Int)∧(i_6:Int)<(x0_.catalogue.length:Int)) <|
 next5 (wI (sum_4+(wI ((nth r9 i_6) * ((nth x0_.catalogue i_6).Units))))))
 (fun (sum_4:Int)=>
 k3 sum_4) (r9.length - 0) 0 0))
theorem zdD (F0:Frz)(w:World)(hF0:F0.At w)(x0_:GAuction)(g0_:Nat)(v0_0:Value)(h0_0:SlC F0 v0_0 5 (x0_.catalogue.map df))(v0_1:Value)(c0_1:List (List Value))(h0_1:SlD cX F0 v0_1 4 c0_1 x0_.bidders)(v0_4:Value)(h0_4:SlC F0 v0_4 1 (x0_.key.map (eK .u8)))(v0_6:Value)(h0_6:SlC F0 v0_6 1 (x0_.prices.map eI))(hO:Hp w (dB [.row g0_ 104 [v0_0,v0_1, .int .i64 x0_.increment.Activity, .int .i64 x0_.increment.Step,v0_4, .int .i64 x0_.rounds,v0_6]]) [.row g0_ 104 [v0_0,v0_1, .int .i64 x0_.increment.Activity, .int .i64 x0_.increment.Step,v0_4, .int .i64 x0_.rounds,v0_6]] w)(hA:∀g,dB [.row g0_ 104 [v0_0,v0_1, .int .i64 x0_.increment.Activity, .int .i64 x0_.increment.Step,v0_4, .int .i64 x0_.rounds,v0_6]] g→¬F0.S g)(r:Int)(hr:zbL x0_=some r):Calls Tryz.prog 44 #[.pointer (some ⟨g0_,0,none⟩)] w fun e w'=>∃(y:Unit),(True)∧e= .returned (.int .i64 r)∧FxM F0 w (dB [.row g0_ 104 [v0_0,v0_1, .int .i64 x0_.increment.Activity, .int .i64 x0_.increment.Step,v0_4, .int .i64 x0_.rounds,v0_6]]) F0 [.row g0_ 104 [v0_0,v0_1, .int .i64 x0_.increment.Activity, .int .i64 x0_.increment.Step,v0_4, .int .i64 x0_.rounds,v0_6]] w':=by
 have hk:=hr;unfold zbL at hk;haveI:=h0_0.oneC;haveI:=h0_1.1.oneC;haveI:=h0_4.oneC;haveI:=h0_6.oneC;obtain ⟨S0,F1,rfl,hS0,hp0⟩:=fI hF0 hO hA;refine dS (hs:=[.row g0_ 104 [v0_0,v0_1, .int .i64 x0_.increment.Activity, .int .i64 x0_.increment.Step,v0_4, .int .i64 x0_.rounds,v0_6], .fr F1]) Tryz.func44 rfl rfl rfl hp0 ?_;refine jn ?_;refine q0w ?_;rintro _ _ ⟨⟨⟩, -,rfl,rfl⟩;refine mq ?_;refine T.cond rfl (fun h1=>?_) (fun h1=>?_)
 ·replace hk:=dt hk h1;refine il ?_;obtain rfl:=Option.some.inj hk;exact lZ
 ·replace hk:=dw hk h1;refine iO ?_;refine jp ?_;have hq:=dC hk;clear hk;obtain ⟨r9,hr9,hk⟩:=hq; (try dsimp only at hk);refine q19 ?_;rintro v9_0_0 _ ⟨_, -,rfl,rfl⟩;refine kQ ?_;intro iv9_0_0 hmv9_0_0;refine cW (gF 1 rfl rfl rfl) ?_;refine d9 ?_;have hq:=d7 hk;clear hk;obtain ⟨k3,hk3,hk⟩:=hq; (try dsimp only at hk);refine dk (ι:=Int) (fun z=>[(3, .int .i64 z)]) (fun z=>[.row g0_ 104 [v0_0,v0_1, .int .i64 x0_.increment.Activity, .int .i64 x0_.increment.Step,v0_4, .int .i64 x0_.rounds,v0_6], .fr F1]) (fun z=>k3 z=some r) ?_ ?_
  ·have hq:=fP hk;clear hk;obtain ⟨f5,kk5,hf5,hkk5,hk⟩:=hq;refine eW ?_;refine T.loop (ι:=Nat×Int) (fun z=>[(0, .pointer (some ⟨g0_,0,none⟩)),(3, .int .i64 z.2),(9,v9_0_0),(10, .int .i64 (r9.length:Int)),(11, .int .i64 (z.1:Int))]) (fun z=>[.row g0_ 104 [v0_0,v0_1, .int .i64 x0_.increment.Activity, .int .i64 x0_.increment.Step,v0_4, .int .i64 x0_.rounds,v0_6], .sl v9_0_0 3 1 r9.length (r9.flatMap eI), .fr F1]) (fun z=>dN f5 kk5 (r9.length - z.1) z.1 z.2=some r) (fun z=>r9.length - z.1) (0,0) ?_ ?_ ?_ ?_
   ·exact hk
   ·exact jM
   ·exact eT
   ·rintro ⟨i_6,sum_4⟩ hk; (try dsimp only at *);refine ff ?_;refine T.cond rfl (fun h7=>?_) (fun h7=>?_)
    ·have p7:=of_decide_eq_true h7;rw [fN a7] at hk;generalize hn5:dN f5 kk5 (r9.length - (i_6+1)) (i_6+1)=next5 at hk;rw [←hf5] at hk; (try dsimp only at hk);refine q20 ?_;have hq:(0≤(i_6:Int)∧(i_6:Int)<(x0_.catalogue.length:Int))∧_:=dH hk;clear hk;obtain ⟨g23,hk⟩:=hq; (try dsimp only at hk);refine lB ?_;refine kg ?_;refine cW (dq (i:=i_6) rfl rfl rfl h0_0 (List.length_map _) rfl a7) ?_;refine cW (fv rfl rfl h0_0 (List.length_map _) a7) ?_;refine cW (dP 2 (i:=i_6) (j:=3) rfl rfl rfl h0_0 a7) ?_;refine cW (dl (v:= .int .i64 (wI ((nth r9 i_6) * ((nth x0_.catalogue i_6).Units))))) ?_;refine cW (dl (v:= .int .i64 (wI (sum_4+(wI ((nth r9 i_6) * ((nth x0_.catalogue i_6).Units))))))) ?_;refine dJ ?_;refine jk ?_;rw [←hn5] at hk;exact K.next ((i_6+1),wI (sum_4+(wI ((nth r9 i_6) * ((nth x0_.catalogue i_6).Units))))) hk b3 (.c (.c (.c (.c (.c .nil))))) (List.Sublist.refl _)
    ·have p7:=of_decide_eq_false h7;rw [fO a7,←hkk5] at hk; (try dsimp only at hk);refine fb ?_;refine K.pick [0,2] rfl a8 ?_;exact de sum_4 hk (.c .nil) (List.Sublist.refl _)
  ·rintro sum_2 hk;rw [←hk3] at hk; (try dsimp only at hk);refine lY ?_;obtain rfl:=Option.some.inj hk;exact lZ
def zaG (x0_:GReader):Int:=
 (bif !(za7 x0_) then
 1
 else
 x0_.fault.first)
theorem zep (F0:Frz)(w:World)(hF0:F0.At w)(x0_:GReader)(g0_:Nat)(v0_2:Value)(hO:Hp w (dB [.row g0_ 232 [.int .i64 x0_.fault.first, .bool x0_.made,v0_2, .int .i64 x0_.at_], .sl v0_2 5 1 x0_.in_.length (x0_.in_.flatMap (eK .u8))]) [.row g0_ 232 [.int .i64 x0_.fault.first, .bool x0_.made,v0_2, .int .i64 x0_.at_], .sl v0_2 5 1 x0_.in_.length (x0_.in_.flatMap (eK .u8))] w)(hA:∀g,dB [.row g0_ 232 [.int .i64 x0_.fault.first, .bool x0_.made,v0_2, .int .i64 x0_.at_], .sl v0_2 5 1 x0_.in_.length (x0_.in_.flatMap (eK .u8))] g→¬F0.S g):Calls Tryz.prog 104 #[.pointer (some ⟨g0_,0,none⟩)] w fun e w'=>∃(y:Unit),(True)∧e= .returned (.int .i64 (zaG x0_))∧FxM F0 w (dB [.row g0_ 232 [.int .i64 x0_.fault.first, .bool x0_.made,v0_2, .int .i64 x0_.at_], .sl v0_2 5 1 x0_.in_.length (x0_.in_.flatMap (eK .u8))]) F0 [.row g0_ 232 [.int .i64 x0_.fault.first, .bool x0_.made,v0_2, .int .i64 x0_.at_], .sl v0_2 5 1 x0_.in_.length (x0_.in_.flatMap (eK .u8))] w':=by
 obtain ⟨r,hk⟩:∃r,zaG x0_=r:=⟨_,rfl⟩;rw [hk];unfold zaG at hk;haveI:=gK (hO.own (.sl v0_2 5 1 x0_.in_.length (x0_.in_.flatMap (eK .u8))) b4);have hmx0_2:=gZ (hO.own (.sl v0_2 5 1 x0_.in_.length (x0_.in_.flatMap (eK .u8))) b4);obtain ⟨S0,F1,rfl,hS0,hp0⟩:=fI hF0 hO hA;refine dS (hs:=[.row g0_ 232 [.int .i64 x0_.fault.first, .bool x0_.made,v0_2, .int .i64 x0_.at_], .sl v0_2 5 1 x0_.in_.length (x0_.in_.flatMap (eK .u8)), .fr F1]) Tryz.func104 rfl rfl rfl hp0 ?_;refine q2r ?_;rintro _ _ ⟨⟨⟩, -,rfl,rfl⟩;refine eS ?_;refine d9 ?_;refine T.cond rfl (fun h1=>?_) (fun h1=>?_)
 ·replace hk:=dt hk h1;refine il ?_;subst hk;exact q4D
 ·replace hk:=dw hk h1;refine iO ?_;refine ee ?_;refine fL ?_;refine ga ?_;refine gJ ?_;subst hk;exact q4D
def mj (x0_:GReader):Int:=
 (bif !(za7 x0_) then
 1
 else
 (bif ((decide (x0_.fault.first=0))&&(decide (x0_.at_<(x0_.in_.length:Int)))) then
 5
 else
 x0_.fault.first))
theorem zem (F0:Frz)(w:World)(hF0:F0.At w)(x0_:GReader)(g0_:Nat)(v0_2:Value)(hO:Hp w (dB [.row g0_ 232 [.int .i64 x0_.fault.first, .bool x0_.made,v0_2, .int .i64 x0_.at_], .sl v0_2 5 1 x0_.in_.length (x0_.in_.flatMap (eK .u8))]) [.row g0_ 232 [.int .i64 x0_.fault.first, .bool x0_.made,v0_2, .int .i64 x0_.at_], .sl v0_2 5 1 x0_.in_.length (x0_.in_.flatMap (eK .u8))] w)(hA:∀g,dB [.row g0_ 232 [.int .i64 x0_.fault.first, .bool x0_.made,v0_2, .int .i64 x0_.at_], .sl v0_2 5 1 x0_.in_.length (x0_.in_.flatMap (eK .u8))] g→¬F0.S g):Calls Tryz.prog 108 #[.pointer (some ⟨g0_,0,none⟩)] w fun e w'=>∃(y:Unit),(True)∧e= .returned (.int .i64 (mj x0_))∧FxM F0 w (dB [.row g0_ 232 [.int .i64 x0_.fault.first, .bool x0_.made,v0_2, .int .i64 x0_.at_], .sl v0_2 5 1 x0_.in_.length (x0_.in_.flatMap (eK .u8))]) F0 [.row g0_ 232 [.int .i64 x0_.fault.first, .bool x0_.made,v0_2, .int .i64 x0_.at_], .sl v0_2 5 1 x0_.in_.length (x0_.in_.flatMap (eK .u8))] w':=by
 obtain ⟨r,hk⟩:∃r,mj x0_=r:=⟨_,rfl⟩;rw [hk];unfold mj at hk;haveI:=gK (hO.own (.sl v0_2 5 1 x0_.in_.length (x0_.in_.flatMap (eK .u8))) b4);have hmx0_2:=gZ (hO.own (.sl v0_2 5 1 x0_.in_.length (x0_.in_.flatMap (eK .u8))) b4);obtain ⟨S0,F1,rfl,hS0,hp0⟩:=fI hF0 hO hA;refine dS (hs:=[.row g0_ 232 [.int .i64 x0_.fault.first, .bool x0_.made,v0_2, .int .i64 x0_.at_], .sl v0_2 5 1 x0_.in_.length (x0_.in_.flatMap (eK .u8)), .fr F1]) Tryz.func108 rfl rfl rfl hp0 ?_;refine q2r ?_;rintro _ _ ⟨⟨⟩, -,rfl,rfl⟩;refine eS ?_;refine d9 ?_;refine T.cond rfl (fun h1=>?_) (fun h1=>?_)
 ·replace hk:=dt hk h1;refine il ?_;subst hk;exact q4D
 ·replace hk:=dw hk h1;refine q3b ?_;refine dk (ι:=Unit) (fun z=>[(0, .pointer (some ⟨g0_,0,none⟩)),(23, .bool ((decide (x0_.fault.first=0))&&(decide (x0_.at_<(x0_.in_.length:Int)))))]) (fun z=>[.row g0_ 232 [.int .i64 x0_.fault.first, .bool x0_.made,v0_2, .int .i64 x0_.at_], .sl v0_2 5 1 x0_.in_.length (x0_.in_.flatMap (eK .u8)), .fr F1]) (fun z=>True) ?_ ?_
  ·refine d5 (sN 0 17 (.still 17 .done)) _ a9 (List.Sublist.refl _) ?_;refine lF ?_;refine ia ?_;refine fR ?_;refine fh rfl rfl rfl rfl (fun h2=>?_) (fun h2=>?_)
   ·have p2:=of_decide_eq_true h2;refine kP ?_;refine kP ?_;refine c9 rfl (gF 1 rfl rfl rfl) ?_;refine kC ?_;exact de () trivial (.c (.b (jH h2) .nil)) (List.Sublist.refl _)
   ·have p2:=of_decide_eq_false h2;refine TS.run 11 rfl ?_;refine TS.done ?_;exact de () trivial (.c (.b (hJ h2).symm .nil)) (List.Sublist.refl _)
  ·rintro _ _;refine T.cond rfl (fun h3=>?_) (fun h3=>?_)
   ·have p3:=h3; (try simp only [iS] at p3);replace hk:=dt hk h3;refine il ?_;subst hk;exact q4D
   ·replace hk:=dw hk h3;refine iO ?_;refine ee ?_;refine fL ?_;refine ga ?_;refine gJ ?_;subst hk;exact q4D
def zdX (b:List Int):Option (Option GReader):=
 dz (dA ([]++b).length 1) <|
 some (some (GReader.mk (Gfault.mk 0) true ([]++b) 0))
theorem zgS (F0:Frz)(w:World)(hF0:F0.At w)(b:List Int)(vb:Value)(hb:SlC F0 vb 1 (b.map (eK .u8)))(r:Option GReader)(hr:zdX b=some r):Calls Tryz.prog 102 #[vb] w fun e w'=>((r).isSome=true→∃(y:Nat×Value) (G:Frz),(True)∧e= .returned (.pointer (some ⟨y.1,0,none⟩))∧FxM F0 w (dB []) G [.row y.1 232 [.int .i64 ((r.getD default).fault.first), .bool ((r.getD default).made),y.2, .int .i64 ((r.getD default).at_)], .sl y.2 5 1 ((r.getD default).in_).length (((r.getD default).in_).flatMap (eK .u8))] w')∧((r).isSome=false→∃(y:Unit) (G:Frz),(True)∧e= .returned (.pointer none)∧FxM F0 w (dB []) G [] w'):=by
 have hk:=hr;unfold zdX at hk;haveI:=hb.oneC;obtain ⟨S0,F1,rfl,hS0,hp0⟩:=eC hF0;rw [zgs];refine dS Tryz.func102 rfl rfl rfl hp0 ?_;refine ff ?_;have hq:(dA ([]++b).length 1)∧_:=dH hk;clear hk;obtain ⟨g4,hk⟩:=hq; (try dsimp only at hk);refine eA ?_;refine ku ?_;refine dc (ig 0 1 (zfl (fun _=>inferInstance)) rfl rfl rfl rfl rfl hb (zfP (xs:=([]:List Int))) (zfa (xs:=([]:List Int))) g4 a8) ?_;rintro v4 _ ⟨hv4,rfl⟩;refine i9 ?_;refine ln ?_;rintro _ _ ⟨g6,rfl,rfl⟩;refine gJ ?_;obtain rfl:=Option.some.inj hk;exact eZ rfl rfl (fun w' hw=>⟨fun _=>⟨(g6,v4),F1.toFrz,trivial,rfl,dr (hw.pick (idx:=[0,1,2]) rfl a8) hS0 (Frz.Le.refl _)⟩,fun h=>(by cases h)⟩)
def zcp (fuel:Nat)(b:List Int):Option (List GBid×Int):=
 (zdX b).bind fun r15=>
 (bif (r15).isSome then
 (zaM (r15.getD default) 128).bind fun r17=>
 dM (fun (s6:List GBid×Bool×Int×Int)=>
 (bif decide (¬(mj (GReader.mk (Gfault.mk s6.2.2.1) ((r15.getD default).made) ((r15.getD default).in_) s6.2.2.2))=0) then
 some ([],(mj (GReader.mk (Gfault.mk s6.2.2.1) ((r15.getD default).made) ((r15.getD default).in_) s6.2.2.2)))
 else
 dM (fun (x_18:Bool)=>
 (bif x_18 then
 some ([],6)
 else
 some (s6.1,0)))
 (fun k19=>
 (bif !s6.2.1 then
 k19 true
 else
 (zbq fuel s6.1).bind fun r63=>
 k19 (!r63)))))
 (fun k6=>
 fi (fun (next12:(List GBid×Bool×Int×Int×Int)→Option (List GBid×Int)) (s12:List GBid×Bool×Int×Int×Int)=>
 (bif ((decide (s12.2.2.1<r17.1))&&(decide ((zaG (GReader.mk (Gfault.mk s12.2.2.2.1) ((r15.getD default).made) ((r15.getD default).in_) s12.2.2.2.2))=0))) then
 (kz (GReader.mk (Gfault.mk s12.2.2.2.1) ((r15.getD default).made) ((r15.getD default).in_) s12.2.2.2.2)).bind fun r29=>
 (kz (GReader.mk (Gfault.mk r29.2.1) ((r15.getD default).made) ((r15.getD default).in_) r29.2.2)).bind fun r31=>
 (zaQ (GReader.mk (Gfault.mk r31.2.1) ((r15.getD default).made) ((r15.getD default).in_) r31.2.2)).bind fun r33=>
 (kz (GReader.mk (Gfault.mk r33.2.1) ((r15.getD default).made) ((r15.getD default).in_) r33.2.2)).bind fun r36=>
 (kz (GReader.mk (Gfault.mk r36.2.1) ((r15.getD default).made) ((r15.getD default).in_) r36.2.2)).bind fun r38=>
 (zck fuel r36.1 r38.1).bind fun r42=>
 dz (dA (s12.1++[(GBid.mk r29.1 r31.1 r33.1 (GRatio.mk (GInt.mk r42.1.Num.Neg r42.1.Num.Digits) (GInt.mk r42.1.Den.Neg r42.1.Den.Digits)))]).length 88) <|
 next12 ((s12.1++[(GBid.mk r29.1 r31.1 r33.1 (GRatio.mk (GInt.mk r42.1.Num.Neg r42.1.Num.Digits) (GInt.mk r42.1.Den.Neg r42.1.Den.Digits)))]),(s12.2.1&&r42.2),wI (s12.2.2.1+1),r38.2.1,r38.2.2)
 else
 k6 (s12.1,s12.2.1,s12.2.2.2.1,s12.2.2.2.2))) fuel ([],true,0,r17.2.1,r17.2.2))
 else
 none)
theorem zgC (F0:Frz)(w:World)(hF0:F0.At w)(b:List Int)(vb:Value)(hb:SlC F0 vb 1 (b.map (eK .u8)))(fuel:Nat)(r:List GBid×Int)(hr:zcp fuel b=some r):Calls Tryz.prog 36 #[vb] w fun e w'=>∃(y:Value×List (List Value)) (G:Frz),(SlD cY G y.1 7 y.2 r.1)∧e= .returned (.tuple #[y.1, .int .i64 r.2])∧Fx F0 w G w':=by
 have hk:=hr;unfold zcp at hk;haveI:=hb.oneC;obtain ⟨S0,F1,rfl,hS0,hp0⟩:=eC hF0;refine dS Tryz.func36 rfl rfl rfl hp0 ?_;refine gI ?_;refine ft ?_;have hq:=dC hk;clear hk;obtain ⟨r15,hr15,hk⟩:=hq; (try dsimp only at hk);refine jv ((r15).isSome) (fun h1=>?_) (fun h1=>?_)
 ·replace hk:=dt hk h1;refine eA ?_;refine dc (eD [0] [] [] rfl rfl rfl rfl a8 (fun w hw hw2 hF=>(zgS _ w hF b vb hb r15 hr15).mono (fun e w' hp=>hp.1 h1))) ?_;rintro _ _ ⟨⟨g15_n,v15_n_2⟩,F2,le1_2, -,rfl,rfl⟩;refine kQ ?_;intro iv15_n_2 hmv15_n_2;refine fV ?_;have hq:=dC hk;clear hk;obtain ⟨r17,hr17,hk⟩:=hq; (try dsimp only at hk);refine eA ?_;refine dc (dD [0,1,2] [.row g15_n 232 [.int .i64 ((r15.getD default).fault.first), .bool ((r15.getD default).made),v15_n_2, .int .i64 ((r15.getD default).at_)], .sl v15_n_2 5 1 ((r15.getD default).in_).length (((r15.getD default).in_).flatMap (eK .u8))] [] rfl rfl rfl rfl a8 (fun w hw hw2 hF=>zd0 _ w hF (r15.getD default) g15_n v15_n_2 128 hw2.takes.1 hw2.takes.2 r17 hr17)) ?_;rintro _ _ ⟨⟨⟩, -,rfl,rfl⟩;refine eS ?_;refine iC ?_;refine dJ ?_;refine TL.slNil 79 7 ?_;refine eG ?_;refine lQ ?_;refine d9 ?_;have hq:=d7 hk;clear hk;obtain ⟨k6,hk6,hk⟩:=hq; (try dsimp only at hk);refine dk (ι:=List GBid×Value×List (List Value)×Bool×Int×Int×FzB w (fun _=>False) S0) (fun z=>[(4, .pointer (some ⟨g15_n,0,none⟩)),(6,z.2.1),(7, .bool z.2.2.2.1)]) (fun z=>[.sl z.2.1 79 7 z.1.length z.2.2.1.flatten, .row g15_n 232 [.int .i64 z.2.2.2.2.1, .bool ((r15.getD default).made),v15_n_2, .int .i64 z.2.2.2.2.2.1], .sl v15_n_2 5 1 ((r15.getD default).in_).length (((r15.getD default).in_).flatMap (eK .u8)), .fr z.2.2.2.2.2.2]) (fun z=>k6 (z.1,z.2.2.2.1,z.2.2.2.2.1,z.2.2.2.2.2.1)=some r∧OwnD cY z.2.2.2.2.2.2.toFrz 7 z.2.2.1 z.1∧OneC z.2.1∧F2.toFrz.Le z.2.2.2.2.2.2.toFrz) ?_ ?_
  ·have hq:=j9 hk;clear hk;obtain ⟨f12,hf12,hk⟩:=hq;refine eW ?_;refine T.loop (ι:=Nat×List GBid×Value×List (List Value)×Bool×Int×Int×Int×FzB w (fun _=>False) S0) (fun z=>[(4, .pointer (some ⟨g15_n,0,none⟩)),(5, .int .i64 r17.1),(6,z.2.2.1),(7, .bool z.2.2.2.2.1),(8, .int .i64 z.2.2.2.2.2.1)]) (fun z=>[.sl z.2.2.1 79 7 z.2.1.length z.2.2.2.1.flatten, .row g15_n 232 [.int .i64 z.2.2.2.2.2.2.1, .bool ((r15.getD default).made),v15_n_2, .int .i64 z.2.2.2.2.2.2.2.1], .sl v15_n_2 5 1 ((r15.getD default).in_).length (((r15.getD default).in_).flatMap (eK .u8)), .fr z.2.2.2.2.2.2.2.2]) (fun z=>fi f12 z.1 (z.2.1,z.2.2.2.2.1,z.2.2.2.2.2.1,z.2.2.2.2.2.2.1,z.2.2.2.2.2.2.2.1)=some r∧OwnD cY z.2.2.2.2.2.2.2.2.toFrz 7 z.2.2.2.1 z.2.1∧OneC z.2.2.1∧F2.toFrz.Le z.2.2.2.2.2.2.2.2.toFrz) (fun z=>z.1) (fuel,[],(.slice none 0 0),[],true,0,r17.2.1,r17.2.2,F2) ?_ ?_ ?_ ?_
   ·exact ⟨hk,(OwnD.nil _ _ 7),inferInstance,(Frz.Le.refl _)⟩
   ·exact jM
   ·exact eT
   ·rintro ⟨m_13,l_7,vl_7,cl_7,lowest_8,i_9,c_10,c_11,F4⟩ ⟨hk,hl_7,ol_7,le2_4⟩; (try dsimp only at *);have hq:=ka hk;clear hk;obtain ⟨m_13',rfl,hk⟩:=hq;generalize hn12:fi f12 m_13'=next12 at hk;rw [←hf12] at hk; (try dsimp only at hk);refine T.seq (T.seq ?_);refine dk (ι:=Unit) (fun z=>[(4, .pointer (some ⟨g15_n,0,none⟩)),(5, .int .i64 r17.1),(6,vl_7),(7, .bool lowest_8),(8, .int .i64 i_9),(25, .bool ((decide (i_9<r17.1))&&(decide ((zaG (GReader.mk (Gfault.mk c_10) ((r15.getD default).made) ((r15.getD default).in_) c_11))=0))))]) (fun z=>[.sl vl_7 79 7 l_7.length cl_7.flatten, .row g15_n 232 [.int .i64 c_10, .bool ((r15.getD default).made),v15_n_2, .int .i64 c_11], .sl v15_n_2 5 1 ((r15.getD default).in_).length (((r15.getD default).in_).flatMap (eK .u8)), .fr F4]) (fun z=>True) ?_ ?_
    ·refine lB ?_;refine dm rfl rfl rfl (fun h14=>?_) (fun h14=>?_)
     ·have p14:=of_decide_eq_true h14;refine dJ ?_;refine dc (dD [1,2,3,0] [.row g15_n 232 [.int .i64 c_10, .bool ((r15.getD default).made),v15_n_2, .int .i64 c_11], .sl v15_n_2 5 1 ((r15.getD default).in_).length (((r15.getD default).in_).flatMap (eK .u8))] [.sl vl_7 79 7 l_7.length cl_7.flatten] rfl rfl rfl rfl a8 (fun w hw hw2 hF=>zep _ w hF (GReader.mk (Gfault.mk c_10) ((r15.getD default).made) ((r15.getD default).in_) c_11) g15_n v15_n_2 hw2.takes.1 hw2.takes.2)) ?_;rintro _ _ ⟨⟨⟩, -,rfl,rfl⟩;refine eS ?_;refine jh ?_;refine K.pick [3,0,1,2] rfl a8 ?_;exact de () trivial (.c (.c (.c (.c (.c (.b (jH h14) .nil)))))) (List.Sublist.refl _)
     ·have p14:=of_decide_eq_false h14;refine iZ ?_;exact de () trivial (.c (.c (.c (.c (.c (.b (hJ h14).symm .nil)))))) (List.Sublist.refl _)
    ·rintro _ _;refine T.cond rfl (fun h15=>?_) (fun h15=>?_)
     ·have p15:=h15; (try simp only [iS] at p15);replace hk:=dt hk h15;refine q2F ?_;have hq:=dC hk;clear hk;obtain ⟨r29,hr29,hk⟩:=hq;have hq:=dC hk;clear hk;obtain ⟨r31,hr31,hk⟩:=hq;have hq:=dC hk;clear hk;obtain ⟨r33,hr33,hk⟩:=hq; (try dsimp only at hk);refine eA ?_;refine dc (dD [1,2,3,0] [.row g15_n 232 [.int .i64 c_10, .bool ((r15.getD default).made),v15_n_2, .int .i64 c_11], .sl v15_n_2 5 1 ((r15.getD default).in_).length (((r15.getD default).in_).flatMap (eK .u8))] [.sl vl_7 79 7 l_7.length cl_7.flatten] rfl rfl rfl rfl a8 (fun w hw hw2 hF=>zbB _ w hF (GReader.mk (Gfault.mk c_10) ((r15.getD default).made) ((r15.getD default).in_) c_11) g15_n v15_n_2 hw2.takes.1 hw2.takes.2 r29 hr29)) ?_;rintro _ _ ⟨⟨⟩, -,rfl,rfl⟩;refine eS ?_;refine dJ ?_;refine dc (dD [0,1,2,3] [.row g15_n 232 [.int .i64 r29.2.1, .bool ((r15.getD default).made),v15_n_2, .int .i64 r29.2.2], .sl v15_n_2 5 1 ((r15.getD default).in_).length (((r15.getD default).in_).flatMap (eK .u8))] [.sl vl_7 79 7 l_7.length cl_7.flatten] rfl rfl rfl rfl a8 (fun w hw hw2 hF=>zbB _ w hF (GReader.mk (Gfault.mk r29.2.1) ((r15.getD default).made) ((r15.getD default).in_) r29.2.2) g15_n v15_n_2 hw2.takes.1 hw2.takes.2 r31 hr31)) ?_;rintro _ _ ⟨⟨⟩, -,rfl,rfl⟩;refine eS ?_;refine dJ ?_;refine dc (dD [0,1,2,3] [.row g15_n 232 [.int .i64 r31.2.1, .bool ((r15.getD default).made),v15_n_2, .int .i64 r31.2.2], .sl v15_n_2 5 1 ((r15.getD default).in_).length (((r15.getD default).in_).flatMap (eK .u8))] [.sl vl_7 79 7 l_7.length cl_7.flatten] rfl rfl rfl rfl a8 (fun w hw hw2 hF=>zel _ w hF (GReader.mk (Gfault.mk r31.2.1) ((r15.getD default).made) ((r15.getD default).in_) r31.2.2) g15_n v15_n_2 hw2.takes.1 hw2.takes.2 r33 hr33)) ?_;rintro _ _ ⟨⟨⟩, -,rfl,rfl⟩;refine eS ?_;refine i9 ?_;refine fG ?_;rintro _ _ ⟨g9,rfl,rfl⟩;refine fS ?_;refine ft ?_;have hq:=dC hk;clear hk;obtain ⟨r36,hr36,hk⟩:=hq;have hq:=dC hk;clear hk;obtain ⟨r38,hr38,hk⟩:=hq; (try dsimp only at hk);refine eA ?_;refine dc (dD [1,2,3,0,4] [.row g15_n 232 [.int .i64 r33.2.1, .bool ((r15.getD default).made),v15_n_2, .int .i64 r33.2.2], .sl v15_n_2 5 1 ((r15.getD default).in_).length (((r15.getD default).in_).flatMap (eK .u8))] [.row g9 79 [.int .i64 r29.1, .int .i64 r31.1, .int .i64 r33.1, .bool false,(.slice none 0 0), .bool false,(.slice none 0 0)], .sl vl_7 79 7 l_7.length cl_7.flatten] rfl rfl rfl rfl a8 (fun w hw hw2 hF=>zbB _ w hF (GReader.mk (Gfault.mk r33.2.1) ((r15.getD default).made) ((r15.getD default).in_) r33.2.2) g15_n v15_n_2 hw2.takes.1 hw2.takes.2 r36 hr36)) ?_;rintro _ _ ⟨⟨⟩, -,rfl,rfl⟩;refine eS ?_;refine dJ ?_;refine dc (dD [0,1,2,3,4] [.row g15_n 232 [.int .i64 r36.2.1, .bool ((r15.getD default).made),v15_n_2, .int .i64 r36.2.2], .sl v15_n_2 5 1 ((r15.getD default).in_).length (((r15.getD default).in_).flatMap (eK .u8))] [.row g9 79 [.int .i64 r29.1, .int .i64 r31.1, .int .i64 r33.1, .bool false,(.slice none 0 0), .bool false,(.slice none 0 0)], .sl vl_7 79 7 l_7.length cl_7.flatten] rfl rfl rfl rfl a8 (fun w hw hw2 hF=>zbB _ w hF (GReader.mk (Gfault.mk r36.2.1) ((r15.getD default).made) ((r15.getD default).in_) r36.2.2) g15_n v15_n_2 hw2.takes.1 hw2.takes.2 r38 hr38)) ?_;rintro _ _ ⟨⟨⟩, -,rfl,rfl⟩;refine eS ?_;refine ee ?_;refine eG ?_;refine fV ?_;have hq:=dC hk;clear hk;obtain ⟨r42,hr42,hk⟩:=hq; (try dsimp only at hk);refine fa ?_;refine dc (dp 2 rfl rfl rfl rfl (fun w hw hF=>zg7 _ w hF r36.1 r38.1 fuel r42 hr42)) ?_;rintro _ _ ⟨⟨v42_0_1,v42_0_3⟩,F5,le4_5,⟨hf42_0_1,hf42_0_3⟩,rfl,rfl⟩;dsimp only at hf42_0_1 hf42_0_3 ⊢;have le2_5:=le2_4.trans le4_5;haveI:=hf42_0_1.oneC;haveI:=hf42_0_3.oneC;refine gf ?_;refine fL ?_;refine dT (Ew.cm 3 rfl rfl rfl rfl rfl b4) ?_;refine ez ?_;refine fV ?_;refine dk (ι:=Unit) (fun z=>[(4, .pointer (some ⟨g15_n,0,none⟩)),(5, .int .i64 r17.1),(6,vl_7),(7, .bool (lowest_8&&r42.2)),(8, .int .i64 i_9),(9, .pointer (some ⟨g9,0,none⟩))]) (fun z=>[.row g15_n 232 [.int .i64 r38.2.1, .bool ((r15.getD default).made),v15_n_2, .int .i64 r38.2.2], .sl v15_n_2 5 1 ((r15.getD default).in_).length (((r15.getD default).in_).flatMap (eK .u8)), .row g9 79 [.int .i64 r29.1, .int .i64 r31.1, .int .i64 r33.1, .bool r42.1.Num.Neg,v42_0_1, .bool r42.1.Den.Neg,v42_0_3], .sl vl_7 79 7 l_7.length cl_7.flatten, .fr F5]) (fun z=>True) ?_ ?_
      ·refine fa ?_;refine dm rfl rfl rfl (fun h16=>?_) (fun h16=>?_)
       ·refine j8 ?_;refine K.pick [0,1,3,4,2] rfl a8 ?_;exact de () trivial (.c (.c (.c (.b (jH h16) (.c (.c .nil)))))) (List.Sublist.refl _)
       ·refine j8 ?_;refine K.pick [0,1,3,4,2] rfl a8 ?_;exact de () trivial (.c (.c (.c (.b (hJ h16).symm (.c (.c .nil)))))) (List.Sublist.refl _)
      ·rintro _ _;have hq:(dA (l_7++[(GBid.mk r29.1 r31.1 r33.1 (GRatio.mk (GInt.mk r42.1.Num.Neg r42.1.Num.Digits) (GInt.mk r42.1.Den.Neg r42.1.Den.Digits)))]).length 88)∧_:=dH hk;clear hk;obtain ⟨g53,hk⟩:=hq; (try dsimp only at hk);refine eA ?_;refine q2w ?_;refine ii ?_;rintro _ _ ⟨g52,rfl,rfl⟩;have hl52:OwnD cY F5.toFrz 7 [[.int .i64 r29.1, .int .i64 r31.1, .int .i64 r33.1, .bool r42.1.Num.Neg,v42_0_1, .bool r42.1.Den.Neg,v42_0_3]] [(GBid.mk r29.1 r31.1 r33.1 (GRatio.mk (GInt.mk r42.1.Num.Neg r42.1.Num.Digits) (GInt.mk r42.1.Den.Neg r42.1.Den.Digits)))]:=(fe (OwnD.nil _ _ 7) ⟨_,_,rfl,hf42_0_1,hf42_0_3⟩);refine dc (gy 4 0 rfl rfl rfl rfl rfl rfl (lE (ys:=[(GBid.mk r29.1 r31.1 r33.1 (GRatio.mk (GInt.mk r42.1.Num.Neg r42.1.Num.Digits) (GInt.mk r42.1.Den.Neg r42.1.Den.Digits)))])) (zjq (cs:=cl_7) (ds:=[[.int .i64 r29.1, .int .i64 r31.1, .int .i64 r33.1, .bool r42.1.Num.Neg,v42_0_1, .bool r42.1.Den.Neg,v42_0_3]])) g53 a8) ?_;rintro v53 _ ⟨hv53,rfl⟩;have ho53:OwnD cY F5.toFrz 7 (cl_7++[[.int .i64 r29.1, .int .i64 r31.1, .int .i64 r33.1, .bool r42.1.Num.Neg,v42_0_1, .bool r42.1.Den.Neg,v42_0_3]]) (l_7++[(GBid.mk r29.1 r31.1 r33.1 (GRatio.mk (GInt.mk r42.1.Num.Neg r42.1.Num.Digits) (GInt.mk r42.1.Den.Neg r42.1.Den.Digits)))]):=(fe (OwnD.mono (rep:=cY) (fun _ _ _ _=>GBid.mono) hl_7 le4_5) ⟨_,_,rfl,hf42_0_1,hf42_0_3⟩);refine q11 ?_;refine cW (dl (v:= .int .i64 (wI (i_9+1)))) ?_;refine gP ?_;rw [←hn12] at hk;refine K.pick [4,1,2,5] rfl a8 ?_;exact K.next (m_13',(l_7++[(GBid.mk r29.1 r31.1 r33.1 (GRatio.mk (GInt.mk r42.1.Num.Neg r42.1.Num.Digits) (GInt.mk r42.1.Den.Neg r42.1.Den.Digits)))]),v53,(cl_7++[[.int .i64 r29.1, .int .i64 r31.1, .int .i64 r33.1, .bool r42.1.Num.Neg,v42_0_1, .bool r42.1.Den.Neg,v42_0_3]]),(lowest_8&&r42.2),wI (i_9+1),r38.2.1,r38.2.2,F5) ⟨hk,ho53,inferInstance,le2_5⟩ b3 (.c (.c (.c (.c (.c .nil))))) (List.Sublist.refl _)
     ·replace hk:=dw hk h15;refine fb ?_;exact de (l_7,vl_7,cl_7,lowest_8,c_10,c_11,F4) ⟨hk,hl_7,inferInstance,le2_4⟩ (.c (.c (.c .nil))) (List.Sublist.refl _)
  ·rintro ⟨l_2,vl_2,cl_2,lowest_3,c_4,c_5,F3⟩ ⟨hk,hl_2,ol_2,le2_3⟩; (try dsimp only at *);rw [←hk6] at hk; (try dsimp only at hk);have le1_3:=le1_2.trans le2_3;refine mI ?_;refine dc (dD [1,2,3,0] [.row g15_n 232 [.int .i64 c_4, .bool ((r15.getD default).made),v15_n_2, .int .i64 c_5], .sl v15_n_2 5 1 ((r15.getD default).in_).length (((r15.getD default).in_).flatMap (eK .u8))] [.sl vl_2 79 7 l_2.length cl_2.flatten] rfl rfl rfl rfl a8 (fun w hw hw2 hF=>zem _ w hF (GReader.mk (Gfault.mk c_4) ((r15.getD default).made) ((r15.getD default).in_) c_5) g15_n v15_n_2 hw2.takes.1 hw2.takes.2)) ?_;rintro _ _ ⟨⟨⟩, -,rfl,rfl⟩;refine eS ?_;refine iC ?_;refine jA ?_;refine T.cond rfl (fun h17=>?_) (fun h17=>?_)
   ·have p17:=of_decide_eq_true h17;replace hk:=dt hk h17;refine ji ?_;refine jX ?_;obtain rfl:=Option.some.inj hk;exact fc rfl rfl rfl (fun w' hw=>⟨((.slice none 0 0),[]),F3.toFrz,(SlD.nil _ _ 7),rfl,dO hw (i:=2) rfl hS0 le1_3⟩)
   ·have p17:=of_decide_eq_false h17;replace hk:=dw hk h17;refine q3b ?_;refine jY (fun w hw=>hw.freezeS (i:=2) (j:=3) a8 rfl rfl) ?_;rintro F6 ⟨le3_6,hz6⟩;refine fD ?_;have le1_6:=le1_3.trans le3_6;have hfF6:=hz6.toD (OwnD.mono (rep:=cY) (fun _ _ _ _=>GBid.mono) hl_2 le3_6) rfl;haveI:=hfF6.1.oneC; (try dsimp only at hk);have hq:=d7 hk;clear hk;obtain ⟨k19,hk19,hk⟩:=hq; (try dsimp only at hk);refine dk (ι:=Bool) (fun z=>[(6,vl_2),(65, .bool z)]) (fun z=>[.fr F6]) (fun z=>k19 z=some r) ?_ ?_
    ·refine gQ ?_;refine dm rfl rfl rfl (fun h20=>?_) (fun h20=>?_)
     ·replace hk:=dt hk h20;refine iZ ?_;refine q3f ?_;exact de true hk (.c (.c .nil)) (List.Sublist.refl _)
     ·replace hk:=dw hk h20;refine dJ ?_;have hq:=dC hk;clear hk;obtain ⟨r63,hr63,hk⟩:=hq;refine dc (dh rfl rfl rfl (fun w hw=>zeE _ w (hw.fr (i:=2) rfl) l_2 vl_2 cl_2 hfF6 fuel r63 hr63)) ?_;refine jV ?_;refine q3f ?_;exact de (!r63) hk (.c (.c .nil)) (List.Sublist.refl _)
    ·rintro x_18 hk;rw [←hk19] at hk; (try dsimp only at hk);refine T.cond rfl (fun h21=>?_) (fun h21=>?_)
     ·replace hk:=dt hk h21;refine kI ?_;obtain rfl:=Option.some.inj hk;exact fc rfl rfl rfl (fun w' hw=>⟨((.slice none 0 0),[]),F6.toFrz,(SlD.nil _ _ 7),rfl,dO hw (i:=0) rfl hS0 le1_6⟩)
     ·replace hk:=dw hk h21;refine iO ?_;refine gf ?_;refine ir ?_;obtain rfl:=Option.some.inj hk;exact fc rfl rfl rfl (fun w' hw=>⟨(vl_2,cl_2),F6.toFrz,hfF6,rfl,dO hw (i:=0) rfl hS0 le1_6⟩)
 ·replace hk:=dw hk h1;refine eA ?_;refine dc (eD [0] [] [] rfl rfl rfl rfl a8 (fun w hw hw2 hF=>(zgS _ w hF b vb hb r15 hr15).mono (fun e w' hp=>hp.2 h1))) ?_;rintro _ _ ⟨⟨⟩,F7,le1_7, -,rfl,rfl⟩;refine eS ?_;refine fV ?_;cases hk
end Go.Proofs.YtmnjbhkcfghebaaGreatDoor
