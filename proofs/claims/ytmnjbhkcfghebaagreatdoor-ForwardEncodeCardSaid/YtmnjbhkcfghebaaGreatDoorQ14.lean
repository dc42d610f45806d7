/- Yv P5 P6 P7 P8 P9 J1 J2 J3: shortened and put together by squeeze.py. -/
import Derived.Test.YtmnjbhkcfghebaaGreatDoorQ13
set_option maxRecDepth 100000
set_option maxHeartbeats 4000000
set_option linter.unusedVariables false
set_option linter.unusedSectionVars false
set_option linter.unusedSimpArgs false
namespace Go.Proofs.YtmnjbhkcfghebaaGreatDoor
open Go.RowKit
def kX (fuel:Nat)(n:Int):Option (List Int):=
 dM (fun (s3:Int×List Int)=>
 dz (dA (s3.2++[(IntKind.u8.wrap s3.1)]).length 1) <|
 some (s3.2++[(IntKind.u8.wrap s3.1)]))
 (fun k3=>
 fi (fun (next6:(Int×List Int)→Option (List Int)) (s6:Int×List Int)=>
 (bif decide (128≤s6.1) then
 dz (0≤s6.1∧1≤(128:Int)) <|
 dz (dA (s6.2++[(IntKind.u8.wrap (wI ((s6.1 % 128)+128)))]).length 1) <|
 dz (0≤s6.1∧s6.1≤9223372036854775807∧1≤(128:Int)) <|
 next6 ((s6.1 / 128),(s6.2++[(IntKind.u8.wrap (wI ((s6.1 % 128)+128)))]))
 else
 k3 (s6.1,s6.2))) fuel (n,[]))
theorem zdi (F0:Frz)(w:World)(hF0:F0.At w)(n:Int)(fuel:Nat)(r:List Int)(hr:kX fuel n=some r):Calls Tryz.prog 101 #[.int .i64 n] w fun e w'=>∃(y:Value),(True)∧e= .returned (y)∧FxM F0 w (dB []) F0 [.sl y 5 1 r.length (r.flatMap (eK .u8))] w':=by
 have hk:=hr;unfold kX at hk;obtain ⟨S0,F1,rfl,hS0,hp0⟩:=eC hF0;rw [zgs];refine dS Tryz.func101 rfl rfl rfl hp0 ?_;refine gu ?_;refine ku ?_;refine eG ?_;refine dJ ?_;refine ku ?_;refine ft ?_;have hq:=d7 hk;clear hk;obtain ⟨k3,hk3,hk⟩:=hq; (try dsimp only at hk);refine dk (ι:=Int×List Int×Value) (fun z=>[(0, .int .i64 z.1),(3,z.2.2)]) (fun z=>[.sl z.2.2 5 1 z.2.1.length (z.2.1.flatMap (eK .u8)), .fr F1]) (fun z=>k3 (z.1,z.2.1)=some r∧OneC z.2.2) ?_ ?_
 ·have hq:=j9 hk;clear hk;obtain ⟨f6,hf6,hk⟩:=hq;refine eW ?_;refine T.pick [0,2] rfl a8 ?_;refine T.loop (ι:=Nat×Int×List Int×Value) (fun z=>[(0, .int .i64 z.2.1),(3,z.2.2.2)]) (fun z=>[.sl z.2.2.2 5 1 z.2.2.1.length (z.2.2.1.flatMap (eK .u8)), .fr F1]) (fun z=>fi f6 z.1 (z.2.1,z.2.2.1)=some r∧OneC z.2.2.2) (fun z=>z.1) (fuel,n,[],(.slice none 0 0)) ?_ ?_ ?_ ?_
  ·exact q4C
  ·exact (.c (.c .nil))
  ·exact eT
  ·rintro ⟨m_7,n_4,out_5,vout_5⟩ ⟨hk,oout_5⟩; (try dsimp only at *);have hq:=ka hk;clear hk;obtain ⟨m_7',rfl,hk⟩:=hq;generalize hn6:fi f6 m_7'=next6 at hk;rw [←hf6] at hk; (try dsimp only at hk);refine lA ?_;refine T.cond rfl (fun h8=>?_) (fun h8=>?_)
   ·have p8:=of_decide_eq_true h8;replace hk:=dt hk h8;refine q3S ?_;have hq:(0≤n_4∧1≤(128:Int))∧_:=dH hk;clear hk;obtain ⟨g8,hk⟩:=hq;have hq:(dA (out_5++[(IntKind.u8.wrap (wI ((n_4 % 128)+128)))]).length 1)∧_:=dH hk;clear hk;obtain ⟨g12,hk⟩:=hq; (try dsimp only at hk);refine fa ?_;refine cW (jf (a:=n_4) (b:=(128:Int)) rfl rfl rfl g8) ?_;refine cW (dl (v:= .int .i64 (wI ((n_4 % 128)+128)))) ?_;refine cW (dX (z:=wI ((n_4 % 128)+128))) ?_;refine ii ?_;rintro _ _ ⟨g11,rfl,rfl⟩;refine dc (gy 1 0 rfl rfl rfl rfl rfl rfl (lE (ys:=[(IntKind.u8.wrap (wI ((n_4 % 128)+128)))])) (l7 (enc:=(eK .u8)) (xs:=out_5) (ys:=[(IntKind.u8.wrap (wI ((n_4 % 128)+128)))])) g12 a8) ?_;rintro v12 _ ⟨hv12,rfl⟩;refine d9 ?_;have hq:(0≤n_4∧n_4≤9223372036854775807∧1≤(128:Int))∧_:=dH hk;clear hk;obtain ⟨g14,hk⟩:=hq; (try dsimp only at hk);refine eA ?_;refine cW (fZ (a:=n_4) (b:=(128:Int)) rfl rfl rfl g14) ?_;refine q3t ?_;rw [←hn6] at hk;refine q3R ?_;exact K.next (m_7',(n_4 / 128),(out_5++[(IntKind.u8.wrap (wI ((n_4 % 128)+128)))]),v12) ⟨hk,inferInstance⟩ b3 (.c (.c .nil)) (List.Sublist.refl _)
   ·have p8:=of_decide_eq_false h8;replace hk:=dw hk h8;refine fb ?_;exact de (n_4,out_5,vout_5) ⟨hk,inferInstance⟩ (.c (.c .nil)) (List.Sublist.refl _)
 ·rintro ⟨n_1,out_2,vout_2⟩ ⟨hk,oout_2⟩; (try dsimp only at *);rw [←hk3] at hk; (try dsimp only at hk);refine T.seq ?_;have hq:(dA (out_2++[(IntKind.u8.wrap n_1)]).length 1)∧_:=dH hk;clear hk;obtain ⟨g19,hk⟩:=hq; (try dsimp only at hk);refine fa ?_;refine cW (dX (z:=n_1)) ?_;refine ii ?_;rintro _ _ ⟨g18,rfl,rfl⟩;refine dc (gy 1 0 rfl rfl rfl rfl rfl rfl (lE (ys:=[(IntKind.u8.wrap n_1)])) (l7 (enc:=(eK .u8)) (xs:=out_2) (ys:=[(IntKind.u8.wrap n_1)])) g19 a8) ?_;rintro v19 _ ⟨hv19,rfl⟩;refine gJ ?_;obtain rfl:=Option.some.inj hk;exact q49
def zcC (fuel:Nat)(l:List GBid):Option (List Int×Int):=
 (zdt fuel l).bind fun r8=>
 (bif !r8 then
 some ([],2)
 else
 (kX fuel (l.length:Int)).bind fun r12=>
 dM (fun (out_2:List Int)=>
 some (out_2,0))
 (fun k3=>
 dN (fun (i_6:Nat) (next5:List Int→Option (List Int×Int)) (out_4:List Int)=>
 dM (fun (sign_8:Int)=>
 (kX fuel ((nth l i_6).Bidder)).bind fun r36=>
 dz (dA (out_4++r36).length 1) <|
 (kX fuel ((nth l i_6).Product)).bind fun r44=>
 dz (dA ((out_4++r36)++r44).length 1) <|
 (kX fuel sign_8).bind fun r48=>
 dz (dA (((out_4++r36)++r44)++r48).length 1) <|
 (kX fuel (jJ ((nth l i_6).Point.Num))).bind fun r58=>
 dz (dA ((((out_4++r36)++r44)++r48)++r58).length 1) <|
 (kX fuel (jJ ((nth l i_6).Point.Den))).bind fun r68=>
 dz (dA (((((out_4++r36)++r44)++r48)++r58)++r68).length 1) <|
 next5 (((((out_4++r36)++r44)++r48)++r58)++r68))
 (fun k9=>
 (bif decide (wI (2* ((nth l i_6).Change))<0) then
 k9 (wI ((wI (0 - (wI (2* ((nth l i_6).Change))))) - 1))
 else
 k9 (wI (2* ((nth l i_6).Change))))))
 (fun (out_4:List Int)=>
 k3 out_4) (l.length - 0) 0 r12))
theorem zhh (F0:Frz)(w:World)(hF0:F0.At w)(l:List GBid)(vl:Value)(cl:List (List Value))(hl:SlD cY F0 vl 7 cl l)(fuel:Nat)(r:List Int×Int)(hr:zcC fuel l=some r):Calls Tryz.prog 35 #[vl] w fun e w'=>∃(y:Value) (G:Frz),(SlC G y 1 (r.1.map (eK .u8)))∧e= .returned (.tuple #[y, .int .i64 r.2])∧Fx F0 w G w':=by
 have hk:=hr;unfold zcC at hk;haveI:=hl.1.oneC;obtain ⟨S0,F1,rfl,hS0,hp0⟩:=eC hF0;refine dS Tryz.func35 rfl rfl rfl hp0 ?_;refine gI ?_;refine ju ?_;have hq:=dC hk;clear hk;obtain ⟨r8,hr8,hk⟩:=hq; (try dsimp only at hk);refine eA ?_;refine dc (dh rfl rfl rfl (fun w hw=>zhc _ w (hw.fr (i:=0) rfl) l vl cl hl fuel r8 hr8)) ?_;refine lD ?_;refine T.cond rfl (fun h1=>?_) (fun h1=>?_)
 ·replace hk:=dt hk h1;refine kI ?_;obtain rfl:=Option.some.inj hk;exact q40
 ·replace hk:=dw hk h1;refine fT ?_;have hq:=dC hk;clear hk;obtain ⟨r12,hr12,hk⟩:=hq; (try dsimp only at hk);refine eA ?_;refine me ?_;have hm11:l.length≤9223372036854775807:=hl.2.1▸hl.1.max;refine dc (dD [0] [] [] rfl rfl rfl rfl a8 (fun w hw hw2 hF=>zdi _ w hF (l.length:Int) fuel r12 hr12)) ?_;rintro v12_0_0 _ ⟨_, -,rfl,rfl⟩;refine kA ?_;intro iv12_0_0 hmv12_0_0;refine lQ ?_;refine d9 ?_;have hq:=d7 hk;clear hk;obtain ⟨k3,hk3,hk⟩:=hq; (try dsimp only at hk);refine dk (ι:=List Int×Value×FzB w (fun _=>False) S0) (fun z=>[(4,z.2.1)]) (fun z=>[.sl z.2.1 5 1 z.1.length (z.1.flatMap (eK .u8)), .fr z.2.2]) (fun z=>k3 z.1=some r∧OneC z.2.1∧F1.toFrz.Le z.2.2.toFrz) ?_ ?_
  ·have hq:=fP hk;clear hk;obtain ⟨f5,kk5,hf5,hkk5,hk⟩:=hq;refine eW ?_;refine T.loop (ι:=Nat×List Int×Value×FzB w (fun _=>False) S0) (fun z=>[(0,vl),(4,z.2.2.1),(5, .int .i64 (z.1:Int))]) (fun z=>[.sl z.2.2.1 5 1 z.2.1.length (z.2.1.flatMap (eK .u8)), .fr z.2.2.2]) (fun z=>dN f5 kk5 (l.length - z.1) z.1 z.2.1=some r∧OneC z.2.2.1∧F1.toFrz.Le z.2.2.2.toFrz) (fun z=>l.length - z.1) (0,r12,v12_0_0,F1) ?_ ?_ ?_ ?_
   ·exact ⟨hk,inferInstance,(Frz.Le.refl _)⟩
   ·exact lU
   ·exact eT
   ·rintro ⟨i_6,out_4,vout_4,F3⟩ ⟨hk,oout_4,le1_3⟩; (try dsimp only at *);refine jj ?_;refine ee ?_;refine cW (dE rfl rfl (SlD.mono (rep:=cY) (fun _ _ _ _=>GBid.mono) hl le1_3).1 (SlD.mono (rep:=cY) (fun _ _ _ _=>GBid.mono) hl le1_3).2.1) ?_;refine d9 ?_;refine T.cond rfl (fun h7=>?_) (fun h7=>?_)
    ·have p7:=of_decide_eq_true h7;rw [fN a7] at hk;generalize hn5:dN f5 kk5 (l.length - (i_6+1)) (i_6+1)=next5 at hk;rw [←hf5] at hk; (try dsimp only at hk);refine iT ?_;refine ee ?_;refine q10 ?_;refine cW (fC 1 (i:=i_6) (j:=2) rfl rfl rfl (SlD.mono (rep:=cY) (fun _ _ _ _=>GBid.mono) hl le1_3).1 (SlD.mono (rep:=cY) (fun _ _ _ _=>GBid.mono) hl le1_3).2.1 a7 rfl (jZ ((SlD.mono (rep:=cY) (fun _ _ _ _=>GBid.mono) hl le1_3).2.2 i_6 a7))) ?_;refine cW (dl (v:= .int .i64 (wI (2* ((nth l i_6).Change))))) ?_;refine kp ?_;have hq:=d7 hk;clear hk;obtain ⟨k9,hk9,hk⟩:=hq; (try dsimp only at hk);refine dk (ι:=Int) (fun z=>[(0,vl),(4,vout_4),(5, .int .i64 (i_6:Int)),(6, .int .i64 z)]) (fun z=>[.sl vout_4 5 1 out_4.length (out_4.flatMap (eK .u8)), .fr F3]) (fun z=>k9 z=some r) ?_ ?_
     ·refine T.cond rfl (fun h10=>?_) (fun h10=>?_)
      ·have p10:=of_decide_eq_true h10;replace hk:=dt hk h10;refine eA ?_;refine q4o ?_;refine cW (dl (v:= .int .i64 (wI ((wI (0 - (wI (2* ((nth l i_6).Change))))) - 1)))) ?_;refine gP ?_;exact de (wI ((wI (0 - (wI (2* ((nth l i_6).Change))))) - 1)) hk (.c (.c (.c (.c .nil)))) (List.Sublist.refl _)
      ·have p10:=of_decide_eq_false h10;replace hk:=dw hk h10;refine T.skip ?_;exact de (wI (2* ((nth l i_6).Change))) hk (.c (.c (.c (.c .nil)))) (List.Sublist.refl _)
     ·rintro sign_8 hk;rw [←hk9] at hk; (try dsimp only at hk);refine T.seq ?_;have hq:=dC hk;clear hk;obtain ⟨r36,hr36,hk⟩:=hq;have hq:(dA (out_4++r36).length 1)∧_:=dH hk;clear hk;obtain ⟨g37,hk⟩:=hq; (try dsimp only at hk);refine gQ ?_;refine q10 ?_;refine cW (fC 1 (i:=i_6) (j:=0) rfl rfl rfl (SlD.mono (rep:=cY) (fun _ _ _ _=>GBid.mono) hl le1_3).1 (SlD.mono (rep:=cY) (fun _ _ _ _=>GBid.mono) hl le1_3).2.1 a7 rfl (iy ((SlD.mono (rep:=cY) (fun _ _ _ _=>GBid.mono) hl le1_3).2.2 i_6 a7))) ?_;refine dc (dD [1,0] [] [.sl vout_4 5 1 out_4.length (out_4.flatMap (eK .u8))] rfl rfl rfl rfl a8 (fun w hw hw2 hF=>zdi _ w hF ((nth l i_6).Bidder) fuel r36 hr36)) ?_;rintro v36_0_0 _ ⟨_, -,rfl,rfl⟩;refine kA ?_;intro iv36_0_0 hmv36_0_0;refine q2c ?_;rintro F4 ⟨le3_4,hz4⟩;refine fD ?_;have le1_4:=le1_3.trans le3_4;have hfF4:=hz4.toF rfl (fun _=>rfl);haveI:=hfF4.oneC;refine dc (ig 1 0 (zfl (fun _=>inferInstance)) rfl rfl rfl rfl rfl hfF4 (zfP (xs:=out_4)) (zfa (xs:=out_4)) g37 a8) ?_;rintro v37 _ ⟨hv37,rfl⟩;refine fV ?_;have hq:=dC hk;clear hk;obtain ⟨r44,hr44,hk⟩:=hq;have hq:(dA ((out_4++r36)++r44).length 1)∧_:=dH hk;clear hk;obtain ⟨g45,hk⟩:=hq; (try dsimp only at hk);refine gQ ?_;refine cW (dq (i:=i_6) rfl rfl rfl (SlD.mono (rep:=cY) (fun _ _ _ _=>GBid.mono) hl le1_4).1 (SlD.mono (rep:=cY) (fun _ _ _ _=>GBid.mono) hl le1_4).2.1 rfl a7) ?_;refine cW (fv rfl rfl (SlD.mono (rep:=cY) (fun _ _ _ _=>GBid.mono) hl le1_4).1 (SlD.mono (rep:=cY) (fun _ _ _ _=>GBid.mono) hl le1_4).2.1 a7) ?_;refine cW (fC 0 (i:=i_6) (j:=1) rfl rfl rfl (SlD.mono (rep:=cY) (fun _ _ _ _=>GBid.mono) hl le1_4).1 (SlD.mono (rep:=cY) (fun _ _ _ _=>GBid.mono) hl le1_4).2.1 a7 rfl (iA ((SlD.mono (rep:=cY) (fun _ _ _ _=>GBid.mono) hl le1_4).2.2 i_6 a7))) ?_;refine dc (dD [0,1] [] [.sl v37 5 1 (out_4++r36).length ((out_4++r36).flatMap (eK .u8))] rfl rfl rfl rfl a8 (fun w hw hw2 hF=>zdi _ w hF ((nth l i_6).Product) fuel r44 hr44)) ?_;rintro v44_0_0 _ ⟨_, -,rfl,rfl⟩;refine kA ?_;intro iv44_0_0 hmv44_0_0;refine q2c ?_;rintro F5 ⟨le4_5,hz5⟩;refine fD ?_;have le1_5:=le1_4.trans le4_5;have hfF5:=hz5.toF rfl (fun _=>rfl);haveI:=hfF5.oneC;refine dc (ig 1 0 (zfl (fun _=>inferInstance)) rfl rfl rfl rfl rfl hfF5 (zfP (xs:=(out_4++r36))) (zfa (xs:=(out_4++r36))) g45 a8) ?_;rintro v45 _ ⟨hv45,rfl⟩;refine fV ?_;have hq:=dC hk;clear hk;obtain ⟨r48,hr48,hk⟩:=hq;have hq:(dA (((out_4++r36)++r44)++r48).length 1)∧_:=dH hk;clear hk;obtain ⟨g49,hk⟩:=hq; (try dsimp only at hk);refine fa ?_;refine dc (dD [0,1] [] [.sl v45 5 1 ((out_4++r36)++r44).length (((out_4++r36)++r44).flatMap (eK .u8))] rfl rfl rfl rfl a8 (fun w hw hw2 hF=>zdi _ w hF sign_8 fuel r48 hr48)) ?_;rintro v48_0_0 _ ⟨_, -,rfl,rfl⟩;refine kA ?_;intro iv48_0_0 hmv48_0_0;refine q2c ?_;rintro F6 ⟨le5_6,hz6⟩;refine fD ?_;have le1_6:=le1_5.trans le5_6;have hfF6:=hz6.toF rfl (fun _=>rfl);haveI:=hfF6.oneC;refine dc (ig 1 0 (zfl (fun _=>inferInstance)) rfl rfl rfl rfl rfl hfF6 (zfP (xs:=((out_4++r36)++r44))) (zfa (xs:=((out_4++r36)++r44))) g49 a8) ?_;rintro v49 _ ⟨hv49,rfl⟩;refine fV ?_;have hq:=dC hk;clear hk;obtain ⟨r58,hr58,hk⟩:=hq;have hq:(dA ((((out_4++r36)++r44)++r48)++r58).length 1)∧_:=dH hk;clear hk;obtain ⟨g59,hk⟩:=hq; (try dsimp only at hk);refine gQ ?_;refine cW (dq (i:=i_6) rfl rfl rfl (SlD.mono (rep:=cY) (fun _ _ _ _=>GBid.mono) hl le1_6).1 (SlD.mono (rep:=cY) (fun _ _ _ _=>GBid.mono) hl le1_6).2.1 rfl a7) ?_;refine q3C ?_;refine q3C ?_;have hd56_4:=(eH ((SlD.mono (rep:=cY) (fun _ _ _ _=>GBid.mono) hl le1_6).2.2 i_6 a7)).2;haveI:=hd56_4.oneC;refine cW (fk 0 (i:=i_6) (j:=3) (l:=[.bool ((nth l i_6).Point.Num.Neg),(nth (nth cl i_6) 4)]) rfl rfl rfl (SlD.mono (rep:=cY) (fun _ _ _ _=>GBid.mono) hl le1_6).1 (SlD.mono (rep:=cY) (fun _ _ _ _=>GBid.mono) hl le1_6).2.1 a7 rfl ((zeL (ek ((SlD.mono (rep:=cY) (fun _ _ _ _=>GBid.mono) hl le1_6).2.2 i_6 a7)) (j:=3) (q:=2) a8).trans rfl)) ?_;refine dc (dh rfl rfl rfl (fun w hw=>zer _ w (hw.fr (i:=0) rfl) ((nth l i_6).Point.Num) (nth (nth cl i_6) 4) hd56_4)) ?_;refine ez ?_;refine dc (dD [0,1] [] [.sl v49 5 1 (((out_4++r36)++r44)++r48).length ((((out_4++r36)++r44)++r48).flatMap (eK .u8))] rfl rfl rfl rfl a8 (fun w hw hw2 hF=>zdi _ w hF (jJ ((nth l i_6).Point.Num)) fuel r58 hr58)) ?_;rintro v58_0_0 _ ⟨_, -,rfl,rfl⟩;refine kA ?_;intro iv58_0_0 hmv58_0_0;refine q2c ?_;rintro F7 ⟨le6_7,hz7⟩;refine fD ?_;have le1_7:=le1_6.trans le6_7;have hfF7:=hz7.toF rfl (fun _=>rfl);haveI:=hfF7.oneC;refine dc (ig 1 0 (zfl (fun _=>inferInstance)) rfl rfl rfl rfl rfl hfF7 (zfP (xs:=(((out_4++r36)++r44)++r48))) (zfa (xs:=(((out_4++r36)++r44)++r48))) g59 a8) ?_;rintro v59 _ ⟨hv59,rfl⟩;refine d9 ?_;have hq:=dC hk;clear hk;obtain ⟨r68,hr68,hk⟩:=hq;have hq:(dA (((((out_4++r36)++r44)++r48)++r58)++r68).length 1)∧_:=dH hk;clear hk;obtain ⟨g69,hk⟩:=hq; (try dsimp only at hk);refine gQ ?_;refine cW (dq (i:=i_6) rfl rfl rfl (SlD.mono (rep:=cY) (fun _ _ _ _=>GBid.mono) hl le1_7).1 (SlD.mono (rep:=cY) (fun _ _ _ _=>GBid.mono) hl le1_7).2.1 rfl a7) ?_;refine q3D ?_;refine q3D ?_;have hd66_6:=(eJ ((SlD.mono (rep:=cY) (fun _ _ _ _=>GBid.mono) hl le1_7).2.2 i_6 a7)).2;haveI:=hd66_6.oneC;refine cW (fk 0 (i:=i_6) (j:=5) (l:=[.bool ((nth l i_6).Point.Den.Neg),(nth (nth cl i_6) 6)]) rfl rfl rfl (SlD.mono (rep:=cY) (fun _ _ _ _=>GBid.mono) hl le1_7).1 (SlD.mono (rep:=cY) (fun _ _ _ _=>GBid.mono) hl le1_7).2.1 a7 rfl ((zeL (ek ((SlD.mono (rep:=cY) (fun _ _ _ _=>GBid.mono) hl le1_7).2.2 i_6 a7)) (j:=5) (q:=2) a8).trans rfl)) ?_;refine dc (dh rfl rfl rfl (fun w hw=>zer _ w (hw.fr (i:=0) rfl) ((nth l i_6).Point.Den) (nth (nth cl i_6) 6) hd66_6)) ?_;refine ez ?_;refine dc (dD [0,1] [] [.sl v59 5 1 ((((out_4++r36)++r44)++r48)++r58).length (((((out_4++r36)++r44)++r48)++r58).flatMap (eK .u8))] rfl rfl rfl rfl a8 (fun w hw hw2 hF=>zdi _ w hF (jJ ((nth l i_6).Point.Den)) fuel r68 hr68)) ?_;rintro v68_0_0 _ ⟨_, -,rfl,rfl⟩;refine kA ?_;intro iv68_0_0 hmv68_0_0;refine q2c ?_;rintro F8 ⟨le7_8,hz8⟩;refine fD ?_;have le1_8:=le1_7.trans le7_8;have hfF8:=hz8.toF rfl (fun _=>rfl);haveI:=hfF8.oneC;refine dc (ig 1 0 (zfl (fun _=>inferInstance)) rfl rfl rfl rfl rfl hfF8 (zfP (xs:=((((out_4++r36)++r44)++r48)++r58))) (zfa (xs:=((((out_4++r36)++r44)++r48)++r58))) g69 a8) ?_;rintro v69 _ ⟨hv69,rfl⟩;refine q11 ?_;refine kv ?_;rw [←hn5] at hk;refine K.pick [1,0] rfl a8 ?_;exact K.next ((i_6+1),(((((out_4++r36)++r44)++r48)++r58)++r68),v69,F8) ⟨hk,inferInstance,le1_8⟩ b3 (.c (.c (.c .nil))) (List.Sublist.refl _)
    ·have p7:=of_decide_eq_false h7;rw [fO a7,←hkk5] at hk; (try dsimp only at hk);refine fb ?_;exact de (out_4,vout_4,F3) ⟨hk,inferInstance,le1_3⟩ (.c .nil) (List.Sublist.refl _)
  ·rintro ⟨out_2,vout_2,F2⟩ ⟨hk,oout_2,le1_2⟩; (try dsimp only at *);rw [←hk3] at hk; (try dsimp only at hk);refine ji ?_;refine q2j ?_;rintro F9 ⟨le2_9,hz9⟩;refine fD ?_;have le1_9:=le1_2.trans le2_9;have hfF9:=hz9.toF rfl (fun _=>rfl);haveI:=hfF9.oneC;obtain rfl:=Option.some.inj hk;exact fc rfl rfl rfl (fun w' hw=>⟨vout_2,F9.toFrz,hfF9,rfl,dO hw (i:=0) rfl hS0 le1_9⟩)
theorem zh3 {σ ρ:Type}(f:(σ→Option ρ)→σ→Option ρ)(m:Nat)(s:σ):fi f (m+1) s=f (fi f m) s:=rfl
theorem zkl {σ ρ:Type}(f:Nat→(σ→ρ)→σ→ρ)(k:σ→ρ)(m:Nat)(s:σ):gE f k (m+1) s=f m (gE f k m) s:=rfl
def val (B:Nat):List Int→Nat
 | []=>0
 |x :: r=>x.toNat+B*val B r
def Dig (B:Nat)(l:List Int):Prop:=∀x∈l,0≤x∧x<(B:Int)
def l5 (l:List Int):Prop:=l=[]∨nth l (l.length - 1)≠0
section
variable {B:Nat}{l m:List Int}{x:Int}{i:Nat}
theorem Dig.nil:Dig B []:=fun _ h=>by cases h
theorem Dig.cons (hx:0≤x∧x<(B:Int))(h:Dig B l):Dig B (x :: l):=fun y hy=>by
 rcases List.mem_cons.1 hy with rfl|hy
 ·exact hx
 ·exact h y hy
theorem Dig.tail (h:Dig B (x :: l)):Dig B l:=fun y hy=>h y (List.mem_cons_of_mem _ hy)
theorem Dig.head (h:Dig B (x :: l)):0≤x∧x<(B:Int):=h x List.mem_cons_self
theorem Dig.app (h:Dig B l)(k:Dig B m):Dig B (l++m):=fun y hy=>(List.mem_append.1 hy).elim (h y) (k y)
theorem Dig.take (h:Dig B l)(i:Nat):Dig B (l.take i):=fun y hy=>h y (List.mem_of_mem_take hy)
theorem Dig.drop (h:Dig B l)(i:Nat):Dig B (l.drop i):=fun y hy=>h y (List.mem_of_mem_drop hy)
theorem Dig.nth (h:Dig B l)(hi:i<l.length):0≤nth l i∧nth l i<(B:Int):=by
 rw [fK hi];exact h _ (List.getElem_mem hi)
theorem Dig.set (h:Dig B l)(hx:0≤x∧x<(B:Int)):Dig B (l.set i x):=fun y hy=>by
 rcases List.mem_or_eq_of_mem_set hy with hy|rfl
 ·exact h y hy
 ·exact hx
theorem gB (hB:0<B)(n:Nat):Dig B (List.replicate n 0):=fun y hy=>by
 rw [List.eq_of_mem_replicate hy];omega
theorem zip:val B (l++m)=val B l+B ^ l.length*val B m:=by
 induction l with
 |nil=>simp [val]
 |cons x l ih=>
  rw [List.cons_append,val,val,ih,List.length_cons,Nat.mul_add,Nat.pow_succ,Nat.mul_comm (B ^ l.length) B,Nat.mul_assoc];omega
theorem jR (h:Dig B l):val B l<B ^ l.length:=by
 induction l with
 |nil=>simp [val]
 |cons x l ih=>
  have h1:=h.head;have h2:=ih h.tail;rw [val,List.length_cons,Nat.pow_succ,Nat.mul_comm (B ^ l.length) B];have h3:B* (val B l+1)≤B*B ^ l.length:=Nat.mul_le_mul_left _ h2;rw [Nat.mul_add] at h3;omega
theorem zit (n:Nat):val B (List.replicate n 0)=0:=by
 induction n with
 |zero=>rfl
 |succ n ih=>rw [List.replicate_succ,val,ih];simp
theorem zf2 {y:Int}:nth (y :: l) 0=y:=rfl
theorem zg8 {y:Int}:nth (y :: l) (i+1)=nth l i:=rfl
theorem iD (hi:i<l.length):val B (l.take (i+1))=val B (l.take i)+B ^ i* (nth l i).toNat:=by
 induction l generalizing i with
 |nil=>cases hi
 |cons y l ih=>
  cases i with
  |zero=>simp [val,zf2]
  |succ i=>
   rw [List.take_succ_cons,List.take_succ_cons,val,val,ih (by simpa using hi),zg8,Nat.mul_add,Nat.pow_succ,Nat.mul_comm (B ^ i) B,Nat.mul_assoc];omega
theorem zea (hi:i<l.length):val B (l.drop i)=(nth l i).toNat+B*val B (l.drop (i+1)):=by
 rw [List.drop_eq_getElem_cons hi,val,fK hi]
theorem zfC (i:Nat)(hi:i≤l.length):val B l=val B (l.take i)+B ^ i*val B (l.drop i):=by
 conv=>lhs;rw [←List.take_append_drop i l]
 rw [zip,List.length_take,Nat.min_eq_left hi]
theorem zjj (hi:i<l.length):val B (l.set i x)+B ^ i* (nth l i).toNat=val B l+B ^ i*x.toNat:=by
 induction l generalizing i with
 |nil=>cases hi
 |cons y l ih=>
  cases i with
  |zero=>simp [val,zf2];omega
  |succ i=>
   have:=ih (i:=i) (by simpa using hi);rw [List.set_cons_succ,val,val,zg8,Nat.pow_succ,Nat.mul_comm (B ^ i) B,Nat.mul_assoc,Nat.mul_assoc]; (have h2:B* (val B (l.set i x)+B ^ i* (nth l i).toNat)=B* (val B l+B ^ i*x.toNat):=by rw [this]);rw [Nat.mul_add,Nat.mul_add] at h2;omega
theorem zih (h:Dig B l)(ht:l5 l)(hn:l≠[]):B ^ (l.length - 1)≤val B l:=by
 have hp:0<l.length:=List.length_pos_iff.2 hn;have h1:nth l (l.length - 1)≠0:=ht.elim (fun e=>absurd e hn) id;have h2:=h.nth (i:=l.length - 1) a7;have h3:=iD (B:=B) (l:=l) (i:=l.length - 1) a7;rw [show l.length - 1+1=l.length by omega,List.take_length] at h3;have h4:B ^ (l.length - 1) *1≤B ^ (l.length - 1) * (nth l (l.length - 1)).toNat:=Nat.mul_le_mul_left _ a7;omega
theorem zkF (h:Dig B l)(ht:l5 l)(hn:l≠[])(hB:0<B):0<val B l:=Nat.lt_of_lt_of_le (Nat.pow_pos hB) (zih h ht hn)
theorem zhy (h:Dig B l)(ht:l5 l)(hB:0<B):val B l=0↔l=[]:=by
 constructor
 ·intro e;by_cases hn:l=[]
  ·exact hn
  ·have:=zkF h ht hn hB;omega
 ·rintro rfl;rfl
theorem zde (hl:Dig B l)(hm:Dig B m)(ht:l5 m)(h:l.length<m.length):val B l<val B m:=by
 (have hn:m≠[]:=fun e=>by rw [e] at h;cases h)
 have hB:0<B:=by
  have:=hm.nth (i:=0) a7;omega
 exact Nat.lt_of_lt_of_le (Nat.lt_of_lt_of_le (jR hl) (Nat.pow_le_pow_right hB a7)) (zih hm ht hn)
theorem zjm:∀ {l m:List Int},Dig B l→Dig B m→l.length=m.length→val B l=val B m→l=m
 | [],[],_,_,_,_=>rfl
 |x :: l,y :: m,hl,hm,hn,he=>by
  have h1:=hl.head;have h2:=hm.head;rw [val,val] at he; (have hB:0<B:=by omega);have e1:=congrArg (· % B) he;simp only [Nat.add_mul_mod_self_left] at e1;rw [Nat.mod_eq_of_lt a7,Nat.mod_eq_of_lt a7] at e1;have e2:val B l=val B m:=Nat.eq_of_mul_eq_mul_left hB a7;rw [zjm hl.tail hm.tail (by simpa using hn) e2,show x=y by omega]
theorem ziC (hl:Dig B l)(hm:Dig B m)(tl:l5 l)(tm:l5 m)(he:val B l=val B m):l=m:=by
 rcases Nat.lt_trichotomy l.length m.length with h|h|h
 ·have:=zde hl hm tm h;omega
 ·exact zjm hl hm h he
 ·have:=zde hm hl tl h;omega
end
theorem zk9 (B:Nat):∀(n:Nat) (fuel:Nat) (l:List Int),l.length=n→n+1≤fuel→∃r,ky fuel l=some r∧val B r=val B l∧l5 r∧(Dig B l→Dig B r)∧r.length≤l.length:=by
 intro n
 induction n with
 |zero=>
  intro fuel l hl hf;obtain ⟨f,rfl⟩:∃q,fuel=q+1:=⟨fuel - 1,by omega⟩;obtain rfl:=List.eq_nil_of_length_eq_zero hl;exact ⟨[],rfl,rfl, .inl rfl,id,Nat.le_refl _⟩
 |succ n ih=>
  intro fuel l hl hf;obtain ⟨f,rfl⟩:∃q,fuel=q+1:=⟨fuel - 1,by omega⟩;have e:ky (f+1) l=bif ((decide (0<(l.length:Int)))&&(decide ((nth l (((l.length:Int) - 1).toNat))=0))) then ky f (l.take (((l.length:Int) - 1).toNat)) else some l:=rfl;rw [e,decide_eq_true a7,Bool.true_and,show (((l.length:Int) - 1).toNat)=l.length - 1 by omega];by_cases h0:nth l (l.length - 1)=0
  ·rw [decide_eq_true h0,cond_true];obtain ⟨r,h1,h2,h3,h4,h5⟩:=ih f (l.take (l.length - 1)) b9 a7;refine ⟨r,h1,?_,h3,fun hd=>h4 (hd.take _),Nat.le_trans h5 b9⟩;have h6:=iD (B:=B) (l:=l) (i:=l.length - 1) a7;rw [show l.length - 1+1=l.length by omega,List.take_length,h0] at h6;rw [h2,h6];simp
  ·rw [decide_eq_false h0,cond_false];exact ⟨l,rfl,rfl, .inr h0,id,Nat.le_refl _⟩
theorem zj8 {B:Nat}{x y:List Int}(hx:Dig B x)(hy:Dig B y)(tx:l5 x)(ty:l5 y):zbi x y=if val B x<val B y then -1 else if val B y<val B x then 1 else 0:=by
 unfold zbi;by_cases hl:x.length=y.length
 ·rw [decide_eq_false a7,cond_false];simp only [dM]
  have key:∀m,m≤x.length→gE (fun (i_5:Nat) (next4:Unit→Int) (_:Unit)=>
    (bif decide ((nth x i_5)<(nth y i_5)) then
     (-1)
     else
     (bif decide ((nth y i_5)<(nth x i_5)) then
      1
      else
      next4 ()))) (fun _=>(0:Int)) m ()=if val B (x.take m)<val B (y.take m) then -1 else if val B (y.take m)<val B (x.take m) then 1 else 0:=by
   intro m
   induction m with
   |zero=>intro _;rfl
   |succ m ih=>
    intro hm;have a1:=hx.nth (i:=m) a7;have a2:=hy.nth (i:=m) a7;have b1:=jR (hx.take m);have b2:=jR (hy.take m);rw [List.length_take,Nat.min_eq_left a7] at b1 b2;rw [zkl,iD a7,iD a7]; (try dsimp only)
    have mono:∀p q:Nat,p<q→B ^ m*p+B ^ m≤B ^ m*q:=fun p q h=>by
     have:=Nat.mul_le_mul_left (B ^ m) (show p+1≤q by omega);rw [Nat.mul_add,Nat.mul_one] at this;exact this
    by_cases h1:nth x m<nth y m
    ·have:=mono (nth x m).toNat (nth y m).toNat a7;rw [decide_eq_true h1,cond_true,if_pos a7]
    ·rw [decide_eq_false h1,cond_false];by_cases h2:nth y m<nth x m
     ·have:=mono (nth y m).toNat (nth x m).toNat a7;rw [decide_eq_true h2,cond_true,if_neg a7,if_pos a7]
     ·rw [decide_eq_false h2,cond_false,ih a7,show nth x m=nth y m by omega];generalize B ^ m* (nth y m).toNat=z
      repeat' split
      all_goals (first|rfl|(exfalso;omega))
  have:=key x.length (Nat.le_refl _);rw [List.take_length,hl,List.take_length] at this;rw [←hl] at this;exact this
 ·rw [decide_eq_true a7,cond_true];by_cases h:x.length<y.length
  ·rw [decide_eq_true a7,cond_true,if_pos (zde hx hy ty h)]
  ·have:=zde hy hx tx a7;rw [decide_eq_false a7,cond_false,if_neg a7,if_pos this]
theorem zgQ {a d s:Nat}(h:a<2 ^ s):a ||| (d*2 ^ s)=a+d*2 ^ s:=by
 have:=Nat.shiftLeft_add_eq_or_of_lt h d;rw [Nat.shiftLeft_eq] at this;rw [Nat.or_comm,←this];omega
theorem ziy (z:Int)(h:0≤z):IntKind.u32.wrap z=z % 4294967296:=by
 refine q3y ?_;simp
theorem zeB (z:Int)(h:0≤z∧z<4294967296):IntKind.u32.wrap z=z:=by
 rw [ziy z h.1];omega
theorem zkG {a b:Int}(ha:0≤a∧a<4294967296)(hb:0≤b∧b<4294967296):orK .u32 a b=((a.toNat ||| b.toNat:Nat):Int):=by
 unfold orK; (have e1:(BitVec.ofInt 32 a).toNat=a.toNat:=by rw [BitVec.toNat_ofInt];omega); (have e2:(BitVec.ofInt 32 b).toNat=b.toNat:=by rw [BitVec.toNat_ofInt];omega);rw [show IntKind.u32.bits=32 from rfl,BitVec.toNat_or,e1,e2];have h:a.toNat ||| b.toNat<2 ^ 32:=Nat.or_lt_two_pow a7 a7;rw [zeB _ a7]
@[irreducible] def dj:Nat:=4294967296
theorem iQ:dj=4294967296:=by unfold dj;rfl
theorem iB:0<dj:=by rw [iQ];decide
theorem poly3 (W a a1 a2:Nat):a2+W* (a1+W*a)=(a*W+a1) *W+a2:=by
 rw [Nat.mul_add,Nat.add_mul,Nat.mul_comm W (W*a),Nat.mul_comm W a,Nat.mul_comm W a1];omega
theorem ofI {z:Int}(h:0≤z∧z<18446744073709551616):(BitVec.ofInt 64 z).toNat=z.toNat:=by
 rw [BitVec.toNat_ofInt];omega
theorem lg {z:Int}(h:0≤z∧z<(dj:Int)):(BitVec.ofInt 64 z).toNat=z.toNat:=ofI (by rw [iQ] at h;omega)
theorem zjU {a b:BitVec 64}(h:a.toNat+b.toNat<18446744073709551616):(a+b).toNat=a.toNat+b.toNat:=by
 rw [BitVec.toNat_add];omega
theorem zlh {a b:BitVec 64}(h:a.toNat*b.toNat<18446744073709551616):(a*b).toNat=a.toNat*b.toNat:=by
 rw [BitVec.toNat_mul,Nat.mod_eq_of_lt a7]
theorem ziB (a:BitVec 64)(k:Nat):(a >>> k).toNat=a.toNat / 2 ^ k:=by
 rw [BitVec.toNat_ushiftRight,Nat.shiftRight_eq_div_pow]
theorem zjh {a b:BitVec 64}(ha:a.toNat<4294967296)(hb:b.toNat<4294967296):((a <<< 32) ||| b).toNat=a.toNat*4294967296+b.toNat:=by
 rw [BitVec.toNat_or,BitVec.toNat_shiftLeft,Nat.shiftLeft_eq,Nat.mod_eq_of_lt a7];have:=zgQ (a:=b.toNat) (d:=a.toNat) (s:=32) a7;rw [Nat.or_comm,this];omega
structure QIn (u v:List Int) (n:Nat):Prop where
 n2:2≤n
 vl:v.length=n
 ul:u.length=n+1
 du:Dig dj u
 dv:Dig dj v
 top:2147483648≤nth v (n - 1)
 lt:val dj u<dj*val dj v
section
variable {u v:List Int}{n:Nat}
theorem QIn.parts (h:QIn u v n):val dj u=val dj (u.take (n - 2))+dj ^ (n - 2) * (((nth u n).toNat*dj+(nth u (n - 1)).toNat) *dj+(nth u (n - 2)).toNat)∧val dj v=val dj (v.take (n - 2))+dj ^ (n - 2) * ((nth v (n - 1)).toNat*dj+(nth v (n - 2)).toNat)∧val dj (u.take (n - 2))<dj ^ (n - 2)∧val dj (v.take (n - 2))<dj ^ (n - 2):=by
 have:=h.n2;have hu:=h.ul;have hv:=h.vl;have b1:=jR (h.du.take (n - 2));have b2:=jR (h.dv.take (n - 2));rw [List.length_take,Nat.min_eq_left a7] at b1 b2;refine ⟨?_,?_,b1,b2⟩
 ·rw [zfC (n - 2) a7,zea a7,show n - 2+1=n - 1 by omega,zea a7,show n - 1+1=n by omega,zea a7,List.drop_eq_nil_of_le a7];simp only [val,Nat.mul_zero,Nat.add_zero];rw [poly3]
 ·rw [zfC (n - 2) a7,zea a7,show n - 2+1=n - 1 by omega,zea a7,show n - 1+1=n by omega,List.drop_eq_nil_of_le a7];simp only [val,Nat.mul_zero,Nat.add_zero];rw [Nat.mul_comm (nth v (n - 1)).toNat dj,Nat.add_comm (nth v (n - 2)).toNat]
theorem QIn.lo (h:QIn u v n){Q:Nat}(hQ:Q*val dj v≤val dj u):Q* ((nth v (n - 1)).toNat*dj+(nth v (n - 2)).toNat)≤((nth u n).toNat*dj+(nth u (n - 1)).toNat) *dj+(nth u (n - 2)).toNat:=by
 obtain ⟨h1,h2,h3,h4⟩:=h.parts;generalize ((nth u n).toNat*dj+(nth u (n - 1)).toNat) *dj+(nth u (n - 2)).toNat=T at *;generalize (nth v (n - 1)).toNat*dj+(nth v (n - 2)).toNat=W at *;generalize dj ^ (n - 2)=b at *; (have hb:0<b:=by omega);rw [h1,h2,Nat.mul_add] at hQ; (have e:Q* (b*W)=b* (Q*W):=by rw [←Nat.mul_assoc,Nat.mul_comm Q b,Nat.mul_assoc]);rw [e] at hQ;refine Nat.le_of_lt_succ (Nat.lt_of_mul_lt_mul_left (a:=b) ?_);rw [Nat.succ_eq_add_one,Nat.mul_add,Nat.mul_one];omega
theorem QIn.hi (h:QIn u v n){q:Nat}(hq:q<dj)(ht:q* ((nth v (n - 1)).toNat*dj+(nth v (n - 2)).toNat)≤((nth u n).toNat*dj+(nth u (n - 1)).toNat) *dj+(nth u (n - 2)).toNat):q≤val dj u / val dj v+1:=by
 obtain ⟨h1,h2,h3,h4⟩:=h.parts;have htop:=h.top
 have hW:dj≤(nth v (n - 1)).toNat*dj+(nth v (n - 2)).toNat:=by
  have:=Nat.mul_le_mul_right dj (show 1≤(nth v (n - 1)).toNat by omega);omega
 generalize ((nth u n).toNat*dj+(nth u (n - 1)).toNat) *dj+(nth u (n - 2)).toNat=T at *;generalize (nth v (n - 1)).toNat*dj+(nth v (n - 2)).toNat=W at *;generalize dj ^ (n - 2)=b at *; (have hb:0<b:=by omega)
 have hV:0<val dj v:=by
  have:=Nat.mul_le_mul hb hW;have:=iB;omega
 refine Nat.le_of_not_lt fun hlt=>?_;have hlt2:=Nat.lt_mul_div_succ (val dj u) hV;generalize val dj u / val dj v=Q at hlt hlt2
 have h5:val dj v* (Q+1)≤val dj v* (q - 1):=Nat.mul_le_mul_left _ a7; (have h6:val dj v≤b*W+b:=by omega);have h7:val dj v* (q - 1)≤(b*W+b) * (q - 1):=Nat.mul_le_mul_right _ h6;have h8:b* (q*W)≤b*T:=Nat.mul_le_mul_left _ ht; (have h9:(b*W+b) * (q - 1)=b* ((W+1) * (q - 1)):=by rw [←Nat.mul_assoc,Nat.mul_add,Nat.mul_one])
 have h10:b* (q*W)<b* ((W+1) * (q - 1)):=by
  rw [←h9];exact Nat.lt_of_le_of_lt (Nat.le_trans h8 (by rw [h1];exact Nat.le_add_left _ _)) (Nat.lt_of_lt_of_le hlt2 (Nat.le_trans h5 h7))
 have h11:=Nat.lt_of_mul_lt_mul_left h10;obtain ⟨p,rfl⟩:∃p,q=p+1:=⟨q - 1,by omega⟩;rw [show p+1 - 1=p by omega,Nat.add_mul,Nat.add_mul,Nat.mul_comm p W] at h11;omega
theorem QIn.topu (h:QIn u v n):(nth u n).toNat≤(nth v (n - 1)).toNat:=by
 obtain ⟨h1,h2,h3,h4⟩:=h.parts;have hlt:=h.lt;have d1:=h.dv.nth (i:=n - 2) (by have:=h.n2;have:=h.vl;omega);refine Nat.le_of_not_lt fun hc=>?_;rw [h1,h2] at hlt;generalize dj ^ (n - 2)=b at *;generalize (nth u n).toNat=a at *;generalize (nth v (n - 1)).toNat=c at *;generalize (nth u (n - 1)).toNat=a1 at *;generalize (nth u (n - 2)).toNat=a2 at *;generalize hv2:(nth v (n - 2)).toNat=c2 at *; (have hc2:c2+1≤dj:=by omega)
 have h5:b* (c*dj+c2)+b≤b* (c*dj+dj):=by
  have:=Nat.mul_le_mul_left b (show c*dj+c2+1≤c*dj+dj by omega);rw [Nat.mul_add b _ 1,Nat.mul_one] at this;exact this
 have h6:b* (c*dj+dj)≤b* (a*dj):=Nat.mul_le_mul_left _ (by
  have:=Nat.mul_le_mul_right dj (show c+1≤a by omega)
  rw [Nat.add_mul,Nat.one_mul] at this;exact this)
 have h7:dj* (val dj (v.take (n - 2))+b* (c*dj+c2))≤dj* (b* (a*dj)):=Nat.mul_le_mul_left _ a7; (have h8:dj* (b* (a*dj))=b* (a*dj*dj):=by rw [Nat.mul_comm,Nat.mul_assoc]);have h9:b* (a*dj*dj)≤b* ((a*dj+a1) *dj+a2):=Nat.mul_le_mul_left _ (by rw [Nat.add_mul];omega);omega
end
def zgU (u v_:List Int)(q_1:BitVec 64):Option (Int×List Int):=
 dN (fun (i_20:Nat) (next19:(BitVec 64×BitVec 64×List Int)→Option (Int×List Int)) (s19:BitVec 64×BitVec 64×List Int)=>
 dz (0≤(i_20:Int)∧(i_20:Int)<(s19.2.2.length:Int)) <|
 next19 (((((BitVec.ofInt 64 (nth s19.2.2 i_20)) - (BitVec.ofInt 64 (IntKind.u32.wrap ((s19.2.1+(q_1* (BitVec.ofInt 64 (nth v_ i_20)))).toNat:Int)))) - s19.1) >>> 63),((s19.2.1+(q_1* (BitVec.ofInt 64 (nth v_ i_20)))) >>> 32),(s19.2.2.set i_20 (IntKind.u32.wrap ((((BitVec.ofInt 64 (nth s19.2.2 i_20)) - (BitVec.ofInt 64 (IntKind.u32.wrap ((s19.2.1+(q_1* (BitVec.ofInt 64 (nth v_ i_20)))).toNat:Int)))) - s19.1).toNat:Int)))))
 (fun (s15:BitVec 64×BitVec 64×List Int)=>
 dz (0≤(v_.length:Int)∧(v_.length:Int)<(s15.2.2.length:Int)) <|
 (bif decide (¬(((((BitVec.ofInt 64 (nth s15.2.2 v_.length)) - s15.2.1) - s15.1) >>> 63).toNat:Int)=((0#64).toNat:Int)) then
 dN (fun (i_32:Nat) (next31:(BitVec 64×List Int)→Option (Int×List Int)) (s31:BitVec 64×List Int)=>
 dz (0≤(i_32:Int)∧(i_32:Int)<(s31.2.length:Int)) <|
 next31 (((s31.1+((BitVec.ofInt 64 (nth s31.2 i_32))+(BitVec.ofInt 64 (nth v_ i_32)))) >>> 32),(s31.2.set i_32 (IntKind.u32.wrap ((s31.1+((BitVec.ofInt 64 (nth s31.2 i_32))+(BitVec.ofInt 64 (nth v_ i_32)))).toNat:Int)))))
 (fun (s28:BitVec 64×List Int)=>
 dz (0≤(v_.length:Int)∧(v_.length:Int)<(s28.2.length:Int)) <|
 some ((IntKind.u32.wrap ((q_1 - (1#64)).toNat:Int)),(s28.2.set v_.length (IntKind.u32.wrap ((nth s28.2 v_.length)+(IntKind.u32.wrap (s28.1.toNat:Int))))))) (v_.length - 0) 0 (0#64,(s15.2.2.set v_.length (IntKind.u32.wrap ((((BitVec.ofInt 64 (nth s15.2.2 v_.length)) - s15.2.1) - s15.1).toNat:Int))))
 else
 some ((IntKind.u32.wrap (q_1.toNat:Int)),(s15.2.2.set v_.length (IntKind.u32.wrap ((((BitVec.ofInt 64 (nth s15.2.2 v_.length)) - s15.2.1) - s15.1).toNat:Int)))))) (v_.length - 0) 0 (0#64,0#64,u)
theorem zi6 (a b:BitVec 64):(a - b).toNat=(18446744073709551616 - b.toNat+a.toNat) % 18446744073709551616:=BitVec.toNat_sub a b
theorem zjJ {x:Int}{lo:Nat}{bb:BitVec 64}(hx:0≤x∧x<(dj:Int))(hlo:lo<dj)(hb:bb.toNat≤1):
  ∃b' w:Nat,(((BitVec.ofInt 64 x - BitVec.ofInt 64 (lo:Int)) - bb) >>> 63).toNat=b'∧IntKind.u32.wrap (((BitVec.ofInt 64 x - BitVec.ofInt 64 (lo:Int)) - bb).toNat:Int)=(w:Int)∧x.toNat+dj*b'=w+lo+bb.toNat∧w<dj∧b'≤1:=by
 have e1:(BitVec.ofInt 64 x).toNat=x.toNat:=lg hx; (have e2:(BitVec.ofInt 64 (lo:Int)).toNat=lo:=by rw [lg a7];omega);rw [iQ] at*
 have ed:((BitVec.ofInt 64 x - BitVec.ofInt 64 (lo:Int)) - bb).toNat=if lo+bb.toNat≤x.toNat then x.toNat - lo - bb.toNat else 18446744073709551616+x.toNat - lo - bb.toNat:=by
  rw [zi6,zi6,e1,e2]
  split <;> omega
 refine ⟨_,(((BitVec.ofInt 64 x - BitVec.ofInt 64 (lo:Int)) - bb).toNat % 4294967296),rfl,?_,?_,?_,?_⟩
 ·rw [ziy _ a7];omega
 ·rw [ziB,ed];split <;> omega
 ·omega
 ·rw [ziB,ed];split <;> omega
section
variable {u v:List Int}{n:Nat}
structure MI (u v:List Int) (n q i:Nat) (s:BitVec 64×BitVec 64×List Int):Prop where
 b:s.1.toNat≤1
 c:s.2.1.toNat<dj
 len:s.2.2.length=n+1
 dig:Dig dj s.2.2
 rest:∀j,i≤j→j≤n→nth s.2.2 j=nth u j
 eq:val dj (u.take i)+dj ^ i* (s.1.toNat+s.2.1.toNat)=val dj (s.2.2.take i)+q*val dj (v.take i)
theorem zed {l:List Int}{i:Nat}{x:Int}:(l.set i x).take i=l.take i:=by
 rw [List.take_set_of_le (Nat.le_refl i)]
theorem kR {l:List Int}{i:Nat}{x:Int}(h:i<l.length):nth (l.set i x) i=x:=by
 unfold nth;rw [List.getD_eq_getElem?_getD,List.getElem?_set_self h];rfl
theorem ze2 {l:List Int}{i j:Nat}{x:Int}(h:i≠j):nth (l.set i x) j=nth l j:=by
 unfold nth;rw [List.getD_eq_getElem?_getD,List.getD_eq_getElem?_getD,List.getElem?_set_ne h]
theorem jo (m:Nat):IntKind.u32.wrap (m:Int)=((m % dj:Nat):Int):=by
 rw [ziy _ a7,iQ];omega
theorem MI.step (h:QIn u v n){q:BitVec 64}(hq:q.toNat<dj){i:Nat}(hi:i<n){s:BitVec 64×BitVec 64×List Int}(k:MI u v n q.toNat i s):
  MI u v n q.toNat (i+1) (((((BitVec.ofInt 64 (nth s.2.2 i)) - (BitVec.ofInt 64 (IntKind.u32.wrap ((s.2.1+(q* (BitVec.ofInt 64 (nth v i)))).toNat:Int)))) - s.1) >>> 63),((s.2.1+(q* (BitVec.ofInt 64 (nth v i)))) >>> 32),(s.2.2.set i (IntKind.u32.wrap ((((BitVec.ofInt 64 (nth s.2.2 i)) - (BitVec.ofInt 64 (IntKind.u32.wrap ((s.2.1+(q* (BitVec.ofInt 64 (nth v i)))).toNat:Int)))) - s.1).toNat:Int)))):=by
 obtain ⟨kb,kc,kl,kd,kr,ke⟩:=k;have dv:=h.dv.nth (i:=i) (by have:=h.vl;omega);have dx:=kd.nth (i:=i) a7;have ev:(BitVec.ofInt 64 (nth v i)).toNat=(nth v i).toNat:=lg dv
 have hmul:q.toNat* (nth v i).toNat≤18446744065119617025:=by
  have:=Nat.mul_le_mul (show q.toNat≤4294967295 by rw [iQ] at hq;omega) (show (nth v i).toNat≤4294967295 by rw [iQ] at dv;omega);omega
 have em:(s.2.1+(q* (BitVec.ofInt 64 (nth v i)))).toNat=s.2.1.toNat+q.toNat* (nth v i).toNat:=by
  (have e1:(q* (BitVec.ofInt 64 (nth v i))).toNat=q.toNat* (nth v i).toNat:=by rw [zlh (by rw [ev];omega),ev]);rw [zjU (by rw [e1];rw [iQ] at kc;omega),e1]
 rw [em,jo];generalize hm:s.2.1.toNat+q.toNat* (nth v i).toNat=m at *;obtain ⟨b',w,h1,h2,h3,h4,h5⟩:=zjJ (x:=nth s.2.2 i) (lo:=m % dj) (bb:=s.1) dx (Nat.mod_lt _ iB) kb; (have ec:((s.2.1+(q* (BitVec.ofInt 64 (nth v i)))) >>> 32).toNat=m / dj:=by rw [ziB,em,iQ])
 have hm2:m / dj<dj:=by
  rw [Nat.div_lt_iff_lt_mul iB,iQ];rw [iQ] at kc;omega
 refine ⟨by dsimp only;rw [h1];exact h5,by dsimp only;rw [ec];exact hm2,by dsimp only;rw [List.length_set];exact kl,?_,fun j hj hjn=>?_,?_⟩
 ·dsimp only;rw [h2];exact kd.set a7
 ·dsimp only;rw [ze2 a7];exact kr j a7 hjn
 ·dsimp only;rw [h1,ec,h2,iD (by have:=h.ul;omega),iD b7,zed,kR a7,iD (by have:=h.vl;omega),←kr i (Nat.le_refl i) a7];have hdm:=Nat.div_add_mod m dj
  (have e1:dj ^ i* ((nth s.2.2 i).toNat+dj*b')=dj ^ i* (w+m % dj+s.1.toNat):=by rw [h3]); (have e2:dj ^ i* (dj* (m / dj)+m % dj)=dj ^ i*m:=by rw [hdm])
  have e3:dj ^ i*m=dj ^ i*s.2.1.toNat+q.toNat* (dj ^ i* (nth v i).toNat):=by
   rw [←hm,Nat.mul_add,←Nat.mul_assoc,Nat.mul_comm (dj ^ i) q.toNat,Nat.mul_assoc]
  have e4:dj ^ (i+1) * (b'+m / dj)=dj ^ i* (dj*b')+dj ^ i* (dj* (m / dj)):=by
   rw [Nat.pow_succ,Nat.mul_add,Nat.mul_assoc,Nat.mul_assoc]
  (have e5:((w:Int)).toNat=w:=by omega);rw [e4,e5,Nat.mul_add q.toNat];rw [Nat.mul_add] at ke;rw [Nat.mul_add,Nat.mul_add,Nat.mul_add] at e1;rw [Nat.mul_add] at e2;omega
structure AI (u0 v:List Int) (n i:Nat) (s:BitVec 64×List Int):Prop where
 c:s.1.toNat≤1
 len:s.2.length=n+1
 dig:Dig dj s.2
 rest:∀j,i≤j→j≤n→nth s.2 j=nth u0 j
 eq:val dj (u0.take i)+val dj (v.take i)=val dj (s.2.take i)+dj ^ i*s.1.toNat
theorem AI.step {u0:List Int}(hl:u0.length=n+1)(hv:v.length=n)(hdv:Dig dj v){i:Nat}(hi:i<n){s:BitVec 64×List Int}(k:AI u0 v n i s):
  AI u0 v n (i+1) (((s.1+((BitVec.ofInt 64 (nth s.2 i))+(BitVec.ofInt 64 (nth v i)))) >>> 32),(s.2.set i (IntKind.u32.wrap ((s.1+((BitVec.ofInt 64 (nth s.2 i))+(BitVec.ofInt 64 (nth v i)))).toNat:Int)))):=by
 obtain ⟨kc,kl,kd,kr,ke⟩:=k;have dv:=hdv.nth (i:=i) a7;have dx:=kd.nth (i:=i) a7;have ev:(BitVec.ofInt 64 (nth v i)).toNat=(nth v i).toNat:=lg dv;have ex:(BitVec.ofInt 64 (nth s.2 i)).toNat=(nth s.2 i).toNat:=lg dx;have hB:=iQ; (have e1:((BitVec.ofInt 64 (nth s.2 i))+(BitVec.ofInt 64 (nth v i))).toNat=(nth s.2 i).toNat+(nth v i).toNat:=by rw [zjU (by rw [ev,ex];omega),ev,ex]); (have em:(s.1+((BitVec.ofInt 64 (nth s.2 i))+(BitVec.ofInt 64 (nth v i)))).toNat=s.1.toNat+((nth s.2 i).toNat+(nth v i).toNat):=by rw [zjU (by rw [e1];omega),e1]);rw [em,jo];generalize hm:s.1.toNat+((nth s.2 i).toNat+(nth v i).toNat)=m at *; (have ec:((s.1+((BitVec.ofInt 64 (nth s.2 i))+(BitVec.ofInt 64 (nth v i)))) >>> 32).toNat=m / dj:=by rw [ziB,em,iQ]);have hdm:=Nat.div_add_mod m dj;have hml:=Nat.mod_lt m iB
 have hm2:m / dj≤1:=by
  (have:m / dj<2:=by rw [Nat.div_lt_iff_lt_mul iB];omega);omega
 refine ⟨by dsimp only;rw [ec];exact hm2,by dsimp only;rw [List.length_set];exact kl,by dsimp only;exact kd.set a7,fun j hj hjn=>?_,?_⟩
 ·dsimp only;rw [ze2 a7];exact kr j a7 hjn
 ·dsimp only;rw [ec,iD a7,iD a7,iD b7,zed,kR a7,←kr i (Nat.le_refl i) a7]; (have e2:dj ^ i* (dj* (m / dj)+m % dj)=dj ^ i*m:=by rw [hdm]); (have e3:dj ^ i*m=dj ^ i*s.1.toNat+dj ^ i* (nth s.2 i).toNat+dj ^ i* (nth v i).toNat:=by rw [←hm,Nat.mul_add,Nat.mul_add];omega); (have e4:dj ^ (i+1) * (m / dj)=dj ^ i* (dj* (m / dj)):=by rw [Nat.pow_succ,Nat.mul_assoc]);rw [e4,show (((m % dj:Nat):Int)).toNat=m % dj by omega];rw [Nat.mul_add] at e2;omega
def kZ (u v:List Int)(n:Nat)(x:Option (Int×List Int)):Prop:=∃u',x=some (((val dj u / val dj v:Nat):Int),u')∧u'.length=n+1∧Dig dj u'∧val dj (u'.take n)=val dj u % val dj v∧nth u' n=0
theorem zkW (h:QIn u v n){q:BitVec 64}(hq:q.toNat<dj)(h1:val dj u / val dj v≤q.toNat)(h2:q.toNat≤val dj u / val dj v+1):kZ u v n (zgU u v q):=by
 have hB:=iQ;have hn2:=h.n2;have hvl:=h.vl;have hul:=h.ul;have hVn:=jR h.dv
 have hV:0<val dj v:=by
  have h1:=h.parts.2.1;have:=h.top;have h3:0<dj ^ (n - 2):=Nat.pow_pos iB
  have h4:=Nat.mul_le_mul h3 (show 1≤(nth v (n - 1)).toNat*dj+(nth v (n - 2)).toNat by
   have:=Nat.mul_le_mul_right dj (show 1≤(nth v (n - 1)).toNat by omega)
   omega)
  omega
 have hQV:=Nat.div_mul_le_self (val dj u) (val dj v);have hmod:=Nat.div_add_mod (val dj u) (val dj v);have hml:=Nat.mod_lt (val dj u) hV;rw [hvl] at hVn; (have hQW:val dj u / val dj v<dj:=by rw [Nat.div_lt_iff_lt_mul hV];exact h.lt);unfold zgU;rw [hvl];refine ly (n:=n) (fun i s=>MI u v n q.toNat i s) (kZ u v n) ⟨by simp,by simp [iB],hul,h.du,fun _ _ _=>rfl,by simp [val]⟩ (fun s k=>?_) (fun i s next hi k hn=>?_)
 ·obtain ⟨kb,kc,kl,kd,kr,ke⟩:=k
  have eu:val dj u=val dj (u.take n)+dj ^ n* (nth u n).toNat:=by
   have:=iD (B:=dj) (l:=u) (i:=n) a7;rw [←hul,List.take_length] at this;exact this
  (have ev:v.take n=v:=by rw [←hvl,List.take_length]);rw [ev] at ke;have hwl:=jR (kd.take n);rw [List.length_take,Nat.min_eq_left a7] at hwl;have dn:=h.du.nth (i:=n) a7;rw [eE a7,kr n (Nat.le_refl n) (Nat.le_refl n)];generalize hT:val dj (s.2.2.take n)=T at *;generalize hP:dj ^ n=b at *;generalize hUT:val dj (u.take n)=X at *;generalize hU:val dj u=U at *;generalize hVV:val dj v=V at *;generalize hQ:U / V=Q at *;generalize hR:U % V=R at*
  have eun:(BitVec.ofInt 64 (nth u n)).toNat=(nth u n).toNat:=lg dn
  have ed:((BitVec.ofInt 64 (nth u n) - s.2.1) - s.1).toNat=if s.2.1.toNat+s.1.toNat≤(nth u n).toNat then (nth u n).toNat - s.2.1.toNat - s.1.toNat else 18446744073709551616+(nth u n).toNat - s.2.1.toNat - s.1.toNat:=by
   rw [zi6,zi6,eun]
   split <;> omega
  have e63:((((BitVec.ofInt 64 (nth u n) - s.2.1) - s.1) >>> 63).toNat:Int)=if s.2.1.toNat+s.1.toNat≤(nth u n).toNat then 0 else 1:=by
   rw [ziB,ed];split <;> omega
  rw [e63];generalize hc:s.2.1.toNat+s.1.toNat=c at *; (have hc':s.1.toNat+s.2.1.toNat=c:=by omega);rw [hc'] at ke;generalize hun:(nth u n).toNat=un at*
  by_cases hle:c≤un
  ·rw [if_pos hle,show (((0#64).toNat:Nat):Int)=0 from rfl,decide_eq_false b4,cond_false];rw [if_pos hle] at ed;obtain ⟨g,hg⟩:∃g,un=c+g:=⟨un - c,by omega⟩
   have hqQ:q.toNat=Q:=by
    rcases Nat.lt_or_ge Q q.toNat with hlt|hge
    ·exfalso; (have e1:q.toNat=Q+1:=by omega);rw [e1,Nat.add_mul,Nat.one_mul] at ke;rw [hg,Nat.mul_add] at eu;rw [Nat.mul_comm V Q] at hmod;omega
    ·omega
   rw [hqQ] at ke;rw [Nat.mul_comm V Q] at hmod;rw [hg,Nat.mul_add] at eu
   have hg0:g=0:=by
    rcases Nat.eq_zero_or_pos g with e|e
    ·exact e
    ·have:=Nat.mul_le_mul_left b e;omega
   subst hg0;rw [Nat.mul_zero] at eu; (have ew:IntKind.u32.wrap ((((BitVec.ofInt 64 (nth u n) - s.2.1) - s.1)).toNat:Int)=0:=by rw [ed,show un - s.2.1.toNat - s.1.toNat=0 by omega];rfl);rw [ew,hqQ,jo,Nat.mod_eq_of_lt a7];refine ⟨_,by rw [hU,hVV,hQ],by rw [List.length_set];exact kl,kd.set a7,?_,kR a7⟩;rw [zed,hT,hU,hVV,hR];omega
  ·rw [if_neg hle,show (((0#64).toNat:Nat):Int)=0 from rfl,decide_eq_true b4,cond_true];rw [if_neg hle] at ed;obtain ⟨g,hg⟩:∃g,c=un+(g+1):=⟨c - un - 1,by omega⟩
   have hqQ:q.toNat=Q+1:=by
    rcases Nat.lt_or_ge Q q.toNat with hlt|hge
    ·omega
    ·exfalso; (have e1:q.toNat=Q:=by omega);rw [e1] at ke;rw [hg,Nat.mul_add,Nat.mul_add,Nat.mul_one] at ke;rw [Nat.mul_comm V Q] at hmod;omega
   rw [hqQ,Nat.add_mul,Nat.one_mul] at ke;rw [Nat.mul_comm V Q] at hmod;rw [hg,Nat.mul_add,Nat.mul_add,Nat.mul_one] at ke
   have hg0:g=0:=by
    rcases Nat.eq_zero_or_pos g with e|e
    ·exact e
    ·have:=Nat.mul_le_mul_left b e;omega
   subst hg0;rw [Nat.mul_zero,Nat.zero_add] at ke; (have ew:IntKind.u32.wrap ((((BitVec.ofInt 64 (nth u n) - s.2.1) - s.1)).toNat:Int)=((dj - 1:Nat):Int):=by rw [ed,jo,hB,show 18446744073709551616+un - s.2.1.toNat - s.1.toNat=18446744073709551615 by omega]);rw [ew]; (have kl0:(s.2.2.set n ((dj - 1:Nat):Int)).length=n+1:=by rw [List.length_set];exact kl);have hd0:Dig dj (s.2.2.set n ((dj - 1:Nat):Int)):=kd.set a7;refine ly (n:=n) (fun i s'=>AI (s.2.2.set n ((dj - 1:Nat):Int)) v n i s') (kZ u v n) ⟨by simp,kl0,hd0,fun _ _ _=>rfl,by simp [val]⟩ (fun s' k=>?_) (fun i s' next hi k hn=>?_)
   ·obtain ⟨ac,al,ad,ar,ae⟩:=k;rw [zed,hT,ev,hVV] at ae;have hwl2:=jR (ad.take n);rw [List.length_take,Nat.min_eq_left a7,hP] at hwl2;rw [eE a7,ar n (Nat.le_refl n) (Nat.le_refl n),kR a7,jo]
    have e1:s'.1.toNat=1:=by
     rcases Nat.eq_zero_or_pos s'.1.toNat with e|e
     ·rw [e,Nat.mul_zero] at ae;exfalso; (have z1:T+V=R+b:=by omega);omega
     ·omega
    rw [e1,Nat.mul_one] at ae; (have e2:IntKind.u32.wrap (((dj - 1:Nat):Int)+IntKind.u32.wrap ((1:Nat):Int))=0:=by rw [hB];rfl); (have e3:(q - 1#64).toNat=Q:=by rw [zi6,hqQ,show (1#64).toNat=1 from rfl];omega);rw [e3,Nat.mod_eq_of_lt hQW,e1,e2];refine ⟨_,by rw [hU,hVV,hQ],by rw [List.length_set];exact al,ad.set a7,?_,kR a7⟩;rw [zed,hU,hVV,hR];omega
   ·have:=k.len;rw [eE a7];exact hn _ (AI.step kl0 hvl h.dv hi k)
 ·have:=k.len;rw [eE a7];exact hn _ (MI.step h hq hi k)
theorem zgH {fuel : Nat} (hf : 4 ≤ fuel) (h : QIn u v n) : kZ u v n (zbs fuel u v) := by
  have hB := iQ; have hn2 := h.n2; have hvl := h.vl; have hul := h.ul; have htop := h.top; have d1 := h.dv.nth (i := n - 1) a7; have d2 := h.dv.nth (i := n - 2) a7; have un := h.du.nth (i := n) a7; have u1 := h.du.nth (i := n - 1) a7; have u2 := h.du.nth (i := n - 2) a7; have ehi : (BitVec.ofInt 64 (nth v (n - 1))).toNat = (nth v (n - 1)).toNat := lg d1; have ev2 : (BitVec.ofInt 64 (nth v (n - 2))).toNat = (nth v (n - 2)).toNat := lg d2; have eun : (BitVec.ofInt 64 (nth u n)).toNat = (nth u n).toNat := lg un; have eu1 : (BitVec.ofInt 64 (nth u (n - 1))).toNat = (nth u (n - 1)).toNat := lg u1; have eu2 : (BitVec.ofInt 64 (nth u (n - 2))).toNat = (nth u (n - 2)).toNat := lg u2
  have hne : ¬ BitVec.ofInt 64 (nth v (n - 1)) = 0#64 := fun e => by
    have := congrArg BitVec.toNat e; rw [ehi, show (0#64).toNat = 0 from rfl] at this; omega
  have etop := zjh (a := BitVec.ofInt 64 (nth u n)) (b := BitVec.ofInt 64 (nth u (n - 1))) a7 a7; rw [eun, eu1] at etop; unfold zbs; rw [hvl, show ((n : Int) - 1).toNat = n - 1 by omega, show ((n : Int) - 2).toNat = n - 2 by omega]; rw [eE a7, eE a7, eE hne, eE hne];simp only [dM]
  have hV : 0 < val dj v := by
    have h1 := h.parts.2.1; have h3 : 0 < dj ^ (n - 2) := Nat.pow_pos iB
    have h4 := Nat.mul_le_mul h3 (show 1 ≤ (nth v (n - 1)).toNat * dj + (nth v (n - 2)).toNat by
      have := Nat.mul_le_mul_right dj (show 1 ≤ (nth v (n - 1)).toNat by omega)
      omega)
    omega
  (have hQW : val dj u / val dj v < dj := by rw [Nat.div_lt_iff_lt_mul hV]; exact h.lt); have hlo := h.lo (Q := val dj u / val dj v) (Nat.div_mul_le_self _ _); have htu := h.topu; have hhi : ∀ q : Nat, q < dj → q * ((nth v (n - 1)).toNat * dj + (nth v (n - 2)).toNat) ≤ ((nth u n).toNat * dj + (nth u (n - 1)).toNat) * dj + (nth u (n - 2)).toNat → q ≤ val dj u / val dj v + 1 := fun q h1 h2 => h.hi h1 h2; have htail : ∀ q : BitVec 64, q.toNat < dj → val dj u / val dj v ≤ q.toNat → q.toNat ≤ val dj u / val dj v + 1 → kZ u v n (zgU u v q) := fun q h1 h2 h3 => zkW h h1 h2 h3; unfold zgU at htail; rw [hvl] at htail; generalize val dj u / val dj v = Q at *; generalize hhv : (nth v (n - 1)).toNat = hi at *; generalize hv2' : (nth v (n - 2)).toNat = v2 at *; generalize hun' : (nth u n).toNat = a at *; generalize hu1' : (nth u (n - 1)).toNat = a1 at *; generalize hu2' : (nth u (n - 2)).toNat = a2 at *; rw [hB] at hlo hhi; refine zeA (fun s => s.1.toNat * hi + s.2.toNat = a * 4294967296 + a1 ∧ s.2.toNat < 4294967296 ∧ Q ≤ s.1.toNat ∧ s.1.toNat ≤ 4294967300) (fun s => if s.2.toNat < 2147483648 then 1 else 0) (kZ u v n) ?_ (by split <;> omega) ?_
  · (have hq0 : ((((BitVec.ofInt 64 (nth u n)) <<< 32) ||| (BitVec.ofInt 64 (nth u (n - 1)))) / (BitVec.ofInt 64 (nth v (n - 1)))).toNat = (a * 4294967296 + a1) / hi := by rw [BitVec.toNat_udiv, etop, ehi]); (have hr0 : ((((BitVec.ofInt 64 (nth u n)) <<< 32) ||| (BitVec.ofInt 64 (nth u (n - 1)))) % (BitVec.ofInt 64 (nth v (n - 1)))).toNat = (a * 4294967296 + a1) % hi := by rw [BitVec.toNat_umod, etop, ehi]);dsimp only; rw [hq0, hr0]; have hdm := Nat.div_add_mod (a * 4294967296 + a1) hi; have hml := Nat.mod_lt (a * 4294967296 + a1) (show 0 < hi by omega); rw [Nat.mul_comm] at hdm; refine ⟨hdm, by omega, ?_, ?_⟩
    · -- the true word is at most the guess
      rw [Nat.le_div_iff_mul_le a7]; have h5 : Q * (hi * 4294967296) ≤ Q * (hi * 4294967296 + v2) := Nat.mul_le_mul_left _ (Nat.le_add_right _ _); (have h6 : Q * (hi * 4294967296) = Q * hi * 4294967296 := by rw [Nat.mul_assoc]); omega
    · refine Nat.le_of_lt_succ ?_; rw [Nat.div_lt_iff_lt_mul a7]; have : a * 4294967296 ≤ hi * 4294967296 := Nat.mul_le_mul_right _ htu; omega
  · rintro ⟨q, r⟩ next ⟨i1, i2, i3, i4⟩ hn; dsimp only at i1 i2 i3 i4 hn ⊢
    have step : Q + 1 ≤ q.toNat → kZ u v n (bif decide (((4294967296#64).toNat : Int) ≤ ((r + (BitVec.ofInt 64 (nth v (n - 1)))).toNat : Int)) then
            zgU u v (q - 1#64)
            else
            next ((q - (1#64)), (r + (BitVec.ofInt 64 (nth v (n - 1)))))) := fun hgt => by
      (have er : (r + (BitVec.ofInt 64 (nth v (n - 1)))).toNat = r.toNat + hi := by rw [zjU (by rw [ehi]; omega), ehi]); (have eq : (q - 1#64).toNat = q.toNat - 1 := by rw [zi6, show (1#64).toNat = 1 from rfl]; omega); obtain ⟨p, hp⟩ : ∃ p, q.toNat = p + 1 := ⟨q.toNat - 1, by omega⟩; rw [hp, Nat.add_mul, Nat.one_mul] at i1; rw [er, show (((4294967296#64).toNat : Nat) : Int) = 4294967296 from rfl]; by_cases hbr : 4294967296 ≤ r.toNat + hi
      · rw [decide_eq_true a7, cond_true]
        have hpW : p < 4294967296 := by
          refine Nat.lt_of_mul_lt_mul_right (a := hi) ?_; have : a * 4294967296 ≤ hi * 4294967296 := Nat.mul_le_mul_right _ htu; rw [Nat.mul_comm 4294967296 hi]; omega
        have h2 : p * (hi * 4294967296 + v2) ≤ (a * 4294967296 + a1) * 4294967296 + a2 := by
          (have e1 : p * (hi * 4294967296 + v2) = p * hi * 4294967296 + p * v2 := by rw [Nat.mul_add, Nat.mul_assoc]); have e2 : p * v2 ≤ 4294967296 * 4294967296 := Nat.mul_le_mul a7 a7; omega
        have h3 := hhi p a7 h2; unfold zgU; rw [hvl]; exact htail _ a7 a7 a7
      · rw [decide_eq_false a7, cond_false]; refine hn _ ⟨?_, ?_, ?_, ?_⟩ ?_
        · dsimp only; rw [eq, er, hp]; show (p + 1 - 1) * hi + _ = _; rw [Nat.add_sub_cancel]; omega
        · dsimp only; omega
        · dsimp only; omega
        · dsimp only; omega
        · dsimp only; rw [er]; split <;> split <;> omega
    unfold zgU at step; rw [hvl] at step; rw [show (((4294967296#64).toNat : Nat) : Int) = 4294967296 from rfl] at step ⊢; by_cases hbig : 4294967296 ≤ q.toNat
    · rw [decide_eq_true (show (4294967296 : Int) ≤ (q.toNat : Int) by omega), cond_true, cond_true]; exact step a7
    · rw [decide_eq_false (show ¬ (4294967296 : Int) ≤ (q.toNat : Int) by omega), cond_false, eE a7]; (have ej : ((r <<< 32) ||| (BitVec.ofInt 64 (nth u (n - 2)))).toNat = r.toNat * 4294967296 + a2 := by rw [zjh a7 a7, eu2]); have hmul : q.toNat * v2 ≤ 4294967296 * 4294967295 := Nat.mul_le_mul a7 a7; (have em : (q * (BitVec.ofInt 64 (nth v (n - 2)))).toNat = q.toNat * v2 := by rw [zlh (by rw [ev2]; omega), ev2]); rw [ej, em]; (have e1 : q.toNat * (hi * 4294967296 + v2) = q.toNat * hi * 4294967296 + q.toNat * v2 := by rw [Nat.mul_add, Nat.mul_assoc]); by_cases htest : r.toNat * 4294967296 + a2 < q.toNat * v2
      · rw [decide_eq_true a7, cond_true]; refine step (Nat.succ_le_of_lt (Nat.lt_of_not_le fun hle => ?_)); have := Nat.mul_le_mul_right (hi * 4294967296 + v2) hle; omega
      · rw [decide_eq_false a7, cond_false]; have h3 := hhi q.toNat a7 (by rw [e1]; omega); exact htail _ a7 i3 h3
end
theorem gq {x:Int}(h: -9223372036854775808≤x∧x≤9223372036854775807):wI x=x:=IntWalk.i64_in _ h
theorem lI {l:List Int}{i:Nat}(h:l.length≤i):nth l i=0:=by
 unfold nth;rw [List.getD_eq_getElem?_getD,List.getElem?_eq_none h];rfl
section
variable {B:Nat}{l m:List Int}{i:Nat}
theorem zgK (h:Dig B l)(hB:0<B)(i:Nat):0≤nth l i∧nth l i<(B:Int):=by
 rcases Nat.lt_or_ge i l.length with hi|hi
 ·exact h.nth hi
 ·rw [lI hi];omega
theorem ze9 (hB:0<B):∀ {l:List Int},Dig B l→∀i,(nth l i).toNat=val B l / B ^ i % B
 | [],_,i=>by rw [lI b4];simp [val]
 |x :: l,h,0=>by
  have:=h.head;rw [zf2,val,Nat.pow_zero,Nat.div_one,Nat.add_mul_mod_self_left,Nat.mod_eq_of_lt a7]
 |x :: l,h,i+1=>by
  have:=h.head;rw [zg8,ze9 hB h.tail i,val,Nat.pow_succ,Nat.mul_comm (B ^ i) B,←Nat.div_div_eq_div_mul,Nat.add_mul_div_left _ _ hB,Nat.div_eq_of_lt (show x.toNat<B by omega),Nat.zero_add]
theorem zgd {N:Nat}(hB:0<B)(h:∀i,i<l.length→(nth l i).toNat=N / B ^ i % B)(hN:N<B ^ l.length):val B l=N:=by
 have key:∀i,i≤l.length→val B (l.take i)=N % B ^ i:=by
  intro i
  induction i with
  |zero=>intro _;simp [val,Nat.mod_one]
  |succ i ih=>
   intro hi;rw [iD a7,ih a7,h i a7,Nat.pow_succ,Nat.mod_mul]
 have:=key l.length (Nat.le_refl _);rw [List.take_length,Nat.mod_eq_of_lt hN] at this;exact this
theorem zh9 (hB:0<B)(h:Dig B l)(hz:∀k,nth l k=0):val B l=0:=by
 have:=zgd (B:=B) (l:=l) (N:=0) hB (fun i _=>by rw [hz i];simp) (Nat.pow_pos hB);exact this
theorem ziN {l:List Int}{n k:Nat}(h:k<n):nth (l.take n) k=nth l k:=by
 unfold nth;rw [List.getD_eq_getElem?_getD,List.getD_eq_getElem?_getD,List.getElem?_take_of_lt h]
theorem zf9 {l:List Int}{n k:Nat}:nth (l.drop n) k=nth l (n+k):=by
 unfold nth;rw [List.getD_eq_getElem?_getD,List.getD_eq_getElem?_getD,List.getElem?_drop]
theorem ziH {l m:List Int}{k:Nat}(h:k<l.length):nth (l++m) k=nth l k:=by
 unfold nth;rw [List.getD_eq_getElem?_getD,List.getD_eq_getElem?_getD,List.getElem?_append_left h]
theorem ziQ {l m:List Int}{k:Nat}(h:l.length≤k):nth (l++m) k=nth m (k - l.length):=by
 unfold nth;rw [List.getD_eq_getElem?_getD,List.getD_eq_getElem?_getD,List.getElem?_append_right h]
theorem zgJ {l:List Int}{k:Nat}(h:k<l.length):nth l.reverse k=nth l (l.length - 1 - k):=by
 unfold nth;rw [List.getD_eq_getElem?_getD,List.getD_eq_getElem?_getD,List.getElem?_reverse h]
theorem Dig.rev (h:Dig B l):Dig B l.reverse:=fun x hx=>h x (List.mem_reverse.1 hx)
end
structure NatIs (x:List Int) (X:Nat):Prop where
 dig:Dig dj x
 trm:l5 x
 eq:val dj x=X
theorem NatIs.uniq {x y:List Int}{X:Nat}(h:NatIs x X)(k:NatIs y X):x=y:=ziC h.dig k.dig h.trm k.trm (h.eq.trans k.eq.symm)
theorem NatIs.nil {x:List Int}{X:Nat}(h:NatIs x X):x=[]↔X=0:=by
 rw [←h.eq];exact (zhy h.dig h.trm iB).symm
theorem NatIs.pos {x:List Int}{X:Nat}(h:NatIs x X):0<x.length↔0<X:=by
 have:=h.nil;rw [List.length_pos_iff];constructor
 ·intro e;rcases Nat.eq_zero_or_pos X with z|z
  ·exact absurd (this.2 z) e
  ·exact z
 ·intro e z;have:=this.1 z;omega
theorem NatIs.zero:NatIs [] 0:=⟨Dig.nil, .inl rfl,rfl⟩
theorem NatIs.len {x:List Int}{X k:Nat}(h:NatIs x X)(hk:X<dj ^ k):x.length≤k:=by
 by_cases hn:x=[]
 ·rw [hn];exact Nat.zero_le _
 ·have:=zih h.dig h.trm hn;rw [h.eq] at this;have h2:=Nat.lt_of_le_of_lt this hk;have:=(Nat.pow_lt_pow_iff_right (show 1<dj by rw [iQ];decide)).1 h2;omega
theorem zjc {fuel:Nat}{l:List Int}(hf:l.length+1≤fuel)(hd:Dig dj l):∃r,ky fuel l=some r∧NatIs r (val dj l):=by
 obtain ⟨r,h1,h2,h3,h4,h5⟩:=zk9 dj l.length fuel l rfl hf;exact ⟨r,h1,h4 hd,h3,h2⟩
theorem zhT:dj=256 ^ 4:=by rw [iQ]
theorem u8w {x:Int}(h:0≤x∧x<256):IntKind.u8.wrap x=x:=by
 refine q3y ?_;simp;omega
theorem zkI {a d s:Nat}(hs:s≤3)(ha:a<256 ^ s)(hd:d<256):orK .u32 (a:Int) (shlK .u32 (d:Int) ((8*s:Nat):Int))=((a+d*256 ^ s:Nat):Int):=by
 have e1:shlK .u32 (d:Int) ((8*s:Nat):Int)=((d*256 ^ s:Nat):Int):=by
  unfold shlK;rw [show IntKind.u32.bits=32 from rfl,Int.toNat_natCast,Nat.min_eq_left a7];rw [show (2:Int) ^ (8*s)=((256 ^ s:Nat):Int) by rw [Int.pow_mul,Int.natCast_pow];rfl];rw [←Int.natCast_mul,zeB];refine ⟨by omega,?_⟩;have h1:d*256 ^ s≤255*256 ^ 3:=Nat.mul_le_mul a7 (Nat.pow_le_pow_right a7 hs);omega
 have h2:256 ^ s≤256 ^ 3:=Nat.pow_le_pow_right a7 hs;have h1:d*256 ^ s≤255*256 ^ 3:=Nat.mul_le_mul a7 h2;rw [e1,zkG a7 a7,Int.toNat_natCast,Int.toNat_natCast];have h3:=zgQ (a:=a) (d:=d) (s:=8*s) (by rw [Nat.pow_mul];exact ha);rw [Nat.pow_mul] at h3;rw [h3]
theorem zgr {fuel:Nat}{D:List Int}(hl:D.length≤1000000)(hf:D.length+4≤fuel)(hd:Dig 256 D):∃r,mo fuel D=some r∧NatIs r (val 256 D.reverse):=by
 (have hw:wI ((D.length:Int)+3)=((D.length+3:Nat):Int):=by rw [gq a7];omega);unfold mo;rw [hw,eE a7,eE a7,eE (by show _*_≤_;omega)];simp only [dM]; (have hL:(((D.length+3:Nat):Int) / 4).toNat=(D.length+3) / 4:=by omega);rw [hL];generalize hn:D.length=n at *;have hr:Dig 256 D.reverse:=hd.rev; (have hrl:D.reverse.length=n:=by rw [List.length_reverse,hn]);refine ly (n:=n) (fun i (l:List Int)=>l.length=(n+3) / 4∧Dig dj l∧val dj l=val 256 (D.reverse.take i)∧(nth l (i / 4)).toNat<256 ^ (i % 4)∧∀k,i / 4<k→nth l k=0) (fun x=>∃r,x=some r∧NatIs r (val 256 D.reverse)) ?_ (fun l hI=>?_) (fun i l next hi hI hnx=>?_)
 ·refine ⟨by simp,gB iB _,by rw [zit];simp [val],?_,fun k _=>?_⟩
  ·have:nth (List.replicate ((n+3) / 4) (0:Int)) (0 / 4)=0:=by
    by_cases h:0 / 4<(n+3) / 4
    ·rw [fK (by rw [List.length_replicate];exact h),List.getElem_replicate]
    ·exact lI cT
   rw [this];exact Nat.pow_pos a7
  ·by_cases h:k<(n+3) / 4
   ·rw [fK (by rw [List.length_replicate];exact h),List.getElem_replicate]
   ·exact lI cT
 ·obtain ⟨i1,i2,i3, -, -⟩:=hI;obtain ⟨r,h1,h2⟩:=zjc (fuel:=fuel) (l:=l) a7 i2;rw [h1];rw [←hrl,List.take_length] at i3;rw [i3] at h2;exact ⟨r,rfl,h2⟩
 ·obtain ⟨i1,i2,i3,i4,i5⟩:=hI;have hx:=hd.nth (i:=n - 1 - i) a7; (have hw2:wI (8* ((i:Int) % 4))=((8* (i % 4):Nat):Int):=by rw [gq a7];omega);rw [eE a7,eE a7,eE a7,hw2,eE a7];rw [show ((i:Int) / 4).toNat=i / 4 by omega,show (((n:Int) - 1) - (i:Int)).toNat=n - 1 - i by omega]; (have e32:IntKind.u32.wrap (nth D (n - 1 - i))=((nth D (n - 1 - i)).toNat:Int):=by rw [zeB _ a7];omega);have hl0:=i2.nth (i:=i / 4) a7
  have eor:orK .u32 (nth l (i / 4)) (shlK .u32 (IntKind.u32.wrap (nth D (n - 1 - i))) ((8* (i % 4):Nat):Int))=(((nth l (i / 4)).toNat+(nth D (n - 1 - i)).toNat*256 ^ (i % 4):Nat):Int):=by
   rw [e32];have:=zkI (a:=(nth l (i / 4)).toNat) (d:=(nth D (n - 1 - i)).toNat) (s:=i % 4) a7 i4 a7;rw [Int.toNat_of_nonneg hl0.1] at this;exact this
  rw [eor];generalize hd':(nth D (n - 1 - i)).toNat=d at *;generalize ha:(nth l (i / 4)).toNat=a at *; (have hd256:d<256:=by omega);have hp3:256 ^ (i % 4)≤256 ^ 3:=Nat.pow_le_pow_right a7 a7
  have hp:d*256 ^ (i % 4)+256 ^ (i % 4)≤256 ^ (i % 4+1):=by
   have:=Nat.mul_le_mul_right (256 ^ (i % 4)) (show d+1≤256 by omega);rw [Nat.add_mul,Nat.one_mul] at this;rw [Nat.pow_succ];omega
  (have hp4:256 ^ (i % 4+1)≤dj:=by rw [zhT];exact Nat.pow_le_pow_right a7 a7);refine hnx _ ⟨by rw [List.length_set];exact i1,i2.set a7,?_,?_,fun k hk=>?_⟩
  ·have h1:=zjj (B:=dj) (l:=l) (i:=i / 4) (x:=((a+d*256 ^ (i % 4):Nat):Int)) a7;rw [ha,Int.toNat_natCast,Nat.mul_add,i3] at h1;rw [iD a7,zgJ a7,show D.length - 1 - i=n - 1 - i by omega,hd']
   have h2:dj ^ (i / 4) * (d*256 ^ (i % 4))=256 ^ i*d:=by
    rw [zhT,←Nat.pow_mul,Nat.mul_comm d,←Nat.mul_assoc,←Nat.pow_add,Nat.div_add_mod]
   omega
  ·by_cases h4:i % 4=3
   ·rw [show (i+1) / 4=i / 4+1 by omega,ze2 a7,i5 _ a7,show (i+1) % 4=0 by omega];decide
   ·rw [show (i+1) / 4=i / 4 by omega,kR a7,show (i+1) % 4=i % 4+1 by omega,Int.toNat_natCast];omega
  ·rw [ze2 a7];exact i5 k a7
theorem zi4 {fuel:Nat}{x:List Int}{X d:Nat}(hl:x.length≤1000000)(hf:x.length+1≤fuel)(hx:NatIs x X)(hd:0<d)(hd2:d<dj):∃q,zcP fuel x (d:Int)=some (q,((X % d:Nat):Int))∧NatIs q (X / d):=by
 have hB:=iQ;unfold zcP;rw [eE (by show _*_≤_;omega)];simp only [dM]; (have ed:(BitVec.ofInt 64 (d:Int)).toNat=d:=by rw [ofI a7];omega)
 have hne:¬BitVec.ofInt 64 (d:Int)=0#64:=fun e=>by
  have:=congrArg BitVec.toNat e;rw [ed,show (0#64).toNat=0 from rfl] at this;omega
 refine zfA (n:=x.length) (fun m (s:BitVec 64×List Int)=>s.1.toNat<d∧s.2.length=x.length∧Dig dj s.2∧val dj (x.drop m)=val dj (s.2.drop m) *d+s.1.toNat) (fun o=>∃q,o=some (q,((X % d:Nat):Int))∧NatIs q (X / d)) ?_ (fun s hI=>?_) (fun i s next hi hI hnx=>?_)
 ·refine ⟨by simpa using hd,by simp,gB iB _,?_⟩;rw [List.drop_eq_nil_of_le (Nat.le_refl _),List.drop_eq_nil_of_le b4];simp [val]
 ·obtain ⟨i1,i2,i3,i4⟩:=hI;rw [List.drop_zero,List.drop_zero,hx.eq,Nat.mul_comm] at i4;obtain ⟨r,h1,h2⟩:=zjc (fuel:=fuel) (l:=s.2) a7 i3; (have e1:X / d=val dj s.2:=by rw [i4,Nat.mul_add_div hd,Nat.div_eq_of_lt i1,Nat.add_zero]); (have e2:X % d=s.1.toNat:=by rw [i4,Nat.mul_add_mod,Nat.mod_eq_of_lt i1]);rw [h1,e1,e2];refine ⟨r,?_,h2⟩;refine fj ?_;rw [zeB _ a7]
 ·obtain ⟨i1,i2,i3,i4⟩:=hI;rw [eE hne,eE a7,eE hne];have hxi:=hx.dig.nth hi
  have ej:((s.1 <<< 32) ||| (BitVec.ofInt 64 (nth x i))).toNat=s.1.toNat*4294967296+(nth x i).toNat:=by
   rw [zjh a7 (by rw [lg hxi];omega),lg hxi]
  generalize hT:s.1.toNat*4294967296+(nth x i).toNat=T at *; (have e1:(((s.1 <<< 32) ||| (BitVec.ofInt 64 (nth x i))) % (BitVec.ofInt 64 (d:Int))).toNat=T % d:=by rw [BitVec.toNat_umod,ej,ed]); (have e2:(((s.1 <<< 32) ||| (BitVec.ofInt 64 (nth x i))) / (BitVec.ofInt 64 (d:Int))).toNat=T / d:=by rw [BitVec.toNat_udiv,ej,ed])
  have hq:T / d<dj:=by
   rw [Nat.div_lt_iff_lt_mul hd,hB];have:=Nat.mul_le_mul_right 4294967296 (show s.1.toNat+1≤d by omega);rw [Nat.mul_comm d] at this;omega
  have hdm:=Nat.div_add_mod T d;refine hnx _ ⟨by dsimp only;rw [e1];exact Nat.mod_lt _ hd,by dsimp only;rw [List.length_set];exact i2,by dsimp only;rw [e2,zeB _ a7];exact i3.set a7,?_⟩;dsimp only;rw [e1,e2,zeB _ a7,zea hi,zea (l:=s.2.set i _) b7,kR a7,Int.toNat_natCast,i4,List.drop_set_of_lt a7];rw [Nat.add_mul,Nat.mul_add,Nat.mul_assoc,Nat.mul_comm (T / d) d,hB];omega
theorem zkf:∀i:Fin 256,i.val≠0→0≤Lib.len8 (i.val:Int)∧1≤(Lib.len8 (i.val:Int)).toNat∧(Lib.len8 (i.val:Int)).toNat≤8∧2 ^ ((Lib.len8 (i.val:Int)).toNat - 1)≤i.val∧i.val<2 ^ (Lib.len8 (i.val:Int)).toNat:=by decide +kernel
theorem zkz {i:Nat}(h0:0<i)(h:i<256):∃s:Nat,1≤s∧s≤8∧Lib.len8 (i:Int)=(s:Int)∧2 ^ (s - 1)≤i∧i<2 ^ s:=by
 have h1:=zkf ⟨i,h⟩ (by show i≠0;omega);refine ⟨(Lib.len8 (i:Int)).toNat,h1.2.1,h1.2.2.1,(Int.toNat_of_nonneg h1.1).symm,h1.2.2.2.1,h1.2.2.2.2⟩
theorem zjV {a b:Nat}(hb:b≤32):shrK .u32 (a:Int) (b:Int)=((a / 2 ^ b:Nat):Int):=by
 unfold shrK;rw [show IntKind.u32.bits=32 from rfl,Int.toNat_natCast,Nat.min_eq_left hb,Int.fdiv_eq_ediv_of_nonneg _ (by exact Int.le_of_lt (Int.pow_pos a7))];rw [Int.natCast_ediv,Int.natCast_pow];rfl
theorem zkN {x y t s:Nat}(hy:y=x / 2 ^ t)(h1:2 ^ (s - 1)≤y)(h2:y<2 ^ s)(hs:1≤s):2 ^ (s+t - 1)≤x∧x<2 ^ (s+t):=by
 subst hy;constructor
 ·rw [Nat.le_div_iff_mul_le (Nat.pow_pos a7),←Nat.pow_add] at h1;rw [show s+t - 1=s - 1+t by omega];exact h1
 ·rw [Nat.div_lt_iff_lt_mul (Nat.pow_pos a7),←Nat.pow_add] at h2;exact h2
theorem zjg {x:Nat}(h0:0<x)(h:x<4294967296):∃s:Nat,1≤s∧s≤32∧zcj (x:Int)=some (s:Int)∧2 ^ (s - 1)≤x∧x<2 ^ s:=by
 unfold zcj;simp only [dM]
 have fin:∀(y t:Nat),y=x / 2 ^ t→0<y→y<256→t≤24→∃s:Nat,1≤s∧s≤32∧(dz (0≤(IntKind.u8.wrap (y:Int))∧(IntKind.u8.wrap (y:Int))≤(255:Int)) <| some (wI ((t:Int)+(wI (Lib.len8 (IntKind.u8.wrap (y:Int)))))))=some (s:Int)∧2 ^ (s - 1)≤x∧x<2 ^ s:=fun y t hy h1 h2 h3=>by
  obtain ⟨s,s1,s2,s3,s4,s5⟩:=zkz h1 h2;obtain ⟨b1,b2⟩:=zkN hy s4 s5 s1;rw [u8w a7,eE a7,s3,gq (x:=(s:Int)) a7,gq a7];exact ⟨s+t,by omega,by omega,by rw [Int.natCast_add,Int.add_comm],b1,b2⟩
 have e16:shrK .u32 (x:Int) (((16#64).toNat:Nat):Int)=((x / 2 ^ 16:Nat):Int):=zjV a8;have e8:∀a:Nat,shrK .u32 (a:Int) (((8#64).toNat:Nat):Int)=((a / 2 ^ 8:Nat):Int):=fun a=>zjV a8;by_cases hx:65536≤x
 ·rw [decide_eq_true (show (65536:Int)≤(x:Int) by omega),cond_true]; (try dsimp only);rw [e16];by_cases hy:256≤x / 2 ^ 16
  ·rw [decide_eq_true (show (256:Int)≤((x / 2 ^ 16:Nat):Int) by omega),cond_true];rw [e8];exact fin _ 24 (by rw [Nat.div_div_eq_div_mul,←Nat.pow_add]) a7 a7 a7
  ·rw [decide_eq_false (show ¬(256:Int)≤((x / 2 ^ 16:Nat):Int) by omega),cond_false];exact fin _ 16 rfl a7 a7 a7
 ·rw [decide_eq_false (show ¬(65536:Int)≤(x:Int) by omega),cond_false]; (try dsimp only);by_cases hy:256≤x
  ·rw [decide_eq_true (show (256:Int)≤(x:Int) by omega),cond_true];rw [e8];exact fin _ 8 rfl a7 a7 a7
  ·rw [decide_eq_false (show ¬(256:Int)≤(x:Int) by omega),cond_false];exact fin _ 0 b4 a7 a7 a7
theorem zk6 {x:Nat}(h0:0<x)(h:x<4294967296):∃s:Nat,1≤s∧s≤32∧zbw (x:Int)=some ((32 - s:Nat):Int)∧2 ^ (s - 1)≤x∧x<2 ^ s:=by
 obtain ⟨s,h1,h2,h3,h4,h5⟩:=zjg h0 h;refine ⟨s,h1,h2,?_,h4,h5⟩;unfold zbw;rw [h3];refine fj ?_;rw [gq a7];congr 1;omega
theorem zjY {s:Nat}(h:s≤32):2 ^ (32 - s) *2 ^ s=dj:=by
 rw [←Nat.pow_add,show 32 - s+s=32 by omega,iQ]
theorem zk1 {a:BitVec 64}{s:Nat}(ha:a.toNat<4294967296)(hs:s≤32):(a <<< s).toNat=a.toNat*2 ^ s:=by
 rw [BitVec.toNat_shiftLeft,Nat.shiftLeft_eq,Nat.mod_eq_of_lt];have h1:a.toNat*2 ^ s≤4294967295*2 ^ 32:=Nat.mul_le_mul a7 (Nat.pow_le_pow_right a7 hs);omega
theorem zix {x s:Nat}(hs:s≤32):x*2 ^ s % dj=(x % 2 ^ (32 - s)) *2 ^ s:=by
 rw [←zjY hs,Nat.mul_mod_mul_right]
theorem zg9 {x:List Int}{s:Nat}(hl:x.length≤1000000)(hx:Dig dj x)(hs:s<32):∃r,zcb x (s:Int)=some r∧r.length=x.length+1∧Dig dj r∧val dj r=val dj x*2 ^ s:=by
 have hB:=iQ; (have hw:wI ((x.length:Int)+1)=((x.length+1:Nat):Int):=by rw [gq a7];omega);unfold zcb;rw [hw,eE a7,Int.toNat_natCast,eE (by show _*_≤_;omega)];simp only [dM];refine ly (n:=x.length) (fun i (l:List Int)=>l.length=x.length+1∧Dig dj l∧val dj (l.take (i+1))=val dj (x.take i) *2 ^ s∧(nth l i).toNat<2 ^ s) (fun o=>∃r,o=some r∧r.length=x.length+1∧Dig dj r∧val dj r=val dj x*2 ^ s) ?_ (fun l hI=>?_) (fun i l next hi hI hnx=>?_)
 ·refine ⟨by simp,gB iB _,?_,?_⟩
  ·rw [List.take_replicate,zit];simp [val]
  ·rw [fK b4,List.getElem_replicate];exact Nat.pow_pos a7
 ·obtain ⟨i1,i2,i3,i4⟩:=hI;rw [←i1,List.take_length,List.take_length] at i3;exact ⟨l,rfl,i1,i2,i3⟩
 ·obtain ⟨i1,i2,i3,i4⟩:=hI;have hxi:=hx.nth hi;have hli:=i2.nth (i:=i) a7;have ex:(BitVec.ofInt 64 (nth x i)).toNat=(nth x i).toNat:=lg hxi; (have ew:((BitVec.ofInt 64 (nth x i)) <<< s).toNat=(nth x i).toNat*2 ^ s:=by rw [zk1 a7 a7,ex]); (have ew2:(((BitVec.ofInt 64 (nth x i)) <<< s) >>> 32).toNat=(nth x i).toNat*2 ^ s / dj:=by rw [ziB,ew,hB])
  have eor:orK .u32 (nth l i) (IntKind.u32.wrap ((((BitVec.ofInt 64 (nth x i)) <<< s).toNat:Nat):Int))=(((nth l i).toNat+(nth x i).toNat*2 ^ s % dj:Nat):Int):=by
   have hlow:=zix (x:=(nth x i).toNat) (s:=s) a7;have hml:=Nat.mod_lt ((nth x i).toNat*2 ^ s) iB;rw [ew,jo,zkG a7 a7,Int.toNat_natCast,hlow,zgQ i4]
  rw [eE a7,eE a7,eE b7,Int.toNat_natCast,eor,ew2];have hml:=Nat.mod_lt ((nth x i).toNat*2 ^ s) iB;have hdm:=Nat.div_add_mod ((nth x i).toNat*2 ^ s) dj;have hlow:=zix (x:=(nth x i).toNat) (s:=s) a7
  have hsum:(nth l i).toNat+(nth x i).toNat*2 ^ s % dj<dj:=by
   have h1:=Nat.mod_lt (nth x i).toNat (show 0<2 ^ (32 - s) from Nat.pow_pos a7);have h2:=Nat.mul_le_mul_right (2 ^ s) (show (nth x i).toNat % 2 ^ (32 - s)+1≤2 ^ (32 - s) by omega);rw [zjY a7,Nat.add_mul,Nat.one_mul] at h2;omega
  have hhi:(nth x i).toNat*2 ^ s / dj<2 ^ s:=by
   rw [Nat.div_lt_iff_lt_mul iB,Nat.mul_comm];exact Nat.mul_lt_mul_of_pos_left a7 (Nat.pow_pos a7)
  have hs32:2 ^ s≤2147483648:=by
   have:=Nat.pow_le_pow_right (n:=2) a7 (show s≤31 by omega);omega
  generalize hwd:(nth x i).toNat*2 ^ s=wide at *;rw [jo,Nat.mod_eq_of_lt (show wide / dj<dj by omega)];refine hnx _ ⟨by rw [List.length_set,List.length_set];exact i1,(i2.set a7).set a7,?_,?_⟩
  ·rw [iD (by rw [List.length_set,List.length_set];omega),kR b7,Int.toNat_natCast,zed,iD b7,kR a7,Int.toNat_natCast,zed,iD hi,Nat.add_mul,←i3,iD a7,Nat.mul_assoc,hwd]; (have e1:dj ^ (i+1) * (wide / dj)=dj ^ i* (dj* (wide / dj)):=by rw [Nat.pow_succ,Nat.mul_assoc]); (have e2:dj ^ i*wide=dj ^ i* (dj* (wide / dj))+dj ^ i* (wide % dj):=by rw [←Nat.mul_add,hdm]);rw [e1,e2,Nat.mul_add];omega
  ·rw [kR b7,Int.toNat_natCast];exact hhi
theorem zh1 {x:List Int}{s:Nat}(hl:x.length≤1000000)(hx:Dig dj x)(hs:s<32):∃r,zb2 x (s:Int)=some r∧r.length=x.length∧Dig dj r∧val dj r=val dj x / 2 ^ s:=by
 have hB:=iQ;have hp:0<2 ^ s:=Nat.pow_pos a7;have hp2:2 ^ (32 - s) *2 ^ s=dj:=zjY a7;unfold zb2;rw [eE (by show _*_≤_;omega)];simp only [dM];refine ly (n:=x.length) (fun i (l:List Int)=>l.length=x.length∧Dig dj l∧2 ^ s*val dj (l.take i)+(nth x 0).toNat % 2 ^ s=val dj (x.take i)+dj ^ i* ((nth x i).toNat % 2 ^ s)) (fun o=>∃r,o=some r∧r.length=x.length∧Dig dj r∧val dj r=val dj x / 2 ^ s) ?_ (fun l hI=>?_) (fun i l next hi hI hnx=>?_)
 ·refine ⟨by simp,gB iB _,by simp [val]⟩
 ·obtain ⟨i1,i2,i3⟩:=hI;rw [lI (Nat.le_refl x.length),show l.take x.length=l by rw [←i1,List.take_length],List.take_length] at i3;refine ⟨l,rfl,i1,i2,?_⟩; (have e:val dj x=2 ^ s*val dj l+(nth x 0).toNat % 2 ^ s:=by simpa using i3.symm);rw [e,Nat.mul_add_div hp,Nat.div_eq_of_lt (Nat.mod_lt _ hp),Nat.add_zero]
 ·obtain ⟨i1,i2,i3⟩:=hI;have hxi:=hx.nth hi;have hx1:=zgK hx iB (i+1)
  have eh:shrK .u32 (nth x i) (s:Int)=(((nth x i).toNat / 2 ^ s:Nat):Int):=by
   have:=zjV (a:=(nth x i).toNat) (b:=s) a7;rw [Int.toNat_of_nonneg hxi.1] at this;exact this
  have hm1:=Nat.mod_lt (nth x (i+1)).toNat hp;have q1:(0:Int)≤(((nth x i).toNat / 2 ^ s:Nat):Int):=Int.natCast_nonneg _
  have hh:(nth x i).toNat / 2 ^ s<2 ^ (32 - s):=by
   rw [Nat.div_lt_iff_lt_mul hp,hp2];omega
  have hnew:(nth x i).toNat / 2 ^ s+(nth x (i+1)).toNat % 2 ^ s*2 ^ (32 - s)<dj:=by
   have h2:=Nat.mul_le_mul_right (2 ^ (32 - s)) (show (nth x (i+1)).toNat % 2 ^ s+1≤2 ^ s by omega);rw [Nat.mul_comm (2 ^ s),hp2,Nat.add_mul,Nat.one_mul] at h2;omega
  have hin:∀l':List Int,l'.length=x.length→Dig dj l'→l'.take i=l.take i→nth l' i=(((nth x i).toNat / 2 ^ s+(nth x (i+1)).toNat % 2 ^ s*2 ^ (32 - s):Nat):Int)→l'.length=x.length∧Dig dj l'∧2 ^ s*val dj (l'.take (i+1))+(nth x 0).toNat % 2 ^ s=val dj (x.take (i+1))+dj ^ (i+1) * ((nth x (i+1)).toNat % 2 ^ s):=fun l' h1 h2 h3 h4=>by
   refine ⟨h1,h2,?_⟩;rw [iD a7,h3,h4,Int.toNat_natCast,iD hi];have hdm:=Nat.div_add_mod (nth x i).toNat (2 ^ s);generalize (nth x (i+1)).toNat % 2 ^ s=m1 at *;generalize hmi:(nth x i).toNat % 2 ^ s=mi at *;generalize (nth x i).toNat / 2 ^ s=h at*
   have e1:2 ^ s* (dj ^ i* (h+m1*2 ^ (32 - s)))=dj ^ i* (2 ^ s*h)+dj ^ (i+1) *m1:=by
    (have e3:dj*m1=2 ^ s* (m1*2 ^ (32 - s)):=by rw [←hp2,Nat.mul_comm (2 ^ (32 - s)),Nat.mul_assoc,Nat.mul_comm m1]);rw [Nat.pow_succ,Nat.mul_assoc (dj ^ i) dj m1,e3,←Nat.mul_add,Nat.mul_left_comm (2 ^ s) (dj ^ i),Nat.mul_add (2 ^ s) h]
   (have e2:dj ^ i* (nth x i).toNat=dj ^ i* (2 ^ s*h)+dj ^ i*mi:=by rw [←Nat.mul_add,hdm]);rw [Nat.mul_add,e1,e2];omega
  rw [eE a7,eE a7,eh];by_cases h1:i+1<x.length
  ·(have hw:wI (32 - (s:Int))=((32 - s:Nat):Int):=by rw [gq a7];omega);rw [decide_eq_true a7,cond_true,eE b7,hw,eE a7,Int.toNat_natCast,kR a7];have ex:(BitVec.ofInt 64 (nth x (i+1))).toNat=(nth x (i+1)).toNat:=lg hx1; (have ew:((BitVec.ofInt 64 (nth x (i+1))) <<< (32 - s)).toNat=(nth x (i+1)).toNat*2 ^ (32 - s):=by rw [zk1 a7 a7,ex]);have hlow:=zix (x:=(nth x (i+1)).toNat) (s:=32 - s) a7;rw [show 32 - (32 - s)=s by omega] at hlow; (have hp32:2 ^ (32 - s)≤dj:=by rw [←hp2];exact Nat.le_mul_of_pos_right _ hp)
   have eor:orK .u32 (((nth x i).toNat / 2 ^ s:Nat):Int) (IntKind.u32.wrap ((((BitVec.ofInt 64 (nth x (i+1))) <<< (32 - s)).toNat:Nat):Int))=(((nth x i).toNat / 2 ^ s+(nth x (i+1)).toNat % 2 ^ s*2 ^ (32 - s):Nat):Int):=by
    rw [ew,jo,hlow,zkG a7 a7,Int.toNat_natCast,Int.toNat_natCast,zgQ hh]
   rw [eor];exact hnx _ (hin _ (by rw [List.length_set,List.length_set];exact i1) ((i2.set a7).set a7) (by rw [zed,zed]) (kR b7))
  ·rw [decide_eq_false a7,cond_false];have hz:nth x (i+1)=0:=lI a7;exact hnx _ (hin _ (by rw [List.length_set];exact i1) (i2.set a7) zed (by rw [kR a7,hz];simp))
theorem ziF {x y:List Int}{X Y:Nat}(hx:NatIs x X)(hy:NatIs y Y):zbi x y=if X<Y then -1 else if Y<X then 1 else 0:=by
 have:=zj8 hx.dig hy.dig hx.trm hy.trm;rw [hx.eq,hy.eq] at this;exact this
theorem zkH {fuel:Nat}{x y:List Int}{X Y:Nat}(hlx:x.length≤1000)(hly:y.length≤1000)(hf:2000≤fuel)(hx:NatIs x X)(hy:NatIs y Y)(hge:Y≤X)(hn2:2≤y.length){post:Option (List Int×List Int)→Prop}(h:∀q r,NatIs q (X / Y)→NatIs r (X % Y)→post (some (q,r))){sh:Nat}(hsh:sh<32)(v0 u0:List Int)(hv0:v0.length=y.length+1)(hu0:u0.length=x.length+1)(dv0:Dig dj v0)(du0:Dig dj u0)(ev0:val dj v0=Y*2 ^ sh)(eu0:val dj u0=X*2 ^ sh)(htop:2147483648≤nth v0 (y.length - 1))(hz:nth v0 y.length=0):post (gE (fun (j_9:Nat) (next8:(List Int×List Int)→Option (List Int×List Int)) (s8:List Int×List Int)=>
     dz (0≤wI ((wI ((j_9:Int)+(y.length:Int)))+1)∧wI ((wI ((j_9:Int)+(y.length:Int)))+1)≤(s8.1.length:Int)) <|
     dz (0≤(j_9:Int)∧(j_9:Int)≤(wI ((wI ((j_9:Int)+(y.length:Int)))+1):Int)) <|
     dz (j_9<((wI ((wI ((j_9:Int)+(y.length:Int)))+1)).toNat)) <|
     (zbs fuel ((s8.1.drop j_9).take (((wI ((wI ((j_9:Int)+(y.length:Int)))+1)).toNat) - j_9)) (v0.take y.length)).bind fun r73=>
     dz (0≤(j_9:Int)∧(j_9:Int)<(s8.2.length:Int)) <|
     next8 ((s8.1.take j_9++r73.2++s8.1.drop (j_9+(((wI ((wI ((j_9:Int)+(y.length:Int)))+1)).toNat) - j_9))),(s8.2.set j_9 r73.1)))
    (fun (s8:List Int×List Int)=>
    (ky fuel s8.2).bind fun r76=>
    dz (0≤(y.length:Int)∧(y.length:Int)≤(s8.1.length:Int)) <|
    (zb2 (s8.1.take y.length) (sh:Int)).bind fun r81=>
    (ky fuel r81).bind fun r82=>
    some (r76,r82)) ((List.replicate ((((x.length:Int) - (y.length:Int))+1).toNat) (0:Int)).length) (u0,(List.replicate ((((x.length:Int) - (y.length:Int))+1).toNat) (0:Int)))):=by
 have hB:=iQ
 have hnx:y.length≤x.length:=Nat.le_of_not_lt fun hlt=>by
  have:=zde hx.dig hy.dig hy.trm hlt;rw [hx.eq,hy.eq] at this;omega
 have hp:0<2 ^ sh:=Nat.pow_pos a7
 have hYge:dj ^ (y.length - 1)≤Y:=by
  have:=zih hy.dig hy.trm (fun e=>by rw [e] at hn2;simp at hn2);rw [hy.eq] at this;exact this
 have hY0:0<Y:=Nat.lt_of_lt_of_le (Nat.pow_pos iB) hYge
 have hXlt:X<dj ^ x.length:=by
  have:=jR hx.dig;rw [hx.eq] at this;exact this
 generalize hn:y.length=n at *;rw [show (((x.length:Int) - (n:Int))+1).toNat=x.length - n+1 by omega,List.length_replicate]
 have hv:val dj (v0.take n)=Y*2 ^ sh:=by
  have:=iD (B:=dj) (l:=v0) (i:=n) a7;rw [←hv0,List.take_length,ev0,hz] at this;simpa using this.symm
 (have hvl:(v0.take n).length=n:=by rw [List.length_take];omega);generalize hV:Y*2 ^ sh=V at *; (have hV0:0<V:=by rw [←hV];exact Nat.mul_pos hY0 hp)
 have hstart:val dj (u0.drop (x.length - n+1))<V:=by
  have h1:=zfC (B:=dj) (l:=u0) (x.length - n+1) a7
  have h2:dj ^ (x.length - n+1) *val dj (u0.drop (x.length - n+1))<dj ^ (x.length - n+1) *V:=by
   refine Nat.lt_of_le_of_lt (show _≤X*2 ^ sh by omega) ?_;refine Nat.lt_of_lt_of_le (Nat.mul_lt_mul_of_pos_right hXlt hp) ?_;rw [←hV,←Nat.mul_assoc];refine Nat.mul_le_mul_right _ ?_;refine Nat.le_trans ?_ (Nat.mul_le_mul_left _ hYge);rw [←Nat.pow_add,show x.length - n+1+(n - 1)=x.length by omega];exact Nat.le_refl _
  exact Nat.lt_of_mul_lt_mul_left h2
 refine zfA (n:=x.length - n+1) (fun m (s:List Int×List Int)=>s.1.length=x.length+1∧Dig dj s.1∧s.2.length=x.length - n+1∧Dig dj s.2∧(∀k,k<m→nth s.1 k=nth u0 k)∧(∀k,m+n≤k→nth s.1 k=0)∧val dj (s.1.drop m)<V∧val dj (u0.drop m)=val dj (s.2.drop m) *V+val dj (s.1.drop m)) post ?_ (fun s hI=>?_) (fun j s next hj hI hnx2=>?_)
 ·refine ⟨hu0,du0,by simp,gB iB _,fun _ _=>rfl,fun k hk=>lI b3,hstart,?_⟩;have e0:(List.replicate (x.length - n+1) (0:Int)).drop (x.length - n+1)=[]:=List.drop_eq_nil_of_le b4;dsimp only;rw [e0];simp [val]
 ·obtain ⟨i1,i2,i3,i4,i5,i6,i7,i8⟩:=hI;rw [List.drop_zero] at i7;rw [List.drop_zero,List.drop_zero,List.drop_zero,eu0] at i8;obtain ⟨rq,q1,q2⟩:=zjc (fuel:=fuel) (l:=s.2) a7 i4
  have eu:val dj (s.1.take n)=val dj s.1:=by
   have h1:=zfC (B:=dj) (l:=s.1) n a7;rw [zh9 iB (i2.drop n) (fun k=>by rw [zf9];exact i6 _ a7),Nat.mul_zero,Nat.add_zero] at h1;exact h1.symm
  obtain ⟨r1,e1,e2,e3,e4⟩:=zh1 (x:=s.1.take n) (s:=sh) b9 (i2.take n) hsh;obtain ⟨rr,t1,t2⟩:=zjc (fuel:=fuel) (l:=r1) (by rw [e2,List.length_take];omega) e3;rw [q1];refine fj ?_;rw [eE a7,e1];refine fj ?_;rw [t1];refine fj ?_;rw [e4,eu] at t2;generalize val dj s.2=q at *;generalize val dj s.1=u at*
  rw [←hV] at i8 i7; (have hR:u / 2 ^ sh<Y:=by rw [Nat.div_lt_iff_lt_mul hp];exact i7)
  have hu:u=2 ^ sh* (u / 2 ^ sh):=by
   have h1:=Nat.div_add_mod u (2 ^ sh)
   have h2:u % 2 ^ sh=0:=by
    (have h3:(q* (Y*2 ^ sh)+u) % 2 ^ sh=0:=by rw [←i8];exact Nat.mul_mod_left _ _);rw [←Nat.mul_assoc,Nat.add_mod,Nat.mul_mod_left,Nat.zero_add,Nat.mod_mod] at h3;exact h3
   omega
  generalize u / 2 ^ sh=R at*
  have hX:X=Y*q+R:=by
   refine Nat.eq_of_mul_eq_mul_right hp ?_;rw [i8,hu,Nat.add_mul,Nat.mul_comm q,Nat.mul_comm (2 ^ sh) R,Nat.mul_assoc Y,Nat.mul_assoc Y,Nat.mul_comm (2 ^ sh) q]
  (have eq:X / Y=q:=by rw [hX,Nat.mul_add_div hY0,Nat.div_eq_of_lt hR,Nat.add_zero]); (have er:X % Y=R:=by rw [hX,Nat.mul_add_mod,Nat.mod_eq_of_lt hR]);exact h _ _ (by rw [eq];exact q2) (by rw [er];exact t2)
 ·obtain ⟨i1,i2,i3,i4,i5,i6,i7,i8⟩:=hI
  have hw:wI ((wI ((j:Int)+(n:Int)))+1)=((j+n+1:Nat):Int):=by
   rw [gq (x:=(j:Int)+(n:Int)) a7,gq a7];omega
  rw [hw,eE a7,eE a7,Int.toNat_natCast,eE a7,show j+n+1 - j=n+1 by omega]; (have hwl:((s.1.drop j).take (n+1)).length=n+1:=by rw [List.length_take,List.length_drop];omega);have hrest:val dj ((s.1.drop j).drop (n+1))=0:=zh9 iB ((i2.drop j).drop _) (fun k=>by rw [zf9,zf9];exact i6 _ a7)
  have ew:val dj ((s.1.drop j).take (n+1))=(nth u0 j).toNat+dj*val dj (s.1.drop (j+1)):=by
   have h1:=zfC (B:=dj) (l:=s.1.drop j) (n+1) (by rw [List.length_drop];omega);rw [hrest,Nat.mul_zero,Nat.add_zero,zea a7,i5 j a7] at h1;exact h1.symm
  have hu0j:=du0.nth (i:=j) a7
  have hq:QIn ((s.1.drop j).take (n+1)) (v0.take n) n:=by
   refine ⟨by omega,hvl,hwl,(i2.drop j).take _,dv0.take n,by rw [ziN a7];exact htop,?_⟩;rw [ew,hv];have:=Nat.mul_le_mul_left dj (show val dj (s.1.drop (j+1))+1≤V by omega);rw [Nat.mul_add,Nat.mul_one] at this;omega
  obtain ⟨u',e1,e2,e3,e4,e5⟩:=zgH (fuel:=fuel) a7 hq;rw [e1];refine fj ?_;rw [eE a7];rw [hv] at e4 ⊢
  have eu':val dj u'=val dj ((s.1.drop j).take (n+1)) % V:=by
   have h1:=iD (B:=dj) (l:=u') (i:=n) a7;rw [←e2,List.take_length,e5,e4] at h1;simpa using h1
  generalize hWv:val dj ((s.1.drop j).take (n+1))=Wv at*
  have hWlt:Wv / V<dj:=by
   have:=hq.lt;rw [hv,hWv] at this;rw [Nat.div_lt_iff_lt_mul hV0];exact this
  have hdm:=Nat.div_add_mod Wv V; (have htl:(s.1.take j).length=j:=by rw [List.length_take];omega)
  have hdrop:(s.1.take j++u'++s.1.drop (j+(n+1))).drop j=u'++s.1.drop (j+(n+1)):=by
   rw [List.append_assoc,List.drop_append_of_le_length a7,List.drop_eq_nil_of_le a7,List.nil_append]
  have hvd:val dj ((s.1.take j++u'++s.1.drop (j+(n+1))).drop j)=Wv % V:=by
   rw [List.drop_drop] at hrest;rw [hdrop,zip,hrest,Nat.mul_zero,Nat.add_zero,eu']
  refine hnx2 _ ⟨by dsimp only;rw [List.length_append,List.length_append,htl,e2,List.length_drop];omega,((i2.take j).app e3).app (i2.drop _),by dsimp only;rw [List.length_set];exact i3,by dsimp only;exact i4.set ⟨Int.natCast_nonneg _,Int.ofNat_lt.2 hWlt⟩,fun k hk=>?_,fun k hk=>?_,by dsimp only;rw [hvd];exact Nat.mod_lt _ hV0,?_⟩
  ·dsimp only;rw [List.append_assoc,ziH a7,ziN hk];exact i5 k a7
  ·dsimp only;rw [List.append_assoc,ziQ a7,htl];by_cases hkn:k=j+n
   ·rw [ziH a7,show k - j=n by omega];exact e5
   ·rw [ziQ a7,zf9,e2];exact i6 _ a7
  ·dsimp only;rw [hvd,zea (l:=s.2.set j _) b7,kR a7,Int.toNat_natCast,List.drop_set_of_lt a7,zea (l:=u0) a7,i8]; (have h1:dj* (val dj (s.2.drop (j+1)) *V+val dj (s.1.drop (j+1)))=dj*val dj (s.2.drop (j+1)) *V+dj*val dj (s.1.drop (j+1)):=by rw [Nat.mul_add,Nat.mul_assoc]);have h2:Wv / V*V=V* (Wv / V):=Nat.mul_comm _ _;rw [h1,Nat.add_mul,h2];omega
theorem ziU {fuel:Nat}{x y:List Int}{X Y:Nat}(hlx:x.length≤1000)(hly:y.length≤1000)(hf:2000≤fuel)(hx:NatIs x X)(hy:NatIs y Y)(hY:0<Y):∃q r,zcT fuel x y=some (q,r)∧NatIs q (X / Y)∧NatIs r (X % Y):=by
 have hB:=iQ;unfold zcT;rw [ziF hx hy];by_cases hlt:X<Y
 ·rw [if_pos hlt,decide_eq_true a8,cond_true];exact ⟨[],x,rfl,by rw [Nat.div_eq_of_lt hlt];exact .zero,by rw [Nat.mod_eq_of_lt hlt];exact hx⟩
 ·rw [if_neg hlt,decide_eq_false (by split <;> decide),cond_false];have hp:0<y.length:=hy.pos.2 hY;by_cases h1:y.length=1
  ·rw [decide_eq_true a7,cond_true];obtain ⟨d,rfl⟩:∃d,y=[d]:=List.length_eq_one_iff.1 h1;have hd:=hy.dig.head
   have ed:Y=d.toNat:=by
    have:=hy.eq;simpa [val] using this.symm
   obtain ⟨q,e1,e2⟩:=zi4 (fuel:=fuel) (d:=d.toNat) a7 a7 hx a7 a7;rw [Int.toNat_of_nonneg hd.1] at e1;rw [zf2,e1];refine fj ?_;have hml:=Nat.mod_lt X hY;rw [←ed] at e2 ⊢;obtain ⟨r,t1,t2⟩:=zjc (fuel:=fuel) (l:=[((X % Y:Nat):Int)]) b8 (Dig.nil.cons a7);rw [t1]; (have e9:val dj [((X % Y:Nat):Int)]=X % Y:=by rw [val,val,Nat.mul_zero,Nat.add_zero,Int.toNat_natCast]);rw [e9] at t2;exact ⟨q,r,rfl,e2,t2⟩
  ·rw [decide_eq_false a7,cond_false,eE a7,show ((y.length:Int) - 1).toNat=y.length - 1 by omega];have htn:nth y (y.length - 1)≠0:=hy.trm.elim (fun e=>by rw [e] at hp;cases hp) id;have htd:=hy.dig.nth (i:=y.length - 1) a7;obtain ⟨s,s1,s2,s3,s4,s5⟩:=zk6 (x:=(nth y (y.length - 1)).toNat) a7 a7;rw [Int.toNat_of_nonneg htd.1] at s3;rw [s3];refine fj ?_;obtain ⟨v0,v1,v2,v3,v4⟩:=zg9 (x:=y) (s:=32 - s) a7 hy.dig a7;obtain ⟨u0,u1,u2,u3,u4⟩:=zg9 (x:=x) (s:=32 - s) a7 hx.dig a7;rw [v1];refine fj ?_;rw [eE a7,u1];refine fj ?_
   have hnx:y.length≤x.length:=Nat.le_of_not_lt fun hlt=>by
    have:=zde hx.dig hy.dig hy.trm hlt;rw [hx.eq,hy.eq] at this;omega
   rw [eE a7,eE (by show _*_≤_;omega)];simp only [dM];rw [hy.eq] at v4;rw [hx.eq] at u4
   have eY:Y=val dj (y.take (y.length - 1))+dj ^ (y.length - 1) * (nth y (y.length - 1)).toNat:=by
    have:=iD (B:=dj) (l:=y) (i:=y.length - 1) a7;rw [show y.length - 1+1=y.length by omega,List.take_length,hy.eq] at this;exact this
   have htk:=jR (hy.dig.take (y.length - 1));rw [List.length_take,Nat.min_eq_left a7] at htk; (have hps:2 ^ s*2 ^ (32 - s)=dj:=by rw [Nat.mul_comm];exact zjY s2); (have hps1:2 ^ (s - 1) *2 ^ (32 - s)=2147483648:=by rw [←Nat.pow_add,show s - 1+(32 - s)=31 by omega])
   have hlo:dj ^ (y.length - 1) *2147483648≤Y*2 ^ (32 - s):=by
    rw [←hps1,←Nat.mul_assoc];refine Nat.mul_le_mul_right _ ?_;rw [eY];exact Nat.le_trans (Nat.mul_le_mul_left _ s4) (Nat.le_add_left _ _)
   have hhi:Y*2 ^ (32 - s)<dj ^ y.length:=by
    have h5:Y<dj ^ (y.length - 1) *2 ^ s:=by
     have:=Nat.mul_le_mul_left (dj ^ (y.length - 1)) (show (nth y (y.length - 1)).toNat+1≤2 ^ s by omega);rw [Nat.mul_add,Nat.mul_one] at this;rw [eY];omega
    have h6:=Nat.mul_lt_mul_of_pos_right h5 (show 0<2 ^ (32 - s) from Nat.pow_pos a7);rw [Nat.mul_assoc,hps,←Nat.pow_succ,show (y.length - 1).succ=y.length by omega] at h6;exact h6
   have hz:nth v0 y.length=0:=by
    have h7:=ze9 iB v3 y.length;rw [v4,Nat.div_eq_of_lt hhi,Nat.zero_mod] at h7;have:=v3.nth (i:=y.length) a7;omega
   have htop:2147483648≤nth v0 (y.length - 1):=by
    have h7:=ze9 iB v3 (y.length - 1)
    have h8:val dj v0 / dj ^ (y.length - 1)<dj:=by
     rw [Nat.div_lt_iff_lt_mul (Nat.pow_pos iB),v4,Nat.mul_comm dj,←Nat.pow_succ,show (y.length - 1).succ=y.length by omega];exact hhi
    rw [Nat.mod_eq_of_lt h8,v4] at h7
    have h9:2147483648≤Y*2 ^ (32 - s) / dj ^ (y.length - 1):=by
     rw [Nat.le_div_iff_mul_le (Nat.pow_pos iB),Nat.mul_comm];exact hlo
    have:=v3.nth (i:=y.length - 1) a7;omega
   exact zkH (post:=fun o=>∃q r,o=some (q,r)∧NatIs q (X / Y)∧NatIs r (X % Y)) hlx hly hf hx hy a7 a7 (fun q r h1 h2=>⟨q,r,rfl,h1,h2⟩) (sh:=32 - s) a7 v0 u0 v2 u2 v3 u3 v4 u4 htop hz
theorem zhO (k:Nat):dj ^ k=2 ^ (32*k):=by rw [iQ,Nat.pow_mul]
theorem jO (k:Nat):256 ^ k=2 ^ (8*k):=by rw [Nat.pow_mul]
@[irreducible] def gd:Nat:=256 ^ 64
theorem ziq:gd=256 ^ 64:=by unfold gd;rfl
theorem zfI {k:Nat}(h:k=512):gd=2 ^ k:=by
 (have e:8*64=k:=by omega);rw [ziq,jO,e]
theorem zkq {k:Nat}(h:512≤k):gd≤2 ^ k:=by
 obtain ⟨e,he⟩:∃e,e=512:=⟨_,rfl⟩;rw [zfI he];exact Nat.pow_le_pow_right a7 a7
theorem zg5 {k:Nat}(h:k≤512):2 ^ k≤gd:=by
 obtain ⟨e,he⟩:∃e,e=512:=⟨_,rfl⟩;rw [zfI he];exact Nat.pow_le_pow_right a7 a7
structure BigIs (D:List Int) (N:Nat):Prop where
 dig:Dig 256 D
 lead:D=[]∨nth D 0≠0
 eq:val 256 D.reverse=N
theorem BigIs.trm {D:List Int}{N:Nat}(h:BigIs D N):l5 D.reverse:=by
 rcases h.lead with e|e
 ·exact .inl (by rw [e];rfl)
 ·by_cases hn:D=[]
  ·exact .inl (by rw [hn];rfl)
  ·have:=List.length_pos_iff.2 hn;refine .inr ?_;rw [List.length_reverse,zgJ a7,show D.length - 1 - (D.length - 1)=0 by omega];exact e
theorem BigIs.uniq {D E:List Int}{N:Nat}(h:BigIs D N)(k:BigIs E N):D=E:=by
 have:=ziC h.dig.rev k.dig.rev h.trm k.trm (h.eq.trans k.eq.symm);exact List.reverse_inj.1 this
theorem BigIs.nil {D:List Int}{N:Nat}(h:BigIs D N):D=[]↔N=0:=by
 rw [←h.eq,zhy h.dig.rev h.trm a8,List.reverse_eq_nil_iff]
theorem BigIs.pos {D:List Int}{N:Nat}(h:BigIs D N):0<D.length↔0<N:=by
 have:=h.nil;rw [List.length_pos_iff];constructor
 ·intro e;rcases Nat.eq_zero_or_pos N with z|z
  ·exact absurd (this.2 z) e
  ·exact z
 ·intro e z;have:=this.1 z;omega
theorem BigIs.len {D:List Int}{N k:Nat}(h:BigIs D N)(hk:N<256 ^ k):D.length≤k:=by
 by_cases hn:D=[]
 ·rw [hn];exact Nat.zero_le _
 ·have:=zih h.dig.rev h.trm (by rw [ne_eq,List.reverse_eq_nil_iff];exact hn);rw [h.eq] at this;have h2:=Nat.lt_of_le_of_lt this hk;have:=(Nat.pow_lt_pow_iff_right (show 1<256 by decide)).1 h2;rw [List.length_reverse] at this;omega
theorem BigIs.lt {D:List Int}{N:Nat}(h:BigIs D N):N<256 ^ D.length:=by
 have:=jR h.dig.rev;rw [h.eq,List.length_reverse] at this;exact this
theorem zki {x:List Int}{X:Nat}(hl:x.length≤1000000)(hx:NatIs x X):∃s:Nat,za4 x=some (s:Int)∧(X=0→s=0)∧(0<X→1≤s∧2 ^ (s - 1)≤X)∧X<2 ^ s∧s≤32*x.length:=by
 unfold za4;by_cases hn:x=[]
 ·have h0:=hx.nil.1 hn;subst hn;exact ⟨0,rfl,fun _=>rfl,fun h=>by omega,by omega,Nat.zero_le _⟩
 ·have hp:=List.length_pos_iff.2 hn;have hX:=hx.pos.1 hp;have htd:=hx.dig.nth (i:=x.length - 1) a7;have htn:nth x (x.length - 1)≠0:=hx.trm.elim (fun e=>absurd e hn) id;have hB:=iQ;obtain ⟨s,s1,s2,s3,s4,s5⟩:=zjg (x:=(nth x (x.length - 1)).toNat) a7 a7;rw [Int.toNat_of_nonneg htd.1] at s3;rw [decide_eq_false a7,cond_false,eE a7,show ((x.length:Int) - 1).toNat=x.length - 1 by omega,s3];refine fj ?_
  have eX:X=val dj (x.take (x.length - 1))+dj ^ (x.length - 1) * (nth x (x.length - 1)).toNat:=by
   have:=iD (B:=dj) (l:=x) (i:=x.length - 1) a7;rw [show x.length - 1+1=x.length by omega,List.take_length,hx.eq] at this;exact this
  have htk:=jR (hx.dig.take (x.length - 1));rw [List.length_take,Nat.min_eq_left a7] at htk;refine ⟨32* (x.length - 1)+s,?_,fun h=>by omega,fun _=>⟨by omega,?_⟩,?_,by omega⟩
  ·rw [gq (x:=32* ((x.length:Int) - 1)) a7,gq a7];congr 1;omega
  ·rw [show 32* (x.length - 1)+s - 1=32* (x.length - 1)+(s - 1) by omega,Nat.pow_add,←zhO,eX];exact Nat.le_trans (Nat.mul_le_mul_left _ s4) (Nat.le_add_left _ _)
  ·rw [Nat.pow_add,←zhO,eX];have:=Nat.mul_le_mul_left (dj ^ (x.length - 1)) (show (nth x (x.length - 1)).toNat+1≤2 ^ s by omega);rw [Nat.mul_add,Nat.mul_one] at this;omega
theorem u8n (m:Nat):IntKind.u8.wrap (m:Int)=((m % 256:Nat):Int):=by
 refine q3y ?_;simp
theorem zkb {x:List Int}{X:Nat}(hl:x.length≤100000)(hx:NatIs x X):∃D,zbf x=some D∧BigIs D X:=by
 obtain ⟨s,h1,h2,h3,h4,h5⟩:=zki a7 hx; (have hw7:wI ((s:Int)+7)=((s+7:Nat):Int):=by rw [gq a7];omega);unfold zbf;rw [h1];refine fj ?_;rw [hw7,eE a7];by_cases h0:X=0
 ·rw [h2 h0,decide_eq_true a8,cond_true];exact ⟨[],rfl,Dig.nil, .inl rfl,by rw [h0];rfl⟩
 ·obtain ⟨h6,h7⟩:=h3 a7;rw [decide_eq_false a7,cond_false,eE a7,show (((s+7:Nat):Int) / 8).toNat=(s+7) / 8 by omega,eE (by show _*_≤_;omega)];simp only [dM];rw [List.length_replicate,show ((s+7:Nat):Int) / 8=(((s+7) / 8:Nat):Int) by omega];generalize hn:(s+7) / 8=n at *; (have hw1:wI (((n:Nat):Int) - 1)=((n - 1:Nat):Int):=by rw [gq a7];omega);rw [hw1]; (have hXn:X<256 ^ n:=by rw [jO];exact Nat.lt_of_lt_of_le h4 (Nat.pow_le_pow_right a7 a7));refine ly (n:=n) (fun i (l:List Int)=>l.length=n∧Dig 256 l∧∀k,k<i→nth l (n - 1 - k)=((X / 256 ^ k % 256:Nat):Int)) (fun o=>∃D,o=some D∧BigIs D X) ?_ (fun l hI=>?_) (fun i l next hi hI hnx=>?_)
  ·exact ⟨by simp,gB a8 _,fun k hk=>absurd hk (Nat.not_lt_zero k)⟩
  ·obtain ⟨i1,i2,i3⟩:=hI;refine ⟨l,rfl,i2,?_,?_⟩
   ·by_cases he:l=[]
    ·exact .inl he
    ·refine .inr ?_;have h8:=i3 (n - 1) a7;rw [show n - 1 - (n - 1)=0 by omega] at h8;rw [h8]
     have h9:1≤X / 256 ^ (n - 1):=by
      rw [Nat.le_div_iff_mul_le (Nat.pow_pos a8),Nat.one_mul,jO];exact Nat.le_trans (Nat.pow_le_pow_right a7 a7) h7
     have h10:X / 256 ^ (n - 1)<256:=by
      rw [Nat.div_lt_iff_lt_mul (Nat.pow_pos a8),Nat.mul_comm,←Nat.pow_succ,show (n - 1).succ=n by omega];exact hXn
     rw [Nat.mod_eq_of_lt h10];omega
   ·refine zgd a8 (fun k hk=>?_) (by rw [List.length_reverse,i1];exact hXn);rw [List.length_reverse] at hk;rw [zgJ hk,i1,i3 k a7,Int.toNat_natCast]
  ·obtain ⟨i1,i2,i3⟩:=hI
   have h4i:i / 4<x.length:=by
    omega
   (have hw2:wI (8* ((i:Int) % 4))=((8* (i % 4):Nat):Int):=by rw [gq a7];omega); (have hw3:wI (((n - 1:Nat):Int) - (i:Int))=((n - 1 - i:Nat):Int):=by rw [gq a7];omega);rw [hw2,hw3,eE a7,eE a7,eE a7,eE a7,eE a7,show ((i:Int) / 4).toNat=i / 4 by omega,Int.toNat_natCast];have hxd:=hx.dig.nth h4i;have hdg:=ze9 iB hx.dig (i / 4);rw [hx.eq] at hdg
   have esh:shrK .u32 (nth x (i / 4)) ((8* (i % 4):Nat):Int)=(((nth x (i / 4)).toNat / 2 ^ (8* (i % 4)):Nat):Int):=by
    have:=zjV (a:=(nth x (i / 4)).toNat) (b:=8* (i % 4)) a7;rw [Int.toNat_of_nonneg hxd.1] at this;exact this
   have e:(nth x (i / 4)).toNat / 2 ^ (8* (i % 4)) % 256=X / 256 ^ i % 256:=by
    rw [hdg,←jO]; (have e1:256 ^ i=dj ^ (i / 4) *256 ^ (i % 4):=by rw [zhT,←Nat.pow_mul,←Nat.pow_add,Nat.div_add_mod])
    have e2:dj=256 ^ (i % 4) * (256*256 ^ (3 - i % 4)):=by
     rw [zhT,Nat.mul_left_comm,←Nat.pow_add,show i % 4+(3 - i % 4)=3 by omega]
    rw [e1,←Nat.div_div_eq_div_mul];generalize X / dj ^ (i / 4)=Z;rw [e2,Nat.mod_mul_right_div_self,Nat.mod_mul_right_mod]
   rw [esh,u8n,e];have hm:=Nat.mod_lt (X / 256 ^ i) (show 0<256 by decide);refine hnx _ ⟨by rw [List.length_set];exact i1,i2.set ⟨Int.natCast_nonneg _,Int.ofNat_lt.2 hm⟩,fun k hk=>?_⟩;by_cases hki:k=i
   ·subst hki;rw [kR a7]
   ·rw [ze2 a7];exact i3 k a7
theorem zgL {x:List Int}{X:Nat}{neg:Bool}(hl:x.length≤100000)(hx:NatIs x X)(h:X<gd):∃D,zbP neg x=some (⟨neg&&decide (0<X),D⟩,0)∧BigIs D X:=by
 obtain ⟨s,h1,h2,h3,h4,h5⟩:=zki a7 hx;obtain ⟨D,d1,d2⟩:=zkb hl hx;unfold zbP;rw [h1];refine fj ?_
 have hs:¬512<s:=fun hc=>by
  have h0:0<X:=by
   rcases Nat.eq_zero_or_pos X with z|z
   ·have:=h2 z;omega
   ·exact z
  have:=zkq (k:=s - 1) a7;exact Nat.lt_irrefl _ (Nat.lt_of_lt_of_le h (Nat.le_trans this (h3 h0).2))
 rw [decide_eq_false a7,cond_false,d1];refine fj ?_;refine ⟨D,?_,d2⟩;have e:decide (0<(x.length:Int))=decide (0<X):=decide_eq_decide.2 (by rw [←hx.pos];omega);rw [e]
abbrev dG (g:GInt):Nat:=val 256 g.Digits.reverse
structure VI (g:GInt):Prop where
 len:g.Digits.length≤64
 lead:g.Digits=[]∨nth g.Digits 0≠0
 sgn:g.Digits=[]→g.Neg=false
theorem VI.big {g:GInt}(h:VI g)(hd:Dig 256 g.Digits):BigIs g.Digits (dG g):=⟨hd,h.lead,rfl⟩
theorem VI.lt {g:GInt}(h:VI g)(hd:Dig 256 g.Digits):dG g<gd:=by
 have:=(h.big hd).lt;rw [jO] at this;exact Nat.lt_of_lt_of_le this (zg5 (by have:=h.len;omega))
theorem fM {D:List Int}{N:Nat}(h:BigIs D N)(hN:N<gd):VI ⟨false,D⟩:=⟨h.len (by rw [←ziq];exact hN),h.lead,fun _=>rfl⟩
theorem mA {g:GInt}(h:VI g):kG g=some true:=by
 unfold kG;by_cases h0:g.Digits=[]
 ·rw [h.sgn h0,h0];rfl
 ·have:=List.length_pos_iff.2 h0;have h1:=h.lead.elim (fun e=>absurd e h0) id;have h2:=h.len;rw [decide_eq_false a7,cond_false];simp only [dM];rw [decide_eq_true a7,cond_true,eE a7,decide_eq_true h1]
theorem zio {g:GInt}(h:¬VI g):kG g=some false:=by
 unfold kG;by_cases h0:g.Digits=[]
 ·cases hn:g.Neg with
  |false=>exact absurd ⟨by rw [h0];decide, .inl h0,fun _=>hn⟩ h
  |true=>rw [h0];rfl
 ·have:=List.length_pos_iff.2 h0;rw [decide_eq_false a7,cond_false];simp only [dM];by_cases h1:g.Digits.length≤64
  ·rw [decide_eq_true a7,cond_true,eE a7];by_cases h2:nth g.Digits 0=0
   ·rw [h2];rfl
   ·exact absurd ⟨h1, .inr h2,fun e=>absurd e h0⟩ h
  ·rw [decide_eq_false a7,cond_false]
theorem zlk {g:GInt}(h:¬VI g):lX g=some 0:=by
 unfold lX;rw [zio h];rfl
theorem ziV {g:GInt}(h:VI g)(hd:Dig 256 g.Digits):lX g=some (if dG g=0 then 0 else if g.Neg=true then -1 else 1):=by
 unfold lX;rw [mA h];have hn:=(h.big hd).nil;refine fj ?_;by_cases h0:g.Digits=[]
 ·rw [if_pos (hn.1 h0),h0];rfl
 ·have:=List.length_pos_iff.2 h0;rw [if_neg (fun e=>h0 (hn.2 e)),decide_eq_false a7]
  cases g.Neg <;> rfl
theorem mv {σ ρ:Type}{f:(σ→Option ρ)→σ→Option ρ}(I:σ→Nat→Nat→Prop)(post:Option ρ→Prop)(G:Nat)(hend:∀s next,I s G 0→post (f next s))(hstep:∀s next X Y,I s X Y→0<Y→(∀s',I s' Y (X % Y)→post (next s'))→post (f next s)):∀k m s X Y,I s X Y→X*Y<2 ^ k→Y≤X→Nat.gcd X Y=G→k+2≤m→post (fi f m s):=by
 intro k
 induction k with
 |zero=>
  intro m s X Y hI hk hle hG hm;obtain ⟨m',rfl⟩:∃q,m=q+1:=⟨m - 1,by omega⟩
  have h0:Y=0:=by
   rcases Nat.eq_zero_or_pos Y with z|z
   ·exact z
   ·have:=Nat.mul_le_mul (show 1≤X by omega) z;omega
  subst h0;rw [zh3];rw [Nat.gcd_zero_right] at hG;subst hG;exact hend _ _ hI
 |succ k ih=>
  intro m s X Y hI hk hle hG hm;obtain ⟨m',rfl⟩:∃q,m=q+1:=⟨m - 1,by omega⟩;rw [zh3];rcases Nat.eq_zero_or_pos Y with z|z
  ·subst z;rw [Nat.gcd_zero_right] at hG;subst hG;exact hend _ _ hI
  ·refine hstep _ _ X Y hI z (fun s' hI'=>ih m' s' Y (X % Y) hI' ?_ (Nat.le_of_lt (Nat.mod_lt _ z)) ?_ a7)
   ·have h1:=Nat.mod_lt X z
    have h2:X % Y+Y≤X:=by
     have h3:=Nat.div_add_mod X Y; (have h4:1≤X / Y:=by rw [Nat.le_div_iff_mul_le z];omega);have h5:=Nat.mul_le_mul_left Y h4;omega
    have h6:=Nat.mul_le_mul_right Y (show 2* (X % Y)≤X by omega);rw [Nat.mul_assoc,Nat.mul_comm (X % Y) Y] at h6;rw [Nat.pow_succ] at hk;omega
   ·rw [←hG,Nat.gcd_comm X Y,Nat.gcd_rec Y X,Nat.gcd_comm]
theorem lv {σ ρ:Type}{f:(σ→Option ρ)→σ→Option ρ}(I:σ→Nat→Nat→Prop)(post:Option ρ→Prop){k m:Nat}{s:σ}{X Y:Nat}(hI:I s X Y)(hk:X*Y<2 ^ k)(hm:k+3≤m)(hend:∀s next,I s (Nat.gcd X Y) 0→post (f next s))(hstep:∀s next X Y,I s X Y→0<Y→(∀s',I s' Y (X % Y)→post (next s'))→post (f next s)):post (fi f m s):=by
 by_cases hle:Y≤X
 ·exact mv I post (Nat.gcd X Y) hend hstep k m s X Y hI hk hle rfl a7
 ·obtain ⟨m',rfl⟩:∃q,m=q+1:=⟨m - 1,by omega⟩;rw [zh3];refine hstep _ _ X Y hI a7 (fun s' hI'=>?_);rw [Nat.mod_eq_of_lt a7] at hI';exact mv I post (Nat.gcd X Y) hend hstep k m' s' Y X hI' (by rw [Nat.mul_comm];exact hk) a7 (Nat.gcd_comm _ _) a7
theorem zkn {X Y K:Nat}(hX:X<K)(hY:Y<K):Nat.gcd X Y<K:=by
 rcases Nat.eq_zero_or_pos X with z|z
 ·subst z;rw [Nat.gcd_zero_left];exact hY
 ·exact Nat.lt_of_le_of_lt (Nat.gcd_le_left Y z) hX
theorem zk3 {fuel:Nat}{a b:GInt}(hf:2000≤fuel)(ha:VI a)(hb:VI b)(da:Dig 256 a.Digits)(db:Dig 256 b.Digits):∃D,zcX fuel a b=some (⟨false,D⟩,0)∧BigIs D (Nat.gcd (dG a) (dG b)):=by
 have la:=ha.len;have lb:=hb.len;have va:=ha.lt da;have vb:=hb.lt db;obtain ⟨x,x1,x2⟩:=zgr (fuel:=fuel) a7 a7 da;obtain ⟨y,y1,y2⟩:=zgr (fuel:=fuel) a7 a7 db;unfold zcX;rw [mA ha,mA hb];refine q36 ?_;rw [x1];refine fj ?_;rw [y1];refine fj ?_;obtain ⟨e,he⟩:∃e,e=512:=⟨_,rfl⟩;obtain ⟨k16,h16k⟩:∃k,k=16:=⟨_,rfl⟩; (have h16:dj ^ k16=gd:=by rw [zhO,zfI (k:=32*k16) a7]);refine lv (fun (s:List Int×List Int) X Y=>NatIs s.1 X∧NatIs s.2 Y∧X<gd∧Y<gd) (fun (o:Option (GInt×Int))=>∃D,o=some (GInt.mk false D,0)∧BigIs D (Nat.gcd (dG a) (dG b))) (k:=e+e) (X:=dG a) (Y:=dG b) (s:=(x,y)) (show NatIs x (dG a)∧NatIs y (dG b)∧dG a<gd∧dG b<gd from ⟨x2,y2,va,vb⟩) ?_ a7 (fun s next hI=>?_) (fun s next X Y hI hY hnx=>?_)
 ·have:=Nat.mul_lt_mul'' va vb;rw [zfI he,←Nat.pow_add] at this;exact this
 ·obtain ⟨i1,i2,i3,i4⟩:=hI;have e0:=i2.nil.2 rfl;rw [e0];rw [decide_eq_false a8,cond_false];have hl:=i1.len (k:=k16) (by rw [h16];exact i3);obtain ⟨D,d1,d2⟩:=zgL (neg:=false) a7 i1 i3;rw [d1];exact ⟨D,rfl,d2⟩
 ·obtain ⟨i1,i2,i3,i4⟩:=hI;have hp:=i2.pos.2 hY;have l1:=i1.len (k:=k16) (by rw [h16];exact i3);have l2:=i2.len (k:=k16) (by rw [h16];exact i4);rw [decide_eq_true a7,cond_true];obtain ⟨q,r,e1,e2,e3⟩:=ziU (fuel:=fuel) a7 a7 hf i1 i2 hY;rw [e1];refine fj ?_;exact hnx _ ⟨i2,e3,i4,Nat.lt_trans (Nat.mod_lt _ hY) i4⟩
theorem GCD_f {fuel:Nat}{a b:GInt}(h:¬(VI a∧VI b)):zcX fuel a b=some (⟨false,[]⟩,2):=by
 unfold zcX;by_cases ha:VI a
 ·rw [mA ha,zio (fun hb=>h ⟨ha,hb⟩)];rfl
 ·rw [zio ha];rfl
theorem ki {fuel:Nat}{n:Int}(hf:2000≤fuel)(hn: -9223372036854775808≤n∧n≤9223372036854775807):∃D,zcH fuel n=some ⟨decide (n<0),D⟩∧BigIs D n.natAbs:=by
 have hB:=iQ
 have key:∀u:BitVec 64,u.toNat=n.natAbs→∃D,((ky fuel [(IntKind.u32.wrap (u.toNat:Int)),(IntKind.u32.wrap ((u >>> 32).toNat:Int))]).bind fun r21=>
  (zbP (decide (n<0)) r21).bind fun r22=>
  some r22.1)=some ⟨decide (n<0),D⟩∧BigIs D n.natAbs:=fun u hu=>by
  have hlt:=u.isLt;rw [ziB,jo,jo];obtain ⟨r,t1,t2⟩:=zjc (fuel:=fuel) (l:=[((u.toNat % dj:Nat):Int),((u.toNat / 2 ^ 32 % dj:Nat):Int)]) b8 ((Dig.nil.cons ⟨Int.natCast_nonneg _,Int.ofNat_lt.2 (Nat.mod_lt _ iB)⟩).cons ⟨Int.natCast_nonneg _,Int.ofNat_lt.2 (Nat.mod_lt _ iB)⟩)
  have ev:val dj [((u.toNat % dj:Nat):Int),((u.toNat / 2 ^ 32 % dj:Nat):Int)]=n.natAbs:=by
   rw [val,val,val,Int.toNat_natCast,Int.toNat_natCast,←hu,hB];omega
  rw [ev] at t2;rw [t1];refine fj ?_;have hl:=t2.len (k:=2) (by rw [hB];omega);have h512:n.natAbs<gd:=Nat.lt_of_lt_of_le (show n.natAbs<2 ^ 64 by omega) (zg5 a7);obtain ⟨D,d1,d2⟩:=zgL (neg:=decide (n<0)) a7 t2 h512;rw [d1];refine ⟨D,?_,d2⟩;refine fj ?_
  congr 2
  by_cases h:n<0
  ·rw [decide_eq_true h,decide_eq_true a7];rfl
  ·rw [decide_eq_false h];rfl
 unfold zcH;simp only [dM];by_cases h:n<0
 ·rw [decide_eq_true h,cond_true]
  have:=key (-(BitVec.ofInt 64 n)) (by
   rw [BitVec.toNat_neg,BitVec.toNat_ofInt];omega)
  rw [decide_eq_true h] at this;exact this
 ·rw [decide_eq_false h,cond_false];have:=key (BitVec.ofInt 64 n) (by rw [ofI a7];omega);rw [decide_eq_false h] at this;exact this
def zI (g:GInt):Int:=if g.Neg=true then -(dG g:Int) else (dG g:Int)
theorem zfu {fuel:Nat}{a b:GInt}(hf:2000≤fuel)(ha:VI a)(hb:VI b)(da:Dig 256 a.Digits)(db:Dig 256 b.Digits):zbt fuel a b=some (if zI a<zI b then -1 else if zI b<zI a then 1 else 0):=by
 have la:=ha.len;have lb:=hb.len;have na:a.Neg=true→0<dG a:=fun h=>(ha.big da).pos.1 (List.length_pos_iff.2 fun e=>by rw [ha.sgn e] at h;cases h);have nb:b.Neg=true→0<dG b:=fun h=>(hb.big db).pos.1 (List.length_pos_iff.2 fun e=>by rw [hb.sgn e] at h;cases h);obtain ⟨x,x1,x2⟩:=zgr (fuel:=fuel) a7 a7 da;obtain ⟨y,y1,y2⟩:=zgr (fuel:=fuel) a7 a7 db;unfold zbt;rw [mA ha,mA hb];refine q36 ?_;rw [x1];refine fj ?_;rw [y1];refine fj ?_;change NatIs x (dG a) at x2;change NatIs y (dG b) at y2;rw [ziF x2 y2];unfold zI;generalize dG a=A at *;generalize dG b=B at*
 cases hA:a.Neg <;> cases hC:b.Neg
 ·simp only [beq_self_eq_true,Bool.not_true,cond_false,Bool.false_eq_true,if_false]
  congr 1
  repeat' split
  all_goals omega
 ·have:=nb hC
  show some 1=some _
  simp only [Bool.false_eq_true,if_false,if_true];rw [if_neg a7,if_pos a7]
 ·have:=na hA
  show some (-1)=some _
  simp only [Bool.false_eq_true,if_false,if_true];rw [if_pos a7]
 ·simp only [beq_self_eq_true,Bool.not_true,cond_false,cond_true,if_true]
  congr 1
  repeat' split
  all_goals first|omega|(exfalso;omega)|rfl
structure VR (p:GRatio):Prop where
 num:VI p.Num
 den:VI p.Den
 neg:p.Den.Neg=false
 pos:0<dG p.Den
 gcd:Nat.gcd (dG p.Num) (dG p.Den)=1
theorem zjT {fuel:Nat}{p:GRatio}(hf:2000≤fuel)(dn:Dig 256 p.Num.Digits)(dd:Dig 256 p.Den.Digits):∃b,zcA fuel p=some b∧(b=true↔VR p):=by
 unfold zcA;by_cases hd:VI p.Den
 ·rw [ziV hd dd];refine fj ?_;by_cases h0:dG p.Den=0
  ·rw [if_pos h0,decide_eq_true a8,cond_true];exact ⟨false,rfl,fun h=>(by cases h),fun h=>(by have:=h.pos;omega)⟩
  ·rw [if_neg h0]
   cases hn:p.Den.Neg with
   |true=>
    exact ⟨false,rfl,fun h=>(by cases h),fun h=>(by have:=h.neg;rw [hn] at this;cases this)⟩
   |false=>
    rw [if_neg b4,decide_eq_false a8,cond_false];by_cases hN:VI p.Num
    ·obtain ⟨D,d1,d2⟩:=zk3 (fuel:=fuel) hf hN hd dn dd;obtain ⟨E,e1,e2⟩:=ki (fuel:=fuel) (n:=1) hf a7;have hG:=zkn (hN.lt dn) (hd.lt dd);rw [d1];simp only [Option.bind_some,dM];rw [decide_eq_true trivial,cond_true,e1];refine fj ?_;have h1:(1:Int).natAbs=1:=rfl;rw [h1] at e2
     rw [zfu hf (fM d2 hG) (by
      have:=fM e2 (Nat.lt_of_lt_of_le (show 1<2 ^ 1 by decide) (zg5 a7))
      exact this) d2.dig e2.dig]
     refine fj ?_;refine ⟨_,rfl,?_⟩
     have z1:zI ⟨false,D⟩=(Nat.gcd (dG p.Num) (dG p.Den):Int):=by
      unfold zI dG;rw [if_neg b4];rw [d2.eq]
     have z2:zI ⟨decide ((1:Int)<0),E⟩=1:=by
      unfold zI dG;rw [if_neg b4];rw [e2.eq];rfl
     rw [z1,z2,decide_eq_true_eq];constructor
     ·intro h;refine ⟨hN,hd,hn,by omega,?_⟩
      split at h
      ·cases h
      ·split at h
       ·cases h
       ·omega
     ·intro h;rw [h.gcd];rfl
    ·rw [GCD_f (fun h=>hN h.1)];exact ⟨false,rfl,fun h=>(by cases h),fun h=>absurd h.num hN⟩
 ·rw [zlk hd];exact ⟨false,rfl,fun h=>(by cases h),fun h=>absurd h.den hd⟩
structure LsIs (x:List Int) (X:Nat):Prop where
 dig:Dig 256 x
 trm:l5 x
 eq:val 256 x=X
theorem LsIs.nil {x:List Int}{X:Nat}(h:LsIs x X):x=[]↔X=0:=by
 rw [←h.eq];exact (zhy h.dig h.trm a8).symm
theorem LsIs.pos {x:List Int}{X:Nat}(h:LsIs x X):0<x.length↔0<X:=by
 have:=h.nil;rw [List.length_pos_iff];constructor
 ·intro e;rcases Nat.eq_zero_or_pos X with z|z
  ·exact absurd (this.2 z) e
  ·exact z
 ·intro e z;have:=this.1 z;omega
theorem LsIs.zero:LsIs [] 0:=⟨Dig.nil, .inl rfl,rfl⟩
theorem LsIs.big {x:List Int}{X:Nat}(h:LsIs x X):BigIs x.reverse X:=by
 refine ⟨h.dig.rev,?_,by rw [List.reverse_reverse];exact h.eq⟩;rcases h.trm with e|e
 ·exact .inl (by rw [e];rfl)
 ·by_cases hn:x=[]
  ·exact .inl (by rw [hn];rfl)
  ·have:=List.length_pos_iff.2 hn;refine .inr ?_;rw [zgJ a7,Nat.sub_zero];exact e
theorem BigIs.ls {x:List Int}{X:Nat}(h:BigIs x X):LsIs x.reverse X:=⟨h.dig.rev,h.trm,h.eq⟩
theorem LsIs.len {x:List Int}{X k:Nat}(h:LsIs x X)(hk:X<256 ^ k):x.length≤k:=by
 have:=h.big.len hk;rw [List.length_reverse] at this;exact this
theorem zgb {B:Nat}(l:List Int)(i:Nat):val B (l.take (i+1))=val B (l.take i)+B ^ i* (nth l i).toNat:=by
 rcases Nat.lt_or_ge i l.length with h|h
 ·exact iD h
 ·rw [lI h,List.take_of_length_le h,List.take_of_length_le a7];simp
theorem zhA {B:Nat}(l:List Int)(x:Int):val B (l++[x])=val B l+B ^ l.length*x.toNat:=by
 rw [zip,val,val,Nat.mul_zero,Nat.add_zero]
theorem rAbs {g:GInt}(hl:g.Digits.length≤1000000):zcD g=some g.Digits.reverse:=by
 unfold zcD;simp only [dM];refine zfA (n:=g.Digits.length) (fun m (out:List Int)=>out=(g.Digits.drop m).reverse) (fun o=>o=some g.Digits.reverse) (by rw [List.drop_eq_nil_of_le (Nat.le_refl _)];rfl) (fun s hs=>by rw [hs];rfl) (fun i s next hi hs hnx=>?_)
 have e:s++[nth g.Digits i]=(g.Digits.drop i).reverse:=by
  rw [List.drop_eq_getElem_cons hi,List.reverse_cons,hs,fK hi]
 rw [e,eE (by show _*_≤_;rw [List.length_reverse,List.length_drop];omega)];exact hnx _ rfl
theorem zjH {fuel:Nat}{l:List Int}(hf:l.length+1≤fuel)(hd:Dig 256 l):∃r,zcU fuel l=some r∧LsIs r (val 256 l):=by
 unfold zcU;simp only [dM];refine zeA (fun (s:List Int)=>val 256 s=val 256 l∧Dig 256 s) (fun s=>s.length) (fun o=>∃r,o=some r∧LsIs r (val 256 l)) ⟨rfl,hd⟩ a7 (fun s next hI hnx=>?_);obtain ⟨i1,i2⟩:=hI;by_cases h0:s=[]
 ·subst h0;exact ⟨[],rfl,i2, .inl rfl,i1⟩
 ·have hp:=List.length_pos_iff.2 h0;rw [decide_eq_true (show (0:Int)<(s.length:Int) by omega),Bool.true_and,show ((s.length:Int) - 1).toNat=s.length - 1 by omega];by_cases h1:nth s (s.length - 1)=0
  ·rw [decide_eq_true h1,cond_true];refine hnx _ ⟨?_,i2.take _⟩ b9;have h6:=iD (B:=256) (l:=s) (i:=s.length - 1) a7;rw [show s.length - 1+1=s.length by omega,List.take_length,h1] at h6;rw [←i1,h6];simp
  ·rw [decide_eq_false h1,cond_false];exact ⟨s,rfl,i2, .inr h1,i1⟩
theorem zkV {x y:List Int}{X Y:Nat}(hx:LsIs x X)(hy:LsIs y Y):zcY x y=if X<Y then -1 else if Y<X then 1 else 0:=by
 rw [←hx.eq,←hy.eq];have dx:=hx.dig;have dy:=hy.dig;unfold zcY;by_cases hl:x.length=y.length
 ·rw [decide_eq_false a7,cond_false];simp only [dM]
  have key:∀m,m≤x.length→gE (fun (i_5:Nat) (next4:Unit→Int) (_:Unit)=>
    (bif decide (¬(nth x i_5)=(nth y i_5)) then
     (bif decide ((nth x i_5)<(nth y i_5)) then
      (-1)
      else
      1)
     else
     next4 ())) (fun _=>(0:Int)) m ()=if val 256 (x.take m)<val 256 (y.take m) then -1 else if val 256 (y.take m)<val 256 (x.take m) then 1 else 0:=by
   intro m
   induction m with
   |zero=>intro _;rfl
   |succ m ih=>
    intro hm;have a1:=dx.nth (i:=m) a7;have a2:=dy.nth (i:=m) a7;have b1:=jR (dx.take m);have b2:=jR (dy.take m);rw [List.length_take,Nat.min_eq_left a7] at b1 b2;rw [zkl,iD a7,iD a7]; (try dsimp only)
    have mono:∀p q:Nat,p<q→256 ^ m*p+256 ^ m≤256 ^ m*q:=fun p q h=>by
     have:=Nat.mul_le_mul_left (256 ^ m) (show p+1≤q by omega);rw [Nat.mul_add,Nat.mul_one] at this;exact this
    by_cases h0:nth x m=nth y m
    ·rw [decide_eq_false (fun h=>h h0),cond_false,ih a7,h0];generalize 256 ^ m* (nth y m).toNat=z
     repeat' split
     all_goals (first|rfl|(exfalso;omega))
    ·rw [decide_eq_true h0,cond_true];by_cases h1:nth x m<nth y m
     ·have:=mono (nth x m).toNat (nth y m).toNat a7;rw [decide_eq_true h1,cond_true,if_pos a7]
     ·have:=mono (nth y m).toNat (nth x m).toNat a7;rw [decide_eq_false h1,cond_false,if_neg a7,if_pos a7]
  have:=key x.length (Nat.le_refl _);rw [List.take_length,hl,List.take_length] at this;rw [←hl] at this;exact this
 ·rw [decide_eq_true a7,cond_true];by_cases h:x.length<y.length
  ·rw [decide_eq_true a7,cond_true,if_pos (zde dx dy hy.trm h)]
  ·have:=zde dy dx hx.trm a7;rw [decide_eq_false a7,cond_false,if_neg a7,if_pos this]
theorem u8pos {m:Nat}:IntKind.u8.wrap ((m:Int) % 256)=((m % 256:Nat):Int):=by
 rw [u8w a7];omega
theorem zlf {fuel:Nat}{a b:List Int}(ha:Dig 256 a)(hb:Dig 256 b)(la:a.length≤100000)(lb:b.length≤100000)(hf:max a.length b.length+5≤fuel):∃r,zc8 fuel a b=some r∧LsIs r (val 256 a+val 256 b):=by
 unfold zc8;simp only [dM];generalize hm:max a.length b.length=m at *;refine zeA (fun (s:List Int×Int×Int)=>∃i c:Nat,s.2.2=(i:Int)∧s.2.1=(c:Int)∧i≤m+1∧c≤1∧(m<i→c=0)∧s.1.length=i∧Dig 256 s.1∧val 256 s.1+256 ^ i*c=val 256 (a.take i)+val 256 (b.take i)) (fun s=>m+2 - s.2.2.toNat) (fun o=>∃r,o=some r∧LsIs r (val 256 a+val 256 b)) ⟨0,0,rfl,rfl,by omega,by omega,fun _=>rfl,rfl,Dig.nil,by simp [val]⟩ b3 (fun s next hI hnx=>?_);obtain ⟨i,c,e1,e2,i3,i4,i5,i6,i7,i8⟩:=hI;by_cases hgo:i<a.length∨i<b.length∨0<c
 ·have hc:((decide (s.2.2<(a.length:Int))||decide (s.2.2<(b.length:Int)))||decide (0<s.2.1))=true:=by
   rw [e1,e2];rcases hgo with h|h|h
   ·rw [decide_eq_true (show (i:Int)<(a.length:Int) by omega)];simp
   ·rw [decide_eq_true (show (i:Int)<(b.length:Int) by omega)];simp
   ·rw [decide_eq_true (show (0:Int)<(c:Int) by omega)];simp
  rw [hc,cond_true];have hna:=zgK ha a8 i;have hnb:=zgK hb a8 i
  have fin:∀sum:Int,sum=((c+(nth a i).toNat+(nth b i).toNat:Nat):Int)→∃r,(dz (0≤sum∧1≤(256:Int)) <|
      dz (dA (s.1++[(IntKind.u8.wrap (sum % 256))]).length 1) <|
      dz (0≤sum∧sum≤9223372036854775807∧1≤(256:Int)) <|
      next ((s.1++[(IntKind.u8.wrap (sum % 256))]),(sum / 256),wI (s.2.2+1)))=some r∧LsIs r (val 256 a+val 256 b):=fun sum hs=>by
   subst hs;rw [eE a7,eE (by show _*_≤_;rw [List.length_append,i6];simp;omega),eE a7,u8pos,e1,gq a7];generalize hS:c+(nth a i).toNat+(nth b i).toNat=S at *;refine hnx _ ⟨i+1,S / 256,by dsimp only;omega,by dsimp only;omega,by omega,by omega,fun h=>?_,by dsimp only;rw [List.length_append,i6];rfl,i7.app (Dig.nil.cons a7),?_⟩ (by dsimp only;rw [e1];omega)
   ·rw [lI (l:=a) a7,lI (l:=b) a7] at hS; (have:S=c:=by simpa using hS.symm);omega
   ·dsimp only;rw [zhA,i6,zgb,zgb,Int.toNat_natCast]
    have h1:256 ^ (i+1) * (S / 256)+256 ^ i* (S % 256)=256 ^ i*S:=by
     rw [Nat.pow_succ,Nat.mul_assoc,←Nat.mul_add,Nat.div_add_mod]
    have h2:256 ^ i*S=256 ^ i*c+256 ^ i* (nth a i).toNat+256 ^ i* (nth b i).toNat:=by
     rw [←hS,Nat.mul_add,Nat.mul_add]
    omega
  have second:∀t:Int,t=((c+(nth a i).toNat:Nat):Int)→∃r,(bif decide (s.2.2<(b.length:Int)) then
       dz (0≤s.2.2∧s.2.2<(b.length:Int)) <|
       dz (0≤wI (t+(wI (nth b s.2.2.toNat)))∧1≤(256:Int)) <|
      dz (dA (s.1++[(IntKind.u8.wrap (wI (t+(wI (nth b s.2.2.toNat))) % 256))]).length 1) <|
      dz (0≤wI (t+(wI (nth b s.2.2.toNat)))∧wI (t+(wI (nth b s.2.2.toNat)))≤9223372036854775807∧1≤(256:Int)) <|
      next ((s.1++[(IntKind.u8.wrap (wI (t+(wI (nth b s.2.2.toNat))) % 256))]),(wI (t+(wI (nth b s.2.2.toNat))) / 256),wI (s.2.2+1))
       else
       dz (0≤t∧1≤(256:Int)) <|
      dz (dA (s.1++[(IntKind.u8.wrap (t % 256))]).length 1) <|
      dz (0≤t∧t≤9223372036854775807∧1≤(256:Int)) <|
      next ((s.1++[(IntKind.u8.wrap (t % 256))]),(t / 256),wI (s.2.2+1)))=some r∧LsIs r (val 256 a+val 256 b):=fun t ht=>by
   by_cases hb':i<b.length
   ·rw [decide_eq_true a7,cond_true,eE a7];refine fin _ ?_;rw [ht,e1,Int.toNat_natCast,gq (x:=nth b i) a7,gq a7];omega
   ·rw [decide_eq_false a7,cond_false];refine fin _ ?_;rw [ht,lI (l:=b) a7];simp
  by_cases ha':i<a.length
  ·rw [decide_eq_true (show s.2.2<(a.length:Int) by omega),cond_true,eE a7];refine second _ ?_;rw [e2,e1,Int.toNat_natCast,gq (x:=nth a i) a7,gq a7];omega
  ·rw [decide_eq_false (show ¬s.2.2<(a.length:Int) by omega),cond_false];refine second _ ?_;rw [e2,lI (l:=a) a7];simp
 ·have hc:((decide (s.2.2<(a.length:Int))||decide (s.2.2<(b.length:Int)))||decide (0<s.2.1))=false:=by
   rw [e1,e2,decide_eq_false a7,decide_eq_false a7,decide_eq_false a7];rfl
  rw [hc,cond_false];obtain ⟨r,t1,t2⟩:=zjH (fuel:=fuel) (l:=s.1) a7 i7;rw [t1]; (have hc0:c=0:=by omega);rw [hc0,List.take_of_length_le a7,List.take_of_length_le a7,Nat.mul_zero,Nat.add_zero] at i8;rw [i8] at t2;exact ⟨r,rfl,t2⟩
theorem zk5 {fuel:Nat}{a b:List Int}{A B:Nat}(ha:LsIs a A)(hb:LsIs b B)(hle:B≤A)(la:a.length≤100000)(hf:a.length+5≤fuel):∃r,zcZ fuel a b=some r∧LsIs r (A - B):=by
 have hlen:b.length≤a.length:=Nat.le_of_not_lt fun h=>by
  have:=zde ha.dig hb.dig hb.trm h;rw [ha.eq,hb.eq] at this;omega
 unfold zcZ;simp only [dM];refine ly (n:=a.length) (fun i (s:List Int×Int)=>∃c:Nat,s.2=(c:Int)∧c≤1∧s.1.length=i∧Dig 256 s.1∧val 256 (a.take i)+256 ^ i*c=val 256 s.1+val 256 (b.take i)) (fun o=>∃r,o=some r∧LsIs r (A - B)) ⟨0,rfl,by omega,rfl,Dig.nil,by simp [val]⟩ (fun s hI=>?_) (fun i s next hi hI hnx=>?_)
 ·obtain ⟨c,e1,e2,e3,e4,e5⟩:=hI;obtain ⟨r,t1,t2⟩:=zjH (fuel:=fuel) (l:=s.1) a7 e4;rw [t1];rw [List.take_length,List.take_of_length_le hlen,ha.eq,hb.eq] at e5;have hlt:=jR e4;rw [e3] at hlt
  have hc:c=0:=by
   rcases Nat.eq_zero_or_pos c with z|z
   ·exact z
   ·rw [show c=1 by omega,Nat.mul_one] at e5;omega
  rw [hc,Nat.mul_zero] at e5;rw [show A - B=val 256 s.1 by omega];exact ⟨r,rfl,t2⟩
 ·obtain ⟨c,e1,e2,e3,e4,e5⟩:=hI;have hna:=ha.dig.nth hi;have hnb:=zgK hb.dig a8 i
  have key:∀(w:Nat) (c':Nat),w<256→c'≤1→(nth a i).toNat+256*c'=w+(nth b i).toNat+c→(dz (dA (s.1++[(IntKind.u8.wrap (w:Int))]).length 1) <| next ((s.1++[(IntKind.u8.wrap (w:Int))]),(c':Int)))=next ((s.1++[(w:Int)]),(c':Int))∧∃c2:Nat,((s.1++[(w:Int)]),(c':Int)).2=(c2:Int)∧c2≤1∧((s.1++[(w:Int)]),(c':Int)).1.length=i+1∧Dig 256 ((s.1++[(w:Int)]),(c':Int)).1∧val 256 (a.take (i+1))+256 ^ (i+1) *c2=val 256 ((s.1++[(w:Int)]),(c':Int)).1+val 256 (b.take (i+1)):=fun w c' hw hc' he=>by
   refine ⟨?_,c',rfl,hc',by rw [List.length_append,e3];rfl,e4.app (Dig.nil.cons a7),?_⟩
   ·rw [u8w a7,eE (by show _*_≤_;rw [List.length_append,e3];simp;omega)]
   ·dsimp only;rw [zhA,e3,zgb,zgb,Int.toNat_natCast]; (have h1:256 ^ i* ((nth a i).toNat+256*c')=256 ^ i* (w+(nth b i).toNat+c):=by rw [he]);rw [Nat.mul_add,Nat.mul_add,Nat.mul_add,←Nat.mul_assoc,←Nat.pow_succ] at h1
    show _+256 ^ i.succ*c'=_
    omega
  have fin:∀d:Int,d=nth a i - (nth b i) - (c:Int)→∃r,(bif decide (d<0) then
      (dz (dA (s.1++[(IntKind.u8.wrap (wI (d+256)))]).length 1) <|
     next ((s.1++[(IntKind.u8.wrap (wI (d+256)))]),1))
      else
      (dz (dA (s.1++[(IntKind.u8.wrap d)]).length 1) <|
     next ((s.1++[(IntKind.u8.wrap d)]),0)))=some r∧LsIs r (A - B):=fun d hd=>by
   by_cases hneg:d<0
   ·rw [decide_eq_true hneg,cond_true,gq a7,show d+256=(((d+256).toNat:Nat):Int) by omega];obtain ⟨k1,k2⟩:=key (d+256).toNat 1 a7 a7 a7;rw [show ((1:Nat):Int)=1 from rfl] at k1;rw [k1];exact hnx _ k2
   ·rw [decide_eq_false hneg,cond_false,show d=((d.toNat:Nat):Int) by omega];obtain ⟨k1,k2⟩:=key d.toNat 0 a7 a7 a7;rw [show ((0:Nat):Int)=0 from rfl] at k1;rw [k1];exact hnx _ k2
  by_cases hb':i<b.length
  ·rw [decide_eq_true a7,cond_true];refine fin _ ?_;rw [gq (x:=nth a i) a7,e1,gq (x:=nth a i - (c:Int)) a7,gq (x:=nth b i) a7,gq a7];omega
  ·rw [decide_eq_false a7,cond_false];refine fin _ ?_;rw [gq (x:=nth a i) a7,e1,gq a7,lI (l:=b) a7];omega
end Go.Proofs.YtmnjbhkcfghebaaGreatDoor
