/- Yr: shortened and put together by squeeze.py. -/
import Derived.Test.YtmnjbhkcfghebaaGreatDoorQ12
set_option maxRecDepth 100000
set_option maxHeartbeats 4000000
set_option linter.unusedVariables false
set_option linter.unusedSectionVars false
set_option linter.unusedSimpArgs false
namespace Go.Proofs.YtmnjbhkcfghebaaGreatDoor
open Go.RowKit
structure Gbandplanref36_Auction where
 Products:List GProduct
 Bidders:List GBidder
 Increment:GIncrement
 Key:List Int
 Posted:List Int
 Rounds:Int
deriving DecidableEq,Inhabited
def ey (F:Frz)(c:List Value)(x:Gbandplanref36_Auction):Prop:=∃(v0:Value) (v1:Value) (cs1:List (List Value)) (v4:Value) (v5:Value),c=[v0,v1, .int .i64 x.Increment.Activity, .int .i64 x.Increment.Step,v4,v5, .int .i64 x.Rounds]∧SlC F v0 5 (x.Products.map dh)∧SlD cZ F v1 4 cs1 x.Bidders∧SlC F v4 1 (x.Key.map (eK .u8))∧SlC F v5 1 (x.Posted.map eI)
theorem Gbandplanref36_Auction.mono {F G:Frz}{c:List Value}{x:Gbandplanref36_Auction}(hle:F.Le G)(h:ey F c x):ey G c x:=by
 obtain ⟨v0,v1,cs1,v4,v5,h0,h1,h2,h5,h6⟩:=h;exact ⟨v0,v1,cs1,v4,v5,h0,h1.mono hle,SlD.mono (rep:=cZ) (fun _ _ _ _=>GBidder.mono) h2 hle,h5.mono hle,h6.mono hle⟩
theorem Gbandplanref36_Auction.len {F:Frz}{c:List Value}{x:Gbandplanref36_Auction}(h:ey F c x):c.length=7:=by
 obtain ⟨v0,v1,cs1,v4,v5,h0,h1,h2,h5,h6⟩:=h;subst h0;rfl
theorem Gbandplanref36_Auction.one {F:Frz}{c:List Value}{x:Gbandplanref36_Auction}(h:ey F c x):OneCs c:=by
 obtain ⟨v0,v1,cs1,v4,v5,h0,h1,h2,h5,h6⟩:=h;subst h0;haveI:=h1.oneC;haveI:=h2.1.oneC;haveI:=h5.oneC;haveI:=h6.oneC
 infer_instance
def zcx (a:GInt):Option Bool:=
 (bif decide (64<(a.Digits.length:Int)) then
 some false
 else
 (bif decide ((a.Digits.length:Int)=0) then
 some (!a.Neg)
 else
 dB (0≤0∧0<(a.Digits.length:Int)) <|
 some (decide (¬(nth a.Digits 0)=0))))
theorem zf5 (F0:Frz)(w:World)(hF0:F0.At w)(a:GInt)(va_1:Value)(ha_1:SlC F0 va_1 1 (a.Digits.map (eK .u8)))(r:Bool)(hr:zcx a=some r):Calls Tryz.prog 128 #[.agg [.bool a.Neg,va_1].toArray] w fun e w'=>e= .returned (.bool r)∧Below w.heap.size w w':=by
 have hk:=hr;unfold zcx at hk;haveI:=ha_1.oneC;obtain ⟨S0,F1,rfl,hS0,hp0⟩:=eH hF0;refine dT Tryz.func128 rfl rfl rfl hp0 ?_;refine gY ?_;rintro _ _ ⟨g1,rfl,rfl⟩;refine iw ?_;refine q2l ?_;have hm6:a.Digits.length≤9223372036854775807:=(List.length_map _)▸ha_1.max;refine kH ?_;refine T.cond rfl (fun h1=>?_) (fun h1=>?_)
 ·have p1:=of_decide_eq_true h1;replace hk:=dt hk h1;refine iu ?_;obtain rfl:=Option.some.inj hk;exact eB
 ·have p1:=of_decide_eq_false h1;replace hk:=dw hk h1;refine jQ ?_;refine jG ?_;refine T.cond rfl (fun h2=>?_) (fun h2=>?_)
  ·have p2:=of_decide_eq_true h2;replace hk:=dt hk h2;refine ee ?_;refine gh ?_;refine ep ?_;refine jF ?_;obtain rfl:=Option.some.inj hk;exact eB
  ·have p2:=of_decide_eq_false h2;replace hk:=dw hk h2;refine fV ?_;have hq:(0≤0∧0<(a.Digits.length:Int))∧_:=dJ hk;clear hk;obtain ⟨g16,hk⟩:=hq; (try dsimp only at hk);refine fu ?_;refine gh ?_;refine q26 ?_;refine kW ?_;obtain rfl:=Option.some.inj hk;exact eB
def zcG (a:GInt):Option (List Int):=
 dO (fun (out_1:List Int)=>
 some out_1)
 (fun k2=>
 gL (fun (i_5:Nat) (next4:List Int→Option (List Int)) (out_3:List Int)=>
 dB (dK (out_3++[(nth a.Digits i_5)]).length 1) <|
 next4 (out_3++[(nth a.Digits i_5)]))
 (fun (out_3:List Int)=>
 k2 out_3) a.Digits.length [])
theorem zd7 (F0:Frz)(w:World)(hF0:F0.At w)(a:GInt)(va_1:Value)(ha_1:SlC F0 va_1 1 (a.Digits.map (eK .u8)))(r:List Int)(hr:zcG a=some r):Calls Tryz.prog 200 #[.agg [.bool a.Neg,va_1].toArray] w fun e w'=>∃(y:Value) (G:Frz),(SlC G y 1 (r.map (eK .u8)))∧e= .returned (y)∧Fx F0 w G w':=by
 have hk:=hr;unfold zcG at hk;haveI:=ha_1.oneC;obtain ⟨S0,F1,rfl,hS0,hp0⟩:=eH hF0;refine dT Tryz.func200 rfl rfl rfl hp0 ?_;refine gY ?_;rintro _ _ ⟨g1,rfl,rfl⟩;refine iw ?_;refine dH ?_;refine kU ?_;refine l6 ?_;refine kV ?_;refine cY (dE rfl rfl ha_1 (List.length_map _)) ?_;have hm7:a.Digits.length≤9223372036854775807:=(List.length_map _)▸ha_1.max;refine iO ?_;refine ez ?_;have hq:=ek hk;clear hk;obtain ⟨k2,hk2,hk⟩:=hq; (try dsimp only at hk);refine dk (ι:=List Int×Value) (fun z=>[(3,z.2)]) (fun z=>[.sl z.2 5 1 z.1.length (z.1.flatMap (eK .u8)), .fr F1]) (fun z=>k2 z.1=some r∧OneC z.2) ?_ ?_
 ·have hq:=zd8 hk;clear hk;obtain ⟨f4,kk4,hf4,hkk4,hk⟩:=hq;refine ff ?_;refine T.loop (ι:=Nat×List Int×Value) (fun z=>[(1, .pointer (some ⟨g1,0,none⟩)),(3,z.2.2),(4, .int .i64 ((z.1:Int) - 1))]) (fun z=>[.sl z.2.2 5 1 z.2.1.length (z.2.1.flatMap (eK .u8)), .row g1 26 [.bool a.Neg,va_1], .fr F1]) (fun z=>gL f4 kk4 z.1 z.2.1=some r∧z.1≤a.Digits.length∧OneC z.2.2) (fun z=>z.1) (a.Digits.length,[],(.slice none 0 0)) ?_ ?_ ?_ ?_
  ·exact ⟨hk,(Nat.le_refl _),inferInstance⟩
  ·exact ma
  ·exact fa
  ·rintro ⟨i_5,out_3,vout_3⟩ ⟨hk,hle4,oout_3⟩; (try dsimp only at *);refine j3 ?_;refine T.cond rfl (fun h6=>?_) (fun h6=>?_)
   ·have p6:=of_decide_eq_true h6;obtain ⟨i_5',rfl⟩:∃q,i_5=q+1:=⟨i_5 - 1,by omega⟩;replace hk:f4 i_5' (gL f4 kk4 i_5') out_3=some r:=hk;generalize hn4:gL f4 kk4 i_5'=next4 at hk;rw [←hf4] at hk; (try dsimp only at hk);refine gf (gs:=[(1, .pointer (some ⟨g1,0,none⟩)),(3,vout_3),(4, .int .i64 (i_5':Int))]) (by repeat (first|exact Sub.nil|refine Sub.cons rfl ?_|refine fD rfl a6 ?_|refine fE rfl cW ?_)) (List.Sublist.refl _) ?_;refine T.skip (K.seq (T.seq (T.block ?_)));have hq:(dK (out_3++[(nth a.Digits i_5')]).length 1)∧_:=dJ hk;clear hk;obtain ⟨g20,hk⟩:=hq; (try dsimp only at hk);refine eF ?_;refine kV ?_;refine dH ?_;refine cY (dA (i:=i_5') rfl rfl rfl ha_1 (List.length_map _) rfl a6) ?_;refine cY (dR 2 (i:=i_5') (j:=0) rfl rfl rfl ha_1 a6) ?_;refine iA ?_;rintro _ _ ⟨g19,rfl,rfl⟩;refine de (gP 1 0 rfl rfl rfl rfl rfl rfl (l7 (ys:=[(nth a.Digits i_5')])) (zdl (enc:=(eK .u8)) (xs:=out_3) (ys:=[(nth a.Digits i_5')])) g20 a7) ?_;rintro v20 _ ⟨hv20,rfl⟩;refine q16 ?_;refine iO ?_;refine gU ?_;rw [←hn4] at hk;refine K.pick [1,2,3] rfl a7 ?_;exact K.next (i_5',(out_3++[(nth a.Digits i_5')]),v20) ⟨hk,a9,inferInstance⟩ a9 (.c (.c (.c .nil))) (List.Sublist.refl _)
   ·have p6:=of_decide_eq_false h6;obtain rfl:i_5=0:=a6;replace hk:kk4 out_3=some r:=hk;rw [←hkk4] at hk; (try dsimp only at hk);refine fi ?_;refine K.pick [0,2] rfl a7 ?_;exact q46
 ·rintro ⟨out_1,vout_1⟩ ⟨hk,oout_1⟩; (try dsimp only at *);rw [←hk2] at hk; (try dsimp only at hk);refine gS ?_;refine q2T ?_;rintro F2 ⟨le1_2,hz2⟩;refine fQ ?_;have hfF2:=hz2.toF rfl (fun _=>rfl);haveI:=hfF2.oneC;obtain rfl:=Option.some.inj hk;exact fg rfl rfl (fun w' hw=>⟨vout_1,F2.toFrz,hfF2,rfl,dP hw (i:=0) rfl hS0 le1_2⟩)
def zcW (fuel:Nat)(a:List Int):Option (List Int):=
 dO (fun (a_1:List Int)=>
 some a_1)
 (fun k2=>
 eV (fun (next4:List Int→Option (List Int)) (a_3:List Int)=>
 (bif ((decide (0<(a_3.length:Int)))&&(decide ((nth a_3 (((a_3.length:Int) - 1).toNat))=0))) then
 next4 (a_3.take (((a_3.length:Int) - 1).toNat))
 else
 k2 a_3)) fuel a)
theorem zeU (F0:Frz)(w:World)(hF0:F0.At w)(a:List Int)(va:Value)(ha:SlC F0 va 1 (a.map (eK .u8)))(fuel:Nat)(r:List Int)(hr:zcW fuel a=some r):Calls Tryz.prog 228 #[va] w fun e w'=>∃(y:Value) (G:Frz),(SlC G y 1 (r.map (eK .u8)))∧e= .returned (y)∧Fx F0 w G w':=by
 have hk:=hr;unfold zcW at hk;haveI:=ha.oneC;obtain ⟨S0,F1,rfl,hS0,hp0⟩:=eH hF0;refine dT Tryz.func228 rfl rfl rfl hp0 ?_;refine ft ?_;have hq:=ek hk;clear hk;obtain ⟨k2,hk2,hk⟩:=hq; (try dsimp only at hk);refine dk (ι:=List Int×Value×FzB w (fun _=>False) S0) (fun z=>[(0,z.2.1)]) (fun z=>[.fr z.2.2]) (fun z=>k2 z.1=some r∧SlC z.2.2.toFrz z.2.1 1 (z.1.map (eK .u8))∧F1.toFrz.Le z.2.2.toFrz) ?_ ?_
 ·have hq:=j7 hk;clear hk;obtain ⟨f4,hf4,hk⟩:=hq;refine ff ?_;refine T.loop (ι:=Nat×List Int×Value×FzB w (fun _=>False) S0) (fun z=>[(0,z.2.2.1)]) (fun z=>[.fr z.2.2.2]) (fun z=>eV f4 z.1 z.2.1=some r∧SlC z.2.2.2.toFrz z.2.2.1 1 (z.2.1.map (eK .u8))∧F1.toFrz.Le z.2.2.2.toFrz) (fun z=>z.1) (fuel,a,va,F1) ?_ ?_ ?_ ?_
  ·exact ⟨hk,ha,(Frz.Le.refl _)⟩
  ·exact (.c .nil)
  ·exact fa
  ·rintro ⟨m_5,a_3,va_3,F3⟩ ⟨hk,ha_3,le1_3⟩; (try dsimp only at *);haveI:=ha_3.oneC;have hq:=jZ hk;clear hk;obtain ⟨m_5',rfl,hk⟩:=hq;generalize hn4:eV f4 m_5'=next4 at hk;rw [←hf4] at hk; (try dsimp only at hk);refine li ?_;refine dk (ι:=Unit) (fun z=>[(0,va_3),(14, .bool ((decide (0<(a_3.length:Int)))&&(decide ((nth a_3 (((a_3.length:Int) - 1).toNat))=0))))]) (fun z=>[.fr F3]) (fun z=>True) ?_ ?_
   ·refine eF ?_;refine cY (dE rfl rfl ha_3 (List.length_map _)) ?_;have hm4:a_3.length≤9223372036854775807:=(List.length_map _)▸ha_3.max;refine ep ?_;refine dp rfl rfl rfl (fun h6=>?_) (fun h6=>?_)
    ·have p6:=of_decide_eq_true h6;refine ep ?_;refine cY (dE rfl rfl ha_3 (List.length_map _)) ?_;refine iO ?_;refine cY (dA (i:=((a_3.length:Int) - 1).toNat) rfl rfl rfl ha_3 (List.length_map _) a6 a6) ?_;refine cY (dR 0 (i:=((a_3.length:Int) - 1).toNat) (j:=0) rfl rfl rfl ha_3 a6) ?_;refine jh ?_;exact dg () trivial (.c (.b (iX h6) .nil)) (List.Sublist.refl _)
    ·have p6:=of_decide_eq_false h6;refine TL.run 8 rfl ?_;refine fM ?_;exact dg () trivial (.c (.b (gQ h6).symm .nil)) (List.Sublist.refl _)
   ·rintro _ _;have hm4:a_3.length≤9223372036854775807:=(List.length_map _)▸ha_3.max;refine T.cond rfl (fun h7=>?_) (fun h7=>?_)
    ·have p7:=h7; (try simp only [iy] at p7);replace hk:=dt hk h7;refine T.skip (K.seq (T.block (T.region ?_)));refine ep ?_;refine cY (dE rfl rfl ha_3 (List.length_map _)) ?_;refine iO ?_;refine cY (lr (i:=((a_3.length:Int) - 1).toNat) rfl rfl rfl ha_3 (List.length_map _) a6 a6) ?_;have hs19_:SlC F3.toFrz (gz va_3 0 (((a_3.length:Int) - 1).toNat) 1) 1 ((a_3.take (((a_3.length:Int) - 1).toNat)).map (eK .u8)):=ha_3.sliceh (i:=((a_3.length:Int) - 1).toNat) a6;haveI:=hs19_.oneC;refine q3S ?_;rw [←hn4] at hk;exact K.next (m_5',(a_3.take (((a_3.length:Int) - 1).toNat)),(gz va_3 0 (((a_3.length:Int) - 1).toNat) 1),F3) ⟨hk,hs19_,le1_3⟩ a9 (.c .nil) (List.Sublist.refl _)
    ·replace hk:=dw hk h7;refine fi ?_;exact dg (a_3,va_3,F3) ⟨hk,ha_3,le1_3⟩ (.c .nil) (List.Sublist.refl _)
 ·rintro ⟨a_1,va_1,F2⟩ ⟨hk,ha_1,le1_2⟩; (try dsimp only at *);rw [←hk2] at hk; (try dsimp only at hk);haveI:=ha_1.oneC;refine lW ?_;obtain rfl:=Option.some.inj hk;exact fg rfl rfl (fun w' hw=>⟨va_1,F2.toFrz,ha_1,rfl,dP hw (i:=0) rfl hS0 le1_2⟩)
def zdb (fuel:Nat)(a:List Int)(b:List Int):Option (List Int):=
 dO (fun (out_1:List Int)=>
 (zcW fuel out_1).bind fun r57=>
 some r57)
 (fun k2=>
 eV (fun (next6:(List Int×Int×Int)→Option (List Int)) (s6:List Int×Int×Int)=>
 (bif (((decide (s6.2.2<(a.length:Int)))||(decide (s6.2.2<(b.length:Int))))||(decide (0<s6.2.1))) then
 dO (fun (s_11:Int)=>
 dO (fun (s_14:Int)=>
 dB (0≤s_14∧1≤(256:Int)) <|
 dB (dK (s6.1++[(IntKind.u8.wrap (s_14 % 256))]).length 1) <|
 dB (0≤s_14∧s_14≤9223372036854775807∧1≤(256:Int)) <|
 next6 ((s6.1++[(IntKind.u8.wrap (s_14 % 256))]),(s_14 / 256),wI (s6.2.2+1)))
 (fun k15=>
 (bif decide (s6.2.2<(b.length:Int)) then
 dB (0≤s6.2.2∧s6.2.2<(b.length:Int)) <|
 k15 (wI (s_11+(wI (nth b s6.2.2.toNat))))
 else
 k15 s_11)))
 (fun k12=>
 (bif decide (s6.2.2<(a.length:Int)) then
 dB (0≤s6.2.2∧s6.2.2<(a.length:Int)) <|
 k12 (wI (s6.2.1+(wI (nth a s6.2.2.toNat))))
 else
 k12 s6.2.1))
 else
 k2 s6.1)) fuel ([],0,0))
theorem zfx (F0:Frz)(w:World)(hF0:F0.At w)(a:List Int)(va:Value)(ha:SlC F0 va 1 (a.map (eK .u8)))(b:List Int)(vb:Value)(hb:SlC F0 vb 1 (b.map (eK .u8)))(fuel:Nat)(r:List Int)(hr:zdb fuel a b=some r):Calls Tryz.prog 226 #[va,vb] w fun e w'=>∃(y:Value) (G:Frz),(SlC G y 1 (r.map (eK .u8)))∧e= .returned (y)∧Fx F0 w G w':=by
 have hk:=hr;unfold zdb at hk;haveI:=ha.oneC;haveI:=hb.oneC;obtain ⟨S0,F1,rfl,hS0,hp0⟩:=eH hF0;refine dT Tryz.func226 rfl rfl rfl hp0 ?_;refine jE ?_;refine dH ?_;refine kU ?_;refine q4o ?_;have hq:=ek hk;clear hk;obtain ⟨k2,hk2,hk⟩:=hq; (try dsimp only at hk);refine dk (ι:=List Int×Value) (fun z=>[(5,z.2)]) (fun z=>[.sl z.2 5 1 z.1.length (z.1.flatMap (eK .u8)), .fr F1]) (fun z=>k2 z.1=some r∧OneC z.2) ?_ ?_
 ·have hq:=j7 hk;clear hk;obtain ⟨f6,hf6,hk⟩:=hq;refine ff ?_;refine T.loop (ι:=Nat×List Int×Value×Int×Int) (fun z=>[(0,va),(1,vb),(5,z.2.2.1),(6, .int .i64 z.2.2.2.1),(7, .int .i64 z.2.2.2.2)]) (fun z=>[.sl z.2.2.1 5 1 z.2.1.length (z.2.1.flatMap (eK .u8)), .fr F1]) (fun z=>eV f6 z.1 (z.2.1,z.2.2.2.1,z.2.2.2.2)=some r∧OneC z.2.2.1) (fun z=>z.1) (fuel,[],(.slice none 0 0),0,0) ?_ ?_ ?_ ?_
  ·exact q4G
  ·exact jW
  ·exact fa
  ·rintro ⟨m_7,out_3,vout_3,carry_4,i_5⟩ ⟨hk,oout_3⟩; (try dsimp only at *);have hq:=jZ hk;clear hk;obtain ⟨m_7',rfl,hk⟩:=hq;generalize hn6:eV f6 m_7'=next6 at hk;rw [←hf6] at hk; (try dsimp only at hk);refine li ?_;refine dk (ι:=Unit) (fun z=>[(0,va),(1,vb),(5,vout_3),(6, .int .i64 carry_4),(7, .int .i64 i_5),(22, .bool (((decide (i_5<(a.length:Int)))||(decide (i_5<(b.length:Int))))||(decide (0<carry_4))))]) (fun z=>[.sl vout_3 5 1 out_3.length (out_3.flatMap (eK .u8)), .fr F1]) (fun z=>True) ?_ ?_
   ·refine eZ ?_;refine q1Y ?_;have hm11:a.length≤9223372036854775807:=(List.length_map _)▸ha.max;refine ep ?_;refine dp rfl rfl rfl (fun h8=>?_) (fun h8=>?_)
    ·have p8:=of_decide_eq_true h8;refine q32 ?_;exact dg () trivial (.c (.c (.c (.c (.c (.b (fO (fO h8)).symm .nil)))))) (List.Sublist.refl _)
    ·have p8:=of_decide_eq_false h8;refine ep ?_;refine q17 ?_;have hm16:b.length≤9223372036854775807:=(List.length_map _)▸hb.max;refine fU ?_;refine dp rfl rfl rfl (fun h9=>?_) (fun h9=>?_)
     ·have p9:=of_decide_eq_true h9;refine iU ?_;exact dg () trivial (.c (.c (.c (.c (.c (.b (fO (gH h8 h9)).symm .nil)))))) (List.Sublist.refl _)
     ·have p9:=of_decide_eq_false h9;refine iU ?_;exact dg () trivial (.c (.c (.c (.c (.c (.b (gE (gH h8 h9)) .nil)))))) (List.Sublist.refl _)
   ·rintro _ _;have hm11:a.length≤9223372036854775807:=(List.length_map _)▸ha.max;have hm16:b.length≤9223372036854775807:=(List.length_map _)▸hb.max;refine T.cond rfl (fun h10=>?_) (fun h10=>?_)
    ·replace hk:=dt hk h10;refine jc ?_;refine ep ?_;refine l6 ?_;refine ep ?_;refine q1Y ?_;refine ez ?_;have hq:=ek hk;clear hk;obtain ⟨k12,hk12,hk⟩:=hq; (try dsimp only at hk);refine dk (ι:=Int) (fun z=>[(0,va),(1,vb),(5,vout_3),(7, .int .i64 i_5),(8, .int .i64 z)]) (fun z=>[.sl vout_3 5 1 out_3.length (out_3.flatMap (eK .u8)), .fr F1]) (fun z=>k12 z=some r) ?_ ?_
     ·refine T.cond rfl (fun h13=>?_) (fun h13=>?_)
      ·have p13:=of_decide_eq_true h13;replace hk:=dt hk h13;have hq:(0≤i_5∧i_5<(a.length:Int))∧_:=dJ hk;clear hk;obtain ⟨g33,hk⟩:=hq; (try dsimp only at hk);refine gR ?_;refine cY (dA (i:=i_5.toNat) rfl rfl rfl ha (List.length_map _) a6 a6) ?_;refine cY (dR 1 (i:=i_5.toNat) (j:=0) rfl rfl rfl ha a6) ?_;refine cY (dY (z:=(nth a i_5.toNat))) ?_;refine cY (dq (v:= .int .i64 (wI (carry_4+(wI (nth a i_5.toNat)))))) ?_;refine gU ?_;exact dg (wI (carry_4+(wI (nth a i_5.toNat)))) hk (.c (.c (.c (.c (.c .nil))))) (List.Sublist.refl _)
      ·have p13:=of_decide_eq_false h13;replace hk:=dw hk h13;refine T.skip ?_;exact dg carry_4 hk (.c (.c (.c (.c (.c .nil))))) (List.Sublist.refl _)
     ·rintro s_11 hk;rw [←hk12] at hk; (try dsimp only at hk);refine ju ?_;refine ep ?_;refine q17 ?_;refine ez ?_;have hq:=ek hk;clear hk;obtain ⟨k15,hk15,hk⟩:=hq; (try dsimp only at hk);refine dk (ι:=Int) (fun z=>[(0,va),(1,vb),(5,vout_3),(7, .int .i64 i_5),(8, .int .i64 z)]) (fun z=>[.sl vout_3 5 1 out_3.length (out_3.flatMap (eK .u8)), .fr F1]) (fun z=>k15 z=some r) ?_ ?_
      ·refine T.cond rfl (fun h16=>?_) (fun h16=>?_)
       ·have p16:=of_decide_eq_true h16;replace hk:=dt hk h16;have hq:(0≤i_5∧i_5<(b.length:Int))∧_:=dJ hk;clear hk;obtain ⟨g44,hk⟩:=hq; (try dsimp only at hk);refine gR ?_;refine cY (dA (i:=i_5.toNat) rfl rfl rfl hb (List.length_map _) a6 a6) ?_;refine cY (dR 1 (i:=i_5.toNat) (j:=0) rfl rfl rfl hb a6) ?_;refine cY (dY (z:=(nth b i_5.toNat))) ?_;refine cY (dq (v:= .int .i64 (wI (s_11+(wI (nth b i_5.toNat)))))) ?_;refine gU ?_;exact dg (wI (s_11+(wI (nth b i_5.toNat)))) hk (.c (.c (.c (.c (.c .nil))))) (List.Sublist.refl _)
       ·have p16:=of_decide_eq_false h16;replace hk:=dw hk h16;refine T.skip ?_;exact dg s_11 hk (.c (.c (.c (.c (.c .nil))))) (List.Sublist.refl _)
      ·rintro s_14 hk;rw [←hk15] at hk; (try dsimp only at hk);refine T.seq ?_;have hq:(0≤s_14∧1≤(256:Int))∧_:=dJ hk;clear hk;obtain ⟨g50,hk⟩:=hq;have hq:(dK (out_3++[(IntKind.u8.wrap (s_14 % 256))]).length 1)∧_:=dJ hk;clear hk;obtain ⟨g53,hk⟩:=hq; (try dsimp only at hk);refine eZ ?_;refine cY (iR (a:=s_14) (b:=(256:Int)) rfl rfl rfl g50) ?_;refine cY (dY (z:=(s_14 % 256))) ?_;refine iA ?_;rintro _ _ ⟨g52,rfl,rfl⟩;refine de (gP 1 0 rfl rfl rfl rfl rfl rfl (l7 (ys:=[(IntKind.u8.wrap (s_14 % 256))])) (zdl (enc:=(eK .u8)) (xs:=out_3) (ys:=[(IntKind.u8.wrap (s_14 % 256))])) g53 a7) ?_;rintro v53 _ ⟨hv53,rfl⟩;refine ez ?_;have hq:(0≤s_14∧s_14≤9223372036854775807∧1≤(256:Int))∧_:=dJ hk;clear hk;obtain ⟨g55,hk⟩:=hq; (try dsimp only at hk);refine eF ?_;refine cY (gu (a:=s_14) (b:=(256:Int)) rfl rfl rfl g55) ?_;refine q16 ?_;refine cY (dq (v:= .int .i64 (wI (i_5+1)))) ?_;refine gU ?_;rw [←hn6] at hk;refine q4g ?_;exact K.next (m_7',(out_3++[(IntKind.u8.wrap (s_14 % 256))]),v53,(s_14 / 256),wI (i_5+1)) ⟨hk,inferInstance⟩ a9 (.c (.c (.c (.c (.c .nil))))) (List.Sublist.refl _)
    ·have p10:=h10; (try simp only [iy] at p10);replace hk:=dw hk h10;refine fi ?_;exact q46
 ·rintro ⟨out_1,vout_1⟩ ⟨hk,oout_1⟩; (try dsimp only at *);rw [←hk2] at hk; (try dsimp only at hk);refine T.seq ?_;refine q1B ?_;rintro F2 ⟨le1_2,hz2⟩;refine fQ ?_;have hfF2:=hz2.toF rfl (fun _=>rfl);haveI:=hfF2.oneC;have hq:=dC hk;clear hk;obtain ⟨r57,hr57,hk⟩:=hq; (try dsimp only at hk);refine eF ?_;refine de (dr 0 rfl rfl rfl rfl (fun w hw hF=>zeU _ w hF out_1 vout_1 hfF2 fuel r57 hr57)) ?_;rintro _ _ ⟨v57_0_0,F3,le2_3,hf57_0_0,hq,rfl⟩;obtain rfl:=hq.symm;have le1_3:=le1_2.trans le2_3;haveI:=hf57_0_0.oneC;refine gW ?_;obtain rfl:=Option.some.inj hk;exact fg rfl rfl (fun w' hw=>⟨v57_0_0,F3.toFrz,hf57_0_0,rfl,dP hw (i:=0) rfl hS0 le1_3⟩)
def zcY (a:List Int)(b:List Int):Int:=
 (bif decide (¬(a.length:Int)=(b.length:Int)) then
 (bif decide ((a.length:Int)<(b.length:Int)) then
 (-1)
 else
 1)
 else
 dO (fun (_:Unit)=>
 0)
 (fun k3=>
 gL (fun (i_5:Nat) (next4:Unit→Int) (_:Unit)=>
 (bif decide (¬(nth a i_5)=(nth b i_5)) then
 (bif decide ((nth a i_5)<(nth b i_5)) then
 (-1)
 else
 1)
 else
 next4 ()))
 (fun (_:Unit)=>
 k3 ()) a.length ()))
theorem zhF (F0:Frz)(w:World)(hF0:F0.At w)(a:List Int)(va:Value)(ha:SlC F0 va 1 (a.map (eK .u8)))(b:List Int)(vb:Value)(hb:SlC F0 vb 1 (b.map (eK .u8))):Calls Tryz.prog 213 #[va,vb] w fun e w'=>e= .returned (.int .i64 (zcY a b))∧Below w.heap.size w w':=by
 obtain ⟨r,hk⟩:∃r,zcY a b=r:=⟨_,rfl⟩;rw [hk];unfold zcY at hk;haveI:=ha.oneC;haveI:=hb.oneC;obtain ⟨S0,F1,rfl,hS0,hp0⟩:=eH hF0;refine dT Tryz.func213 rfl rfl rfl hp0 ?_;refine jy ?_;refine q1Y ?_;have hm7:a.length≤9223372036854775807:=(List.length_map _)▸ha.max;refine dH ?_;refine q17 ?_;have hm9:b.length≤9223372036854775807:=(List.length_map _)▸hb.max;refine ez ?_;refine T.cond rfl (fun h1=>?_) (fun h1=>?_)
 ·have p1:=of_decide_eq_true h1;replace hk:=dt hk h1;refine q4b ?_;refine q1Y ?_;refine dH ?_;refine q17 ?_;refine ez ?_;refine T.cond rfl (fun h2=>?_) (fun h2=>?_)
  ·have p2:=of_decide_eq_true h2;replace hk:=dt hk h2;refine q3N ?_;subst hk;exact eB
  ·have p2:=of_decide_eq_false h2;replace hk:=dw hk h2;refine iz ?_;refine iV ?_;subst hk;exact eB
 ·have p1:=of_decide_eq_false h1;replace hk:=dw hk h1;refine jQ ?_;refine dH ?_;refine q1Y ?_;refine iO ?_;refine ez ?_;have hq:=ek hk;clear hk;obtain ⟨k3,hk3,hk⟩:=hq; (try dsimp only at hk);refine dk (ι:=Unit) (fun z=>[]) (fun z=>[.fr F1]) (fun z=>k3 ()=r) ?_ ?_
  ·have hq:=zd8 hk;clear hk;obtain ⟨f4,kk4,hf4,hkk4,hk⟩:=hq;refine ff ?_;refine T.loop (ι:=Nat) (fun z=>[(0,va),(1,vb),(5, .int .i64 ((z:Int) - 1))]) (fun z=>[.fr F1]) (fun z=>gL f4 kk4 z ()=r∧z≤a.length) (fun z=>z) a.length ?_ ?_ ?_ ?_
   ·exact ⟨hk,(Nat.le_refl _)⟩
   ·exact ma
   ·exact fa
   ·rintro i_5 ⟨hk,hle4⟩;refine j3 ?_;refine T.cond rfl (fun h6=>?_) (fun h6=>?_)
    ·have p6:=of_decide_eq_true h6;obtain ⟨i_5',rfl⟩:∃q,i_5=q+1:=⟨i_5 - 1,by omega⟩;replace hk:f4 i_5' (gL f4 kk4 i_5') ()=r:=hk;generalize hn4:gL f4 kk4 i_5'=next4 at hk;rw [←hf4] at hk; (try dsimp only at hk);refine gf (gs:=[(0,va),(1,vb),(5, .int .i64 (i_5':Int))]) (by repeat (first|exact Sub.nil|refine Sub.cons rfl ?_|refine fD rfl a6 ?_|refine fE rfl cW ?_)) (List.Sublist.refl _) ?_;refine q2K ?_;refine q10 ?_;refine T.cond rfl (fun h7=>?_) (fun h7=>?_)
     ·have p7:=of_decide_eq_true h7;replace hk:=dt hk h7;refine li ?_;refine q10 ?_;refine T.cond rfl (fun h8=>?_) (fun h8=>?_)
      ·have p8:=of_decide_eq_true h8;replace hk:=dt hk h8;refine q4c ?_;subst hk;exact eB
      ·have p8:=of_decide_eq_false h8;replace hk:=dw hk h8;refine iz ?_;refine dH ?_;refine kE ?_;subst hk;exact eB
     ·have p7:=of_decide_eq_false h7;replace hk:=dw hk h7;refine q1j ?_;refine dH ?_;refine iO ?_;refine gU ?_;rw [←hn4] at hk;exact q5a
    ·have p6:=of_decide_eq_false h6;obtain rfl:i_5=0:=a6;replace hk:kk4 ()=r:=hk;rw [←hkk4] at hk; (try dsimp only at hk);refine fi ?_;exact lz
  ·rintro _ hk;rw [←hk3] at hk; (try dsimp only at hk);refine kK ?_;subst hk;exact eB
def zcX (fuel:Nat)(a:List Int)(b:List Int):Option (List Int):=
 dO (fun (out_1:List Int)=>
 (zcW fuel out_1).bind fun r43=>
 some r43)
 (fun k2=>
 dN (fun (i_6:Nat) (next5:(List Int×Int)→Option (List Int)) (s5:List Int×Int)=>
 dO (fun (s_8:Int)=>
 dO (fun (s13:Int×Int)=>
 dB (dK (s5.1++[(IntKind.u8.wrap s13.2)]).length 1) <|
 next5 ((s5.1++[(IntKind.u8.wrap s13.2)]),s13.1))
 (fun k13=>
 (bif decide (s_8<0) then
 k13 (1,wI (s_8+256))
 else
 k13 (0,s_8))))
 (fun k9=>
 (bif decide ((i_6:Int)<(b.length:Int)) then
 k9 (wI ((wI ((wI (nth a i_6)) - s5.2)) - (wI (nth b i_6))))
 else
 k9 (wI ((wI (nth a i_6)) - s5.2)))))
 (fun (s5:List Int×Int)=>
 k2 s5.1) (a.length - 0) 0 ([],0))
theorem zga (F0:Frz)(w:World)(hF0:F0.At w)(a:List Int)(va:Value)(ha:SlC F0 va 1 (a.map (eK .u8)))(b:List Int)(vb:Value)(hb:SlC F0 vb 1 (b.map (eK .u8)))(fuel:Nat)(r:List Int)(hr:zcX fuel a b=some r):Calls Tryz.prog 227 #[va,vb] w fun e w'=>∃(y:Value) (G:Frz),(SlC G y 1 (r.map (eK .u8)))∧e= .returned (y)∧Fx F0 w G w':=by
 have hk:=hr;unfold zcX at hk;haveI:=ha.oneC;haveI:=hb.oneC;obtain ⟨S0,F1,rfl,hS0,hp0⟩:=eH hF0;refine dT Tryz.func227 rfl rfl rfl hp0 ?_;refine jE ?_;refine dH ?_;refine kU ?_;refine q4o ?_;have hq:=ek hk;clear hk;obtain ⟨k2,hk2,hk⟩:=hq; (try dsimp only at hk);refine dk (ι:=List Int×Value) (fun z=>[(5,z.2)]) (fun z=>[.sl z.2 5 1 z.1.length (z.1.flatMap (eK .u8)), .fr F1]) (fun z=>k2 z.1=some r∧OneC z.2) ?_ ?_
 ·have hq:=fX hk;clear hk;obtain ⟨f5,kk5,hf5,hkk5,hk⟩:=hq;refine ff ?_;refine T.loop (ι:=Nat×List Int×Value×Int) (fun z=>[(0,va),(1,vb),(5,z.2.2.1),(6, .int .i64 z.2.2.2),(7, .int .i64 (z.1:Int))]) (fun z=>[.sl z.2.2.1 5 1 z.2.1.length (z.2.1.flatMap (eK .u8)), .fr F1]) (fun z=>dN f5 kk5 (a.length - z.1) z.1 (z.2.1,z.2.2.2)=some r∧OneC z.2.2.1) (fun z=>a.length - z.1) (0,[],(.slice none 0 0),0) ?_ ?_ ?_ ?_
  ·exact q4G
  ·exact jW
  ·exact fa
  ·rintro ⟨i_6,out_3,vout_3,borrow_4⟩ ⟨hk,oout_3⟩; (try dsimp only at *);refine ju ?_;refine ep ?_;refine q1Y ?_;have hm11:a.length≤9223372036854775807:=(List.length_map _)▸ha.max;refine ez ?_;refine T.cond rfl (fun h7=>?_) (fun h7=>?_)
   ·have p7:=of_decide_eq_true h7;rw [fW a6] at hk;generalize hn5:dN f5 kk5 (a.length - (i_6+1)) (i_6+1)=next5 at hk;rw [←hf5] at hk; (try dsimp only at hk);refine jc ?_;refine ep ?_;refine cY (dA (i:=i_6) rfl rfl rfl ha (List.length_map _) rfl a6) ?_;refine cY (dR 1 (i:=i_6) (j:=0) rfl rfl rfl ha a6) ?_;refine cY (dY (z:=(nth a i_6))) ?_;refine dH ?_;refine cY (dq (v:= .int .i64 (wI ((wI (nth a i_6)) - borrow_4)))) ?_;refine q3i ?_;refine ep ?_;refine q17 ?_;have hm24:b.length≤9223372036854775807:=(List.length_map _)▸hb.max;refine ez ?_;have hq:=ek hk;clear hk;obtain ⟨k9,hk9,hk⟩:=hq; (try dsimp only at hk);refine dk (ι:=Int) (fun z=>[(0,va),(1,vb),(5,vout_3),(7, .int .i64 (i_6:Int)),(8, .int .i64 z)]) (fun z=>[.sl vout_3 5 1 out_3.length (out_3.flatMap (eK .u8)), .fr F1]) (fun z=>k9 z=some r) ?_ ?_
    ·refine T.cond rfl (fun h10=>?_) (fun h10=>?_)
     ·have p10:=of_decide_eq_true h10;replace hk:=dt hk h10;refine gR ?_;refine cY (dA (i:=i_6) rfl rfl rfl hb (List.length_map _) rfl a6) ?_;refine cY (dR 1 (i:=i_6) (j:=0) rfl rfl rfl hb a6) ?_;refine cY (dY (z:=(nth b i_6))) ?_;refine cY (dq (v:= .int .i64 (wI ((wI ((wI (nth a i_6)) - borrow_4)) - (wI (nth b i_6)))))) ?_;refine gU ?_;exact dg (wI ((wI ((wI (nth a i_6)) - borrow_4)) - (wI (nth b i_6)))) hk (.c (.c (.c (.c (.c .nil))))) (List.Sublist.refl _)
     ·have p10:=of_decide_eq_false h10;replace hk:=dw hk h10;refine T.skip ?_;exact dg (wI ((wI (nth a i_6)) - borrow_4)) hk (.c (.c (.c (.c (.c .nil))))) (List.Sublist.refl _)
    ·rintro s_8 hk;rw [←hk9] at hk; (try dsimp only at hk);refine gA ?_;refine mA ?_;have hq:=ek hk;clear hk;obtain ⟨k13,hk13,hk⟩:=hq; (try dsimp only at hk);refine dk (ι:=Int×Int) (fun z=>[(0,va),(1,vb),(5,vout_3),(6, .int .i64 z.1),(7, .int .i64 (i_6:Int)),(8, .int .i64 z.2)]) (fun z=>[.sl vout_3 5 1 out_3.length (out_3.flatMap (eK .u8)), .fr F1]) (fun z=>k13 (z.1,z.2)=some r) ?_ ?_
     ·refine T.cond rfl (fun h14=>?_) (fun h14=>?_)
      ·have p14:=of_decide_eq_true h14;replace hk:=dt hk h14;refine gA ?_;refine cY (dq (v:= .int .i64 (wI (s_8+256)))) ?_;refine dH ?_;refine dX (T.region ?_);refine gU ?_;exact dg (1,wI (s_8+256)) hk (.c (.c (.c (.c (.c (.c .nil)))))) (List.Sublist.refl _)
      ·have p14:=of_decide_eq_false h14;replace hk:=dw hk h14;refine T.skip ?_;exact dg (0,s_8) hk (.c (.c (.c (.c (.c (.c .nil)))))) (List.Sublist.refl _)
     ·rintro ⟨borrow_11,s_12⟩ hk; (try dsimp only at *);rw [←hk13] at hk; (try dsimp only at hk);have hq:(dK (out_3++[(IntKind.u8.wrap s_12)]).length 1)∧_:=dJ hk;clear hk;obtain ⟨g41,hk⟩:=hq; (try dsimp only at hk);refine eZ ?_;refine cY (dY (z:=s_12)) ?_;refine iA ?_;rintro _ _ ⟨g40,rfl,rfl⟩;refine de (gP 1 0 rfl rfl rfl rfl rfl rfl (l7 (ys:=[(IntKind.u8.wrap s_12)])) (zdl (enc:=(eK .u8)) (xs:=out_3) (ys:=[(IntKind.u8.wrap s_12)])) g41 a7) ?_;rintro v41 _ ⟨hv41,rfl⟩;refine q16 ?_;refine kC ?_;rw [←hn5] at hk;refine q4g ?_;exact K.next ((i_6+1),(out_3++[(IntKind.u8.wrap s_12)]),v41,borrow_11) ⟨hk,inferInstance⟩ a9 (.c (.c (.c (.c (.c .nil))))) (List.Sublist.refl _)
   ·have p7:=of_decide_eq_false h7;rw [fY a6,←hkk5] at hk; (try dsimp only at hk);refine fi ?_;exact q46
 ·rintro ⟨out_1,vout_1⟩ ⟨hk,oout_1⟩; (try dsimp only at *);rw [←hk2] at hk; (try dsimp only at hk);refine T.seq ?_;refine q1B ?_;rintro F2 ⟨le1_2,hz2⟩;refine fQ ?_;have hfF2:=hz2.toF rfl (fun _=>rfl);haveI:=hfF2.oneC;have hq:=dC hk;clear hk;obtain ⟨r43,hr43,hk⟩:=hq; (try dsimp only at hk);refine eF ?_;refine de (dr 0 rfl rfl rfl rfl (fun w hw hF=>zeU _ w hF out_1 vout_1 hfF2 fuel r43 hr43)) ?_;rintro _ _ ⟨v43_0_0,F3,le2_3,hf43_0_0,hq,rfl⟩;obtain rfl:=hq.symm;have le1_3:=le1_2.trans le2_3;haveI:=hf43_0_0.oneC;refine gW ?_;obtain rfl:=Option.some.inj hk;exact fg rfl rfl (fun w' hw=>⟨v43_0_0,F3.toFrz,hf43_0_0,rfl,dP hw (i:=0) rfl hS0 le1_3⟩)
def zdn (fuel:Nat)(a:List Int)(b:List Int):Option (List Int×List Int):=
 dB (dK a.length 1) <|
 dO (fun (s3:List Int×List Int)=>
 (zcW fuel s3.2).bind fun r57=>
 some (r57,s3.1))
 (fun k3=>
 dB (-1≤wI ((wI ((a.length:Int) *8)) - 1)∧wI ((wI ((a.length:Int) *8)) - 1)≤4611686018427387903) <|
 gL (fun (i_7:Nat) (next6:(List Int×List Int)→Option (List Int×List Int)) (s6:List Int×List Int)=>
 (zdb fuel s6.1 s6.1).bind fun r22=>
 dB (0≤(i_7:Int)∧(i_7:Int)≤9223372036854775807∧1≤(8:Int)) <|
 dB (0≤((i_7:Int) / 8)∧((i_7:Int) / 8)<(a.length:Int)) <|
 dB (0≤(i_7:Int)∧1≤(8:Int)) <|
 dB (0≤((i_7:Int) % 8)) <|
 dO (fun (r_9:List Int)=>
 (bif decide (0≤(zcY r_9 b)) then
 (zcX fuel r_9 b).bind fun r42=>
 dB (0≤(i_7:Int)∧(i_7:Int)≤9223372036854775807∧1≤(8:Int)) <|
 dB (0≤(i_7:Int)∧(i_7:Int)≤9223372036854775807∧1≤(8:Int)) <|
 dB (0≤((i_7:Int) / 8)∧((i_7:Int) / 8)<(s6.2.length:Int)) <|
 dB (0≤(i_7:Int)∧1≤(8:Int)) <|
 next6 (r42,(s6.2.set (((i_7:Int) / 8).toNat) (orK .u8 (nth s6.2 (((i_7:Int) / 8).toNat)) (shlK .u8 1 ((i_7:Int) % 8)))))
 else
 next6 (r_9,s6.2)))
 (fun k10=>
 (bif decide ((andK .u8 (shrK .u8 (nth a (((i_7:Int) / 8).toNat)) ((i_7:Int) % 8)) 1)=1) then
 (zdb fuel r22 [1]).bind fun r35=>
 k10 r35
 else
 k10 r22)))
 (fun (s6:List Int×List Int)=>
 k3 (s6.1,s6.2)) (((wI ((wI ((a.length:Int) *8)) - 1))+1).toNat) ([],(List.replicate a.length (0:Int))))
theorem zge (F0:Frz)(w:World)(hF0:F0.At w)(a:List Int)(va:Value)(ha:SlC F0 va 1 (a.map (eK .u8)))(b:List Int)(vb:Value)(hb:SlC F0 vb 1 (b.map (eK .u8)))(fuel:Nat)(r:List Int×List Int)(hr:zdn fuel a b=some r):Calls Tryz.prog 201 #[va,vb] w fun e w'=>∃(y:Value×Value) (G:Frz),(SlC G y.1 1 (r.1.map (eK .u8))∧SlC G y.2 1 (r.2.map (eK .u8)))∧e= .returned (.tuple #[y.1,y.2])∧Fx F0 w G w':=by
 have hk:=hr;unfold zdn at hk;haveI:=ha.oneC;haveI:=hb.oneC;obtain ⟨S0,F1,rfl,hS0,hp0⟩:=eH hF0;refine dT Tryz.func201 rfl rfl rfl hp0 ?_;refine gS ?_;refine fv ?_;have hq:(dK a.length 1)∧_:=dJ hk;clear hk;obtain ⟨g11,hk⟩:=hq; (try dsimp only at hk);refine eF ?_;refine q1Y ?_;have hm10:a.length≤9223372036854775807:=(List.length_map _)▸ha.max;refine de (gm (n':=a.length) (enc:=(eK .u8)) (u:=(0:Int)) rfl rfl rfl rfl g11 a7 a7 (fun _=>rfl) rfl) ?_;rintro v11 _ ⟨hv11,rfl⟩;refine kD ?_;intro iv11 hmv11;refine iw ?_;refine jb ?_;refine q1Y ?_;refine cY (dq (v:= .int .i64 (wI ((a.length:Int) *8)))) ?_;refine cY (dq (v:= .int .i64 (wI ((wI ((a.length:Int) *8)) - 1)))) ?_;refine ez ?_;have hq:=ek hk;clear hk;obtain ⟨k3,hk3,hk⟩:=hq; (try dsimp only at hk);refine dk (ι:=List Int×Value×List Int×FzB w (fun _=>False) S0) (fun z=>[(6,v11),(7,z.2.1)]) (fun z=>[.sl v11 5 1 z.2.2.1.length (z.2.2.1.flatMap (eK .u8)), .fr z.2.2.2]) (fun z=>k3 (z.1,z.2.2.1)=some r∧SlC z.2.2.2.toFrz z.2.1 1 (z.1.map (eK .u8))∧F1.toFrz.Le z.2.2.2.toFrz) ?_ ?_
 ·have hq:(-1≤wI ((wI ((a.length:Int) *8)) - 1)∧wI ((wI ((a.length:Int) *8)) - 1)≤4611686018427387903)∧_:=dJ hk;clear hk;obtain ⟨gl6,hk⟩:=hq; (try dsimp only at hk);have hq:=zd8 hk;clear hk;obtain ⟨f6,kk6,hf6,hkk6,hk⟩:=hq;refine ff ?_;refine T.loop (ι:=Nat×List Int×Value×List Int×FzB w (fun _=>False) S0) (fun z=>[(0,va),(1,vb),(6,v11),(7,z.2.2.1),(8, .int .i64 ((z.1:Int) - 1))]) (fun z=>[.sl v11 5 1 z.2.2.2.1.length (z.2.2.2.1.flatMap (eK .u8)), .fr z.2.2.2.2]) (fun z=>gL f6 kk6 z.1 (z.2.1,z.2.2.2.1)=some r∧z.1≤((wI ((wI ((a.length:Int) *8)) - 1))+1).toNat∧SlC z.2.2.2.2.toFrz z.2.2.1 1 (z.2.1.map (eK .u8))∧F1.toFrz.Le z.2.2.2.2.toFrz) (fun z=>z.1) (((wI ((wI ((a.length:Int) *8)) - 1))+1).toNat,[],(.slice none 0 0),(List.replicate a.length (0:Int)),F1) ?_ ?_ ?_ ?_
  ·exact ⟨hk,(Nat.le_refl _),(SlC.nil _ 1),(Frz.Le.refl _)⟩
  ·exact (.c (.c (.c (.c (.i (a:=wI ((wI ((a.length:Int) *8)) - 1)) (by first|omega|(dsimp only;omega)) .nil)))))
  ·exact fa
  ·rintro ⟨i_7,r_4,vr_4,l_5,F3⟩ ⟨hk,hle6,hr_4,le1_3⟩; (try dsimp only at *);haveI:=hr_4.oneC;refine j3 ?_;refine T.cond rfl (fun h8=>?_) (fun h8=>?_)
   ·have p8:=of_decide_eq_true h8;obtain ⟨i_7',rfl⟩:∃q,i_7=q+1:=⟨i_7 - 1,by omega⟩;replace hk:f6 i_7' (gL f6 kk6 i_7') (r_4,l_5)=some r:=hk;generalize hn6:gL f6 kk6 i_7'=next6 at hk;rw [←hf6] at hk; (try dsimp only at hk);refine gf (gs:=[(0,va),(1,vb),(6,v11),(7,vr_4),(8, .int .i64 (i_7':Int))]) (by repeat (first|exact Sub.nil|refine Sub.cons rfl ?_|refine fD rfl a6 ?_|refine fE rfl cW ?_)) (List.Sublist.refl _) ?_;refine q2K ?_;have hq:=dC hk;clear hk;obtain ⟨r22,hr22,hk⟩:=hq; (try dsimp only at hk);refine eZ ?_;refine de (dr 1 rfl rfl rfl rfl (fun w hw hF=>zfx _ w hF r_4 vr_4 hr_4 r_4 vr_4 hr_4 fuel r22 hr22)) ?_;rintro _ _ ⟨v22_0_0,F4,le3_4,hf22_0_0,hq,rfl⟩;obtain rfl:=hq.symm;have le1_4:=le1_3.trans le3_4;haveI:=hf22_0_0.oneC;refine jr ?_;have hq:(0≤(i_7':Int)∧(i_7':Int)≤9223372036854775807∧1≤(8:Int))∧_:=dJ hk;clear hk;obtain ⟨g25,hk⟩:=hq;have hq:(0≤((i_7':Int) / 8)∧((i_7':Int) / 8)<(a.length:Int))∧_:=dJ hk;clear hk;obtain ⟨g26,hk⟩:=hq;have hq:(0≤(i_7':Int)∧1≤(8:Int))∧_:=dJ hk;clear hk;obtain ⟨g29,hk⟩:=hq;have hq:(0≤((i_7':Int) % 8))∧_:=dJ hk;clear hk;obtain ⟨g30,hk⟩:=hq; (try dsimp only at hk);refine eZ ?_;refine cY (gu (a:=(i_7':Int)) (b:=(8:Int)) rfl rfl rfl g25) ?_;refine cY (dA (i:=((i_7':Int) / 8).toNat) rfl rfl rfl (SlC.mono ha le1_4) (List.length_map _) a6 a6) ?_;refine cY (dR 1 (i:=((i_7':Int) / 8).toNat) (j:=0) rfl rfl rfl (SlC.mono ha le1_4) a6) ?_;refine dH ?_;refine cY (iR (a:=(i_7':Int)) (b:=(8:Int)) rfl rfl rfl g29) ?_;refine cY (Yv.shrK (a:=(nth a (((i_7':Int) / 8).toNat))) (b:=((i_7':Int) % 8)) rfl rfl rfl g30) ?_;refine cY (Yv.andK (a:=(shrK .u8 (nth a (((i_7':Int) / 8).toNat)) ((i_7':Int) % 8))) (b:=1) rfl rfl rfl) ?_;refine ez ?_;have hq:=ek hk;clear hk;obtain ⟨k10,hk10,hk⟩:=hq; (try dsimp only at hk);refine dk (ι:=List Int×Value×FzB w (fun _=>False) S0) (fun z=>[(0,va),(1,vb),(6,v11),(7,z.2.1),(8, .int .i64 (i_7':Int))]) (fun z=>[.sl v11 5 1 l_5.length (l_5.flatMap (eK .u8)), .fr z.2.2]) (fun z=>k10 z.1=some r∧SlC z.2.2.toFrz z.2.1 1 (z.1.map (eK .u8))∧F4.toFrz.Le z.2.2.toFrz) ?_ ?_
    ·refine T.cond rfl (fun h11=>?_) (fun h11=>?_)
     ·have p11:=of_decide_eq_true h11;replace hk:=dt hk h11;have hq:=dC hk;clear hk;obtain ⟨r35,hr35,hk⟩:=hq; (try dsimp only at hk);refine eF ?_;refine iA ?_;rintro _ _ ⟨g34,rfl,rfl⟩;refine q11 ?_;rintro F6 ⟨le4_6,hz6⟩;refine fQ ?_;have hfF6:SlC F6.toFrz (.slice (some ⟨g34,0,none⟩) 1 1) 1 ([1].map (eK .u8)):=(SlK.lit hz6 rfl (Nat.le_refl _) a7).toF (xs:=[1]) rfl (fun _=>rfl);refine de (dr 1 rfl rfl rfl rfl (fun w hw hF=>zfx _ w hF r22 v22_0_0 (SlC.mono hf22_0_0 le4_6) [1] (.slice (some ⟨g34,0,none⟩) 1 1) hfF6 fuel r35 hr35)) ?_;rintro _ _ ⟨v35_0_0,F7,le6_7,hf35_0_0,hq,rfl⟩;obtain rfl:=hq.symm;have le4_7:=le4_6.trans le6_7;haveI:=hf35_0_0.oneC;refine gU ?_;exact dg (r35,v35_0_0,F7) ⟨hk,hf35_0_0,le4_7⟩ (.c (.c (.c (.c (.c .nil))))) (List.Sublist.refl _)
     ·have p11:=of_decide_eq_false h11;replace hk:=dw hk h11;refine T.skip ?_;exact dg (r22,v22_0_0,F4) ⟨hk,hf22_0_0,(Frz.Le.refl _)⟩ (.c (.c (.c (.c (.c .nil))))) (List.Sublist.refl _)
    ·rintro ⟨r_9,vr_9,F5⟩ ⟨hk,hr_9,le4_5⟩; (try dsimp only at *);rw [←hk10] at hk; (try dsimp only at hk);have le1_5:=le1_4.trans le4_5;haveI:=hr_9.oneC;refine gS ?_;refine de (dj rfl rfl rfl (fun w hw=>zhF _ w (hw.fr (i:=1) rfl) r_9 vr_9 hr_9 b vb (SlC.mono hb le1_5))) ?_;refine lL ?_;refine T.cond rfl (fun h12=>?_) (fun h12=>?_)
     ·have p12:=of_decide_eq_true h12;replace hk:=dt hk h12;refine T.seq ?_;have hq:=dC hk;clear hk;obtain ⟨r42,hr42,hk⟩:=hq; (try dsimp only at hk);refine eZ ?_;refine de (dr 1 rfl rfl rfl rfl (fun w hw hF=>zga _ w hF r_9 vr_9 hr_9 b vb (SlC.mono hb le1_5) fuel r42 hr42)) ?_;rintro _ _ ⟨v42_0_0,F8,le5_8,hf42_0_0,hq,rfl⟩;obtain rfl:=hq.symm;have le1_8:=le1_5.trans le5_8;haveI:=hf42_0_0.oneC;refine ez ?_;have hq:(0≤(i_7':Int)∧(i_7':Int)≤9223372036854775807∧1≤(8:Int))∧_:=dJ hk;clear hk;obtain ⟨g45,hk⟩:=hq;have hq:(0≤(i_7':Int)∧(i_7':Int)≤9223372036854775807∧1≤(8:Int))∧_:=dJ hk;clear hk;obtain ⟨g48,hk⟩:=hq;have hq:(0≤((i_7':Int) / 8)∧((i_7':Int) / 8)<(l_5.length:Int))∧_:=dJ hk;clear hk;obtain ⟨g49,hk⟩:=hq;have hq:(0≤(i_7':Int)∧1≤(8:Int))∧_:=dJ hk;clear hk;obtain ⟨g52,hk⟩:=hq; (try dsimp only at hk);refine ef (sN 0 6 (sN 8 3 (.eff 6 (.eff 7 (.still 11 (.eff 12 (.eff 13 .done))))))) [.fr F8] a8 Sx ?_;refine gc ?_;refine dc rfl (gu (a:=(i_7':Int)) (b:=(8:Int)) rfl rfl rfl g45) ?_;refine gc ?_;refine dc rfl (gu (a:=(i_7':Int)) (b:=(8:Int)) rfl rfl rfl g48) ?_;refine gB ?_;refine dc rfl (iR (a:=(i_7':Int)) (b:=(8:Int)) rfl rfl rfl g52) ?_;refine dc rfl (Yv.shlK (a:=1) (b:=((i_7':Int) % 8)) rfl rfl rfl a6) ?_;refine q3G ?_;refine dV rfl (c9) rfl rfl (eR 0 rfl rfl rfl a6 (ir (enc:=(eK .u8)) (i:=((i_7':Int) / 8).toNat) (j:=0) (fun _=>rfl) a6 a7)) (fun w hw=>hw.sub Sx) ?_;refine dc rfl (Yv.orK (a:=(nth l_5 (((i_7':Int) / 8).toNat))) (b:=(shlK .u8 1 ((i_7':Int) % 8)))) ?_;refine q3G ?_;refine eo rfl (c9) rfl (eU 0 (k':=(l_5.set (((i_7':Int) / 8).toNat) (orK .u8 (nth l_5 (((i_7':Int) / 8).toNat)) (shlK .u8 1 ((i_7':Int) % 8)))).length) (l':=(l_5.set (((i_7':Int) / 8).toNat) (orK .u8 (nth l_5 (((i_7':Int) / 8).toNat)) (shlK .u8 1 ((i_7':Int) % 8)))).flatMap (eK .u8)) rfl rfl rfl rfl a6 (iF (enc:=(eK .u8)) (xs:=l_5) (i:=((i_7':Int) / 8).toNat) (j:=0) (size:=1) (fun _=>rfl) a6 a7 b7) (iE (enc:=(eK .u8)) (xs:=l_5) (i:=((i_7':Int) / 8).toNat) (j:=0) (size:=1) (x:=(orK .u8 (nth l_5 (((i_7':Int) / 8).toNat)) (shlK .u8 1 ((i_7':Int) % 8)))) (fun _=>rfl) a6 a7 b7 rfl) (List.length_set ..)) ?_;refine kj ?_;refine fL (K.seq (T.region ?_));refine dH ?_;refine iO ?_;refine gU ?_;rw [←hn6] at hk;exact K.next (i_7',r42,v42_0_0,(l_5.set (((i_7':Int) / 8).toNat) (orK .u8 (nth l_5 (((i_7':Int) / 8).toNat)) (shlK .u8 1 ((i_7':Int) % 8)))),F8) ⟨hk,a9,hf42_0_0,le1_8⟩ a9 (.c (.c (.c (.c (.c .nil))))) (List.Sublist.refl _)
     ·have p12:=of_decide_eq_false h12;replace hk:=dw hk h12;refine q1j ?_;refine dH ?_;refine iO ?_;refine gU ?_;rw [←hn6] at hk;exact K.next (i_7',r_9,vr_9,l_5,F5) ⟨hk,a9,hr_9,le1_5⟩ a9 (.c (.c (.c (.c (.c .nil))))) (List.Sublist.refl _)
   ·have p8:=of_decide_eq_false h8;obtain rfl:i_7=0:=a6;replace hk:kk6 (r_4,l_5)=some r:=hk;rw [←hkk6] at hk; (try dsimp only at hk);refine fi ?_;exact dg (r_4,vr_4,l_5,F3) ⟨hk,hr_4,le1_3⟩ (.c (.c .nil)) (List.Sublist.refl _)
 ·rintro ⟨r_1,vr_1,l_2,F2⟩ ⟨hk,hr_1,le1_2⟩; (try dsimp only at *);rw [←hk3] at hk; (try dsimp only at hk);haveI:=hr_1.oneC;refine T.seq ?_;refine q1B ?_;rintro F9 ⟨le2_9,hz9⟩;refine fQ ?_;have le1_9:=le1_2.trans le2_9;have hfF9:=hz9.toF rfl (fun _=>rfl);haveI:=hfF9.oneC;have hq:=dC hk;clear hk;obtain ⟨r57,hr57,hk⟩:=hq; (try dsimp only at hk);refine eF ?_;refine de (dr 0 rfl rfl rfl rfl (fun w hw hF=>zeU _ w hF l_2 v11 hfF9 fuel r57 hr57)) ?_;rintro _ _ ⟨v57_0_0,F10,le9_10,hf57_0_0,hq,rfl⟩;obtain rfl:=hq.symm;have le1_10:=le1_9.trans le9_10;have le2_10:=le2_9.trans le9_10;haveI:=hf57_0_0.oneC;refine fU ?_;refine ik ?_;obtain rfl:=Option.some.inj hk;exact fk rfl rfl rfl (fun w' hw=>⟨(v57_0_0,vr_1),F10.toFrz,⟨hf57_0_0,(SlC.mono hr_1 le2_10)⟩,rfl,dP hw (i:=0) rfl hS0 le1_10⟩)
def zch (fuel:Nat)(neg:Bool)(a:List Int):Option GInt:=
 (zcW fuel a).bind fun r8=>
 dO (fun (c_2:List Int)=>
 some (GInt.mk (neg&&(decide (0<(r8.length:Int)))) c_2))
 (fun k3=>
 gL (fun (i_6:Nat) (next5:List Int→Option GInt) (c_4:List Int)=>
 dB (dK (c_4++[(nth r8 i_6)]).length 1) <|
 next5 (c_4++[(nth r8 i_6)]))
 (fun (c_4:List Int)=>
 k3 c_4) r8.length [])
theorem zem (F0:Frz)(w:World)(hF0:F0.At w)(neg:Bool)(a:List Int)(va:Value)(ha:SlC F0 va 1 (a.map (eK .u8)))(fuel:Nat)(r:GInt)(hr:zch fuel neg a=some r):Calls Tryz.prog 196 #[.bool neg,va] w fun e w'=>∃(y:Value) (G:Frz),(SlC G y 1 (r.Digits.map (eK .u8)))∧e= .returned (.agg [.bool r.Neg,y].toArray)∧Fx F0 w G w':=by
 have hk:=hr;unfold zch at hk;haveI:=ha.oneC;obtain ⟨S0,F1,rfl,hS0,hp0⟩:=eH hF0;refine dT Tryz.func196 rfl rfl rfl hp0 ?_;refine ee ?_;refine fJ ?_;rintro _ _ ⟨g4,rfl,rfl⟩;refine fv ?_;have hq:=dC hk;clear hk;obtain ⟨r8,hr8,hk⟩:=hq; (try dsimp only at hk);refine eF ?_;refine de (dr 1 rfl rfl rfl rfl (fun w hw hF=>zeU _ w hF a va ha fuel r8 hr8)) ?_;rintro _ _ ⟨v8_0_0,F2,le1_2,hf8_0_0,hq,rfl⟩;obtain rfl:=hq.symm;haveI:=hf8_0_0.oneC;refine gj ?_;refine dk (ι:=Nat) (fun z=>[(1,v8_0_0),(4, .pointer (some ⟨g4,0,none⟩)),(5, .pointer (some ⟨z,0,none⟩))]) (fun z=>[.row z 26 [.bool (neg&&(decide (0<(r8.length:Int)))),(.slice none 0 0)], .sl (.slice none 0 0) 5 1 ([]:List Int).length ([].flatMap (eK .u8)), .row g4 26 [.bool false,(.slice none 0 0)], .fr F2]) (fun z=>True) ?_ ?_
 ·refine eZ ?_;refine dp rfl rfl rfl (fun h1=>?_) (fun h1=>?_)
  ·refine dH ?_;refine cY (dE rfl rfl hf8_0_0 (List.length_map _)) ?_;have hm12:r8.length≤9223372036854775807:=(List.length_map _)▸hf8_0_0.max;refine ep ?_;refine jj ?_;refine fJ ?_;rintro _ _ ⟨g5,rfl,rfl⟩;refine kU ?_;refine kX ?_;refine kU ?_;refine fM ?_;refine K.pick [2,0,3,4] rfl a7 ?_;refine K.bU (hs':=[.row g5 26 [.bool (neg&&(decide (0<(r8.length:Int)))),(.slice none 0 0)], .sl (.slice none 0 0) 5 1 ([]:List Int).length ([].flatMap (eK .u8)), .row g4 26 [.bool false,(.slice none 0 0)], .fr F2]) (by rw [show ((neg&&(decide (0<(r8.length:Int)))))=decide (0<(r8.length:Int)) from (by first|exact (iX h1)|exact ((iX h1)).symm)] <;> rfl) ?_;exact dg g5 trivial (.c (.c (.c .nil))) (List.Sublist.refl _)
  ·refine iv ?_;refine jj ?_;refine fJ ?_;rintro _ _ ⟨g5,rfl,rfl⟩;refine kU ?_;refine kX ?_;refine kU ?_;refine fM ?_;refine K.pick [2,0,3,4] rfl a7 ?_;refine K.bU (hs':=[.row g5 26 [.bool (neg&&(decide (0<(r8.length:Int)))),(.slice none 0 0)], .sl (.slice none 0 0) 5 1 ([]:List Int).length ([].flatMap (eK .u8)), .row g4 26 [.bool false,(.slice none 0 0)], .fr F2]) (by rw [show ((neg&&(decide (0<(r8.length:Int)))))=false from (by first|exact (gQ h1).symm|exact ((gQ h1).symm).symm)] <;> rfl) ?_;exact dg g5 trivial (.c (.c (.c .nil))) (List.Sublist.refl _)
 ·rintro g5 _; (try dsimp only at *);have hm12:r8.length≤9223372036854775807:=(List.length_map _)▸hf8_0_0.max;refine q4b ?_;refine cY (dE rfl rfl hf8_0_0 (List.length_map _)) ?_;refine iO ?_;refine ez ?_;have hq:=ek hk;clear hk;obtain ⟨k3,hk3,hk⟩:=hq; (try dsimp only at hk);refine dk (ι:=List Int×Value) (fun z=>[(4, .pointer (some ⟨g4,0,none⟩)),(5, .pointer (some ⟨g5,0,none⟩))]) (fun z=>[.sl z.2 5 1 z.1.length (z.1.flatMap (eK .u8)), .row g5 26 [.bool (neg&&(decide (0<(r8.length:Int)))),z.2], .row g4 26 [.bool false,(.slice none 0 0)], .fr F2]) (fun z=>k3 z.1=some r∧OneC z.2) ?_ ?_
  ·have hq:=zd8 hk;clear hk;obtain ⟨f5,kk5,hf5,hkk5,hk⟩:=hq;refine ff ?_;refine T.pick [1,0,2,3] rfl a7 ?_;refine T.loop (ι:=Nat×List Int×Value) (fun z=>[(1,v8_0_0),(4, .pointer (some ⟨g4,0,none⟩)),(5, .pointer (some ⟨g5,0,none⟩)),(6, .int .i64 ((z.1:Int) - 1))]) (fun z=>[.sl z.2.2 5 1 z.2.1.length (z.2.1.flatMap (eK .u8)), .row g5 26 [.bool (neg&&(decide (0<(r8.length:Int)))),z.2.2], .row g4 26 [.bool false,(.slice none 0 0)], .fr F2]) (fun z=>gL f5 kk5 z.1 z.2.1=some r∧z.1≤r8.length∧OneC z.2.2) (fun z=>z.1) (r8.length,[],(.slice none 0 0)) ?_ ?_ ?_ ?_
   ·exact ⟨hk,(Nat.le_refl _),inferInstance⟩
   ·exact jB
   ·exact fa
   ·rintro ⟨i_6,c_4,vc_4⟩ ⟨hk,hle5,oc_4⟩; (try dsimp only at *);refine j3 ?_;refine T.cond rfl (fun h7=>?_) (fun h7=>?_)
    ·have p7:=of_decide_eq_true h7;obtain ⟨i_6',rfl⟩:∃q,i_6=q+1:=⟨i_6 - 1,by omega⟩;replace hk:f5 i_6' (gL f5 kk5 i_6') c_4=some r:=hk;generalize hn5:gL f5 kk5 i_6'=next5 at hk;rw [←hf5] at hk; (try dsimp only at hk);refine gf (gs:=[(1,v8_0_0),(4, .pointer (some ⟨g4,0,none⟩)),(5, .pointer (some ⟨g5,0,none⟩)),(6, .int .i64 (i_6':Int))]) (by repeat (first|exact Sub.nil|refine Sub.cons rfl ?_|refine fD rfl a6 ?_|refine fE rfl cW ?_)) (List.Sublist.refl _) ?_;refine T.skip (K.seq (T.seq (T.block ?_)));have hq:(dK (c_4++[(nth r8 i_6')]).length 1)∧_:=dJ hk;clear hk;obtain ⟨g30,hk⟩:=hq; (try dsimp only at hk);refine ef (.still 0 (.still 2 (.still 3 (.still 4 (.still 5 (.two 1 6 (.eff 6 (.eff 7 (.still 8 (.eff 9 .done)))) (.eff 1 (.eff 7 (.still 8 (.eff 9 .done)))))))))) [.row g4 26 [.bool false,(.slice none 0 0)], .fr F2] a8 Sx ?_;refine jD ?_;refine gc ?_;refine dc rfl (dA (i:=i_6') rfl rfl rfl hf8_0_0 (List.length_map _) rfl a6) ?_;refine dc rfl (dR 1 (i:=i_6') (j:=0) rfl rfl rfl hf8_0_0 a6) ?_;refine TS.two ?_ ?_
     ·refine dV rfl (c9) rfl rfl (dM 1) (fun w hw=>hw.sub Sx) ?_;refine d7 ?_;refine q1i ?_;rintro _ _ ⟨g29,rfl,rfl⟩;refine it ?_;refine q3s ?_;rintro v30 _ ⟨hv30,rfl⟩;refine q28 ?_;rw [←hn5] at hk;refine K.pick [1,2,3,4] rfl a7 ?_;exact q5n
     ·refine q1i ?_;rintro _ _ ⟨g29,rfl,rfl⟩;refine it ?_;refine d7 ?_;refine dV rfl (c9) rfl rfl (dM 2) (fun w hw=>hw.sub Sx) ?_;refine q3s ?_;rintro v30 _ ⟨hv30,rfl⟩;refine q28 ?_;rw [←hn5] at hk;refine K.pick [1,2,3,4] rfl a7 ?_;exact q5n
    ·have p7:=of_decide_eq_false h7;obtain rfl:i_6=0:=a6;replace hk:kk5 c_4=some r:=hk;rw [←hkk5] at hk; (try dsimp only at hk);refine fi ?_;exact dg (c_4,vc_4) ⟨hk,inferInstance⟩ (.c (.c .nil)) (List.Sublist.refl _)
  ·rintro ⟨c_2,vc_2⟩ ⟨hk,oc_2⟩; (try dsimp only at *);rw [←hk3] at hk; (try dsimp only at hk);refine ee ?_;refine lf ?_;refine q3O ?_;refine ik ?_;refine lH (fun w hw=>hw.freezeS (i:=3) (j:=0) a7 rfl rfl) ?_;rintro F3 ⟨le2_3,hz3⟩;refine fQ ?_;have le1_3:=le1_2.trans le2_3;have hfF3:=hz3.toF rfl (fun _=>rfl);haveI:=hfF3.oneC;obtain rfl:=Option.some.inj hk;exact jX 1 rfl rfl rfl rfl (fun w' hw=>⟨vc_2,F3.toFrz,hfF3,rfl,dP hw (i:=2) rfl hS0 le1_3⟩)
def zc6 (fuel:Nat)(a:GInt)(b:GInt):Option GInt:=
 (zcG a).bind fun r10=>
 (zcG b).bind fun r12=>
 dO (fun (x_1:List Int)=>
 (zch fuel false x_1).bind fun r25=>
 some r25)
 (fun k2=>
 eV (fun (next5:(List Int×List Int)→Option GInt) (s5:List Int×List Int)=>
 (bif decide (0<(s5.2.length:Int)) then
 (zdn fuel s5.1 s5.2).bind fun r19=>
 next5 (s5.2,r19.2)
 else
 k2 s5.1)) fuel (r10,r12))
theorem zfP (F0:Frz)(w:World)(hF0:F0.At w)(a:GInt)(va_1:Value)(ha_1:SlC F0 va_1 1 (a.Digits.map (eK .u8)))(b:GInt)(vb_1:Value)(hb_1:SlC F0 vb_1 1 (b.Digits.map (eK .u8)))(fuel:Nat)(r:GInt)(hr:zc6 fuel a b=some r):Calls Tryz.prog 130 #[.agg [.bool a.Neg,va_1].toArray, .agg [.bool b.Neg,vb_1].toArray] w fun e w'=>∃(y:Value) (G:Frz),(SlC G y 1 (r.Digits.map (eK .u8)))∧e= .returned (.agg [.bool r.Neg,y].toArray)∧Fx F0 w G w':=by
 have hk:=hr;unfold zc6 at hk;haveI:=ha_1.oneC;haveI:=hb_1.oneC;obtain ⟨S0,F1,rfl,hS0,hp0⟩:=eH hF0;refine dT Tryz.func130 rfl rfl rfl hp0 ?_;refine gY ?_;rintro _ _ ⟨g2,rfl,rfl⟩;refine lk ?_;rintro _ _ ⟨g3,rfl,rfl⟩;refine fJ ?_;rintro _ _ ⟨g4,rfl,rfl⟩;refine fv ?_;have hq:=dC hk;clear hk;obtain ⟨r10,hr10,hk⟩:=hq;have hq:=dC hk;clear hk;obtain ⟨r12,hr12,hk⟩:=hq; (try dsimp only at hk);refine q3I ?_;refine dc rfl (gx 1) ?_;refine d7 ?_;refine dl rfl (c9) rfl rfl (dr 3 rfl rfl rfl rfl (fun w hw hF=>zd7 _ w hF a va_1 ha_1 r10 hr10)) ?_;rintro _ _ ⟨v10_0_0,F2,le1_2,hf10_0_0,hq,rfl⟩;obtain rfl:=hq.symm;haveI:=hf10_0_0.oneC;refine ⟨(fun w hw=>(hw.frLe (i:=3) rfl le1_2).sub Sx),?_⟩;refine d7 ?_;refine dl rfl (c9) rfl rfl (dr 3 rfl rfl rfl rfl (fun w hw hF=>zd7 _ w hF b vb_1 (SlC.mono hb_1 le1_2) r12 hr12)) ?_;rintro _ _ ⟨v12_0_0,F3,le2_3,hf12_0_0,hq,rfl⟩;obtain rfl:=hq.symm;have le1_3:=le1_2.trans le2_3;haveI:=hf12_0_0.oneC;refine ⟨(fun w hw=>(hw.frLe (i:=3) rfl le1_3).sub Sx),?_⟩;refine kq ?_;refine lh ?_;have hq:=ek hk;clear hk;obtain ⟨k2,hk2,hk⟩:=hq; (try dsimp only at hk);refine dk (ι:=List Int×Value×FzB w (fun _=>False) S0) (fun z=>[(4, .pointer (some ⟨g4,0,none⟩)),(5,z.2.1)]) (fun z=>[.row g4 26 [.bool false,(.slice none 0 0)], .fr z.2.2]) (fun z=>k2 z.1=some r∧SlC z.2.2.toFrz z.2.1 1 (z.1.map (eK .u8))∧F3.toFrz.Le z.2.2.toFrz) ?_ ?_
 ·have hq:=j7 hk;clear hk;obtain ⟨f5,hf5,hk⟩:=hq;refine ff ?_;refine T.pick [0,3] rfl a7 ?_;refine T.loop (ι:=Nat×List Int×Value×List Int×Value×FzB w (fun _=>False) S0) (fun z=>[(4, .pointer (some ⟨g4,0,none⟩)),(5,z.2.2.1),(6,z.2.2.2.2.1)]) (fun z=>[.row g4 26 [.bool false,(.slice none 0 0)], .fr z.2.2.2.2.2]) (fun z=>eV f5 z.1 (z.2.1,z.2.2.2.1)=some r∧SlC z.2.2.2.2.2.toFrz z.2.2.1 1 (z.2.1.map (eK .u8))∧SlC z.2.2.2.2.2.toFrz z.2.2.2.2.1 1 (z.2.2.2.1.map (eK .u8))∧F3.toFrz.Le z.2.2.2.2.2.toFrz) (fun z=>z.1) (fuel,r10,v10_0_0,r12,v12_0_0,F3) ?_ ?_ ?_ ?_
  ·exact ⟨hk,(SlC.mono hf10_0_0 le2_3),hf12_0_0,(Frz.Le.refl _)⟩
  ·exact ma
  ·exact fa
  ·rintro ⟨m_6,x_3,vx_3,y_4,vy_4,F5⟩ ⟨hk,hx_3,hy_4,le3_5⟩; (try dsimp only at *);haveI:=hx_3.oneC;haveI:=hy_4.oneC;have hq:=jZ hk;clear hk;obtain ⟨m_6',rfl,hk⟩:=hq;generalize hn5:eV f5 m_6'=next5 at hk;rw [←hf5] at hk; (try dsimp only at hk);refine q4b ?_;refine cY (dE rfl rfl hy_4 (List.length_map _)) ?_;have hm14:y_4.length≤9223372036854775807:=(List.length_map _)▸hy_4.max;refine ez ?_;refine T.cond rfl (fun h7=>?_) (fun h7=>?_)
   ·have p7:=of_decide_eq_true h7;replace hk:=dt hk h7;refine T.skip (K.seq (T.block (T.seq ?_)));have hq:=dC hk;clear hk;obtain ⟨r19,hr19,hk⟩:=hq; (try dsimp only at hk);refine eZ ?_;refine de (dr 1 rfl rfl rfl rfl (fun w hw hF=>zge _ w hF x_3 vx_3 hx_3 y_4 vy_4 hy_4 fuel r19 hr19)) ?_;rintro _ _ ⟨⟨v19_0_0,v19_1_0⟩,F6,le5_6,⟨hf19_0_0,hf19_1_0⟩,rfl,rfl⟩;dsimp only at hf19_0_0 hf19_1_0 ⊢;have le3_6:=le3_5.trans le5_6;haveI:=hf19_0_0.oneC;haveI:=hf19_1_0.oneC;refine i9 ?_;refine dX (T.region ?_);refine iv ?_;refine TL.nil (fL ?_);rw [←hn5] at hk;exact K.next (m_6',y_4,vy_4,r19.2,v19_1_0,F6) ⟨hk,(SlC.mono hy_4 le5_6),hf19_1_0,le3_6⟩ a9 (.c (.c (.c .nil))) (List.Sublist.refl _)
   ·have p7:=of_decide_eq_false h7;replace hk:=dw hk h7;refine fi ?_;exact dg (x_3,vx_3,F5) ⟨hk,hx_3,le3_5⟩ (.c (.c .nil)) (List.Sublist.refl _)
 ·rintro ⟨x_1,vx_1,F4⟩ ⟨hk,hx_1,le3_4⟩; (try dsimp only at *);rw [←hk2] at hk; (try dsimp only at hk);have le1_4:=le1_3.trans le3_4;haveI:=hx_1.oneC;refine T.seq ?_;have hq:=dC hk;clear hk;obtain ⟨r25,hr25,hk⟩:=hq; (try dsimp only at hk);refine eF ?_;refine de (dr 1 rfl rfl rfl rfl (fun w hw hF=>zem _ w hF false x_1 vx_1 hx_1 fuel r25 hr25)) ?_;rintro _ _ ⟨v25_0_1,F7,le4_7,hf25_0_1,rfl,rfl⟩;have le1_7:=le1_4.trans le4_7;haveI:=hf25_0_1.oneC;refine ga ?_;refine ik ?_;obtain rfl:=Option.some.inj hk;exact jX 0 rfl rfl rfl rfl (fun w' hw=>⟨v25_0_1,F7.toFrz,hf25_0_1,rfl,dP hw (i:=1) rfl hS0 le1_7⟩)
def zd6 (fuel:Nat)(n:Int):Option GInt:=
 dO (fun (out_1:List Int)=>
 (zch fuel (decide (n<0)) out_1).bind fun r25=>
 some r25)
 (fun k2=>
 eV (fun (next5:(List Int×Int)→Option GInt) (s5:List Int×Int)=>
 (bif decide (¬s5.2=0) then
 dB (0≤s5.2∧1≤(256:Int)) <|
 dO (fun (d_8:Int)=>
 dB (dK (s5.1++[(IntKind.u8.wrap d_8)]).length 1) <|
 dB (0≤s5.2∧s5.2≤9223372036854775807∧1≤(256:Int)) <|
 next5 ((s5.1++[(IntKind.u8.wrap d_8)]),(s5.2 / 256)))
 (fun k9=>
 (bif decide ((s5.2 % 256)<0) then
 k9 (wI (0 - (s5.2 % 256)))
 else
 k9 (s5.2 % 256)))
 else
 k2 s5.1)) fuel ([],n))
theorem zgo (F0:Frz)(w:World)(hF0:F0.At w)(n:Int)(fuel:Nat)(r:GInt)(hr:zd6 fuel n=some r):Calls Tryz.prog 117 #[.int .i64 n] w fun e w'=>∃(y:Value) (G:Frz),(SlC G y 1 (r.Digits.map (eK .u8)))∧e= .returned (.agg [.bool r.Neg,y].toArray)∧Fx F0 w G w':=by
 have hk:=hr;unfold zd6 at hk;obtain ⟨S0,F1,rfl,hS0,hp0⟩:=eH hF0;refine dT Tryz.func117 rfl rfl rfl hp0 ?_;refine ee ?_;refine fJ ?_;rintro _ _ ⟨g2,rfl,rfl⟩;refine eP ?_;refine dH ?_;refine kU ?_;refine mA ?_;have hq:=ek hk;clear hk;obtain ⟨k2,hk2,hk⟩:=hq; (try dsimp only at hk);refine dk (ι:=List Int×Value) (fun z=>[(0, .int .i64 n),(2, .pointer (some ⟨g2,0,none⟩)),(3,z.2)]) (fun z=>[.sl z.2 5 1 z.1.length (z.1.flatMap (eK .u8)), .row g2 26 [.bool false,(.slice none 0 0)], .fr F1]) (fun z=>k2 z.1=some r∧OneC z.2) ?_ ?_
 ·have hq:=j7 hk;clear hk;obtain ⟨f5,hf5,hk⟩:=hq;refine ff ?_;refine T.loop (ι:=Nat×List Int×Value×Int) (fun z=>[(0, .int .i64 n),(2, .pointer (some ⟨g2,0,none⟩)),(3,z.2.2.1),(4, .int .i64 z.2.2.2)]) (fun z=>[.sl z.2.2.1 5 1 z.2.1.length (z.2.1.flatMap (eK .u8)), .row g2 26 [.bool false,(.slice none 0 0)], .fr F1]) (fun z=>eV f5 z.1 (z.2.1,z.2.2.2)=some r∧OneC z.2.2.1) (fun z=>z.1) (fuel,[],(.slice none 0 0),n) ?_ ?_ ?_ ?_
  ·exact q4G
  ·exact jB
  ·exact fa
  ·rintro ⟨m_6,out_3,vout_3,m_4⟩ ⟨hk,oout_3⟩; (try dsimp only at *);have hq:=jZ hk;clear hk;obtain ⟨m_6',rfl,hk⟩:=hq;generalize hn5:eV f5 m_6'=next5 at hk;rw [←hf5] at hk; (try dsimp only at hk);refine j3 ?_;refine T.cond rfl (fun h7=>?_) (fun h7=>?_)
   ·have p7:=of_decide_eq_true h7;replace hk:=dt hk h7;refine q2K ?_;have hq:(0≤m_4∧1≤(256:Int))∧_:=dJ hk;clear hk;obtain ⟨g12,hk⟩:=hq; (try dsimp only at hk);refine eF ?_;refine cY (iR (a:=m_4) (b:=(256:Int)) rfl rfl rfl g12) ?_;refine kH ?_;have hq:=ek hk;clear hk;obtain ⟨k9,hk9,hk⟩:=hq; (try dsimp only at hk);refine dk (ι:=Int) (fun z=>[(0, .int .i64 n),(2, .pointer (some ⟨g2,0,none⟩)),(3,vout_3),(4, .int .i64 m_4),(5, .int .i64 z)]) (fun z=>[.sl vout_3 5 1 out_3.length (out_3.flatMap (eK .u8)), .row g2 26 [.bool false,(.slice none 0 0)], .fr F1]) (fun z=>k9 z=some r) ?_ ?_
    ·refine T.cond rfl (fun h10=>?_) (fun h10=>?_)
     ·have p10:=of_decide_eq_true h10;replace hk:=dt hk h10;refine eF ?_;refine q4p ?_;refine gU ?_;exact dg (wI (0 - (m_4 % 256))) hk (.c (.c (.c (.c (.c .nil))))) (List.Sublist.refl _)
     ·have p10:=of_decide_eq_false h10;replace hk:=dw hk h10;refine T.skip ?_;exact dg (m_4 % 256) hk (.c (.c (.c (.c (.c .nil))))) (List.Sublist.refl _)
    ·rintro d_8 hk;rw [←hk9] at hk; (try dsimp only at hk);have hq:(dK (out_3++[(IntKind.u8.wrap d_8)]).length 1)∧_:=dJ hk;clear hk;obtain ⟨g21,hk⟩:=hq; (try dsimp only at hk);refine eZ ?_;refine cY (dY (z:=d_8)) ?_;refine iA ?_;rintro _ _ ⟨g20,rfl,rfl⟩;refine de (gP 1 0 rfl rfl rfl rfl rfl rfl (l7 (ys:=[(IntKind.u8.wrap d_8)])) (zdl (enc:=(eK .u8)) (xs:=out_3) (ys:=[(IntKind.u8.wrap d_8)])) g21 a7) ?_;rintro v21 _ ⟨hv21,rfl⟩;refine dH ?_;refine TL.nil (fL (K.seq ?_));have hq:(0≤m_4∧m_4≤9223372036854775807∧1≤(256:Int))∧_:=dJ hk;clear hk;obtain ⟨g10,hk⟩:=hq; (try dsimp only at hk);refine eF ?_;refine cY (gu (a:=m_4) (b:=(256:Int)) rfl rfl rfl g10) ?_;refine gU ?_;rw [←hn5] at hk;refine K.pick [1,2,3] rfl a7 ?_;exact K.next (m_6',(out_3++[(IntKind.u8.wrap d_8)]),v21,(m_4 / 256)) ⟨hk,inferInstance⟩ a9 (.c (.c (.c (.c .nil)))) (List.Sublist.refl _)
   ·have p7:=of_decide_eq_false h7;replace hk:=dw hk h7;refine fi ?_;exact dg (out_3,vout_3) ⟨hk,inferInstance⟩ (.c (.c (.c .nil))) (List.Sublist.refl _)
 ·rintro ⟨out_1,vout_1⟩ ⟨hk,oout_1⟩; (try dsimp only at *);rw [←hk2] at hk; (try dsimp only at hk);refine T.seq ?_;refine j9 (fun w hw=>hw.freezeS (i:=2) (j:=0) a7 rfl rfl) ?_;rintro F2 ⟨le1_2,hz2⟩;refine fQ ?_;have hfF2:=hz2.toF rfl (fun _=>rfl);haveI:=hfF2.oneC;have hq:=dC hk;clear hk;obtain ⟨r25,hr25,hk⟩:=hq; (try dsimp only at hk);refine gR ?_;refine de (dr 1 rfl rfl rfl rfl (fun w hw hF=>zem _ w hF (decide (n<0)) out_1 vout_1 hfF2 fuel r25 hr25)) ?_;rintro _ _ ⟨v25_0_1,F3,le2_3,hf25_0_1,rfl,rfl⟩;have le1_3:=le1_2.trans le2_3;haveI:=hf25_0_1.oneC;refine ga ?_;refine ik ?_;obtain rfl:=Option.some.inj hk;exact jX 0 rfl rfl rfl rfl (fun w' hw=>⟨v25_0_1,F3.toFrz,hf25_0_1,rfl,dP hw (i:=1) rfl hS0 le1_3⟩)
def ml (a:GInt)(b:GInt):Bool:=
 ((a.Neg == b.Neg)&&((i0 a.Digits) == (i0 b.Digits)))
theorem zfG (F0:Frz)(w:World)(hF0:F0.At w)(a:GInt)(va_1:Value)(ha_1:SlC F0 va_1 1 (a.Digits.map (eK .u8)))(b:GInt)(vb_1:Value)(hb_1:SlC F0 vb_1 1 (b.Digits.map (eK .u8))):Calls Tryz.prog 129 #[.agg [.bool a.Neg,va_1].toArray, .agg [.bool b.Neg,vb_1].toArray] w fun e w'=>e= .returned (.bool (ml a b))∧Below w.heap.size w w':=by
 obtain ⟨r,hk⟩:∃r,ml a b=r:=⟨_,rfl⟩;rw [hk];unfold ml at hk;haveI:=ha_1.oneC;haveI:=hb_1.oneC;obtain ⟨S0,F1,rfl,hS0,hp0⟩:=eH hF0;refine dT Tryz.func129 rfl rfl rfl hp0 ?_;refine gY ?_;rintro _ _ ⟨g2,rfl,rfl⟩;refine lk ?_;rintro _ _ ⟨g3,rfl,rfl⟩;refine gj ?_;refine dk (ι:=Unit) (fun z=>[(4, .bool ((a.Neg == b.Neg)&&((i0 a.Digits) == (i0 b.Digits))))]) (fun z=>[.row g3 26 [.bool b.Neg,vb_1], .row g2 26 [.bool a.Neg,va_1], .fr F1]) (fun z=>True) ?_ ?_
 ·refine fu ?_;refine kV ?_;refine gh ?_;refine cY (Yv.cP a8 rfl rfl rfl) ?_;refine dH ?_;refine dp rfl rfl rfl (fun h1=>?_) (fun h1=>?_)
  ·refine kV ?_;refine cY (ks 2 (e:=5) a8 a8 a8 rfl rfl rfl ha_1) ?_;refine gh ?_;refine cY (ks 2 (e:=5) a8 a8 a8 rfl rfl rfl hb_1) ?_;refine cY (mJ (a:=(i0 a.Digits)) (b:=(i0 b.Digits)) rfl rfl rfl) ?_;refine jh ?_;exact q4M
  ·refine q32 ?_;exact q4N
 ·refine mv ?_;subst hk;exact eB
def zdL (fuel:Nat)(a:GRatio):Option Bool:=
 (zcx a.Num).bind fun r5=>
 dO (fun (x_1:Bool)=>
 some x_1)
 (fun k2=>
 (bif r5 then
 (zcx a.Den).bind fun r9=>
 (bif r9 then
 (bif !a.Den.Neg then
 (zc6 fuel a.Num a.Den).bind fun r22=>
 (zd6 fuel 1).bind fun r23=>
 (bif (ml r22 r23) then
 k2 (decide (0<(a.Den.Digits.length:Int)))
 else
 k2 false)
 else
 k2 false)
 else
 k2 false)
 else
 k2 false))
theorem zhM (F0:Frz)(w:World)(hF0:F0.At w)(a:GRatio)(va_1:Value)(ha_1:SlC F0 va_1 1 (a.Num.Digits.map (eK .u8)))(va_3:Value)(ha_3:SlC F0 va_3 1 (a.Den.Digits.map (eK .u8)))(fuel:Nat)(r:Bool)(hr:zdL fuel a=some r):Calls Tryz.prog 49 #[.agg [.bool a.Num.Neg,va_1, .bool a.Den.Neg,va_3].toArray] w fun e w'=>e= .returned (.bool r)∧Below w.heap.size w w':=by
 have hk:=hr;unfold zdL at hk;haveI:=ha_1.oneC;haveI:=ha_3.oneC;obtain ⟨S0,F1,rfl,hS0,hp0⟩:=eH hF0;refine dT Tryz.func49 rfl rfl rfl hp0 ?_;refine gY ?_;rintro _ _ ⟨g1,rfl,rfl⟩;refine gj ?_;have hq:=dC hk;clear hk;obtain ⟨r5,hr5,hk⟩:=hq; (try dsimp only at hk);have hq:=ek hk;clear hk;obtain ⟨k2,hk2,hk⟩:=hq; (try dsimp only at hk);refine dk (ι:=Bool×FzB w (fun _=>False) S0) (fun z=>[(2, .bool z.1)]) (fun z=>[.fr z.2]) (fun z=>k2 z.1=some r∧F1.toFrz.Le z.2.toFrz) ?_ ?_
 ·refine fu ?_;refine q2S ?_;refine de (dj rfl rfl rfl (fun w hw=>zf5 _ w (hw.fr (i:=1) rfl) a.Num va_1 ha_1 r5 hr5)) ?_;refine eA ?_;refine dH ?_;refine dp rfl rfl rfl (fun h3=>?_) (fun h3=>?_)
  ·replace hk:=dt hk h3;refine q2O ?_;have hq:=dC hk;clear hk;obtain ⟨r9,hr9,hk⟩:=hq;refine de (dj rfl rfl rfl (fun w hw=>zf5 _ w (hw.fr (i:=1) rfl) a.Den va_3 ha_3 r9 hr9)) ?_;refine jt ?_;refine dp rfl rfl rfl (fun h4=>?_) (fun h4=>?_)
   ·replace hk:=dt hk h4;refine fK ?_;refine lD ?_;refine dp rfl rfl rfl (fun h5=>?_) (fun h5=>?_)
    ·replace hk:=dt hk h5;refine q2S ?_;refine q2O ?_;have hq:=dC hk;clear hk;obtain ⟨r22,hr22,hk⟩:=hq;refine de (dr 1 rfl rfl rfl rfl (fun w hw hF=>zfP _ w hF a.Num va_1 ha_1 a.Den va_3 ha_3 fuel r22 hr22)) ?_;rintro _ _ ⟨v22_0_1,F3,le1_3,hf22_0_1,rfl,rfl⟩;haveI:=hf22_0_1.oneC;have hq:=dC hk;clear hk;obtain ⟨r23,hr23,hk⟩:=hq;refine de (dr 1 rfl rfl rfl rfl (fun w hw hF=>zgo _ w hF 1 fuel r23 hr23)) ?_;rintro _ _ ⟨v23_0_1,F4,le3_4,hf23_0_1,rfl,rfl⟩;have le1_4:=le1_3.trans le3_4;haveI:=hf23_0_1.oneC;refine de (dj rfl rfl rfl (fun w hw=>zfG _ w (hw.fr (i:=1) rfl) r22 v22_0_1 (SlC.mono hf22_0_1 le3_4) r23 v23_0_1 hf23_0_1)) ?_;refine jt ?_;refine dp rfl rfl rfl (fun h6=>?_) (fun h6=>?_)
     ·replace hk:=dt hk h6;refine fK ?_;refine gh ?_;refine cY (dE rfl rfl (SlC.mono ha_3 le1_4) (List.length_map _)) ?_;have hm30:a.Den.Digits.length≤9223372036854775807:=(List.length_map _)▸(SlC.mono ha_3 le1_4).max;refine iU ?_;refine jd ?_;exact dg (decide (0<(a.Den.Digits.length:Int)),F4) ⟨hk,le1_4⟩ (.c .nil) (List.Sublist.refl _)
     ·replace hk:=dw hk h6;refine q3Y ?_;refine jd ?_;exact dg (false,F4) ⟨hk,le1_4⟩ (.c .nil) (List.Sublist.refl _)
    ·replace hk:=dw hk h5;refine TL.run 16 rfl ?_;refine fM ?_;refine jd ?_;exact q4W
   ·replace hk:=dw hk h4;refine TL.run 22 rfl ?_;refine fM ?_;refine jd ?_;exact q4W
  ·replace hk:=dw hk h3;refine TL.run 27 rfl ?_;refine fM ?_;refine jd ?_;exact q4W
 ·rintro ⟨x_1,F2⟩ ⟨hk,le1_2⟩; (try dsimp only at *);rw [←hk2] at hk; (try dsimp only at hk);refine T.ret ?_;obtain rfl:=Option.some.inj hk;exact eB
def kY (n:GInt):Int:=
 (bif (n.Neg||(decide (2<(n.Digits.length:Int)))) then
 (-1)
 else
 dO (fun (out_3:Int)=>
 out_3)
 (fun k4=>
 dN (fun (i_7:Nat) (next6:Int→Int) (out_5:Int)=>
 next6 (wI ((wI (out_5*256))+(wI (nth n.Digits i_7)))))
 (fun (out_5:Int)=>
 k4 out_5) (n.Digits.length - 0) 0 0))
theorem zf1 (F0:Frz)(w:World)(hF0:F0.At w)(n:GInt)(vn_1:Value)(hn_1:SlC F0 vn_1 1 (n.Digits.map (eK .u8))):Calls Tryz.prog 50 #[.agg [.bool n.Neg,vn_1].toArray] w fun e w'=>e= .returned (.int .i64 (kY n))∧Below w.heap.size w w':=by
 obtain ⟨r,hk⟩:∃r,kY n=r:=⟨_,rfl⟩;rw [hk];unfold kY at hk;haveI:=hn_1.oneC;obtain ⟨S0,F1,rfl,hS0,hp0⟩:=eH hF0;refine dT Tryz.func50 rfl rfl rfl hp0 ?_;refine gY ?_;rintro _ _ ⟨g1,rfl,rfl⟩;refine jr ?_;refine dk (ι:=Unit) (fun z=>[(1, .pointer (some ⟨g1,0,none⟩)),(12, .bool (n.Neg||(decide (2<(n.Digits.length:Int)))))]) (fun z=>[.row g1 26 [.bool n.Neg,vn_1], .fr F1]) (fun z=>True) ?_ ?_
 ·refine fu ?_;refine kg ?_;refine dp rfl rfl rfl (fun h1=>?_) (fun h1=>?_)
  ·refine kw ?_;exact dg () trivial (.c (.b (fO h1).symm .nil)) (List.Sublist.refl _)
  ·refine gh ?_;refine cY (dE rfl rfl hn_1 (List.length_map _)) ?_;have hm10:n.Digits.length≤9223372036854775807:=(List.length_map _)▸hn_1.max;refine jh ?_;exact dg () trivial (.c (.b (gE h1) .nil)) (List.Sublist.refl _)
 ·rintro _ _;have hm10:n.Digits.length≤9223372036854775807:=(List.length_map _)▸hn_1.max;refine T.cond rfl (fun h2=>?_) (fun h2=>?_)
  ·replace hk:=dt hk h2;refine iu ?_;subst hk;exact eB
  ·have p2:=h2; (try simp only [iy] at p2);replace hk:=dw hk h2;refine iz ?_;refine q3i ?_;refine ez ?_;have hq:=ek hk;clear hk;obtain ⟨k4,hk4,hk⟩:=hq; (try dsimp only at hk);refine dk (ι:=Int) (fun z=>[(3, .int .i64 z)]) (fun z=>[.fr F1]) (fun z=>k4 z=r) ?_ ?_
   ·have hq:=fX hk;clear hk;obtain ⟨f6,kk6,hf6,hkk6,hk⟩:=hq;refine ff ?_;refine T.loop (ι:=Nat×Int) (fun z=>[(1, .pointer (some ⟨g1,0,none⟩)),(3, .int .i64 z.2),(4, .int .i64 (z.1:Int))]) (fun z=>[.row g1 26 [.bool n.Neg,vn_1], .fr F1]) (fun z=>dN f6 kk6 (n.Digits.length - z.1) z.1 z.2=r) (fun z=>n.Digits.length - z.1) (0,0) ?_ ?_ ?_ ?_
    ·exact hk
    ·exact ma
    ·exact fa
    ·rintro ⟨i_7,out_5⟩ hk; (try dsimp only at *);refine q4b ?_;refine gh ?_;refine cY (dE rfl rfl hn_1 (List.length_map _)) ?_;refine ez ?_;refine T.cond rfl (fun h8=>?_) (fun h8=>?_)
     ·have p8:=of_decide_eq_true h8;rw [fW a6] at hk;generalize hn6:dN f6 kk6 (n.Digits.length - (i_7+1)) (i_7+1)=next6 at hk;rw [←hf6] at hk; (try dsimp only at hk);refine T.skip (K.seq (T.seq (T.block (T.region ?_))));refine dH ?_;refine cY (dq (v:= .int .i64 (wI (out_5*256)))) ?_;refine kg ?_;refine cY (dA (i:=i_7) rfl rfl rfl hn_1 (List.length_map _) rfl a6) ?_;refine cY (dR 1 (i:=i_7) (j:=0) rfl rfl rfl hn_1 a6) ?_;refine cY (dY (z:=(nth n.Digits i_7))) ?_;refine cY (dq (v:= .int .i64 (wI ((wI (out_5*256))+(wI (nth n.Digits i_7)))))) ?_;refine q16 ?_;refine kC ?_;rw [←hn6] at hk;exact K.next ((i_7+1),wI ((wI (out_5*256))+(wI (nth n.Digits i_7)))) hk a9 (.c (.c (.c .nil))) (List.Sublist.refl _)
     ·have p8:=of_decide_eq_false h8;rw [fY a6,←hkk6] at hk; (try dsimp only at hk);refine fi ?_;refine jd ?_;exact dg out_5 hk (.c .nil) (List.Sublist.refl _)
   ·rintro out_3 hk;rw [←hk4] at hk; (try dsimp only at hk);refine lW ?_;subst hk;exact eB
def zdU (fuel:Nat)(p:GRatio):Option Bool:=
 (zdL fuel p).bind fun r6=>
 (bif !r6 then
 some false
 else
 some ((((decide (0≤(kY p.Num)))&&(decide (1≤(kY p.Den))))&&(decide ((kY p.Den)≤1000)))&&(decide ((kY p.Num)≤(kY p.Den)))))
theorem zhQ (F0:Frz)(w:World)(hF0:F0.At w)(p:GRatio)(vp_1:Value)(hp_1:SlC F0 vp_1 1 (p.Num.Digits.map (eK .u8)))(vp_3:Value)(hp_3:SlC F0 vp_3 1 (p.Den.Digits.map (eK .u8)))(fuel:Nat)(r:Bool)(hr:zdU fuel p=some r):Calls Tryz.prog 15 #[.agg [.bool p.Num.Neg,vp_1, .bool p.Den.Neg,vp_3].toArray] w fun e w'=>e= .returned (.bool r)∧Below w.heap.size w w':=by
 have hk:=hr;unfold zdU at hk;haveI:=hp_1.oneC;haveI:=hp_3.oneC;obtain ⟨S0,F1,rfl,hS0,hp0⟩:=eH hF0;refine dT Tryz.func15 rfl rfl rfl hp0 ?_;refine gY ?_;rintro _ _ ⟨g1,rfl,rfl⟩;refine jr ?_;have hq:=dC hk;clear hk;obtain ⟨r6,hr6,hk⟩:=hq; (try dsimp only at hk);refine fu ?_;refine jM ?_;refine de (dj rfl rfl rfl (fun w hw=>zhM _ w (hw.fr (i:=1) rfl) p vp_1 hp_1 vp_3 hp_3 fuel r6 hr6)) ?_;refine lL ?_;refine T.cond rfl (fun h1=>?_) (fun h1=>?_)
 ·replace hk:=dt hk h1;refine iu ?_;obtain rfl:=Option.some.inj hk;exact eB
 ·replace hk:=dw hk h1;refine fV ?_;refine q35 ?_;refine jD ?_;refine dc rfl (eW 0 (m:=[.bool p.Num.Neg,vp_1])) ?_;refine q3m ?_;refine dl rfl (c9) rfl rfl (dj rfl rfl rfl (fun w hw=>zf1 _ w (hw.fr (i:=1) rfl) p.Num vp_1 hp_1)) ?_;refine jY ?_;refine d7 ?_;refine dl rfl (c9) rfl rfl (dj rfl rfl rfl (fun w hw=>zf1 _ w (hw.fr (i:=1) rfl) p.Den vp_3 hp_3)) ?_;refine jY ?_;refine kq ?_;refine lh ?_;refine dk (ι:=Unit) (fun z=>[(2, .bool ((((decide (0≤(kY p.Num)))&&(decide (1≤(kY p.Den))))&&(decide ((kY p.Den)≤1000)))&&(decide ((kY p.Num)≤(kY p.Den)))))]) (fun z=>[.row g1 28 [.bool p.Num.Neg,vp_1, .bool p.Den.Neg,vp_3], .fr F1]) (fun z=>True) ?_ ?_
  ·refine gR ?_;refine dp rfl rfl rfl (fun h2=>?_) (fun h2=>?_)
   ·have p2:=of_decide_eq_true h2;refine iv ?_;refine dp rfl rfl rfl (fun h3=>?_) (fun h3=>?_)
    ·have p3:=of_decide_eq_true h3;refine iv ?_;refine dp rfl rfl rfl (fun h4=>?_) (fun h4=>?_)
     ·have p4:=of_decide_eq_true h4;refine kw ?_;exact dg () trivial (.b (iX (me (me h2 h3) h4)) .nil) (List.Sublist.refl _)
     ·have p4:=of_decide_eq_false h4;refine kw ?_;exact dg () trivial (.b (gQ (me (me h2 h3) h4)).symm .nil) (List.Sublist.refl _)
    ·have p3:=of_decide_eq_false h3;refine q32 ?_;exact dg () trivial (.b (gQ (gQ (me h2 h3))).symm .nil) (List.Sublist.refl _)
   ·have p2:=of_decide_eq_false h2;refine TL.run 13 rfl ?_;refine fM ?_;exact dg () trivial (.b (gQ (gQ (gQ h2))).symm .nil) (List.Sublist.refl _)
  ·refine mv ?_;obtain rfl:=Option.some.inj hk;exact eB
def zff (l:List GProduct):Bool:=
 dO (fun (_:Unit)=>
 true)
 (fun k1=>
 dN (fun (i_3:Nat) (next2:Unit→Bool) (_:Unit)=>
 (bif ((((((((((decide ((nth l i_3).Area<0))||(decide (63<(nth l i_3).Area)))||(decide ((nth l i_3).Category<1)))||(decide (2<(nth l i_3).Category)))||(decide ((nth l i_3).Supply<1)))||(decide (12<(nth l i_3).Supply)))||(decide ((nth l i_3).Units<1)))||(decide (100000<(nth l i_3).Units)))||(decide ((nth l i_3).Reserve<0)))||(decide (549755813888<(nth l i_3).Reserve))) then
 false
 else
 (bif decide (0<(i_3:Int)) then
 (bif ((decide ((nth l i_3).Area<(nth l (((i_3:Int) - 1).toNat)).Area))||((decide ((nth l i_3).Area=(nth l (((i_3:Int) - 1).toNat)).Area))&&((decide ((nth l i_3).Category≤(nth l (((i_3:Int) - 1).toNat)).Category))||(decide (12<wI (((nth l i_3).Supply)+((nth l (((i_3:Int) - 1).toNat)).Supply))))))) then
 false
 else
 next2 ())
 else
 next2 ())))
 (fun (_:Unit)=>
 k1 ()) (l.length - 0) 0 ())
def zhL (l:List GProduct)(blocks:List Int):Bool:=
 (bif ((!(zff l))||(decide (¬(blocks.length:Int)=(l.length:Int)))) then
 false
 else
 dO (fun (_:Unit)=>
 true)
 (fun k3=>
 dN (fun (i_5:Nat) (next4:Unit→Bool) (_:Unit)=>
 (bif ((decide ((nth blocks i_5)<0))||(decide ((nth l i_5).Supply<(nth blocks i_5)))) then
 false
 else
 next4 ()))
 (fun (_:Unit)=>
 k3 ()) (l.length - 0) 0 ()))
def zgM (l:List GProduct):Option (List Int):=
 dO (fun (out_1:List Int)=>
 some out_1)
 (fun k2=>
 dN (fun (i_5:Nat) (next4:List Int→Option (List Int)) (out_3:List Int)=>
 dB (dK (out_3++[(nth l i_5).Units]).length 8) <|
 next4 (out_3++[(nth l i_5).Units]))
 (fun (out_3:List Int)=>
 k2 out_3) (l.length - 0) 0 [])
def zir (fuel:Nat)(a:List Int)(b:List Int):Option Int:=
 dO (fun (n_1:Int)=>
 some n_1)
 (fun k2=>
 eV (fun (next5:(Int×Int)→Option Int) (s5:Int×Int)=>
 (bif ((decide (s5.2<(a.length:Int)))&&(decide (s5.2<(b.length:Int)))) then
 dB (0≤s5.2∧s5.2<(a.length:Int)) <|
 next5 (wI (s5.1+(wI ((nth a s5.2.toNat) * (nth b s5.2.toNat)))),(s5.2+1))
 else
 k2 s5.1)) fuel (0,0))
def zhX (fuel:Nat)(l:List GProduct)(blocks:List Int):Option (Int×Int):=
 (bif !(zhL l blocks) then
 some (0,2)
 else
 (zgM l).bind fun r11=>
 (zir fuel r11 blocks).bind fun r13=>
 some (r13,0))
def zg7 (fuel:Nat)(l:List GProduct)(bidders:List GBidder):Option Bool:=
 dO (fun (_:Unit)=>
 some (zff l))
 (fun k1=>
 dN (fun (i_3:Nat) (next2:Unit→Option Bool) (_:Unit)=>
 (bif (((((((decide ((nth bidders i_3).ID<0))||(decide (31<(nth bidders i_3).ID)))||(decide ((nth bidders i_3).Eligibility<0)))||(decide (76800000<(nth bidders i_3).Eligibility)))||(decide ((nth bidders i_3).Waivers<0)))||(decide (3<(nth bidders i_3).Waivers)))||((decide (0<(i_3:Int)))&&(decide ((nth bidders i_3).ID≤(nth bidders (((i_3:Int) - 1).toNat)).ID)))) then
 some false
 else
 (zhX fuel l ((nth bidders i_3).Blocks)).bind fun r66=>
 (bif ((decide (¬r66.2=0))||(decide ((nth bidders i_3).Eligibility<r66.1))) then
 some false
 else
 next2 ())))
 (fun (_:Unit)=>
 k1 ()) (bidders.length - 0) 0 ())
def zeq (fuel:Nat)(a:GInt):Option GInt:=
 (zcG a).bind fun r7=>
 (zch fuel (!a.Neg) r7).bind fun r8=>
 some r8
theorem zgF (F0:Frz)(w:World)(hF0:F0.At w)(a:GInt)(va_1:Value)(ha_1:SlC F0 va_1 1 (a.Digits.map (eK .u8)))(fuel:Nat)(r:GInt)(hr:zeq fuel a=some r):Calls Tryz.prog 194 #[.agg [.bool a.Neg,va_1].toArray] w fun e w'=>∃(y:Value) (G:Frz),(SlC G y 1 (r.Digits.map (eK .u8)))∧e= .returned (.agg [.bool r.Neg,y].toArray)∧Fx F0 w G w':=by
 have hk:=hr;unfold zeq at hk;haveI:=ha_1.oneC;obtain ⟨S0,F1,rfl,hS0,hp0⟩:=eH hF0;refine dT Tryz.func194 rfl rfl rfl hp0 ?_;refine gY ?_;rintro _ _ ⟨g1,rfl,rfl⟩;refine fJ ?_;rintro _ _ ⟨g2,rfl,rfl⟩;refine fv ?_;have hq:=dC hk;clear hk;obtain ⟨r7,hr7,hk⟩:=hq;have hq:=dC hk;clear hk;obtain ⟨r8,hr8,hk⟩:=hq; (try dsimp only at hk);refine ef (sN 0 4 (.eff 4 (.eff 5 (.eff 6 .done)))) [.row g1 26 [.bool a.Neg,va_1], .fr F1] a8 Sx ?_;refine ip ?_;refine gB ?_;refine q2m ?_;refine d7 ?_;refine dl rfl (c9) rfl rfl (dr 2 rfl rfl rfl rfl (fun w hw hF=>zd7 _ w hF a va_1 ha_1 r7 hr7)) ?_;rintro _ _ ⟨v7_0_0,F2,le1_2,hf7_0_0,hq,rfl⟩;obtain rfl:=hq.symm;haveI:=hf7_0_0.oneC;refine q29 ?_;refine d7 ?_;refine dl rfl (c9) rfl rfl (dr 2 rfl rfl rfl rfl (fun w hw hF=>zem _ w hF (!a.Neg) r7 v7_0_0 hf7_0_0 fuel r8 hr8)) ?_;rintro _ _ ⟨v8_0_1,F3,le2_3,hf8_0_1,rfl,rfl⟩;have le1_3:=le1_2.trans le2_3;haveI:=hf8_0_1.oneC;refine q2z ?_;refine q1O ?_;refine eA ?_;refine q2z ?_;refine TS.done ?_;refine K.seq (T.ret ?_);obtain rfl:=Option.some.inj hk;exact jX 0 rfl rfl rfl rfl (fun w' hw=>⟨v8_0_1,F3.toFrz,hf8_0_1,rfl,dP hw (i:=2) rfl hS0 le1_3⟩)
def zc9 (fuel:Nat)(a:GInt)(b:GInt):Option (GInt×GInt):=
 (zcG a).bind fun r10=>
 (zcG b).bind fun r12=>
 (zdn fuel r10 r12).bind fun r13=>
 dO (fun (s4:List Int×List Int)=>
 (zch fuel (!(a.Neg == b.Neg)) s4.1).bind fun r39=>
 (zch fuel b.Neg s4.2).bind fun r43=>
 some (r39,r43))
 (fun k4=>
 (bif ((decide (0<(r13.2.length:Int)))&&(!(a.Neg == b.Neg))) then
 (zdb fuel r13.1 [1]).bind fun r28=>
 (zcG b).bind fun r30=>
 (zcX fuel r30 r13.2).bind fun r32=>
 k4 (r28,r32)
 else
 k4 (r13.1,r13.2)))
theorem zfQ (F0:Frz)(w:World)(hF0:F0.At w)(a:GInt)(va_1:Value)(ha_1:SlC F0 va_1 1 (a.Digits.map (eK .u8)))(b:GInt)(vb_1:Value)(hb_1:SlC F0 vb_1 1 (b.Digits.map (eK .u8)))(fuel:Nat)(r:GInt×GInt)(hr:zc9 fuel a b=some r):Calls Tryz.prog 195 #[.agg [.bool a.Neg,va_1].toArray, .agg [.bool b.Neg,vb_1].toArray] w fun e w'=>∃(y:Value×Value) (G:Frz),(SlC G y.1 1 (r.1.Digits.map (eK .u8))∧SlC G y.2 1 (r.2.Digits.map (eK .u8)))∧e= .returned (.tuple #[.agg [.bool r.1.Neg,y.1].toArray, .agg [.bool r.2.Neg,y.2].toArray])∧Fx F0 w G w':=by
 have hk:=hr;unfold zc9 at hk;haveI:=ha_1.oneC;haveI:=hb_1.oneC;obtain ⟨S0,F1,rfl,hS0,hp0⟩:=eH hF0;refine dT Tryz.func195 rfl rfl rfl hp0 ?_;refine gY ?_;rintro _ _ ⟨g2,rfl,rfl⟩;refine lk ?_;rintro _ _ ⟨g3,rfl,rfl⟩;refine fJ ?_;rintro _ _ ⟨g4,rfl,rfl⟩;refine fJ ?_;rintro _ _ ⟨g5,rfl,rfl⟩;refine fv ?_;have hq:=dC hk;clear hk;obtain ⟨r10,hr10,hk⟩:=hq;have hq:=dC hk;clear hk;obtain ⟨r12,hr12,hk⟩:=hq;have hq:=dC hk;clear hk;obtain ⟨r13,hr13,hk⟩:=hq; (try dsimp only at hk);refine ef (.still 0 (.still 2 (.eff 1 (.eff 3 (.eff 4 (sN 5 4 (.still 9 .done))))))) _ a8 (List.Sublist.refl _) ?_;refine dc rfl (gx 3) ?_;refine dc rfl (gx 2) ?_;refine d7 ?_;refine dl rfl (c9) rfl rfl (dr 4 rfl rfl rfl rfl (fun w hw hF=>zd7 _ w hF a va_1 ha_1 r10 hr10)) ?_;rintro _ _ ⟨v10_0_0,F2,le1_2,hf10_0_0,hq,rfl⟩;obtain rfl:=hq.symm;haveI:=hf10_0_0.oneC;refine ⟨(fun w hw=>(hw.frLe (i:=4) rfl le1_2).sub Sx),?_⟩;refine d7 ?_;refine dl rfl (c9) rfl rfl (dr 4 rfl rfl rfl rfl (fun w hw hF=>zd7 _ w hF b vb_1 (SlC.mono hb_1 le1_2) r12 hr12)) ?_;rintro _ _ ⟨v12_0_0,F3,le2_3,hf12_0_0,hq,rfl⟩;obtain rfl:=hq.symm;have le1_3:=le1_2.trans le2_3;haveI:=hf12_0_0.oneC;refine ⟨(fun w hw=>(hw.frLe (i:=4) rfl le1_3).sub Sx),?_⟩;refine d7 ?_;refine dl rfl (c9) rfl rfl (dr 4 rfl rfl rfl rfl (fun w hw hF=>zge _ w hF r10 v10_0_0 (SlC.mono hf10_0_0 le2_3) r12 v12_0_0 hf12_0_0 fuel r13 hr13)) ?_;rintro _ _ ⟨⟨v13_0_0,v13_1_0⟩,F4,le3_4,⟨hf13_0_0,hf13_1_0⟩,rfl,rfl⟩;dsimp only at hf13_0_0 hf13_1_0 ⊢;have le1_4:=le1_3.trans le3_4;haveI:=hf13_0_0.oneC;haveI:=hf13_1_0.oneC;refine ⟨(fun w hw=>(hw.frLe (i:=4) rfl le1_4).sub Sx),?_⟩;refine TS.run 5 rfl ?_;refine TS.done ?_;refine K.seq (T.seq (T.seq ?_));refine dk (ι:=Unit) (fun z=>[(2, .pointer (some ⟨g2,0,none⟩)),(3, .pointer (some ⟨g3,0,none⟩)),(4, .pointer (some ⟨g4,0,none⟩)),(5, .pointer (some ⟨g5,0,none⟩)),(6,v13_0_0),(7,v13_1_0),(25, .bool ((decide (0<(r13.2.length:Int)))&&(!(a.Neg == b.Neg))))]) (fun z=>[.row g5 26 [.bool false,(.slice none 0 0)], .row g4 26 [.bool false,(.slice none 0 0)], .row g3 26 [.bool b.Neg,vb_1], .row g2 26 [.bool a.Neg,va_1], .fr F4]) (fun z=>True) ?_ ?_
 ·refine eF ?_;refine cY (dE rfl rfl hf13_1_0 (List.length_map _)) ?_;have hm17:r13.2.length≤9223372036854775807:=(List.length_map _)▸hf13_1_0.max;refine ep ?_;refine dp rfl rfl rfl (fun h1=>?_) (fun h1=>?_)
  ·have p1:=of_decide_eq_true h1;refine q3C ?_;refine gU ?_;exact dg () trivial (.c (.c (.c (.c (.c (.c (.b (iX h1) .nil))))))) (List.Sublist.refl _)
  ·have p1:=of_decide_eq_false h1;refine TL.run 6 rfl ?_;refine fM ?_;exact dg () trivial (.c (.c (.c (.c (.c (.c (.b (gQ h1).symm .nil))))))) (List.Sublist.refl _)
 ·rintro _ _;have hm17:r13.2.length≤9223372036854775807:=(List.length_map _)▸hf13_1_0.max;have hq:=ek hk;clear hk;obtain ⟨k4,hk4,hk⟩:=hq; (try dsimp only at hk);refine dk (ι:=List Int×Value×List Int×Value×FzB w (fun _=>False) S0) (fun z=>[(2, .pointer (some ⟨g2,0,none⟩)),(3, .pointer (some ⟨g3,0,none⟩)),(4, .pointer (some ⟨g4,0,none⟩)),(5, .pointer (some ⟨g5,0,none⟩)),(6,z.2.1),(7,z.2.2.2.1)]) (fun z=>[.row g5 26 [.bool false,(.slice none 0 0)], .row g4 26 [.bool false,(.slice none 0 0)], .row g3 26 [.bool b.Neg,vb_1], .row g2 26 [.bool a.Neg,va_1], .fr z.2.2.2.2]) (fun z=>k4 (z.1,z.2.2.1)=some r∧SlC z.2.2.2.2.toFrz z.2.1 1 (z.1.map (eK .u8))∧SlC z.2.2.2.2.toFrz z.2.2.2.1 1 (z.2.2.1.map (eK .u8))∧F4.toFrz.Le z.2.2.2.2.toFrz) ?_ ?_
  ·refine T.cond rfl (fun h5=>?_) (fun h5=>?_)
   ·have p5:=h5; (try simp only [iy] at p5);replace hk:=dt hk h5;have hq:=dC hk;clear hk;obtain ⟨r28,hr28,hk⟩:=hq;have hq:=dC hk;clear hk;obtain ⟨r30,hr30,hk⟩:=hq;have hq:=dC hk;clear hk;obtain ⟨r32,hr32,hk⟩:=hq; (try dsimp only at hk);refine ef (.still 0 (.still 3 (.still 5 (.eff 1 (.eff 2 (.eff 4 (.eff 6 (.still 7 (.still 8 .done))))))))) _ a8 (List.Sublist.refl _) ?_;refine gB ?_;refine dc rfl (gx 2) ?_;refine q4k ?_;refine q1i ?_;rintro _ _ ⟨g27,rfl,rfl⟩;refine it ?_;refine jo (fun w hw=>hw.freezeR (i:=5) (j:=0) a7 rfl rfl) ?_;rintro F6 ⟨le4_6,hz6⟩;refine fQ ?_;have le1_6:=le1_4.trans le4_6;have hfF6:SlC F6.toFrz (.slice (some ⟨g27,0,none⟩) 1 1) 1 ([1].map (eK .u8)):=(SlK.lit hz6 rfl (Nat.le_refl _) a7).toF (xs:=[1]) rfl (fun _=>rfl);refine d7 ?_;refine dl rfl (c9) rfl rfl (dr 4 rfl rfl rfl rfl (fun w hw hF=>zfx _ w hF r13.1 v13_0_0 (SlC.mono hf13_0_0 le4_6) [1] (.slice (some ⟨g27,0,none⟩) 1 1) hfF6 fuel r28 hr28)) ?_;rintro _ _ ⟨v28_0_0,F7,le6_7,hf28_0_0,hq,rfl⟩;obtain rfl:=hq.symm;have le1_7:=le1_6.trans le6_7;have le4_7:=le4_6.trans le6_7;haveI:=hf28_0_0.oneC;refine ⟨(fun w hw=>(hw.frLe (i:=4) rfl le4_7).sub Sx),?_⟩;refine d7 ?_;refine dl rfl (c9) rfl rfl (dr 4 rfl rfl rfl rfl (fun w hw hF=>zd7 _ w hF b vb_1 (SlC.mono hb_1 le1_7) r30 hr30)) ?_;rintro _ _ ⟨v30_0_0,F8,le7_8,hf30_0_0,hq,rfl⟩;obtain rfl:=hq.symm;have le4_8:=le4_7.trans le7_8;haveI:=hf30_0_0.oneC;refine ⟨(fun w hw=>(hw.frLe (i:=4) rfl le4_8).sub Sx),?_⟩;refine d7 ?_;refine dl rfl (c9) rfl rfl (dr 4 rfl rfl rfl rfl (fun w hw hF=>zga _ w hF r30 v30_0_0 hf30_0_0 r13.2 v13_1_0 (SlC.mono hf13_1_0 le4_8) fuel r32 hr32)) ?_;rintro _ _ ⟨v32_0_0,F9,le8_9,hf32_0_0,hq,rfl⟩;obtain rfl:=hq.symm;have le4_9:=le4_8.trans le8_9;have le7_9:=le7_8.trans le8_9;haveI:=hf32_0_0.oneC;refine ⟨(fun w hw=>(hw.frLe (i:=4) rfl le4_9).sub Sx),?_⟩;refine kq ?_;exact dg (r28,v28_0_0,r32,v32_0_0,F9) ⟨hk,(SlC.mono hf28_0_0 le7_9),hf32_0_0,le4_9⟩ (.c (.c (.c (.c (.c (.c .nil)))))) (List.Sublist.refl _)
   ·replace hk:=dw hk h5;refine T.skip ?_;exact dg (r13.1,v13_0_0,r13.2,v13_1_0,F4) ⟨hk,hf13_0_0,hf13_1_0,(Frz.Le.refl _)⟩ (.c (.c (.c (.c (.c (.c .nil)))))) (List.Sublist.refl _)
  ·rintro ⟨q_2,vq_2,r_3,vr_3,F5⟩ ⟨hk,hq_2,hr_3,le4_5⟩; (try dsimp only at *);rw [←hk4] at hk; (try dsimp only at hk);have le1_5:=le1_4.trans le4_5;haveI:=hq_2.oneC;haveI:=hr_3.oneC;refine T.seq ?_;have hq:=dC hk;clear hk;obtain ⟨r39,hr39,hk⟩:=hq;have hq:=dC hk;clear hk;obtain ⟨r43,hr43,hk⟩:=hq; (try dsimp only at hk);refine ef (sN 0 6 (sN 7 3 (.eff 6 (.eff 10 (.eff 11 (.eff 12 .done)))))) [.row g3 26 [.bool b.Neg,vb_1], .row g2 26 [.bool a.Neg,va_1], .fr F5] a8 Sx ?_;refine kG ?_;refine ip ?_;refine dc rfl (mp a8 rfl rfl rfl) ?_;refine gB ?_;refine ip ?_;refine q4k ?_;refine dl rfl (c9) rfl rfl (dr 4 rfl rfl rfl rfl (fun w hw hF=>zem _ w hF (!(a.Neg == b.Neg)) q_2 vq_2 hq_2 fuel r39 hr39)) ?_;rintro _ _ ⟨v39_0_1,F10,le5_10,hf39_0_1,rfl,rfl⟩;have le1_10:=le1_5.trans le5_10;haveI:=hf39_0_1.oneC;refine ⟨(fun w hw=>(hw.frLe (i:=4) rfl le5_10).sub Sx),?_⟩;refine d7 ?_;refine dl rfl (c9) rfl rfl (dr 4 rfl rfl rfl rfl (fun w hw hF=>zem _ w hF b.Neg r_3 vr_3 (SlC.mono hr_3 le5_10) fuel r43 hr43)) ?_;rintro _ _ ⟨v43_0_1,F11,le10_11,hf43_0_1,rfl,rfl⟩;have le1_11:=le1_10.trans le10_11;have le5_11:=le5_10.trans le10_11;haveI:=hf43_0_1.oneC;refine ⟨(fun w hw=>(hw.frLe (i:=4) rfl le5_11).sub Sx),?_⟩;refine q2u ?_;refine ⟨(fun w hw=>(hw.frLe (i:=4) rfl le5_11).sub Sx),?_⟩;refine q1O ?_;refine eA ?_;refine ⟨(fun w hw=>(hw.frLe (i:=4) rfl le5_11).sub Sx),?_⟩;refine TS.done ?_;refine K.seq (T.ret ?_);obtain rfl:=Option.some.inj hk;exact K.cK 1 0 rfl rfl rfl rfl rfl rfl rfl (fun w' hw=>⟨(v39_0_1,v43_0_1),F11.toFrz,⟨(SlC.mono hf39_0_1 le10_11),hf43_0_1⟩,rfl,dP hw (i:=4) rfl hS0 le1_11⟩)
def zeg (fuel:Nat)(n:GInt)(d:GInt):Option GRatio:=
 (zc6 fuel n d).bind fun r12=>
 dO (fun (s3:Bool×List Int)=>
 (zc9 fuel n (GInt.mk s3.1 s3.2)).bind fun r20=>
 (zc9 fuel d (GInt.mk s3.1 s3.2)).bind fun r26=>
 some (GRatio.mk (GInt.mk r20.1.Neg r20.1.Digits) (GInt.mk r26.1.Neg r26.1.Digits)))
 (fun k3=>
 (bif d.Neg then
 (zeq fuel r12).bind fun r16=>
 k3 (r16.Neg,r16.Digits)
 else
 k3 (r12.Neg,r12.Digits)))
theorem zhh (F0:Frz)(w:World)(hF0:F0.At w)(n:GInt)(vn_1:Value)(hn_1:SlC F0 vn_1 1 (n.Digits.map (eK .u8)))(d:GInt)(vd_1:Value)(hd_1:SlC F0 vd_1 1 (d.Digits.map (eK .u8)))(fuel:Nat)(r:GRatio)(hr:zeg fuel n d=some r):Calls Tryz.prog 116 #[.agg [.bool n.Neg,vn_1].toArray, .agg [.bool d.Neg,vd_1].toArray] w fun e w'=>∃(y:Value×Value) (G:Frz),(SlC G y.1 1 (r.Num.Digits.map (eK .u8))∧SlC G y.2 1 (r.Den.Digits.map (eK .u8)))∧e= .returned (.agg [.bool r.Num.Neg,y.1, .bool r.Den.Neg,y.2].toArray)∧Fx F0 w G w':=by
 have hk:=hr;unfold zeg at hk;haveI:=hn_1.oneC;haveI:=hd_1.oneC;obtain ⟨S0,F1,rfl,hS0,hp0⟩:=eH hF0;refine dT Tryz.func116 rfl rfl rfl hp0 ?_;refine gY ?_;rintro _ _ ⟨g2,rfl,rfl⟩;refine lk ?_;rintro _ _ ⟨g3,rfl,rfl⟩;refine fJ ?_;rintro _ _ ⟨g4,rfl,rfl⟩;refine fv ?_;have hq:=dC hk;clear hk;obtain ⟨r12,hr12,hk⟩:=hq; (try dsimp only at hk);refine fu ?_;refine q2x ?_;refine lf ?_;refine de (dr 3 rfl rfl rfl rfl (fun w hw hF=>zfP _ w hF n vn_1 hn_1 d vd_1 hd_1 fuel r12 hr12)) ?_;rintro _ _ ⟨v12_0_1,F2,le1_2,hf12_0_1,rfl,rfl⟩;haveI:=hf12_0_1.oneC;refine fJ ?_;rintro _ _ ⟨g5,rfl,rfl⟩;refine ga ?_;refine l6 ?_;refine fK ?_;refine lu ?_;refine dX ?_;have hq:=ek hk;clear hk;obtain ⟨k3,hk3,hk⟩:=hq; (try dsimp only at hk);refine dk (ι:=Bool×List Int×Value×FzB w (fun _=>False) S0) (fun z=>[(2, .pointer (some ⟨g2,0,none⟩)),(3, .pointer (some ⟨g3,0,none⟩)),(4, .pointer (some ⟨g4,0,none⟩)),(5, .pointer (some ⟨g5,0,none⟩))]) (fun z=>[.row g5 26 [.bool z.1,z.2.2.1], .row g4 28 [.bool false,(.slice none 0 0), .bool false,(.slice none 0 0)], .row g3 26 [.bool d.Neg,vd_1], .row g2 26 [.bool n.Neg,vn_1], .fr z.2.2.2]) (fun z=>k3 (z.1,z.2.1)=some r∧SlC z.2.2.2.toFrz z.2.2.1 1 (z.2.1.map (eK .u8))∧F2.toFrz.Le z.2.2.2.toFrz) ?_ ?_
 ·refine T.cond rfl (fun h4=>?_) (fun h4=>?_)
  ·replace hk:=dt hk h4;have hq:=dC hk;clear hk;obtain ⟨r16,hr16,hk⟩:=hq; (try dsimp only at hk);refine fu ?_;refine jM ?_;refine de (dr 4 rfl rfl rfl rfl (fun w hw hF=>zgF _ w hF r12 v12_0_1 hf12_0_1 fuel r16 hr16)) ?_;rintro _ _ ⟨v16_0_1,F4,le2_4,hf16_0_1,rfl,rfl⟩;haveI:=hf16_0_1.oneC;refine ga ?_;refine fM ?_;exact dg (r16.Neg,r16.Digits,v16_0_1,F4) ⟨hk,hf16_0_1,le2_4⟩ (.c (.c (.c (.c .nil)))) (List.Sublist.refl _)
  ·replace hk:=dw hk h4;refine T.skip ?_;exact dg (r12.Neg,r12.Digits,v12_0_1,F2) ⟨hk,hf12_0_1,(Frz.Le.refl _)⟩ (.c (.c (.c (.c .nil)))) (List.Sublist.refl _)
 ·rintro ⟨c_1,c_2,vc_2,F3⟩ ⟨hk,hc_2,le2_3⟩; (try dsimp only at *);rw [←hk3] at hk; (try dsimp only at hk);have le1_3:=le1_2.trans le2_3;haveI:=hc_2.oneC;refine T.seq ?_;have hq:=dC hk;clear hk;obtain ⟨r20,hr20,hk⟩:=hq; (try dsimp only at hk);refine fu ?_;refine q3Z ?_;refine jM ?_;refine de (dr 4 rfl rfl rfl rfl (fun w hw hF=>zfQ _ w hF n vn_1 (SlC.mono hn_1 le1_3) (GInt.mk c_1 c_2) vc_2 hc_2 fuel r20 hr20)) ?_;rintro _ _ ⟨⟨v20_0_1,v20_1_1⟩,F5,le3_5,⟨hf20_0_1,hf20_1_1⟩,rfl,rfl⟩;dsimp only at hf20_0_1 hf20_1_1 ⊢;have le1_5:=le1_3.trans le3_5;haveI:=hf20_0_1.oneC;haveI:=hf20_1_1.oneC;refine lP ?_;rintro _ _ ⟨g6,rfl,rfl⟩;refine fJ ?_;rintro _ _ ⟨g7,rfl,rfl⟩;refine kX ?_;refine ga ?_;refine fv ?_;have hq:=dC hk;clear hk;obtain ⟨r26,hr26,hk⟩:=hq; (try dsimp only at hk);refine fu ?_;refine cY (gx 4) ?_;refine q2x ?_;refine de (dr 6 rfl rfl rfl rfl (fun w hw hF=>zfQ _ w hF d vd_1 (SlC.mono hd_1 le1_5) (GInt.mk c_1 c_2) vc_2 (SlC.mono hc_2 le3_5) fuel r26 hr26)) ?_;rintro _ _ ⟨⟨v26_0_1,v26_1_1⟩,F6,le5_6,⟨hf26_0_1,hf26_1_1⟩,rfl,rfl⟩;dsimp only at hf26_0_1 hf26_1_1 ⊢;have le1_6:=le1_5.trans le5_6;haveI:=hf26_0_1.oneC;haveI:=hf26_1_1.oneC;refine lP ?_;rintro _ _ ⟨g8,rfl,rfl⟩;refine fJ ?_;rintro _ _ ⟨g9,rfl,rfl⟩;refine kX ?_;refine ga ?_;refine eP ?_;refine q3Z ?_;refine lf ?_;refine jj ?_;refine q3W ?_;refine ik ?_;obtain rfl:=Option.some.inj hk;exact jX 5 rfl rfl rfl rfl (fun w' hw=>⟨(v20_0_1,v26_0_1),F6.toFrz,⟨(SlC.mono hf20_0_1 le5_6),hf26_0_1⟩,rfl,dP hw (i:=8) rfl hS0 le1_6⟩)
def zd4 (fuel:Nat)(n:Int)(d:Int):Option GRatio:=
 (zd6 fuel n).bind fun r6=>
 (zd6 fuel d).bind fun r8=>
 (zeg fuel r6 r8).bind fun r9=>
 some r9
theorem zhw (F0:Frz)(w:World)(hF0:F0.At w)(n:Int)(d:Int)(fuel:Nat)(r:GRatio)(hr:zd4 fuel n d=some r):Calls Tryz.prog 40 #[.int .i64 n, .int .i64 d] w fun e w'=>∃(y:Value×Value) (G:Frz),(SlC G y.1 1 (r.Num.Digits.map (eK .u8))∧SlC G y.2 1 (r.Den.Digits.map (eK .u8)))∧e= .returned (.agg [.bool r.Num.Neg,y.1, .bool r.Den.Neg,y.2].toArray)∧Fx F0 w G w':=by
 have hk:=hr;unfold zd4 at hk;obtain ⟨S0,F1,rfl,hS0,hp0⟩:=eH hF0;refine dT Tryz.func40 rfl rfl rfl hp0 ?_;refine ee ?_;refine fJ ?_;rintro _ _ ⟨g4,rfl,rfl⟩;refine fv ?_;have hq:=dC hk;clear hk;obtain ⟨r6,hr6,hk⟩:=hq;have hq:=dC hk;clear hk;obtain ⟨r8,hr8,hk⟩:=hq;have hq:=dC hk;clear hk;obtain ⟨r9,hr9,hk⟩:=hq; (try dsimp only at hk);refine eF ?_;refine de (dr 1 rfl rfl rfl rfl (fun w hw hF=>zgo _ w hF n fuel r6 hr6)) ?_;rintro _ _ ⟨v6_0_1,F2,le1_2,hf6_0_1,rfl,rfl⟩;haveI:=hf6_0_1.oneC;refine dH ?_;refine de (dr 1 rfl rfl rfl rfl (fun w hw hF=>zgo _ w hF d fuel r8 hr8)) ?_;rintro _ _ ⟨v8_0_1,F3,le2_3,hf8_0_1,rfl,rfl⟩;have le1_3:=le1_2.trans le2_3;haveI:=hf8_0_1.oneC;refine de (dr 1 rfl rfl rfl rfl (fun w hw hF=>zhh _ w hF r6 v6_0_1 (SlC.mono hf6_0_1 le2_3) r8 v8_0_1 hf8_0_1 fuel r9 hr9)) ?_;rintro _ _ ⟨⟨v9_0_1,v9_0_3⟩,F4,le3_4,⟨hf9_0_1,hf9_0_3⟩,rfl,rfl⟩;dsimp only at hf9_0_1 hf9_0_3 ⊢;have le1_4:=le1_3.trans le3_4;haveI:=hf9_0_1.oneC;haveI:=hf9_0_3.oneC;refine ga ?_;refine ik ?_;obtain rfl:=Option.some.inj hk;exact jX 0 rfl rfl rfl rfl (fun w' hw=>⟨(v9_0_1,v9_0_3),F4.toFrz,⟨hf9_0_1,hf9_0_3⟩,rfl,dP hw (i:=1) rfl hS0 le1_4⟩)
def zcw (a:List Int)(b:List Int):Bool:=
 (bif decide (¬(a.length:Int)=(b.length:Int)) then
 false
 else
 dO (fun (_:Unit)=>
 true)
 (fun k2=>
 dN (fun (i_4:Nat) (next3:Unit→Bool) (_:Unit)=>
 (bif decide (¬(nth a i_4)=(nth b i_4)) then
 false
 else
 next3 ()))
 (fun (_:Unit)=>
 k2 ()) (a.length - 0) 0 ()))
theorem zen (F0:Frz)(w:World)(hF0:F0.At w)(a:List Int)(va:Value)(ha:SlC F0 va 1 (a.map eI))(b:List Int)(vb:Value)(hb:SlC F0 vb 1 (b.map eI)):Calls Tryz.prog 27 #[va,vb] w fun e w'=>e= .returned (.bool (zcw a b))∧Below w.heap.size w w':=by
 obtain ⟨r,hk⟩:∃r,zcw a b=r:=⟨_,rfl⟩;rw [hk];unfold zcw at hk;haveI:=ha.oneC;haveI:=hb.oneC;obtain ⟨S0,F1,rfl,hS0,hp0⟩:=eH hF0;refine dT Tryz.func27 rfl rfl rfl hp0 ?_;refine jy ?_;refine q1Y ?_;have hm7:a.length≤9223372036854775807:=(List.length_map _)▸ha.max;refine dH ?_;refine q17 ?_;have hm9:b.length≤9223372036854775807:=(List.length_map _)▸hb.max;refine ez ?_;refine T.cond rfl (fun h1=>?_) (fun h1=>?_)
 ·have p1:=of_decide_eq_true h1;replace hk:=dt hk h1;refine iu ?_;subst hk;exact eB
 ·have p1:=of_decide_eq_false h1;replace hk:=dw hk h1;refine jQ ?_;refine ez ?_;have hq:=ek hk;clear hk;obtain ⟨k2,hk2,hk⟩:=hq; (try dsimp only at hk);refine dk (ι:=Unit) (fun z=>[]) (fun z=>[.fr F1]) (fun z=>k2 ()=r) ?_ ?_
  ·have hq:=fX hk;clear hk;obtain ⟨f3,kk3,hf3,hkk3,hk⟩:=hq;refine ff ?_;refine T.loop (ι:=Nat) (fun z=>[(0,va),(1,vb),(5, .int .i64 (z:Int))]) (fun z=>[.fr F1]) (fun z=>dN f3 kk3 (a.length - z) z ()=r) (fun z=>a.length - z) 0 ?_ ?_ ?_ ?_
   ·exact hk
   ·exact ma
   ·exact fa
   ·rintro i_4 hk;refine ju ?_;refine ep ?_;refine q1Y ?_;refine ez ?_;refine T.cond rfl (fun h5=>?_) (fun h5=>?_)
    ·have p5:=of_decide_eq_true h5;rw [fW a6] at hk;generalize hn3:dN f3 kk3 (a.length - (i_4+1)) (i_4+1)=next3 at hk;rw [←hf3] at hk; (try dsimp only at hk);refine q2K ?_;refine q1d ?_;refine dc rfl (dA (i:=i_4) rfl rfl rfl ha (List.length_map _) rfl a6) ?_;refine dc rfl (dR 0 (i:=i_4) (j:=0) rfl rfl rfl ha a6) ?_;refine gc ?_;refine dc rfl (dA (i:=i_4) rfl rfl rfl hb (List.length_map _) rfl a6) ?_;refine dc rfl (dR 0 (i:=i_4) (j:=0) rfl rfl rfl hb a6) ?_;refine jp ?_;refine K.seq ?_;refine T.cond rfl (fun h6=>?_) (fun h6=>?_)
     ·have p6:=of_decide_eq_true h6;replace hk:=dt hk h6;refine gA ?_;refine kE ?_;subst hk;exact eB
     ·have p6:=of_decide_eq_false h6;replace hk:=dw hk h6;refine q1j ?_;refine dH ?_;refine kC ?_;rw [←hn3] at hk;exact K.next (i_4+1) hk a6 (.c (.c (.c .nil))) (List.Sublist.refl _)
    ·have p5:=of_decide_eq_false h5;rw [fY a6,←hkk3] at hk; (try dsimp only at hk);refine fi ?_;exact lz
  ·rintro _ hk;rw [←hk2] at hk; (try dsimp only at hk);refine kK ?_;subst hk;exact eB
def zc8 (fuel:Nat)(l:List GBid):Option Bool:=
 dO (fun (_:Unit)=>
 some (decide ((l.length:Int)≤128)))
 (fun k1=>
 dN (fun (i_3:Nat) (next2:Unit→Option Bool) (_:Unit)=>
 dO (fun (x_5:Bool)=>
 (bif x_5 then
 some false
 else
 next2 ()))
 (fun k6=>
 (bif decide ((nth l i_3).Bidder<0) then
 k6 true
 else
 (bif decide (31<(nth l i_3).Bidder) then
 k6 true
 else
 (bif decide ((nth l i_3).Product<0) then
 k6 true
 else
 (bif decide (127<(nth l i_3).Product) then
 k6 true
 else
 (bif decide ((nth l i_3).Change<(-12)) then
 k6 true
 else
 (bif decide (12<(nth l i_3).Change) then
 k6 true
 else
 (bif decide ((nth l i_3).Change=0) then
 k6 true
 else
 (zdU fuel ((nth l i_3).Point)).bind fun r51=>
 (bif !r51 then
 k6 true
 else
 (bif decide (0<(i_3:Int)) then
 k6 (decide ((nth l i_3).Bidder<(nth l (((i_3:Int) - 1).toNat)).Bidder))
 else
 k6 false)))))))))))
 (fun (_:Unit)=>
 k1 ()) (l.length - 0) 0 ())
theorem zhe (F0:Frz)(w:World)(hF0:F0.At w)(l:List GBid)(vl:Value)(cl:List (List Value))(hl:SlD df F0 vl 7 cl l)(fuel:Nat)(r:Bool)(hr:zc8 fuel l=some r):Calls Tryz.prog 100 #[vl] w fun e w'=>e= .returned (.bool r)∧Below w.heap.size w w':=by
 have hk:=hr;unfold zc8 at hk;haveI:=hl.1.oneC;obtain ⟨S0,F1,rfl,hS0,hp0⟩:=eH hF0;refine dT Tryz.func100 rfl rfl rfl hp0 ?_;refine gA ?_;refine l6 ?_;refine ez ?_;have hq:=ek hk;clear hk;obtain ⟨k1,hk1,hk⟩:=hq; (try dsimp only at hk);refine dk (ι:=Unit) (fun z=>[(0,vl)]) (fun z=>[.fr F1]) (fun z=>k1 ()=some r) ?_ ?_
 ·have hq:=fX hk;clear hk;obtain ⟨f2,kk2,hf2,hkk2,hk⟩:=hq;refine ff ?_;refine T.loop (ι:=Nat) (fun z=>[(0,vl),(3, .int .i64 (z:Int))]) (fun z=>[.fr F1]) (fun z=>dN f2 kk2 (l.length - z) z ()=some r) (fun z=>l.length - z) 0 ?_ ?_ ?_ ?_
  ·exact hk
  ·exact (.c (.c .nil))
  ·exact fa
  ·rintro i_3 hk;refine ju ?_;refine ep ?_;refine q21 ?_;have hm7:l.length≤9223372036854775807:=hl.2.1▸hl.1.max;refine ez ?_;refine T.cond rfl (fun h4=>?_) (fun h4=>?_)
   ·have p4:=of_decide_eq_true h4;rw [fW a6] at hk;generalize hn2:dN f2 kk2 (l.length - (i_3+1)) (i_3+1)=next2 at hk;rw [←hf2] at hk; (try dsimp only at hk);refine jc ?_;refine ep ?_;refine cY (dA (i:=i_3) rfl rfl rfl hl.1 hl.2.1 rfl a6) ?_;refine cY (fG 0 (i:=i_3) (j:=0) rfl rfl rfl hl.1 hl.2.1 a6 rfl (eL (hl.2.2 i_3 a6))) ?_;have hd14_4:=(fo (hl.2.2 i_3 a6)).2;haveI:=hd14_4.oneC;have hd14_6:=(fm (hl.2.2 i_3 a6)).2;haveI:=hd14_6.oneC;refine fJ ?_;rintro _ _ ⟨g4,rfl,rfl⟩;refine ga ?_;refine fv ?_; (try dsimp only at hk);have hq:=ek hk;clear hk;obtain ⟨k6,hk6,hk⟩:=hq; (try dsimp only at hk);refine dk (ι:=Bool) (fun z=>[(0,vl),(3, .int .i64 (i_3:Int)),(68, .bool z)]) (fun z=>[.fr F1]) (fun z=>k6 z=some r) ?_ ?_
    ·refine ef (sN 0 36 (.eff 36 (sN 37 16 (.still 53 .done)))) _ a8 (List.Sublist.refl _) ?_;refine ip ?_;refine gc ?_;refine fq rfl rfl rfl rfl (fun h7=>?_) (fun h7=>?_)
     ·have p7:=of_decide_eq_true h7;replace hk:=dt hk h7;refine TS.run 32 rfl ?_;refine q14 ?_;exact l8
     ·have p7:=of_decide_eq_false h7;replace hk:=dw hk h7;refine ip ?_;refine gO ?_;refine fq rfl rfl rfl rfl (fun h8=>?_) (fun h8=>?_)
      ·have p8:=of_decide_eq_true h8;replace hk:=dt hk h8;refine TS.run 27 rfl ?_;refine q14 ?_;exact l8
      ·have p8:=of_decide_eq_false h8;replace hk:=dw hk h8;refine ip ?_;refine gO ?_;refine fq rfl rfl rfl rfl (fun h9=>?_) (fun h9=>?_)
       ·have p9:=of_decide_eq_true h9;replace hk:=dt hk h9;refine TS.run 22 rfl ?_;refine q14 ?_;exact l8
       ·have p9:=of_decide_eq_false h9;replace hk:=dw hk h9;refine ip ?_;refine gO ?_;refine fq rfl rfl rfl rfl (fun h10=>?_) (fun h10=>?_)
        ·have p10:=of_decide_eq_true h10;replace hk:=dt hk h10;refine TS.run 17 rfl ?_;refine q14 ?_;exact l8
        ·have p10:=of_decide_eq_false h10;replace hk:=dw hk h10;refine ip ?_;refine gO ?_;refine fq rfl rfl rfl rfl (fun h11=>?_) (fun h11=>?_)
         ·have p11:=of_decide_eq_true h11;replace hk:=dt hk h11;refine TS.run 12 rfl ?_;refine q14 ?_;exact l8
         ·have p11:=of_decide_eq_false h11;replace hk:=dw hk h11;refine ip ?_;refine gO ?_;refine fq rfl rfl rfl rfl (fun h12=>?_) (fun h12=>?_)
          ·have p12:=of_decide_eq_true h12;replace hk:=dt hk h12;refine TS.run 7 rfl ?_;refine q14 ?_;exact l8
          ·have p12:=of_decide_eq_false h12;replace hk:=dw hk h12;refine ip ?_;refine gO ?_;refine fq rfl rfl rfl rfl (fun h13=>?_) (fun h13=>?_)
           ·have p13:=of_decide_eq_true h13;replace hk:=dt hk h13;refine gc ?_;refine q14 ?_;exact l8
           ·have p13:=of_decide_eq_false h13;replace hk:=dw hk h13;refine jD ?_;refine dc rfl (eW 0 (m:=[.bool ((nth l i_3).Point.Num.Neg),(nth (nth cl i_3) 4), .bool ((nth l i_3).Point.Den.Neg),(nth (nth cl i_3) 6)])) ?_;refine d7 ?_;have hq:=dC hk;clear hk;obtain ⟨r51,hr51,hk⟩:=hq;refine dl rfl (Wt.some) rfl rfl (dj rfl rfl rfl (fun w hw=>zhQ _ w (hw.fr (i:=1) rfl) ((nth l i_3).Point) (nth (nth cl i_3) 4) hd14_4 (nth (nth cl i_3) 6) hd14_6 fuel r51 hr51)) ?_;refine jY ?_;refine gO ?_;refine fq rfl rfl rfl rfl (fun h14=>?_) (fun h14=>?_)
            ·replace hk:=dt hk h14;refine TS.run 14 rfl ?_;refine TS.done ?_;refine jd ?_;exact l8
            ·replace hk:=dw hk h14;refine gO ?_;refine fq rfl rfl rfl rfl (fun h15=>?_) (fun h15=>?_)
             ·have p15:=of_decide_eq_true h15;replace hk:=dt hk h15;refine ip ?_;refine gc ?_;refine q3R ?_;refine dc rfl (dA (i:=((i_3:Int) - 1).toNat) rfl rfl rfl hl.1 hl.2.1 a6 a6) ?_;refine dc rfl (gD rfl rfl hl.1 hl.2.1 a6) ?_;refine dc rfl (gy 1 (i:=((i_3:Int) - 1).toNat) (j:=0) rfl rfl rfl hl.1 hl.2.1 a6 rfl (je (hl.2.2 (((i_3:Int) - 1).toNat) a6))) ?_;refine gO ?_;refine TS.done ?_;refine jd ?_;exact dg (decide ((nth l i_3).Bidder<(nth l (((i_3:Int) - 1).toNat)).Bidder)) hk (.c (.c (.c .nil))) (List.Sublist.refl _)
             ·have p15:=of_decide_eq_false h15;replace hk:=dw hk h15;refine TS.run 11 rfl ?_;refine TS.done ?_;refine jd ?_;exact dg false hk (.c (.c (.c .nil))) (List.Sublist.refl _)
    ·rintro x_5 hk;rw [←hk6] at hk; (try dsimp only at hk);refine T.cond rfl (fun h16=>?_) (fun h16=>?_)
     ·replace hk:=dt hk h16;refine gA ?_;refine kE ?_;obtain rfl:=Option.some.inj hk;exact eB
     ·replace hk:=dw hk h16;refine q1j ?_;refine dH ?_;refine kC ?_;rw [←hn2] at hk;exact K.next (i_3+1) hk a6 (.c (.c .nil)) (List.Sublist.refl _)
   ·have p4:=of_decide_eq_false h4;rw [fY a6,←hkk2] at hk; (try dsimp only at hk);refine fi ?_;exact q4F
 ·rintro _ hk;rw [←hk1] at hk; (try dsimp only at hk);refine gA ?_;refine q21 ?_;have hm70:l.length≤9223372036854775807:=hl.2.1▸hl.1.max;refine kW ?_;obtain rfl:=Option.some.inj hk;exact eB
def zel (a:GRatio)(b:GRatio):Bool:=
 ((ml a.Num b.Num)&&(ml a.Den b.Den))
theorem zh5 (F0:Frz)(w:World)(hF0:F0.At w)(a:GRatio)(va_1:Value)(ha_1:SlC F0 va_1 1 (a.Num.Digits.map (eK .u8)))(va_3:Value)(ha_3:SlC F0 va_3 1 (a.Den.Digits.map (eK .u8)))(b:GRatio)(vb_1:Value)(hb_1:SlC F0 vb_1 1 (b.Num.Digits.map (eK .u8)))(vb_3:Value)(hb_3:SlC F0 vb_3 1 (b.Den.Digits.map (eK .u8))):Calls Tryz.prog 193 #[.agg [.bool a.Num.Neg,va_1, .bool a.Den.Neg,va_3].toArray, .agg [.bool b.Num.Neg,vb_1, .bool b.Den.Neg,vb_3].toArray] w fun e w'=>e= .returned (.bool (zel a b))∧Below w.heap.size w w':=by
 obtain ⟨r,hk⟩:∃r,zel a b=r:=⟨_,rfl⟩;rw [hk];unfold zel at hk;haveI:=ha_1.oneC;haveI:=ha_3.oneC;haveI:=hb_1.oneC;haveI:=hb_3.oneC;obtain ⟨S0,F1,rfl,hS0,hp0⟩:=eH hF0;refine dT Tryz.func193 rfl rfl rfl hp0 ?_;refine gY ?_;rintro _ _ ⟨g2,rfl,rfl⟩;refine lk ?_;rintro _ _ ⟨g3,rfl,rfl⟩;refine gj ?_;refine dk (ι:=Unit) (fun z=>[(4, .bool ((ml a.Num b.Num)&&(ml a.Den b.Den)))]) (fun z=>[.row g3 28 [.bool b.Num.Neg,vb_1, .bool b.Den.Neg,vb_3], .row g2 28 [.bool a.Num.Neg,va_1, .bool a.Den.Neg,va_3], .fr F1]) (fun z=>True) ?_ ?_
 ·refine q4d ?_;refine cY (eW 1 (m:=[.bool a.Num.Neg,va_1])) ?_;refine fK ?_;refine cY (eW 0 (m:=[.bool b.Num.Neg,vb_1])) ?_;refine de (dj rfl rfl rfl (fun w hw=>zfG _ w (hw.fr (i:=2) rfl) a.Num va_1 ha_1 b.Num vb_1 hb_1)) ?_;refine eA ?_;refine dH ?_;refine dp rfl rfl rfl (fun h1=>?_) (fun h1=>?_)
  ·refine fK ?_;refine cY (eW 1 (m:=[.bool a.Den.Neg,va_3])) ?_;refine fK ?_;refine cY (eW 0 (m:=[.bool b.Den.Neg,vb_3])) ?_;refine de (dj rfl rfl rfl (fun w hw=>zfG _ w (hw.fr (i:=2) rfl) a.Den va_3 ha_3 b.Den vb_3 hb_3)) ?_;refine jH ?_;exact q4M
  ·refine q3Y ?_;exact q4N
 ·refine mv ?_;subst hk;exact eB
def zdd (a:GRatio)(b:GRatio):Bool:=
 (zel a b)
theorem zib (F0:Frz)(w:World)(hF0:F0.At w)(a:GRatio)(va_1:Value)(ha_1:SlC F0 va_1 1 (a.Num.Digits.map (eK .u8)))(va_3:Value)(ha_3:SlC F0 va_3 1 (a.Den.Digits.map (eK .u8)))(b:GRatio)(vb_1:Value)(hb_1:SlC F0 vb_1 1 (b.Num.Digits.map (eK .u8)))(vb_3:Value)(hb_3:SlC F0 vb_3 1 (b.Den.Digits.map (eK .u8))):Calls Tryz.prog 109 #[.agg [.bool a.Num.Neg,va_1, .bool a.Den.Neg,va_3].toArray, .agg [.bool b.Num.Neg,vb_1, .bool b.Den.Neg,vb_3].toArray] w fun e w'=>e= .returned (.bool (zdd a b))∧Below w.heap.size w w':=by
 obtain ⟨r,hk⟩:∃r,zdd a b=r:=⟨_,rfl⟩;rw [hk];unfold zdd at hk;haveI:=ha_1.oneC;haveI:=ha_3.oneC;haveI:=hb_1.oneC;haveI:=hb_3.oneC;obtain ⟨S0,F1,rfl,hS0,hp0⟩:=eH hF0;refine dT Tryz.func109 rfl rfl rfl hp0 ?_;refine gY ?_;rintro _ _ ⟨g2,rfl,rfl⟩;refine lk ?_;rintro _ _ ⟨g3,rfl,rfl⟩;refine iw ?_;refine lf ?_;refine jM ?_;refine de (dj rfl rfl rfl (fun w hw=>zh5 _ w (hw.fr (i:=2) rfl) a va_1 ha_1 va_3 ha_3 b vb_1 hb_1 vb_3 hb_3)) ?_;refine eA ?_;refine gW ?_;subst hk;exact eB
def zcd (a:List GBid)(b:List GBid):Bool:=
 (bif decide (¬(a.length:Int)=(b.length:Int)) then
 false
 else
 dO (fun (_:Unit)=>
 true)
 (fun k2=>
 dN (fun (i_4:Nat) (next3:Unit→Bool) (_:Unit)=>
 (bif ((((decide (¬(nth a i_4).Bidder=(nth b i_4).Bidder))||(decide (¬(nth a i_4).Product=(nth b i_4).Product)))||(decide (¬(nth a i_4).Change=(nth b i_4).Change)))||(!(zdd ((nth a i_4).Point) ((nth b i_4).Point)))) then
 false
 else
 next3 ()))
 (fun (_:Unit)=>
 k2 ()) (a.length - 0) 0 ()))
theorem zgC (F0:Frz)(w:World)(hF0:F0.At w)(a:List GBid)(va:Value)(ca:List (List Value))(ha:SlD df F0 va 7 ca a)(b:List GBid)(vb:Value)(cb:List (List Value))(hb:SlD df F0 vb 7 cb b):Calls Tryz.prog 37 #[va,vb] w fun e w'=>e= .returned (.bool (zcd a b))∧Below w.heap.size w w':=by
 obtain ⟨r,hk⟩:∃r,zcd a b=r:=⟨_,rfl⟩;rw [hk];unfold zcd at hk;haveI:=ha.1.oneC;haveI:=hb.1.oneC;obtain ⟨S0,F1,rfl,hS0,hp0⟩:=eH hF0;refine dT Tryz.func37 rfl rfl rfl hp0 ?_;refine jy ?_;refine cY (dE rfl rfl ha.1 ha.2.1) ?_;have hm7:a.length≤9223372036854775807:=ha.2.1▸ha.1.max;refine dH ?_;refine cY (dE rfl rfl hb.1 hb.2.1) ?_;have hm9:b.length≤9223372036854775807:=hb.2.1▸hb.1.max;refine ez ?_;refine T.cond rfl (fun h1=>?_) (fun h1=>?_)
 ·have p1:=of_decide_eq_true h1;replace hk:=dt hk h1;refine iu ?_;subst hk;exact eB
 ·have p1:=of_decide_eq_false h1;replace hk:=dw hk h1;refine jQ ?_;refine ez ?_;have hq:=ek hk;clear hk;obtain ⟨k2,hk2,hk⟩:=hq; (try dsimp only at hk);refine dk (ι:=Unit) (fun z=>[]) (fun z=>[.fr F1]) (fun z=>k2 ()=r) ?_ ?_
  ·have hq:=fX hk;clear hk;obtain ⟨f3,kk3,hf3,hkk3,hk⟩:=hq;refine ff ?_;refine T.loop (ι:=Nat) (fun z=>[(0,va),(1,vb),(5, .int .i64 (z:Int))]) (fun z=>[.fr F1]) (fun z=>dN f3 kk3 (a.length - z) z ()=r) (fun z=>a.length - z) 0 ?_ ?_ ?_ ?_
   ·exact hk
   ·exact ma
   ·exact fa
   ·rintro i_4 hk;refine ju ?_;refine ep ?_;refine cY (dE rfl rfl ha.1 ha.2.1) ?_;refine ez ?_;refine T.cond rfl (fun h5=>?_) (fun h5=>?_)
    ·have p5:=of_decide_eq_true h5;rw [fW a6] at hk;generalize hn3:dN f3 kk3 (a.length - (i_4+1)) (i_4+1)=next3 at hk;rw [←hf3] at hk; (try dsimp only at hk);refine q2K ?_;refine dk (ι:=Unit) (fun z=>[(0,va),(1,vb),(5, .int .i64 (i_4:Int)),(67, .bool ((((decide (¬(nth a i_4).Bidder=(nth b i_4).Bidder))||(decide (¬(nth a i_4).Product=(nth b i_4).Product)))||(decide (¬(nth a i_4).Change=(nth b i_4).Change)))||(!(zdd ((nth a i_4).Point) ((nth b i_4).Point)))))]) (fun z=>[.fr F1]) (fun z=>True) ?_ ?_
     ·refine ef (sN 0 48 (.eff 48 (.still 49 (.still 50 .done)))) _ a8 (List.Sublist.refl _) ?_;refine q1N ?_;refine dc rfl (gy 0 (i:=i_4) (j:=0) rfl rfl rfl ha.1 ha.2.1 a6 rfl (je (ha.2.2 i_4 a6))) ?_;refine q1P ?_;refine dc rfl (gy 0 (i:=i_4) (j:=0) rfl rfl rfl hb.1 hb.2.1 a6 rfl (je (hb.2.2 i_4 a6))) ?_;refine gc ?_;refine fq rfl rfl rfl rfl (fun h6=>?_) (fun h6=>?_)
      ·have p6:=of_decide_eq_true h6;refine TS.run 36 rfl ?_;refine lJ ?_;refine kq ?_;exact dg () trivial (.c (.c (.c (.b (fO (fO (fO h6))).symm .nil)))) (List.Sublist.refl _)
      ·have p6:=of_decide_eq_false h6;refine q1N ?_;refine dc rfl (gy 0 (i:=i_4) (j:=1) rfl rfl rfl ha.1 ha.2.1 a6 rfl (ji (ha.2.2 i_4 a6))) ?_;refine q1P ?_;refine dc rfl (gy 0 (i:=i_4) (j:=1) rfl rfl rfl hb.1 hb.2.1 a6 rfl (ji (hb.2.2 i_4 a6))) ?_;refine gO ?_;refine fq rfl rfl rfl rfl (fun h7=>?_) (fun h7=>?_)
       ·have p7:=of_decide_eq_true h7;refine TS.run 23 rfl ?_;refine lJ ?_;refine kq ?_;exact dg () trivial (.c (.c (.c (.b (fO (fO (gH h6 h7))).symm .nil)))) (List.Sublist.refl _)
       ·have p7:=of_decide_eq_false h7;refine q1N ?_;refine dc rfl (gy 0 (i:=i_4) (j:=2) rfl rfl rfl ha.1 ha.2.1 a6 rfl (ly (ha.2.2 i_4 a6))) ?_;refine q1P ?_;refine dc rfl (gy 0 (i:=i_4) (j:=2) rfl rfl rfl hb.1 hb.2.1 a6 rfl (ly (hb.2.2 i_4 a6))) ?_;refine gO ?_;refine fq rfl rfl rfl rfl (fun h8=>?_) (fun h8=>?_)
        ·have p8:=of_decide_eq_true h8;refine TS.run 10 rfl ?_;refine lJ ?_;refine kq ?_;exact dg () trivial (.c (.c (.c (.b (fO (gH (gH h6 h7) h8)).symm .nil)))) (List.Sublist.refl _)
        ·have p8:=of_decide_eq_false h8;refine q1N ?_;have hd59_4:=(fo (ha.2.2 i_4 a6)).2;haveI:=hd59_4.oneC;have hd59_6:=(fm (ha.2.2 i_4 a6)).2;haveI:=hd59_6.oneC;refine dc rfl (fG 0 (i:=i_4) (j:=3) (l:=[.bool ((nth a i_4).Point.Num.Neg),(nth (nth ca i_4) 4), .bool ((nth a i_4).Point.Den.Neg),(nth (nth ca i_4) 6)]) rfl rfl rfl ha.1 ha.2.1 a6 rfl ((zfs (eL (ha.2.2 i_4 a6)) (j:=3) (q:=4) a7).trans rfl)) ?_;refine q1P ?_;have hd64_4:=(fo (hb.2.2 i_4 a6)).2;haveI:=hd64_4.oneC;have hd64_6:=(fm (hb.2.2 i_4 a6)).2;haveI:=hd64_6.oneC;refine dc rfl (fG 0 (i:=i_4) (j:=3) (l:=[.bool ((nth b i_4).Point.Num.Neg),(nth (nth cb i_4) 4), .bool ((nth b i_4).Point.Den.Neg),(nth (nth cb i_4) 6)]) rfl rfl rfl hb.1 hb.2.1 a6 rfl ((zfs (eL (hb.2.2 i_4 a6)) (j:=3) (q:=4) a7).trans rfl)) ?_;refine d7 ?_;refine dl rfl (Wt.some) rfl rfl (dj rfl rfl rfl (fun w hw=>zib _ w (hw.fr (i:=0) rfl) ((nth a i_4).Point) (nth (nth ca i_4) 4) hd59_4 (nth (nth ca i_4) 6) hd59_6 ((nth b i_4).Point) (nth (nth cb i_4) 4) hd64_4 (nth (nth cb i_4) 6) hd64_6)) ?_;refine jY ?_;refine kq ?_;exact dg () trivial (.c (.c (.c (.b (gE (gH (gH h6 h7) h8)) .nil)))) (List.Sublist.refl _)
     ·rintro _ _;refine T.cond rfl (fun h9=>?_) (fun h9=>?_)
      ·replace hk:=dt hk h9;refine gA ?_;refine kE ?_;subst hk;exact eB
      ·have p9:=h9; (try simp only [iy] at p9);replace hk:=dw hk h9;refine q1j ?_;refine dH ?_;refine kC ?_;rw [←hn3] at hk;exact K.next (i_4+1) hk a6 (.c (.c (.c .nil))) (List.Sublist.refl _)
    ·have p5:=of_decide_eq_false h5;rw [fY a6,←hkk3] at hk; (try dsimp only at hk);refine fi ?_;exact lz
  ·rintro _ hk;rw [←hk2] at hk; (try dsimp only at hk);refine kK ?_;subst hk;exact eB
end Go.Proofs.YtmnjbhkcfghebaaGreatDoor
