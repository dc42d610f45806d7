/- Yr J3: shortened and put together by squeeze.py. -/
import Derived.Test.YtmnjbhkcfghebaaGreatDoorQ11
set_option maxRecDepth 100000
set_option maxHeartbeats 4000000
set_option linter.unusedVariables false
set_option linter.unusedSectionVars false
set_option linter.unusedSimpArgs false
namespace Go.Proofs.YtmnjbhkcfghebaaGreatDoor
open Go.RowKit
structure Gbandplanref36_Auction where
 Products:List GProduct
 Bidders:List GBidder
 Increment:GIncrement
 Key:List Int
 Posted:List Int
 Rounds:Int
deriving DecidableEq,Inhabited
def c5 (F:Frz)(c:List Value)(x:Gbandplanref36_Auction):Prop:=∃(v0:Value) (v1:Value) (cs1:List (List Value)) (v4:Value) (v5:Value),c=[v0,v1, .int .i64 x.Increment.Activity, .int .i64 x.Increment.Step,v4,v5, .int .i64 x.Rounds]∧SlC F v0 5 (x.Products.map cR)∧SlD cO F v1 4 cs1 x.Bidders∧SlC F v4 1 (x.Key.map (eK .u8))∧SlC F v5 1 (x.Posted.map eI)
theorem Gbandplanref36_Auction.mono {F G:Frz}{c:List Value}{x:Gbandplanref36_Auction}(hle:F.Le G)(h:c5 F c x):c5 G c x:=by
 obtain ⟨v0,v1,cs1,v4,v5,h0,h1,h2,h5,h6⟩:=h;exact ⟨v0,v1,cs1,v4,v5,h0,h1.mono hle,SlD.mono (rep:=cO) (fun _ _ _ _=>GBidder.mono) h2 hle,h5.mono hle,h6.mono hle⟩
theorem Gbandplanref36_Auction.len {F:Frz}{c:List Value}{x:Gbandplanref36_Auction}(h:c5 F c x):c.length=7:=by
 obtain ⟨v0,v1,cs1,v4,v5,h0,h1,h2,h5,h6⟩:=h;subst h0;rfl
theorem Gbandplanref36_Auction.one {F:Frz}{c:List Value}{x:Gbandplanref36_Auction}(h:c5 F c x):OneCs c:=by
 obtain ⟨v0,v1,cs1,v4,v5,h0,h1,h2,h5,h6⟩:=h;subst h0;haveI:=h1.oneC;haveI:=h2.1.oneC;haveI:=h5.oneC;haveI:=h6.oneC
 infer_instance
theorem ir {F:Frz}{c:List Value}{x:Gbandplanref36_Auction}(h:c5 F c x):c[0]?=some (nth c 0)∧SlC F (nth c 0) 5 (x.Products.map cR):=by
 obtain ⟨v0,v1,cs1,v4,v5,h0,h1,h2,h5,h6⟩:=h;subst h0;exact ⟨rfl,h1⟩
theorem iw {F:Frz}{c:List Value}{x:Gbandplanref36_Auction}(h:c5 F c x):c[1]?=some (nth c 1)∧∃cs,SlD cO F (nth c 1) 4 cs x.Bidders:=by
 obtain ⟨v0,v1,cs1,v4,v5,h0,h1,h2,h5,h6⟩:=h;subst h0;exact ⟨rfl,cs1,h2⟩
theorem im {F:Frz}{c:List Value}{x:Gbandplanref36_Auction}(h:c5 F c x):c[2]?=some (.int .i64 x.Increment.Activity):=by
 obtain ⟨v0,v1,cs1,v4,v5,h0,h1,h2,h5,h6⟩:=h;subst h0;rfl
theorem iA {F:Frz}{c:List Value}{x:Gbandplanref36_Auction}(h:c5 F c x):c[3]?=some (.int .i64 x.Increment.Step):=by
 obtain ⟨v0,v1,cs1,v4,v5,h0,h1,h2,h5,h6⟩:=h;subst h0;rfl
theorem iz {F:Frz}{c:List Value}{x:Gbandplanref36_Auction}(h:c5 F c x):c[4]?=some (nth c 4)∧SlC F (nth c 4) 1 (x.Key.map (eK .u8)):=by
 obtain ⟨v0,v1,cs1,v4,v5,h0,h1,h2,h5,h6⟩:=h;subst h0;exact ⟨rfl,h5⟩
theorem iy {F:Frz}{c:List Value}{x:Gbandplanref36_Auction}(h:c5 F c x):c[6]?=some (.int .i64 x.Rounds):=by
 obtain ⟨v0,v1,cs1,v4,v5,h0,h1,h2,h5,h6⟩:=h;subst h0;rfl
theorem ia {F:Frz}{c:List Value}{x:Gbandplanref36_Auction}(h:c5 F c x):(c.drop 0).take 7=[nth c 0,nth c 1, .int .i64 x.Increment.Activity, .int .i64 x.Increment.Step,nth c 4,nth c 5, .int .i64 x.Rounds]:=by
 obtain ⟨v0,v1,cs1,v4,v5,h0,h1,h2,h5,h6⟩:=h;subst h0;rfl
def zcj (i:GIncrement):Bool:=
 ((((decide (1≤i.Activity))&&(decide (i.Activity≤100)))&&(decide (1≤i.Step)))&&(decide (i.Step≤50)))
theorem zfx (F0:Frz)(w:World)(hF0:F0.At w)(i:GIncrement):Calls Tryz.prog 13 #[.agg [.int .i64 i.Activity, .int .i64 i.Step].toArray] w fun e w'=>e= .returned (.bool (zcj i))∧Below w.heap.size w w':=by
 obtain ⟨r,hk⟩:∃r,zcj i=r:=⟨_,rfl⟩;rw [hk];unfold zcj at hk;obtain ⟨S0,F1,rfl,hS0,hp0⟩:=d4 hF0;refine dL Tryz.func13 rfl rfl rfl hp0 ?_;refine gi ?_;rintro _ _ ⟨g1,rfl,rfl⟩;refine fK ?_;refine cZ (ι:=Unit) (fun z=>[(2, .bool ((((decide (1≤i.Activity))&&(decide (i.Activity≤100)))&&(decide (1≤i.Step)))&&(decide (i.Step≤50))))]) (fun z=>[.row g1 23 [.int .i64 i.Activity, .int .i64 i.Step], .fr F1]) (fun z=>True) ?_ ?_
 ·refine eP ?_;refine fD ?_;refine d8 ?_;refine c9 rfl rfl rfl (fun h1=>?_) (fun h1=>?_)
  ·have p1:=of_decide_eq_true h1;refine jb ?_;refine c9 rfl rfl rfl (fun h2=>?_) (fun h2=>?_)
   ·have p2:=of_decide_eq_true h2;refine jb ?_;refine c9 rfl rfl rfl (fun h3=>?_) (fun h3=>?_)
    ·have p3:=of_decide_eq_true h3;refine jb ?_;refine fw ?_;exact cV () trivial (.b (jI (jn (jn h1 h2) h3)) .nil) (List.Sublist.refl _)
    ·have p3:=of_decide_eq_false h3;refine jK ?_;exact cV () trivial (.b (gj (jn (jn h1 h2) h3)).symm .nil) (List.Sublist.refl _)
   ·have p2:=of_decide_eq_false h2;refine q3L ?_;exact cV () trivial (.b (gj (gj (jn h1 h2))).symm .nil) (List.Sublist.refl _)
  ·have p1:=of_decide_eq_false h1;refine TL.run 15 rfl ?_;refine fw ?_;exact cV () trivial (.b (gj (gj (gj h1))).symm .nil) (List.Sublist.refl _)
 ·rintro _ _;refine T.ret ?_;subst hk;exact dX
def zb2 (a:GInt):Option Bool:=
 (bif decide (64<(a.Digits.length:Int)) then
  some false
  else
  (bif decide ((a.Digits.length:Int)=0) then
   some (!a.Neg)
   else
   dg (0≤0∧0<(a.Digits.length:Int)) <|
   some (decide (¬(nth a.Digits 0)=0))))
theorem zfo (F0:Frz)(w:World)(hF0:F0.At w)(a:GInt)(va_1:Value)(ha_1:SlC F0 va_1 1 (a.Digits.map (eK .u8)))(r:Bool)(hr:zb2 a=some r):Calls Tryz.prog 128 #[.agg [.bool a.Neg,va_1].toArray] w fun e w'=>e= .returned (.bool r)∧Below w.heap.size w w':=by
 have hk:=hr;unfold zb2 at hk;haveI:=ha_1.oneC;obtain ⟨S0,F1,rfl,hS0,hp0⟩:=d4 hF0;refine dL Tryz.func128 rfl rfl rfl hp0 ?_;refine gi ?_;rintro _ _ ⟨g1,rfl,rfl⟩;refine dw ?_;refine eU ?_;refine q1Y ?_;have hm6:a.Digits.length≤9223372036854775807:=(List.length_map _)▸ha_1.max;refine lf ?_;refine T.cond rfl (fun h1=>?_) (fun h1=>?_)
 ·have p1:=of_decide_eq_true h1;replace hk:=dk hk h1;refine gY ?_;obtain rfl:=Option.some.inj hk;exact dX
 ·have p1:=of_decide_eq_false h1;replace hk:=dj hk h1;refine jF ?_;refine d8 ?_;refine c7 ?_;refine T.cond rfl (fun h2=>?_) (fun h2=>?_)
  ·have p2:=of_decide_eq_true h2;replace hk:=dk hk h2;refine dN ?_;refine fD ?_;refine d8 ?_;refine iu ?_;obtain rfl:=Option.some.inj hk;exact dX
  ·have p2:=of_decide_eq_false h2;replace hk:=dj hk h2;refine fG ?_;have hq:(0≤0∧0<(a.Digits.length:Int))∧_:=dq hk;clear hk;obtain ⟨g16,hk⟩:=hq; (try dsimp only at hk);refine eP ?_;refine fD ?_;refine q2C ?_;refine kB ?_;obtain rfl:=Option.some.inj hk;exact dX
def zb8 (a:GInt):Option (List Int):=
 dJ (fun (out_1:List Int)=>
  some out_1)
 (fun k2=>
  fQ (fun (i_5:Nat) (next4:List Int→Option (List Int)) (out_3:List Int)=>
   dg (dz (out_3++[(nth a.Digits i_5)]).length 1) <|
   next4 (out_3++[(nth a.Digits i_5)]))
  (fun (out_3:List Int)=>
   k2 out_3) a.Digits.length [])
theorem zdq (F0:Frz)(w:World)(hF0:F0.At w)(a:GInt)(va_1:Value)(ha_1:SlC F0 va_1 1 (a.Digits.map (eK .u8)))(r:List Int)(hr:zb8 a=some r):Calls Tryz.prog 200 #[.agg [.bool a.Neg,va_1].toArray] w fun e w'=>∃(y:Value) (G:Frz),(SlC G y 1 (r.map (eK .u8)))∧e= .returned (y)∧Fx F0 w G w':=by
 have hk:=hr;unfold zb8 at hk;haveI:=ha_1.oneC;obtain ⟨S0,F1,rfl,hS0,hp0⟩:=d4 hF0;refine dL Tryz.func200 rfl rfl rfl hp0 ?_;refine gi ?_;rintro _ _ ⟨g1,rfl,rfl⟩;refine dw ?_;refine iv ?_;refine TL.slNil 5 1 ?_;refine c7 (T.seq (dN ?_));refine jU ?_;refine cN (dh rfl rfl ha_1 (List.length_map _)) ?_;have hm7:a.Digits.length≤9223372036854775807:=(List.length_map _)▸ha_1.max;refine iH ?_;refine dZ ?_;have hq:=dW hk;clear hk;obtain ⟨k2,hk2,hk⟩:=hq; (try dsimp only at hk);refine cZ (ι:=List Int×Value) (fun z=>[(3,z.2)]) (fun z=>[.sl z.2 5 1 z.1.length (z.1.flatMap (eK .u8)), .fr F1]) (fun z=>k2 z.1=some r∧OneC z.2) ?_ ?_
 ·have hq:=zdt hk;clear hk;obtain ⟨f4,kk4,hf4,hkk4,hk⟩:=hq;refine eC ?_;refine T.loop (ι:=Nat×List Int×Value) (fun z=>[(1, .pointer (some ⟨g1,0,none⟩)),(3,z.2.2),(4, .int .i64 ((z.1:Int) - 1))]) (fun z=>[.sl z.2.2 5 1 z.2.1.length (z.2.1.flatMap (eK .u8)), .row g1 26 [.bool a.Neg,va_1], .fr F1]) (fun z=>fQ f4 kk4 z.1 z.2.1=some r∧z.1≤a.Digits.length∧OneC z.2.2) (fun z=>z.1) (a.Digits.length,[],(.slice none 0 0)) ?_ ?_ ?_ ?_
  ·exact ⟨hk,(Nat.le_refl _),inferInstance⟩
  ·exact q3V
  ·exact eA
  ·rintro ⟨i_5,out_3,vout_3⟩ ⟨hk,hle4,oout_3⟩; (try dsimp only at *);refine kE ?_;refine T.cond rfl (fun h6=>?_) (fun h6=>?_)
   ·have p6:=of_decide_eq_true h6;obtain ⟨i_5',rfl⟩:∃q,i_5=q+1:=⟨i_5 - 1,by omega⟩;replace hk:f4 i_5' (fQ f4 kk4 i_5') out_3=some r:=hk;generalize hn4:fQ f4 kk4 i_5'=next4 at hk;rw [←hf4] at hk; (try dsimp only at hk);refine jW (gs:=[(1, .pointer (some ⟨g1,0,none⟩)),(3,vout_3),(4, .int .i64 (i_5':Int))]) (by repeat (first|exact Sub.nil|refine Sub.cons rfl ?_|refine eM rfl a4 ?_|refine eO rfl b6 ?_)) (List.Sublist.refl _) ?_;refine T.skip (K.seq (T.seq (T.block ?_)));have hq:(dz (out_3++[(nth a.Digits i_5')]).length 1)∧_:=dq hk;clear hk;obtain ⟨g20,hk⟩:=hq; (try dsimp only at hk);refine ee ?_;refine jU ?_;refine dw ?_;refine cN (de (i:=i_5') rfl rfl rfl ha_1 (List.length_map _) rfl a4) ?_;refine cN (dB 2 (i:=i_5') (j:=0) rfl rfl rfl ha_1 a4) ?_;refine gG ?_;rintro _ _ ⟨g19,rfl,rfl⟩;refine cS (gu 1 0 rfl rfl rfl rfl rfl rfl (zdo (ys:=[(nth a.Digits i_5')])) (zcN (enc:=(eK .u8)) (xs:=out_3) (ys:=[(nth a.Digits i_5')])) g20 a5) ?_;rintro v20 _ ⟨hv20,rfl⟩;refine q2o ?_;refine iH ?_;refine iG ?_;rw [←hn4] at hk;refine K.pick [1,2,3] rfl a5 ?_;exact K.next (i_5',(out_3++[(nth a.Digits i_5')]),v20) ⟨hk,a7,inferInstance⟩ a7 (.c (.c (.c .nil))) (List.Sublist.refl _)
   ·have p6:=of_decide_eq_false h6;obtain rfl:i_5=0:=a4;replace hk:kk4 out_3=some r:=hk;rw [←hkk4] at hk; (try dsimp only at hk);refine eF ?_;refine K.pick [0,2] rfl a5 ?_;exact q4l
 ·rintro ⟨out_1,vout_1⟩ ⟨hk,oout_1⟩; (try dsimp only at *);rw [←hk2] at hk; (try dsimp only at hk);refine gk ?_;refine q2n ?_;rintro F2 ⟨le1_2,hz2⟩;refine fi ?_;have hfF2:=hz2.toF rfl (fun _=>rfl);haveI:=hfF2.oneC;obtain rfl:=Option.some.inj hk;exact eD rfl rfl (fun w' hw=>⟨vout_1,F2.toFrz,hfF2,rfl,dP hw (i:=0) rfl hS0 le1_2⟩)
def zcn (fuel:Nat)(a:List Int):Option (List Int):=
 dJ (fun (a_1:List Int)=>
  some a_1)
 (fun k2=>
  eR (fun (next4:List Int→Option (List Int)) (a_3:List Int)=>
   (bif ((decide (0<(a_3.length:Int)))&&(decide ((nth a_3 (((a_3.length:Int) - 1).toNat))=0))) then
    next4 (a_3.take (((a_3.length:Int) - 1).toNat))
    else
    k2 a_3)) fuel a)
theorem zd7 (F0:Frz)(w:World)(hF0:F0.At w)(a:List Int)(va:Value)(ha:SlC F0 va 1 (a.map (eK .u8)))(fuel:Nat)(r:List Int)(hr:zcn fuel a=some r):Calls Tryz.prog 228 #[va] w fun e w'=>∃(y:Value) (G:Frz),(SlC G y 1 (r.map (eK .u8)))∧e= .returned (y)∧Fx F0 w G w':=by
 have hk:=hr;unfold zcn at hk;haveI:=ha.oneC;obtain ⟨S0,F1,rfl,hS0,hp0⟩:=d4 hF0;refine dL Tryz.func228 rfl rfl rfl hp0 ?_;refine eL ?_;have hq:=dW hk;clear hk;obtain ⟨k2,hk2,hk⟩:=hq; (try dsimp only at hk);refine cZ (ι:=List Int×Value×FzB w (fun _=>False) S0) (fun z=>[(0,z.2.1)]) (fun z=>[.fr z.2.2]) (fun z=>k2 z.1=some r∧SlC z.2.2.toFrz z.2.1 1 (z.1.map (eK .u8))∧F1.toFrz.Le z.2.2.toFrz) ?_ ?_
 ·have hq:=jC hk;clear hk;obtain ⟨f4,hf4,hk⟩:=hq;refine eC ?_;refine T.loop (ι:=Nat×List Int×Value×FzB w (fun _=>False) S0) (fun z=>[(0,z.2.2.1)]) (fun z=>[.fr z.2.2.2]) (fun z=>eR f4 z.1 z.2.1=some r∧SlC z.2.2.2.toFrz z.2.2.1 1 (z.2.1.map (eK .u8))∧F1.toFrz.Le z.2.2.2.toFrz) (fun z=>z.1) (fuel,a,va,F1) ?_ ?_ ?_ ?_
  ·exact ⟨hk,ha,(Frz.Le.refl _)⟩
  ·exact (.c .nil)
  ·exact eA
  ·rintro ⟨m_5,a_3,va_3,F3⟩ ⟨hk,ha_3,le1_3⟩; (try dsimp only at *);haveI:=ha_3.oneC;have hq:=jG hk;clear hk;obtain ⟨m_5',rfl,hk⟩:=hq;generalize hn4:eR f4 m_5'=next4 at hk;rw [←hf4] at hk; (try dsimp only at hk);refine T.seq (T.seq ?_);refine cZ (ι:=Unit) (fun z=>[(0,va_3),(14, .bool ((decide (0<(a_3.length:Int)))&&(decide ((nth a_3 (((a_3.length:Int) - 1).toNat))=0))))]) (fun z=>[.fr F3]) (fun z=>True) ?_ ?_
   ·refine ee ?_;refine cN (dh rfl rfl ha_3 (List.length_map _)) ?_;have hm4:a_3.length≤9223372036854775807:=(List.length_map _)▸ha_3.max;refine d8 ?_;refine c9 rfl rfl rfl (fun h6=>?_) (fun h6=>?_)
    ·have p6:=of_decide_eq_true h6;refine d8 ?_;refine cN (dh rfl rfl ha_3 (List.length_map _)) ?_;refine iH ?_;refine cN (de (i:=((a_3.length:Int) - 1).toNat) rfl rfl rfl ha_3 (List.length_map _) a4 a4) ?_;refine cN (dB 0 (i:=((a_3.length:Int) - 1).toNat) (j:=0) rfl rfl rfl ha_3 a4) ?_;refine jf ?_;exact cV () trivial (.c (.b (jI h6) .nil)) (List.Sublist.refl _)
    ·have p6:=of_decide_eq_false h6;refine TL.run 8 rfl ?_;refine fw ?_;exact cV () trivial (.c (.b (gj h6).symm .nil)) (List.Sublist.refl _)
   ·rintro _ _;have hm4:a_3.length≤9223372036854775807:=(List.length_map _)▸ha_3.max;refine T.cond rfl (fun h7=>?_) (fun h7=>?_)
    ·have p7:=h7; (try simp only [jd] at p7);replace hk:=dk hk h7;refine T.skip (K.seq (T.block (T.region ?_)));refine d8 ?_;refine cN (dh rfl rfl ha_3 (List.length_map _)) ?_;refine iH ?_;refine cN (ki (i:=((a_3.length:Int) - 1).toNat) rfl rfl rfl ha_3 (List.length_map _) a4 a4) ?_;have hs19_:SlC F3.toFrz (fC va_3 0 (((a_3.length:Int) - 1).toNat) 1) 1 ((a_3.take (((a_3.length:Int) - 1).toNat)).map (eK .u8)):=ha_3.sliceh (i:=((a_3.length:Int) - 1).toNat) a4;haveI:=hs19_.oneC;refine q3h ?_;rw [←hn4] at hk;exact K.next (m_5',(a_3.take (((a_3.length:Int) - 1).toNat)),(fC va_3 0 (((a_3.length:Int) - 1).toNat) 1),F3) ⟨hk,hs19_,le1_3⟩ a7 (.c .nil) (List.Sublist.refl _)
    ·replace hk:=dj hk h7;refine eF ?_;exact cV (a_3,va_3,F3) ⟨hk,ha_3,le1_3⟩ (.c .nil) (List.Sublist.refl _)
 ·rintro ⟨a_1,va_1,F2⟩ ⟨hk,ha_1,le1_2⟩; (try dsimp only at *);rw [←hk2] at hk; (try dsimp only at hk);haveI:=ha_1.oneC;refine kN ?_;obtain rfl:=Option.some.inj hk;exact eD rfl rfl (fun w' hw=>⟨va_1,F2.toFrz,ha_1,rfl,dP hw (i:=0) rfl hS0 le1_2⟩)
def zcB (fuel:Nat)(a:List Int)(b:List Int):Option (List Int):=
 dJ (fun (out_1:List Int)=>
  (zcn fuel out_1).bind fun r57=>
  some r57)
 (fun k2=>
  eR (fun (next6:(List Int×Int×Int)→Option (List Int)) (s6:List Int×Int×Int)=>
   (bif (((decide (s6.2.2<(a.length:Int)))||(decide (s6.2.2<(b.length:Int))))||(decide (0<s6.2.1))) then
    dJ (fun (s_11:Int)=>
     dJ (fun (s_14:Int)=>
      dg (0≤s_14∧1≤(256:Int)) <|
      dg (dz (s6.1++[(IntKind.u8.wrap (s_14 % 256))]).length 1) <|
      dg (0≤s_14∧s_14≤9223372036854775807∧1≤(256:Int)) <|
      next6 ((s6.1++[(IntKind.u8.wrap (s_14 % 256))]),(s_14 / 256),wI (s6.2.2+1)))
     (fun k15=>
      (bif decide (s6.2.2<(b.length:Int)) then
       dg (0≤s6.2.2∧s6.2.2<(b.length:Int)) <|
       k15 (wI (s_11+(wI (nth b s6.2.2.toNat))))
       else
       k15 s_11)))
    (fun k12=>
     (bif decide (s6.2.2<(a.length:Int)) then
      dg (0≤s6.2.2∧s6.2.2<(a.length:Int)) <|
      k12 (wI (s6.2.1+(wI (nth a s6.2.2.toNat))))
      else
      k12 s6.2.1))
    else
    k2 s6.1)) fuel ([],0,0))
theorem zeK (F0:Frz)(w:World)(hF0:F0.At w)(a:List Int)(va:Value)(ha:SlC F0 va 1 (a.map (eK .u8)))(b:List Int)(vb:Value)(hb:SlC F0 vb 1 (b.map (eK .u8)))(fuel:Nat)(r:List Int)(hr:zcB fuel a b=some r):Calls Tryz.prog 226 #[va,vb] w fun e w'=>∃(y:Value) (G:Frz),(SlC G y 1 (r.map (eK .u8)))∧e= .returned (y)∧Fx F0 w G w':=by
 have hk:=hr;unfold zcB at hk;haveI:=ha.oneC;haveI:=hb.oneC;obtain ⟨S0,F1,rfl,hS0,hp0⟩:=d4 hF0;refine dL Tryz.func226 rfl rfl rfl hp0 ?_;refine eZ ?_;refine iv ?_;refine TL.slNil 5 1 ?_;refine iv ?_;refine it ?_;refine c7 ?_;have hq:=dW hk;clear hk;obtain ⟨k2,hk2,hk⟩:=hq; (try dsimp only at hk);refine cZ (ι:=List Int×Value) (fun z=>[(5,z.2)]) (fun z=>[.sl z.2 5 1 z.1.length (z.1.flatMap (eK .u8)), .fr F1]) (fun z=>k2 z.1=some r∧OneC z.2) ?_ ?_
 ·have hq:=jC hk;clear hk;obtain ⟨f6,hf6,hk⟩:=hq;refine eC ?_;refine T.loop (ι:=Nat×List Int×Value×Int×Int) (fun z=>[(0,va),(1,vb),(5,z.2.2.1),(6, .int .i64 z.2.2.2.1),(7, .int .i64 z.2.2.2.2)]) (fun z=>[.sl z.2.2.1 5 1 z.2.1.length (z.2.1.flatMap (eK .u8)), .fr F1]) (fun z=>eR f6 z.1 (z.2.1,z.2.2.2.1,z.2.2.2.2)=some r∧OneC z.2.2.1) (fun z=>z.1) (fuel,[],(.slice none 0 0),0,0) ?_ ?_ ?_ ?_
  ·exact q3Y
  ·exact jp
  ·exact eA
  ·rintro ⟨m_7,out_3,vout_3,carry_4,i_5⟩ ⟨hk,oout_3⟩; (try dsimp only at *);have hq:=jG hk;clear hk;obtain ⟨m_7',rfl,hk⟩:=hq;generalize hn6:eR f6 m_7'=next6 at hk;rw [←hf6] at hk; (try dsimp only at hk);refine T.seq (T.seq ?_);refine cZ (ι:=Unit) (fun z=>[(0,va),(1,vb),(5,vout_3),(6, .int .i64 carry_4),(7, .int .i64 i_5),(22, .bool (((decide (i_5<(a.length:Int)))||(decide (i_5<(b.length:Int))))||(decide (0<carry_4))))]) (fun z=>[.sl vout_3 5 1 out_3.length (out_3.flatMap (eK .u8)), .fr F1]) (fun z=>True) ?_ ?_
   ·refine eE ?_;refine q1H ?_;have hm11:a.length≤9223372036854775807:=(List.length_map _)▸ha.max;refine d8 ?_;refine c9 rfl rfl rfl (fun h8=>?_) (fun h8=>?_)
    ·have p8:=of_decide_eq_true h8;refine q3t ?_;exact cV () trivial (.c (.c (.c (.c (.c (.b (fT (fT h8)).symm .nil)))))) (List.Sublist.refl _)
    ·have p8:=of_decide_eq_false h8;refine d8 ?_;refine q2A ?_;have hm16:b.length≤9223372036854775807:=(List.length_map _)▸hb.max;refine fu ?_;refine c9 rfl rfl rfl (fun h9=>?_) (fun h9=>?_)
     ·have p9:=of_decide_eq_true h9;refine fu ?_;refine fw ?_;exact cV () trivial (.c (.c (.c (.c (.c (.b (fT (iC h8 h9)).symm .nil)))))) (List.Sublist.refl _)
     ·have p9:=of_decide_eq_false h9;refine fu ?_;refine fw ?_;exact cV () trivial (.c (.c (.c (.c (.c (.b (gh (iC h8 h9)) .nil)))))) (List.Sublist.refl _)
   ·rintro _ _;have hm11:a.length≤9223372036854775807:=(List.length_map _)▸ha.max;have hm16:b.length≤9223372036854775807:=(List.length_map _)▸hb.max;refine T.cond rfl (fun h10=>?_) (fun h10=>?_)
    ·replace hk:=dk hk h10;refine ju ?_;refine q2l ?_;refine q1H ?_;refine dZ ?_;have hq:=dW hk;clear hk;obtain ⟨k12,hk12,hk⟩:=hq; (try dsimp only at hk);refine cZ (ι:=Int) (fun z=>[(0,va),(1,vb),(5,vout_3),(7, .int .i64 i_5),(8, .int .i64 z)]) (fun z=>[.sl vout_3 5 1 out_3.length (out_3.flatMap (eK .u8)), .fr F1]) (fun z=>k12 z=some r) ?_ ?_
     ·refine T.cond rfl (fun h13=>?_) (fun h13=>?_)
      ·have p13:=of_decide_eq_true h13;replace hk:=dk hk h13;have hq:(0≤i_5∧i_5<(a.length:Int))∧_:=dq hk;clear hk;obtain ⟨g33,hk⟩:=hq; (try dsimp only at hk);refine gX ?_;refine cN (de (i:=i_5.toNat) rfl rfl rfl ha (List.length_map _) a4 a4) ?_;refine cN (dB 1 (i:=i_5.toNat) (j:=0) rfl rfl rfl ha a4) ?_;refine cN (dO (z:=(nth a i_5.toNat))) ?_;refine cN (c8 (v:= .int .i64 (wI (carry_4+(wI (nth a i_5.toNat)))))) ?_;refine iG ?_;exact cV (wI (carry_4+(wI (nth a i_5.toNat)))) hk (.c (.c (.c (.c (.c .nil))))) (List.Sublist.refl _)
      ·have p13:=of_decide_eq_false h13;replace hk:=dj hk h13;refine T.skip ?_;exact cV carry_4 hk (.c (.c (.c (.c (.c .nil))))) (List.Sublist.refl _)
     ·rintro s_11 hk;rw [←hk12] at hk; (try dsimp only at hk);refine jD ?_;refine d8 ?_;refine q2A ?_;refine dZ ?_;have hq:=dW hk;clear hk;obtain ⟨k15,hk15,hk⟩:=hq; (try dsimp only at hk);refine cZ (ι:=Int) (fun z=>[(0,va),(1,vb),(5,vout_3),(7, .int .i64 i_5),(8, .int .i64 z)]) (fun z=>[.sl vout_3 5 1 out_3.length (out_3.flatMap (eK .u8)), .fr F1]) (fun z=>k15 z=some r) ?_ ?_
      ·refine T.cond rfl (fun h16=>?_) (fun h16=>?_)
       ·have p16:=of_decide_eq_true h16;replace hk:=dk hk h16;have hq:(0≤i_5∧i_5<(b.length:Int))∧_:=dq hk;clear hk;obtain ⟨g44,hk⟩:=hq; (try dsimp only at hk);refine gX ?_;refine cN (de (i:=i_5.toNat) rfl rfl rfl hb (List.length_map _) a4 a4) ?_;refine cN (dB 1 (i:=i_5.toNat) (j:=0) rfl rfl rfl hb a4) ?_;refine cN (dO (z:=(nth b i_5.toNat))) ?_;refine cN (c8 (v:= .int .i64 (wI (s_11+(wI (nth b i_5.toNat)))))) ?_;refine iG ?_;exact cV (wI (s_11+(wI (nth b i_5.toNat)))) hk (.c (.c (.c (.c (.c .nil))))) (List.Sublist.refl _)
       ·have p16:=of_decide_eq_false h16;replace hk:=dj hk h16;refine T.skip ?_;exact cV s_11 hk (.c (.c (.c (.c (.c .nil))))) (List.Sublist.refl _)
      ·rintro s_14 hk;rw [←hk15] at hk; (try dsimp only at hk);refine T.seq ?_;have hq:(0≤s_14∧1≤(256:Int))∧_:=dq hk;clear hk;obtain ⟨g50,hk⟩:=hq;have hq:(dz (out_3++[(IntKind.u8.wrap (s_14 % 256))]).length 1)∧_:=dq hk;clear hk;obtain ⟨g53,hk⟩:=hq; (try dsimp only at hk);refine eE ?_;refine cN (iT (a:=s_14) (b:=(256:Int)) rfl rfl rfl g50) ?_;refine cN (dO (z:=(s_14 % 256))) ?_;refine gG ?_;rintro _ _ ⟨g52,rfl,rfl⟩;refine cS (gu 1 0 rfl rfl rfl rfl rfl rfl (zdo (ys:=[(IntKind.u8.wrap (s_14 % 256))])) (zcN (enc:=(eK .u8)) (xs:=out_3) (ys:=[(IntKind.u8.wrap (s_14 % 256))])) g53 a5) ?_;rintro v53 _ ⟨hv53,rfl⟩;refine dZ ?_;have hq:(0≤s_14∧s_14≤9223372036854775807∧1≤(256:Int))∧_:=dq hk;clear hk;obtain ⟨g55,hk⟩:=hq; (try dsimp only at hk);refine ee ?_;refine cN (fA (a:=s_14) (b:=(256:Int)) rfl rfl rfl g55) ?_;refine q2o ?_;refine cN (c8 (v:= .int .i64 (wI (i_5+1)))) ?_;refine iG ?_;rw [←hn6] at hk;refine K.pick [1,2] rfl a5 ?_;exact K.next (m_7',(out_3++[(IntKind.u8.wrap (s_14 % 256))]),v53,(s_14 / 256),wI (i_5+1)) ⟨hk,inferInstance⟩ a7 (.c (.c (.c (.c (.c .nil))))) (List.Sublist.refl _)
    ·have p10:=h10; (try simp only [jd] at p10);replace hk:=dj hk h10;refine eF ?_;exact q4l
 ·rintro ⟨out_1,vout_1⟩ ⟨hk,oout_1⟩; (try dsimp only at *);rw [←hk2] at hk; (try dsimp only at hk);refine T.seq ?_;refine q1A ?_;rintro F2 ⟨le1_2,hz2⟩;refine fi ?_;have hfF2:=hz2.toF rfl (fun _=>rfl);haveI:=hfF2.oneC;have hq:=dm hk;clear hk;obtain ⟨r57,hr57,hk⟩:=hq; (try dsimp only at hk);refine ee ?_;refine cS (df 0 rfl rfl rfl rfl (fun w hw hF=>zd7 _ w hF out_1 vout_1 hfF2 fuel r57 hr57)) ?_;rintro _ _ ⟨v57_0_0,F3,le2_3,hf57_0_0,hq,rfl⟩;obtain rfl:=hq.symm;have le1_3:=le1_2.trans le2_3;haveI:=hf57_0_0.oneC;refine gP ?_;obtain rfl:=Option.some.inj hk;exact eD rfl rfl (fun w' hw=>⟨v57_0_0,F3.toFrz,hf57_0_0,rfl,dP hw (i:=0) rfl hS0 le1_3⟩)
def zcq (a:List Int)(b:List Int):Int:=
 (bif decide (¬(a.length:Int)=(b.length:Int)) then
  (bif decide ((a.length:Int)<(b.length:Int)) then
   (-1)
   else
   1)
  else
  dJ (fun (_:Unit)=>
   0)
  (fun k3=>
   fQ (fun (i_5:Nat) (next4:Unit→Int) (_:Unit)=>
    (bif decide (¬(nth a i_5)=(nth b i_5)) then
     (bif decide ((nth a i_5)<(nth b i_5)) then
      (-1)
      else
      1)
     else
     next4 ()))
   (fun (_:Unit)=>
    k3 ()) a.length ()))
theorem zgC (F0:Frz)(w:World)(hF0:F0.At w)(a:List Int)(va:Value)(ha:SlC F0 va 1 (a.map (eK .u8)))(b:List Int)(vb:Value)(hb:SlC F0 vb 1 (b.map (eK .u8))):Calls Tryz.prog 213 #[va,vb] w fun e w'=>e= .returned (.int .i64 (zcq a b))∧Below w.heap.size w w':=by
 obtain ⟨r,hk⟩:∃r,zcq a b=r:=⟨_,rfl⟩;rw [hk];unfold zcq at hk;haveI:=ha.oneC;haveI:=hb.oneC;obtain ⟨S0,F1,rfl,hS0,hp0⟩:=d4 hF0;refine dL Tryz.func213 rfl rfl rfl hp0 ?_;refine jh ?_;refine q1H ?_;have hm7:a.length≤9223372036854775807:=(List.length_map _)▸ha.max;refine dw ?_;refine q2A ?_;have hm9:b.length≤9223372036854775807:=(List.length_map _)▸hb.max;refine dZ ?_;refine T.cond rfl (fun h1=>?_) (fun h1=>?_)
 ·have p1:=of_decide_eq_true h1;replace hk:=dk hk h1;refine q3F ?_;refine q1H ?_;refine dw ?_;refine q2A ?_;refine dZ ?_;refine T.cond rfl (fun h2=>?_) (fun h2=>?_)
  ·have p2:=of_decide_eq_true h2;replace hk:=dk hk h2;refine eZ ?_;refine c7 (T.ret (gC (gC ?_)));subst hk;exact dX
  ·have p2:=of_decide_eq_false h2;replace hk:=dj hk h2;refine jB ?_;refine iu ?_;subst hk;exact dX
 ·have p1:=of_decide_eq_false h1;replace hk:=dj hk h1;refine jF ?_;refine dw ?_;refine q1H ?_;refine iH ?_;refine dZ ?_;have hq:=dW hk;clear hk;obtain ⟨k3,hk3,hk⟩:=hq; (try dsimp only at hk);refine cZ (ι:=Unit) (fun z=>[]) (fun z=>[.fr F1]) (fun z=>k3 ()=r) ?_ ?_
  ·have hq:=zdt hk;clear hk;obtain ⟨f4,kk4,hf4,hkk4,hk⟩:=hq;refine eC ?_;refine T.loop (ι:=Nat) (fun z=>[(0,va),(1,vb),(5, .int .i64 ((z:Int) - 1))]) (fun z=>[.fr F1]) (fun z=>fQ f4 kk4 z ()=r∧z≤a.length) (fun z=>z) a.length ?_ ?_ ?_ ?_
   ·exact ⟨hk,(Nat.le_refl _)⟩
   ·exact q3V
   ·exact eA
   ·rintro i_5 ⟨hk,hle4⟩;refine kE ?_;refine T.cond rfl (fun h6=>?_) (fun h6=>?_)
    ·have p6:=of_decide_eq_true h6;obtain ⟨i_5',rfl⟩:∃q,i_5=q+1:=⟨i_5 - 1,by omega⟩;replace hk:f4 i_5' (fQ f4 kk4 i_5') ()=r:=hk;generalize hn4:fQ f4 kk4 i_5'=next4 at hk;rw [←hf4] at hk; (try dsimp only at hk);refine jW (gs:=[(0,va),(1,vb),(5, .int .i64 (i_5':Int))]) (by repeat (first|exact Sub.nil|refine Sub.cons rfl ?_|refine eM rfl a4 ?_|refine eO rfl b6 ?_)) (List.Sublist.refl _) ?_;refine T.skip (K.seq (T.seq (T.block (T.seq ?_))));refine q1O ?_;refine T.cond rfl (fun h7=>?_) (fun h7=>?_)
     ·have p7:=of_decide_eq_true h7;replace hk:=dk hk h7;refine T.seq (T.seq ?_);refine q1O ?_;refine T.cond rfl (fun h8=>?_) (fun h8=>?_)
      ·have p8:=of_decide_eq_true h8;replace hk:=dk hk h8;refine q3G ?_;subst hk;exact dX
      ·have p8:=of_decide_eq_false h8;replace hk:=dj hk h8;refine jB ?_;refine kV ?_;subst hk;exact dX
     ·have p7:=of_decide_eq_false h7;replace hk:=dj hk h7;refine T.skip (eT (K.seq (T.region ?_)));refine q2W ?_;rw [←hn4] at hk;exact q4n
    ·have p6:=of_decide_eq_false h6;obtain rfl:i_5=0:=a4;replace hk:kk4 ()=r:=hk;rw [←hkk4] at hk; (try dsimp only at hk);refine eF ?_;exact kD
  ·rintro _ hk;rw [←hk3] at hk; (try dsimp only at hk);refine j1 ?_;subst hk;exact dX
def zcp (fuel:Nat)(a:List Int)(b:List Int):Option (List Int):=
 dJ (fun (out_1:List Int)=>
  (zcn fuel out_1).bind fun r43=>
  some r43)
 (fun k2=>
  dG (fun (i_6:Nat) (next5:(List Int×Int)→Option (List Int)) (s5:List Int×Int)=>
   dJ (fun (s_8:Int)=>
    dJ (fun (s13:Int×Int)=>
     dg (dz (s5.1++[(IntKind.u8.wrap s13.2)]).length 1) <|
     next5 ((s5.1++[(IntKind.u8.wrap s13.2)]),s13.1))
    (fun k13=>
     (bif decide (s_8<0) then
      k13 (1,wI (s_8+256))
      else
      k13 (0,s_8))))
   (fun k9=>
    (bif decide ((i_6:Int)<(b.length:Int)) then
     k9 (wI ((wI ((wI (nth a i_6)) - s5.2)) - (wI (nth b i_6))))
     else
     k9 (wI ((wI (nth a i_6)) - s5.2)))))
  (fun (s5:List Int×Int)=>
   k2 s5.1) (a.length - 0) 0 ([],0))
theorem zfj (F0:Frz)(w:World)(hF0:F0.At w)(a:List Int)(va:Value)(ha:SlC F0 va 1 (a.map (eK .u8)))(b:List Int)(vb:Value)(hb:SlC F0 vb 1 (b.map (eK .u8)))(fuel:Nat)(r:List Int)(hr:zcp fuel a b=some r):Calls Tryz.prog 227 #[va,vb] w fun e w'=>∃(y:Value) (G:Frz),(SlC G y 1 (r.map (eK .u8)))∧e= .returned (y)∧Fx F0 w G w':=by
 have hk:=hr;unfold zcp at hk;haveI:=ha.oneC;haveI:=hb.oneC;obtain ⟨S0,F1,rfl,hS0,hp0⟩:=d4 hF0;refine dL Tryz.func227 rfl rfl rfl hp0 ?_;refine eZ ?_;refine iv ?_;refine TL.slNil 5 1 ?_;refine iv ?_;refine it ?_;refine c7 ?_;have hq:=dW hk;clear hk;obtain ⟨k2,hk2,hk⟩:=hq; (try dsimp only at hk);refine cZ (ι:=List Int×Value) (fun z=>[(5,z.2)]) (fun z=>[.sl z.2 5 1 z.1.length (z.1.flatMap (eK .u8)), .fr F1]) (fun z=>k2 z.1=some r∧OneC z.2) ?_ ?_
 ·have hq:=fx hk;clear hk;obtain ⟨f5,kk5,hf5,hkk5,hk⟩:=hq;refine eC ?_;refine T.loop (ι:=Nat×List Int×Value×Int) (fun z=>[(0,va),(1,vb),(5,z.2.2.1),(6, .int .i64 z.2.2.2),(7, .int .i64 (z.1:Int))]) (fun z=>[.sl z.2.2.1 5 1 z.2.1.length (z.2.1.flatMap (eK .u8)), .fr F1]) (fun z=>dG f5 kk5 (a.length - z.1) z.1 (z.2.1,z.2.2.2)=some r∧OneC z.2.2.1) (fun z=>a.length - z.1) (0,[],(.slice none 0 0),0) ?_ ?_ ?_ ?_
  ·exact q3Y
  ·exact jp
  ·exact eA
  ·rintro ⟨i_6,out_3,vout_3,borrow_4⟩ ⟨hk,oout_3⟩; (try dsimp only at *);refine jD ?_;refine d8 ?_;refine q1H ?_;have hm11:a.length≤9223372036854775807:=(List.length_map _)▸ha.max;refine dZ ?_;refine T.cond rfl (fun h7=>?_) (fun h7=>?_)
   ·have p7:=of_decide_eq_true h7;rw [fv a4] at hk;generalize hn5:dG f5 kk5 (a.length - (i_6+1)) (i_6+1)=next5 at hk;rw [←hf5] at hk; (try dsimp only at hk);refine ju ?_;refine cN (de (i:=i_6) rfl rfl rfl ha (List.length_map _) rfl a4) ?_;refine cN (dB 1 (i:=i_6) (j:=0) rfl rfl rfl ha a4) ?_;refine cN (dO (z:=(nth a i_6))) ?_;refine dw ?_;refine cN (c8 (v:= .int .i64 (wI ((wI (nth a i_6)) - borrow_4)))) ?_;refine dw ?_;refine q2l ?_;refine q2A ?_;have hm24:b.length≤9223372036854775807:=(List.length_map _)▸hb.max;refine dZ ?_;have hq:=dW hk;clear hk;obtain ⟨k9,hk9,hk⟩:=hq; (try dsimp only at hk);refine cZ (ι:=Int) (fun z=>[(0,va),(1,vb),(5,vout_3),(7, .int .i64 (i_6:Int)),(8, .int .i64 z)]) (fun z=>[.sl vout_3 5 1 out_3.length (out_3.flatMap (eK .u8)), .fr F1]) (fun z=>k9 z=some r) ?_ ?_
    ·refine T.cond rfl (fun h10=>?_) (fun h10=>?_)
     ·have p10:=of_decide_eq_true h10;replace hk:=dk hk h10;refine gX ?_;refine cN (de (i:=i_6) rfl rfl rfl hb (List.length_map _) rfl a4) ?_;refine cN (dB 1 (i:=i_6) (j:=0) rfl rfl rfl hb a4) ?_;refine cN (dO (z:=(nth b i_6))) ?_;refine cN (c8 (v:= .int .i64 (wI ((wI ((wI (nth a i_6)) - borrow_4)) - (wI (nth b i_6)))))) ?_;refine iG ?_;exact cV (wI ((wI ((wI (nth a i_6)) - borrow_4)) - (wI (nth b i_6)))) hk (.c (.c (.c (.c (.c .nil))))) (List.Sublist.refl _)
     ·have p10:=of_decide_eq_false h10;replace hk:=dj hk h10;refine T.skip ?_;exact cV (wI ((wI (nth a i_6)) - borrow_4)) hk (.c (.c (.c (.c (.c .nil))))) (List.Sublist.refl _)
    ·rintro s_8 hk;rw [←hk9] at hk; (try dsimp only at hk);refine eZ ?_;refine lg ?_;have hq:=dW hk;clear hk;obtain ⟨k13,hk13,hk⟩:=hq; (try dsimp only at hk);refine cZ (ι:=Int×Int) (fun z=>[(0,va),(1,vb),(5,vout_3),(6, .int .i64 z.1),(7, .int .i64 (i_6:Int)),(8, .int .i64 z.2)]) (fun z=>[.sl vout_3 5 1 out_3.length (out_3.flatMap (eK .u8)), .fr F1]) (fun z=>k13 (z.1,z.2)=some r) ?_ ?_
     ·refine T.cond rfl (fun h14=>?_) (fun h14=>?_)
      ·have p14:=of_decide_eq_true h14;replace hk:=dk hk h14;refine eZ ?_;refine cN (c8 (v:= .int .i64 (wI (s_8+256)))) ?_;refine dw ?_;refine c7 (T.region ?_);refine iG ?_;exact cV (1,wI (s_8+256)) hk (.c (.c (.c (.c (.c (.c .nil)))))) (List.Sublist.refl _)
      ·have p14:=of_decide_eq_false h14;replace hk:=dj hk h14;refine T.skip ?_;exact cV (0,s_8) hk (.c (.c (.c (.c (.c (.c .nil)))))) (List.Sublist.refl _)
     ·rintro ⟨borrow_11,s_12⟩ hk; (try dsimp only at *);rw [←hk13] at hk; (try dsimp only at hk);have hq:(dz (out_3++[(IntKind.u8.wrap s_12)]).length 1)∧_:=dq hk;clear hk;obtain ⟨g41,hk⟩:=hq; (try dsimp only at hk);refine eE ?_;refine cN (dO (z:=s_12)) ?_;refine gG ?_;rintro _ _ ⟨g40,rfl,rfl⟩;refine cS (gu 1 0 rfl rfl rfl rfl rfl rfl (zdo (ys:=[(IntKind.u8.wrap s_12)])) (zcN (enc:=(eK .u8)) (xs:=out_3) (ys:=[(IntKind.u8.wrap s_12)])) g41 a5) ?_;rintro v41 _ ⟨hv41,rfl⟩;refine q2o ?_;refine iR ?_;rw [←hn5] at hk;refine K.pick [1,2] rfl a5 ?_;exact K.next ((i_6+1),(out_3++[(IntKind.u8.wrap s_12)]),v41,borrow_11) ⟨hk,inferInstance⟩ a7 (.c (.c (.c (.c (.c .nil))))) (List.Sublist.refl _)
   ·have p7:=of_decide_eq_false h7;rw [fy a4,←hkk5] at hk; (try dsimp only at hk);refine eF ?_;exact q4l
 ·rintro ⟨out_1,vout_1⟩ ⟨hk,oout_1⟩; (try dsimp only at *);rw [←hk2] at hk; (try dsimp only at hk);refine T.seq ?_;refine q1A ?_;rintro F2 ⟨le1_2,hz2⟩;refine fi ?_;have hfF2:=hz2.toF rfl (fun _=>rfl);haveI:=hfF2.oneC;have hq:=dm hk;clear hk;obtain ⟨r43,hr43,hk⟩:=hq; (try dsimp only at hk);refine ee ?_;refine cS (df 0 rfl rfl rfl rfl (fun w hw hF=>zd7 _ w hF out_1 vout_1 hfF2 fuel r43 hr43)) ?_;rintro _ _ ⟨v43_0_0,F3,le2_3,hf43_0_0,hq,rfl⟩;obtain rfl:=hq.symm;have le1_3:=le1_2.trans le2_3;haveI:=hf43_0_0.oneC;refine gP ?_;obtain rfl:=Option.some.inj hk;exact eD rfl rfl (fun w' hw=>⟨v43_0_0,F3.toFrz,hf43_0_0,rfl,dP hw (i:=0) rfl hS0 le1_3⟩)
def zcH (fuel:Nat)(a:List Int)(b:List Int):Option (List Int×List Int):=
 dg (dz a.length 1) <|
 dJ (fun (s3:List Int×List Int)=>
  (zcn fuel s3.2).bind fun r57=>
  some (r57,s3.1))
 (fun k3=>
  dg (-1≤wI ((wI ((a.length:Int) *8)) - 1)∧wI ((wI ((a.length:Int) *8)) - 1)≤4611686018427387903) <|
  fQ (fun (i_7:Nat) (next6:(List Int×List Int)→Option (List Int×List Int)) (s6:List Int×List Int)=>
   (zcB fuel s6.1 s6.1).bind fun r22=>
   dg (0≤(i_7:Int)∧(i_7:Int)≤9223372036854775807∧1≤(8:Int)) <|
   dg (0≤((i_7:Int) / 8)∧((i_7:Int) / 8)<(a.length:Int)) <|
   dg (0≤(i_7:Int)∧1≤(8:Int)) <|
   dg (0≤((i_7:Int) % 8)) <|
   dJ (fun (r_9:List Int)=>
    (bif decide (0≤(zcq r_9 b)) then
     (zcp fuel r_9 b).bind fun r42=>
     dg (0≤(i_7:Int)∧(i_7:Int)≤9223372036854775807∧1≤(8:Int)) <|
     dg (0≤(i_7:Int)∧(i_7:Int)≤9223372036854775807∧1≤(8:Int)) <|
     dg (0≤((i_7:Int) / 8)∧((i_7:Int) / 8)<(s6.2.length:Int)) <|
     dg (0≤(i_7:Int)∧1≤(8:Int)) <|
     next6 (r42,(s6.2.set (((i_7:Int) / 8).toNat) (orK .u8 (nth s6.2 (((i_7:Int) / 8).toNat)) (shlK .u8 1 ((i_7:Int) % 8)))))
     else
     next6 (r_9,s6.2)))
   (fun k10=>
    (bif decide ((andK .u8 (shrK .u8 (nth a (((i_7:Int) / 8).toNat)) ((i_7:Int) % 8)) 1)=1) then
     (zcB fuel r22 [1]).bind fun r35=>
     k10 r35
     else
     k10 r22)))
  (fun (s6:List Int×List Int)=>
   k3 (s6.1,s6.2)) (((wI ((wI ((a.length:Int) *8)) - 1))+1).toNat) ([],(List.replicate a.length (0:Int))))
theorem zfa (F0:Frz)(w:World)(hF0:F0.At w)(a:List Int)(va:Value)(ha:SlC F0 va 1 (a.map (eK .u8)))(b:List Int)(vb:Value)(hb:SlC F0 vb 1 (b.map (eK .u8)))(fuel:Nat)(r:List Int×List Int)(hr:zcH fuel a b=some r):Calls Tryz.prog 201 #[va,vb] w fun e w'=>∃(y:Value×Value) (G:Frz),(SlC G y.1 1 (r.1.map (eK .u8))∧SlC G y.2 1 (r.2.map (eK .u8)))∧e= .returned (.tuple #[y.1,y.2])∧Fx F0 w G w':=by
 have hk:=hr;unfold zcH at hk;haveI:=ha.oneC;haveI:=hb.oneC;obtain ⟨S0,F1,rfl,hS0,hp0⟩:=d4 hF0;refine dL Tryz.func201 rfl rfl rfl hp0 ?_;refine gk ?_;refine e6 ?_;have hq:(dz a.length 1)∧_:=dq hk;clear hk;obtain ⟨g11,hk⟩:=hq; (try dsimp only at hk);refine ee ?_;refine q1H ?_;have hm10:a.length≤9223372036854775807:=(List.length_map _)▸ha.max;refine cS (fB (n':=a.length) (enc:=(eK .u8)) (u:=(0:Int)) rfl rfl rfl rfl g11 a5 a5 (fun _=>rfl) rfl) ?_;rintro v11 _ ⟨hv11,rfl⟩;refine jv ?_;intro iv11 hmv11;refine dw ?_;refine iv ?_;refine it ?_;refine q1H ?_;refine cN (c8 (v:= .int .i64 (wI ((a.length:Int) *8)))) ?_;refine cN (c8 (v:= .int .i64 (wI ((wI ((a.length:Int) *8)) - 1)))) ?_;refine dZ ?_;have hq:=dW hk;clear hk;obtain ⟨k3,hk3,hk⟩:=hq; (try dsimp only at hk);refine cZ (ι:=List Int×Value×List Int×FzB w (fun _=>False) S0) (fun z=>[(6,v11),(7,z.2.1)]) (fun z=>[.sl v11 5 1 z.2.2.1.length (z.2.2.1.flatMap (eK .u8)), .fr z.2.2.2]) (fun z=>k3 (z.1,z.2.2.1)=some r∧SlC z.2.2.2.toFrz z.2.1 1 (z.1.map (eK .u8))∧F1.toFrz.Le z.2.2.2.toFrz) ?_ ?_
 ·have hq:(-1≤wI ((wI ((a.length:Int) *8)) - 1)∧wI ((wI ((a.length:Int) *8)) - 1)≤4611686018427387903)∧_:=dq hk;clear hk;obtain ⟨gl6,hk⟩:=hq; (try dsimp only at hk);have hq:=zdt hk;clear hk;obtain ⟨f6,kk6,hf6,hkk6,hk⟩:=hq;refine eC ?_;refine T.loop (ι:=Nat×List Int×Value×List Int×FzB w (fun _=>False) S0) (fun z=>[(0,va),(1,vb),(6,v11),(7,z.2.2.1),(8, .int .i64 ((z.1:Int) - 1))]) (fun z=>[.sl v11 5 1 z.2.2.2.1.length (z.2.2.2.1.flatMap (eK .u8)), .fr z.2.2.2.2]) (fun z=>fQ f6 kk6 z.1 (z.2.1,z.2.2.2.1)=some r∧z.1≤((wI ((wI ((a.length:Int) *8)) - 1))+1).toNat∧SlC z.2.2.2.2.toFrz z.2.2.1 1 (z.2.1.map (eK .u8))∧F1.toFrz.Le z.2.2.2.2.toFrz) (fun z=>z.1) (((wI ((wI ((a.length:Int) *8)) - 1))+1).toNat,[],(.slice none 0 0),(List.replicate a.length (0:Int)),F1) ?_ ?_ ?_ ?_
  ·exact ⟨hk,(Nat.le_refl _),(SlC.nil _ 1),(Frz.Le.refl _)⟩
  ·exact (.c (.c (.c (.c (.i (a:=wI ((wI ((a.length:Int) *8)) - 1)) (by first|omega|(dsimp only;omega)) .nil)))))
  ·exact eA
  ·rintro ⟨i_7,r_4,vr_4,l_5,F3⟩ ⟨hk,hle6,hr_4,le1_3⟩; (try dsimp only at *);haveI:=hr_4.oneC;refine kE ?_;refine T.cond rfl (fun h8=>?_) (fun h8=>?_)
   ·have p8:=of_decide_eq_true h8;obtain ⟨i_7',rfl⟩:∃q,i_7=q+1:=⟨i_7 - 1,by omega⟩;replace hk:f6 i_7' (fQ f6 kk6 i_7') (r_4,l_5)=some r:=hk;generalize hn6:fQ f6 kk6 i_7'=next6 at hk;rw [←hf6] at hk; (try dsimp only at hk);refine jW (gs:=[(0,va),(1,vb),(6,v11),(7,vr_4),(8, .int .i64 (i_7':Int))]) (by repeat (first|exact Sub.nil|refine Sub.cons rfl ?_|refine eM rfl a4 ?_|refine eO rfl b6 ?_)) (List.Sublist.refl _) ?_;refine T.skip (K.seq (T.seq (T.block (T.seq ?_))));have hq:=dm hk;clear hk;obtain ⟨r22,hr22,hk⟩:=hq; (try dsimp only at hk);refine eE ?_;refine cS (df 1 rfl rfl rfl rfl (fun w hw hF=>zeK _ w hF r_4 vr_4 hr_4 r_4 vr_4 hr_4 fuel r22 hr22)) ?_;rintro _ _ ⟨v22_0_0,F4,le3_4,hf22_0_0,hq,rfl⟩;obtain rfl:=hq.symm;have le1_4:=le1_3.trans le3_4;haveI:=hf22_0_0.oneC;refine jH ?_;have hq:(0≤(i_7':Int)∧(i_7':Int)≤9223372036854775807∧1≤(8:Int))∧_:=dq hk;clear hk;obtain ⟨g25,hk⟩:=hq;have hq:(0≤((i_7':Int) / 8)∧((i_7':Int) / 8)<(a.length:Int))∧_:=dq hk;clear hk;obtain ⟨g26,hk⟩:=hq;have hq:(0≤(i_7':Int)∧1≤(8:Int))∧_:=dq hk;clear hk;obtain ⟨g29,hk⟩:=hq;have hq:(0≤((i_7':Int) % 8))∧_:=dq hk;clear hk;obtain ⟨g30,hk⟩:=hq; (try dsimp only at hk);refine eE ?_;refine cN (fA (a:=(i_7':Int)) (b:=(8:Int)) rfl rfl rfl g25) ?_;refine cN (de (i:=((i_7':Int) / 8).toNat) rfl rfl rfl (SlC.mono ha le1_4) (List.length_map _) a4 a4) ?_;refine cN (dB 1 (i:=((i_7':Int) / 8).toNat) (j:=0) rfl rfl rfl (SlC.mono ha le1_4) a4) ?_;refine dw ?_;refine cN (iT (a:=(i_7':Int)) (b:=(8:Int)) rfl rfl rfl g29) ?_;refine cN (Yv.shrK (a:=(nth a (((i_7':Int) / 8).toNat))) (b:=((i_7':Int) % 8)) rfl rfl rfl g30) ?_;refine cN (Yv.andK (a:=(shrK .u8 (nth a (((i_7':Int) / 8).toNat)) ((i_7':Int) % 8))) (b:=1) rfl rfl rfl) ?_;refine dZ ?_;have hq:=dW hk;clear hk;obtain ⟨k10,hk10,hk⟩:=hq; (try dsimp only at hk);refine cZ (ι:=List Int×Value×FzB w (fun _=>False) S0) (fun z=>[(0,va),(1,vb),(6,v11),(7,z.2.1),(8, .int .i64 (i_7':Int))]) (fun z=>[.sl v11 5 1 l_5.length (l_5.flatMap (eK .u8)), .fr z.2.2]) (fun z=>k10 z.1=some r∧SlC z.2.2.toFrz z.2.1 1 (z.1.map (eK .u8))∧F4.toFrz.Le z.2.2.toFrz) ?_ ?_
    ·refine T.cond rfl (fun h11=>?_) (fun h11=>?_)
     ·have p11:=of_decide_eq_true h11;replace hk:=dk hk h11;have hq:=dm hk;clear hk;obtain ⟨r35,hr35,hk⟩:=hq; (try dsimp only at hk);refine ee ?_;refine gG ?_;rintro _ _ ⟨g34,rfl,rfl⟩;refine q1K ?_;rintro F6 ⟨le4_6,hz6⟩;refine fi ?_;have hfF6:SlC F6.toFrz (.slice (some ⟨g34,0,none⟩) 1 1) 1 ([1].map (eK .u8)):=(SlK.lit hz6 rfl (Nat.le_refl _) a5).toF (xs:=[1]) rfl (fun _=>rfl);refine cS (df 1 rfl rfl rfl rfl (fun w hw hF=>zeK _ w hF r22 v22_0_0 (SlC.mono hf22_0_0 le4_6) [1] (.slice (some ⟨g34,0,none⟩) 1 1) hfF6 fuel r35 hr35)) ?_;rintro _ _ ⟨v35_0_0,F7,le6_7,hf35_0_0,hq,rfl⟩;obtain rfl:=hq.symm;have le4_7:=le4_6.trans le6_7;haveI:=hf35_0_0.oneC;refine iG ?_;exact cV (r35,v35_0_0,F7) ⟨hk,hf35_0_0,le4_7⟩ (.c (.c (.c (.c (.c .nil))))) (List.Sublist.refl _)
     ·have p11:=of_decide_eq_false h11;replace hk:=dj hk h11;refine T.skip ?_;exact cV (r22,v22_0_0,F4) ⟨hk,hf22_0_0,(Frz.Le.refl _)⟩ (.c (.c (.c (.c (.c .nil))))) (List.Sublist.refl _)
    ·rintro ⟨r_9,vr_9,F5⟩ ⟨hk,hr_9,le4_5⟩; (try dsimp only at *);rw [←hk10] at hk; (try dsimp only at hk);have le1_5:=le1_4.trans le4_5;haveI:=hr_9.oneC;refine gk ?_;refine cS (cY rfl rfl rfl (fun w hw=>zgC _ w (hw.fr (i:=1) rfl) r_9 vr_9 hr_9 b vb (SlC.mono hb le1_5))) ?_;refine ld ?_;refine T.cond rfl (fun h12=>?_) (fun h12=>?_)
     ·have p12:=of_decide_eq_true h12;replace hk:=dk hk h12;refine T.seq ?_;have hq:=dm hk;clear hk;obtain ⟨r42,hr42,hk⟩:=hq; (try dsimp only at hk);refine eE ?_;refine cS (df 1 rfl rfl rfl rfl (fun w hw hF=>zfj _ w hF r_9 vr_9 hr_9 b vb (SlC.mono hb le1_5) fuel r42 hr42)) ?_;rintro _ _ ⟨v42_0_0,F8,le5_8,hf42_0_0,hq,rfl⟩;obtain rfl:=hq.symm;have le1_8:=le1_5.trans le5_8;haveI:=hf42_0_0.oneC;refine dZ ?_;have hq:(0≤(i_7':Int)∧(i_7':Int)≤9223372036854775807∧1≤(8:Int))∧_:=dq hk;clear hk;obtain ⟨g45,hk⟩:=hq;have hq:(0≤(i_7':Int)∧(i_7':Int)≤9223372036854775807∧1≤(8:Int))∧_:=dq hk;clear hk;obtain ⟨g48,hk⟩:=hq;have hq:(0≤((i_7':Int) / 8)∧((i_7':Int) / 8)<(l_5.length:Int))∧_:=dq hk;clear hk;obtain ⟨g49,hk⟩:=hq;have hq:(0≤(i_7':Int)∧1≤(8:Int))∧_:=dq hk;clear hk;obtain ⟨g52,hk⟩:=hq; (try dsimp only at hk);refine dQ (sN 0 6 (sN 8 3 (.eff 6 (.eff 7 (.still 11 (.eff 12 (.eff 13 .done))))))) [.fr F8] a6 Sx ?_;refine fh ?_;refine cQ rfl (fA (a:=(i_7':Int)) (b:=(8:Int)) rfl rfl rfl g45) ?_;refine fh ?_;refine cQ rfl (fA (a:=(i_7':Int)) (b:=(8:Int)) rfl rfl rfl g48) ?_;refine fF ?_;refine cQ rfl (iT (a:=(i_7':Int)) (b:=(8:Int)) rfl rfl rfl g52) ?_;refine cQ rfl (Yv.shlK (a:=1) (b:=((i_7':Int) % 8)) rfl rfl rfl a4) ?_;refine q25 ?_;refine dF rfl (cP) rfl rfl (eg 0 rfl rfl rfl a4 (gv (enc:=(eK .u8)) (i:=((i_7':Int) / 8).toNat) (j:=0) (fun _=>rfl) a4 a5)) (fun w hw=>hw.sub Sx) ?_;refine cQ rfl (Yv.orK (a:=(nth l_5 (((i_7':Int) / 8).toNat))) (b:=(shlK .u8 1 ((i_7':Int) % 8)))) ?_;refine q25 ?_;refine dr rfl (cP) rfl (ef 0 (k':=(l_5.set (((i_7':Int) / 8).toNat) (orK .u8 (nth l_5 (((i_7':Int) / 8).toNat)) (shlK .u8 1 ((i_7':Int) % 8)))).length) (l':=(l_5.set (((i_7':Int) / 8).toNat) (orK .u8 (nth l_5 (((i_7':Int) / 8).toNat)) (shlK .u8 1 ((i_7':Int) % 8)))).flatMap (eK .u8)) rfl rfl rfl rfl a4 (gD (enc:=(eK .u8)) (xs:=l_5) (i:=((i_7':Int) / 8).toNat) (j:=0) (size:=1) (fun _=>rfl) a4 a5 b0) (gE (enc:=(eK .u8)) (xs:=l_5) (i:=((i_7':Int) / 8).toNat) (j:=0) (size:=1) (x:=(orK .u8 (nth l_5 (((i_7':Int) / 8).toNat)) (shlK .u8 1 ((i_7':Int) % 8)))) (fun _=>rfl) a4 a5 b0 rfl) (List.length_set ..)) ?_;refine q1w ?_;refine q2W ?_;rw [←hn6] at hk;exact K.next (i_7',r42,v42_0_0,(l_5.set (((i_7':Int) / 8).toNat) (orK .u8 (nth l_5 (((i_7':Int) / 8).toNat)) (shlK .u8 1 ((i_7':Int) % 8)))),F8) ⟨hk,a7,hf42_0_0,le1_8⟩ a7 (.c (.c (.c (.c (.c .nil))))) (List.Sublist.refl _)
     ·have p12:=of_decide_eq_false h12;replace hk:=dj hk h12;refine T.skip (eT (K.seq (T.region ?_)));refine q2W ?_;rw [←hn6] at hk;exact K.next (i_7',r_9,vr_9,l_5,F5) ⟨hk,a7,hr_9,le1_5⟩ a7 (.c (.c (.c (.c (.c .nil))))) (List.Sublist.refl _)
   ·have p8:=of_decide_eq_false h8;obtain rfl:i_7=0:=a4;replace hk:kk6 (r_4,l_5)=some r:=hk;rw [←hkk6] at hk; (try dsimp only at hk);refine eF ?_;exact cV (r_4,vr_4,l_5,F3) ⟨hk,hr_4,le1_3⟩ (.c (.c .nil)) (List.Sublist.refl _)
 ·rintro ⟨r_1,vr_1,l_2,F2⟩ ⟨hk,hr_1,le1_2⟩; (try dsimp only at *);rw [←hk3] at hk; (try dsimp only at hk);haveI:=hr_1.oneC;refine T.seq ?_;refine q1A ?_;rintro F9 ⟨le2_9,hz9⟩;refine fi ?_;have le1_9:=le1_2.trans le2_9;have hfF9:=hz9.toF rfl (fun _=>rfl);haveI:=hfF9.oneC;have hq:=dm hk;clear hk;obtain ⟨r57,hr57,hk⟩:=hq; (try dsimp only at hk);refine ee ?_;refine cS (df 0 rfl rfl rfl rfl (fun w hw hF=>zd7 _ w hF l_2 v11 hfF9 fuel r57 hr57)) ?_;rintro _ _ ⟨v57_0_0,F10,le9_10,hf57_0_0,hq,rfl⟩;obtain rfl:=hq.symm;have le1_10:=le1_9.trans le9_10;have le2_10:=le2_9.trans le9_10;haveI:=hf57_0_0.oneC;refine fu ?_;refine gA ?_;obtain rfl:=Option.some.inj hk;exact eQ rfl rfl rfl (fun w' hw=>⟨(v57_0_0,vr_1),F10.toFrz,⟨hf57_0_0,(SlC.mono hr_1 le2_10)⟩,rfl,dP hw (i:=0) rfl hS0 le1_10⟩)
def zbX (fuel:Nat)(neg:Bool)(a:List Int):Option GInt:=
 (zcn fuel a).bind fun r8=>
 dJ (fun (c_2:List Int)=>
  some (GInt.mk (neg&&(decide (0<(r8.length:Int)))) c_2))
 (fun k3=>
  fQ (fun (i_6:Nat) (next5:List Int→Option GInt) (c_4:List Int)=>
   dg (dz (c_4++[(nth r8 i_6)]).length 1) <|
   next5 (c_4++[(nth r8 i_6)]))
  (fun (c_4:List Int)=>
   k3 c_4) r8.length [])
theorem zdG (F0:Frz)(w:World)(hF0:F0.At w)(neg:Bool)(a:List Int)(va:Value)(ha:SlC F0 va 1 (a.map (eK .u8)))(fuel:Nat)(r:GInt)(hr:zbX fuel neg a=some r):Calls Tryz.prog 196 #[.bool neg,va] w fun e w'=>∃(y:Value) (G:Frz),(SlC G y 1 (r.Digits.map (eK .u8)))∧e= .returned (.agg [.bool r.Neg,y].toArray)∧Fx F0 w G w':=by
 have hk:=hr;unfold zbX at hk;haveI:=ha.oneC;obtain ⟨S0,F1,rfl,hS0,hp0⟩:=d4 hF0;refine dL Tryz.func196 rfl rfl rfl hp0 ?_;refine dN ?_;refine fH ?_;rintro _ _ ⟨g4,rfl,rfl⟩;refine e6 ?_;have hq:=dm hk;clear hk;obtain ⟨r8,hr8,hk⟩:=hq; (try dsimp only at hk);refine ee ?_;refine cS (df 1 rfl rfl rfl rfl (fun w hw hF=>zd7 _ w hF a va ha fuel r8 hr8)) ?_;rintro _ _ ⟨v8_0_0,F2,le1_2,hf8_0_0,hq,rfl⟩;obtain rfl:=hq.symm;haveI:=hf8_0_0.oneC;refine fK ?_;refine cZ (ι:=Nat) (fun z=>[(1,v8_0_0),(4, .pointer (some ⟨g4,0,none⟩)),(5, .pointer (some ⟨z,0,none⟩))]) (fun z=>[.row z 26 [.bool (neg&&(decide (0<(r8.length:Int)))),(.slice none 0 0)], .sl (.slice none 0 0) 5 1 ([]:List Int).length ([].flatMap (eK .u8)), .row g4 26 [.bool false,(.slice none 0 0)], .fr F2]) (fun z=>True) ?_ ?_
 ·refine eE ?_;refine c9 rfl rfl rfl (fun h1=>?_) (fun h1=>?_)
  ·refine dw ?_;refine cN (dh rfl rfl hf8_0_0 (List.length_map _)) ?_;have hm12:r8.length≤9223372036854775807:=(List.length_map _)▸hf8_0_0.max;refine d8 ?_;refine iK ?_;refine fH ?_;rintro _ _ ⟨g5,rfl,rfl⟩;refine TL.slNil 5 1 ?_;refine lh ?_;refine TL.slNil 5 1 ?_;refine fw ?_;refine K.pick [2,0,3,4] rfl a5 ?_;refine K.bK (hs':=[.row g5 26 [.bool (neg&&(decide (0<(r8.length:Int)))),(.slice none 0 0)], .sl (.slice none 0 0) 5 1 ([]:List Int).length ([].flatMap (eK .u8)), .row g4 26 [.bool false,(.slice none 0 0)], .fr F2]) (by rw [show ((neg&&(decide (0<(r8.length:Int)))))=decide (0<(r8.length:Int)) from (by first|exact (jI h1)|exact ((jI h1)).symm)] <;> rfl) ?_;exact cV g5 trivial (.c (.c (.c .nil))) (List.Sublist.refl _)
  ·refine jS ?_;refine iK ?_;refine fH ?_;rintro _ _ ⟨g5,rfl,rfl⟩;refine TL.slNil 5 1 ?_;refine lh ?_;refine TL.slNil 5 1 ?_;refine fw ?_;refine K.pick [2,0,3,4] rfl a5 ?_;refine K.bK (hs':=[.row g5 26 [.bool (neg&&(decide (0<(r8.length:Int)))),(.slice none 0 0)], .sl (.slice none 0 0) 5 1 ([]:List Int).length ([].flatMap (eK .u8)), .row g4 26 [.bool false,(.slice none 0 0)], .fr F2]) (by rw [show ((neg&&(decide (0<(r8.length:Int)))))=false from (by first|exact (gj h1).symm|exact ((gj h1).symm).symm)] <;> rfl) ?_;exact cV g5 trivial (.c (.c (.c .nil))) (List.Sublist.refl _)
 ·rintro g5 _; (try dsimp only at *);have hm12:r8.length≤9223372036854775807:=(List.length_map _)▸hf8_0_0.max;refine q3F ?_;refine cN (dh rfl rfl hf8_0_0 (List.length_map _)) ?_;refine iH ?_;refine dZ ?_;have hq:=dW hk;clear hk;obtain ⟨k3,hk3,hk⟩:=hq; (try dsimp only at hk);refine cZ (ι:=List Int×Value) (fun z=>[(4, .pointer (some ⟨g4,0,none⟩)),(5, .pointer (some ⟨g5,0,none⟩))]) (fun z=>[.sl z.2 5 1 z.1.length (z.1.flatMap (eK .u8)), .row g5 26 [.bool (neg&&(decide (0<(r8.length:Int)))),z.2], .row g4 26 [.bool false,(.slice none 0 0)], .fr F2]) (fun z=>k3 z.1=some r∧OneC z.2) ?_ ?_
  ·have hq:=zdt hk;clear hk;obtain ⟨f5,kk5,hf5,hkk5,hk⟩:=hq;refine eC ?_;refine T.pick [1,0,2,3] rfl a5 ?_;refine T.loop (ι:=Nat×List Int×Value) (fun z=>[(1,v8_0_0),(4, .pointer (some ⟨g4,0,none⟩)),(5, .pointer (some ⟨g5,0,none⟩)),(6, .int .i64 ((z.1:Int) - 1))]) (fun z=>[.sl z.2.2 5 1 z.2.1.length (z.2.1.flatMap (eK .u8)), .row g5 26 [.bool (neg&&(decide (0<(r8.length:Int)))),z.2.2], .row g4 26 [.bool false,(.slice none 0 0)], .fr F2]) (fun z=>fQ f5 kk5 z.1 z.2.1=some r∧z.1≤r8.length∧OneC z.2.2) (fun z=>z.1) (r8.length,[],(.slice none 0 0)) ?_ ?_ ?_ ?_
   ·exact ⟨hk,(Nat.le_refl _),inferInstance⟩
   ·exact iV
   ·exact eA
   ·rintro ⟨i_6,c_4,vc_4⟩ ⟨hk,hle5,oc_4⟩; (try dsimp only at *);refine kE ?_;refine T.cond rfl (fun h7=>?_) (fun h7=>?_)
    ·have p7:=of_decide_eq_true h7;obtain ⟨i_6',rfl⟩:∃q,i_6=q+1:=⟨i_6 - 1,by omega⟩;replace hk:f5 i_6' (fQ f5 kk5 i_6') c_4=some r:=hk;generalize hn5:fQ f5 kk5 i_6'=next5 at hk;rw [←hf5] at hk; (try dsimp only at hk);refine jW (gs:=[(1,v8_0_0),(4, .pointer (some ⟨g4,0,none⟩)),(5, .pointer (some ⟨g5,0,none⟩)),(6, .int .i64 (i_6':Int))]) (by repeat (first|exact Sub.nil|refine Sub.cons rfl ?_|refine eM rfl a4 ?_|refine eO rfl b6 ?_)) (List.Sublist.refl _) ?_;refine T.skip (K.seq (T.seq (T.block ?_)));have hq:(dz (c_4++[(nth r8 i_6')]).length 1)∧_:=dq hk;clear hk;obtain ⟨g30,hk⟩:=hq; (try dsimp only at hk);refine dQ (.still 0 (.still 2 (.still 3 (.still 4 (.still 5 (.two 1 6 (.eff 6 (.eff 7 (.still 8 (.eff 9 .done)))) (.eff 1 (.eff 7 (.still 8 (.eff 9 .done)))))))))) [.row g4 26 [.bool false,(.slice none 0 0)], .fr F2] a6 Sx ?_;refine ip ?_;refine fh ?_;refine cQ rfl (de (i:=i_6') rfl rfl rfl hf8_0_0 (List.length_map _) rfl a4) ?_;refine cQ rfl (dB 1 (i:=i_6') (j:=0) rfl rfl rfl hf8_0_0 a4) ?_;refine TS.two ?_ ?_
     ·refine dF rfl (cP) rfl rfl (dc 1) (fun w hw=>hw.sub Sx) ?_;refine dH ?_;refine q1b ?_;rintro _ _ ⟨g29,rfl,rfl⟩;refine iB ?_;refine q2Y ?_;rintro v30 _ ⟨hv30,rfl⟩;refine q3u ?_;rw [←hn5] at hk;refine K.pick [1,2,3,4] rfl a5 ?_;exact q4v
     ·refine q1b ?_;rintro _ _ ⟨g29,rfl,rfl⟩;refine iB ?_;refine dH ?_;refine dF rfl (cP) rfl rfl (dc 2) (fun w hw=>hw.sub Sx) ?_;refine q2Y ?_;rintro v30 _ ⟨hv30,rfl⟩;refine q3u ?_;rw [←hn5] at hk;refine K.pick [1,2,3,4] rfl a5 ?_;exact q4v
    ·have p7:=of_decide_eq_false h7;obtain rfl:i_6=0:=a4;replace hk:kk5 c_4=some r:=hk;rw [←hkk5] at hk; (try dsimp only at hk);refine eF ?_;exact cV (c_4,vc_4) ⟨hk,inferInstance⟩ (.c (.c .nil)) (List.Sublist.refl _)
  ·rintro ⟨c_2,vc_2⟩ ⟨hk,oc_2⟩; (try dsimp only at *);rw [←hk3] at hk; (try dsimp only at hk);refine dN ?_;refine q19 ?_;refine q29 ?_;refine gA ?_;refine ky (fun w hw=>hw.freezeS (i:=3) (j:=0) a5 rfl rfl) ?_;rintro F3 ⟨le2_3,hz3⟩;refine fi ?_;have le1_3:=le1_2.trans le2_3;have hfF3:=hz3.toF rfl (fun _=>rfl);haveI:=hfF3.oneC;obtain rfl:=Option.some.inj hk;exact iX 1 rfl rfl rfl rfl (fun w' hw=>⟨vc_2,F3.toFrz,hfF3,rfl,dP hw (i:=2) rfl hS0 le1_3⟩)
def zcz (fuel:Nat)(a:GInt)(b:GInt):Option GInt:=
 (zb8 a).bind fun r10=>
 (zb8 b).bind fun r12=>
 dJ (fun (x_1:List Int)=>
  (zbX fuel false x_1).bind fun r25=>
  some r25)
 (fun k2=>
  eR (fun (next5:(List Int×List Int)→Option GInt) (s5:List Int×List Int)=>
   (bif decide (0<(s5.2.length:Int)) then
    (zcH fuel s5.1 s5.2).bind fun r19=>
    next5 (s5.2,r19.2)
    else
    k2 s5.1)) fuel (r10,r12))
theorem ze1 (F0:Frz)(w:World)(hF0:F0.At w)(a:GInt)(va_1:Value)(ha_1:SlC F0 va_1 1 (a.Digits.map (eK .u8)))(b:GInt)(vb_1:Value)(hb_1:SlC F0 vb_1 1 (b.Digits.map (eK .u8)))(fuel:Nat)(r:GInt)(hr:zcz fuel a b=some r):Calls Tryz.prog 130 #[.agg [.bool a.Neg,va_1].toArray, .agg [.bool b.Neg,vb_1].toArray] w fun e w'=>∃(y:Value) (G:Frz),(SlC G y 1 (r.Digits.map (eK .u8)))∧e= .returned (.agg [.bool r.Neg,y].toArray)∧Fx F0 w G w':=by
 have hk:=hr;unfold zcz at hk;haveI:=ha_1.oneC;haveI:=hb_1.oneC;obtain ⟨S0,F1,rfl,hS0,hp0⟩:=d4 hF0;refine dL Tryz.func130 rfl rfl rfl hp0 ?_;refine gi ?_;rintro _ _ ⟨g2,rfl,rfl⟩;refine lr ?_;rintro _ _ ⟨g3,rfl,rfl⟩;refine fH ?_;rintro _ _ ⟨g4,rfl,rfl⟩;refine e6 ?_;have hq:=dm hk;clear hk;obtain ⟨r10,hr10,hk⟩:=hq;have hq:=dm hk;clear hk;obtain ⟨r12,hr12,hk⟩:=hq; (try dsimp only at hk);refine q26 ?_;refine cQ rfl (eB 1) ?_;refine dH ?_;refine cX rfl (cP) rfl rfl (df 3 rfl rfl rfl rfl (fun w hw hF=>zdq _ w hF a va_1 ha_1 r10 hr10)) ?_;rintro _ _ ⟨v10_0_0,F2,le1_2,hf10_0_0,hq,rfl⟩;obtain rfl:=hq.symm;haveI:=hf10_0_0.oneC;refine ⟨(fun w hw=>(hw.frLe (i:=3) rfl le1_2).sub Sx),?_⟩;refine dH ?_;refine cX rfl (cP) rfl rfl (df 3 rfl rfl rfl rfl (fun w hw hF=>zdq _ w hF b vb_1 (SlC.mono hb_1 le1_2) r12 hr12)) ?_;rintro _ _ ⟨v12_0_0,F3,le2_3,hf12_0_0,hq,rfl⟩;obtain rfl:=hq.symm;have le1_3:=le1_2.trans le2_3;haveI:=hf12_0_0.oneC;refine ⟨(fun w hw=>(hw.frLe (i:=3) rfl le1_3).sub Sx),?_⟩;refine fh ?_;refine kU ?_;have hq:=dW hk;clear hk;obtain ⟨k2,hk2,hk⟩:=hq; (try dsimp only at hk);refine cZ (ι:=List Int×Value×FzB w (fun _=>False) S0) (fun z=>[(4, .pointer (some ⟨g4,0,none⟩)),(5,z.2.1)]) (fun z=>[.row g4 26 [.bool false,(.slice none 0 0)], .fr z.2.2]) (fun z=>k2 z.1=some r∧SlC z.2.2.toFrz z.2.1 1 (z.1.map (eK .u8))∧F3.toFrz.Le z.2.2.toFrz) ?_ ?_
 ·have hq:=jC hk;clear hk;obtain ⟨f5,hf5,hk⟩:=hq;refine eC ?_;refine T.pick [0,3] rfl a5 ?_;refine T.loop (ι:=Nat×List Int×Value×List Int×Value×FzB w (fun _=>False) S0) (fun z=>[(4, .pointer (some ⟨g4,0,none⟩)),(5,z.2.2.1),(6,z.2.2.2.2.1)]) (fun z=>[.row g4 26 [.bool false,(.slice none 0 0)], .fr z.2.2.2.2.2]) (fun z=>eR f5 z.1 (z.2.1,z.2.2.2.1)=some r∧SlC z.2.2.2.2.2.toFrz z.2.2.1 1 (z.2.1.map (eK .u8))∧SlC z.2.2.2.2.2.toFrz z.2.2.2.2.1 1 (z.2.2.2.1.map (eK .u8))∧F3.toFrz.Le z.2.2.2.2.2.toFrz) (fun z=>z.1) (fuel,r10,v10_0_0,r12,v12_0_0,F3) ?_ ?_ ?_ ?_
  ·exact ⟨hk,(SlC.mono hf10_0_0 le2_3),hf12_0_0,(Frz.Le.refl _)⟩
  ·exact q3V
  ·exact eA
  ·rintro ⟨m_6,x_3,vx_3,y_4,vy_4,F5⟩ ⟨hk,hx_3,hy_4,le3_5⟩; (try dsimp only at *);haveI:=hx_3.oneC;haveI:=hy_4.oneC;have hq:=jG hk;clear hk;obtain ⟨m_6',rfl,hk⟩:=hq;generalize hn5:eR f5 m_6'=next5 at hk;rw [←hf5] at hk; (try dsimp only at hk);refine q3F ?_;refine cN (dh rfl rfl hy_4 (List.length_map _)) ?_;have hm14:y_4.length≤9223372036854775807:=(List.length_map _)▸hy_4.max;refine dZ ?_;refine T.cond rfl (fun h7=>?_) (fun h7=>?_)
   ·have p7:=of_decide_eq_true h7;replace hk:=dk hk h7;refine T.skip (K.seq (T.block (T.seq ?_)));have hq:=dm hk;clear hk;obtain ⟨r19,hr19,hk⟩:=hq; (try dsimp only at hk);refine eE ?_;refine cS (df 1 rfl rfl rfl rfl (fun w hw hF=>zfa _ w hF x_3 vx_3 hx_3 y_4 vy_4 hy_4 fuel r19 hr19)) ?_;rintro _ _ ⟨⟨v19_0_0,v19_1_0⟩,F6,le5_6,⟨hf19_0_0,hf19_1_0⟩,rfl,rfl⟩;dsimp only at hf19_0_0 hf19_1_0 ⊢;have le3_6:=le3_5.trans le5_6;haveI:=hf19_0_0.oneC;haveI:=hf19_1_0.oneC;refine iq ?_;refine c7 (T.region ?_);refine jS ?_;refine TL.nil (eT ?_);rw [←hn5] at hk;exact K.next (m_6',y_4,vy_4,r19.2,v19_1_0,F6) ⟨hk,(SlC.mono hy_4 le5_6),hf19_1_0,le3_6⟩ a7 (.c (.c (.c .nil))) (List.Sublist.refl _)
   ·have p7:=of_decide_eq_false h7;replace hk:=dj hk h7;refine eF ?_;exact cV (x_3,vx_3,F5) ⟨hk,hx_3,le3_5⟩ (.c (.c .nil)) (List.Sublist.refl _)
 ·rintro ⟨x_1,vx_1,F4⟩ ⟨hk,hx_1,le3_4⟩; (try dsimp only at *);rw [←hk2] at hk; (try dsimp only at hk);have le1_4:=le1_3.trans le3_4;haveI:=hx_1.oneC;refine T.seq ?_;have hq:=dm hk;clear hk;obtain ⟨r25,hr25,hk⟩:=hq; (try dsimp only at hk);refine ee ?_;refine cS (df 1 rfl rfl rfl rfl (fun w hw hF=>zdG _ w hF false x_1 vx_1 hx_1 fuel r25 hr25)) ?_;rintro _ _ ⟨v25_0_1,F7,le4_7,hf25_0_1,rfl,rfl⟩;have le1_7:=le1_4.trans le4_7;haveI:=hf25_0_1.oneC;refine fM ?_;refine gA ?_;obtain rfl:=Option.some.inj hk;exact iX 0 rfl rfl rfl rfl (fun w' hw=>⟨v25_0_1,F7.toFrz,hf25_0_1,rfl,dP hw (i:=1) rfl hS0 le1_7⟩)
def zdr (fuel:Nat)(n:Int):Option GInt:=
 dJ (fun (out_1:List Int)=>
  (zbX fuel (decide (n<0)) out_1).bind fun r25=>
  some r25)
 (fun k2=>
  eR (fun (next5:(List Int×Int)→Option GInt) (s5:List Int×Int)=>
   (bif decide (¬s5.2=0) then
    dg (0≤s5.2∧1≤(256:Int)) <|
    dJ (fun (d_8:Int)=>
     dg (dz (s5.1++[(IntKind.u8.wrap d_8)]).length 1) <|
     dg (0≤s5.2∧s5.2≤9223372036854775807∧1≤(256:Int)) <|
     next5 ((s5.1++[(IntKind.u8.wrap d_8)]),(s5.2 / 256)))
    (fun k9=>
     (bif decide ((s5.2 % 256)<0) then
      k9 (wI (0 - (s5.2 % 256)))
      else
      k9 (s5.2 % 256)))
    else
    k2 s5.1)) fuel ([],n))
theorem zfz (F0:Frz)(w:World)(hF0:F0.At w)(n:Int)(fuel:Nat)(r:GInt)(hr:zdr fuel n=some r):Calls Tryz.prog 117 #[.int .i64 n] w fun e w'=>∃(y:Value) (G:Frz),(SlC G y 1 (r.Digits.map (eK .u8)))∧e= .returned (.agg [.bool r.Neg,y].toArray)∧Fx F0 w G w':=by
 have hk:=hr;unfold zdr at hk;obtain ⟨S0,F1,rfl,hS0,hp0⟩:=d4 hF0;refine dL Tryz.func117 rfl rfl rfl hp0 ?_;refine dN ?_;refine fH ?_;rintro _ _ ⟨g2,rfl,rfl⟩;refine iv ?_;refine TL.slNil 5 1 ?_;refine lg ?_;have hq:=dW hk;clear hk;obtain ⟨k2,hk2,hk⟩:=hq; (try dsimp only at hk);refine cZ (ι:=List Int×Value) (fun z=>[(0, .int .i64 n),(2, .pointer (some ⟨g2,0,none⟩)),(3,z.2)]) (fun z=>[.sl z.2 5 1 z.1.length (z.1.flatMap (eK .u8)), .row g2 26 [.bool false,(.slice none 0 0)], .fr F1]) (fun z=>k2 z.1=some r∧OneC z.2) ?_ ?_
 ·have hq:=jC hk;clear hk;obtain ⟨f5,hf5,hk⟩:=hq;refine eC ?_;refine T.loop (ι:=Nat×List Int×Value×Int) (fun z=>[(0, .int .i64 n),(2, .pointer (some ⟨g2,0,none⟩)),(3,z.2.2.1),(4, .int .i64 z.2.2.2)]) (fun z=>[.sl z.2.2.1 5 1 z.2.1.length (z.2.1.flatMap (eK .u8)), .row g2 26 [.bool false,(.slice none 0 0)], .fr F1]) (fun z=>eR f5 z.1 (z.2.1,z.2.2.2)=some r∧OneC z.2.2.1) (fun z=>z.1) (fuel,[],(.slice none 0 0),n) ?_ ?_ ?_ ?_
  ·exact q3Y
  ·exact iV
  ·exact eA
  ·rintro ⟨m_6,out_3,vout_3,m_4⟩ ⟨hk,oout_3⟩; (try dsimp only at *);have hq:=jG hk;clear hk;obtain ⟨m_6',rfl,hk⟩:=hq;generalize hn5:eR f5 m_6'=next5 at hk;rw [←hf5] at hk; (try dsimp only at hk);refine kE ?_;refine T.cond rfl (fun h7=>?_) (fun h7=>?_)
   ·have p7:=of_decide_eq_true h7;replace hk:=dk hk h7;refine T.skip (K.seq (T.seq (T.block (T.seq ?_))));have hq:(0≤m_4∧1≤(256:Int))∧_:=dq hk;clear hk;obtain ⟨g12,hk⟩:=hq; (try dsimp only at hk);refine ee ?_;refine cN (iT (a:=m_4) (b:=(256:Int)) rfl rfl rfl g12) ?_;refine lf ?_;have hq:=dW hk;clear hk;obtain ⟨k9,hk9,hk⟩:=hq; (try dsimp only at hk);refine cZ (ι:=Int) (fun z=>[(0, .int .i64 n),(2, .pointer (some ⟨g2,0,none⟩)),(3,vout_3),(4, .int .i64 m_4),(5, .int .i64 z)]) (fun z=>[.sl vout_3 5 1 out_3.length (out_3.flatMap (eK .u8)), .row g2 26 [.bool false,(.slice none 0 0)], .fr F1]) (fun z=>k9 z=some r) ?_ ?_
    ·refine T.cond rfl (fun h10=>?_) (fun h10=>?_)
     ·have p10:=of_decide_eq_true h10;replace hk:=dk hk h10;refine ee ?_;refine cN (gR) ?_;refine iG ?_;exact cV (wI (0 - (m_4 % 256))) hk (.c (.c (.c (.c (.c .nil))))) (List.Sublist.refl _)
     ·have p10:=of_decide_eq_false h10;replace hk:=dj hk h10;refine T.skip ?_;exact cV (m_4 % 256) hk (.c (.c (.c (.c (.c .nil))))) (List.Sublist.refl _)
    ·rintro d_8 hk;rw [←hk9] at hk; (try dsimp only at hk);have hq:(dz (out_3++[(IntKind.u8.wrap d_8)]).length 1)∧_:=dq hk;clear hk;obtain ⟨g21,hk⟩:=hq; (try dsimp only at hk);refine eE ?_;refine cN (dO (z:=d_8)) ?_;refine gG ?_;rintro _ _ ⟨g20,rfl,rfl⟩;refine cS (gu 1 0 rfl rfl rfl rfl rfl rfl (zdo (ys:=[(IntKind.u8.wrap d_8)])) (zcN (enc:=(eK .u8)) (xs:=out_3) (ys:=[(IntKind.u8.wrap d_8)])) g21 a5) ?_;rintro v21 _ ⟨hv21,rfl⟩;refine dw ?_;refine TL.nil (eT (K.seq ?_));have hq:(0≤m_4∧m_4≤9223372036854775807∧1≤(256:Int))∧_:=dq hk;clear hk;obtain ⟨g10,hk⟩:=hq; (try dsimp only at hk);refine ee ?_;refine cN (fA (a:=m_4) (b:=(256:Int)) rfl rfl rfl g10) ?_;refine iG ?_;rw [←hn5] at hk;refine K.pick [1,2,3] rfl a5 ?_;exact K.next (m_6',(out_3++[(IntKind.u8.wrap d_8)]),v21,(m_4 / 256)) ⟨hk,inferInstance⟩ a7 (.c (.c (.c (.c .nil)))) (List.Sublist.refl _)
   ·have p7:=of_decide_eq_false h7;replace hk:=dj hk h7;refine eF ?_;exact cV (out_3,vout_3) ⟨hk,inferInstance⟩ (.c (.c (.c .nil))) (List.Sublist.refl _)
 ·rintro ⟨out_1,vout_1⟩ ⟨hk,oout_1⟩; (try dsimp only at *);rw [←hk2] at hk; (try dsimp only at hk);refine T.seq ?_;refine i9 (fun w hw=>hw.freezeS (i:=2) (j:=0) a5 rfl rfl) ?_;rintro F2 ⟨le1_2,hz2⟩;refine fi ?_;have hfF2:=hz2.toF rfl (fun _=>rfl);haveI:=hfF2.oneC;have hq:=dm hk;clear hk;obtain ⟨r25,hr25,hk⟩:=hq; (try dsimp only at hk);refine gX ?_;refine cS (df 1 rfl rfl rfl rfl (fun w hw hF=>zdG _ w hF (decide (n<0)) out_1 vout_1 hfF2 fuel r25 hr25)) ?_;rintro _ _ ⟨v25_0_1,F3,le2_3,hf25_0_1,rfl,rfl⟩;have le1_3:=le1_2.trans le2_3;haveI:=hf25_0_1.oneC;refine fM ?_;refine gA ?_;obtain rfl:=Option.some.inj hk;exact iX 0 rfl rfl rfl rfl (fun w' hw=>⟨v25_0_1,F3.toFrz,hf25_0_1,rfl,dP hw (i:=1) rfl hS0 le1_3⟩)
def zc5 (a:GInt)(b:GInt):Bool:=
 ((a.Neg == b.Neg)&&((iD a.Digits) == (iD b.Digits)))
theorem zgQ (F0:Frz)(w:World)(hF0:F0.At w)(a:GInt)(va_1:Value)(ha_1:SlC F0 va_1 1 (a.Digits.map (eK .u8)))(b:GInt)(vb_1:Value)(hb_1:SlC F0 vb_1 1 (b.Digits.map (eK .u8))):Calls Tryz.prog 129 #[.agg [.bool a.Neg,va_1].toArray, .agg [.bool b.Neg,vb_1].toArray] w fun e w'=>e= .returned (.bool (zc5 a b))∧Below w.heap.size w w':=by
 obtain ⟨r,hk⟩:∃r,zc5 a b=r:=⟨_,rfl⟩;rw [hk];unfold zc5 at hk;haveI:=ha_1.oneC;haveI:=hb_1.oneC;obtain ⟨S0,F1,rfl,hS0,hp0⟩:=d4 hF0;refine dL Tryz.func129 rfl rfl rfl hp0 ?_;refine gi ?_;rintro _ _ ⟨g2,rfl,rfl⟩;refine lr ?_;rintro _ _ ⟨g3,rfl,rfl⟩;refine fK ?_;refine cZ (ι:=Unit) (fun z=>[(4, .bool ((a.Neg == b.Neg)&&((iD a.Digits) == (iD b.Digits))))]) (fun z=>[.row g3 26 [.bool b.Neg,vb_1], .row g2 26 [.bool a.Neg,va_1], .fr F1]) (fun z=>True) ?_ ?_
 ·refine eP ?_;refine jU ?_;refine fD ?_;refine cN (kO a6 rfl rfl rfl) ?_;refine dw ?_;refine c9 rfl rfl rfl (fun h1=>?_) (fun h1=>?_)
  ·refine jU ?_;refine cN (lk 2 (e:=5) a6 a6 a6 rfl rfl rfl ha_1) ?_;refine fD ?_;refine cN (lk 2 (e:=5) a6 a6 a6 rfl rfl rfl hb_1) ?_;refine cN (Yv.bX (a:=(iD a.Digits)) (b:=(iD b.Digits)) rfl rfl rfl) ?_;refine jf ?_;exact q4a
  ·refine q3t ?_;exact q4b
 ·rintro _ _;refine T.ret ?_;subst hk;exact dX
def zda (fuel:Nat)(a:GRatio):Option Bool:=
 (zb2 a.Num).bind fun r5=>
 dJ (fun (x_1:Bool)=>
  some x_1)
 (fun k2=>
  (bif r5 then
   (zb2 a.Den).bind fun r9=>
   (bif r9 then
    (bif !a.Den.Neg then
     (zcz fuel a.Num a.Den).bind fun r22=>
     (zdr fuel 1).bind fun r23=>
     (bif (zc5 r22 r23) then
      k2 (decide (0<(a.Den.Digits.length:Int)))
      else
      k2 false)
     else
     k2 false)
    else
    k2 false)
   else
   k2 false))
theorem zgG (F0:Frz)(w:World)(hF0:F0.At w)(a:GRatio)(va_1:Value)(ha_1:SlC F0 va_1 1 (a.Num.Digits.map (eK .u8)))(va_3:Value)(ha_3:SlC F0 va_3 1 (a.Den.Digits.map (eK .u8)))(fuel:Nat)(r:Bool)(hr:zda fuel a=some r):Calls Tryz.prog 49 #[.agg [.bool a.Num.Neg,va_1, .bool a.Den.Neg,va_3].toArray] w fun e w'=>e= .returned (.bool r)∧Below w.heap.size w w':=by
 have hk:=hr;unfold zda at hk;haveI:=ha_1.oneC;haveI:=ha_3.oneC;obtain ⟨S0,F1,rfl,hS0,hp0⟩:=d4 hF0;refine dL Tryz.func49 rfl rfl rfl hp0 ?_;refine gi ?_;rintro _ _ ⟨g1,rfl,rfl⟩;refine fK ?_;have hq:=dm hk;clear hk;obtain ⟨r5,hr5,hk⟩:=hq; (try dsimp only at hk);have hq:=dW hk;clear hk;obtain ⟨k2,hk2,hk⟩:=hq; (try dsimp only at hk);refine cZ (ι:=Bool×FzB w (fun _=>False) S0) (fun z=>[(2, .bool z.1)]) (fun z=>[.fr z.2]) (fun z=>k2 z.1=some r∧F1.toFrz.Le z.2.toFrz) ?_ ?_
 ·refine eP ?_;refine q2p ?_;refine cS (cY rfl rfl rfl (fun w hw=>zfo _ w (hw.fr (i:=1) rfl) a.Num va_1 ha_1 r5 hr5)) ?_;refine d6 ?_;refine dw ?_;refine c9 rfl rfl rfl (fun h3=>?_) (fun h3=>?_)
  ·replace hk:=dk hk h3;refine q2j ?_;have hq:=dm hk;clear hk;obtain ⟨r9,hr9,hk⟩:=hq;refine cS (cY rfl rfl rfl (fun w hw=>zfo _ w (hw.fr (i:=1) rfl) a.Den va_3 ha_3 r9 hr9)) ?_;refine iM ?_;refine c9 rfl rfl rfl (fun h4=>?_) (fun h4=>?_)
   ·replace hk:=dk hk h4;refine ft ?_;refine jb ?_;refine c9 rfl rfl rfl (fun h5=>?_) (fun h5=>?_)
    ·replace hk:=dk hk h5;refine q2p ?_;refine q2j ?_;have hq:=dm hk;clear hk;obtain ⟨r22,hr22,hk⟩:=hq;refine cS (df 1 rfl rfl rfl rfl (fun w hw hF=>ze1 _ w hF a.Num va_1 ha_1 a.Den va_3 ha_3 fuel r22 hr22)) ?_;rintro _ _ ⟨v22_0_1,F3,le1_3,hf22_0_1,rfl,rfl⟩;haveI:=hf22_0_1.oneC;have hq:=dm hk;clear hk;obtain ⟨r23,hr23,hk⟩:=hq;refine cS (df 1 rfl rfl rfl rfl (fun w hw hF=>zfz _ w hF 1 fuel r23 hr23)) ?_;rintro _ _ ⟨v23_0_1,F4,le3_4,hf23_0_1,rfl,rfl⟩;have le1_4:=le1_3.trans le3_4;haveI:=hf23_0_1.oneC;refine cS (cY rfl rfl rfl (fun w hw=>zgQ _ w (hw.fr (i:=1) rfl) r22 v22_0_1 (SlC.mono hf22_0_1 le3_4) r23 v23_0_1 hf23_0_1)) ?_;refine iM ?_;refine c9 rfl rfl rfl (fun h6=>?_) (fun h6=>?_)
     ·replace hk:=dk hk h6;refine ft ?_;refine fD ?_;refine cN (dh rfl rfl (SlC.mono ha_3 le1_4) (List.length_map _)) ?_;have hm30:a.Den.Digits.length≤9223372036854775807:=(List.length_map _)▸(SlC.mono ha_3 le1_4).max;refine fu ?_;refine kx ?_;exact cV (decide (0<(a.Den.Digits.length:Int)),F4) ⟨hk,le1_4⟩ (.c .nil) (List.Sublist.refl _)
     ·replace hk:=dj hk h6;refine TL.run 7 rfl ?_;refine kx ?_;exact cV (false,F4) ⟨hk,le1_4⟩ (.c .nil) (List.Sublist.refl _)
    ·replace hk:=dj hk h5;refine TL.run 16 rfl ?_;refine kx ?_;exact q4d
   ·replace hk:=dj hk h4;refine TL.run 22 rfl ?_;refine kx ?_;exact q4d
  ·replace hk:=dj hk h3;refine TL.run 27 rfl ?_;refine kx ?_;exact q4d
 ·rintro ⟨x_1,F2⟩ ⟨hk,le1_2⟩; (try dsimp only at *);rw [←hk2] at hk; (try dsimp only at hk);refine T.ret ?_;obtain rfl:=Option.some.inj hk;exact dX
def jT (n:GInt):Int:=
 (bif (n.Neg||(decide (2<(n.Digits.length:Int)))) then
  (-1)
  else
  dJ (fun (out_3:Int)=>
   out_3)
  (fun k4=>
   dG (fun (i_7:Nat) (next6:Int→Int) (out_5:Int)=>
    next6 (wI ((wI (out_5*256))+(wI (nth n.Digits i_7)))))
   (fun (out_5:Int)=>
    k4 out_5) (n.Digits.length - 0) 0 0))
theorem zfi (F0:Frz)(w:World)(hF0:F0.At w)(n:GInt)(vn_1:Value)(hn_1:SlC F0 vn_1 1 (n.Digits.map (eK .u8))):Calls Tryz.prog 50 #[.agg [.bool n.Neg,vn_1].toArray] w fun e w'=>e= .returned (.int .i64 (jT n))∧Below w.heap.size w w':=by
 obtain ⟨r,hk⟩:∃r,jT n=r:=⟨_,rfl⟩;rw [hk];unfold jT at hk;haveI:=hn_1.oneC;obtain ⟨S0,F1,rfl,hS0,hp0⟩:=d4 hF0;refine dL Tryz.func50 rfl rfl rfl hp0 ?_;refine gi ?_;rintro _ _ ⟨g1,rfl,rfl⟩;refine jH ?_;refine cZ (ι:=Unit) (fun z=>[(1, .pointer (some ⟨g1,0,none⟩)),(12, .bool (n.Neg||(decide (2<(n.Digits.length:Int)))))]) (fun z=>[.row g1 26 [.bool n.Neg,vn_1], .fr F1]) (fun z=>True) ?_ ?_
 ·refine eP ?_;refine jg ?_;refine c9 rfl rfl rfl (fun h1=>?_) (fun h1=>?_)
  ·refine jK ?_;exact cV () trivial (.c (.b (fT h1).symm .nil)) (List.Sublist.refl _)
  ·refine fD ?_;refine cN (dh rfl rfl hn_1 (List.length_map _)) ?_;have hm10:n.Digits.length≤9223372036854775807:=(List.length_map _)▸hn_1.max;refine jf ?_;exact cV () trivial (.c (.b (gh h1) .nil)) (List.Sublist.refl _)
 ·rintro _ _;have hm10:n.Digits.length≤9223372036854775807:=(List.length_map _)▸hn_1.max;refine T.cond rfl (fun h2=>?_) (fun h2=>?_)
  ·replace hk:=dk hk h2;refine gY ?_;subst hk;exact dX
  ·have p2:=h2; (try simp only [jd] at p2);replace hk:=dj hk h2;refine jB ?_;refine it ?_;refine c7 ?_;have hq:=dW hk;clear hk;obtain ⟨k4,hk4,hk⟩:=hq; (try dsimp only at hk);refine cZ (ι:=Int) (fun z=>[(3, .int .i64 z)]) (fun z=>[.fr F1]) (fun z=>k4 z=r) ?_ ?_
   ·have hq:=fx hk;clear hk;obtain ⟨f6,kk6,hf6,hkk6,hk⟩:=hq;refine eC ?_;refine T.loop (ι:=Nat×Int) (fun z=>[(1, .pointer (some ⟨g1,0,none⟩)),(3, .int .i64 z.2),(4, .int .i64 (z.1:Int))]) (fun z=>[.row g1 26 [.bool n.Neg,vn_1], .fr F1]) (fun z=>dG f6 kk6 (n.Digits.length - z.1) z.1 z.2=r) (fun z=>n.Digits.length - z.1) (0,0) ?_ ?_ ?_ ?_
    ·exact hk
    ·exact q3V
    ·exact eA
    ·rintro ⟨i_7,out_5⟩ hk; (try dsimp only at *);refine q3F ?_;refine fD ?_;refine cN (dh rfl rfl hn_1 (List.length_map _)) ?_;refine dZ ?_;refine T.cond rfl (fun h8=>?_) (fun h8=>?_)
     ·have p8:=of_decide_eq_true h8;rw [fv a4] at hk;generalize hn6:dG f6 kk6 (n.Digits.length - (i_7+1)) (i_7+1)=next6 at hk;rw [←hf6] at hk; (try dsimp only at hk);refine T.skip (K.seq (T.seq (T.block (T.region ?_))));refine dw ?_;refine cN (c8 (v:= .int .i64 (wI (out_5*256)))) ?_;refine jg ?_;refine cN (de (i:=i_7) rfl rfl rfl hn_1 (List.length_map _) rfl a4) ?_;refine cN (dB 1 (i:=i_7) (j:=0) rfl rfl rfl hn_1 a4) ?_;refine cN (dO (z:=(nth n.Digits i_7))) ?_;refine cN (c8 (v:= .int .i64 (wI ((wI (out_5*256))+(wI (nth n.Digits i_7)))))) ?_;refine q2o ?_;refine iR ?_;rw [←hn6] at hk;exact K.next ((i_7+1),wI ((wI (out_5*256))+(wI (nth n.Digits i_7)))) hk a7 (.c (.c (.c .nil))) (List.Sublist.refl _)
     ·have p8:=of_decide_eq_false h8;rw [fy a4,←hkk6] at hk; (try dsimp only at hk);refine eF ?_;refine q3p ?_;exact cV out_5 hk (.c .nil) (List.Sublist.refl _)
   ·rintro out_3 hk;rw [←hk4] at hk; (try dsimp only at hk);refine kN ?_;subst hk;exact dX
def zcJ (fuel:Nat)(p:GRatio):Option Bool:=
 (zda fuel p).bind fun r6=>
 (bif !r6 then
  some false
  else
  some ((((decide (0≤(jT p.Num)))&&(decide (1≤(jT p.Den))))&&(decide ((jT p.Den)≤1000)))&&(decide ((jT p.Num)≤(jT p.Den)))))
theorem zgy (F0:Frz)(w:World)(hF0:F0.At w)(p:GRatio)(vp_1:Value)(hp_1:SlC F0 vp_1 1 (p.Num.Digits.map (eK .u8)))(vp_3:Value)(hp_3:SlC F0 vp_3 1 (p.Den.Digits.map (eK .u8)))(fuel:Nat)(r:Bool)(hr:zcJ fuel p=some r):Calls Tryz.prog 15 #[.agg [.bool p.Num.Neg,vp_1, .bool p.Den.Neg,vp_3].toArray] w fun e w'=>e= .returned (.bool r)∧Below w.heap.size w w':=by
 have hk:=hr;unfold zcJ at hk;haveI:=hp_1.oneC;haveI:=hp_3.oneC;obtain ⟨S0,F1,rfl,hS0,hp0⟩:=d4 hF0;refine dL Tryz.func15 rfl rfl rfl hp0 ?_;refine gi ?_;rintro _ _ ⟨g1,rfl,rfl⟩;refine jH ?_;have hq:=dm hk;clear hk;obtain ⟨r6,hr6,hk⟩:=hq; (try dsimp only at hk);refine eP ?_;refine jJ ?_;refine cS (cY rfl rfl rfl (fun w hw=>zgG _ w (hw.fr (i:=1) rfl) p vp_1 hp_1 vp_3 hp_3 fuel r6 hr6)) ?_;refine ld ?_;refine T.cond rfl (fun h1=>?_) (fun h1=>?_)
 ·replace hk:=dk hk h1;refine gY ?_;obtain rfl:=Option.some.inj hk;exact dX
 ·replace hk:=dj hk h1;refine fG ?_;refine q3x ?_;refine ip ?_;refine cQ rfl (e7 0 (m:=[.bool p.Num.Neg,vp_1])) ?_;refine q2T ?_;refine cX rfl (cP) rfl rfl (cY rfl rfl rfl (fun w hw=>zfi _ w (hw.fr (i:=1) rfl) p.Num vp_1 hp_1)) ?_;refine fE ?_;refine dH ?_;refine cX rfl (cP) rfl rfl (cY rfl rfl rfl (fun w hw=>zfi _ w (hw.fr (i:=1) rfl) p.Den vp_3 hp_3)) ?_;refine fE ?_;refine fh ?_;refine kU ?_;refine cZ (ι:=Unit) (fun z=>[(2, .bool ((((decide (0≤(jT p.Num)))&&(decide (1≤(jT p.Den))))&&(decide ((jT p.Den)≤1000)))&&(decide ((jT p.Num)≤(jT p.Den)))))]) (fun z=>[.row g1 28 [.bool p.Num.Neg,vp_1, .bool p.Den.Neg,vp_3], .fr F1]) (fun z=>True) ?_ ?_
  ·refine gX ?_;refine c9 rfl rfl rfl (fun h2=>?_) (fun h2=>?_)
   ·have p2:=of_decide_eq_true h2;refine jS ?_;refine c9 rfl rfl rfl (fun h3=>?_) (fun h3=>?_)
    ·have p3:=of_decide_eq_true h3;refine jS ?_;refine c9 rfl rfl rfl (fun h4=>?_) (fun h4=>?_)
     ·have p4:=of_decide_eq_true h4;refine jK ?_;exact cV () trivial (.b (jI (jn (jn h2 h3) h4)) .nil) (List.Sublist.refl _)
     ·have p4:=of_decide_eq_false h4;refine jK ?_;exact cV () trivial (.b (gj (jn (jn h2 h3) h4)).symm .nil) (List.Sublist.refl _)
    ·have p3:=of_decide_eq_false h3;refine q3t ?_;exact cV () trivial (.b (gj (gj (jn h2 h3))).symm .nil) (List.Sublist.refl _)
   ·have p2:=of_decide_eq_false h2;refine TL.run 13 rfl ?_;refine fw ?_;exact cV () trivial (.b (gj (gj (gj h2))).symm .nil) (List.Sublist.refl _)
  ·rintro _ _;refine T.ret ?_;obtain rfl:=Option.some.inj hk;exact dX
def zez (l:List GProduct):Bool:=
 dJ (fun (_:Unit)=>
  true)
 (fun k1=>
  dG (fun (i_3:Nat) (next2:Unit→Bool) (_:Unit)=>
   (bif ((((((((((decide ((nth l i_3).Area<0))||(decide (63<(nth l i_3).Area)))||(decide ((nth l i_3).Category<1)))||(decide (2<(nth l i_3).Category)))||(decide ((nth l i_3).Supply<1)))||(decide (12<(nth l i_3).Supply)))||(decide ((nth l i_3).Units<1)))||(decide (100000<(nth l i_3).Units)))||(decide ((nth l i_3).Reserve<0)))||(decide (549755813888<(nth l i_3).Reserve))) then
    false
    else
    (bif decide (0<(i_3:Int)) then
     (bif ((decide ((nth l i_3).Area<(nth l (((i_3:Int) - 1).toNat)).Area))||((decide ((nth l i_3).Area=(nth l (((i_3:Int) - 1).toNat)).Area))&&((decide ((nth l i_3).Category≤(nth l (((i_3:Int) - 1).toNat)).Category))||(decide (12<wI (((nth l i_3).Supply)+((nth l (((i_3:Int) - 1).toNat)).Supply))))))) then
      false
      else
      next2 ())
     else
     next2 ())))
  (fun (_:Unit)=>
   k1 ()) (l.length - 0) 0 ())
def zgP (l:List GProduct)(blocks:List Int):Bool:=
 (bif ((!(zez l))||(decide (¬(blocks.length:Int)=(l.length:Int)))) then
  false
  else
  dJ (fun (_:Unit)=>
   true)
  (fun k3=>
   dG (fun (i_5:Nat) (next4:Unit→Bool) (_:Unit)=>
    (bif ((decide ((nth blocks i_5)<0))||(decide ((nth l i_5).Supply<(nth blocks i_5)))) then
     false
     else
     next4 ()))
   (fun (_:Unit)=>
    k3 ()) (l.length - 0) 0 ()))
def zga (l:List GProduct):Option (List Int):=
 dJ (fun (out_1:List Int)=>
  some out_1)
 (fun k2=>
  dG (fun (i_5:Nat) (next4:List Int→Option (List Int)) (out_3:List Int)=>
   dg (dz (out_3++[(nth l i_5).Units]).length 8) <|
   next4 (out_3++[(nth l i_5).Units]))
  (fun (out_3:List Int)=>
   k2 out_3) (l.length - 0) 0 [])
def zhi (fuel:Nat)(a:List Int)(b:List Int):Option Int:=
 dJ (fun (n_1:Int)=>
  some n_1)
 (fun k2=>
  eR (fun (next5:(Int×Int)→Option Int) (s5:Int×Int)=>
   (bif ((decide (s5.2<(a.length:Int)))&&(decide (s5.2<(b.length:Int)))) then
    dg (0≤s5.2∧s5.2<(a.length:Int)) <|
    next5 (wI (s5.1+(wI ((nth a s5.2.toNat) * (nth b s5.2.toNat)))),(s5.2+1))
    else
    k2 s5.1)) fuel (0,0))
def zgO (fuel:Nat)(l:List GProduct)(blocks:List Int):Option (Int×Int):=
 (bif !(zgP l blocks) then
  some (0,2)
  else
  (zga l).bind fun r11=>
  (zhi fuel r11 blocks).bind fun r13=>
  some (r13,0))
def zgc (fuel:Nat)(l:List GProduct)(bidders:List GBidder):Option Bool:=
 dJ (fun (_:Unit)=>
  some (zez l))
 (fun k1=>
  dG (fun (i_3:Nat) (next2:Unit→Option Bool) (_:Unit)=>
   (bif (((((((decide ((nth bidders i_3).ID<0))||(decide (31<(nth bidders i_3).ID)))||(decide ((nth bidders i_3).Eligibility<0)))||(decide (76800000<(nth bidders i_3).Eligibility)))||(decide ((nth bidders i_3).Waivers<0)))||(decide (3<(nth bidders i_3).Waivers)))||((decide (0<(i_3:Int)))&&(decide ((nth bidders i_3).ID≤(nth bidders (((i_3:Int) - 1).toNat)).ID)))) then
    some false
    else
    (zgO fuel l ((nth bidders i_3).Blocks)).bind fun r66=>
    (bif ((decide (¬r66.2=0))||(decide ((nth bidders i_3).Eligibility<r66.1))) then
     some false
     else
     next2 ())))
  (fun (_:Unit)=>
   k1 ()) (bidders.length - 0) 0 ())
def zdN (fuel:Nat)(a:GInt):Option GInt:=
 (zb8 a).bind fun r7=>
 (zbX fuel (!a.Neg) r7).bind fun r8=>
 some r8
theorem zfJ (F0:Frz)(w:World)(hF0:F0.At w)(a:GInt)(va_1:Value)(ha_1:SlC F0 va_1 1 (a.Digits.map (eK .u8)))(fuel:Nat)(r:GInt)(hr:zdN fuel a=some r):Calls Tryz.prog 194 #[.agg [.bool a.Neg,va_1].toArray] w fun e w'=>∃(y:Value) (G:Frz),(SlC G y 1 (r.Digits.map (eK .u8)))∧e= .returned (.agg [.bool r.Neg,y].toArray)∧Fx F0 w G w':=by
 have hk:=hr;unfold zdN at hk;haveI:=ha_1.oneC;obtain ⟨S0,F1,rfl,hS0,hp0⟩:=d4 hF0;refine dL Tryz.func194 rfl rfl rfl hp0 ?_;refine gi ?_;rintro _ _ ⟨g1,rfl,rfl⟩;refine fH ?_;rintro _ _ ⟨g2,rfl,rfl⟩;refine e6 ?_;have hq:=dm hk;clear hk;obtain ⟨r7,hr7,hk⟩:=hq;have hq:=dm hk;clear hk;obtain ⟨r8,hr8,hk⟩:=hq; (try dsimp only at hk);refine dQ (sN 0 4 (.eff 4 (.eff 5 (.eff 6 .done)))) [.row g1 26 [.bool a.Neg,va_1], .fr F1] a6 Sx ?_;refine gz ?_;refine fF ?_;refine kT ?_;refine dH ?_;refine cX rfl (cP) rfl rfl (df 2 rfl rfl rfl rfl (fun w hw hF=>zdq _ w hF a va_1 ha_1 r7 hr7)) ?_;rintro _ _ ⟨v7_0_0,F2,le1_2,hf7_0_0,hq,rfl⟩;obtain rfl:=hq.symm;haveI:=hf7_0_0.oneC;refine q3f ?_;refine dH ?_;refine cX rfl (cP) rfl rfl (df 2 rfl rfl rfl rfl (fun w hw hF=>zdG _ w hF (!a.Neg) r7 v7_0_0 hf7_0_0 fuel r8 hr8)) ?_;rintro _ _ ⟨v8_0_1,F3,le2_3,hf8_0_1,rfl,rfl⟩;have le1_3:=le1_2.trans le2_3;haveI:=hf8_0_1.oneC;refine q3i ?_;refine q1G ?_;refine d6 ?_;refine q3i ?_;refine TS.done ?_;refine K.seq (T.ret ?_);obtain rfl:=Option.some.inj hk;exact iX 0 rfl rfl rfl rfl (fun w' hw=>⟨v8_0_1,F3.toFrz,hf8_0_1,rfl,dP hw (i:=2) rfl hS0 le1_3⟩)
def zdF (fuel:Nat)(a:GInt)(b:GInt):Option (GInt×GInt):=
 (zb8 a).bind fun r10=>
 (zb8 b).bind fun r12=>
 (zcH fuel r10 r12).bind fun r13=>
 dJ (fun (s4:List Int×List Int)=>
  (zbX fuel (!(a.Neg == b.Neg)) s4.1).bind fun r39=>
  (zbX fuel b.Neg s4.2).bind fun r43=>
  some (r39,r43))
 (fun k4=>
  (bif ((decide (0<(r13.2.length:Int)))&&(!(a.Neg == b.Neg))) then
   (zcB fuel r13.1 [1]).bind fun r28=>
   (zb8 b).bind fun r30=>
   (zcp fuel r30 r13.2).bind fun r32=>
   k4 (r28,r32)
   else
   k4 (r13.1,r13.2)))
theorem ze4 (F0:Frz)(w:World)(hF0:F0.At w)(a:GInt)(va_1:Value)(ha_1:SlC F0 va_1 1 (a.Digits.map (eK .u8)))(b:GInt)(vb_1:Value)(hb_1:SlC F0 vb_1 1 (b.Digits.map (eK .u8)))(fuel:Nat)(r:GInt×GInt)(hr:zdF fuel a b=some r):Calls Tryz.prog 195 #[.agg [.bool a.Neg,va_1].toArray, .agg [.bool b.Neg,vb_1].toArray] w fun e w'=>∃(y:Value×Value) (G:Frz),(SlC G y.1 1 (r.1.Digits.map (eK .u8))∧SlC G y.2 1 (r.2.Digits.map (eK .u8)))∧e= .returned (.tuple #[.agg [.bool r.1.Neg,y.1].toArray, .agg [.bool r.2.Neg,y.2].toArray])∧Fx F0 w G w':=by
 have hk:=hr;unfold zdF at hk;haveI:=ha_1.oneC;haveI:=hb_1.oneC;obtain ⟨S0,F1,rfl,hS0,hp0⟩:=d4 hF0;refine dL Tryz.func195 rfl rfl rfl hp0 ?_;refine gi ?_;rintro _ _ ⟨g2,rfl,rfl⟩;refine lr ?_;rintro _ _ ⟨g3,rfl,rfl⟩;refine fH ?_;rintro _ _ ⟨g4,rfl,rfl⟩;refine fH ?_;rintro _ _ ⟨g5,rfl,rfl⟩;refine e6 ?_;have hq:=dm hk;clear hk;obtain ⟨r10,hr10,hk⟩:=hq;have hq:=dm hk;clear hk;obtain ⟨r12,hr12,hk⟩:=hq;have hq:=dm hk;clear hk;obtain ⟨r13,hr13,hk⟩:=hq; (try dsimp only at hk);refine dQ (.still 0 (.still 2 (.eff 1 (.eff 3 (.eff 4 (sN 5 4 (.still 9 .done))))))) _ a6 (List.Sublist.refl _) ?_;refine cQ rfl (eB 3) ?_;refine cQ rfl (eB 2) ?_;refine dH ?_;refine cX rfl (cP) rfl rfl (df 4 rfl rfl rfl rfl (fun w hw hF=>zdq _ w hF a va_1 ha_1 r10 hr10)) ?_;rintro _ _ ⟨v10_0_0,F2,le1_2,hf10_0_0,hq,rfl⟩;obtain rfl:=hq.symm;haveI:=hf10_0_0.oneC;refine ⟨(fun w hw=>(hw.frLe (i:=4) rfl le1_2).sub Sx),?_⟩;refine dH ?_;refine cX rfl (cP) rfl rfl (df 4 rfl rfl rfl rfl (fun w hw hF=>zdq _ w hF b vb_1 (SlC.mono hb_1 le1_2) r12 hr12)) ?_;rintro _ _ ⟨v12_0_0,F3,le2_3,hf12_0_0,hq,rfl⟩;obtain rfl:=hq.symm;have le1_3:=le1_2.trans le2_3;haveI:=hf12_0_0.oneC;refine ⟨(fun w hw=>(hw.frLe (i:=4) rfl le1_3).sub Sx),?_⟩;refine dH ?_;refine cX rfl (cP) rfl rfl (df 4 rfl rfl rfl rfl (fun w hw hF=>zfa _ w hF r10 v10_0_0 (SlC.mono hf10_0_0 le2_3) r12 v12_0_0 hf12_0_0 fuel r13 hr13)) ?_;rintro _ _ ⟨⟨v13_0_0,v13_1_0⟩,F4,le3_4,⟨hf13_0_0,hf13_1_0⟩,rfl,rfl⟩;dsimp only at hf13_0_0 hf13_1_0 ⊢;have le1_4:=le1_3.trans le3_4;haveI:=hf13_0_0.oneC;haveI:=hf13_1_0.oneC;refine ⟨(fun w hw=>(hw.frLe (i:=4) rfl le1_4).sub Sx),?_⟩;refine TS.run 5 rfl ?_;refine TS.done ?_;refine K.seq (T.seq (T.seq ?_));refine cZ (ι:=Unit) (fun z=>[(2, .pointer (some ⟨g2,0,none⟩)),(3, .pointer (some ⟨g3,0,none⟩)),(4, .pointer (some ⟨g4,0,none⟩)),(5, .pointer (some ⟨g5,0,none⟩)),(6,v13_0_0),(7,v13_1_0),(25, .bool ((decide (0<(r13.2.length:Int)))&&(!(a.Neg == b.Neg))))]) (fun z=>[.row g5 26 [.bool false,(.slice none 0 0)], .row g4 26 [.bool false,(.slice none 0 0)], .row g3 26 [.bool b.Neg,vb_1], .row g2 26 [.bool a.Neg,va_1], .fr F4]) (fun z=>True) ?_ ?_
 ·refine ee ?_;refine cN (dh rfl rfl hf13_1_0 (List.length_map _)) ?_;have hm17:r13.2.length≤9223372036854775807:=(List.length_map _)▸hf13_1_0.max;refine d8 ?_;refine c9 rfl rfl rfl (fun h1=>?_) (fun h1=>?_)
  ·have p1:=of_decide_eq_true h1;refine q3z ?_;refine iG ?_;exact cV () trivial (.c (.c (.c (.c (.c (.c (.b (jI h1) .nil))))))) (List.Sublist.refl _)
  ·have p1:=of_decide_eq_false h1;refine q3o ?_;exact cV () trivial (.c (.c (.c (.c (.c (.c (.b (gj h1).symm .nil))))))) (List.Sublist.refl _)
 ·rintro _ _;have hm17:r13.2.length≤9223372036854775807:=(List.length_map _)▸hf13_1_0.max;have hq:=dW hk;clear hk;obtain ⟨k4,hk4,hk⟩:=hq; (try dsimp only at hk);refine cZ (ι:=List Int×Value×List Int×Value×FzB w (fun _=>False) S0) (fun z=>[(2, .pointer (some ⟨g2,0,none⟩)),(3, .pointer (some ⟨g3,0,none⟩)),(4, .pointer (some ⟨g4,0,none⟩)),(5, .pointer (some ⟨g5,0,none⟩)),(6,z.2.1),(7,z.2.2.2.1)]) (fun z=>[.row g5 26 [.bool false,(.slice none 0 0)], .row g4 26 [.bool false,(.slice none 0 0)], .row g3 26 [.bool b.Neg,vb_1], .row g2 26 [.bool a.Neg,va_1], .fr z.2.2.2.2]) (fun z=>k4 (z.1,z.2.2.1)=some r∧SlC z.2.2.2.2.toFrz z.2.1 1 (z.1.map (eK .u8))∧SlC z.2.2.2.2.toFrz z.2.2.2.1 1 (z.2.2.1.map (eK .u8))∧F4.toFrz.Le z.2.2.2.2.toFrz) ?_ ?_
  ·refine T.cond rfl (fun h5=>?_) (fun h5=>?_)
   ·have p5:=h5; (try simp only [jd] at p5);replace hk:=dk hk h5;have hq:=dm hk;clear hk;obtain ⟨r28,hr28,hk⟩:=hq;have hq:=dm hk;clear hk;obtain ⟨r30,hr30,hk⟩:=hq;have hq:=dm hk;clear hk;obtain ⟨r32,hr32,hk⟩:=hq; (try dsimp only at hk);refine dQ (.still 0 (.still 3 (.still 5 (.eff 1 (.eff 2 (.eff 4 (.eff 6 (.still 7 (.still 8 .done))))))))) _ a6 (List.Sublist.refl _) ?_;refine fF ?_;refine cQ rfl (eB 2) ?_;refine q3K ?_;refine q1b ?_;rintro _ _ ⟨g27,rfl,rfl⟩;refine iB ?_;refine ik (fun w hw=>hw.freezeR (i:=5) (j:=0) a5 rfl rfl) ?_;rintro F6 ⟨le4_6,hz6⟩;refine fi ?_;have le1_6:=le1_4.trans le4_6;have hfF6:SlC F6.toFrz (.slice (some ⟨g27,0,none⟩) 1 1) 1 ([1].map (eK .u8)):=(SlK.lit hz6 rfl (Nat.le_refl _) a5).toF (xs:=[1]) rfl (fun _=>rfl);refine dH ?_;refine cX rfl (cP) rfl rfl (df 4 rfl rfl rfl rfl (fun w hw hF=>zeK _ w hF r13.1 v13_0_0 (SlC.mono hf13_0_0 le4_6) [1] (.slice (some ⟨g27,0,none⟩) 1 1) hfF6 fuel r28 hr28)) ?_;rintro _ _ ⟨v28_0_0,F7,le6_7,hf28_0_0,hq,rfl⟩;obtain rfl:=hq.symm;have le1_7:=le1_6.trans le6_7;have le4_7:=le4_6.trans le6_7;haveI:=hf28_0_0.oneC;refine ⟨(fun w hw=>(hw.frLe (i:=4) rfl le4_7).sub Sx),?_⟩;refine dH ?_;refine cX rfl (cP) rfl rfl (df 4 rfl rfl rfl rfl (fun w hw hF=>zdq _ w hF b vb_1 (SlC.mono hb_1 le1_7) r30 hr30)) ?_;rintro _ _ ⟨v30_0_0,F8,le7_8,hf30_0_0,hq,rfl⟩;obtain rfl:=hq.symm;have le4_8:=le4_7.trans le7_8;haveI:=hf30_0_0.oneC;refine ⟨(fun w hw=>(hw.frLe (i:=4) rfl le4_8).sub Sx),?_⟩;refine dH ?_;refine cX rfl (cP) rfl rfl (df 4 rfl rfl rfl rfl (fun w hw hF=>zfj _ w hF r30 v30_0_0 hf30_0_0 r13.2 v13_1_0 (SlC.mono hf13_1_0 le4_8) fuel r32 hr32)) ?_;rintro _ _ ⟨v32_0_0,F9,le8_9,hf32_0_0,hq,rfl⟩;obtain rfl:=hq.symm;have le4_9:=le4_8.trans le8_9;have le7_9:=le7_8.trans le8_9;haveI:=hf32_0_0.oneC;refine ⟨(fun w hw=>(hw.frLe (i:=4) rfl le4_9).sub Sx),?_⟩;refine kG ?_;exact cV (r28,v28_0_0,r32,v32_0_0,F9) ⟨hk,(SlC.mono hf28_0_0 le7_9),hf32_0_0,le4_9⟩ (.c (.c (.c (.c (.c (.c .nil)))))) (List.Sublist.refl _)
   ·replace hk:=dj hk h5;refine T.skip ?_;exact cV (r13.1,v13_0_0,r13.2,v13_1_0,F4) ⟨hk,hf13_0_0,hf13_1_0,(Frz.Le.refl _)⟩ (.c (.c (.c (.c (.c (.c .nil)))))) (List.Sublist.refl _)
  ·rintro ⟨q_2,vq_2,r_3,vr_3,F5⟩ ⟨hk,hq_2,hr_3,le4_5⟩; (try dsimp only at *);rw [←hk4] at hk; (try dsimp only at hk);have le1_5:=le1_4.trans le4_5;haveI:=hq_2.oneC;haveI:=hr_3.oneC;refine T.seq ?_;have hq:=dm hk;clear hk;obtain ⟨r39,hr39,hk⟩:=hq;have hq:=dm hk;clear hk;obtain ⟨r43,hr43,hk⟩:=hq; (try dsimp only at hk);refine dQ (sN 0 6 (sN 7 3 (.eff 6 (.eff 10 (.eff 11 (.eff 12 .done)))))) [.row g3 26 [.bool b.Neg,vb_1], .row g2 26 [.bool a.Neg,va_1], .fr F5] a6 Sx ?_;refine jE ?_;refine gz ?_;refine cQ rfl (kR a6 rfl rfl rfl) ?_;refine fF ?_;refine gz ?_;refine q3K ?_;refine cX rfl (cP) rfl rfl (df 4 rfl rfl rfl rfl (fun w hw hF=>zdG _ w hF (!(a.Neg == b.Neg)) q_2 vq_2 hq_2 fuel r39 hr39)) ?_;rintro _ _ ⟨v39_0_1,F10,le5_10,hf39_0_1,rfl,rfl⟩;have le1_10:=le1_5.trans le5_10;haveI:=hf39_0_1.oneC;refine ⟨(fun w hw=>(hw.frLe (i:=4) rfl le5_10).sub Sx),?_⟩;refine dH ?_;refine cX rfl (cP) rfl rfl (df 4 rfl rfl rfl rfl (fun w hw hF=>zdG _ w hF b.Neg r_3 vr_3 (SlC.mono hr_3 le5_10) fuel r43 hr43)) ?_;rintro _ _ ⟨v43_0_1,F11,le10_11,hf43_0_1,rfl,rfl⟩;have le1_11:=le1_10.trans le10_11;have le5_11:=le5_10.trans le10_11;haveI:=hf43_0_1.oneC;refine ⟨(fun w hw=>(hw.frLe (i:=4) rfl le5_11).sub Sx),?_⟩;refine dH ?_;refine dr rfl (cP) rfl (ff 1) ?_;refine d6 ?_;refine ⟨(fun w hw=>(hw.frLe (i:=4) rfl le5_11).sub Sx),?_⟩;refine q1G ?_;refine d6 ?_;refine ⟨(fun w hw=>(hw.frLe (i:=4) rfl le5_11).sub Sx),?_⟩;refine TS.done ?_;refine K.seq (T.ret ?_);obtain rfl:=Option.some.inj hk;exact K.cA 1 0 rfl rfl rfl rfl rfl rfl rfl (fun w' hw=>⟨(v39_0_1,v43_0_1),F11.toFrz,⟨(SlC.mono hf39_0_1 le10_11),hf43_0_1⟩,rfl,dP hw (i:=4) rfl hS0 le1_11⟩)
def zei (fuel:Nat)(n:GInt)(d:GInt):Option GRatio:=
 (zcz fuel n d).bind fun r12=>
 dJ (fun (s3:Bool×List Int)=>
  (zdF fuel n (GInt.mk s3.1 s3.2)).bind fun r20=>
  (zdF fuel d (GInt.mk s3.1 s3.2)).bind fun r26=>
  some (GRatio.mk (GInt.mk r20.1.Neg r20.1.Digits) (GInt.mk r26.1.Neg r26.1.Digits)))
 (fun k3=>
  (bif d.Neg then
   (zdN fuel r12).bind fun r16=>
   k3 (r16.Neg,r16.Digits)
   else
   k3 (r12.Neg,r12.Digits)))
theorem zgi (F0:Frz)(w:World)(hF0:F0.At w)(n:GInt)(vn_1:Value)(hn_1:SlC F0 vn_1 1 (n.Digits.map (eK .u8)))(d:GInt)(vd_1:Value)(hd_1:SlC F0 vd_1 1 (d.Digits.map (eK .u8)))(fuel:Nat)(r:GRatio)(hr:zei fuel n d=some r):Calls Tryz.prog 116 #[.agg [.bool n.Neg,vn_1].toArray, .agg [.bool d.Neg,vd_1].toArray] w fun e w'=>∃(y:Value×Value) (G:Frz),(SlC G y.1 1 (r.Num.Digits.map (eK .u8))∧SlC G y.2 1 (r.Den.Digits.map (eK .u8)))∧e= .returned (.agg [.bool r.Num.Neg,y.1, .bool r.Den.Neg,y.2].toArray)∧Fx F0 w G w':=by
 have hk:=hr;unfold zei at hk;haveI:=hn_1.oneC;haveI:=hd_1.oneC;obtain ⟨S0,F1,rfl,hS0,hp0⟩:=d4 hF0;refine dL Tryz.func116 rfl rfl rfl hp0 ?_;refine gi ?_;rintro _ _ ⟨g2,rfl,rfl⟩;refine lr ?_;rintro _ _ ⟨g3,rfl,rfl⟩;refine fH ?_;rintro _ _ ⟨g4,rfl,rfl⟩;refine e6 ?_;have hq:=dm hk;clear hk;obtain ⟨r12,hr12,hk⟩:=hq; (try dsimp only at hk);refine eP ?_;refine cN (eB 2) ?_;refine q19 ?_;refine cS (df 3 rfl rfl rfl rfl (fun w hw hF=>ze1 _ w hF n vn_1 hn_1 d vd_1 hd_1 fuel r12 hr12)) ?_;rintro _ _ ⟨v12_0_1,F2,le1_2,hf12_0_1,rfl,rfl⟩;haveI:=hf12_0_1.oneC;refine fH ?_;rintro _ _ ⟨g5,rfl,rfl⟩;refine fM ?_;refine c7 (T.seq (dN ?_));refine q1Q ?_;refine c7 ?_;have hq:=dW hk;clear hk;obtain ⟨k3,hk3,hk⟩:=hq; (try dsimp only at hk);refine cZ (ι:=Bool×List Int×Value×FzB w (fun _=>False) S0) (fun z=>[(2, .pointer (some ⟨g2,0,none⟩)),(3, .pointer (some ⟨g3,0,none⟩)),(4, .pointer (some ⟨g4,0,none⟩)),(5, .pointer (some ⟨g5,0,none⟩))]) (fun z=>[.row g5 26 [.bool z.1,z.2.2.1], .row g4 28 [.bool false,(.slice none 0 0), .bool false,(.slice none 0 0)], .row g3 26 [.bool d.Neg,vd_1], .row g2 26 [.bool n.Neg,vn_1], .fr z.2.2.2]) (fun z=>k3 (z.1,z.2.1)=some r∧SlC z.2.2.2.toFrz z.2.2.1 1 (z.2.1.map (eK .u8))∧F2.toFrz.Le z.2.2.2.toFrz) ?_ ?_
 ·refine T.cond rfl (fun h4=>?_) (fun h4=>?_)
  ·replace hk:=dk hk h4;have hq:=dm hk;clear hk;obtain ⟨r16,hr16,hk⟩:=hq; (try dsimp only at hk);refine eP ?_;refine jJ ?_;refine cS (df 4 rfl rfl rfl rfl (fun w hw hF=>zfJ _ w hF r12 v12_0_1 hf12_0_1 fuel r16 hr16)) ?_;rintro _ _ ⟨v16_0_1,F4,le2_4,hf16_0_1,rfl,rfl⟩;haveI:=hf16_0_1.oneC;refine fM ?_;refine fw ?_;exact cV (r16.Neg,r16.Digits,v16_0_1,F4) ⟨hk,hf16_0_1,le2_4⟩ (.c (.c (.c (.c .nil)))) (List.Sublist.refl _)
  ·replace hk:=dj hk h4;refine T.skip ?_;exact cV (r12.Neg,r12.Digits,v12_0_1,F2) ⟨hk,hf12_0_1,(Frz.Le.refl _)⟩ (.c (.c (.c (.c .nil)))) (List.Sublist.refl _)
 ·rintro ⟨c_1,c_2,vc_2,F3⟩ ⟨hk,hc_2,le2_3⟩; (try dsimp only at *);rw [←hk3] at hk; (try dsimp only at hk);have le1_3:=le1_2.trans le2_3;haveI:=hc_2.oneC;refine T.seq ?_;have hq:=dm hk;clear hk;obtain ⟨r20,hr20,hk⟩:=hq; (try dsimp only at hk);refine eP ?_;refine cN (eB 3) ?_;refine jJ ?_;refine cS (df 4 rfl rfl rfl rfl (fun w hw hF=>ze4 _ w hF n vn_1 (SlC.mono hn_1 le1_3) (GInt.mk c_1 c_2) vc_2 hc_2 fuel r20 hr20)) ?_;rintro _ _ ⟨⟨v20_0_1,v20_1_1⟩,F5,le3_5,⟨hf20_0_1,hf20_1_1⟩,rfl,rfl⟩;dsimp only at hf20_0_1 hf20_1_1 ⊢;have le1_5:=le1_3.trans le3_5;haveI:=hf20_0_1.oneC;haveI:=hf20_1_1.oneC;refine ly ?_;rintro _ _ ⟨g6,rfl,rfl⟩;refine fH ?_;rintro _ _ ⟨g7,rfl,rfl⟩;refine lh ?_;refine fM ?_;refine e6 ?_;have hq:=dm hk;clear hk;obtain ⟨r26,hr26,hk⟩:=hq; (try dsimp only at hk);refine eP ?_;refine cN (eB 4) ?_;refine cN (eB 2) ?_;refine cS (df 6 rfl rfl rfl rfl (fun w hw hF=>ze4 _ w hF d vd_1 (SlC.mono hd_1 le1_5) (GInt.mk c_1 c_2) vc_2 (SlC.mono hc_2 le3_5) fuel r26 hr26)) ?_;rintro _ _ ⟨⟨v26_0_1,v26_1_1⟩,F6,le5_6,⟨hf26_0_1,hf26_1_1⟩,rfl,rfl⟩;dsimp only at hf26_0_1 hf26_1_1 ⊢;have le1_6:=le1_5.trans le5_6;haveI:=hf26_0_1.oneC;haveI:=hf26_1_1.oneC;refine ly ?_;rintro _ _ ⟨g8,rfl,rfl⟩;refine fH ?_;rintro _ _ ⟨g9,rfl,rfl⟩;refine lh ?_;refine fM ?_;refine eU ?_;refine cN (eB 3) ?_;refine q19 ?_;refine iK ?_;refine dE (ff 5) ?_;refine d6 ?_;refine gA ?_;obtain rfl:=Option.some.inj hk;exact iX 5 rfl rfl rfl rfl (fun w' hw=>⟨(v20_0_1,v26_0_1),F6.toFrz,⟨(SlC.mono hf20_0_1 le5_6),hf26_0_1⟩,rfl,dP hw (i:=8) rfl hS0 le1_6⟩)
def zfA (fuel:Nat)(n:Int)(d:Int):Option GRatio:=
 (zdr fuel n).bind fun r6=>
 (zdr fuel d).bind fun r8=>
 (zei fuel r6 r8).bind fun r9=>
 some r9
theorem zhX (F0:Frz)(w:World)(hF0:F0.At w)(n:Int)(d:Int)(fuel:Nat)(r:GRatio)(hr:zfA fuel n d=some r):Calls Tryz.prog 40 #[.int .i64 n, .int .i64 d] w fun e w'=>∃(y:Value×Value) (G:Frz),(SlC G y.1 1 (r.Num.Digits.map (eK .u8))∧SlC G y.2 1 (r.Den.Digits.map (eK .u8)))∧e= .returned (.agg [.bool r.Num.Neg,y.1, .bool r.Den.Neg,y.2].toArray)∧Fx F0 w G w':=by
 have hk:=hr;unfold zfA at hk;obtain ⟨S0,F1,rfl,hS0,hp0⟩:=d4 hF0;refine dL Tryz.func40 rfl rfl rfl hp0 ?_;refine dN ?_;refine fH ?_;rintro _ _ ⟨g4,rfl,rfl⟩;refine e6 ?_;have hq:=dm hk;clear hk;obtain ⟨r6,hr6,hk⟩:=hq;have hq:=dm hk;clear hk;obtain ⟨r8,hr8,hk⟩:=hq;have hq:=dm hk;clear hk;obtain ⟨r9,hr9,hk⟩:=hq; (try dsimp only at hk);refine ee ?_;refine cS (df 1 rfl rfl rfl rfl (fun w hw hF=>zfz _ w hF n fuel r6 hr6)) ?_;rintro _ _ ⟨v6_0_1,F2,le1_2,hf6_0_1,rfl,rfl⟩;haveI:=hf6_0_1.oneC;refine dw ?_;refine cS (df 1 rfl rfl rfl rfl (fun w hw hF=>zfz _ w hF d fuel r8 hr8)) ?_;rintro _ _ ⟨v8_0_1,F3,le2_3,hf8_0_1,rfl,rfl⟩;have le1_3:=le1_2.trans le2_3;haveI:=hf8_0_1.oneC;refine cS (df 1 rfl rfl rfl rfl (fun w hw hF=>zgi _ w hF r6 v6_0_1 (SlC.mono hf6_0_1 le2_3) r8 v8_0_1 hf8_0_1 fuel r9 hr9)) ?_;rintro _ _ ⟨⟨v9_0_1,v9_0_3⟩,F4,le3_4,⟨hf9_0_1,hf9_0_3⟩,rfl,rfl⟩;dsimp only at hf9_0_1 hf9_0_3 ⊢;have le1_4:=le1_3.trans le3_4;haveI:=hf9_0_1.oneC;haveI:=hf9_0_3.oneC;refine fM ?_;refine gA ?_;obtain rfl:=Option.some.inj hk;exact iX 0 rfl rfl rfl rfl (fun w' hw=>⟨(v9_0_1,v9_0_3),F4.toFrz,⟨hf9_0_1,hf9_0_3⟩,rfl,dP hw (i:=1) rfl hS0 le1_4⟩)
def zb6 (a:List Int)(b:List Int):Bool:=
 (bif decide (¬(a.length:Int)=(b.length:Int)) then
  false
  else
  dJ (fun (_:Unit)=>
   true)
  (fun k2=>
   dG (fun (i_4:Nat) (next3:Unit→Bool) (_:Unit)=>
    (bif decide (¬(nth a i_4)=(nth b i_4)) then
     false
     else
     next3 ()))
   (fun (_:Unit)=>
    k2 ()) (a.length - 0) 0 ()))
theorem zdI (F0:Frz)(w:World)(hF0:F0.At w)(a:List Int)(va:Value)(ha:SlC F0 va 1 (a.map eI))(b:List Int)(vb:Value)(hb:SlC F0 vb 1 (b.map eI)):Calls Tryz.prog 27 #[va,vb] w fun e w'=>e= .returned (.bool (zb6 a b))∧Below w.heap.size w w':=by
 obtain ⟨r,hk⟩:∃r,zb6 a b=r:=⟨_,rfl⟩;rw [hk];unfold zb6 at hk;haveI:=ha.oneC;haveI:=hb.oneC;obtain ⟨S0,F1,rfl,hS0,hp0⟩:=d4 hF0;refine dL Tryz.func27 rfl rfl rfl hp0 ?_;refine jh ?_;refine q1H ?_;have hm7:a.length≤9223372036854775807:=(List.length_map _)▸ha.max;refine dw ?_;refine q2A ?_;have hm9:b.length≤9223372036854775807:=(List.length_map _)▸hb.max;refine dZ ?_;refine T.cond rfl (fun h1=>?_) (fun h1=>?_)
 ·have p1:=of_decide_eq_true h1;replace hk:=dk hk h1;refine gY ?_;subst hk;exact dX
 ·have p1:=of_decide_eq_false h1;replace hk:=dj hk h1;refine jF ?_;refine dZ ?_;have hq:=dW hk;clear hk;obtain ⟨k2,hk2,hk⟩:=hq; (try dsimp only at hk);refine cZ (ι:=Unit) (fun z=>[]) (fun z=>[.fr F1]) (fun z=>k2 ()=r) ?_ ?_
  ·have hq:=fx hk;clear hk;obtain ⟨f3,kk3,hf3,hkk3,hk⟩:=hq;refine eC ?_;refine T.loop (ι:=Nat) (fun z=>[(0,va),(1,vb),(5, .int .i64 (z:Int))]) (fun z=>[.fr F1]) (fun z=>dG f3 kk3 (a.length - z) z ()=r) (fun z=>a.length - z) 0 ?_ ?_ ?_ ?_
   ·exact hk
   ·exact q3V
   ·exact eA
   ·rintro i_4 hk;refine jD ?_;refine d8 ?_;refine q1H ?_;refine dZ ?_;refine T.cond rfl (fun h5=>?_) (fun h5=>?_)
    ·have p5:=of_decide_eq_true h5;rw [fv a4] at hk;generalize hn3:dG f3 kk3 (a.length - (i_4+1)) (i_4+1)=next3 at hk;rw [←hf3] at hk; (try dsimp only at hk);refine T.skip (K.seq (T.seq (T.block (T.seq ?_))));refine q04 ?_;refine cQ rfl (de (i:=i_4) rfl rfl rfl ha (List.length_map _) rfl a4) ?_;refine cQ rfl (dB 0 (i:=i_4) (j:=0) rfl rfl rfl ha a4) ?_;refine fh ?_;refine cQ rfl (de (i:=i_4) rfl rfl rfl hb (List.length_map _) rfl a4) ?_;refine cQ rfl (dB 0 (i:=i_4) (j:=0) rfl rfl rfl hb a4) ?_;refine ie ?_;refine K.seq ?_;refine T.cond rfl (fun h6=>?_) (fun h6=>?_)
     ·have p6:=of_decide_eq_true h6;replace hk:=dk hk h6;refine eZ ?_;refine kV ?_;subst hk;exact dX
     ·have p6:=of_decide_eq_false h6;replace hk:=dj hk h6;refine T.skip (eT (K.seq (T.region ?_)));refine dw ?_;refine iR ?_;rw [←hn3] at hk;exact K.next (i_4+1) hk a4 (.c (.c (.c .nil))) (List.Sublist.refl _)
    ·have p5:=of_decide_eq_false h5;rw [fy a4,←hkk3] at hk; (try dsimp only at hk);refine eF ?_;exact kD
  ·rintro _ hk;rw [←hk2] at hk; (try dsimp only at hk);refine j1 ?_;subst hk;exact dX
structure LsIs (x:List Int) (X:Nat):Prop where
 dig:Dig 256 x
 trm:kA x
 eq:val 256 x=X
theorem LsIs.nil {x:List Int}{X:Nat}(h:LsIs x X):x=[]↔X=0:=by
 rw [←h.eq];exact (zgA h.dig h.trm a5).symm
theorem LsIs.pos {x:List Int}{X:Nat}(h:LsIs x X):0<x.length↔0<X:=by
 have:=h.nil;rw [List.length_pos_iff];constructor
 ·intro e;rcases Nat.eq_zero_or_pos X with z|z
  ·exact absurd (this.2 z) e
  ·exact z
 ·intro e z;have:=this.1 z;omega
theorem LsIs.zero:LsIs [] 0:=⟨Dig.nil, .inl rfl,rfl⟩
theorem LsIs.big {x:List Int}{X:Nat}(h:LsIs x X):BigIs x.reverse X:=by
 refine ⟨h.dig.rev,?_,by rw [List.reverse_reverse];exact h.eq⟩;rcases h.trm with e|e
 ·exact .inl (by rw [e];rfl)
 ·by_cases hn:x=[]
  ·exact .inl (by rw [hn];rfl)
  ·have:=List.length_pos_iff.2 hn;refine .inr ?_;rw [zfS a4,Nat.sub_zero];exact e
theorem BigIs.ls {x:List Int}{X:Nat}(h:BigIs x X):LsIs x.reverse X:=⟨h.dig.rev,h.trm,h.eq⟩
theorem LsIs.len {x:List Int}{X k:Nat}(h:LsIs x X)(hk:X<256 ^ k):x.length≤k:=by
 have:=h.big.len hk;rw [List.length_reverse] at this;exact this
theorem zfp {B:Nat}(l:List Int)(i:Nat):val B (l.take (i+1))=val B (l.take i)+B ^ i* (nth l i).toNat:=by
 rcases Nat.lt_or_ge i l.length with h|h
 ·exact gL h
 ·rw [kj h,List.take_of_length_le h,List.take_of_length_le a4];simp
theorem zgN {B:Nat}(l:List Int)(x:Int):val B (l++[x])=val B l+B ^ l.length*x.toNat:=by
 rw [zho,val,val,Nat.mul_zero,Nat.add_zero]
theorem rAbs {g:GInt}(hl:g.Digits.length≤1000000):zb8 g=some g.Digits.reverse:=by
 unfold zb8;simp only [dJ];refine zeL (n:=g.Digits.length) (fun m (out:List Int)=>out=(g.Digits.drop m).reverse) (fun o=>o=some g.Digits.reverse) (by rw [List.drop_eq_nil_of_le (Nat.le_refl _)];rfl) (fun s hs=>by rw [hs];rfl) (fun i s next hi hs hnx=>?_)
 have e:s++[nth g.Digits i]=(g.Digits.drop i).reverse:=by
  rw [List.drop_eq_getElem_cons hi,List.reverse_cons,hs,fq hi]
 rw [e,ep (by show _*_≤_;rw [List.length_reverse,List.length_drop];omega)];exact hnx _ rfl
theorem ziA {fuel:Nat}{l:List Int}(hf:l.length+1≤fuel)(hd:Dig 256 l):∃r,zcn fuel l=some r∧LsIs r (val 256 l):=by
 unfold zcn;simp only [dJ];refine zfv (fun (s:List Int)=>val 256 s=val 256 l∧Dig 256 s) (fun s=>s.length) (fun o=>∃r,o=some r∧LsIs r (val 256 l)) ⟨rfl,hd⟩ a4 (fun s next hI hnx=>?_);obtain ⟨i1,i2⟩:=hI;by_cases h0:s=[]
 ·subst h0;exact ⟨[],rfl,i2, .inl rfl,i1⟩
 ·have hp:=List.length_pos_iff.2 h0;rw [decide_eq_true (show (0:Int)<(s.length:Int) by omega),Bool.true_and,show ((s.length:Int) - 1).toNat=s.length - 1 by omega];by_cases h1:nth s (s.length - 1)=0
  ·rw [decide_eq_true h1,cond_true];refine hnx _ ⟨?_,i2.take _⟩ b8;have h6:=gL (B:=256) (l:=s) (i:=s.length - 1) a4;rw [show s.length - 1+1=s.length by omega,List.take_length,h1] at h6;rw [←i1,h6];simp
  ·rw [decide_eq_false h1,cond_false];exact ⟨s,rfl,i2, .inr h1,i1⟩
theorem zjy {x y : List Int} {X Y : Nat} (hx : LsIs x X) (hy : LsIs y Y) : zcq x y = if X < Y then -1 else if Y < X then 1 else 0 := by
  rw [← hx.eq, ← hy.eq]; have dx := hx.dig; have dy := hy.dig; unfold zcq; by_cases hl : x.length = y.length
  · rw [decide_eq_false a4, cond_false];simp only [dJ]
    have key : ∀ m, m ≤ x.length → fQ (fun (i_5 : Nat) (next4 : Unit → Int) (_ : Unit) =>
        (bif decide (¬ (nth x i_5) = (nth y i_5)) then
          (bif decide ((nth x i_5) < (nth y i_5)) then
            (-1)
            else
            1)
          else
          next4 ())) (fun _ => (0 : Int)) m () = if val 256 (x.take m) < val 256 (y.take m) then -1 else if val 256 (y.take m) < val 256 (x.take m) then 1 else 0 := by
      intro m
      induction m with
      | zero => intro _; rfl
      | succ m ih =>
        intro hm; have a1 := dx.nth (i := m) a4; have a2 := dy.nth (i := m) a4; have b1 := ji (dx.take m); have b2 := ji (dy.take m); rw [List.length_take, Nat.min_eq_left a4] at b1 b2; rw [ziX, gL a4, gL a4]; (try dsimp only)
        have mono : ∀ p q : Nat, p < q → 256 ^ m * p + 256 ^ m ≤ 256 ^ m * q := fun p q h => by
          have := Nat.mul_le_mul_left (256 ^ m) (show p + 1 ≤ q by omega); rw [Nat.mul_add, Nat.mul_one] at this; exact this
        by_cases h0 : nth x m = nth y m
        · rw [decide_eq_false (fun h => h h0), cond_false, ih a4, h0]; generalize 256 ^ m * (nth y m).toNat = z
          repeat' split
          all_goals (first | rfl | (exfalso; omega))
        · rw [decide_eq_true h0, cond_true]; by_cases h1 : nth x m < nth y m
          · have := mono (nth x m).toNat (nth y m).toNat a4; rw [decide_eq_true h1, cond_true, if_pos a4]
          · have := mono (nth y m).toNat (nth x m).toNat a4; rw [decide_eq_false h1, cond_false, if_neg a4, if_pos a4]
    have := key x.length (Nat.le_refl _); rw [List.take_length, hl, List.take_length] at this; rw [← hl] at this; exact this
  · rw [decide_eq_true a4, cond_true]; by_cases h : x.length < y.length
    · rw [decide_eq_true a4, cond_true, if_pos (zcI dx dy hy.trm h)]
    · have := zcI dy dx hx.trm a4; rw [decide_eq_false a4, cond_false, if_neg a4, if_pos this]
theorem u8pos {m:Nat}:IntKind.u8.wrap ((m:Int) % 256)=((m % 256:Nat):Int):=by
 rw [u8w a4];omega
theorem zjG {fuel : Nat} {a b : List Int} (ha : Dig 256 a) (hb : Dig 256 b) (la : a.length ≤ 100000) (lb : b.length ≤ 100000) (hf : max a.length b.length + 5 ≤ fuel) : ∃ r, zcB fuel a b = some r ∧ LsIs r (val 256 a + val 256 b) := by
  unfold zcB;simp only [dJ]; generalize hm : max a.length b.length = m at *; refine zfv (fun (s : List Int × Int × Int) => ∃ i c : Nat, s.2.2 = (i : Int) ∧ s.2.1 = (c : Int) ∧ i ≤ m + 1 ∧ c ≤ 1 ∧ (m < i → c = 0) ∧ s.1.length = i ∧ Dig 256 s.1 ∧ val 256 s.1 + 256 ^ i * c = val 256 (a.take i) + val 256 (b.take i)) (fun s => m + 2 - s.2.2.toNat) (fun o => ∃ r, o = some r ∧ LsIs r (val 256 a + val 256 b)) ⟨0, 0, rfl, rfl, by omega, by omega, fun _ => rfl, rfl, Dig.nil, by simp [val]⟩ b5 (fun s next hI hnx => ?_); obtain ⟨i, c, e1, e2, i3, i4, i5, i6, i7, i8⟩ := hI; by_cases hgo : i < a.length ∨ i < b.length ∨ 0 < c
  · have hc : ((decide (s.2.2 < (a.length : Int)) || decide (s.2.2 < (b.length : Int))) || decide (0 < s.2.1)) = true := by
      rw [e1, e2]; rcases hgo with h | h | h
      · rw [decide_eq_true (show (i : Int) < (a.length : Int) by omega)]; simp
      · rw [decide_eq_true (show (i : Int) < (b.length : Int) by omega)]; simp
      · rw [decide_eq_true (show (0 : Int) < (c : Int) by omega)]; simp
    rw [hc, cond_true]; have hna := zfQ ha a5 i; have hnb := zfQ hb a5 i
    have fin : ∀ sum : Int, sum = ((c + (nth a i).toNat + (nth b i).toNat : Nat) : Int) → ∃ r, (dg (0 ≤ sum ∧ 1 ≤ (256 : Int)) <|
            dg (dz (s.1 ++ [(IntKind.u8.wrap (sum % 256))]).length 1) <|
            dg (0 ≤ sum ∧ sum ≤ 9223372036854775807 ∧ 1 ≤ (256 : Int)) <|
            next ((s.1 ++ [(IntKind.u8.wrap (sum % 256))]), (sum / 256), wI (s.2.2 + 1))) = some r ∧ LsIs r (val 256 a + val 256 b) := fun sum hs => by
      subst hs; rw [ep a4, ep (by show _ * _ ≤ _; rw [List.length_append, i6]; simp; omega), ep a4, u8pos, e1, fR a4]; generalize hS : c + (nth a i).toNat + (nth b i).toNat = S at *; refine hnx _ ⟨i + 1, S / 256, by dsimp only; omega, by dsimp only; omega, by omega, by omega, fun h => ?_, by dsimp only; rw [List.length_append, i6]; rfl, i7.app (Dig.nil.cons a4), ?_⟩ (by dsimp only; rw [e1]; omega)
      · rw [kj (l := a) a4, kj (l := b) a4] at hS; (have : S = c := by simpa using hS.symm); omega
      · dsimp only; rw [zgN, i6, zfp, zfp, Int.toNat_natCast]
        have h1 : 256 ^ (i + 1) * (S / 256) + 256 ^ i * (S % 256) = 256 ^ i * S := by
          rw [Nat.pow_succ, Nat.mul_assoc, ← Nat.mul_add, Nat.div_add_mod]
        have h2 : 256 ^ i * S = 256 ^ i * c + 256 ^ i * (nth a i).toNat + 256 ^ i * (nth b i).toNat := by
          rw [← hS, Nat.mul_add, Nat.mul_add]
        omega
    have second : ∀ t : Int, t = ((c + (nth a i).toNat : Nat) : Int) → ∃ r, (bif decide (s.2.2 < (b.length : Int)) then
              dg (0 ≤ s.2.2 ∧ s.2.2 < (b.length : Int)) <|
              dg (0 ≤ wI (t + (wI (nth b s.2.2.toNat))) ∧ 1 ≤ (256 : Int)) <|
            dg (dz (s.1 ++ [(IntKind.u8.wrap (wI (t + (wI (nth b s.2.2.toNat))) % 256))]).length 1) <|
            dg (0 ≤ wI (t + (wI (nth b s.2.2.toNat))) ∧ wI (t + (wI (nth b s.2.2.toNat))) ≤ 9223372036854775807 ∧ 1 ≤ (256 : Int)) <|
            next ((s.1 ++ [(IntKind.u8.wrap (wI (t + (wI (nth b s.2.2.toNat))) % 256))]), (wI (t + (wI (nth b s.2.2.toNat))) / 256), wI (s.2.2 + 1))
              else
              dg (0 ≤ t ∧ 1 ≤ (256 : Int)) <|
            dg (dz (s.1 ++ [(IntKind.u8.wrap (t % 256))]).length 1) <|
            dg (0 ≤ t ∧ t ≤ 9223372036854775807 ∧ 1 ≤ (256 : Int)) <|
            next ((s.1 ++ [(IntKind.u8.wrap (t % 256))]), (t / 256), wI (s.2.2 + 1))) = some r ∧ LsIs r (val 256 a + val 256 b) := fun t ht => by
      by_cases hb' : i < b.length
      · rw [decide_eq_true a4, cond_true, ep a4];refine fin _ ?_; rw [ht, e1, Int.toNat_natCast, fR (x := nth b i) a4, fR a4]; omega
      · rw [decide_eq_false a4, cond_false];refine fin _ ?_; rw [ht, kj (l := b) a4]; simp
    by_cases ha' : i < a.length
    · rw [decide_eq_true (show s.2.2 < (a.length : Int) by omega), cond_true, ep a4];refine second _ ?_; rw [e2, e1, Int.toNat_natCast, fR (x := nth a i) a4, fR a4]; omega
    · rw [decide_eq_false (show ¬ s.2.2 < (a.length : Int) by omega), cond_false];refine second _ ?_; rw [e2, kj (l := a) a4]; simp
  · have hc : ((decide (s.2.2 < (a.length : Int)) || decide (s.2.2 < (b.length : Int))) || decide (0 < s.2.1)) = false := by
      rw [e1, e2, decide_eq_false a4, decide_eq_false a4, decide_eq_false a4]; rfl
    rw [hc, cond_false]; obtain ⟨r, t1, t2⟩ := ziA (fuel := fuel) (l := s.1) a4 i7; rw [t1]; (have hc0 : c = 0 := by omega); rw [hc0, List.take_of_length_le a4, List.take_of_length_le a4, Nat.mul_zero, Nat.add_zero] at i8; rw [i8] at t2; exact ⟨r, rfl, t2⟩
theorem zjF {fuel : Nat} {a b : List Int} {A B : Nat} (ha : LsIs a A) (hb : LsIs b B) (hle : B ≤ A) (la : a.length ≤ 100000) (hf : a.length + 5 ≤ fuel) : ∃ r, zcp fuel a b = some r ∧ LsIs r (A - B) := by
  have hlen : b.length ≤ a.length := Nat.le_of_not_lt fun h => by
    have := zcI ha.dig hb.dig hb.trm h; rw [ha.eq, hb.eq] at this; omega
  unfold zcp;simp only [dJ]; refine zd3 (n := a.length) (fun i (s : List Int × Int) => ∃ c : Nat, s.2 = (c : Int) ∧ c ≤ 1 ∧ s.1.length = i ∧ Dig 256 s.1 ∧ val 256 (a.take i) + 256 ^ i * c = val 256 s.1 + val 256 (b.take i)) (fun o => ∃ r, o = some r ∧ LsIs r (A - B)) ⟨0, rfl, by omega, rfl, Dig.nil, by simp [val]⟩ (fun s hI => ?_) (fun i s next hi hI hnx => ?_)
  · obtain ⟨c, e1, e2, e3, e4, e5⟩ := hI; obtain ⟨r, t1, t2⟩ := ziA (fuel := fuel) (l := s.1) a4 e4; rw [t1]; rw [List.take_length, List.take_of_length_le hlen, ha.eq, hb.eq] at e5; have hlt := ji e4; rw [e3] at hlt
    have hc : c = 0 := by
      rcases Nat.eq_zero_or_pos c with z | z
      · exact z
      · rw [show c = 1 by omega, Nat.mul_one] at e5; omega
    rw [hc, Nat.mul_zero] at e5; rw [show A - B = val 256 s.1 by omega]; exact ⟨r, rfl, t2⟩
  · obtain ⟨c, e1, e2, e3, e4, e5⟩ := hI; have hna := ha.dig.nth hi; have hnb := zfQ hb.dig a5 i
    -- what is stored
    have key : ∀ (w : Nat) (c' : Nat), w < 256 → c' ≤ 1 → (nth a i).toNat + 256 * c' = w + (nth b i).toNat + c → (dg (dz (s.1 ++ [(IntKind.u8.wrap (w : Int))]).length 1) <| next ((s.1 ++ [(IntKind.u8.wrap (w : Int))]), (c' : Int))) = next ((s.1 ++ [(w : Int)]), (c' : Int)) ∧ ∃ c2 : Nat, ((s.1 ++ [(w : Int)]), (c' : Int)).2 = (c2 : Int) ∧ c2 ≤ 1 ∧ ((s.1 ++ [(w : Int)]), (c' : Int)).1.length = i + 1 ∧ Dig 256 ((s.1 ++ [(w : Int)]), (c' : Int)).1 ∧ val 256 (a.take (i + 1)) + 256 ^ (i + 1) * c2 = val 256 ((s.1 ++ [(w : Int)]), (c' : Int)).1 + val 256 (b.take (i + 1)) := fun w c' hw hc' he => by
      refine ⟨?_, c', rfl, hc', by rw [List.length_append, e3]; rfl, e4.app (Dig.nil.cons a4), ?_⟩
      · rw [u8w a4, ep (by show _ * _ ≤ _; rw [List.length_append, e3]; simp; omega)]
      · dsimp only; rw [zgN, e3, zfp, zfp, Int.toNat_natCast]; (have h1 : 256 ^ i * ((nth a i).toNat + 256 * c') = 256 ^ i * (w + (nth b i).toNat + c) := by rw [he]); rw [Nat.mul_add, Nat.mul_add, Nat.mul_add, ← Nat.mul_assoc, ← Nat.pow_succ] at h1
        show _ + 256 ^ i.succ * c' = _
        omega
    have fin : ∀ d : Int, d = nth a i - (nth b i) - (c : Int) → ∃ r, (bif decide (d < 0) then
            (dg (dz (s.1 ++ [(IntKind.u8.wrap (wI (d + 256)))]).length 1) <|
          next ((s.1 ++ [(IntKind.u8.wrap (wI (d + 256)))]), 1))
            else
            (dg (dz (s.1 ++ [(IntKind.u8.wrap d)]).length 1) <|
          next ((s.1 ++ [(IntKind.u8.wrap d)]), 0))) = some r ∧ LsIs r (A - B) := fun d hd => by
      by_cases hneg : d < 0
      · rw [decide_eq_true hneg, cond_true, fR a4, show d + 256 = (((d + 256).toNat : Nat) : Int) by omega]; obtain ⟨k1, k2⟩ := key (d + 256).toNat 1 a4 a4 a4; rw [show ((1 : Nat) : Int) = 1 from rfl] at k1; rw [k1]; exact hnx _ k2
      · rw [decide_eq_false hneg, cond_false, show d = ((d.toNat : Nat) : Int) by omega]; obtain ⟨k1, k2⟩ := key d.toNat 0 a4 a4 a4; rw [show ((0 : Nat) : Int) = 0 from rfl] at k1; rw [k1]; exact hnx _ k2
    by_cases hb' : i < b.length
    · rw [decide_eq_true a4, cond_true];refine fin _ ?_; rw [fR (x := nth a i) a4, e1, fR (x := nth a i - (c : Int)) a4, fR (x := nth b i) a4, fR a4]; omega
    · rw [decide_eq_false a4, cond_false];refine fin _ ?_; rw [fR (x := nth a i) a4, e1, fR a4, kj (l := b) a4]; omega
end Go.Proofs.YtmnjbhkcfghebaaGreatDoor
