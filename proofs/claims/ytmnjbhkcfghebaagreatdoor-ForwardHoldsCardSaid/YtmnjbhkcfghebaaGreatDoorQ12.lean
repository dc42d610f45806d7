/- Yr: shortened and put together by squeeze.py. -/
import Derived.Test.YtmnjbhkcfghebaaGreatDoorQ11
set_option maxRecDepth 100000
set_option maxHeartbeats 4000000
set_option linter.unusedVariables false
set_option linter.unusedSectionVars false
set_option linter.unusedSimpArgs false
namespace Go.Proofs.YtmnjbhkcfghebaaGreatDoor
open Go.RowKit
structure Gbandplanref36_Auction where
 Products:List GProduct
 Bidders:List GBidder
 Increment:GIncrement
 Key:List Int
 Posted:List Int
 Rounds:Int
deriving DecidableEq,Inhabited
def dW (F:Frz)(c:List Value)(x:Gbandplanref36_Auction):Prop:=∃(v0:Value) (v1:Value) (cs1:List (List Value)) (v4:Value) (v5:Value),c=[v0,v1, .int .i64 x.Increment.Activity, .int .i64 x.Increment.Step,v4,v5, .int .i64 x.Rounds]∧SlC F v0 5 (x.Products.map cV)∧SlD cR F v1 4 cs1 x.Bidders∧SlC F v4 1 (x.Key.map (eK .u8))∧SlC F v5 1 (x.Posted.map eI)
theorem Gbandplanref36_Auction.mono {F G:Frz}{c:List Value}{x:Gbandplanref36_Auction}(hle:F.Le G)(h:dW F c x):dW G c x:=by
 obtain ⟨v0,v1,cs1,v4,v5,h0,h1,h2,h5,h6⟩:=h;exact ⟨v0,v1,cs1,v4,v5,h0,h1.mono hle,SlD.mono (rep:=cR) (fun _ _ _ _=>GBidder.mono) h2 hle,h5.mono hle,h6.mono hle⟩
theorem Gbandplanref36_Auction.len {F:Frz}{c:List Value}{x:Gbandplanref36_Auction}(h:dW F c x):c.length=7:=by
 obtain ⟨v0,v1,cs1,v4,v5,h0,h1,h2,h5,h6⟩:=h;subst h0;rfl
theorem Gbandplanref36_Auction.one {F:Frz}{c:List Value}{x:Gbandplanref36_Auction}(h:dW F c x):OneCs c:=by
 obtain ⟨v0,v1,cs1,v4,v5,h0,h1,h2,h5,h6⟩:=h;subst h0;haveI:=h1.oneC;haveI:=h2.1.oneC;haveI:=h5.oneC;haveI:=h6.oneC
 infer_instance
def zbZ (i:GIncrement):Bool:=
 ((((decide (1≤i.Activity))&&(decide (i.Activity≤100)))&&(decide (1≤i.Step)))&&(decide (i.Step≤50)))
def zc0 (a:GInt):Option (List Int):=
 dF (fun (out_1:List Int)=>
 some out_1)
 (fun k2=>
 gz (fun (i_5:Nat) (next4:List Int→Option (List Int)) (out_3:List Int)=>
 dj (dm (out_3++[(nth a.Digits i_5)]).length 1) <|
 next4 (out_3++[(nth a.Digits i_5)]))
 (fun (out_3:List Int)=>
 k2 out_3) a.Digits.length [])
theorem zdE (F0:Frz)(w:World)(hF0:F0.At w)(a:GInt)(va_1:Value)(ha_1:SlC F0 va_1 1 (a.Digits.map (eK .u8)))(r:List Int)(hr:zc0 a=some r):Calls Tryz.prog 200 #[.agg [.bool a.Neg,va_1].toArray] w fun e w'=>∃(y:Value) (G:Frz),(SlC G y 1 (r.map (eK .u8)))∧e= .returned (y)∧Fx F0 w G w':=by
 have hk:=hr;unfold zc0 at hk;haveI:=ha_1.oneC;obtain ⟨S0,F1,rfl,hS0,hp0⟩:=eo hF0;refine dQ Tryz.func200 rfl rfl rfl hp0 ?_;refine iA ?_;rintro _ _ ⟨g1,rfl,rfl⟩;refine dy ?_;refine i0 ?_;refine TL.slNil 5 1 ?_;refine je ?_;refine kP ?_;refine cS (dk rfl rfl ha_1 (List.length_map _)) ?_;have hm7:a.Digits.length≤9223372036854775807:=(List.length_map _)▸ha_1.max;refine jL ?_;refine dZ ?_;have hq:=d7 hk;clear hk;obtain ⟨k2,hk2,hk⟩:=hq; (try dsimp only at hk);refine c9 (ι:=List Int×Value) (fun z=>[(3,z.2)]) (fun z=>[.sl z.2 5 1 z.1.length (z.1.flatMap (eK .u8)), .fr F1]) (fun z=>k2 z.1=some r∧OneC z.2) ?_ ?_
 ·have hq:=zdF hk;clear hk;obtain ⟨f4,kk4,hf4,hkk4,hk⟩:=hq;refine eH ?_;refine T.loop (ι:=Nat×List Int×Value) (fun z=>[(1, .pointer (some ⟨g1,0,none⟩)),(3,z.2.2),(4, .int .i64 ((z.1:Int) - 1))]) (fun z=>[.sl z.2.2 5 1 z.2.1.length (z.2.1.flatMap (eK .u8)), .row g1 26 [.bool a.Neg,va_1], .fr F1]) (fun z=>gz f4 kk4 z.1 z.2.1=some r∧z.1≤a.Digits.length∧OneC z.2.2) (fun z=>z.1) (a.Digits.length,[],(.slice none 0 0)) ?_ ?_ ?_ ?_
  ·exact ⟨hk,(Nat.le_refl _),inferInstance⟩
  ·exact mx
  ·exact eG
  ·rintro ⟨i_5,out_3,vout_3⟩ ⟨hk,hle4,oout_3⟩; (try dsimp only at *);refine lT ?_;refine T.cond rfl (fun h6=>?_) (fun h6=>?_)
   ·have p6:=of_decide_eq_true h6;obtain ⟨i_5',rfl⟩:∃q,i_5=q+1:=⟨i_5 - 1,by omega⟩;replace hk:f4 i_5' (gz f4 kk4 i_5') out_3=some r:=hk;generalize hn4:gz f4 kk4 i_5'=next4 at hk;rw [←hf4] at hk; (try dsimp only at hk);refine kX (gs:=[(1, .pointer (some ⟨g1,0,none⟩)),(3,vout_3),(4, .int .i64 (i_5':Int))]) (by repeat (first|exact Sub.nil|refine Sub.cons rfl ?_|refine fc rfl a7 ?_|refine e7 rfl cQ ?_)) (List.Sublist.refl _) ?_;refine T.skip (K.seq (T.seq (T.block ?_)));have hq:(dm (out_3++[(nth a.Digits i_5')]).length 1)∧_:=dB hk;clear hk;obtain ⟨g20,hk⟩:=hq; (try dsimp only at hk);refine ef ?_;refine kP ?_;refine dy ?_;refine cS (df (i:=i_5') rfl rfl rfl ha_1 (List.length_map _) rfl a7) ?_;refine cS (dD 2 (i:=i_5') (j:=0) rfl rfl rfl ha_1 a7) ?_;refine iz ?_;rintro _ _ ⟨g19,rfl,rfl⟩;refine cX (gT 1 0 rfl rfl rfl rfl rfl rfl (zdC (ys:=[(nth a.Digits i_5')])) (zc9 (enc:=(eK .u8)) (xs:=out_3) (ys:=[(nth a.Digits i_5')])) g20 a8) ?_;rintro v20 _ ⟨hv20,rfl⟩;refine q3Q ?_;refine q2q ?_;rw [←hn4] at hk;refine K.pick [1,2,3] rfl a8 ?_;exact K.next (i_5',(out_3++[(nth a.Digits i_5')]),v20) ⟨hk,b5,inferInstance⟩ b5 (.c (.c (.c .nil))) (List.Sublist.refl _)
   ·have p6:=of_decide_eq_false h6;obtain rfl:i_5=0:=a7;replace hk:kk4 out_3=some r:=hk;rw [←hkk4] at hk; (try dsimp only at hk);refine eN ?_;refine K.pick [0,2] rfl a8 ?_;exact q4C
 ·rintro ⟨out_1,vout_1⟩ ⟨hk,oout_1⟩; (try dsimp only at *);rw [←hk2] at hk; (try dsimp only at hk);refine gO ?_;refine q2x ?_;rintro F2 ⟨le1_2,hz2⟩;refine fI ?_;have hfF2:=hz2.toF rfl (fun _=>rfl);haveI:=hfF2.oneC;obtain rfl:=Option.some.inj hk;exact eQ rfl rfl (fun w' hw=>⟨vout_1,F2.toFrz,hfF2,rfl,dU hw (i:=0) rfl hS0 le1_2⟩)
def zdp (fuel:Nat)(a:List Int):Option (List Int):=
 dF (fun (a_1:List Int)=>
 some a_1)
 (fun k2=>
 eS (fun (next4:List Int→Option (List Int)) (a_3:List Int)=>
 (bif ((decide (0<(a_3.length:Int)))&&(decide ((nth a_3 (((a_3.length:Int) - 1).toNat))=0))) then
 next4 (a_3.take (((a_3.length:Int) - 1).toNat))
 else
 k2 a_3)) fuel a)
theorem zer (F0:Frz)(w:World)(hF0:F0.At w)(a:List Int)(va:Value)(ha:SlC F0 va 1 (a.map (eK .u8)))(fuel:Nat)(r:List Int)(hr:zdp fuel a=some r):Calls Tryz.prog 228 #[va] w fun e w'=>∃(y:Value) (G:Frz),(SlC G y 1 (r.map (eK .u8)))∧e= .returned (y)∧Fx F0 w G w':=by
 have hk:=hr;unfold zdp at hk;haveI:=ha.oneC;obtain ⟨S0,F1,rfl,hS0,hp0⟩:=eo hF0;refine dQ Tryz.func228 rfl rfl rfl hp0 ?_;refine eW ?_;have hq:=d7 hk;clear hk;obtain ⟨k2,hk2,hk⟩:=hq; (try dsimp only at hk);refine c9 (ι:=List Int×Value×FzB w (fun _=>False) S0) (fun z=>[(0,z.2.1)]) (fun z=>[.fr z.2.2]) (fun z=>k2 z.1=some r∧SlC z.2.2.toFrz z.2.1 1 (z.1.map (eK .u8))∧F1.toFrz.Le z.2.2.toFrz) ?_ ?_
 ·have hq:=kF hk;clear hk;obtain ⟨f4,hf4,hk⟩:=hq;refine eH ?_;refine T.loop (ι:=Nat×List Int×Value×FzB w (fun _=>False) S0) (fun z=>[(0,z.2.2.1)]) (fun z=>[.fr z.2.2.2]) (fun z=>eS f4 z.1 z.2.1=some r∧SlC z.2.2.2.toFrz z.2.2.1 1 (z.2.1.map (eK .u8))∧F1.toFrz.Le z.2.2.2.toFrz) (fun z=>z.1) (fuel,a,va,F1) ?_ ?_ ?_ ?_
  ·exact ⟨hk,ha,(Frz.Le.refl _)⟩
  ·exact (.c .nil)
  ·exact eG
  ·rintro ⟨m_5,a_3,va_3,F3⟩ ⟨hk,ha_3,le1_3⟩; (try dsimp only at *);haveI:=ha_3.oneC;have hq:=kE hk;clear hk;obtain ⟨m_5',rfl,hk⟩:=hq;generalize hn4:eS f4 m_5'=next4 at hk;rw [←hf4] at hk; (try dsimp only at hk);refine T.seq (T.seq ?_);refine c9 (ι:=Unit) (fun z=>[(0,va_3),(14, .bool ((decide (0<(a_3.length:Int)))&&(decide ((nth a_3 (((a_3.length:Int) - 1).toNat))=0))))]) (fun z=>[.fr F3]) (fun z=>True) ?_ ?_
   ·refine ef ?_;refine cS (dk rfl rfl ha_3 (List.length_map _)) ?_;have hm4:a_3.length≤9223372036854775807:=(List.length_map _)▸ha_3.max;refine ek ?_;refine dg rfl rfl rfl (fun h6=>?_) (fun h6=>?_)
    ·have p6:=of_decide_eq_true h6;refine ek ?_;refine cS (dk rfl rfl ha_3 (List.length_map _)) ?_;refine jL ?_;refine cS (df (i:=((a_3.length:Int) - 1).toNat) rfl rfl rfl ha_3 (List.length_map _) a7 a7) ?_;refine cS (dD 0 (i:=((a_3.length:Int) - 1).toNat) (j:=0) rfl rfl rfl ha_3 a7) ?_;refine jZ ?_;exact cY () trivial (.c (.b (kg h6) .nil)) (List.Sublist.refl _)
    ·have p6:=of_decide_eq_false h6;refine TL.run 8 rfl ?_;refine fG ?_;exact cY () trivial (.c (.b (iL h6).symm .nil)) (List.Sublist.refl _)
   ·rintro _ _;have hm4:a_3.length≤9223372036854775807:=(List.length_map _)▸ha_3.max;refine T.cond rfl (fun h7=>?_) (fun h7=>?_)
    ·have p7:=h7; (try simp only [iC] at p7);replace hk:=dr hk h7;refine T.skip (K.seq (T.block (T.region ?_)));refine ek ?_;refine cS (dk rfl rfl ha_3 (List.length_map _)) ?_;refine jL ?_;refine cS (lg (i:=((a_3.length:Int) - 1).toNat) rfl rfl rfl ha_3 (List.length_map _) a7 a7) ?_;have hs19_:SlC F3.toFrz (gd va_3 0 (((a_3.length:Int) - 1).toNat) 1) 1 ((a_3.take (((a_3.length:Int) - 1).toNat)).map (eK .u8)):=ha_3.sliceh (i:=((a_3.length:Int) - 1).toNat) a7;haveI:=hs19_.oneC;refine q3u ?_;rw [←hn4] at hk;exact K.next (m_5',(a_3.take (((a_3.length:Int) - 1).toNat)),(gd va_3 0 (((a_3.length:Int) - 1).toNat) 1),F3) ⟨hk,hs19_,le1_3⟩ b5 (.c .nil) (List.Sublist.refl _)
    ·replace hk:=dt hk h7;refine eN ?_;exact cY (a_3,va_3,F3) ⟨hk,ha_3,le1_3⟩ (.c .nil) (List.Sublist.refl _)
 ·rintro ⟨a_1,va_1,F2⟩ ⟨hk,ha_1,le1_2⟩; (try dsimp only at *);rw [←hk2] at hk; (try dsimp only at hk);haveI:=ha_1.oneC;refine q3S ?_;obtain rfl:=Option.some.inj hk;exact eQ rfl rfl (fun w' hw=>⟨va_1,F2.toFrz,ha_1,rfl,dU hw (i:=0) rfl hS0 le1_2⟩)
def zdX (fuel:Nat)(a:List Int)(b:List Int):Option (List Int):=
 dF (fun (out_1:List Int)=>
 (zdp fuel out_1).bind fun r57=>
 some r57)
 (fun k2=>
 eS (fun (next6:(List Int×Int×Int)→Option (List Int)) (s6:List Int×Int×Int)=>
 (bif (((decide (s6.2.2<(a.length:Int)))||(decide (s6.2.2<(b.length:Int))))||(decide (0<s6.2.1))) then
 dF (fun (s_11:Int)=>
 dF (fun (s_14:Int)=>
 dj (0≤s_14∧1≤(256:Int)) <|
 dj (dm (s6.1++[(IntKind.u8.wrap (s_14 % 256))]).length 1) <|
 dj (0≤s_14∧s_14≤9223372036854775807∧1≤(256:Int)) <|
 next6 ((s6.1++[(IntKind.u8.wrap (s_14 % 256))]),(s_14 / 256),wI (s6.2.2+1)))
 (fun k15=>
 (bif decide (s6.2.2<(b.length:Int)) then
 dj (0≤s6.2.2∧s6.2.2<(b.length:Int)) <|
 k15 (wI (s_11+(wI (nth b s6.2.2.toNat))))
 else
 k15 s_11)))
 (fun k12=>
 (bif decide (s6.2.2<(a.length:Int)) then
 dj (0≤s6.2.2∧s6.2.2<(a.length:Int)) <|
 k12 (wI (s6.2.1+(wI (nth a s6.2.2.toNat))))
 else
 k12 s6.2.1))
 else
 k2 s6.1)) fuel ([],0,0))
theorem zeV (F0:Frz)(w:World)(hF0:F0.At w)(a:List Int)(va:Value)(ha:SlC F0 va 1 (a.map (eK .u8)))(b:List Int)(vb:Value)(hb:SlC F0 vb 1 (b.map (eK .u8)))(fuel:Nat)(r:List Int)(hr:zdX fuel a b=some r):Calls Tryz.prog 226 #[va,vb] w fun e w'=>∃(y:Value) (G:Frz),(SlC G y 1 (r.map (eK .u8)))∧e= .returned (y)∧Fx F0 w G w':=by
 have hk:=hr;unfold zdX at hk;haveI:=ha.oneC;haveI:=hb.oneC;obtain ⟨S0,F1,rfl,hS0,hp0⟩:=eo hF0;refine dQ Tryz.func226 rfl rfl rfl hp0 ?_;refine eV ?_;refine i0 ?_;refine TL.slNil 5 1 ?_;refine i0 ?_;refine je ?_;refine dZ ?_;have hq:=d7 hk;clear hk;obtain ⟨k2,hk2,hk⟩:=hq; (try dsimp only at hk);refine c9 (ι:=List Int×Value) (fun z=>[(5,z.2)]) (fun z=>[.sl z.2 5 1 z.1.length (z.1.flatMap (eK .u8)), .fr F1]) (fun z=>k2 z.1=some r∧OneC z.2) ?_ ?_
 ·have hq:=kF hk;clear hk;obtain ⟨f6,hf6,hk⟩:=hq;refine eH ?_;refine T.loop (ι:=Nat×List Int×Value×Int×Int) (fun z=>[(0,va),(1,vb),(5,z.2.2.1),(6, .int .i64 z.2.2.2.1),(7, .int .i64 z.2.2.2.2)]) (fun z=>[.sl z.2.2.1 5 1 z.2.1.length (z.2.1.flatMap (eK .u8)), .fr F1]) (fun z=>eS f6 z.1 (z.2.1,z.2.2.2.1,z.2.2.2.2)=some r∧OneC z.2.2.1) (fun z=>z.1) (fuel,[],(.slice none 0 0),0,0) ?_ ?_ ?_ ?_
  ·exact q4g
  ·exact kn
  ·exact eG
  ·rintro ⟨m_7,out_3,vout_3,carry_4,i_5⟩ ⟨hk,oout_3⟩; (try dsimp only at *);have hq:=kE hk;clear hk;obtain ⟨m_7',rfl,hk⟩:=hq;generalize hn6:eS f6 m_7'=next6 at hk;rw [←hf6] at hk; (try dsimp only at hk);refine T.seq (T.seq ?_);refine c9 (ι:=Unit) (fun z=>[(0,va),(1,vb),(5,vout_3),(6, .int .i64 carry_4),(7, .int .i64 i_5),(22, .bool (((decide (i_5<(a.length:Int)))||(decide (i_5<(b.length:Int))))||(decide (0<carry_4))))]) (fun z=>[.sl vout_3 5 1 out_3.length (out_3.flatMap (eK .u8)), .fr F1]) (fun z=>True) ?_ ?_
   ·refine eO ?_;refine q1K ?_;have hm11:a.length≤9223372036854775807:=(List.length_map _)▸ha.max;refine ek ?_;refine dg rfl rfl rfl (fun h8=>?_) (fun h8=>?_)
    ·have p8:=of_decide_eq_true h8;refine TL.run 9 rfl ?_;refine fG ?_;exact cY () trivial (.c (.c (.c (.c (.c (.b (eD (eD h8)).symm .nil)))))) (List.Sublist.refl _)
    ·have p8:=of_decide_eq_false h8;refine ek ?_;refine q2J ?_;have hm16:b.length≤9223372036854775807:=(List.length_map _)▸hb.max;refine fP ?_;refine dg rfl rfl rfl (fun h9=>?_) (fun h9=>?_)
     ·have p9:=of_decide_eq_true h9;refine q3P ?_;exact cY () trivial (.c (.c (.c (.c (.c (.b (eD (fw h8 h9)).symm .nil)))))) (List.Sublist.refl _)
     ·have p9:=of_decide_eq_false h9;refine q3P ?_;exact cY () trivial (.c (.c (.c (.c (.c (.b (fK (fw h8 h9)) .nil)))))) (List.Sublist.refl _)
   ·rintro _ _;have hm11:a.length≤9223372036854775807:=(List.length_map _)▸ha.max;have hm16:b.length≤9223372036854775807:=(List.length_map _)▸hb.max;refine T.cond rfl (fun h10=>?_) (fun h10=>?_)
    ·replace hk:=dr hk h10;refine lP ?_;refine je ?_;refine ek ?_;refine q1K ?_;refine dZ ?_;have hq:=d7 hk;clear hk;obtain ⟨k12,hk12,hk⟩:=hq; (try dsimp only at hk);refine c9 (ι:=Int) (fun z=>[(0,va),(1,vb),(5,vout_3),(7, .int .i64 i_5),(8, .int .i64 z)]) (fun z=>[.sl vout_3 5 1 out_3.length (out_3.flatMap (eK .u8)), .fr F1]) (fun z=>k12 z=some r) ?_ ?_
     ·refine T.cond rfl (fun h13=>?_) (fun h13=>?_)
      ·have p13:=of_decide_eq_true h13;replace hk:=dr hk h13;have hq:(0≤i_5∧i_5<(a.length:Int))∧_:=dB hk;clear hk;obtain ⟨g33,hk⟩:=hq; (try dsimp only at hk);refine ie ?_;refine cS (df (i:=i_5.toNat) rfl rfl rfl ha (List.length_map _) a7 a7) ?_;refine cS (dD 1 (i:=i_5.toNat) (j:=0) rfl rfl rfl ha a7) ?_;refine cS (dV (z:=(nth a i_5.toNat))) ?_;refine cS (dh (v:= .int .i64 (wI (carry_4+(wI (nth a i_5.toNat)))))) ?_;refine jv ?_;exact cY (wI (carry_4+(wI (nth a i_5.toNat)))) hk (.c (.c (.c (.c (.c .nil))))) (List.Sublist.refl _)
      ·have p13:=of_decide_eq_false h13;replace hk:=dt hk h13;refine T.skip ?_;exact cY carry_4 hk (.c (.c (.c (.c (.c .nil))))) (List.Sublist.refl _)
     ·rintro s_11 hk;rw [←hk12] at hk; (try dsimp only at hk);refine l6 ?_;refine q2J ?_;refine dZ ?_;have hq:=d7 hk;clear hk;obtain ⟨k15,hk15,hk⟩:=hq; (try dsimp only at hk);refine c9 (ι:=Int) (fun z=>[(0,va),(1,vb),(5,vout_3),(7, .int .i64 i_5),(8, .int .i64 z)]) (fun z=>[.sl vout_3 5 1 out_3.length (out_3.flatMap (eK .u8)), .fr F1]) (fun z=>k15 z=some r) ?_ ?_
      ·refine T.cond rfl (fun h16=>?_) (fun h16=>?_)
       ·have p16:=of_decide_eq_true h16;replace hk:=dr hk h16;have hq:(0≤i_5∧i_5<(b.length:Int))∧_:=dB hk;clear hk;obtain ⟨g44,hk⟩:=hq; (try dsimp only at hk);refine ie ?_;refine cS (df (i:=i_5.toNat) rfl rfl rfl hb (List.length_map _) a7 a7) ?_;refine cS (dD 1 (i:=i_5.toNat) (j:=0) rfl rfl rfl hb a7) ?_;refine cS (dV (z:=(nth b i_5.toNat))) ?_;refine cS (dh (v:= .int .i64 (wI (s_11+(wI (nth b i_5.toNat)))))) ?_;refine jv ?_;exact cY (wI (s_11+(wI (nth b i_5.toNat)))) hk (.c (.c (.c (.c (.c .nil))))) (List.Sublist.refl _)
       ·have p16:=of_decide_eq_false h16;replace hk:=dt hk h16;refine T.skip ?_;exact cY s_11 hk (.c (.c (.c (.c (.c .nil))))) (List.Sublist.refl _)
      ·rintro s_14 hk;rw [←hk15] at hk; (try dsimp only at hk);refine T.seq ?_;have hq:(0≤s_14∧1≤(256:Int))∧_:=dB hk;clear hk;obtain ⟨g50,hk⟩:=hq;have hq:(dm (out_3++[(IntKind.u8.wrap (s_14 % 256))]).length 1)∧_:=dB hk;clear hk;obtain ⟨g53,hk⟩:=hq; (try dsimp only at hk);refine eO ?_;refine cS (jF (a:=s_14) (b:=(256:Int)) rfl rfl rfl g50) ?_;refine cS (dV (z:=(s_14 % 256))) ?_;refine iz ?_;rintro _ _ ⟨g52,rfl,rfl⟩;refine cX (gT 1 0 rfl rfl rfl rfl rfl rfl (zdC (ys:=[(IntKind.u8.wrap (s_14 % 256))])) (zc9 (enc:=(eK .u8)) (xs:=out_3) (ys:=[(IntKind.u8.wrap (s_14 % 256))])) g53 a8) ?_;rintro v53 _ ⟨hv53,rfl⟩;refine dZ ?_;have hq:(0≤s_14∧s_14≤9223372036854775807∧1≤(256:Int))∧_:=dB hk;clear hk;obtain ⟨g55,hk⟩:=hq; (try dsimp only at hk);refine ef ?_;refine cS (gc (a:=s_14) (b:=(256:Int)) rfl rfl rfl g55) ?_;refine q3Q ?_;refine dy ?_;refine cS (dh (v:= .int .i64 (wI (i_5+1)))) ?_;refine jv ?_;rw [←hn6] at hk;refine K.pick [1,2] rfl a8 ?_;exact K.next (m_7',(out_3++[(IntKind.u8.wrap (s_14 % 256))]),v53,(s_14 / 256),wI (i_5+1)) ⟨hk,inferInstance⟩ b5 (.c (.c (.c (.c (.c .nil))))) (List.Sublist.refl _)
    ·have p10:=h10; (try simp only [iC] at p10);replace hk:=dt hk h10;refine eN ?_;exact q4C
 ·rintro ⟨out_1,vout_1⟩ ⟨hk,oout_1⟩; (try dsimp only at *);rw [←hk2] at hk; (try dsimp only at hk);refine T.seq ?_;refine q1B ?_;rintro F2 ⟨le1_2,hz2⟩;refine fI ?_;have hfF2:=hz2.toF rfl (fun _=>rfl);haveI:=hfF2.oneC;have hq:=dw hk;clear hk;obtain ⟨r57,hr57,hk⟩:=hq; (try dsimp only at hk);refine ef ?_;refine cX (dl 0 rfl rfl rfl rfl (fun w hw hF=>zer _ w hF out_1 vout_1 hfF2 fuel r57 hr57)) ?_;rintro _ _ ⟨v57_0_0,F3,le2_3,hf57_0_0,hq,rfl⟩;obtain rfl:=hq.symm;have le1_3:=le1_2.trans le2_3;haveI:=hf57_0_0.oneC;refine iw ?_;obtain rfl:=Option.some.inj hk;exact eQ rfl rfl (fun w' hw=>⟨v57_0_0,F3.toFrz,hf57_0_0,rfl,dU hw (i:=0) rfl hS0 le1_3⟩)
def zd4 (a:List Int)(b:List Int):Int:=
 (bif decide (¬(a.length:Int)=(b.length:Int)) then
 (bif decide ((a.length:Int)<(b.length:Int)) then
 (-1)
 else
 1)
 else
 dF (fun (_:Unit)=>
 0)
 (fun k3=>
 gz (fun (i_5:Nat) (next4:Unit→Int) (_:Unit)=>
 (bif decide (¬(nth a i_5)=(nth b i_5)) then
 (bif decide ((nth a i_5)<(nth b i_5)) then
 (-1)
 else
 1)
 else
 next4 ()))
 (fun (_:Unit)=>
 k3 ()) a.length ()))
theorem zhd (F0:Frz)(w:World)(hF0:F0.At w)(a:List Int)(va:Value)(ha:SlC F0 va 1 (a.map (eK .u8)))(b:List Int)(vb:Value)(hb:SlC F0 vb 1 (b.map (eK .u8))):Calls Tryz.prog 213 #[va,vb] w fun e w'=>e= .returned (.int .i64 (zd4 a b))∧Below w.heap.size w w':=by
 obtain ⟨r,hk⟩:∃r,zd4 a b=r:=⟨_,rfl⟩;rw [hk];unfold zd4 at hk;haveI:=ha.oneC;haveI:=hb.oneC;obtain ⟨S0,F1,rfl,hS0,hp0⟩:=eo hF0;refine dQ Tryz.func213 rfl rfl rfl hp0 ?_;refine jQ ?_;refine q1K ?_;have hm7:a.length≤9223372036854775807:=(List.length_map _)▸ha.max;refine dy ?_;refine q2J ?_;have hm9:b.length≤9223372036854775807:=(List.length_map _)▸hb.max;refine dZ ?_;refine T.cond rfl (fun h1=>?_) (fun h1=>?_)
 ·have p1:=of_decide_eq_true h1;replace hk:=dr hk h1;refine iS ?_;refine dy ?_;refine q1K ?_;refine dy ?_;refine q2J ?_;refine dZ ?_;refine T.cond rfl (fun h2=>?_) (fun h2=>?_)
  ·have p2:=of_decide_eq_true h2;replace hk:=dr hk h2;refine eV ?_;refine dz (T.ret (gk (gk ?_)));subst hk;exact d8
  ·have p2:=of_decide_eq_false h2;replace hk:=dt hk h2;refine kO ?_;refine jt ?_;subst hk;exact d8
 ·have p1:=of_decide_eq_false h1;replace hk:=dt hk h1;refine j0 ?_;refine dy ?_;refine q1K ?_;refine jL ?_;refine dZ ?_;have hq:=d7 hk;clear hk;obtain ⟨k3,hk3,hk⟩:=hq; (try dsimp only at hk);refine c9 (ι:=Unit) (fun z=>[]) (fun z=>[.fr F1]) (fun z=>k3 ()=r) ?_ ?_
  ·have hq:=zdF hk;clear hk;obtain ⟨f4,kk4,hf4,hkk4,hk⟩:=hq;refine eH ?_;refine T.loop (ι:=Nat) (fun z=>[(0,va),(1,vb),(5, .int .i64 ((z:Int) - 1))]) (fun z=>[.fr F1]) (fun z=>gz f4 kk4 z ()=r∧z≤a.length) (fun z=>z) a.length ?_ ?_ ?_ ?_
   ·exact ⟨hk,(Nat.le_refl _)⟩
   ·exact mx
   ·exact eG
   ·rintro i_5 ⟨hk,hle4⟩;refine lT ?_;refine T.cond rfl (fun h6=>?_) (fun h6=>?_)
    ·have p6:=of_decide_eq_true h6;obtain ⟨i_5',rfl⟩:∃q,i_5=q+1:=⟨i_5 - 1,by omega⟩;replace hk:f4 i_5' (gz f4 kk4 i_5') ()=r:=hk;generalize hn4:gz f4 kk4 i_5'=next4 at hk;rw [←hf4] at hk; (try dsimp only at hk);refine kX (gs:=[(0,va),(1,vb),(5, .int .i64 (i_5':Int))]) (by repeat (first|exact Sub.nil|refine Sub.cons rfl ?_|refine fc rfl a7 ?_|refine e7 rfl cQ ?_)) (List.Sublist.refl _) ?_;refine q2s ?_;refine q1U ?_;refine T.cond rfl (fun h7=>?_) (fun h7=>?_)
     ·have p7:=of_decide_eq_true h7;replace hk:=dr hk h7;refine T.seq (T.seq ?_);refine q1U ?_;refine T.cond rfl (fun h8=>?_) (fun h8=>?_)
      ·have p8:=of_decide_eq_true h8;replace hk:=dr hk h8;refine lf ?_;subst hk;exact d8
      ·have p8:=of_decide_eq_false h8;replace hk:=dt hk h8;refine kO ?_;refine ky ?_;subst hk;exact d8
     ·have p7:=of_decide_eq_false h7;replace hk:=dt hk h7;refine q1i ?_;refine q2q ?_;rw [←hn4] at hk;exact q4D
    ·have p6:=of_decide_eq_false h6;obtain rfl:i_5=0:=a7;replace hk:kk4 ()=r:=hk;rw [←hkk4] at hk; (try dsimp only at hk);refine eN ?_;exact kY
  ·rintro _ hk;rw [←hk3] at hk; (try dsimp only at hk);refine kp ?_;subst hk;exact d8
def zd7 (fuel:Nat)(a:List Int)(b:List Int):Option (List Int):=
 dF (fun (out_1:List Int)=>
 (zdp fuel out_1).bind fun r43=>
 some r43)
 (fun k2=>
 dq (fun (i_6:Nat) (next5:(List Int×Int)→Option (List Int)) (s5:List Int×Int)=>
 dF (fun (s_8:Int)=>
 dF (fun (s13:Int×Int)=>
 dj (dm (s5.1++[(IntKind.u8.wrap s13.2)]).length 1) <|
 next5 ((s5.1++[(IntKind.u8.wrap s13.2)]),s13.1))
 (fun k13=>
 (bif decide (s_8<0) then
 k13 (1,wI (s_8+256))
 else
 k13 (0,s_8))))
 (fun k9=>
 (bif decide ((i_6:Int)<(b.length:Int)) then
 k9 (wI ((wI ((wI (nth a i_6)) - s5.2)) - (wI (nth b i_6))))
 else
 k9 (wI ((wI (nth a i_6)) - s5.2)))))
 (fun (s5:List Int×Int)=>
 k2 s5.1) (a.length - 0) 0 ([],0))
theorem zfy (F0:Frz)(w:World)(hF0:F0.At w)(a:List Int)(va:Value)(ha:SlC F0 va 1 (a.map (eK .u8)))(b:List Int)(vb:Value)(hb:SlC F0 vb 1 (b.map (eK .u8)))(fuel:Nat)(r:List Int)(hr:zd7 fuel a b=some r):Calls Tryz.prog 227 #[va,vb] w fun e w'=>∃(y:Value) (G:Frz),(SlC G y 1 (r.map (eK .u8)))∧e= .returned (y)∧Fx F0 w G w':=by
 have hk:=hr;unfold zd7 at hk;haveI:=ha.oneC;haveI:=hb.oneC;obtain ⟨S0,F1,rfl,hS0,hp0⟩:=eo hF0;refine dQ Tryz.func227 rfl rfl rfl hp0 ?_;refine eV ?_;refine i0 ?_;refine TL.slNil 5 1 ?_;refine i0 ?_;refine je ?_;refine dZ ?_;have hq:=d7 hk;clear hk;obtain ⟨k2,hk2,hk⟩:=hq; (try dsimp only at hk);refine c9 (ι:=List Int×Value) (fun z=>[(5,z.2)]) (fun z=>[.sl z.2 5 1 z.1.length (z.1.flatMap (eK .u8)), .fr F1]) (fun z=>k2 z.1=some r∧OneC z.2) ?_ ?_
 ·have hq:=fJ hk;clear hk;obtain ⟨f5,kk5,hf5,hkk5,hk⟩:=hq;refine eH ?_;refine T.loop (ι:=Nat×List Int×Value×Int) (fun z=>[(0,va),(1,vb),(5,z.2.2.1),(6, .int .i64 z.2.2.2),(7, .int .i64 (z.1:Int))]) (fun z=>[.sl z.2.2.1 5 1 z.2.1.length (z.2.1.flatMap (eK .u8)), .fr F1]) (fun z=>dq f5 kk5 (a.length - z.1) z.1 (z.2.1,z.2.2.2)=some r∧OneC z.2.2.1) (fun z=>a.length - z.1) (0,[],(.slice none 0 0),0) ?_ ?_ ?_ ?_
  ·exact q4g
  ·exact kn
  ·exact eG
  ·rintro ⟨i_6,out_3,vout_3,borrow_4⟩ ⟨hk,oout_3⟩; (try dsimp only at *);refine l6 ?_;refine q1K ?_;have hm11:a.length≤9223372036854775807:=(List.length_map _)▸ha.max;refine dZ ?_;refine T.cond rfl (fun h7=>?_) (fun h7=>?_)
   ·have p7:=of_decide_eq_true h7;rw [fF a7] at hk;generalize hn5:dq f5 kk5 (a.length - (i_6+1)) (i_6+1)=next5 at hk;rw [←hf5] at hk; (try dsimp only at hk);refine lP ?_;refine cS (df (i:=i_6) rfl rfl rfl ha (List.length_map _) rfl a7) ?_;refine cS (dD 1 (i:=i_6) (j:=0) rfl rfl rfl ha a7) ?_;refine cS (dV (z:=(nth a i_6))) ?_;refine dy ?_;refine cS (dh (v:= .int .i64 (wI ((wI (nth a i_6)) - borrow_4)))) ?_;refine dy ?_;refine je ?_;refine ek ?_;refine q2J ?_;have hm24:b.length≤9223372036854775807:=(List.length_map _)▸hb.max;refine dZ ?_;have hq:=d7 hk;clear hk;obtain ⟨k9,hk9,hk⟩:=hq; (try dsimp only at hk);refine c9 (ι:=Int) (fun z=>[(0,va),(1,vb),(5,vout_3),(7, .int .i64 (i_6:Int)),(8, .int .i64 z)]) (fun z=>[.sl vout_3 5 1 out_3.length (out_3.flatMap (eK .u8)), .fr F1]) (fun z=>k9 z=some r) ?_ ?_
    ·refine T.cond rfl (fun h10=>?_) (fun h10=>?_)
     ·have p10:=of_decide_eq_true h10;replace hk:=dr hk h10;refine ie ?_;refine cS (df (i:=i_6) rfl rfl rfl hb (List.length_map _) rfl a7) ?_;refine cS (dD 1 (i:=i_6) (j:=0) rfl rfl rfl hb a7) ?_;refine cS (dV (z:=(nth b i_6))) ?_;refine cS (dh (v:= .int .i64 (wI ((wI ((wI (nth a i_6)) - borrow_4)) - (wI (nth b i_6)))))) ?_;refine jv ?_;exact cY (wI ((wI ((wI (nth a i_6)) - borrow_4)) - (wI (nth b i_6)))) hk (.c (.c (.c (.c (.c .nil))))) (List.Sublist.refl _)
     ·have p10:=of_decide_eq_false h10;replace hk:=dt hk h10;refine T.skip ?_;exact cY (wI ((wI (nth a i_6)) - borrow_4)) hk (.c (.c (.c (.c (.c .nil))))) (List.Sublist.refl _)
    ·rintro s_8 hk;rw [←hk9] at hk; (try dsimp only at hk);refine eV ?_;refine lS ?_;have hq:=d7 hk;clear hk;obtain ⟨k13,hk13,hk⟩:=hq; (try dsimp only at hk);refine c9 (ι:=Int×Int) (fun z=>[(0,va),(1,vb),(5,vout_3),(6, .int .i64 z.1),(7, .int .i64 (i_6:Int)),(8, .int .i64 z.2)]) (fun z=>[.sl vout_3 5 1 out_3.length (out_3.flatMap (eK .u8)), .fr F1]) (fun z=>k13 (z.1,z.2)=some r) ?_ ?_
     ·refine T.cond rfl (fun h14=>?_) (fun h14=>?_)
      ·have p14:=of_decide_eq_true h14;replace hk:=dr hk h14;refine eV ?_;refine cS (dh (v:= .int .i64 (wI (s_8+256)))) ?_;refine dy ?_;refine dz (T.region ?_);refine jv ?_;exact cY (1,wI (s_8+256)) hk (.c (.c (.c (.c (.c (.c .nil)))))) (List.Sublist.refl _)
      ·have p14:=of_decide_eq_false h14;replace hk:=dt hk h14;refine T.skip ?_;exact cY (0,s_8) hk (.c (.c (.c (.c (.c (.c .nil)))))) (List.Sublist.refl _)
     ·rintro ⟨borrow_11,s_12⟩ hk; (try dsimp only at *);rw [←hk13] at hk; (try dsimp only at hk);have hq:(dm (out_3++[(IntKind.u8.wrap s_12)]).length 1)∧_:=dB hk;clear hk;obtain ⟨g41,hk⟩:=hq; (try dsimp only at hk);refine eO ?_;refine cS (dV (z:=s_12)) ?_;refine iz ?_;rintro _ _ ⟨g40,rfl,rfl⟩;refine cX (gT 1 0 rfl rfl rfl rfl rfl rfl (zdC (ys:=[(IntKind.u8.wrap s_12)])) (zc9 (enc:=(eK .u8)) (xs:=out_3) (ys:=[(IntKind.u8.wrap s_12)])) g41 a8) ?_;rintro v41 _ ⟨hv41,rfl⟩;refine q3Q ?_;refine dy ?_;refine jh ?_;rw [←hn5] at hk;refine K.pick [1,2] rfl a8 ?_;exact K.next ((i_6+1),(out_3++[(IntKind.u8.wrap s_12)]),v41,borrow_11) ⟨hk,inferInstance⟩ b5 (.c (.c (.c (.c (.c .nil))))) (List.Sublist.refl _)
   ·have p7:=of_decide_eq_false h7;rw [fH a7,←hkk5] at hk; (try dsimp only at hk);refine eN ?_;exact q4C
 ·rintro ⟨out_1,vout_1⟩ ⟨hk,oout_1⟩; (try dsimp only at *);rw [←hk2] at hk; (try dsimp only at hk);refine T.seq ?_;refine q1B ?_;rintro F2 ⟨le1_2,hz2⟩;refine fI ?_;have hfF2:=hz2.toF rfl (fun _=>rfl);haveI:=hfF2.oneC;have hq:=dw hk;clear hk;obtain ⟨r43,hr43,hk⟩:=hq; (try dsimp only at hk);refine ef ?_;refine cX (dl 0 rfl rfl rfl rfl (fun w hw hF=>zer _ w hF out_1 vout_1 hfF2 fuel r43 hr43)) ?_;rintro _ _ ⟨v43_0_0,F3,le2_3,hf43_0_0,hq,rfl⟩;obtain rfl:=hq.symm;have le1_3:=le1_2.trans le2_3;haveI:=hf43_0_0.oneC;refine iw ?_;obtain rfl:=Option.some.inj hk;exact eQ rfl rfl (fun w' hw=>⟨v43_0_0,F3.toFrz,hf43_0_0,rfl,dU hw (i:=0) rfl hS0 le1_3⟩)
def zeb (fuel:Nat)(a:List Int)(b:List Int):Option (List Int×List Int):=
 dj (dm a.length 1) <|
 dF (fun (s3:List Int×List Int)=>
 (zdp fuel s3.2).bind fun r57=>
 some (r57,s3.1))
 (fun k3=>
 dj (-1≤wI ((wI ((a.length:Int) *8)) - 1)∧wI ((wI ((a.length:Int) *8)) - 1)≤4611686018427387903) <|
 gz (fun (i_7:Nat) (next6:(List Int×List Int)→Option (List Int×List Int)) (s6:List Int×List Int)=>
 (zdX fuel s6.1 s6.1).bind fun r22=>
 dj (0≤(i_7:Int)∧(i_7:Int)≤9223372036854775807∧1≤(8:Int)) <|
 dj (0≤((i_7:Int) / 8)∧((i_7:Int) / 8)<(a.length:Int)) <|
 dj (0≤(i_7:Int)∧1≤(8:Int)) <|
 dj (0≤((i_7:Int) % 8)) <|
 dF (fun (r_9:List Int)=>
 (bif decide (0≤(zd4 r_9 b)) then
 (zd7 fuel r_9 b).bind fun r42=>
 dj (0≤(i_7:Int)∧(i_7:Int)≤9223372036854775807∧1≤(8:Int)) <|
 dj (0≤(i_7:Int)∧(i_7:Int)≤9223372036854775807∧1≤(8:Int)) <|
 dj (0≤((i_7:Int) / 8)∧((i_7:Int) / 8)<(s6.2.length:Int)) <|
 dj (0≤(i_7:Int)∧1≤(8:Int)) <|
 next6 (r42,(s6.2.set (((i_7:Int) / 8).toNat) (orK .u8 (nth s6.2 (((i_7:Int) / 8).toNat)) (shlK .u8 1 ((i_7:Int) % 8)))))
 else
 next6 (r_9,s6.2)))
 (fun k10=>
 (bif decide ((andK .u8 (shrK .u8 (nth a (((i_7:Int) / 8).toNat)) ((i_7:Int) % 8)) 1)=1) then
 (zdX fuel r22 [1]).bind fun r35=>
 k10 r35
 else
 k10 r22)))
 (fun (s6:List Int×List Int)=>
 k3 (s6.1,s6.2)) (((wI ((wI ((a.length:Int) *8)) - 1))+1).toNat) ([],(List.replicate a.length (0:Int))))
theorem zfz (F0:Frz)(w:World)(hF0:F0.At w)(a:List Int)(va:Value)(ha:SlC F0 va 1 (a.map (eK .u8)))(b:List Int)(vb:Value)(hb:SlC F0 vb 1 (b.map (eK .u8)))(fuel:Nat)(r:List Int×List Int)(hr:zeb fuel a b=some r):Calls Tryz.prog 201 #[va,vb] w fun e w'=>∃(y:Value×Value) (G:Frz),(SlC G y.1 1 (r.1.map (eK .u8))∧SlC G y.2 1 (r.2.map (eK .u8)))∧e= .returned (.tuple #[y.1,y.2])∧Fx F0 w G w':=by
 have hk:=hr;unfold zeb at hk;haveI:=ha.oneC;haveI:=hb.oneC;obtain ⟨S0,F1,rfl,hS0,hp0⟩:=eo hF0;refine dQ Tryz.func201 rfl rfl rfl hp0 ?_;refine gO ?_;refine fi ?_;have hq:(dm a.length 1)∧_:=dB hk;clear hk;obtain ⟨g11,hk⟩:=hq; (try dsimp only at hk);refine ef ?_;refine q1K ?_;have hm10:a.length≤9223372036854775807:=(List.length_map _)▸ha.max;refine cX (fZ (n':=a.length) (enc:=(eK .u8)) (u:=(0:Int)) rfl rfl rfl rfl g11 a8 a8 (fun _=>rfl) rfl) ?_;rintro v11 _ ⟨hv11,rfl⟩;refine km ?_;intro iv11 hmv11;refine dy ?_;refine i0 ?_;refine j3 ?_;refine q1K ?_;refine cS (dh (v:= .int .i64 (wI ((a.length:Int) *8)))) ?_;refine cS (dh (v:= .int .i64 (wI ((wI ((a.length:Int) *8)) - 1)))) ?_;refine dZ ?_;have hq:=d7 hk;clear hk;obtain ⟨k3,hk3,hk⟩:=hq; (try dsimp only at hk);refine c9 (ι:=List Int×Value×List Int×FzB w (fun _=>False) S0) (fun z=>[(6,v11),(7,z.2.1)]) (fun z=>[.sl v11 5 1 z.2.2.1.length (z.2.2.1.flatMap (eK .u8)), .fr z.2.2.2]) (fun z=>k3 (z.1,z.2.2.1)=some r∧SlC z.2.2.2.toFrz z.2.1 1 (z.1.map (eK .u8))∧F1.toFrz.Le z.2.2.2.toFrz) ?_ ?_
 ·have hq:(-1≤wI ((wI ((a.length:Int) *8)) - 1)∧wI ((wI ((a.length:Int) *8)) - 1)≤4611686018427387903)∧_:=dB hk;clear hk;obtain ⟨gl6,hk⟩:=hq; (try dsimp only at hk);have hq:=zdF hk;clear hk;obtain ⟨f6,kk6,hf6,hkk6,hk⟩:=hq;refine eH ?_;refine T.loop (ι:=Nat×List Int×Value×List Int×FzB w (fun _=>False) S0) (fun z=>[(0,va),(1,vb),(6,v11),(7,z.2.2.1),(8, .int .i64 ((z.1:Int) - 1))]) (fun z=>[.sl v11 5 1 z.2.2.2.1.length (z.2.2.2.1.flatMap (eK .u8)), .fr z.2.2.2.2]) (fun z=>gz f6 kk6 z.1 (z.2.1,z.2.2.2.1)=some r∧z.1≤((wI ((wI ((a.length:Int) *8)) - 1))+1).toNat∧SlC z.2.2.2.2.toFrz z.2.2.1 1 (z.2.1.map (eK .u8))∧F1.toFrz.Le z.2.2.2.2.toFrz) (fun z=>z.1) (((wI ((wI ((a.length:Int) *8)) - 1))+1).toNat,[],(.slice none 0 0),(List.replicate a.length (0:Int)),F1) ?_ ?_ ?_ ?_
  ·exact ⟨hk,(Nat.le_refl _),(SlC.nil _ 1),(Frz.Le.refl _)⟩
  ·exact (.c (.c (.c (.c (.i (a:=wI ((wI ((a.length:Int) *8)) - 1)) (by first|omega|(dsimp only;omega)) .nil)))))
  ·exact eG
  ·rintro ⟨i_7,r_4,vr_4,l_5,F3⟩ ⟨hk,hle6,hr_4,le1_3⟩; (try dsimp only at *);haveI:=hr_4.oneC;refine lT ?_;refine T.cond rfl (fun h8=>?_) (fun h8=>?_)
   ·have p8:=of_decide_eq_true h8;obtain ⟨i_7',rfl⟩:∃q,i_7=q+1:=⟨i_7 - 1,by omega⟩;replace hk:f6 i_7' (gz f6 kk6 i_7') (r_4,l_5)=some r:=hk;generalize hn6:gz f6 kk6 i_7'=next6 at hk;rw [←hf6] at hk; (try dsimp only at hk);refine kX (gs:=[(0,va),(1,vb),(6,v11),(7,vr_4),(8, .int .i64 (i_7':Int))]) (by repeat (first|exact Sub.nil|refine Sub.cons rfl ?_|refine fc rfl a7 ?_|refine e7 rfl cQ ?_)) (List.Sublist.refl _) ?_;refine q2s ?_;have hq:=dw hk;clear hk;obtain ⟨r22,hr22,hk⟩:=hq; (try dsimp only at hk);refine eO ?_;refine cX (dl 1 rfl rfl rfl rfl (fun w hw hF=>zeV _ w hF r_4 vr_4 hr_4 r_4 vr_4 hr_4 fuel r22 hr22)) ?_;rintro _ _ ⟨v22_0_0,F4,le3_4,hf22_0_0,hq,rfl⟩;obtain rfl:=hq.symm;have le1_4:=le1_3.trans le3_4;haveI:=hf22_0_0.oneC;refine kC ?_;have hq:(0≤(i_7':Int)∧(i_7':Int)≤9223372036854775807∧1≤(8:Int))∧_:=dB hk;clear hk;obtain ⟨g25,hk⟩:=hq;have hq:(0≤((i_7':Int) / 8)∧((i_7':Int) / 8)<(a.length:Int))∧_:=dB hk;clear hk;obtain ⟨g26,hk⟩:=hq;have hq:(0≤(i_7':Int)∧1≤(8:Int))∧_:=dB hk;clear hk;obtain ⟨g29,hk⟩:=hq;have hq:(0≤((i_7':Int) % 8))∧_:=dB hk;clear hk;obtain ⟨g30,hk⟩:=hq; (try dsimp only at hk);refine eO ?_;refine cS (gc (a:=(i_7':Int)) (b:=(8:Int)) rfl rfl rfl g25) ?_;refine cS (df (i:=((i_7':Int) / 8).toNat) rfl rfl rfl (SlC.mono ha le1_4) (List.length_map _) a7 a7) ?_;refine cS (dD 1 (i:=((i_7':Int) / 8).toNat) (j:=0) rfl rfl rfl (SlC.mono ha le1_4) a7) ?_;refine dy ?_;refine cS (jF (a:=(i_7':Int)) (b:=(8:Int)) rfl rfl rfl g29) ?_;refine cS (Yv.shrK (a:=(nth a (((i_7':Int) / 8).toNat))) (b:=((i_7':Int) % 8)) rfl rfl rfl g30) ?_;refine cS (Yv.andK (a:=(shrK .u8 (nth a (((i_7':Int) / 8).toNat)) ((i_7':Int) % 8))) (b:=1) rfl rfl rfl) ?_;refine dZ ?_;have hq:=d7 hk;clear hk;obtain ⟨k10,hk10,hk⟩:=hq; (try dsimp only at hk);refine c9 (ι:=List Int×Value×FzB w (fun _=>False) S0) (fun z=>[(0,va),(1,vb),(6,v11),(7,z.2.1),(8, .int .i64 (i_7':Int))]) (fun z=>[.sl v11 5 1 l_5.length (l_5.flatMap (eK .u8)), .fr z.2.2]) (fun z=>k10 z.1=some r∧SlC z.2.2.toFrz z.2.1 1 (z.1.map (eK .u8))∧F4.toFrz.Le z.2.2.toFrz) ?_ ?_
    ·refine T.cond rfl (fun h11=>?_) (fun h11=>?_)
     ·have p11:=of_decide_eq_true h11;replace hk:=dr hk h11;have hq:=dw hk;clear hk;obtain ⟨r35,hr35,hk⟩:=hq; (try dsimp only at hk);refine ef ?_;refine iz ?_;rintro _ _ ⟨g34,rfl,rfl⟩;refine q1M ?_;rintro F6 ⟨le4_6,hz6⟩;refine fI ?_;have hfF6:SlC F6.toFrz (.slice (some ⟨g34,0,none⟩) 1 1) 1 ([1].map (eK .u8)):=(SlK.lit hz6 rfl (Nat.le_refl _) a8).toF (xs:=[1]) rfl (fun _=>rfl);refine cX (dl 1 rfl rfl rfl rfl (fun w hw hF=>zeV _ w hF r22 v22_0_0 (SlC.mono hf22_0_0 le4_6) [1] (.slice (some ⟨g34,0,none⟩) 1 1) hfF6 fuel r35 hr35)) ?_;rintro _ _ ⟨v35_0_0,F7,le6_7,hf35_0_0,hq,rfl⟩;obtain rfl:=hq.symm;have le4_7:=le4_6.trans le6_7;haveI:=hf35_0_0.oneC;refine jv ?_;exact cY (r35,v35_0_0,F7) ⟨hk,hf35_0_0,le4_7⟩ (.c (.c (.c (.c (.c .nil))))) (List.Sublist.refl _)
     ·have p11:=of_decide_eq_false h11;replace hk:=dt hk h11;refine T.skip ?_;exact cY (r22,v22_0_0,F4) ⟨hk,hf22_0_0,(Frz.Le.refl _)⟩ (.c (.c (.c (.c (.c .nil))))) (List.Sublist.refl _)
    ·rintro ⟨r_9,vr_9,F5⟩ ⟨hk,hr_9,le4_5⟩; (try dsimp only at *);rw [←hk10] at hk; (try dsimp only at hk);have le1_5:=le1_4.trans le4_5;haveI:=hr_9.oneC;refine gO ?_;refine cX (de rfl rfl rfl (fun w hw=>zhd _ w (hw.fr (i:=1) rfl) r_9 vr_9 hr_9 b vb (SlC.mono hb le1_5))) ?_;refine mw ?_;refine T.cond rfl (fun h12=>?_) (fun h12=>?_)
     ·have p12:=of_decide_eq_true h12;replace hk:=dr hk h12;refine T.seq ?_;have hq:=dw hk;clear hk;obtain ⟨r42,hr42,hk⟩:=hq; (try dsimp only at hk);refine eO ?_;refine cX (dl 1 rfl rfl rfl rfl (fun w hw hF=>zfy _ w hF r_9 vr_9 hr_9 b vb (SlC.mono hb le1_5) fuel r42 hr42)) ?_;rintro _ _ ⟨v42_0_0,F8,le5_8,hf42_0_0,hq,rfl⟩;obtain rfl:=hq.symm;have le1_8:=le1_5.trans le5_8;haveI:=hf42_0_0.oneC;refine dZ ?_;have hq:(0≤(i_7':Int)∧(i_7':Int)≤9223372036854775807∧1≤(8:Int))∧_:=dB hk;clear hk;obtain ⟨g45,hk⟩:=hq;have hq:(0≤(i_7':Int)∧(i_7':Int)≤9223372036854775807∧1≤(8:Int))∧_:=dB hk;clear hk;obtain ⟨g48,hk⟩:=hq;have hq:(0≤((i_7':Int) / 8)∧((i_7':Int) / 8)<(l_5.length:Int))∧_:=dB hk;clear hk;obtain ⟨g49,hk⟩:=hq;have hq:(0≤(i_7':Int)∧1≤(8:Int))∧_:=dB hk;clear hk;obtain ⟨g52,hk⟩:=hq; (try dsimp only at hk);refine dS (sN 0 6 (sN 8 3 (.eff 6 (.eff 7 (.still 11 (.eff 12 (.eff 13 .done))))))) [.fr F8] b0 Sx ?_;refine fe ?_;refine cU rfl (gc (a:=(i_7':Int)) (b:=(8:Int)) rfl rfl rfl g45) ?_;refine fe ?_;refine cU rfl (gc (a:=(i_7':Int)) (b:=(8:Int)) rfl rfl rfl g48) ?_;refine fS ?_;refine cU rfl (jF (a:=(i_7':Int)) (b:=(8:Int)) rfl rfl rfl g52) ?_;refine cU rfl (Yv.shlK (a:=1) (b:=((i_7':Int) % 8)) rfl rfl rfl a7) ?_;refine q3f ?_;refine dK rfl (cT) rfl rfl (eg 0 rfl rfl rfl a7 (gK (enc:=(eK .u8)) (i:=((i_7':Int) / 8).toNat) (j:=0) (fun _=>rfl) a7 a8)) (fun w hw=>hw.sub Sx) ?_;refine cU rfl (Yv.orK (a:=(nth l_5 (((i_7':Int) / 8).toNat))) (b:=(shlK .u8 1 ((i_7':Int) % 8)))) ?_;refine q3f ?_;refine dT rfl (cT) rfl (ez 0 (k':=(l_5.set (((i_7':Int) / 8).toNat) (orK .u8 (nth l_5 (((i_7':Int) / 8).toNat)) (shlK .u8 1 ((i_7':Int) % 8)))).length) (l':=(l_5.set (((i_7':Int) / 8).toNat) (orK .u8 (nth l_5 (((i_7':Int) / 8).toNat)) (shlK .u8 1 ((i_7':Int) % 8)))).flatMap (eK .u8)) rfl rfl rfl rfl a7 (ik (enc:=(eK .u8)) (xs:=l_5) (i:=((i_7':Int) / 8).toNat) (j:=0) (size:=1) (fun _=>rfl) a7 a8 b8) (ij (enc:=(eK .u8)) (xs:=l_5) (i:=((i_7':Int) / 8).toNat) (j:=0) (size:=1) (x:=(orK .u8 (nth l_5 (((i_7':Int) / 8).toNat)) (shlK .u8 1 ((i_7':Int) % 8)))) (fun _=>rfl) a7 a8 b8 rfl) (List.length_set ..)) ?_;refine q1C ?_;refine q2q ?_;rw [←hn6] at hk;exact K.next (i_7',r42,v42_0_0,(l_5.set (((i_7':Int) / 8).toNat) (orK .u8 (nth l_5 (((i_7':Int) / 8).toNat)) (shlK .u8 1 ((i_7':Int) % 8)))),F8) ⟨hk,b5,hf42_0_0,le1_8⟩ b5 (.c (.c (.c (.c (.c .nil))))) (List.Sublist.refl _)
     ·have p12:=of_decide_eq_false h12;replace hk:=dt hk h12;refine q1i ?_;refine q2q ?_;rw [←hn6] at hk;exact K.next (i_7',r_9,vr_9,l_5,F5) ⟨hk,b5,hr_9,le1_5⟩ b5 (.c (.c (.c (.c (.c .nil))))) (List.Sublist.refl _)
   ·have p8:=of_decide_eq_false h8;obtain rfl:i_7=0:=a7;replace hk:kk6 (r_4,l_5)=some r:=hk;rw [←hkk6] at hk; (try dsimp only at hk);refine eN ?_;exact cY (r_4,vr_4,l_5,F3) ⟨hk,hr_4,le1_3⟩ (.c (.c .nil)) (List.Sublist.refl _)
 ·rintro ⟨r_1,vr_1,l_2,F2⟩ ⟨hk,hr_1,le1_2⟩; (try dsimp only at *);rw [←hk3] at hk; (try dsimp only at hk);haveI:=hr_1.oneC;refine T.seq ?_;refine q1B ?_;rintro F9 ⟨le2_9,hz9⟩;refine fI ?_;have le1_9:=le1_2.trans le2_9;have hfF9:=hz9.toF rfl (fun _=>rfl);haveI:=hfF9.oneC;have hq:=dw hk;clear hk;obtain ⟨r57,hr57,hk⟩:=hq; (try dsimp only at hk);refine ef ?_;refine cX (dl 0 rfl rfl rfl rfl (fun w hw hF=>zer _ w hF l_2 v11 hfF9 fuel r57 hr57)) ?_;rintro _ _ ⟨v57_0_0,F10,le9_10,hf57_0_0,hq,rfl⟩;obtain rfl:=hq.symm;have le1_10:=le1_9.trans le9_10;have le2_10:=le2_9.trans le9_10;haveI:=hf57_0_0.oneC;refine fP ?_;refine il ?_;obtain rfl:=Option.some.inj hk;exact fh rfl rfl rfl (fun w' hw=>⟨(v57_0_0,vr_1),F10.toFrz,⟨hf57_0_0,(SlC.mono hr_1 le2_10)⟩,rfl,dU hw (i:=0) rfl hS0 le1_10⟩)
def zc1 (fuel:Nat)(neg:Bool)(a:List Int):Option GInt:=
 (zdp fuel a).bind fun r8=>
 dF (fun (c_2:List Int)=>
 some (GInt.mk (neg&&(decide (0<(r8.length:Int)))) c_2))
 (fun k3=>
 gz (fun (i_6:Nat) (next5:List Int→Option GInt) (c_4:List Int)=>
 dj (dm (c_4++[(nth r8 i_6)]).length 1) <|
 next5 (c_4++[(nth r8 i_6)]))
 (fun (c_4:List Int)=>
 k3 c_4) r8.length [])
theorem zdW (F0:Frz)(w:World)(hF0:F0.At w)(neg:Bool)(a:List Int)(va:Value)(ha:SlC F0 va 1 (a.map (eK .u8)))(fuel:Nat)(r:GInt)(hr:zc1 fuel neg a=some r):Calls Tryz.prog 196 #[.bool neg,va] w fun e w'=>∃(y:Value) (G:Frz),(SlC G y 1 (r.Digits.map (eK .u8)))∧e= .returned (.agg [.bool r.Neg,y].toArray)∧Fx F0 w G w':=by
 have hk:=hr;unfold zc1 at hk;haveI:=ha.oneC;obtain ⟨S0,F1,rfl,hS0,hp0⟩:=eo hF0;refine dQ Tryz.func196 rfl rfl rfl hp0 ?_;refine dY ?_;refine fW ?_;rintro _ _ ⟨g4,rfl,rfl⟩;refine fi ?_;have hq:=dw hk;clear hk;obtain ⟨r8,hr8,hk⟩:=hq; (try dsimp only at hk);refine ef ?_;refine cX (dl 1 rfl rfl rfl rfl (fun w hw hF=>zer _ w hF a va ha fuel r8 hr8)) ?_;rintro _ _ ⟨v8_0_0,F2,le1_2,hf8_0_0,hq,rfl⟩;obtain rfl:=hq.symm;haveI:=hf8_0_0.oneC;refine gD ?_;refine c9 (ι:=Nat) (fun z=>[(1,v8_0_0),(4, .pointer (some ⟨g4,0,none⟩)),(5, .pointer (some ⟨z,0,none⟩))]) (fun z=>[.row z 26 [.bool (neg&&(decide (0<(r8.length:Int)))),(.slice none 0 0)], .sl (.slice none 0 0) 5 1 ([]:List Int).length ([].flatMap (eK .u8)), .row g4 26 [.bool false,(.slice none 0 0)], .fr F2]) (fun z=>True) ?_ ?_
 ·refine eO ?_;refine dg rfl rfl rfl (fun h1=>?_) (fun h1=>?_)
  ·refine dy ?_;refine cS (dk rfl rfl hf8_0_0 (List.length_map _)) ?_;have hm12:r8.length≤9223372036854775807:=(List.length_map _)▸hf8_0_0.max;refine ek ?_;refine jE ?_;refine fW ?_;rintro _ _ ⟨g5,rfl,rfl⟩;refine TL.slNil 5 1 ?_;refine mo ?_;refine TL.slNil 5 1 ?_;refine fG ?_;refine K.pick [2,0,3,4] rfl a8 ?_;refine K.bN (hs':=[.row g5 26 [.bool (neg&&(decide (0<(r8.length:Int)))),(.slice none 0 0)], .sl (.slice none 0 0) 5 1 ([]:List Int).length ([].flatMap (eK .u8)), .row g4 26 [.bool false,(.slice none 0 0)], .fr F2]) (by rw [show ((neg&&(decide (0<(r8.length:Int)))))=decide (0<(r8.length:Int)) from (by first|exact (kg h1)|exact ((kg h1)).symm)] <;> rfl) ?_;exact cY g5 trivial (.c (.c (.c .nil))) (List.Sublist.refl _)
  ·refine kJ ?_;refine jE ?_;refine fW ?_;rintro _ _ ⟨g5,rfl,rfl⟩;refine TL.slNil 5 1 ?_;refine mo ?_;refine TL.slNil 5 1 ?_;refine fG ?_;refine K.pick [2,0,3,4] rfl a8 ?_;refine K.bN (hs':=[.row g5 26 [.bool (neg&&(decide (0<(r8.length:Int)))),(.slice none 0 0)], .sl (.slice none 0 0) 5 1 ([]:List Int).length ([].flatMap (eK .u8)), .row g4 26 [.bool false,(.slice none 0 0)], .fr F2]) (by rw [show ((neg&&(decide (0<(r8.length:Int)))))=false from (by first|exact (iL h1).symm|exact ((iL h1).symm).symm)] <;> rfl) ?_;exact cY g5 trivial (.c (.c (.c .nil))) (List.Sublist.refl _)
 ·rintro g5 _; (try dsimp only at *);have hm12:r8.length≤9223372036854775807:=(List.length_map _)▸hf8_0_0.max;refine iS ?_;refine dy ?_;refine cS (dk rfl rfl hf8_0_0 (List.length_map _)) ?_;refine jL ?_;refine dZ ?_;have hq:=d7 hk;clear hk;obtain ⟨k3,hk3,hk⟩:=hq; (try dsimp only at hk);refine c9 (ι:=List Int×Value) (fun z=>[(4, .pointer (some ⟨g4,0,none⟩)),(5, .pointer (some ⟨g5,0,none⟩))]) (fun z=>[.sl z.2 5 1 z.1.length (z.1.flatMap (eK .u8)), .row g5 26 [.bool (neg&&(decide (0<(r8.length:Int)))),z.2], .row g4 26 [.bool false,(.slice none 0 0)], .fr F2]) (fun z=>k3 z.1=some r∧OneC z.2) ?_ ?_
  ·have hq:=zdF hk;clear hk;obtain ⟨f5,kk5,hf5,hkk5,hk⟩:=hq;refine eH ?_;refine T.pick [1,0,2,3] rfl a8 ?_;refine T.loop (ι:=Nat×List Int×Value) (fun z=>[(1,v8_0_0),(4, .pointer (some ⟨g4,0,none⟩)),(5, .pointer (some ⟨g5,0,none⟩)),(6, .int .i64 ((z.1:Int) - 1))]) (fun z=>[.sl z.2.2 5 1 z.2.1.length (z.2.1.flatMap (eK .u8)), .row g5 26 [.bool (neg&&(decide (0<(r8.length:Int)))),z.2.2], .row g4 26 [.bool false,(.slice none 0 0)], .fr F2]) (fun z=>gz f5 kk5 z.1 z.2.1=some r∧z.1≤r8.length∧OneC z.2.2) (fun z=>z.1) (r8.length,[],(.slice none 0 0)) ?_ ?_ ?_ ?_
   ·exact ⟨hk,(Nat.le_refl _),inferInstance⟩
   ·exact jo
   ·exact eG
   ·rintro ⟨i_6,c_4,vc_4⟩ ⟨hk,hle5,oc_4⟩; (try dsimp only at *);refine lT ?_;refine T.cond rfl (fun h7=>?_) (fun h7=>?_)
    ·have p7:=of_decide_eq_true h7;obtain ⟨i_6',rfl⟩:∃q,i_6=q+1:=⟨i_6 - 1,by omega⟩;replace hk:f5 i_6' (gz f5 kk5 i_6') c_4=some r:=hk;generalize hn5:gz f5 kk5 i_6'=next5 at hk;rw [←hf5] at hk; (try dsimp only at hk);refine kX (gs:=[(1,v8_0_0),(4, .pointer (some ⟨g4,0,none⟩)),(5, .pointer (some ⟨g5,0,none⟩)),(6, .int .i64 (i_6':Int))]) (by repeat (first|exact Sub.nil|refine Sub.cons rfl ?_|refine fc rfl a7 ?_|refine e7 rfl cQ ?_)) (List.Sublist.refl _) ?_;refine T.skip (K.seq (T.seq (T.block ?_)));have hq:(dm (c_4++[(nth r8 i_6')]).length 1)∧_:=dB hk;clear hk;obtain ⟨g30,hk⟩:=hq; (try dsimp only at hk);refine dS (.still 0 (.still 2 (.still 3 (.still 4 (.still 5 (.two 1 6 (.eff 6 (.eff 7 (.still 8 (.eff 9 .done)))) (.eff 1 (.eff 7 (.still 8 (.eff 9 .done)))))))))) [.row g4 26 [.bool false,(.slice none 0 0)], .fr F2] b0 Sx ?_;refine jf ?_;refine fe ?_;refine cU rfl (df (i:=i_6') rfl rfl rfl hf8_0_0 (List.length_map _) rfl a7) ?_;refine cU rfl (dD 1 (i:=i_6') (j:=0) rfl rfl rfl hf8_0_0 a7) ?_;refine TS.two ?_ ?_
     ·refine dK rfl (cT) rfl rfl (di 1) (fun w hw=>hw.sub Sx) ?_;refine dN ?_;refine q1h ?_;rintro _ _ ⟨g29,rfl,rfl⟩;refine jk ?_;refine q2Z ?_;rintro v30 _ ⟨hv30,rfl⟩;refine q3J ?_;rw [←hn5] at hk;refine K.pick [1,2,3,4] rfl a8 ?_;exact q4L
     ·refine q1h ?_;rintro _ _ ⟨g29,rfl,rfl⟩;refine jk ?_;refine dN ?_;refine dK rfl (cT) rfl rfl (di 2) (fun w hw=>hw.sub Sx) ?_;refine q2Z ?_;rintro v30 _ ⟨hv30,rfl⟩;refine q3J ?_;rw [←hn5] at hk;refine K.pick [1,2,3,4] rfl a8 ?_;exact q4L
    ·have p7:=of_decide_eq_false h7;obtain rfl:i_6=0:=a7;replace hk:kk5 c_4=some r:=hk;rw [←hkk5] at hk; (try dsimp only at hk);refine eN ?_;exact cY (c_4,vc_4) ⟨hk,inferInstance⟩ (.c (.c .nil)) (List.Sublist.refl _)
  ·rintro ⟨c_2,vc_2⟩ ⟨hk,oc_2⟩; (try dsimp only at *);rw [←hk3] at hk; (try dsimp only at hk);refine dY ?_;refine q2g ?_;refine q3o ?_;refine il ?_;refine lI (fun w hw=>hw.freezeS (i:=3) (j:=0) a8 rfl rfl) ?_;rintro F3 ⟨le2_3,hz3⟩;refine fI ?_;have le1_3:=le1_2.trans le2_3;have hfF3:=hz3.toF rfl (fun _=>rfl);haveI:=hfF3.oneC;obtain rfl:=Option.some.inj hk;exact jV 1 rfl rfl rfl rfl (fun w' hw=>⟨vc_2,F3.toFrz,hfF3,rfl,dU hw (i:=2) rfl hS0 le1_3⟩)
def zex (fuel:Nat)(a:GInt)(b:GInt):Option GInt:=
 (zc0 a).bind fun r10=>
 (zc0 b).bind fun r12=>
 dF (fun (x_1:List Int)=>
 (zc1 fuel false x_1).bind fun r25=>
 some r25)
 (fun k2=>
 eS (fun (next5:(List Int×List Int)→Option GInt) (s5:List Int×List Int)=>
 (bif decide (0<(s5.2.length:Int)) then
 (zeb fuel s5.1 s5.2).bind fun r19=>
 next5 (s5.2,r19.2)
 else
 k2 s5.1)) fuel (r10,r12))
theorem zgP (F0:Frz)(w:World)(hF0:F0.At w)(a:GInt)(va_1:Value)(ha_1:SlC F0 va_1 1 (a.Digits.map (eK .u8)))(b:GInt)(vb_1:Value)(hb_1:SlC F0 vb_1 1 (b.Digits.map (eK .u8)))(fuel:Nat)(r:GInt)(hr:zex fuel a b=some r):Calls Tryz.prog 130 #[.agg [.bool a.Neg,va_1].toArray, .agg [.bool b.Neg,vb_1].toArray] w fun e w'=>∃(y:Value) (G:Frz),(SlC G y 1 (r.Digits.map (eK .u8)))∧e= .returned (.agg [.bool r.Neg,y].toArray)∧Fx F0 w G w':=by
 have hk:=hr;unfold zex at hk;haveI:=ha_1.oneC;haveI:=hb_1.oneC;obtain ⟨S0,F1,rfl,hS0,hp0⟩:=eo hF0;refine dQ Tryz.func130 rfl rfl rfl hp0 ?_;refine iA ?_;rintro _ _ ⟨g2,rfl,rfl⟩;refine q3F ?_;rintro _ _ ⟨g3,rfl,rfl⟩;refine fW ?_;rintro _ _ ⟨g4,rfl,rfl⟩;refine fi ?_;have hq:=dw hk;clear hk;obtain ⟨r10,hr10,hk⟩:=hq;have hq:=dw hk;clear hk;obtain ⟨r12,hr12,hk⟩:=hq; (try dsimp only at hk);refine q3j ?_;refine cU rfl (fg 1) ?_;refine dN ?_;refine dc rfl (cT) rfl rfl (dl 3 rfl rfl rfl rfl (fun w hw hF=>zdE _ w hF a va_1 ha_1 r10 hr10)) ?_;rintro _ _ ⟨v10_0_0,F2,le1_2,hf10_0_0,hq,rfl⟩;obtain rfl:=hq.symm;haveI:=hf10_0_0.oneC;refine ⟨(fun w hw=>(hw.frLe (i:=3) rfl le1_2).sub Sx),?_⟩;refine dN ?_;refine dc rfl (cT) rfl rfl (dl 3 rfl rfl rfl rfl (fun w hw hF=>zdE _ w hF b vb_1 (SlC.mono hb_1 le1_2) r12 hr12)) ?_;rintro _ _ ⟨v12_0_0,F3,le2_3,hf12_0_0,hq,rfl⟩;obtain rfl:=hq.symm;have le1_3:=le1_2.trans le2_3;haveI:=hf12_0_0.oneC;refine ⟨(fun w hw=>(hw.frLe (i:=3) rfl le1_3).sub Sx),?_⟩;refine fe ?_;refine ma ?_;have hq:=d7 hk;clear hk;obtain ⟨k2,hk2,hk⟩:=hq; (try dsimp only at hk);refine c9 (ι:=List Int×Value×FzB w (fun _=>False) S0) (fun z=>[(4, .pointer (some ⟨g4,0,none⟩)),(5,z.2.1)]) (fun z=>[.row g4 26 [.bool false,(.slice none 0 0)], .fr z.2.2]) (fun z=>k2 z.1=some r∧SlC z.2.2.toFrz z.2.1 1 (z.1.map (eK .u8))∧F3.toFrz.Le z.2.2.toFrz) ?_ ?_
 ·have hq:=kF hk;clear hk;obtain ⟨f5,hf5,hk⟩:=hq;refine eH ?_;refine T.pick [0,3] rfl a8 ?_;refine T.loop (ι:=Nat×List Int×Value×List Int×Value×FzB w (fun _=>False) S0) (fun z=>[(4, .pointer (some ⟨g4,0,none⟩)),(5,z.2.2.1),(6,z.2.2.2.2.1)]) (fun z=>[.row g4 26 [.bool false,(.slice none 0 0)], .fr z.2.2.2.2.2]) (fun z=>eS f5 z.1 (z.2.1,z.2.2.2.1)=some r∧SlC z.2.2.2.2.2.toFrz z.2.2.1 1 (z.2.1.map (eK .u8))∧SlC z.2.2.2.2.2.toFrz z.2.2.2.2.1 1 (z.2.2.2.1.map (eK .u8))∧F3.toFrz.Le z.2.2.2.2.2.toFrz) (fun z=>z.1) (fuel,r10,v10_0_0,r12,v12_0_0,F3) ?_ ?_ ?_ ?_
  ·exact ⟨hk,(SlC.mono hf10_0_0 le2_3),hf12_0_0,(Frz.Le.refl _)⟩
  ·exact mx
  ·exact eG
  ·rintro ⟨m_6,x_3,vx_3,y_4,vy_4,F5⟩ ⟨hk,hx_3,hy_4,le3_5⟩; (try dsimp only at *);haveI:=hx_3.oneC;haveI:=hy_4.oneC;have hq:=kE hk;clear hk;obtain ⟨m_6',rfl,hk⟩:=hq;generalize hn5:eS f5 m_6'=next5 at hk;rw [←hf5] at hk; (try dsimp only at hk);refine iS ?_;refine dy ?_;refine cS (dk rfl rfl hy_4 (List.length_map _)) ?_;have hm14:y_4.length≤9223372036854775807:=(List.length_map _)▸hy_4.max;refine dZ ?_;refine T.cond rfl (fun h7=>?_) (fun h7=>?_)
   ·have p7:=of_decide_eq_true h7;replace hk:=dr hk h7;refine T.skip (K.seq (T.block (T.seq ?_)));have hq:=dw hk;clear hk;obtain ⟨r19,hr19,hk⟩:=hq; (try dsimp only at hk);refine eO ?_;refine cX (dl 1 rfl rfl rfl rfl (fun w hw hF=>zfz _ w hF x_3 vx_3 hx_3 y_4 vy_4 hy_4 fuel r19 hr19)) ?_;rintro _ _ ⟨⟨v19_0_0,v19_1_0⟩,F6,le5_6,⟨hf19_0_0,hf19_1_0⟩,rfl,rfl⟩;dsimp only at hf19_0_0 hf19_1_0 ⊢;have le3_6:=le3_5.trans le5_6;haveI:=hf19_0_0.oneC;haveI:=hf19_1_0.oneC;refine io ?_;refine dz (T.region ?_);refine kJ ?_;refine TL.nil (fA ?_);rw [←hn5] at hk;exact K.next (m_6',y_4,vy_4,r19.2,v19_1_0,F6) ⟨hk,(SlC.mono hy_4 le5_6),hf19_1_0,le3_6⟩ b5 (.c (.c (.c .nil))) (List.Sublist.refl _)
   ·have p7:=of_decide_eq_false h7;replace hk:=dt hk h7;refine eN ?_;exact cY (x_3,vx_3,F5) ⟨hk,hx_3,le3_5⟩ (.c (.c .nil)) (List.Sublist.refl _)
 ·rintro ⟨x_1,vx_1,F4⟩ ⟨hk,hx_1,le3_4⟩; (try dsimp only at *);rw [←hk2] at hk; (try dsimp only at hk);have le1_4:=le1_3.trans le3_4;haveI:=hx_1.oneC;refine T.seq ?_;have hq:=dw hk;clear hk;obtain ⟨r25,hr25,hk⟩:=hq; (try dsimp only at hk);refine ef ?_;refine cX (dl 1 rfl rfl rfl rfl (fun w hw hF=>zdW _ w hF false x_1 vx_1 hx_1 fuel r25 hr25)) ?_;rintro _ _ ⟨v25_0_1,F7,le4_7,hf25_0_1,rfl,rfl⟩;have le1_7:=le1_4.trans le4_7;haveI:=hf25_0_1.oneC;refine gg ?_;refine il ?_;obtain rfl:=Option.some.inj hk;exact jV 0 rfl rfl rfl rfl (fun w' hw=>⟨v25_0_1,F7.toFrz,hf25_0_1,rfl,dU hw (i:=1) rfl hS0 le1_7⟩)
def zfb (fuel:Nat)(n:Int):Option GInt:=
 dF (fun (out_1:List Int)=>
 (zc1 fuel (decide (n<0)) out_1).bind fun r25=>
 some r25)
 (fun k2=>
 eS (fun (next5:(List Int×Int)→Option GInt) (s5:List Int×Int)=>
 (bif decide (¬s5.2=0) then
 dj (0≤s5.2∧1≤(256:Int)) <|
 dF (fun (d_8:Int)=>
 dj (dm (s5.1++[(IntKind.u8.wrap d_8)]).length 1) <|
 dj (0≤s5.2∧s5.2≤9223372036854775807∧1≤(256:Int)) <|
 next5 ((s5.1++[(IntKind.u8.wrap d_8)]),(s5.2 / 256)))
 (fun k9=>
 (bif decide ((s5.2 % 256)<0) then
 k9 (wI (0 - (s5.2 % 256)))
 else
 k9 (s5.2 % 256)))
 else
 k2 s5.1)) fuel ([],n))
theorem zg5 (F0:Frz)(w:World)(hF0:F0.At w)(n:Int)(fuel:Nat)(r:GInt)(hr:zfb fuel n=some r):Calls Tryz.prog 117 #[.int .i64 n] w fun e w'=>∃(y:Value) (G:Frz),(SlC G y 1 (r.Digits.map (eK .u8)))∧e= .returned (.agg [.bool r.Neg,y].toArray)∧Fx F0 w G w':=by
 have hk:=hr;unfold zfb at hk;obtain ⟨S0,F1,rfl,hS0,hp0⟩:=eo hF0;refine dQ Tryz.func117 rfl rfl rfl hp0 ?_;refine dY ?_;refine fW ?_;rintro _ _ ⟨g2,rfl,rfl⟩;refine i0 ?_;refine TL.slNil 5 1 ?_;refine lS ?_;have hq:=d7 hk;clear hk;obtain ⟨k2,hk2,hk⟩:=hq; (try dsimp only at hk);refine c9 (ι:=List Int×Value) (fun z=>[(0, .int .i64 n),(2, .pointer (some ⟨g2,0,none⟩)),(3,z.2)]) (fun z=>[.sl z.2 5 1 z.1.length (z.1.flatMap (eK .u8)), .row g2 26 [.bool false,(.slice none 0 0)], .fr F1]) (fun z=>k2 z.1=some r∧OneC z.2) ?_ ?_
 ·have hq:=kF hk;clear hk;obtain ⟨f5,hf5,hk⟩:=hq;refine eH ?_;refine T.loop (ι:=Nat×List Int×Value×Int) (fun z=>[(0, .int .i64 n),(2, .pointer (some ⟨g2,0,none⟩)),(3,z.2.2.1),(4, .int .i64 z.2.2.2)]) (fun z=>[.sl z.2.2.1 5 1 z.2.1.length (z.2.1.flatMap (eK .u8)), .row g2 26 [.bool false,(.slice none 0 0)], .fr F1]) (fun z=>eS f5 z.1 (z.2.1,z.2.2.2)=some r∧OneC z.2.2.1) (fun z=>z.1) (fuel,[],(.slice none 0 0),n) ?_ ?_ ?_ ?_
  ·exact q4g
  ·exact jo
  ·exact eG
  ·rintro ⟨m_6,out_3,vout_3,m_4⟩ ⟨hk,oout_3⟩; (try dsimp only at *);have hq:=kE hk;clear hk;obtain ⟨m_6',rfl,hk⟩:=hq;generalize hn5:eS f5 m_6'=next5 at hk;rw [←hf5] at hk; (try dsimp only at hk);refine lT ?_;refine T.cond rfl (fun h7=>?_) (fun h7=>?_)
   ·have p7:=of_decide_eq_true h7;replace hk:=dr hk h7;refine q2s ?_;have hq:(0≤m_4∧1≤(256:Int))∧_:=dB hk;clear hk;obtain ⟨g12,hk⟩:=hq; (try dsimp only at hk);refine ef ?_;refine cS (jF (a:=m_4) (b:=(256:Int)) rfl rfl rfl g12) ?_;refine q3W ?_;have hq:=d7 hk;clear hk;obtain ⟨k9,hk9,hk⟩:=hq; (try dsimp only at hk);refine c9 (ι:=Int) (fun z=>[(0, .int .i64 n),(2, .pointer (some ⟨g2,0,none⟩)),(3,vout_3),(4, .int .i64 m_4),(5, .int .i64 z)]) (fun z=>[.sl vout_3 5 1 out_3.length (out_3.flatMap (eK .u8)), .row g2 26 [.bool false,(.slice none 0 0)], .fr F1]) (fun z=>k9 z=some r) ?_ ?_
    ·refine T.cond rfl (fun h10=>?_) (fun h10=>?_)
     ·have p10:=of_decide_eq_true h10;replace hk:=dr hk h10;refine ef ?_;refine cS (gY) ?_;refine jv ?_;exact cY (wI (0 - (m_4 % 256))) hk (.c (.c (.c (.c (.c .nil))))) (List.Sublist.refl _)
     ·have p10:=of_decide_eq_false h10;replace hk:=dt hk h10;refine T.skip ?_;exact cY (m_4 % 256) hk (.c (.c (.c (.c (.c .nil))))) (List.Sublist.refl _)
    ·rintro d_8 hk;rw [←hk9] at hk; (try dsimp only at hk);have hq:(dm (out_3++[(IntKind.u8.wrap d_8)]).length 1)∧_:=dB hk;clear hk;obtain ⟨g21,hk⟩:=hq; (try dsimp only at hk);refine eO ?_;refine cS (dV (z:=d_8)) ?_;refine iz ?_;rintro _ _ ⟨g20,rfl,rfl⟩;refine cX (gT 1 0 rfl rfl rfl rfl rfl rfl (zdC (ys:=[(IntKind.u8.wrap d_8)])) (zc9 (enc:=(eK .u8)) (xs:=out_3) (ys:=[(IntKind.u8.wrap d_8)])) g21 a8) ?_;rintro v21 _ ⟨hv21,rfl⟩;refine dy ?_;refine TL.nil (fA (K.seq ?_));have hq:(0≤m_4∧m_4≤9223372036854775807∧1≤(256:Int))∧_:=dB hk;clear hk;obtain ⟨g10,hk⟩:=hq; (try dsimp only at hk);refine ef ?_;refine cS (gc (a:=m_4) (b:=(256:Int)) rfl rfl rfl g10) ?_;refine jv ?_;rw [←hn5] at hk;refine K.pick [1,2,3] rfl a8 ?_;exact K.next (m_6',(out_3++[(IntKind.u8.wrap d_8)]),v21,(m_4 / 256)) ⟨hk,inferInstance⟩ b5 (.c (.c (.c (.c .nil)))) (List.Sublist.refl _)
   ·have p7:=of_decide_eq_false h7;replace hk:=dt hk h7;refine eN ?_;exact cY (out_3,vout_3) ⟨hk,inferInstance⟩ (.c (.c (.c .nil))) (List.Sublist.refl _)
 ·rintro ⟨out_1,vout_1⟩ ⟨hk,oout_1⟩; (try dsimp only at *);rw [←hk2] at hk; (try dsimp only at hk);refine T.seq ?_;refine jK (fun w hw=>hw.freezeS (i:=2) (j:=0) a8 rfl rfl) ?_;rintro F2 ⟨le1_2,hz2⟩;refine fI ?_;have hfF2:=hz2.toF rfl (fun _=>rfl);haveI:=hfF2.oneC;have hq:=dw hk;clear hk;obtain ⟨r25,hr25,hk⟩:=hq; (try dsimp only at hk);refine ie ?_;refine cX (dl 1 rfl rfl rfl rfl (fun w hw hF=>zdW _ w hF (decide (n<0)) out_1 vout_1 hfF2 fuel r25 hr25)) ?_;rintro _ _ ⟨v25_0_1,F3,le2_3,hf25_0_1,rfl,rfl⟩;have le1_3:=le1_2.trans le2_3;haveI:=hf25_0_1.oneC;refine gg ?_;refine il ?_;obtain rfl:=Option.some.inj hk;exact jV 0 rfl rfl rfl rfl (fun w' hw=>⟨v25_0_1,F3.toFrz,hf25_0_1,rfl,dU hw (i:=1) rfl hS0 le1_3⟩)
def it (l:List GProduct):Bool:=
 dF (fun (_:Unit)=>
 true)
 (fun k1=>
 dq (fun (i_3:Nat) (next2:Unit→Bool) (_:Unit)=>
 (bif ((((((((((decide ((nth l i_3).Area<0))||(decide (63<(nth l i_3).Area)))||(decide ((nth l i_3).Category<1)))||(decide (2<(nth l i_3).Category)))||(decide ((nth l i_3).Supply<1)))||(decide (12<(nth l i_3).Supply)))||(decide ((nth l i_3).Units<1)))||(decide (100000<(nth l i_3).Units)))||(decide ((nth l i_3).Reserve<0)))||(decide (549755813888<(nth l i_3).Reserve))) then
 false
 else
 (bif decide (0<(i_3:Int)) then
 (bif ((decide ((nth l i_3).Area<(nth l (((i_3:Int) - 1).toNat)).Area))||((decide ((nth l i_3).Area=(nth l (((i_3:Int) - 1).toNat)).Area))&&((decide ((nth l i_3).Category≤(nth l (((i_3:Int) - 1).toNat)).Category))||(decide (12<wI (((nth l i_3).Supply)+((nth l (((i_3:Int) - 1).toNat)).Supply))))))) then
 false
 else
 next2 ())
 else
 next2 ())))
 (fun (_:Unit)=>
 k1 ()) (l.length - 0) 0 ())
def zdu (l:List GProduct)(blocks:List Int):Bool:=
 (bif ((!(it l))||(decide (¬(blocks.length:Int)=(l.length:Int)))) then
 false
 else
 dF (fun (_:Unit)=>
 true)
 (fun k3=>
 dq (fun (i_5:Nat) (next4:Unit→Bool) (_:Unit)=>
 (bif ((decide ((nth blocks i_5)<0))||(decide ((nth l i_5).Supply<(nth blocks i_5)))) then
 false
 else
 next4 ()))
 (fun (_:Unit)=>
 k3 ()) (l.length - 0) 0 ()))
def zee (l:List GProduct):Option (List Int):=
 dF (fun (out_1:List Int)=>
 some out_1)
 (fun k2=>
 dq (fun (i_5:Nat) (next4:List Int→Option (List Int)) (out_3:List Int)=>
 dj (dm (out_3++[(nth l i_5).Units]).length 8) <|
 next4 (out_3++[(nth l i_5).Units]))
 (fun (out_3:List Int)=>
 k2 out_3) (l.length - 0) 0 [])
def zfr (fuel:Nat)(a:List Int)(b:List Int):Option Int:=
 dF (fun (n_1:Int)=>
 some n_1)
 (fun k2=>
 eS (fun (next5:(Int×Int)→Option Int) (s5:Int×Int)=>
 (bif ((decide (s5.2<(a.length:Int)))&&(decide (s5.2<(b.length:Int)))) then
 dj (0≤s5.2∧s5.2<(a.length:Int)) <|
 next5 (wI (s5.1+(wI ((nth a s5.2.toNat) * (nth b s5.2.toNat)))),(s5.2+1))
 else
 k2 s5.1)) fuel (0,0))
def zc4 (fuel:Nat)(l:List GProduct)(blocks:List Int):Option (Int×Int):=
 (bif !(zdu l blocks) then
 some (0,2)
 else
 (zee l).bind fun r11=>
 (zfr fuel r11 blocks).bind fun r13=>
 some (r13,0))
def zcS (fuel:Nat)(l:List GProduct)(bidders:List GBidder):Option Bool:=
 dF (fun (_:Unit)=>
 some (it l))
 (fun k1=>
 dq (fun (i_3:Nat) (next2:Unit→Option Bool) (_:Unit)=>
 (bif (((((((decide ((nth bidders i_3).ID<0))||(decide (31<(nth bidders i_3).ID)))||(decide ((nth bidders i_3).Eligibility<0)))||(decide (76800000<(nth bidders i_3).Eligibility)))||(decide ((nth bidders i_3).Waivers<0)))||(decide (3<(nth bidders i_3).Waivers)))||((decide (0<(i_3:Int)))&&(decide ((nth bidders i_3).ID≤(nth bidders (((i_3:Int) - 1).toNat)).ID)))) then
 some false
 else
 (zc4 fuel l ((nth bidders i_3).Blocks)).bind fun r66=>
 (bif ((decide (¬r66.2=0))||(decide ((nth bidders i_3).Eligibility<r66.1))) then
 some false
 else
 next2 ())))
 (fun (_:Unit)=>
 k1 ()) (bidders.length - 0) 0 ())
def ff (bidders:List GBidder)(id:Int):Int:=
 dF (fun (_:Unit)=>
 (-1))
 (fun k1=>
 dq (fun (i_3:Nat) (next2:Unit→Int) (_:Unit)=>
 (bif decide ((nth bidders i_3).ID=id) then
 (i_3:Int)
 else
 next2 ()))
 (fun (_:Unit)=>
 k1 ()) (bidders.length - 0) 0 ())
theorem zho (F0:Frz)(w:World)(hF0:F0.At w)(bidders:List GBidder)(vbidders:Value)(cbidders:List (List Value))(hbidders:SlD cR F0 vbidders 4 cbidders bidders)(id:Int):Calls Tryz.prog 68 #[vbidders, .int .i64 id] w fun e w'=>e= .returned (.int .i64 (ff bidders id))∧Below w.heap.size w w':=by
 obtain ⟨r,hk⟩:∃r,ff bidders id=r:=⟨_,rfl⟩;rw [hk];unfold ff at hk;haveI:=hbidders.1.oneC;obtain ⟨S0,F1,rfl,hS0,hp0⟩:=eo hF0;refine dQ Tryz.func68 rfl rfl rfl hp0 ?_;refine eV ?_;refine je ?_;refine dZ ?_;have hq:=d7 hk;clear hk;obtain ⟨k1,hk1,hk⟩:=hq; (try dsimp only at hk);refine c9 (ι:=Unit) (fun z=>[]) (fun z=>[.fr F1]) (fun z=>k1 ()=r) ?_ ?_
 ·have hq:=fJ hk;clear hk;obtain ⟨f2,kk2,hf2,hkk2,hk⟩:=hq;refine eH ?_;refine T.loop (ι:=Nat) (fun z=>[(0,vbidders),(1, .int .i64 id),(5, .int .i64 (z:Int))]) (fun z=>[.fr F1]) (fun z=>dq f2 kk2 (bidders.length - z) z ()=r) (fun z=>bidders.length - z) 0 ?_ ?_ ?_ ?_
  ·exact hk
  ·exact mx
  ·exact eG
  ·rintro i_3 hk;refine l6 ?_;refine q27 ?_;have hm8:bidders.length≤9223372036854775807:=hbidders.2.1▸hbidders.1.max;refine dZ ?_;refine T.cond rfl (fun h4=>?_) (fun h4=>?_)
   ·have p4:=of_decide_eq_true h4;rw [fF a7] at hk;generalize hn2:dq f2 kk2 (bidders.length - (i_3+1)) (i_3+1)=next2 at hk;rw [←hf2] at hk; (try dsimp only at hk);refine lP ?_;refine cS (df (i:=i_3) rfl rfl rfl hbidders.1 hbidders.2.1 rfl a7) ?_;refine cS (fL rfl rfl hbidders.1 hbidders.2.1 a7) ?_;refine cS (fx 0 (i:=i_3) (j:=0) rfl rfl rfl hbidders.1 hbidders.2.1 a7 rfl (ig (hbidders.2.2 i_3 a7))) ?_;refine kz ?_;refine T.cond rfl (fun h5=>?_) (fun h5=>?_)
    ·have p5:=of_decide_eq_true h5;replace hk:=dr hk h5;refine gO ?_;refine ky ?_;subst hk;exact d8
    ·have p5:=of_decide_eq_false h5;replace hk:=dt hk h5;refine q3E ?_;rw [←hn2] at hk;exact K.next (i_3+1) hk a7 (.c (.c (.c .nil))) (List.Sublist.refl _)
   ·have p4:=of_decide_eq_false h4;rw [fH a7,←hkk2] at hk; (try dsimp only at hk);refine eN ?_;exact kY
 ·rintro _ hk;rw [←hk1] at hk; (try dsimp only at hk);refine kp ?_;subst hk;exact d8
def zd0 (fuel:Nat)(a:GInt):Option GInt:=
 (zc0 a).bind fun r7=>
 (zc1 fuel (!a.Neg) r7).bind fun r8=>
 some r8
theorem zf7 (F0:Frz)(w:World)(hF0:F0.At w)(a:GInt)(va_1:Value)(ha_1:SlC F0 va_1 1 (a.Digits.map (eK .u8)))(fuel:Nat)(r:GInt)(hr:zd0 fuel a=some r):Calls Tryz.prog 194 #[.agg [.bool a.Neg,va_1].toArray] w fun e w'=>∃(y:Value) (G:Frz),(SlC G y 1 (r.Digits.map (eK .u8)))∧e= .returned (.agg [.bool r.Neg,y].toArray)∧Fx F0 w G w':=by
 have hk:=hr;unfold zd0 at hk;haveI:=ha_1.oneC;obtain ⟨S0,F1,rfl,hS0,hp0⟩:=eo hF0;refine dQ Tryz.func194 rfl rfl rfl hp0 ?_;refine iA ?_;rintro _ _ ⟨g1,rfl,rfl⟩;refine fW ?_;rintro _ _ ⟨g2,rfl,rfl⟩;refine fi ?_;have hq:=dw hk;clear hk;obtain ⟨r7,hr7,hk⟩:=hq;have hq:=dw hk;clear hk;obtain ⟨r8,hr8,hk⟩:=hq; (try dsimp only at hk);refine dS (sN 0 4 (.eff 4 (.eff 5 (.eff 6 .done)))) [.row g1 26 [.bool a.Neg,va_1], .fr F1] b0 Sx ?_;refine q3U ?_;refine q2f ?_;refine dN ?_;refine dc rfl (cT) rfl rfl (dl 2 rfl rfl rfl rfl (fun w hw hF=>zdE _ w hF a va_1 ha_1 r7 hr7)) ?_;rintro _ _ ⟨v7_0_0,F2,le1_2,hf7_0_0,hq,rfl⟩;obtain rfl:=hq.symm;haveI:=hf7_0_0.oneC;refine q3v ?_;refine dN ?_;refine dc rfl (cT) rfl rfl (dl 2 rfl rfl rfl rfl (fun w hw hF=>zdW _ w hF (!a.Neg) r7 v7_0_0 hf7_0_0 fuel r8 hr8)) ?_;rintro _ _ ⟨v8_0_1,F3,le2_3,hf8_0_1,rfl,rfl⟩;have le1_3:=le1_2.trans le2_3;haveI:=hf8_0_1.oneC;refine q3w ?_;refine q1J ?_;refine ee ?_;refine q3w ?_;refine ia ?_;refine K.seq (T.ret ?_);obtain rfl:=Option.some.inj hk;exact jV 0 rfl rfl rfl rfl (fun w' hw=>⟨v8_0_1,F3.toFrz,hf8_0_1,rfl,dU hw (i:=2) rfl hS0 le1_3⟩)
def zdO (fuel:Nat)(a:GInt)(b:GInt):Option (GInt×GInt):=
 (zc0 a).bind fun r10=>
 (zc0 b).bind fun r12=>
 (zeb fuel r10 r12).bind fun r13=>
 dF (fun (s4:List Int×List Int)=>
 (zc1 fuel (!(a.Neg == b.Neg)) s4.1).bind fun r39=>
 (zc1 fuel b.Neg s4.2).bind fun r43=>
 some (r39,r43))
 (fun k4=>
 (bif ((decide (0<(r13.2.length:Int)))&&(!(a.Neg == b.Neg))) then
 (zdX fuel r13.1 [1]).bind fun r28=>
 (zc0 b).bind fun r30=>
 (zd7 fuel r30 r13.2).bind fun r32=>
 k4 (r28,r32)
 else
 k4 (r13.1,r13.2)))
theorem zfl (F0:Frz)(w:World)(hF0:F0.At w)(a:GInt)(va_1:Value)(ha_1:SlC F0 va_1 1 (a.Digits.map (eK .u8)))(b:GInt)(vb_1:Value)(hb_1:SlC F0 vb_1 1 (b.Digits.map (eK .u8)))(fuel:Nat)(r:GInt×GInt)(hr:zdO fuel a b=some r):Calls Tryz.prog 195 #[.agg [.bool a.Neg,va_1].toArray, .agg [.bool b.Neg,vb_1].toArray] w fun e w'=>∃(y:Value×Value) (G:Frz),(SlC G y.1 1 (r.1.Digits.map (eK .u8))∧SlC G y.2 1 (r.2.Digits.map (eK .u8)))∧e= .returned (.tuple #[.agg [.bool r.1.Neg,y.1].toArray, .agg [.bool r.2.Neg,y.2].toArray])∧Fx F0 w G w':=by
 have hk:=hr;unfold zdO at hk;haveI:=ha_1.oneC;haveI:=hb_1.oneC;obtain ⟨S0,F1,rfl,hS0,hp0⟩:=eo hF0;refine dQ Tryz.func195 rfl rfl rfl hp0 ?_;refine iA ?_;rintro _ _ ⟨g2,rfl,rfl⟩;refine q3F ?_;rintro _ _ ⟨g3,rfl,rfl⟩;refine fW ?_;rintro _ _ ⟨g4,rfl,rfl⟩;refine fW ?_;rintro _ _ ⟨g5,rfl,rfl⟩;refine fi ?_;have hq:=dw hk;clear hk;obtain ⟨r10,hr10,hk⟩:=hq;have hq:=dw hk;clear hk;obtain ⟨r12,hr12,hk⟩:=hq;have hq:=dw hk;clear hk;obtain ⟨r13,hr13,hk⟩:=hq; (try dsimp only at hk);refine dS (.still 0 (.still 2 (.eff 1 (.eff 3 (.eff 4 (sN 5 4 (.still 9 .done))))))) _ b0 (List.Sublist.refl _) ?_;refine cU rfl (fg 3) ?_;refine cU rfl (fg 2) ?_;refine dN ?_;refine dc rfl (cT) rfl rfl (dl 4 rfl rfl rfl rfl (fun w hw hF=>zdE _ w hF a va_1 ha_1 r10 hr10)) ?_;rintro _ _ ⟨v10_0_0,F2,le1_2,hf10_0_0,hq,rfl⟩;obtain rfl:=hq.symm;haveI:=hf10_0_0.oneC;refine ⟨(fun w hw=>(hw.frLe (i:=4) rfl le1_2).sub Sx),?_⟩;refine dN ?_;refine dc rfl (cT) rfl rfl (dl 4 rfl rfl rfl rfl (fun w hw hF=>zdE _ w hF b vb_1 (SlC.mono hb_1 le1_2) r12 hr12)) ?_;rintro _ _ ⟨v12_0_0,F3,le2_3,hf12_0_0,hq,rfl⟩;obtain rfl:=hq.symm;have le1_3:=le1_2.trans le2_3;haveI:=hf12_0_0.oneC;refine ⟨(fun w hw=>(hw.frLe (i:=4) rfl le1_3).sub Sx),?_⟩;refine dN ?_;refine dc rfl (cT) rfl rfl (dl 4 rfl rfl rfl rfl (fun w hw hF=>zfz _ w hF r10 v10_0_0 (SlC.mono hf10_0_0 le2_3) r12 v12_0_0 hf12_0_0 fuel r13 hr13)) ?_;rintro _ _ ⟨⟨v13_0_0,v13_1_0⟩,F4,le3_4,⟨hf13_0_0,hf13_1_0⟩,rfl,rfl⟩;dsimp only at hf13_0_0 hf13_1_0 ⊢;have le1_4:=le1_3.trans le3_4;haveI:=hf13_0_0.oneC;haveI:=hf13_1_0.oneC;refine ⟨(fun w hw=>(hw.frLe (i:=4) rfl le1_4).sub Sx),?_⟩;refine TS.run 5 rfl ?_;refine ia ?_;refine K.seq (T.seq (T.seq ?_));refine c9 (ι:=Unit) (fun z=>[(2, .pointer (some ⟨g2,0,none⟩)),(3, .pointer (some ⟨g3,0,none⟩)),(4, .pointer (some ⟨g4,0,none⟩)),(5, .pointer (some ⟨g5,0,none⟩)),(6,v13_0_0),(7,v13_1_0),(25, .bool ((decide (0<(r13.2.length:Int)))&&(!(a.Neg == b.Neg))))]) (fun z=>[.row g5 26 [.bool false,(.slice none 0 0)], .row g4 26 [.bool false,(.slice none 0 0)], .row g3 26 [.bool b.Neg,vb_1], .row g2 26 [.bool a.Neg,va_1], .fr F4]) (fun z=>True) ?_ ?_
 ·refine ef ?_;refine cS (dk rfl rfl hf13_1_0 (List.length_map _)) ?_;have hm17:r13.2.length≤9223372036854775807:=(List.length_map _)▸hf13_1_0.max;refine ek ?_;refine dg rfl rfl rfl (fun h1=>?_) (fun h1=>?_)
  ·have p1:=of_decide_eq_true h1;refine gn ?_;refine cS (di 3) ?_;refine q1S ?_;refine cS (ks b0) ?_;refine jv ?_;exact cY () trivial (.c (.c (.c (.c (.c (.c (.b (kg h1) .nil))))))) (List.Sublist.refl _)
  ·have p1:=of_decide_eq_false h1;refine q3b ?_;exact cY () trivial (.c (.c (.c (.c (.c (.c (.b (iL h1).symm .nil))))))) (List.Sublist.refl _)
 ·rintro _ _;have hm17:r13.2.length≤9223372036854775807:=(List.length_map _)▸hf13_1_0.max;have hq:=d7 hk;clear hk;obtain ⟨k4,hk4,hk⟩:=hq; (try dsimp only at hk);refine c9 (ι:=List Int×Value×List Int×Value×FzB w (fun _=>False) S0) (fun z=>[(2, .pointer (some ⟨g2,0,none⟩)),(3, .pointer (some ⟨g3,0,none⟩)),(4, .pointer (some ⟨g4,0,none⟩)),(5, .pointer (some ⟨g5,0,none⟩)),(6,z.2.1),(7,z.2.2.2.1)]) (fun z=>[.row g5 26 [.bool false,(.slice none 0 0)], .row g4 26 [.bool false,(.slice none 0 0)], .row g3 26 [.bool b.Neg,vb_1], .row g2 26 [.bool a.Neg,va_1], .fr z.2.2.2.2]) (fun z=>k4 (z.1,z.2.2.1)=some r∧SlC z.2.2.2.2.toFrz z.2.1 1 (z.1.map (eK .u8))∧SlC z.2.2.2.2.toFrz z.2.2.2.1 1 (z.2.2.1.map (eK .u8))∧F4.toFrz.Le z.2.2.2.2.toFrz) ?_ ?_
  ·refine T.cond rfl (fun h5=>?_) (fun h5=>?_)
   ·have p5:=h5; (try simp only [iC] at p5);replace hk:=dr hk h5;have hq:=dw hk;clear hk;obtain ⟨r28,hr28,hk⟩:=hq;have hq:=dw hk;clear hk;obtain ⟨r30,hr30,hk⟩:=hq;have hq:=dw hk;clear hk;obtain ⟨r32,hr32,hk⟩:=hq; (try dsimp only at hk);refine dS (.still 0 (.still 3 (.still 5 (.eff 1 (.eff 2 (.eff 4 (.eff 6 (.still 7 (.still 8 .done))))))))) _ b0 (List.Sublist.refl _) ?_;refine fS ?_;refine cU rfl (fg 2) ?_;refine fS ?_;refine dN ?_;refine q1h ?_;rintro _ _ ⟨g27,rfl,rfl⟩;refine jk ?_;refine i9 (fun w hw=>hw.freezeR (i:=5) (j:=0) a8 rfl rfl) ?_;rintro F6 ⟨le4_6,hz6⟩;refine fI ?_;have le1_6:=le1_4.trans le4_6;have hfF6:SlC F6.toFrz (.slice (some ⟨g27,0,none⟩) 1 1) 1 ([1].map (eK .u8)):=(SlK.lit hz6 rfl (Nat.le_refl _) a8).toF (xs:=[1]) rfl (fun _=>rfl);refine dN ?_;refine dc rfl (cT) rfl rfl (dl 4 rfl rfl rfl rfl (fun w hw hF=>zeV _ w hF r13.1 v13_0_0 (SlC.mono hf13_0_0 le4_6) [1] (.slice (some ⟨g27,0,none⟩) 1 1) hfF6 fuel r28 hr28)) ?_;rintro _ _ ⟨v28_0_0,F7,le6_7,hf28_0_0,hq,rfl⟩;obtain rfl:=hq.symm;have le1_7:=le1_6.trans le6_7;have le4_7:=le4_6.trans le6_7;haveI:=hf28_0_0.oneC;refine ⟨(fun w hw=>(hw.frLe (i:=4) rfl le4_7).sub Sx),?_⟩;refine dN ?_;refine dc rfl (cT) rfl rfl (dl 4 rfl rfl rfl rfl (fun w hw hF=>zdE _ w hF b vb_1 (SlC.mono hb_1 le1_7) r30 hr30)) ?_;rintro _ _ ⟨v30_0_0,F8,le7_8,hf30_0_0,hq,rfl⟩;obtain rfl:=hq.symm;have le4_8:=le4_7.trans le7_8;haveI:=hf30_0_0.oneC;refine ⟨(fun w hw=>(hw.frLe (i:=4) rfl le4_8).sub Sx),?_⟩;refine dN ?_;refine dc rfl (cT) rfl rfl (dl 4 rfl rfl rfl rfl (fun w hw hF=>zfy _ w hF r30 v30_0_0 hf30_0_0 r13.2 v13_1_0 (SlC.mono hf13_1_0 le4_8) fuel r32 hr32)) ?_;rintro _ _ ⟨v32_0_0,F9,le8_9,hf32_0_0,hq,rfl⟩;obtain rfl:=hq.symm;have le4_9:=le4_8.trans le8_9;have le7_9:=le7_8.trans le8_9;haveI:=hf32_0_0.oneC;refine ⟨(fun w hw=>(hw.frLe (i:=4) rfl le4_9).sub Sx),?_⟩;refine lL ?_;exact cY (r28,v28_0_0,r32,v32_0_0,F9) ⟨hk,(SlC.mono hf28_0_0 le7_9),hf32_0_0,le4_9⟩ (.c (.c (.c (.c (.c (.c .nil)))))) (List.Sublist.refl _)
   ·replace hk:=dt hk h5;refine T.skip ?_;exact cY (r13.1,v13_0_0,r13.2,v13_1_0,F4) ⟨hk,hf13_0_0,hf13_1_0,(Frz.Le.refl _)⟩ (.c (.c (.c (.c (.c (.c .nil)))))) (List.Sublist.refl _)
  ·rintro ⟨q_2,vq_2,r_3,vr_3,F5⟩ ⟨hk,hq_2,hr_3,le4_5⟩; (try dsimp only at *);rw [←hk4] at hk; (try dsimp only at hk);have le1_5:=le1_4.trans le4_5;haveI:=hq_2.oneC;haveI:=hr_3.oneC;refine T.seq ?_;have hq:=dw hk;clear hk;obtain ⟨r39,hr39,hk⟩:=hq;have hq:=dw hk;clear hk;obtain ⟨r43,hr43,hk⟩:=hq; (try dsimp only at hk);refine dS (sN 0 6 (sN 7 3 (.eff 6 (.eff 10 (.eff 11 (.eff 12 .done)))))) [.row g3 26 [.bool b.Neg,vb_1], .row g2 26 [.bool a.Neg,va_1], .fr F5] b0 Sx ?_;refine jw ?_;refine iy ?_;refine cU rfl (ks b0) ?_;refine fS ?_;refine q3U ?_;refine dN ?_;refine dc rfl (cT) rfl rfl (dl 4 rfl rfl rfl rfl (fun w hw hF=>zdW _ w hF (!(a.Neg == b.Neg)) q_2 vq_2 hq_2 fuel r39 hr39)) ?_;rintro _ _ ⟨v39_0_1,F10,le5_10,hf39_0_1,rfl,rfl⟩;have le1_10:=le1_5.trans le5_10;haveI:=hf39_0_1.oneC;refine ⟨(fun w hw=>(hw.frLe (i:=4) rfl le5_10).sub Sx),?_⟩;refine dN ?_;refine dc rfl (cT) rfl rfl (dl 4 rfl rfl rfl rfl (fun w hw hF=>zdW _ w hF b.Neg r_3 vr_3 (SlC.mono hr_3 le5_10) fuel r43 hr43)) ?_;rintro _ _ ⟨v43_0_1,F11,le10_11,hf43_0_1,rfl,rfl⟩;have le1_11:=le1_10.trans le10_11;have le5_11:=le5_10.trans le10_11;haveI:=hf43_0_1.oneC;refine ⟨(fun w hw=>(hw.frLe (i:=4) rfl le5_11).sub Sx),?_⟩;refine dN ?_;refine dT rfl (cT) rfl (fD 1) ?_;refine ee ?_;refine ⟨(fun w hw=>(hw.frLe (i:=4) rfl le5_11).sub Sx),?_⟩;refine q1J ?_;refine ee ?_;refine ⟨(fun w hw=>(hw.frLe (i:=4) rfl le5_11).sub Sx),?_⟩;refine ia ?_;refine K.seq (T.ret ?_);obtain rfl:=Option.some.inj hk;exact K.cA 1 0 rfl rfl rfl rfl rfl rfl rfl (fun w' hw=>⟨(v39_0_1,v43_0_1),F11.toFrz,⟨(SlC.mono hf39_0_1 le10_11),hf43_0_1⟩,rfl,dU hw (i:=4) rfl hS0 le1_11⟩)
def zes (fuel:Nat)(n:GInt)(d:GInt):Option GRatio:=
 (zex fuel n d).bind fun r12=>
 dF (fun (s3:Bool×List Int)=>
 (zdO fuel n (GInt.mk s3.1 s3.2)).bind fun r20=>
 (zdO fuel d (GInt.mk s3.1 s3.2)).bind fun r26=>
 some (GRatio.mk (GInt.mk r20.1.Neg r20.1.Digits) (GInt.mk r26.1.Neg r26.1.Digits)))
 (fun k3=>
 (bif d.Neg then
 (zd0 fuel r12).bind fun r16=>
 k3 (r16.Neg,r16.Digits)
 else
 k3 (r12.Neg,r12.Digits)))
theorem zgO (F0:Frz)(w:World)(hF0:F0.At w)(n:GInt)(vn_1:Value)(hn_1:SlC F0 vn_1 1 (n.Digits.map (eK .u8)))(d:GInt)(vd_1:Value)(hd_1:SlC F0 vd_1 1 (d.Digits.map (eK .u8)))(fuel:Nat)(r:GRatio)(hr:zes fuel n d=some r):Calls Tryz.prog 116 #[.agg [.bool n.Neg,vn_1].toArray, .agg [.bool d.Neg,vd_1].toArray] w fun e w'=>∃(y:Value×Value) (G:Frz),(SlC G y.1 1 (r.Num.Digits.map (eK .u8))∧SlC G y.2 1 (r.Den.Digits.map (eK .u8)))∧e= .returned (.agg [.bool r.Num.Neg,y.1, .bool r.Den.Neg,y.2].toArray)∧Fx F0 w G w':=by
 have hk:=hr;unfold zes at hk;haveI:=hn_1.oneC;haveI:=hd_1.oneC;obtain ⟨S0,F1,rfl,hS0,hp0⟩:=eo hF0;refine dQ Tryz.func116 rfl rfl rfl hp0 ?_;refine iA ?_;rintro _ _ ⟨g2,rfl,rfl⟩;refine q3F ?_;rintro _ _ ⟨g3,rfl,rfl⟩;refine fW ?_;rintro _ _ ⟨g4,rfl,rfl⟩;refine fi ?_;have hq:=dw hk;clear hk;obtain ⟨r12,hr12,hk⟩:=hq; (try dsimp only at hk);refine gy ?_;refine cS (fg 2) ?_;refine q2g ?_;refine cX (dl 3 rfl rfl rfl rfl (fun w hw hF=>zgP _ w hF n vn_1 hn_1 d vd_1 hd_1 fuel r12 hr12)) ?_;rintro _ _ ⟨v12_0_1,F2,le1_2,hf12_0_1,rfl,rfl⟩;haveI:=hf12_0_1.oneC;refine fW ?_;rintro _ _ ⟨g5,rfl,rfl⟩;refine gg ?_;refine je ?_;refine q1S ?_;refine dz ?_;have hq:=d7 hk;clear hk;obtain ⟨k3,hk3,hk⟩:=hq; (try dsimp only at hk);refine c9 (ι:=Bool×List Int×Value×FzB w (fun _=>False) S0) (fun z=>[(2, .pointer (some ⟨g2,0,none⟩)),(3, .pointer (some ⟨g3,0,none⟩)),(4, .pointer (some ⟨g4,0,none⟩)),(5, .pointer (some ⟨g5,0,none⟩))]) (fun z=>[.row g5 26 [.bool z.1,z.2.2.1], .row g4 28 [.bool false,(.slice none 0 0), .bool false,(.slice none 0 0)], .row g3 26 [.bool d.Neg,vd_1], .row g2 26 [.bool n.Neg,vn_1], .fr z.2.2.2]) (fun z=>k3 (z.1,z.2.1)=some r∧SlC z.2.2.2.toFrz z.2.2.1 1 (z.2.1.map (eK .u8))∧F2.toFrz.Le z.2.2.2.toFrz) ?_ ?_
 ·refine T.cond rfl (fun h4=>?_) (fun h4=>?_)
  ·replace hk:=dr hk h4;have hq:=dw hk;clear hk;obtain ⟨r16,hr16,hk⟩:=hq; (try dsimp only at hk);refine gy ?_;refine jB ?_;refine cX (dl 4 rfl rfl rfl rfl (fun w hw hF=>zf7 _ w hF r12 v12_0_1 hf12_0_1 fuel r16 hr16)) ?_;rintro _ _ ⟨v16_0_1,F4,le2_4,hf16_0_1,rfl,rfl⟩;haveI:=hf16_0_1.oneC;refine gg ?_;refine fG ?_;exact cY (r16.Neg,r16.Digits,v16_0_1,F4) ⟨hk,hf16_0_1,le2_4⟩ (.c (.c (.c (.c .nil)))) (List.Sublist.refl _)
  ·replace hk:=dt hk h4;refine T.skip ?_;exact cY (r12.Neg,r12.Digits,v12_0_1,F2) ⟨hk,hf12_0_1,(Frz.Le.refl _)⟩ (.c (.c (.c (.c .nil)))) (List.Sublist.refl _)
 ·rintro ⟨c_1,c_2,vc_2,F3⟩ ⟨hk,hc_2,le2_3⟩; (try dsimp only at *);rw [←hk3] at hk; (try dsimp only at hk);have le1_3:=le1_2.trans le2_3;haveI:=hc_2.oneC;refine T.seq ?_;have hq:=dw hk;clear hk;obtain ⟨r20,hr20,hk⟩:=hq; (try dsimp only at hk);refine gy ?_;refine cS (fg 3) ?_;refine jB ?_;refine cX (dl 4 rfl rfl rfl rfl (fun w hw hF=>zfl _ w hF n vn_1 (SlC.mono hn_1 le1_3) (GInt.mk c_1 c_2) vc_2 hc_2 fuel r20 hr20)) ?_;rintro _ _ ⟨⟨v20_0_1,v20_1_1⟩,F5,le3_5,⟨hf20_0_1,hf20_1_1⟩,rfl,rfl⟩;dsimp only at hf20_0_1 hf20_1_1 ⊢;have le1_5:=le1_3.trans le3_5;haveI:=hf20_0_1.oneC;haveI:=hf20_1_1.oneC;refine l9 ?_;rintro _ _ ⟨g6,rfl,rfl⟩;refine fW ?_;rintro _ _ ⟨g7,rfl,rfl⟩;refine mo ?_;refine gg ?_;refine fi ?_;have hq:=dw hk;clear hk;obtain ⟨r26,hr26,hk⟩:=hq; (try dsimp only at hk);refine gy ?_;refine cS (fg 4) ?_;refine cS (fg 2) ?_;refine cX (dl 6 rfl rfl rfl rfl (fun w hw hF=>zfl _ w hF d vd_1 (SlC.mono hd_1 le1_5) (GInt.mk c_1 c_2) vc_2 (SlC.mono hc_2 le3_5) fuel r26 hr26)) ?_;rintro _ _ ⟨⟨v26_0_1,v26_1_1⟩,F6,le5_6,⟨hf26_0_1,hf26_1_1⟩,rfl,rfl⟩;dsimp only at hf26_0_1 hf26_1_1 ⊢;have le1_6:=le1_5.trans le5_6;haveI:=hf26_0_1.oneC;haveI:=hf26_1_1.oneC;refine l9 ?_;rintro _ _ ⟨g8,rfl,rfl⟩;refine fW ?_;rintro _ _ ⟨g9,rfl,rfl⟩;refine mo ?_;refine gg ?_;refine eR ?_;refine cS (fg 3) ?_;refine q2g ?_;refine jE ?_;refine dM (fD 5) ?_;refine ee ?_;refine il ?_;obtain rfl:=Option.some.inj hk;exact jV 5 rfl rfl rfl rfl (fun w' hw=>⟨(v20_0_1,v26_0_1),F6.toFrz,⟨(SlC.mono hf20_0_1 le5_6),hf26_0_1⟩,rfl,dU hw (i:=8) rfl hS0 le1_6⟩)
def zf3 (fuel:Nat)(n:Int)(d:Int):Option GRatio:=
 (zfb fuel n).bind fun r6=>
 (zfb fuel d).bind fun r8=>
 (zes fuel r6 r8).bind fun r9=>
 some r9
theorem zi0 (F0:Frz)(w:World)(hF0:F0.At w)(n:Int)(d:Int)(fuel:Nat)(r:GRatio)(hr:zf3 fuel n d=some r):Calls Tryz.prog 40 #[.int .i64 n, .int .i64 d] w fun e w'=>∃(y:Value×Value) (G:Frz),(SlC G y.1 1 (r.Num.Digits.map (eK .u8))∧SlC G y.2 1 (r.Den.Digits.map (eK .u8)))∧e= .returned (.agg [.bool r.Num.Neg,y.1, .bool r.Den.Neg,y.2].toArray)∧Fx F0 w G w':=by
 have hk:=hr;unfold zf3 at hk;obtain ⟨S0,F1,rfl,hS0,hp0⟩:=eo hF0;refine dQ Tryz.func40 rfl rfl rfl hp0 ?_;refine dY ?_;refine fW ?_;rintro _ _ ⟨g4,rfl,rfl⟩;refine fi ?_;have hq:=dw hk;clear hk;obtain ⟨r6,hr6,hk⟩:=hq;have hq:=dw hk;clear hk;obtain ⟨r8,hr8,hk⟩:=hq;have hq:=dw hk;clear hk;obtain ⟨r9,hr9,hk⟩:=hq; (try dsimp only at hk);refine ef ?_;refine cX (dl 1 rfl rfl rfl rfl (fun w hw hF=>zg5 _ w hF n fuel r6 hr6)) ?_;rintro _ _ ⟨v6_0_1,F2,le1_2,hf6_0_1,rfl,rfl⟩;haveI:=hf6_0_1.oneC;refine dy ?_;refine cX (dl 1 rfl rfl rfl rfl (fun w hw hF=>zg5 _ w hF d fuel r8 hr8)) ?_;rintro _ _ ⟨v8_0_1,F3,le2_3,hf8_0_1,rfl,rfl⟩;have le1_3:=le1_2.trans le2_3;haveI:=hf8_0_1.oneC;refine cX (dl 1 rfl rfl rfl rfl (fun w hw hF=>zgO _ w hF r6 v6_0_1 (SlC.mono hf6_0_1 le2_3) r8 v8_0_1 hf8_0_1 fuel r9 hr9)) ?_;rintro _ _ ⟨⟨v9_0_1,v9_0_3⟩,F4,le3_4,⟨hf9_0_1,hf9_0_3⟩,rfl,rfl⟩;dsimp only at hf9_0_1 hf9_0_3 ⊢;have le1_4:=le1_3.trans le3_4;haveI:=hf9_0_1.oneC;haveI:=hf9_0_3.oneC;refine gg ?_;refine il ?_;obtain rfl:=Option.some.inj hk;exact jV 0 rfl rfl rfl rfl (fun w' hw=>⟨(v9_0_1,v9_0_3),F4.toFrz,⟨hf9_0_1,hf9_0_3⟩,rfl,dU hw (i:=1) rfl hS0 le1_4⟩)
def zcs (a:List Int)(b:List Int):Bool:=
 (bif decide (¬(a.length:Int)=(b.length:Int)) then
 false
 else
 dF (fun (_:Unit)=>
 true)
 (fun k2=>
 dq (fun (i_4:Nat) (next3:Unit→Bool) (_:Unit)=>
 (bif decide (¬(nth a i_4)=(nth b i_4)) then
 false
 else
 next3 ()))
 (fun (_:Unit)=>
 k2 ()) (a.length - 0) 0 ()))
theorem zdT (F0:Frz)(w:World)(hF0:F0.At w)(a:List Int)(va:Value)(ha:SlC F0 va 1 (a.map eI))(b:List Int)(vb:Value)(hb:SlC F0 vb 1 (b.map eI)):Calls Tryz.prog 27 #[va,vb] w fun e w'=>e= .returned (.bool (zcs a b))∧Below w.heap.size w w':=by
 obtain ⟨r,hk⟩:∃r,zcs a b=r:=⟨_,rfl⟩;rw [hk];unfold zcs at hk;haveI:=ha.oneC;haveI:=hb.oneC;obtain ⟨S0,F1,rfl,hS0,hp0⟩:=eo hF0;refine dQ Tryz.func27 rfl rfl rfl hp0 ?_;refine jQ ?_;refine q1K ?_;have hm7:a.length≤9223372036854775807:=(List.length_map _)▸ha.max;refine dy ?_;refine q2J ?_;have hm9:b.length≤9223372036854775807:=(List.length_map _)▸hb.max;refine dZ ?_;refine T.cond rfl (fun h1=>?_) (fun h1=>?_)
 ·have p1:=of_decide_eq_true h1;replace hk:=dr hk h1;refine iQ ?_;subst hk;exact d8
 ·have p1:=of_decide_eq_false h1;replace hk:=dt hk h1;refine j0 ?_;refine dZ ?_;have hq:=d7 hk;clear hk;obtain ⟨k2,hk2,hk⟩:=hq; (try dsimp only at hk);refine c9 (ι:=Unit) (fun z=>[]) (fun z=>[.fr F1]) (fun z=>k2 ()=r) ?_ ?_
  ·have hq:=fJ hk;clear hk;obtain ⟨f3,kk3,hf3,hkk3,hk⟩:=hq;refine eH ?_;refine T.loop (ι:=Nat) (fun z=>[(0,va),(1,vb),(5, .int .i64 (z:Int))]) (fun z=>[.fr F1]) (fun z=>dq f3 kk3 (a.length - z) z ()=r) (fun z=>a.length - z) 0 ?_ ?_ ?_ ?_
   ·exact hk
   ·exact mx
   ·exact eG
   ·rintro i_4 hk;refine l6 ?_;refine q1K ?_;refine dZ ?_;refine T.cond rfl (fun h5=>?_) (fun h5=>?_)
    ·have p5:=of_decide_eq_true h5;rw [fF a7] at hk;generalize hn3:dq f3 kk3 (a.length - (i_4+1)) (i_4+1)=next3 at hk;rw [←hf3] at hk; (try dsimp only at hk);refine q2s ?_;refine q09 ?_;refine cU rfl (df (i:=i_4) rfl rfl rfl ha (List.length_map _) rfl a7) ?_;refine cU rfl (dD 0 (i:=i_4) (j:=0) rfl rfl rfl ha a7) ?_;refine fe ?_;refine cU rfl (df (i:=i_4) rfl rfl rfl hb (List.length_map _) rfl a7) ?_;refine cU rfl (dD 0 (i:=i_4) (j:=0) rfl rfl rfl hb a7) ?_;refine iM ?_;refine K.seq ?_;refine T.cond rfl (fun h6=>?_) (fun h6=>?_)
     ·have p6:=of_decide_eq_true h6;replace hk:=dr hk h6;refine eV ?_;refine ky ?_;subst hk;exact d8
     ·have p6:=of_decide_eq_false h6;replace hk:=dt hk h6;refine q3E ?_;rw [←hn3] at hk;exact K.next (i_4+1) hk a7 (.c (.c (.c .nil))) (List.Sublist.refl _)
    ·have p5:=of_decide_eq_false h5;rw [fH a7,←hkk3] at hk; (try dsimp only at hk);refine eN ?_;exact kY
  ·rintro _ hk;rw [←hk2] at hk; (try dsimp only at hk);refine kp ?_;subst hk;exact d8
end Go.Proofs.YtmnjbhkcfghebaaGreatDoor
