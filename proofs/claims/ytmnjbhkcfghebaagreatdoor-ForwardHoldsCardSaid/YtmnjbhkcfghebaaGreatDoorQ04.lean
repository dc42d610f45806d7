/- Yb: shortened and put together by squeeze.py. -/
import Derived.Test.YtmnjbhkcfghebaaGreatDoorQ03
set_option maxRecDepth 100000
set_option maxHeartbeats 4000000
set_option linter.unusedVariables false
set_option linter.unusedSectionVars false
set_option linter.unusedSimpArgs false
namespace Go.Proofs.YtmnjbhkcfghebaaGreatDoor
open Go.RowKit
structure GInt where
 Neg:Bool
 Digits:List Int
deriving DecidableEq,Inhabited
def gG (F:Frz)(c:List Value)(x:GInt):Prop:=∃(v1:Value),c=[.bool x.Neg,v1]∧SlC F v1 1 (x.Digits.map (eK .u8))
theorem GInt.mono {F G:Frz}{c:List Value}{x:GInt}(hle:F.Le G)(h:gG F c x):gG G c x:=by
 obtain ⟨v1,h0,h2⟩:=h;exact ⟨v1,h0,h2.mono hle⟩
theorem GInt.len {F:Frz}{c:List Value}{x:GInt}(h:gG F c x):c.length=2:=by
 obtain ⟨v1,h0,h2⟩:=h;subst h0;rfl
theorem GInt.one {F:Frz}{c:List Value}{x:GInt}(h:gG F c x):OneCs c:=by
 obtain ⟨v1,h0,h2⟩:=h;subst h0;haveI:=h2.oneC
 infer_instance
structure GRatio where
 Num:GInt
 Den:GInt
deriving DecidableEq,Inhabited
def fR (F:Frz)(c:List Value)(x:GRatio):Prop:=∃(v1:Value) (v3:Value),c=[.bool x.Num.Neg,v1, .bool x.Den.Neg,v3]∧SlC F v1 1 (x.Num.Digits.map (eK .u8))∧SlC F v3 1 (x.Den.Digits.map (eK .u8))
theorem GRatio.mono {F G:Frz}{c:List Value}{x:GRatio}(hle:F.Le G)(h:fR F c x):fR G c x:=by
 obtain ⟨v1,v3,h0,h2,h4⟩:=h;exact ⟨v1,v3,h0,h2.mono hle,h4.mono hle⟩
theorem GRatio.len {F:Frz}{c:List Value}{x:GRatio}(h:fR F c x):c.length=4:=by
 obtain ⟨v1,v3,h0,h2,h4⟩:=h;subst h0;rfl
theorem GRatio.one {F:Frz}{c:List Value}{x:GRatio}(h:fR F c x):OneCs c:=by
 obtain ⟨v1,v3,h0,h2,h4⟩:=h;subst h0;haveI:=h2.oneC;haveI:=h4.oneC
 infer_instance
def lk (a:GInt):Option Bool:=
 (bif decide ((a.Digits.length:Int)=0) then
 some (!a.Neg)
 else
 dF (fun (x_2:Bool)=>
 some x_2)
 (fun k3=>
 (bif decide ((a.Digits.length:Int)≤64) then
 dj (0≤0∧0<(a.Digits.length:Int)) <|
 k3 (decide (¬(nth a.Digits 0)=0))
 else
 k3 false)))
theorem zcc (F0:Frz)(w:World)(hF0:F0.At w)(a:GInt)(va_1:Value)(ha_1:SlC F0 va_1 1 (a.Digits.map (eK .u8)))(r:Bool)(hr:lk a=some r):Calls Tryz.prog 123 #[.agg [.bool a.Neg,va_1].toArray] w fun e w'=>e= .returned (.bool r)∧Below w.heap.size w w':=by
 have hk:=hr;unfold lk at hk;haveI:=ha_1.oneC;obtain ⟨S0,F1,rfl,hS0,hp0⟩:=eo hF0;refine dQ Tryz.func123 rfl rfl rfl hp0 ?_;refine iA ?_;rintro _ _ ⟨g1,rfl,rfl⟩;refine dy ?_;refine je ?_;refine q2p ?_;have hm5:a.Digits.length≤9223372036854775807:=(List.length_map _)▸ha_1.max;refine dZ ?_;refine T.cond rfl (fun h1=>?_) (fun h1=>?_)
 ·have p1:=of_decide_eq_true h1;replace hk:=dr hk h1;refine dY ?_;refine gC ?_;refine ek ?_;refine jt ?_;obtain rfl:=Option.some.inj hk;exact d8
 ·have p1:=of_decide_eq_false h1;replace hk:=dt hk h1;refine fN ?_; (try dsimp only at hk);have hq:=d7 hk;clear hk;obtain ⟨k3,hk3,hk⟩:=hq; (try dsimp only at hk);refine c9 (ι:=Bool) (fun z=>[(2, .bool z)]) (fun z=>[.fr F1]) (fun z=>k3 z=some r) ?_ ?_
  ·refine gy ?_;refine q2p ?_;refine ek ?_;refine dg rfl rfl rfl (fun h4=>?_) (fun h4=>?_)
   ·have p4:=of_decide_eq_true h4;replace hk:=dr hk h4;refine gC ?_;have hq:(0≤0∧0<(a.Digits.length:Int))∧_:=dB hk;clear hk;obtain ⟨g17,hk⟩:=hq;refine cS (df (i:=0) (m:=a.Digits.length) rfl rfl rfl ha_1 (List.length_map _) (show (0:Int)=((0:Nat):Int) from rfl) a7) ?_;refine cS (dD 1 (i:=0) (j:=0) rfl rfl rfl ha_1 a7) ?_;refine q3P ?_;refine kH ?_;exact cY (decide (¬(nth a.Digits 0)=0)) hk (.c .nil) (List.Sublist.refl _)
   ·have p4:=of_decide_eq_false h4;replace hk:=dt hk h4;refine TL.run 7 rfl ?_;refine fG ?_;refine kH ?_;exact q4o
  ·rintro x_2 hk;rw [←hk3] at hk; (try dsimp only at hk);refine T.ret ?_;obtain rfl:=Option.some.inj hk;exact d8
def mj (a:GInt):Option Int:=
 (lk a).bind fun r5=>
 (bif ((!r5)||(decide ((a.Digits.length:Int)=0))) then
 some 0
 else
 (bif a.Neg then
 some (-1)
 else
 some 1))
theorem zd2 (F0:Frz)(w:World)(hF0:F0.At w)(a:GInt)(va_1:Value)(ha_1:SlC F0 va_1 1 (a.Digits.map (eK .u8)))(r:Int)(hr:mj a=some r):Calls Tryz.prog 121 #[.agg [.bool a.Neg,va_1].toArray] w fun e w'=>e= .returned (.int .i64 r)∧Below w.heap.size w w':=by
 have hk:=hr;unfold mj at hk;haveI:=ha_1.oneC;obtain ⟨S0,F1,rfl,hS0,hp0⟩:=eo hF0;refine dQ Tryz.func121 rfl rfl rfl hp0 ?_;refine iA ?_;rintro _ _ ⟨g1,rfl,rfl⟩;refine dy ?_;refine dz (T.seq (T.block (T.seq ?_)));have hq:=dw hk;clear hk;obtain ⟨r5,hr5,hk⟩:=hq; (try dsimp only at hk);refine c9 (ι:=Unit) (fun z=>[(1, .pointer (some ⟨g1,0,none⟩)),(3, .bool ((!r5)||(decide ((a.Digits.length:Int)=0))))]) (fun z=>[.row g1 26 [.bool a.Neg,va_1], .fr F1]) (fun z=>True) ?_ ?_
 ·refine gy ?_;refine jB ?_;refine cX (de rfl rfl rfl (fun w hw=>zcc _ w (hw.fr (i:=1) rfl) a va_1 ha_1 r5 hr5)) ?_;refine jN ?_;refine dg rfl rfl rfl (fun h1=>?_) (fun h1=>?_)
  ·refine q3b ?_;exact cY () trivial (.c (.b (eD h1).symm .nil)) (List.Sublist.refl _)
  ·refine q2p ?_;have hm10:a.Digits.length≤9223372036854775807:=(List.length_map _)▸ha_1.max;refine q3P ?_;exact cY () trivial (.c (.b (fK h1) .nil)) (List.Sublist.refl _)
 ·rintro _ _;have hm10:a.Digits.length≤9223372036854775807:=(List.length_map _)▸ha_1.max;refine T.cond rfl (fun h2=>?_) (fun h2=>?_)
  ·replace hk:=dr hk h2;refine eV ?_;refine dz (T.ret (gp (gk ?_)));obtain rfl:=Option.some.inj hk;exact d8
  ·replace hk:=dt hk h2;refine dY ?_;refine gC ?_;refine dZ ?_;refine T.cond rfl (fun h3=>?_) (fun h3=>?_)
   ·replace hk:=dr hk h3;refine eV ?_;refine dz (T.ret (gp (gk ?_)));obtain rfl:=Option.some.inj hk;exact d8
   ·replace hk:=dt hk h3;refine T.skip (fA (K.seq (dY ?_)));refine iw ?_;obtain rfl:=Option.some.inj hk;exact d8
def j5 (fuel:Nat)(x_:List Int):Option (List Int):=
 dF (fun (x_1:List Int)=>
 some x_1)
 (fun k2=>
 eS (fun (next4:List Int→Option (List Int)) (x_3:List Int)=>
 (bif ((decide (0<(x_3.length:Int)))&&(decide ((nth x_3 (((x_3.length:Int) - 1).toNat))=0))) then
 next4 (x_3.take (((x_3.length:Int) - 1).toNat))
 else
 k2 x_3)) fuel x_)
theorem zcn (F0:Frz)(w:World)(hF0:F0.At w)(x_:List Int)(vx_:Value)(hx_:SlC F0 vx_ 1 (x_.map (eK .u32)))(fuel:Nat)(r:List Int)(hr:j5 fuel x_=some r):Calls Tryz.prog 127 #[vx_] w fun e w'=>∃(y:Value) (G:Frz),(SlC G y 1 (r.map (eK .u32)))∧e= .returned (y)∧Fx F0 w G w':=by
 have hk:=hr;unfold j5 at hk;haveI:=hx_.oneC;obtain ⟨S0,F1,rfl,hS0,hp0⟩:=eo hF0;refine dQ Tryz.func127 rfl rfl rfl hp0 ?_;refine eW ?_;have hq:=d7 hk;clear hk;obtain ⟨k2,hk2,hk⟩:=hq; (try dsimp only at hk);refine c9 (ι:=List Int×Value×FzB w (fun _=>False) S0) (fun z=>[(0,z.2.1)]) (fun z=>[.fr z.2.2]) (fun z=>k2 z.1=some r∧SlC z.2.2.toFrz z.2.1 1 (z.1.map (eK .u32))∧F1.toFrz.Le z.2.2.toFrz) ?_ ?_
 ·have hq:=kF hk;clear hk;obtain ⟨f4,hf4,hk⟩:=hq;refine eH ?_;refine T.loop (ι:=Nat×List Int×Value×FzB w (fun _=>False) S0) (fun z=>[(0,z.2.2.1)]) (fun z=>[.fr z.2.2.2]) (fun z=>eS f4 z.1 z.2.1=some r∧SlC z.2.2.2.toFrz z.2.2.1 1 (z.2.1.map (eK .u32))∧F1.toFrz.Le z.2.2.2.toFrz) (fun z=>z.1) (fuel,x_,vx_,F1) ?_ ?_ ?_ ?_
  ·exact ⟨hk,hx_,(Frz.Le.refl _)⟩
  ·exact (.c .nil)
  ·exact eG
  ·rintro ⟨m_5,x_3,vx_3,F3⟩ ⟨hk,hx_3,le1_3⟩; (try dsimp only at *);haveI:=hx_3.oneC;have hq:=kE hk;clear hk;obtain ⟨m_5',rfl,hk⟩:=hq;generalize hn4:eS f4 m_5'=next4 at hk;rw [←hf4] at hk; (try dsimp only at hk);refine T.seq (T.seq ?_);refine c9 (ι:=Unit) (fun z=>[(0,vx_3),(14, .bool ((decide (0<(x_3.length:Int)))&&(decide ((nth x_3 (((x_3.length:Int) - 1).toNat))=0))))]) (fun z=>[.fr F3]) (fun z=>True) ?_ ?_
   ·refine ef ?_;refine cS (dk rfl rfl hx_3 (List.length_map _)) ?_;have hm4:x_3.length≤9223372036854775807:=(List.length_map _)▸hx_3.max;refine ek ?_;refine dg rfl rfl rfl (fun h6=>?_) (fun h6=>?_)
    ·have p6:=of_decide_eq_true h6;refine ek ?_;refine cS (dk rfl rfl hx_3 (List.length_map _)) ?_;refine jL ?_;refine cS (df (i:=((x_3.length:Int) - 1).toNat) rfl rfl rfl hx_3 (List.length_map _) a7 a7) ?_;refine cS (dD 0 (i:=((x_3.length:Int) - 1).toNat) (j:=0) rfl rfl rfl hx_3 a7) ?_;refine jZ ?_;exact cY () trivial (.c (.b (kg h6) .nil)) (List.Sublist.refl _)
    ·have p6:=of_decide_eq_false h6;refine TL.run 8 rfl ?_;refine fG ?_;exact cY () trivial (.c (.b (iL h6).symm .nil)) (List.Sublist.refl _)
   ·rintro _ _;have hm4:x_3.length≤9223372036854775807:=(List.length_map _)▸hx_3.max;refine T.cond rfl (fun h7=>?_) (fun h7=>?_)
    ·have p7:=h7; (try simp only [iC] at p7);replace hk:=dr hk h7;refine T.skip (K.seq (T.block (T.region ?_)));refine ek ?_;refine cS (dk rfl rfl hx_3 (List.length_map _)) ?_;refine jL ?_;refine cS (lg (i:=((x_3.length:Int) - 1).toNat) rfl rfl rfl hx_3 (List.length_map _) a7 a7) ?_;have hs19_:SlC F3.toFrz (gd vx_3 0 (((x_3.length:Int) - 1).toNat) 1) 1 ((x_3.take (((x_3.length:Int) - 1).toNat)).map (eK .u32)):=hx_3.sliceh (i:=((x_3.length:Int) - 1).toNat) a7;haveI:=hs19_.oneC;refine q3u ?_;rw [←hn4] at hk;exact K.next (m_5',(x_3.take (((x_3.length:Int) - 1).toNat)),(gd vx_3 0 (((x_3.length:Int) - 1).toNat) 1),F3) ⟨hk,hs19_,le1_3⟩ b5 (.c .nil) (List.Sublist.refl _)
    ·replace hk:=dt hk h7;refine eN ?_;exact cY (x_3,vx_3,F3) ⟨hk,hx_3,le1_3⟩ (.c .nil) (List.Sublist.refl _)
 ·rintro ⟨x_1,vx_1,F2⟩ ⟨hk,hx_1,le1_2⟩; (try dsimp only at *);rw [←hk2] at hk; (try dsimp only at hk);haveI:=hx_1.oneC;refine q3S ?_;obtain rfl:=Option.some.inj hk;exact eQ rfl rfl (fun w' hw=>⟨vx_1,F2.toFrz,hx_1,rfl,dU hw (i:=0) rfl hS0 le1_2⟩)
def zbL (fuel:Nat)(digits:List Int):Option (List Int):=
 dj (0≤wI ((digits.length:Int)+3)∧wI ((digits.length:Int)+3)≤9223372036854775807∧1≤(4:Int)) <|
 dj (0≤((wI ((digits.length:Int)+3)) / 4)) <|
 dj (dm (((wI ((digits.length:Int)+3)) / 4).toNat) 4) <|
 dF (fun (l_1:List Int)=>
 (j5 fuel l_1).bind fun r39=>
 some r39)
 (fun k2=>
 dq (fun (i_5:Nat) (next4:List Int→Option (List Int)) (l_3:List Int)=>
 dj (0≤(i_5:Int)∧(i_5:Int)≤9223372036854775807∧1≤(4:Int)) <|
 dj (0≤((i_5:Int) / 4)∧((i_5:Int) / 4)<(l_3.length:Int)) <|
 dj (0≤(i_5:Int)∧1≤(4:Int)) <|
 dj (0≤wI (8* ((i_5:Int) % 4))) <|
 next4 (l_3.set (((i_5:Int) / 4).toNat) (orK .u32 (nth l_3 (((i_5:Int) / 4).toNat)) (shlK .u32 (IntKind.u32.wrap (nth digits ((((digits.length:Int) - 1) - (i_5:Int)).toNat))) (wI (8* ((i_5:Int) % 4)))))))
 (fun (l_3:List Int)=>
 k2 l_3) (digits.length - 0) 0 (List.replicate (((wI ((digits.length:Int)+3)) / 4).toNat) (0:Int)))
theorem zcP (F0:Frz)(w:World)(hF0:F0.At w)(digits:List Int)(vdigits:Value)(hdigits:SlC F0 vdigits 1 (digits.map (eK .u8)))(fuel:Nat)(r:List Int)(hr:zbL fuel digits=some r):Calls Tryz.prog 125 #[vdigits] w fun e w'=>∃(y:Value) (G:Frz),(SlC G y 1 (r.map (eK .u32)))∧e= .returned (y)∧Fx F0 w G w':=by
 have hk:=hr;unfold zbL at hk;haveI:=hdigits.oneC;obtain ⟨S0,F1,rfl,hS0,hp0⟩:=eo hF0;refine dQ Tryz.func125 rfl rfl rfl hp0 ?_;refine eW ?_;have hq:(0≤wI ((digits.length:Int)+3)∧wI ((digits.length:Int)+3)≤9223372036854775807∧1≤(4:Int))∧_:=dB hk;clear hk;obtain ⟨g9,hk⟩:=hq;have hq:(0≤((wI ((digits.length:Int)+3)) / 4))∧_:=dB hk;clear hk;obtain ⟨g10n,hk⟩:=hq;have hq:(dm (((wI ((digits.length:Int)+3)) / 4).toNat) 4)∧_:=dB hk;clear hk;obtain ⟨g10,hk⟩:=hq; (try dsimp only at hk);refine ef ?_;refine cS (dk rfl rfl hdigits (List.length_map _)) ?_;have hm7:digits.length≤9223372036854775807:=(List.length_map _)▸hdigits.max;refine cS (dh (v:= .int .i64 (wI ((digits.length:Int)+3)))) ?_;refine cS (gc (a:=wI ((digits.length:Int)+3)) (b:=(4:Int)) rfl rfl rfl g9) ?_;refine cX (fZ (n':=(((wI ((digits.length:Int)+3)) / 4).toNat)) (enc:=(eK .u32)) (u:=(0:Int)) rfl rfl rfl a7 g10 a8 a8 (fun _=>rfl) rfl) ?_;rintro v10 _ ⟨hv10,rfl⟩;refine km ?_;intro iv10 hmv10;refine li ?_;refine cS (dk rfl rfl hdigits (List.length_map _)) ?_;refine dZ ?_;have hq:=d7 hk;clear hk;obtain ⟨k2,hk2,hk⟩:=hq; (try dsimp only at hk);refine c9 (ι:=List Int) (fun z=>[(3,v10)]) (fun z=>[.sl v10 175 1 z.length (z.flatMap (eK .u32)), .fr F1]) (fun z=>k2 z=some r) ?_ ?_
 ·have hq:=fJ hk;clear hk;obtain ⟨f4,kk4,hf4,hkk4,hk⟩:=hq;refine eH ?_;refine T.loop (ι:=Nat×List Int) (fun z=>[(0,vdigits),(3,v10),(12, .int .i64 (digits.length:Int)),(13, .int .i64 (z.1:Int))]) (fun z=>[.sl v10 175 1 z.2.length (z.2.flatMap (eK .u32)), .fr F1]) (fun z=>dq f4 kk4 (digits.length - z.1) z.1 z.2=some r) (fun z=>digits.length - z.1) (0,(List.replicate (((wI ((digits.length:Int)+3)) / 4).toNat) (0:Int))) ?_ ?_ ?_ ?_
  ·exact hk
  ·exact jo
  ·exact eG
  ·rintro ⟨i_5,l_3⟩ hk; (try dsimp only at *);refine eW ?_;refine T.cond rfl (fun h6=>?_) (fun h6=>?_)
   ·have p6:=of_decide_eq_true h6;rw [fF a7] at hk;generalize hn4:dq f4 kk4 (digits.length - (i_5+1)) (i_5+1)=next4 at hk;rw [←hf4] at hk; (try dsimp only at hk);refine lP ?_;refine lV ?_;refine cS (dk rfl rfl hdigits (List.length_map _)) ?_;refine jL ?_;refine dy ?_;refine jL ?_;refine cS (df (i:=(((digits.length:Int) - 1) - (i_5:Int)).toNat) rfl rfl rfl hdigits (List.length_map _) a7 a7) ?_;refine cS (dD 1 (i:=(((digits.length:Int) - 1) - (i_5:Int)).toNat) (j:=0) rfl rfl rfl hdigits a7) ?_;refine cS (dV (z:=(nth digits ((((digits.length:Int) - 1) - (i_5:Int)).toNat)))) ?_;refine dZ ?_;have hq:(0≤(i_5:Int)∧(i_5:Int)≤9223372036854775807∧1≤(4:Int))∧_:=dB hk;clear hk;obtain ⟨g27,hk⟩:=hq;have hq:(0≤((i_5:Int) / 4)∧((i_5:Int) / 4)<(l_3.length:Int))∧_:=dB hk;clear hk;obtain ⟨g28,hk⟩:=hq;have hq:(0≤(i_5:Int)∧1≤(4:Int))∧_:=dB hk;clear hk;obtain ⟨g32,hk⟩:=hq;have hq:(0≤wI (8* ((i_5:Int) % 4)))∧_:=dB hk;clear hk;obtain ⟨g34,hk⟩:=hq; (try dsimp only at hk);refine dS (sN 0 3 (sN 5 5 (.eff 3 (.eff 4 (.still 10 (.eff 11 (.eff 12 .done))))))) [.fr F1] b0 Sx ?_;refine fe ?_;refine cU rfl (gc (a:=(i_5:Int)) (b:=(4:Int)) rfl rfl rfl g27) ?_;refine fe ?_;refine cU rfl (jF (a:=(i_5:Int)) (b:=(4:Int)) rfl rfl rfl g32) ?_;refine cU rfl (dh (v:= .int .i64 (wI (8* ((i_5:Int) % 4))))) ?_;refine cU rfl (Yv.shlK (a:=(IntKind.u32.wrap (nth digits ((((digits.length:Int) - 1) - (i_5:Int)).toNat)))) (b:=wI (8* ((i_5:Int) % 4))) rfl rfl rfl g34) ?_;refine q3g ?_;refine dK rfl (cT) rfl rfl (eg 0 rfl rfl rfl a7 (gK (enc:=(eK .u32)) (i:=((i_5:Int) / 4).toNat) (j:=0) (fun _=>rfl) a7 a8)) (fun w hw=>hw.sub Sx) ?_;refine cU rfl (Yv.orK (a:=(nth l_3 (((i_5:Int) / 4).toNat))) (b:=(shlK .u32 (IntKind.u32.wrap (nth digits ((((digits.length:Int) - 1) - (i_5:Int)).toNat))) (wI (8* ((i_5:Int) % 4)))))) ?_;refine q3g ?_;refine dT rfl (cT) rfl (ez 0 (k':=(l_3.set (((i_5:Int) / 4).toNat) (orK .u32 (nth l_3 (((i_5:Int) / 4).toNat)) (shlK .u32 (IntKind.u32.wrap (nth digits ((((digits.length:Int) - 1) - (i_5:Int)).toNat))) (wI (8* ((i_5:Int) % 4)))))).length) (l':=(l_3.set (((i_5:Int) / 4).toNat) (orK .u32 (nth l_3 (((i_5:Int) / 4).toNat)) (shlK .u32 (IntKind.u32.wrap (nth digits ((((digits.length:Int) - 1) - (i_5:Int)).toNat))) (wI (8* ((i_5:Int) % 4)))))).flatMap (eK .u32)) rfl rfl rfl rfl a7 (ik (enc:=(eK .u32)) (xs:=l_3) (i:=((i_5:Int) / 4).toNat) (j:=0) (size:=1) (fun _=>rfl) a7 a8 b8) (ij (enc:=(eK .u32)) (xs:=l_3) (i:=((i_5:Int) / 4).toNat) (j:=0) (size:=1) (x:=(orK .u32 (nth l_3 (((i_5:Int) / 4).toNat)) (shlK .u32 (IntKind.u32.wrap (nth digits ((((digits.length:Int) - 1) - (i_5:Int)).toNat))) (wI (8* ((i_5:Int) % 4)))))) (fun _=>rfl) a7 a8 b8 rfl) (List.length_set ..)) ?_;refine q1C ?_;refine jh ?_;rw [←hn4] at hk;exact K.next ((i_5+1),(l_3.set (((i_5:Int) / 4).toNat) (orK .u32 (nth l_3 (((i_5:Int) / 4).toNat)) (shlK .u32 (IntKind.u32.wrap (nth digits ((((digits.length:Int) - 1) - (i_5:Int)).toNat))) (wI (8* ((i_5:Int) % 4))))))) hk b5 (.c (.c (.c (.c .nil)))) (List.Sublist.refl _)
   ·have p6:=of_decide_eq_false h6;rw [fH a7,←hkk4] at hk; (try dsimp only at hk);refine eN ?_;exact q4p
 ·rintro l_1 hk;rw [←hk2] at hk; (try dsimp only at hk);refine T.seq ?_;refine q1B ?_;rintro F2 ⟨le1_2,hz2⟩;refine fI ?_;have hfF2:=hz2.toF rfl (fun _=>rfl);haveI:=hfF2.oneC;have hq:=dw hk;clear hk;obtain ⟨r39,hr39,hk⟩:=hq; (try dsimp only at hk);refine ef ?_;refine cX (dl 0 rfl rfl rfl rfl (fun w hw hF=>zcn _ w hF l_1 v10 hfF2 fuel r39 hr39)) ?_;rintro _ _ ⟨v39_0_0,F3,le2_3,hf39_0_0,hq,rfl⟩;obtain rfl:=hq.symm;have le1_3:=le1_2.trans le2_3;haveI:=hf39_0_0.oneC;refine iw ?_;obtain rfl:=Option.some.inj hk;exact eQ rfl rfl (fun w' hw=>⟨v39_0_0,F3.toFrz,hf39_0_0,rfl,dU hw (i:=0) rfl hS0 le1_3⟩)
def zby (x_:List Int)(y:List Int):Int:=
 (bif decide (¬(x_.length:Int)=(y.length:Int)) then
 (bif decide ((x_.length:Int)<(y.length:Int)) then
 (-1)
 else
 1)
 else
 dF (fun (_:Unit)=>
 0)
 (fun k3=>
 gz (fun (i_5:Nat) (next4:Unit→Int) (_:Unit)=>
 (bif decide ((nth x_ i_5)<(nth y i_5)) then
 (-1)
 else
 (bif decide ((nth y i_5)<(nth x_ i_5)) then
 1
 else
 next4 ())))
 (fun (_:Unit)=>
 k3 ()) x_.length ()))
theorem zeh (F0:Frz)(w:World)(hF0:F0.At w)(x_:List Int)(vx_:Value)(hx_:SlC F0 vx_ 1 (x_.map (eK .u32)))(y:List Int)(vy:Value)(hy:SlC F0 vy 1 (y.map (eK .u32))):Calls Tryz.prog 124 #[vx_,vy] w fun e w'=>e= .returned (.int .i64 (zby x_ y))∧Below w.heap.size w w':=by
 obtain ⟨r,hk⟩:∃r,zby x_ y=r:=⟨_,rfl⟩;rw [hk];unfold zby at hk;haveI:=hx_.oneC;haveI:=hy.oneC;obtain ⟨S0,F1,rfl,hS0,hp0⟩:=eo hF0;refine dQ Tryz.func124 rfl rfl rfl hp0 ?_;refine jQ ?_;refine kf ?_;have hm7:x_.length≤9223372036854775807:=(List.length_map _)▸hx_.max;refine dy ?_;refine q2I ?_;have hm9:y.length≤9223372036854775807:=(List.length_map _)▸hy.max;refine dZ ?_;refine T.cond rfl (fun h1=>?_) (fun h1=>?_)
 ·have p1:=of_decide_eq_true h1;replace hk:=dr hk h1;refine iS ?_;refine dy ?_;refine kf ?_;refine dy ?_;refine q2I ?_;refine dZ ?_;refine T.cond rfl (fun h2=>?_) (fun h2=>?_)
  ·have p2:=of_decide_eq_true h2;replace hk:=dr hk h2;refine eV ?_;refine dz (T.ret (gk (gk ?_)));subst hk;exact d8
  ·have p2:=of_decide_eq_false h2;replace hk:=dt hk h2;refine kO ?_;refine jt ?_;subst hk;exact d8
 ·have p1:=of_decide_eq_false h1;replace hk:=dt hk h1;refine j0 ?_;refine dy ?_;refine kf ?_;refine jL ?_;refine dZ ?_;have hq:=d7 hk;clear hk;obtain ⟨k3,hk3,hk⟩:=hq; (try dsimp only at hk);refine c9 (ι:=Unit) (fun z=>[]) (fun z=>[.fr F1]) (fun z=>k3 ()=r) ?_ ?_
  ·have hq:=zdF hk;clear hk;obtain ⟨f4,kk4,hf4,hkk4,hk⟩:=hq;refine eH ?_;refine T.loop (ι:=Nat) (fun z=>[(0,vx_),(1,vy),(5, .int .i64 ((z:Int) - 1))]) (fun z=>[.fr F1]) (fun z=>gz f4 kk4 z ()=r∧z≤x_.length) (fun z=>z) x_.length ?_ ?_ ?_ ?_
   ·exact ⟨hk,(Nat.le_refl _)⟩
   ·exact mx
   ·exact eG
   ·rintro i_5 ⟨hk,hle4⟩;refine lT ?_;refine T.cond rfl (fun h6=>?_) (fun h6=>?_)
    ·have p6:=of_decide_eq_true h6;obtain ⟨i_5',rfl⟩:∃q,i_5=q+1:=⟨i_5 - 1,by omega⟩;replace hk:f4 i_5' (gz f4 kk4 i_5') ()=r:=hk;generalize hn4:gz f4 kk4 i_5'=next4 at hk;rw [←hf4] at hk; (try dsimp only at hk);refine kX (gs:=[(0,vx_),(1,vy),(5, .int .i64 (i_5':Int))]) (by repeat (first|exact Sub.nil|refine Sub.cons rfl ?_|refine fc rfl a7 ?_|refine e7 rfl cQ ?_)) (List.Sublist.refl _) ?_;refine T.skip (K.seq (T.seq (T.block (T.seq (T.seq ?_)))));refine q1O ?_;refine T.cond rfl (fun h7=>?_) (fun h7=>?_)
     ·have p7:=of_decide_eq_true h7;replace hk:=dr hk h7;refine lf ?_;subst hk;exact d8
     ·have p7:=of_decide_eq_false h7;replace hk:=dt hk h7;refine fN ?_;refine q1O ?_;refine T.cond rfl (fun h8=>?_) (fun h8=>?_)
      ·have p8:=of_decide_eq_true h8;replace hk:=dr hk h8;refine eV ?_;refine ky ?_;subst hk;exact d8
      ·have p8:=of_decide_eq_false h8;replace hk:=dt hk h8;refine q1i ?_;refine q2q ?_;rw [←hn4] at hk;exact q4D
    ·have p6:=of_decide_eq_false h6;obtain rfl:i_5=0:=a7;replace hk:kk4 ()=r:=hk;rw [←hkk4] at hk; (try dsimp only at hk);refine eN ?_;exact kY
  ·rintro _ hk;rw [←hk3] at hk; (try dsimp only at hk);refine kp ?_;subst hk;exact d8
def zcE (fuel:Nat)(x_:List Int)(d:Int):Option (List Int×Int):=
 dj (dm x_.length 4) <|
 dF (fun (s3:BitVec 64×List Int)=>
 (j5 fuel s3.2).bind fun r40=>
 some (r40,(IntKind.u32.wrap (s3.1.toNat:Int))))
 (fun k3=>
 gz (fun (i_7:Nat) (next6:(BitVec 64×List Int)→Option (List Int×Int)) (s6:BitVec 64×List Int)=>
 dj (¬(BitVec.ofInt 64 d)=0#64) <|
 dj (0≤(i_7:Int)∧(i_7:Int)<(s6.2.length:Int)) <|
 dj (¬(BitVec.ofInt 64 d)=0#64) <|
 next6 ((((s6.1 <<< 32) ||| (BitVec.ofInt 64 (nth x_ i_7))) % (BitVec.ofInt 64 d)),(s6.2.set i_7 (IntKind.u32.wrap ((((s6.1 <<< 32) ||| (BitVec.ofInt 64 (nth x_ i_7))) / (BitVec.ofInt 64 d)).toNat:Int)))))
 (fun (s6:BitVec 64×List Int)=>
 k3 (s6.1,s6.2)) x_.length (0#64,(List.replicate x_.length (0:Int))))
theorem zf1 (F0:Frz)(w:World)(hF0:F0.At w)(x_:List Int)(vx_:Value)(hx_:SlC F0 vx_ 1 (x_.map (eK .u32)))(d:Int)(fuel:Nat)(r:List Int×Int)(hr:zcE fuel x_ d=some r):Calls Tryz.prog 229 #[vx_, .int .u32 d] w fun e w'=>∃(y:Value) (G:Frz),(SlC G y 1 (r.1.map (eK .u32)))∧e= .returned (.tuple #[y, .int .u32 r.2])∧Fx F0 w G w':=by
 have hk:=hr;unfold zcE at hk;haveI:=hx_.oneC;obtain ⟨S0,F1,rfl,hS0,hp0⟩:=eo hF0;refine dQ Tryz.func229 rfl rfl rfl hp0 ?_;refine gO ?_;refine fi ?_;have hq:(dm x_.length 4)∧_:=dB hk;clear hk;obtain ⟨g11,hk⟩:=hq; (try dsimp only at hk);refine ef ?_;refine kf ?_;have hm10:x_.length≤9223372036854775807:=(List.length_map _)▸hx_.max;refine cX (fZ (n':=x_.length) (enc:=(eK .u32)) (u:=(0:Int)) rfl rfl rfl rfl g11 a8 a8 (fun _=>rfl) rfl) ?_;rintro v11 _ ⟨hv11,rfl⟩;refine km ?_;intro iv11 hmv11;refine dy ?_;refine i0 ?_;refine j3 ?_;refine kf ?_;refine jL ?_;refine dZ ?_;have hq:=d7 hk;clear hk;obtain ⟨k3,hk3,hk⟩:=hq; (try dsimp only at hk);refine c9 (ι:=BitVec 64×List Int) (fun z=>[(6,v11),(7,U z.1)]) (fun z=>[.sl v11 175 1 z.2.length (z.2.flatMap (eK .u32)), .fr F1]) (fun z=>k3 (z.1,z.2)=some r) ?_ ?_
 ·have hq:=zdF hk;clear hk;obtain ⟨f6,kk6,hf6,hkk6,hk⟩:=hq;refine eH ?_;refine T.loop (ι:=Nat×BitVec 64×List Int) (fun z=>[(0,vx_),(1, .int .u32 d),(6,v11),(7,U z.2.1),(8, .int .i64 ((z.1:Int) - 1))]) (fun z=>[.sl v11 175 1 z.2.2.length (z.2.2.flatMap (eK .u32)), .fr F1]) (fun z=>gz f6 kk6 z.1 (z.2.1,z.2.2)=some r∧z.1≤x_.length) (fun z=>z.1) (x_.length,0#64,(List.replicate x_.length (0:Int))) ?_ ?_ ?_ ?_
  ·exact ⟨hk,(Nat.le_refl _)⟩
  ·exact kn
  ·exact eG
  ·rintro ⟨i_7,r_4,l_5⟩ ⟨hk,hle6⟩; (try dsimp only at *);refine lT ?_;refine T.cond rfl (fun h8=>?_) (fun h8=>?_)
   ·have p8:=of_decide_eq_true h8;obtain ⟨i_7',rfl⟩:∃q,i_7=q+1:=⟨i_7 - 1,by omega⟩;replace hk:f6 i_7' (gz f6 kk6 i_7') (r_4,l_5)=some r:=hk;generalize hn6:gz f6 kk6 i_7'=next6 at hk;rw [←hf6] at hk; (try dsimp only at hk);refine kX (gs:=[(0,vx_),(1, .int .u32 d),(6,v11),(7,U r_4),(8, .int .i64 (i_7':Int))]) (by repeat (first|exact Sub.nil|refine Sub.cons rfl ?_|refine fc rfl a7 ?_|refine e7 rfl cQ ?_)) (List.Sublist.refl _) ?_;refine kh ?_;refine cS (iI (a:=r_4) 32 rfl rfl rfl (show (32:Int)=((32:Nat):Int) from rfl) a7) ?_;refine ek ?_;refine cS (df (i:=i_7') rfl rfl rfl hx_ (List.length_map _) rfl a7) ?_;refine cS (dD 1 (i:=i_7') (j:=0) rfl rfl rfl hx_ a7) ?_;refine cS (ey (z:=(nth x_ i_7'))) ?_;refine cS (j7) ?_;refine gD ?_;have hq:(¬(BitVec.ofInt 64 d)=0#64)∧_:=dB hk;clear hk;obtain ⟨g32,hk⟩:=hq;have hq:(0≤(i_7':Int)∧(i_7':Int)<(l_5.length:Int))∧_:=dB hk;clear hk;obtain ⟨g34,hk⟩:=hq; (try dsimp only at hk);refine lX ?_;refine cS (ey (z:=d)) ?_;refine cS (Yv.cq (a:=((r_4 <<< 32) ||| (BitVec.ofInt 64 (nth x_ i_7')))) (b:=(BitVec.ofInt 64 d)) rfl rfl rfl g32) ?_;refine cS (dV (z:=((((r_4 <<< 32) ||| (BitVec.ofInt 64 (nth x_ i_7'))) / (BitVec.ofInt 64 d)).toNat:Int))) ?_;refine cS (dL 0 (i:=i_7') rfl rfl rfl rfl rfl a7) ?_;refine dM (ez 0 (k':=(l_5.set i_7' (IntKind.u32.wrap ((((r_4 <<< 32) ||| (BitVec.ofInt 64 (nth x_ i_7'))) / (BitVec.ofInt 64 d)).toNat:Int))).length) (l':=(l_5.set i_7' (IntKind.u32.wrap ((((r_4 <<< 32) ||| (BitVec.ofInt 64 (nth x_ i_7'))) / (BitVec.ofInt 64 d)).toNat:Int))).flatMap (eK .u32)) rfl rfl rfl rfl a7 (ik (enc:=(eK .u32)) (xs:=l_5) (i:=i_7') (j:=0) (size:=1) (fun _=>rfl) a7 a8 a7) (ij (enc:=(eK .u32)) (xs:=l_5) (i:=i_7') (j:=0) (size:=1) (x:=(IntKind.u32.wrap ((((r_4 <<< 32) ||| (BitVec.ofInt 64 (nth x_ i_7'))) / (BitVec.ofInt 64 d)).toNat:Int))) (fun _=>rfl) a7 a8 a7 rfl) (List.length_set ..)) ?_;refine me ?_;have hq:(¬(BitVec.ofInt 64 d)=0#64)∧_:=dB hk;clear hk;obtain ⟨g38,hk⟩:=hq; (try dsimp only at hk);refine eO ?_;refine cS (ey (z:=d)) ?_;refine cS (Yv.cp (a:=((r_4 <<< 32) ||| (BitVec.ofInt 64 (nth x_ i_7')))) (b:=(BitVec.ofInt 64 d)) rfl rfl rfl g38) ?_;refine q3Q ?_;refine q2q ?_;rw [←hn6] at hk;exact K.next (i_7',(((r_4 <<< 32) ||| (BitVec.ofInt 64 (nth x_ i_7'))) % (BitVec.ofInt 64 d)),(l_5.set i_7' (IntKind.u32.wrap ((((r_4 <<< 32) ||| (BitVec.ofInt 64 (nth x_ i_7'))) / (BitVec.ofInt 64 d)).toNat:Int)))) ⟨hk,b5⟩ b5 (.c (.c (.c (.c (.c .nil))))) (List.Sublist.refl _)
   ·have p8:=of_decide_eq_false h8;obtain rfl:i_7=0:=a7;replace hk:kk6 (r_4,l_5)=some r:=hk;rw [←hkk6] at hk; (try dsimp only at hk);refine eN ?_;exact cY (r_4,l_5) hk (.c (.c .nil)) (List.Sublist.refl _)
 ·rintro ⟨r_1,l_2⟩ hk; (try dsimp only at *);rw [←hk3] at hk; (try dsimp only at hk);refine T.seq ?_;refine q1B ?_;rintro F2 ⟨le1_2,hz2⟩;refine fI ?_;have hfF2:=hz2.toF rfl (fun _=>rfl);haveI:=hfF2.oneC;have hq:=dw hk;clear hk;obtain ⟨r40,hr40,hk⟩:=hq; (try dsimp only at hk);refine ef ?_;refine cX (dl 0 rfl rfl rfl rfl (fun w hw hF=>zcn _ w hF l_2 v11 hfF2 fuel r40 hr40)) ?_;rintro _ _ ⟨v40_0_0,F3,le2_3,hf40_0_0,hq,rfl⟩;obtain rfl:=hq.symm;have le1_3:=le1_2.trans le2_3;haveI:=hf40_0_0.oneC;refine dy ?_;refine cS (dV (z:=(r_1.toNat:Int))) ?_;refine mf ?_;obtain rfl:=Option.some.inj hk;exact fh rfl rfl rfl (fun w' hw=>⟨v40_0_0,F3.toFrz,hf40_0_0,rfl,dU hw (i:=0) rfl hS0 le1_3⟩)
def zce (x_:Int):Option Int:=
 dF (fun (s3:Int×Int)=>
 dF (fun (s7:Int×Int)=>
 dj (0≤(IntKind.u8.wrap s7.1)∧(IntKind.u8.wrap s7.1)≤(255:Int)) <|
 some (wI (s7.2+(wI (Lib.len8 (IntKind.u8.wrap s7.1))))))
 (fun k7=>
 (bif decide (256≤s3.1) then
 k7 ((shrK .u32 s3.1 ((8#64).toNat:Int)),wI (s3.2+8))
 else
 k7 (s3.1,s3.2))))
 (fun k3=>
 (bif decide (65536≤x_) then
 k3 ((shrK .u32 x_ ((16#64).toNat:Int)),16)
 else
 k3 (x_,0)))
theorem zeD (F0:Frz)(w:World)(hF0:F0.At w)(x_:Int)(r:Int)(hr:zce x_=some r):Calls Tryz.prog 234 #[.int .u32 x_] w fun e w'=>e= .returned (.int .i64 r)∧Below w.heap.size w w':=by
 have hk:=hr;unfold zce at hk;obtain ⟨S0,F1,rfl,hS0,hp0⟩:=eo hF0;refine dQ Tryz.func234 rfl rfl rfl hp0 ?_;refine eV ?_;refine lS ?_;have hq:=d7 hk;clear hk;obtain ⟨k3,hk3,hk⟩:=hq; (try dsimp only at hk);refine c9 (ι:=Int×Int) (fun z=>[(0, .int .u32 z.1),(2, .int .i64 z.2)]) (fun z=>[.fr F1]) (fun z=>k3 (z.1,z.2)=some r) ?_ ?_
 ·refine T.cond rfl (fun h4=>?_) (fun h4=>?_)
  ·have p4:=of_decide_eq_true h4;replace hk:=dr hk h4;refine eV ?_;refine cS (Yv.shrK (a:=x_) (b:=((16#64).toNat:Int)) rfl rfl rfl a7) ?_;refine dy ?_;refine dz (T.region ?_);refine jv ?_;exact cY ((shrK .u32 x_ ((16#64).toNat:Int)),16) hk (.c (.c .nil)) (List.Sublist.refl _)
  ·have p4:=of_decide_eq_false h4;replace hk:=dt hk h4;refine T.skip ?_;exact cY (x_,0) hk (.c (.c .nil)) (List.Sublist.refl _)
 ·rintro ⟨x_1,n_2⟩ hk; (try dsimp only at *);rw [←hk3] at hk; (try dsimp only at hk);refine lT ?_;have hq:=d7 hk;clear hk;obtain ⟨k7,hk7,hk⟩:=hq; (try dsimp only at hk);refine c9 (ι:=Int×Int) (fun z=>[(0, .int .u32 z.1),(2, .int .i64 z.2)]) (fun z=>[.fr F1]) (fun z=>k7 (z.1,z.2)=some r) ?_ ?_
  ·refine T.cond rfl (fun h8=>?_) (fun h8=>?_)
   ·have p8:=of_decide_eq_true h8;replace hk:=dr hk h8;refine eV ?_;refine cS (Yv.shrK (a:=x_1) (b:=((8#64).toNat:Int)) rfl rfl rfl a7) ?_;refine dy ?_;refine q2i ?_;refine cS (dh (v:= .int .i64 (wI (n_2+8)))) ?_;refine jv ?_;exact cY ((shrK .u32 x_1 ((8#64).toNat:Int)),wI (n_2+8)) hk (.c (.c .nil)) (List.Sublist.refl _)
   ·have p8:=of_decide_eq_false h8;replace hk:=dt hk h8;refine T.skip ?_;exact cY (x_1,n_2) hk (.c (.c .nil)) (List.Sublist.refl _)
  ·rintro ⟨x_5,n_6⟩ hk; (try dsimp only at *);rw [←hk7] at hk; (try dsimp only at hk);refine T.seq ?_;have hq:(0≤(IntKind.u8.wrap x_5)∧(IntKind.u8.wrap x_5)≤(255:Int))∧_:=dB hk;clear hk;obtain ⟨g16,hk⟩:=hq; (try dsimp only at hk);refine eO ?_;refine cS (dV (z:=x_5)) ?_;refine cS (Yv.len8 b0 (by exact rfl) rfl (by first|exact g16|omega)) ?_;refine cS (dV (z:=(Lib.len8 (IntKind.u8.wrap x_5)))) ?_;refine cS (dh (v:= .int .i64 (wI (n_6+(wI (Lib.len8 (IntKind.u8.wrap x_5))))))) ?_;refine iw ?_;obtain rfl:=Option.some.inj hk;exact d8
def zbC (x_:Int):Option Int:=
 (zce x_).bind fun r4=>
 some (wI (32 - r4))
theorem zem (F0:Frz)(w:World)(hF0:F0.At w)(x_:Int)(r:Int)(hr:zbC x_=some r):Calls Tryz.prog 230 #[.int .u32 x_] w fun e w'=>e= .returned (.int .i64 r)∧Below w.heap.size w w':=by
 have hk:=hr;unfold zbC at hk;obtain ⟨S0,F1,rfl,hS0,hp0⟩:=eo hF0;refine dQ Tryz.func230 rfl rfl rfl hp0 ?_;refine eW ?_;have hq:=dw hk;clear hk;obtain ⟨r4,hr4,hk⟩:=hq; (try dsimp only at hk);refine ef ?_;refine cX (de rfl rfl rfl (fun w hw=>zeD _ w (hw.fr (i:=0) rfl) x_ r4 hr4)) ?_;refine ee ?_;refine cS (dh (v:= .int .i64 (wI (32 - r4)))) ?_;refine iw ?_;obtain rfl:=Option.some.inj hk;exact d8
def zb4 (x_:List Int)(shift:Int):Option (List Int):=
 dj (0≤wI ((x_.length:Int)+1)) <|
 dj (dm ((wI ((x_.length:Int)+1)).toNat) 4) <|
 dF (fun (l_1:List Int)=>
 some l_1)
 (fun k2=>
 dq (fun (i_5:Nat) (next4:List Int→Option (List Int)) (l_3:List Int)=>
 dj (0≤shift∧shift<(64:Int)) <|
 dj (0≤(i_5:Int)∧(i_5:Int)<(l_3.length:Int)) <|
 dj (0≤((i_5:Int)+1)∧((i_5:Int)+1)<((l_3.set i_5 (orK .u32 (nth l_3 i_5) (IntKind.u32.wrap (((BitVec.ofInt 64 (nth x_ i_5)) <<< shift.toNat).toNat:Int)))).length:Int)) <|
 next4 ((l_3.set i_5 (orK .u32 (nth l_3 i_5) (IntKind.u32.wrap (((BitVec.ofInt 64 (nth x_ i_5)) <<< shift.toNat).toNat:Int)))).set (i_5+1) (IntKind.u32.wrap ((((BitVec.ofInt 64 (nth x_ i_5)) <<< shift.toNat) >>> 32).toNat:Int))))
 (fun (l_3:List Int)=>
 k2 l_3) (x_.length - 0) 0 (List.replicate ((wI ((x_.length:Int)+1)).toNat) (0:Int)))
theorem zeo (F0:Frz)(w:World)(hF0:F0.At w)(x_:List Int)(vx_:Value)(hx_:SlC F0 vx_ 1 (x_.map (eK .u32)))(shift:Int)(r:List Int)(hr:zb4 x_ shift=some r):Calls Tryz.prog 231 #[vx_, .int .i64 shift] w fun e w'=>∃(y:Value),(True)∧e= .returned (y)∧FxM F0 w (dG []) F0 [.sl y 175 1 r.length (r.flatMap (eK .u32))] w':=by
 have hk:=hr;unfold zb4 at hk;haveI:=hx_.oneC;obtain ⟨S0,F1,rfl,hS0,hp0⟩:=eo hF0;rw [zhq];refine dQ Tryz.func231 rfl rfl rfl hp0 ?_;refine eW ?_;have hq:(0≤wI ((x_.length:Int)+1))∧_:=dB hk;clear hk;obtain ⟨g12n,hk⟩:=hq;have hq:(dm ((wI ((x_.length:Int)+1)).toNat) 4)∧_:=dB hk;clear hk;obtain ⟨g12,hk⟩:=hq; (try dsimp only at hk);refine ef ?_;refine kf ?_;have hm10:x_.length≤9223372036854775807:=(List.length_map _)▸hx_.max;refine cS (dh (v:= .int .i64 (wI ((x_.length:Int)+1)))) ?_;refine cX (fZ (n':=((wI ((x_.length:Int)+1)).toNat)) (enc:=(eK .u32)) (u:=(0:Int)) rfl rfl rfl a7 g12 a8 a8 (fun _=>rfl) rfl) ?_;rintro v12 _ ⟨hv12,rfl⟩;refine km ?_;intro iv12 hmv12;refine li ?_;refine kf ?_;refine dZ ?_;have hq:=d7 hk;clear hk;obtain ⟨k2,hk2,hk⟩:=hq; (try dsimp only at hk);refine c9 (ι:=List Int) (fun z=>[(5,v12)]) (fun z=>[.sl v12 175 1 z.length (z.flatMap (eK .u32)), .fr F1]) (fun z=>k2 z=some r) ?_ ?_
 ·have hq:=fJ hk;clear hk;obtain ⟨f4,kk4,hf4,hkk4,hk⟩:=hq;refine eH ?_;refine T.loop (ι:=Nat×List Int) (fun z=>[(1, .int .i64 shift),(5,v12),(13,vx_),(14, .int .i64 (x_.length:Int)),(15, .int .i64 (z.1:Int))]) (fun z=>[.sl v12 175 1 z.2.length (z.2.flatMap (eK .u32)), .fr F1]) (fun z=>dq f4 kk4 (x_.length - z.1) z.1 z.2=some r) (fun z=>x_.length - z.1) (0,(List.replicate ((wI ((x_.length:Int)+1)).toNat) (0:Int))) ?_ ?_ ?_ ?_
  ·exact hk
  ·exact kn
  ·exact eG
  ·rintro ⟨i_5,l_3⟩ hk; (try dsimp only at *);refine eW ?_;refine T.cond rfl (fun h6=>?_) (fun h6=>?_)
   ·have p6:=of_decide_eq_true h6;rw [fF a7] at hk;generalize hn4:dq f4 kk4 (x_.length - (i_5+1)) (i_5+1)=next4 at hk;rw [←hf4] at hk; (try dsimp only at hk);refine q2R ?_;have hq:(0≤shift∧shift<(64:Int))∧_:=dB hk;clear hk;obtain ⟨g23,hk⟩:=hq; (try dsimp only at hk);refine ef ?_;refine cS (ey (z:=(nth x_ i_5))) ?_;refine dy ?_;refine cS (iI (a:=(BitVec.ofInt 64 (nth x_ i_5))) shift.toNat rfl rfl rfl a7 a7) ?_;refine gD ?_;have hq:(0≤(i_5:Int)∧(i_5:Int)<(l_3.length:Int))∧_:=dB hk;clear hk;obtain ⟨g26,hk⟩:=hq; (try dsimp only at hk);refine eO ?_;refine cS (dL 0 (i:=i_5) rfl rfl rfl rfl rfl a7) ?_;refine cS (eg 0 rfl rfl rfl a7 (gK (enc:=(eK .u32)) (i:=i_5) (j:=0) (fun _=>rfl) a7 a8)) ?_;refine dy ?_;refine cS (dV (z:=(((BitVec.ofInt 64 (nth x_ i_5)) <<< shift.toNat).toNat:Int))) ?_;refine cS (Yv.orK (a:=(nth l_3 i_5)) (b:=(IntKind.u32.wrap (((BitVec.ofInt 64 (nth x_ i_5)) <<< shift.toNat).toNat:Int)))) ?_;refine cS (dL 0 (i:=i_5) rfl rfl rfl rfl rfl a7) ?_;refine dM (ez 0 (k':=(l_3.set i_5 (orK .u32 (nth l_3 i_5) (IntKind.u32.wrap (((BitVec.ofInt 64 (nth x_ i_5)) <<< shift.toNat).toNat:Int)))).length) (l':=(l_3.set i_5 (orK .u32 (nth l_3 i_5) (IntKind.u32.wrap (((BitVec.ofInt 64 (nth x_ i_5)) <<< shift.toNat).toNat:Int)))).flatMap (eK .u32)) rfl rfl rfl rfl a7 (ik (enc:=(eK .u32)) (xs:=l_3) (i:=i_5) (j:=0) (size:=1) (fun _=>rfl) a7 a8 a7) (ij (enc:=(eK .u32)) (xs:=l_3) (i:=i_5) (j:=0) (size:=1) (x:=(orK .u32 (nth l_3 i_5) (IntKind.u32.wrap (((BitVec.ofInt 64 (nth x_ i_5)) <<< shift.toNat).toNat:Int)))) (fun _=>rfl) a7 a8 a7 rfl) (List.length_set ..)) ?_;refine me ?_;have hq:(0≤((i_5:Int)+1)∧((i_5:Int)+1)<((l_3.set i_5 (orK .u32 (nth l_3 i_5) (IntKind.u32.wrap (((BitVec.ofInt 64 (nth x_ i_5)) <<< shift.toNat).toNat:Int)))).length:Int))∧_:=dB hk;clear hk;obtain ⟨g38,hk⟩:=hq; (try dsimp only at hk);refine eO ?_;refine q3D ?_;refine cS (gU (a:=((BitVec.ofInt 64 (nth x_ i_5)) <<< shift.toNat)) 32 rfl rfl rfl (show (32:Int)=((32:Nat):Int) from rfl) a7) ?_;refine cS (dV (z:=((((BitVec.ofInt 64 (nth x_ i_5)) <<< shift.toNat) >>> 32).toNat:Int))) ?_;refine cS (dL 0 (i:=(i_5+1)) rfl rfl rfl rfl rfl a7) ?_;refine dM (ez 0 (k':=((l_3.set i_5 (orK .u32 (nth l_3 i_5) (IntKind.u32.wrap (((BitVec.ofInt 64 (nth x_ i_5)) <<< shift.toNat).toNat:Int)))).set (i_5+1) (IntKind.u32.wrap ((((BitVec.ofInt 64 (nth x_ i_5)) <<< shift.toNat) >>> 32).toNat:Int))).length) (l':=((l_3.set i_5 (orK .u32 (nth l_3 i_5) (IntKind.u32.wrap (((BitVec.ofInt 64 (nth x_ i_5)) <<< shift.toNat).toNat:Int)))).set (i_5+1) (IntKind.u32.wrap ((((BitVec.ofInt 64 (nth x_ i_5)) <<< shift.toNat) >>> 32).toNat:Int))).flatMap (eK .u32)) rfl rfl rfl rfl a7 (ik (enc:=(eK .u32)) (xs:=(l_3.set i_5 (orK .u32 (nth l_3 i_5) (IntKind.u32.wrap (((BitVec.ofInt 64 (nth x_ i_5)) <<< shift.toNat).toNat:Int))))) (i:=(i_5+1)) (j:=0) (size:=1) (fun _=>rfl) a7 a8 a7) (ij (enc:=(eK .u32)) (xs:=(l_3.set i_5 (orK .u32 (nth l_3 i_5) (IntKind.u32.wrap (((BitVec.ofInt 64 (nth x_ i_5)) <<< shift.toNat).toNat:Int))))) (i:=(i_5+1)) (j:=0) (size:=1) (x:=(IntKind.u32.wrap ((((BitVec.ofInt 64 (nth x_ i_5)) <<< shift.toNat) >>> 32).toNat:Int))) (fun _=>rfl) a7 a8 a7 rfl) (List.length_set ..)) ?_;refine ee ?_;refine jg ?_;rw [←hn4] at hk;exact K.next ((i_5+1),((l_3.set i_5 (orK .u32 (nth l_3 i_5) (IntKind.u32.wrap (((BitVec.ofInt 64 (nth x_ i_5)) <<< shift.toNat).toNat:Int)))).set (i_5+1) (IntKind.u32.wrap ((((BitVec.ofInt 64 (nth x_ i_5)) <<< shift.toNat) >>> 32).toNat:Int)))) hk b5 (.c (.c (.c (.c (.c .nil))))) (List.Sublist.refl _)
   ·have p6:=of_decide_eq_false h6;rw [fH a7,←hkk4] at hk; (try dsimp only at hk);refine eN ?_;exact q4p
 ·rintro l_1 hk;rw [←hk2] at hk; (try dsimp only at hk);refine q3S ?_;obtain rfl:=Option.some.inj hk;exact eQ rfl rfl (fun w' hw=>⟨v12,trivial,rfl,dp (hw.pick (idx:=[0,1]) rfl a8) hS0 (Frz.Le.refl _)⟩)
def zb0 (x_:List Int)(shift:Int):Option (List Int):=
 dj (dm x_.length 4) <|
 dF (fun (l_1:List Int)=>
 some l_1)
 (fun k2=>
 dq (fun (i_5:Nat) (next4:List Int→Option (List Int)) (l_3:List Int)=>
 dj (0≤shift) <|
 dj (0≤(i_5:Int)∧(i_5:Int)<(l_3.length:Int)) <|
 (bif decide (((i_5:Int)+1)<(x_.length:Int)) then
 dj (0≤(i_5:Int)∧(i_5:Int)<((l_3.set i_5 (shrK .u32 (nth x_ i_5) shift)).length:Int)) <|
 dj (0≤wI (32 - shift)∧wI (32 - shift)<(64:Int)) <|
 next4 ((l_3.set i_5 (shrK .u32 (nth x_ i_5) shift)).set i_5 (orK .u32 (nth (l_3.set i_5 (shrK .u32 (nth x_ i_5) shift)) i_5) (IntKind.u32.wrap (((BitVec.ofInt 64 (nth x_ (i_5+1))) <<< ((wI (32 - shift)).toNat)).toNat:Int))))
 else
 next4 (l_3.set i_5 (shrK .u32 (nth x_ i_5) shift))))
 (fun (l_3:List Int)=>
 k2 l_3) (x_.length - 0) 0 (List.replicate x_.length (0:Int)))
theorem zfn (F0:Frz)(w:World)(hF0:F0.At w)(x_:List Int)(vx_:Value)(hx_:SlC F0 vx_ 1 (x_.map (eK .u32)))(shift:Int)(r:List Int)(hr:zb0 x_ shift=some r):Calls Tryz.prog 233 #[vx_, .int .i64 shift] w fun e w'=>∃(y:Value) (G:Frz),(SlC G y 1 (r.map (eK .u32)))∧e= .returned (y)∧Fx F0 w G w':=by
 have hk:=hr;unfold zb0 at hk;haveI:=hx_.oneC;obtain ⟨S0,F1,rfl,hS0,hp0⟩:=eo hF0;refine dQ Tryz.func233 rfl rfl rfl hp0 ?_;refine eW ?_;have hq:(dm x_.length 4)∧_:=dB hk;clear hk;obtain ⟨g10,hk⟩:=hq; (try dsimp only at hk);refine ef ?_;refine kf ?_;have hm9:x_.length≤9223372036854775807:=(List.length_map _)▸hx_.max;refine cX (fZ (n':=x_.length) (enc:=(eK .u32)) (u:=(0:Int)) rfl rfl rfl rfl g10 a8 a8 (fun _=>rfl) rfl) ?_;rintro v10 _ ⟨hv10,rfl⟩;refine km ?_;intro iv10 hmv10;refine li ?_;refine kf ?_;refine dZ ?_;have hq:=d7 hk;clear hk;obtain ⟨k2,hk2,hk⟩:=hq; (try dsimp only at hk);refine c9 (ι:=List Int) (fun z=>[(5,v10)]) (fun z=>[.sl v10 175 1 z.length (z.flatMap (eK .u32)), .fr F1]) (fun z=>k2 z=some r) ?_ ?_
 ·have hq:=fJ hk;clear hk;obtain ⟨f4,kk4,hf4,hkk4,hk⟩:=hq;refine eH ?_;refine T.loop (ι:=Nat×List Int) (fun z=>[(0,vx_),(1, .int .i64 shift),(5,v10),(11,vx_),(12, .int .i64 (x_.length:Int)),(13, .int .i64 (z.1:Int))]) (fun z=>[.sl v10 175 1 z.2.length (z.2.flatMap (eK .u32)), .fr F1]) (fun z=>dq f4 kk4 (x_.length - z.1) z.1 z.2=some r) (fun z=>x_.length - z.1) (0,(List.replicate x_.length (0:Int))) ?_ ?_ ?_ ?_
  ·exact hk
  ·exact lZ
  ·exact eG
  ·rintro ⟨i_5,l_3⟩ hk; (try dsimp only at *);refine eW ?_;refine T.cond rfl (fun h6=>?_) (fun h6=>?_)
   ·have p6:=of_decide_eq_true h6;rw [fF a7] at hk;generalize hn4:dq f4 kk4 (x_.length - (i_5+1)) (i_5+1)=next4 at hk;rw [←hf4] at hk; (try dsimp only at hk);refine q2R ?_;have hq:(0≤shift)∧_:=dB hk;clear hk;obtain ⟨g22,hk⟩:=hq;have hq:(0≤(i_5:Int)∧(i_5:Int)<(l_3.length:Int))∧_:=dB hk;clear hk;obtain ⟨g23,hk⟩:=hq; (try dsimp only at hk);refine lX ?_;refine cS (Yv.shrK (a:=(nth x_ i_5)) (b:=shift) rfl rfl rfl g22) ?_;refine cS (dL 0 (i:=i_5) rfl rfl rfl rfl rfl a7) ?_;refine dM (ez 0 (k':=(l_3.set i_5 (shrK .u32 (nth x_ i_5) shift)).length) (l':=(l_3.set i_5 (shrK .u32 (nth x_ i_5) shift)).flatMap (eK .u32)) rfl rfl rfl rfl a7 (ik (enc:=(eK .u32)) (xs:=l_3) (i:=i_5) (j:=0) (size:=1) (fun _=>rfl) a7 a8 a7) (ij (enc:=(eK .u32)) (xs:=l_3) (i:=i_5) (j:=0) (size:=1) (x:=(shrK .u32 (nth x_ i_5) shift)) (fun _=>rfl) a7 a8 a7 rfl) (List.length_set ..)) ?_;refine ee ?_;refine i0 ?_;refine q3D ?_;refine kf ?_;refine dZ ?_;refine T.cond rfl (fun h7=>?_) (fun h7=>?_)
    ·have p7:=of_decide_eq_true h7;replace hk:=dr hk h7;have hq:(0≤(i_5:Int)∧(i_5:Int)<((l_3.set i_5 (shrK .u32 (nth x_ i_5) shift)).length:Int))∧_:=dB hk;clear hk;obtain ⟨g31,hk⟩:=hq;have hq:(0≤wI (32 - shift)∧wI (32 - shift)<(64:Int))∧_:=dB hk;clear hk;obtain ⟨g41,hk⟩:=hq; (try dsimp only at hk);refine dS (sN 0 2 (sN 4 10 (.eff 2 (.eff 3 (.still 14 (.eff 15 (.eff 16 .done))))))) [.fr F1] b0 Sx ?_;refine TS.run 4 rfl ?_;refine cU rfl (ka rfl rfl rfl a7) ?_;refine cU rfl (df (i:=(i_5+1)) rfl rfl rfl hx_ (List.length_map _) rfl a7) ?_;refine cU rfl (dD 0 (i:=(i_5+1)) (j:=0) rfl rfl rfl hx_ a7) ?_;refine cU rfl (ey (z:=(nth x_ (i_5+1)))) ?_;refine fS ?_;refine cU rfl (dh (v:= .int .i64 (wI (32 - shift)))) ?_;refine cU rfl (iI (a:=(BitVec.ofInt 64 (nth x_ (i_5+1)))) ((wI (32 - shift)).toNat) rfl rfl rfl a7 a7) ?_;refine cU rfl (dV (z:=(((BitVec.ofInt 64 (nth x_ (i_5+1))) <<< ((wI (32 - shift)).toNat)).toNat:Int))) ?_;refine q3L ?_;refine dK rfl (cT) rfl rfl (eg 0 rfl rfl rfl a7 (gK (enc:=(eK .u32)) (i:=i_5) (j:=0) (fun _=>rfl) a7 a8)) (fun w hw=>hw.sub Sx) ?_;refine cU rfl (Yv.orK (a:=(nth (l_3.set i_5 (shrK .u32 (nth x_ i_5) shift)) i_5)) (b:=(IntKind.u32.wrap (((BitVec.ofInt 64 (nth x_ (i_5+1))) <<< ((wI (32 - shift)).toNat)).toNat:Int)))) ?_;refine q3L ?_;refine dT rfl (cT) rfl (ez 0 (k':=((l_3.set i_5 (shrK .u32 (nth x_ i_5) shift)).set i_5 (orK .u32 (nth (l_3.set i_5 (shrK .u32 (nth x_ i_5) shift)) i_5) (IntKind.u32.wrap (((BitVec.ofInt 64 (nth x_ (i_5+1))) <<< ((wI (32 - shift)).toNat)).toNat:Int)))).length) (l':=((l_3.set i_5 (shrK .u32 (nth x_ i_5) shift)).set i_5 (orK .u32 (nth (l_3.set i_5 (shrK .u32 (nth x_ i_5) shift)) i_5) (IntKind.u32.wrap (((BitVec.ofInt 64 (nth x_ (i_5+1))) <<< ((wI (32 - shift)).toNat)).toNat:Int)))).flatMap (eK .u32)) rfl rfl rfl rfl a7 (ik (enc:=(eK .u32)) (xs:=(l_3.set i_5 (shrK .u32 (nth x_ i_5) shift))) (i:=i_5) (j:=0) (size:=1) (fun _=>rfl) a7 a8 a7) (ij (enc:=(eK .u32)) (xs:=(l_3.set i_5 (shrK .u32 (nth x_ i_5) shift))) (i:=i_5) (j:=0) (size:=1) (x:=(orK .u32 (nth (l_3.set i_5 (shrK .u32 (nth x_ i_5) shift)) i_5) (IntKind.u32.wrap (((BitVec.ofInt 64 (nth x_ (i_5+1))) <<< ((wI (32 - shift)).toNat)).toNat:Int)))) (fun _=>rfl) a7 a8 a7 rfl) (List.length_set ..)) ?_;refine q1C ?_;refine jh ?_;rw [←hn4] at hk;exact K.next ((i_5+1),((l_3.set i_5 (shrK .u32 (nth x_ i_5) shift)).set i_5 (orK .u32 (nth (l_3.set i_5 (shrK .u32 (nth x_ i_5) shift)) i_5) (IntKind.u32.wrap (((BitVec.ofInt 64 (nth x_ (i_5+1))) <<< ((wI (32 - shift)).toNat)).toNat:Int))))) hk b5 (.c (.c (.c (.c (.c (.c .nil)))))) (List.Sublist.refl _)
    ·have p7:=of_decide_eq_false h7;replace hk:=dt hk h7;refine q3T ?_;rw [←hn4] at hk;exact K.next ((i_5+1),(l_3.set i_5 (shrK .u32 (nth x_ i_5) shift))) hk b5 (.c (.c (.c (.c (.c (.c .nil)))))) (List.Sublist.refl _)
   ·have p6:=of_decide_eq_false h6;rw [fH a7,←hkk4] at hk; (try dsimp only at hk);refine eN ?_;exact q4p
 ·rintro l_1 hk;rw [←hk2] at hk; (try dsimp only at hk);refine gO ?_;refine q2x ?_;rintro F2 ⟨le1_2,hz2⟩;refine fI ?_;have hfF2:=hz2.toF rfl (fun _=>rfl);haveI:=hfF2.oneC;obtain rfl:=Option.some.inj hk;exact eQ rfl rfl (fun w' hw=>⟨v10,F2.toFrz,hfF2,rfl,dU hw (i:=0) rfl hS0 le1_2⟩)
def zcz (fuel:Nat)(x_:List Int)(y:List Int):Option (List Int×List Int):=
 (bif decide ((zby x_ y)<0) then
 some ([],x_)
 else
 (bif decide ((y.length:Int)=1) then
 (zcE fuel x_ (nth y 0)).bind fun r27=>
 (j5 fuel [r27.2]).bind fun r33=>
 some (r27.1,r33)
 else
 dj (0≤((y.length:Int) - 1)∧((y.length:Int) - 1)<(y.length:Int)) <|
 (zbC (nth y (((y.length:Int) - 1).toNat))).bind fun r41=>
 (zb4 y r41).bind fun r44=>
 dj (0≤(y.length:Int)∧(y.length:Int)≤(r44.length:Int)) <|
 (zb4 x_ r41).bind fun r49=>
 dj (0≤(((x_.length:Int) - (y.length:Int))+1)) <|
 dj (dm ((((x_.length:Int) - (y.length:Int))+1).toNat) 4) <|
 dF (fun (s5:List Int×List Int)=>
 (j5 fuel s5.2).bind fun r76=>
 dj (0≤(y.length:Int)∧(y.length:Int)≤(s5.1.length:Int)) <|
 (zb0 (s5.1.take y.length) r41).bind fun r81=>
 (j5 fuel r81).bind fun r82=>
 some (r76,r82))
 (fun k5=>
 gz (fun (j_9:Nat) (next8:(List Int×List Int)→Option (List Int×List Int)) (s8:List Int×List Int)=>
 dj (0≤wI ((wI ((j_9:Int)+(y.length:Int)))+1)∧wI ((wI ((j_9:Int)+(y.length:Int)))+1)≤(s8.1.length:Int)) <|
 dj (0≤(j_9:Int)∧(j_9:Int)≤(wI ((wI ((j_9:Int)+(y.length:Int)))+1):Int)) <|
 dj (j_9<((wI ((wI ((j_9:Int)+(y.length:Int)))+1)).toNat)) <|
 (zbA fuel ((s8.1.drop j_9).take (((wI ((wI ((j_9:Int)+(y.length:Int)))+1)).toNat) - j_9)) (r44.take y.length)).bind fun r73=>
 dj (0≤(j_9:Int)∧(j_9:Int)<(s8.2.length:Int)) <|
 next8 ((s8.1.take j_9++r73.2++s8.1.drop (j_9+(((wI ((wI ((j_9:Int)+(y.length:Int)))+1)).toNat) - j_9))),(s8.2.set j_9 r73.1)))
 (fun (s8:List Int×List Int)=>
 k5 (s8.1,s8.2)) ((List.replicate ((((x_.length:Int) - (y.length:Int))+1).toNat) (0:Int)).length) (r49,(List.replicate ((((x_.length:Int) - (y.length:Int))+1).toNat) (0:Int))))))
theorem zeZ (F0:Frz)(w:World)(hF0:F0.At w)(x_:List Int)(vx_:Value)(hx_:SlC F0 vx_ 1 (x_.map (eK .u32)))(y:List Int)(vy:Value)(hy:SlC F0 vy 1 (y.map (eK .u32)))(fuel:Nat)(r:List Int×List Int)(hr:zcz fuel x_ y=some r):Calls Tryz.prog 197 #[vx_,vy] w fun e w'=>∃(y:Value×Value) (G:Frz),(SlC G y.1 1 (r.1.map (eK .u32))∧SlC G y.2 1 (r.2.map (eK .u32)))∧e= .returned (.tuple #[y.1,y.2])∧Fx F0 w G w':=by
 have hk:=hr;unfold zcz at hk;haveI:=hx_.oneC;haveI:=hy.oneC;obtain ⟨S0,F1,rfl,hS0,hp0⟩:=eo hF0;refine dQ Tryz.func197 rfl rfl rfl hp0 ?_;refine gO ?_;refine je ?_;refine ek ?_;refine cX (de rfl rfl rfl (fun w hw=>zeh _ w (hw.fr (i:=0) rfl) x_ vx_ hx_ y vy hy)) ?_;refine mw ?_;refine T.cond rfl (fun h1=>?_) (fun h1=>?_)
 ·have p1:=of_decide_eq_true h1;replace hk:=dr hk h1;refine jO ?_;refine jt ?_;obtain rfl:=Option.some.inj hk;exact fh rfl rfl rfl (fun w' hw=>⟨((.slice none 0 0),vx_),F1.toFrz,⟨(SlC.nil _ 1),hx_⟩,rfl,dU hw (i:=0) rfl hS0 (Frz.Le.refl _)⟩)
 ·have p1:=of_decide_eq_false h1;replace hk:=dt hk h1;refine j0 ?_;refine dy ?_;refine q2I ?_;have hm20:y.length≤9223372036854775807:=(List.length_map _)▸hy.max;refine dZ ?_;refine T.cond rfl (fun h2=>?_) (fun h2=>?_)
  ·have p2:=of_decide_eq_true h2;replace hk:=dr hk h2;refine T.seq ?_;have hq:=dw hk;clear hk;obtain ⟨r27,hr27,hk⟩:=hq; (try dsimp only at hk);refine eO ?_;refine cS (df (i:=0) (m:=y.length) rfl rfl rfl hy (List.length_map _) (show (0:Int)=((0:Nat):Int) from rfl) a7) ?_;refine cS (dD 0 (i:=0) (j:=0) rfl rfl rfl hy a7) ?_;refine cX (dl 0 rfl rfl rfl rfl (fun w hw hF=>zf1 _ w hF x_ vx_ hx_ (nth y 0) fuel r27 hr27)) ?_;rintro _ _ ⟨v27_0_0,F2,le1_2,hf27_0_0,rfl,rfl⟩;haveI:=hf27_0_0.oneC;refine io ?_;refine fi ?_;have hq:=dw hk;clear hk;obtain ⟨r33,hr33,hk⟩:=hq; (try dsimp only at hk);refine eO ?_;refine iz ?_;rintro _ _ ⟨g32,rfl,rfl⟩;refine q1L ?_;rintro F3 ⟨le2_3,hz3⟩;refine fI ?_;have le1_3:=le1_2.trans le2_3;have hfF3:SlC F3.toFrz (.slice (some ⟨g32,0,none⟩) 1 1) 1 ([r27.2].map (eK .u32)):=(SlK.lit hz3 rfl (Nat.le_refl _) a8).toF (xs:=[r27.2]) rfl (fun _=>rfl);refine cX (dl 0 rfl rfl rfl rfl (fun w hw hF=>zcn _ w hF [r27.2] (.slice (some ⟨g32,0,none⟩) 1 1) hfF3 fuel r33 hr33)) ?_;rintro _ _ ⟨v33_0_0,F4,le3_4,hf33_0_0,hq,rfl⟩;obtain rfl:=hq.symm;have le1_4:=le1_3.trans le3_4;have le2_4:=le2_3.trans le3_4;haveI:=hf33_0_0.oneC;refine ek ?_;refine jt ?_;obtain rfl:=Option.some.inj hk;exact fh rfl rfl rfl (fun w' hw=>⟨(v27_0_0,v33_0_0),F4.toFrz,⟨(SlC.mono hf27_0_0 le2_4),hf33_0_0⟩,rfl,dU hw (i:=0) rfl hS0 le1_4⟩)
  ·have p2:=of_decide_eq_false h2;replace hk:=dt hk h2;refine kO ?_;refine q2I ?_;refine gD ?_;have hq:(0≤((y.length:Int) - 1)∧((y.length:Int) - 1)<(y.length:Int))∧_:=dB hk;clear hk;obtain ⟨g39,hk⟩:=hq;have hq:=dw hk;clear hk;obtain ⟨r41,hr41,hk⟩:=hq; (try dsimp only at hk);refine eO ?_;refine jL ?_;refine cS (df (i:=((y.length:Int) - 1).toNat) rfl rfl rfl hy (List.length_map _) a7 a7) ?_;refine cS (dD 0 (i:=((y.length:Int) - 1).toNat) (j:=0) rfl rfl rfl hy a7) ?_;refine cX (de rfl rfl rfl (fun w hw=>zem _ w (hw.fr (i:=0) rfl) (nth y (((y.length:Int) - 1).toNat)) r41 hr41)) ?_;refine ee ?_;refine gD ?_;have hq:=dw hk;clear hk;obtain ⟨r44,hr44,hk⟩:=hq;have hq:(0≤(y.length:Int)∧(y.length:Int)≤(r44.length:Int))∧_:=dB hk;clear hk;obtain ⟨g46h,hk⟩:=hq; (try dsimp only at hk);refine eO ?_;refine cX (dI [0] [] [] rfl rfl rfl rfl a8 (fun w hw hw2 hF=>zeo _ w hF y vy hy r41 r44 hr44)) ?_;rintro v44_0_0 _ ⟨_, -,rfl,rfl⟩;refine lz ?_;intro iv44_0_0 hmv44_0_0;refine gX (fun w hw=>hw.freezeS (i:=1) (j:=0) a8 rfl rfl) ?_;rintro F5 ⟨le1_5,hz5⟩;refine fI ?_;have hfF5:=hz5.toF rfl (fun _=>rfl);haveI:=hfF5.oneC;refine dy ?_;refine cS (lg (i:=y.length) rfl rfl rfl hfF5 (List.length_map _) rfl a7) ?_;have hs46_:SlC F5.toFrz (gd v44_0_0 0 y.length 1) 1 ((r44.take y.length).map (eK .u32)):=hfF5.sliceh (i:=y.length) a7;haveI:=hs46_.oneC;refine gD ?_;have hq:=dw hk;clear hk;obtain ⟨r49,hr49,hk⟩:=hq; (try dsimp only at hk);refine eO ?_;refine cX (dI [0] [] [] rfl rfl rfl rfl a8 (fun w hw hw2 hF=>zeo _ w hF x_ vx_ (SlC.mono hx_ le1_5) r41 r49 hr49)) ?_;rintro v49_0_0 _ ⟨_, -,rfl,rfl⟩;refine lz ?_;intro iv49_0_0 hmv49_0_0;refine gD ?_;have hq:(0≤(((x_.length:Int) - (y.length:Int))+1))∧_:=dB hk;clear hk;obtain ⟨g55n,hk⟩:=hq;have hq:(dm ((((x_.length:Int) - (y.length:Int))+1).toNat) 4)∧_:=dB hk;clear hk;obtain ⟨g55,hk⟩:=hq; (try dsimp only at hk);refine ef ?_;refine cS (dk rfl rfl (SlC.mono hx_ le1_5) (List.length_map _)) ?_;have hm51:x_.length≤9223372036854775807:=(List.length_map _)▸(SlC.mono hx_ le1_5).max;refine dy ?_;refine jL ?_;refine cS (ka rfl rfl rfl a7) ?_;refine cX (fZ (n':=((((x_.length:Int) - (y.length:Int))+1).toNat)) (enc:=(eK .u32)) (u:=(0:Int)) rfl rfl rfl a7 g55 a8 a8 (fun _=>rfl) rfl) ?_;rintro v55 _ ⟨hv55,rfl⟩;refine km ?_;intro iv55 hmv55;refine li ?_;refine cS (gw 0 rfl rfl rfl) ?_;refine jL ?_;refine dZ ?_;have hq:=d7 hk;clear hk;obtain ⟨k5,hk5,hk⟩:=hq; (try dsimp only at hk);refine c9 (ι:=List Int×List Int) (fun z=>[(8, .int .i64 (y.length:Int)),(9, .int .i64 r41),(11,v49_0_0),(12,v55)]) (fun z=>[.sl v49_0_0 175 1 z.1.length (z.1.flatMap (eK .u32)), .sl v55 175 1 z.2.length (z.2.flatMap (eK .u32)), .fr F5]) (fun z=>k5 (z.1,z.2)=some r) ?_ ?_
   ·have hq:=zdF hk;clear hk;obtain ⟨f8,kk8,hf8,hkk8,hk⟩:=hq;refine q3Y ?_;refine T.loop (ι:=Nat×List Int×List Int) (fun z=>[(8, .int .i64 (y.length:Int)),(9, .int .i64 r41),(10,(gd v44_0_0 0 y.length 1)),(11,v49_0_0),(12,v55),(13, .int .i64 ((z.1:Int) - 1))]) (fun z=>[.sl v49_0_0 175 1 z.2.1.length (z.2.1.flatMap (eK .u32)), .sl v55 175 1 z.2.2.length (z.2.2.flatMap (eK .u32)), .fr F5]) (fun z=>gz f8 kk8 z.1 (z.2.1,z.2.2)=some r∧z.1≤(List.replicate ((((x_.length:Int) - (y.length:Int))+1).toNat) (0:Int)).length) (fun z=>z.1) ((List.replicate ((((x_.length:Int) - (y.length:Int))+1).toNat) (0:Int)).length,r49,(List.replicate ((((x_.length:Int) - (y.length:Int))+1).toNat) (0:Int))) ?_ ?_ ?_ ?_
    ·exact ⟨hk,(Nat.le_refl _)⟩
    ·exact lZ
    ·exact eG
    ·rintro ⟨j_9,l_6,l_7⟩ ⟨hk,hle8⟩; (try dsimp only at *);refine lT ?_;refine T.cond rfl (fun h10=>?_) (fun h10=>?_)
     ·have p10:=of_decide_eq_true h10;obtain ⟨j_9',rfl⟩:∃q,j_9=q+1:=⟨j_9 - 1,by omega⟩;replace hk:f8 j_9' (gz f8 kk8 j_9') (l_6,l_7)=some r:=hk;generalize hn8:gz f8 kk8 j_9'=next8 at hk;rw [←hf8] at hk; (try dsimp only at hk);refine kX (gs:=[(8, .int .i64 (y.length:Int)),(9, .int .i64 r41),(10,(gd v44_0_0 0 y.length 1)),(11,v49_0_0),(12,v55),(13, .int .i64 (j_9':Int))]) (by repeat (first|exact Sub.nil|refine Sub.cons rfl ?_|refine fc rfl a7 ?_|refine e7 rfl cQ ?_)) (List.Sublist.refl _) ?_;refine T.skip (K.seq (T.seq (T.block ?_)));have hq:(0≤wI ((wI ((j_9':Int)+(y.length:Int)))+1)∧wI ((wI ((j_9':Int)+(y.length:Int)))+1)≤(l_6.length:Int))∧_:=dB hk;clear hk;obtain ⟨g71h,hk⟩:=hq;have hq:(0≤(j_9':Int)∧(j_9':Int)≤(wI ((wI ((j_9':Int)+(y.length:Int)))+1):Int))∧_:=dB hk;clear hk;obtain ⟨g71l,hk⟩:=hq;have hq:(j_9'<((wI ((wI ((j_9':Int)+(y.length:Int)))+1)).toNat))∧_:=dB hk;clear hk;obtain ⟨g71w,hk⟩:=hq;have hq:=dw hk;clear hk;obtain ⟨r73,hr73,hk⟩:=hq;have hq:(0≤(j_9':Int)∧(j_9':Int)<(l_7.length:Int))∧_:=dB hk;clear hk;obtain ⟨g74,hk⟩:=hq; (try dsimp only at hk);refine gy ?_;refine TL.run 6 rfl ?_;refine cS (dh (v:= .int .i64 (wI ((j_9':Int)+(y.length:Int))))) ?_;refine cS (dh (v:= .int .i64 (wI ((wI ((j_9':Int)+(y.length:Int)))+1)))) ?_;refine cS (Yv.cJ 0 (l:=j_9') (i:=(wI ((wI ((j_9':Int)+(y.length:Int)))+1)).toNat) rfl rfl rfl rfl rfl rfl a7 a7 a7) ?_;refine dy ?_;refine cX (dI [0,2,1] [.sl v49_0_0 175 1 l_6.length (l_6.flatMap (eK .u32))] [.sl v55 175 1 l_7.length (l_7.flatMap (eK .u32))] rfl rfl rfl rfl a8 (fun w hw hw2 hF=>zgf _ w hF l_6 v49_0_0 hw2.takes.1 hw2.takes.2 j_9' ((wI ((wI ((j_9':Int)+(y.length:Int)))+1)).toNat) (((wI ((wI ((j_9':Int)+(y.length:Int)))+1)).toNat) - j_9') a7 a7 a7 (r44.take y.length) (gd v44_0_0 0 y.length 1) hs46_ fuel r73 hr73)) ?_;rintro _ _ ⟨⟨⟩, -,rfl,rfl⟩;refine ft ?_;refine cS (dL 2 (i:=j_9') rfl rfl rfl rfl rfl a7) ?_;refine dM (ez 2 (k':=(l_7.set j_9' r73.1).length) (l':=(l_7.set j_9' r73.1).flatMap (eK .u32)) rfl rfl rfl rfl a7 (ik (enc:=(eK .u32)) (xs:=l_7) (i:=j_9') (j:=0) (size:=1) (fun _=>rfl) a7 a8 a7) (ij (enc:=(eK .u32)) (xs:=l_7) (i:=j_9') (j:=0) (size:=1) (x:=r73.1) (fun _=>rfl) a7 a8 a7 rfl) (List.length_set ..)) ?_;refine ee ?_;refine TL.nil (fA (K.seq (T.region ?_)));refine q2q ?_;rw [←hn8] at hk;refine q2y ?_;exact K.next (j_9',(l_6.take j_9'++r73.2++l_6.drop (j_9'+(((wI ((wI ((j_9':Int)+(y.length:Int)))+1)).toNat) - j_9'))),(l_7.set j_9' r73.1)) ⟨hk,b5⟩ b5 (.c (.c (.c (.c (.c (.c .nil)))))) (List.Sublist.refl _)
     ·have p10:=of_decide_eq_false h10;obtain rfl:j_9=0:=a7;replace hk:kk8 (l_6,l_7)=some r:=hk;rw [←hkk8] at hk; (try dsimp only at hk);refine eN ?_;exact cY (l_6,l_7) hk (.c (.c (.c (.c .nil)))) (List.Sublist.refl _)
   ·rintro ⟨l_3,l_4⟩ hk; (try dsimp only at *);rw [←hk5] at hk; (try dsimp only at hk);refine T.seq ?_;refine jK (fun w hw=>hw.freezeS (i:=2) (j:=1) a8 rfl rfl) ?_;rintro F6 ⟨le5_6,hz6⟩;refine fI ?_;have le1_6:=le1_5.trans le5_6;have hfF6:=hz6.toF rfl (fun _=>rfl);haveI:=hfF6.oneC;refine q1B ?_;rintro F7 ⟨le6_7,hz7⟩;refine fI ?_;have le1_7:=le1_6.trans le6_7;have hfF7:=hz7.toF rfl (fun _=>rfl);haveI:=hfF7.oneC;have hq:=dw hk;clear hk;obtain ⟨r76,hr76,hk⟩:=hq;have hq:(0≤(y.length:Int)∧(y.length:Int)≤(l_3.length:Int))∧_:=dB hk;clear hk;obtain ⟨g79h,hk⟩:=hq;have hq:=dw hk;clear hk;obtain ⟨r81,hr81,hk⟩:=hq;have hq:=dw hk;clear hk;obtain ⟨r82,hr82,hk⟩:=hq; (try dsimp only at hk);refine dS (.still 0 (sN 2 4 (.eff 1 (.eff 6 (.eff 7 (.still 8 (.still 9 .done))))))) _ b0 (List.Sublist.refl _) ?_;refine gI ?_;refine cU rfl (lg (i:=y.length) rfl rfl rfl hfF7 (List.length_map _) rfl a7) ?_;have hs79_:SlC F7.toFrz (gd v49_0_0 0 y.length 1) 1 ((l_3.take y.length).map (eK .u32)):=hfF7.sliceh (i:=y.length) a7;haveI:=hs79_.oneC;refine fS ?_;refine dN ?_;refine dc rfl (cT) rfl rfl (dl 0 rfl rfl rfl rfl (fun w hw hF=>zcn _ w hF l_4 v55 (SlC.mono hfF6 le6_7) fuel r76 hr76)) ?_;rintro _ _ ⟨v76_0_0,F8,le7_8,hf76_0_0,hq,rfl⟩;obtain rfl:=hq.symm;have le1_8:=le1_7.trans le7_8;haveI:=hf76_0_0.oneC;refine ⟨(fun w hw=>(hw.frLe (i:=0) rfl le7_8).sub Sx),?_⟩;refine dN ?_;refine dc rfl (cT) rfl rfl (dl 0 rfl rfl rfl rfl (fun w hw hF=>zfn _ w hF (l_3.take y.length) (gd v49_0_0 0 y.length 1) (SlC.mono hs79_ le7_8) r41 r81 hr81)) ?_;rintro _ _ ⟨v81_0_0,F9,le8_9,hf81_0_0,hq,rfl⟩;obtain rfl:=hq.symm;have le1_9:=le1_8.trans le8_9;have le7_9:=le7_8.trans le8_9;haveI:=hf81_0_0.oneC;refine ⟨(fun w hw=>(hw.frLe (i:=0) rfl le7_9).sub Sx),?_⟩;refine dN ?_;refine dc rfl (cT) rfl rfl (dl 0 rfl rfl rfl rfl (fun w hw hF=>zcn _ w hF r81 v81_0_0 hf81_0_0 fuel r82 hr82)) ?_;rintro _ _ ⟨v82_0_0,F10,le9_10,hf82_0_0,hq,rfl⟩;obtain rfl:=hq.symm;have le1_10:=le1_9.trans le9_10;have le7_10:=le7_9.trans le9_10;have le8_10:=le8_9.trans le9_10;haveI:=hf82_0_0.oneC;refine ⟨(fun w hw=>(hw.frLe (i:=0) rfl le7_10).sub Sx),?_⟩;refine lL ?_;refine K.seq (T.ret ?_);obtain rfl:=Option.some.inj hk;exact fh rfl rfl rfl (fun w' hw=>⟨(v76_0_0,v82_0_0),F10.toFrz,⟨(SlC.mono hf76_0_0 le8_10),hf82_0_0⟩,rfl,dU hw (i:=0) rfl hS0 le1_10⟩)
def zbi (x_:List Int):Option Int:=
 (bif decide ((x_.length:Int)=0) then
 some 0
 else
 dj (0≤((x_.length:Int) - 1)∧((x_.length:Int) - 1)<(x_.length:Int)) <|
 (zce (nth x_ (((x_.length:Int) - 1).toNat))).bind fun r16=>
 some (wI ((wI (32* ((x_.length:Int) - 1)))+r16)))
theorem zcR (F0:Frz)(w:World)(hF0:F0.At w)(x_:List Int)(vx_:Value)(hx_:SlC F0 vx_ 1 (x_.map (eK .u32)))(r:Int)(hr:zbi x_=some r):Calls Tryz.prog 198 #[vx_] w fun e w'=>e= .returned (.int .i64 r)∧Below w.heap.size w w':=by
 have hk:=hr;unfold zbi at hk;haveI:=hx_.oneC;obtain ⟨S0,F1,rfl,hS0,hp0⟩:=eo hF0;refine dQ Tryz.func198 rfl rfl rfl hp0 ?_;refine jQ ?_;refine kf ?_;have hm4:x_.length≤9223372036854775807:=(List.length_map _)▸hx_.max;refine dZ ?_;refine T.cond rfl (fun h1=>?_) (fun h1=>?_)
 ·have p1:=of_decide_eq_true h1;replace hk:=dr hk h1;refine iQ ?_;obtain rfl:=Option.some.inj hk;exact d8
 ·have p1:=of_decide_eq_false h1;replace hk:=dt hk h1;refine fN ?_;have hq:(0≤((x_.length:Int) - 1)∧((x_.length:Int) - 1)<(x_.length:Int))∧_:=dB hk;clear hk;obtain ⟨g14,hk⟩:=hq;have hq:=dw hk;clear hk;obtain ⟨r16,hr16,hk⟩:=hq; (try dsimp only at hk);refine ef ?_;refine kf ?_;refine jL ?_;refine cS (dh (v:= .int .i64 (wI (32* ((x_.length:Int) - 1))))) ?_;refine ek ?_;refine kf ?_;refine jL ?_;refine cS (df (i:=((x_.length:Int) - 1).toNat) rfl rfl rfl hx_ (List.length_map _) a7 a7) ?_;refine cS (dD 0 (i:=((x_.length:Int) - 1).toNat) (j:=0) rfl rfl rfl hx_ a7) ?_;refine cX (de rfl rfl rfl (fun w hw=>zeD _ w (hw.fr (i:=0) rfl) (nth x_ (((x_.length:Int) - 1).toNat)) r16 hr16)) ?_;refine ee ?_;refine cS (dh (v:= .int .i64 (wI ((wI (32* ((x_.length:Int) - 1)))+r16)))) ?_;refine iw ?_;obtain rfl:=Option.some.inj hk;exact d8
def zbw (x_:List Int):Option (List Int):=
 (zbi x_).bind fun r7=>
 dj (0≤wI (r7+7)∧wI (r7+7)≤9223372036854775807∧1≤(8:Int)) <|
 (bif decide (((wI (r7+7)) / 8)=0) then
 some []
 else
 dj (0≤((wI (r7+7)) / 8)) <|
 dj (dm (((wI (r7+7)) / 8).toNat) 1) <|
 dF (fun (l_2:List Int)=>
 some l_2)
 (fun k3=>
 dq (fun (i_6:Nat) (next5:List Int→Option (List Int)) (l_4:List Int)=>
 dj (0≤(i_6:Int)∧(i_6:Int)≤9223372036854775807∧1≤(4:Int)) <|
 dj (0≤((i_6:Int) / 4)∧((i_6:Int) / 4)<(x_.length:Int)) <|
 dj (0≤(i_6:Int)∧1≤(4:Int)) <|
 dj (0≤wI (8* ((i_6:Int) % 4))) <|
 dj (0≤wI ((wI (((wI (r7+7)) / 8) - 1)) - (i_6:Int))∧wI ((wI (((wI (r7+7)) / 8) - 1)) - (i_6:Int))<(l_4.length:Int)) <|
 next5 (l_4.set ((wI ((wI (((wI (r7+7)) / 8) - 1)) - (i_6:Int))).toNat) (IntKind.u8.wrap (shrK .u32 (nth x_ (((i_6:Int) / 4).toNat)) (wI (8* ((i_6:Int) % 4)))))))
 (fun (l_4:List Int)=>
 k3 l_4) (((List.replicate (((wI (r7+7)) / 8).toNat) (0:Int)).length) - 0) 0 (List.replicate (((wI (r7+7)) / 8).toNat) (0:Int))))
theorem zcG (F0:Frz)(w:World)(hF0:F0.At w)(x_:List Int)(vx_:Value)(hx_:SlC F0 vx_ 1 (x_.map (eK .u32)))(r:List Int)(hr:zbw x_=some r):Calls Tryz.prog 199 #[vx_] w fun e w'=>∃(y:Value) (G:Frz),(SlC G y 1 (r.map (eK .u8)))∧e= .returned (y)∧Fx F0 w G w':=by
 have hk:=hr;unfold zbw at hk;haveI:=hx_.oneC;obtain ⟨S0,F1,rfl,hS0,hp0⟩:=eo hF0;refine dQ Tryz.func199 rfl rfl rfl hp0 ?_;refine eW ?_;have hq:=dw hk;clear hk;obtain ⟨r7,hr7,hk⟩:=hq;have hq:(0≤wI (r7+7)∧wI (r7+7)≤9223372036854775807∧1≤(8:Int))∧_:=dB hk;clear hk;obtain ⟨g9,hk⟩:=hq; (try dsimp only at hk);refine ef ?_;refine cX (de rfl rfl rfl (fun w hw=>zcR _ w (hw.fr (i:=0) rfl) x_ vx_ hx_ r7 hr7)) ?_;refine ee ?_;refine cS (dh (v:= .int .i64 (wI (r7+7)))) ?_;refine cS (gc (a:=wI (r7+7)) (b:=(8:Int)) rfl rfl rfl g9) ?_;refine q3W ?_;refine T.cond rfl (fun h1=>?_) (fun h1=>?_)
 ·have p1:=of_decide_eq_true h1;replace hk:=dr hk h1;refine iQ ?_;obtain rfl:=Option.some.inj hk;exact eQ rfl rfl (fun w' hw=>⟨(.slice none 0 0),F1.toFrz,(SlC.nil _ 1),rfl,dU hw (i:=0) rfl hS0 (Frz.Le.refl _)⟩)
 ·have p1:=of_decide_eq_false h1;replace hk:=dt hk h1;refine fN ?_;have hq:(0≤((wI (r7+7)) / 8))∧_:=dB hk;clear hk;obtain ⟨g13n,hk⟩:=hq;have hq:(dm (((wI (r7+7)) / 8).toNat) 1)∧_:=dB hk;clear hk;obtain ⟨g13,hk⟩:=hq; (try dsimp only at hk);refine ef ?_;refine cX (fZ (n':=(((wI (r7+7)) / 8).toNat)) (enc:=(eK .u8)) (u:=(0:Int)) rfl rfl rfl a7 g13 a8 a8 (fun _=>rfl) rfl) ?_;rintro v13 _ ⟨hv13,rfl⟩;refine km ?_;intro iv13 hmv13;refine li ?_;refine cS (gw 0 rfl rfl rfl) ?_;refine dZ ?_;have hq:=d7 hk;clear hk;obtain ⟨k3,hk3,hk⟩:=hq; (try dsimp only at hk);refine c9 (ι:=List Int) (fun z=>[(4,v13)]) (fun z=>[.sl v13 5 1 z.length (z.flatMap (eK .u8)), .fr F1]) (fun z=>k3 z=some r) ?_ ?_
  ·have hq:=fJ hk;clear hk;obtain ⟨f5,kk5,hf5,hkk5,hk⟩:=hq;refine eH ?_;refine T.loop (ι:=Nat×List Int) (fun z=>[(0,vx_),(3, .int .i64 ((wI (r7+7)) / 8)),(4,v13),(15, .int .i64 ((List.replicate (((wI (r7+7)) / 8).toNat) (0:Int)).length:Int)),(16, .int .i64 (z.1:Int))]) (fun z=>[.sl v13 5 1 z.2.length (z.2.flatMap (eK .u8)), .fr F1]) (fun z=>dq f5 kk5 (((List.replicate (((wI (r7+7)) / 8).toNat) (0:Int)).length) - z.1) z.1 z.2=some r) (fun z=>((List.replicate (((wI (r7+7)) / 8).toNat) (0:Int)).length) - z.1) (0,(List.replicate (((wI (r7+7)) / 8).toNat) (0:Int))) ?_ ?_ ?_ ?_
   ·exact hk
   ·exact kn
   ·exact eG
   ·rintro ⟨i_6,l_4⟩ hk; (try dsimp only at *);refine eW ?_;refine T.cond rfl (fun h7=>?_) (fun h7=>?_)
    ·have p7:=of_decide_eq_true h7;rw [fF a7] at hk;generalize hn5:dq f5 kk5 (((List.replicate (((wI (r7+7)) / 8).toNat) (0:Int)).length) - (i_6+1)) (i_6+1)=next5 at hk;rw [←hf5] at hk; (try dsimp only at hk);refine j1 ?_;refine kz ?_;have hq:(0≤(i_6:Int)∧(i_6:Int)≤9223372036854775807∧1≤(4:Int))∧_:=dB hk;clear hk;obtain ⟨g26,hk⟩:=hq;have hq:(0≤((i_6:Int) / 4)∧((i_6:Int) / 4)<(x_.length:Int))∧_:=dB hk;clear hk;obtain ⟨g27,hk⟩:=hq;have hq:(0≤(i_6:Int)∧1≤(4:Int))∧_:=dB hk;clear hk;obtain ⟨g30,hk⟩:=hq;have hq:(0≤wI (8* ((i_6:Int) % 4)))∧_:=dB hk;clear hk;obtain ⟨g32,hk⟩:=hq;have hq:(0≤wI ((wI (((wI (r7+7)) / 8) - 1)) - (i_6:Int))∧wI ((wI (((wI (r7+7)) / 8) - 1)) - (i_6:Int))<(l_4.length:Int))∧_:=dB hk;clear hk;obtain ⟨g34,hk⟩:=hq; (try dsimp only at hk);refine eO ?_;refine cS (dh (v:= .int .i64 (wI (((wI (r7+7)) / 8) - 1)))) ?_;refine dy ?_;refine cS (dh (v:= .int .i64 (wI ((wI (((wI (r7+7)) / 8) - 1)) - (i_6:Int))))) ?_;refine ek ?_;refine cS (gc (a:=(i_6:Int)) (b:=(4:Int)) rfl rfl rfl g26) ?_;refine cS (df (i:=((i_6:Int) / 4).toNat) rfl rfl rfl hx_ (List.length_map _) a7 a7) ?_;refine cS (dD 1 (i:=((i_6:Int) / 4).toNat) (j:=0) rfl rfl rfl hx_ a7) ?_;refine dy ?_;refine cS (jF (a:=(i_6:Int)) (b:=(4:Int)) rfl rfl rfl g30) ?_;refine cS (dh (v:= .int .i64 (wI (8* ((i_6:Int) % 4))))) ?_;refine cS (Yv.shrK (a:=(nth x_ (((i_6:Int) / 4).toNat))) (b:=wI (8* ((i_6:Int) % 4))) rfl rfl rfl g32) ?_;refine cS (dV (z:=(shrK .u32 (nth x_ (((i_6:Int) / 4).toNat)) (wI (8* ((i_6:Int) % 4)))))) ?_;refine cS (dL 0 (i:=(wI ((wI (((wI (r7+7)) / 8) - 1)) - (i_6:Int))).toNat) (z:=wI ((wI (((wI (r7+7)) / 8) - 1)) - (i_6:Int))) rfl rfl rfl rfl a7 a7) ?_;refine dM (ez 0 (k':=(l_4.set ((wI ((wI (((wI (r7+7)) / 8) - 1)) - (i_6:Int))).toNat) (IntKind.u8.wrap (shrK .u32 (nth x_ (((i_6:Int) / 4).toNat)) (wI (8* ((i_6:Int) % 4)))))).length) (l':=(l_4.set ((wI ((wI (((wI (r7+7)) / 8) - 1)) - (i_6:Int))).toNat) (IntKind.u8.wrap (shrK .u32 (nth x_ (((i_6:Int) / 4).toNat)) (wI (8* ((i_6:Int) % 4)))))).flatMap (eK .u8)) rfl rfl rfl rfl a7 (ik (enc:=(eK .u8)) (xs:=l_4) (i:=(wI ((wI (((wI (r7+7)) / 8) - 1)) - (i_6:Int))).toNat) (j:=0) (size:=1) (fun _=>rfl) a7 a8 b8) (ij (enc:=(eK .u8)) (xs:=l_4) (i:=(wI ((wI (((wI (r7+7)) / 8) - 1)) - (i_6:Int))).toNat) (j:=0) (size:=1) (x:=(IntKind.u8.wrap (shrK .u32 (nth x_ (((i_6:Int) / 4).toNat)) (wI (8* ((i_6:Int) % 4)))))) (fun _=>rfl) a7 a8 b8 rfl) (List.length_set ..)) ?_;refine ee ?_;refine jg ?_;rw [←hn5] at hk;exact K.next ((i_6+1),(l_4.set ((wI ((wI (((wI (r7+7)) / 8) - 1)) - (i_6:Int))).toNat) (IntKind.u8.wrap (shrK .u32 (nth x_ (((i_6:Int) / 4).toNat)) (wI (8* ((i_6:Int) % 4))))))) hk b5 (.c (.c (.c (.c (.c .nil))))) (List.Sublist.refl _)
    ·have p7:=of_decide_eq_false h7;rw [fH a7,←hkk5] at hk; (try dsimp only at hk);refine eN ?_;exact q4q
  ·rintro l_2 hk;rw [←hk3] at hk; (try dsimp only at hk);refine gO ?_;refine q2x ?_;rintro F2 ⟨le1_2,hz2⟩;refine fI ?_;have hfF2:=hz2.toF rfl (fun _=>rfl);haveI:=hfF2.oneC;obtain rfl:=Option.some.inj hk;exact eQ rfl rfl (fun w' hw=>⟨v13,F2.toFrz,hfF2,rfl,dU hw (i:=0) rfl hS0 le1_2⟩)
def zb1 (neg:Bool)(x_:List Int):Option (GInt×Int):=
 (zbi x_).bind fun r7=>
 (bif decide (512<r7) then
 some ((GInt.mk false []),7)
 else
 (zbw x_).bind fun r17=>
 some ((GInt.mk (neg&&(decide (0<(x_.length:Int)))) r17),0))
theorem zdK (F0:Frz)(w:World)(hF0:F0.At w)(neg:Bool)(x_:List Int)(vx_:Value)(hx_:SlC F0 vx_ 1 (x_.map (eK .u32)))(r:GInt×Int)(hr:zb1 neg x_=some r):Calls Tryz.prog 126 #[.bool neg,vx_] w fun e w'=>∃(y:Value) (G:Frz),(SlC G y 1 (r.1.Digits.map (eK .u8)))∧e= .returned (.tuple #[.agg [.bool r.1.Neg,y].toArray, .int .i64 r.2])∧Fx F0 w G w':=by
 have hk:=hr;unfold zb1 at hk;haveI:=hx_.oneC;obtain ⟨S0,F1,rfl,hS0,hp0⟩:=eo hF0;refine dQ Tryz.func126 rfl rfl rfl hp0 ?_;refine dY ?_;refine fW ?_;rintro _ _ ⟨g4,rfl,rfl⟩;refine kC ?_;have hq:=dw hk;clear hk;obtain ⟨r7,hr7,hk⟩:=hq; (try dsimp only at hk);refine ef ?_;refine cX (de rfl rfl rfl (fun w hw=>zcR _ w (hw.fr (i:=1) rfl) x_ vx_ hx_ r7 hr7)) ?_;refine mw ?_;refine T.cond rfl (fun h1=>?_) (fun h1=>?_)
 ·have p1:=of_decide_eq_true h1;replace hk:=dr hk h1;refine q3G ?_;refine gg ?_;refine lw ?_;obtain rfl:=Option.some.inj hk;exact iE 0 rfl rfl rfl rfl rfl (fun w' hw=>⟨(.slice none 0 0),F1.toFrz,(SlC.nil _ 1),rfl,dU hw (i:=1) rfl hS0 (Frz.Le.refl _)⟩)
 ·have p1:=of_decide_eq_false h1;replace hk:=dt hk h1;refine fN ?_;have hq:=dw hk;clear hk;obtain ⟨r17,hr17,hk⟩:=hq; (try dsimp only at hk);refine c9 (ι:=Value×FzB w (fun _=>False) S0) (fun z=>[(4, .pointer (some ⟨g4,0,none⟩)),(5, .int .i64 0)]) (fun z=>[.row g4 26 [.bool (neg&&(decide (0<(x_.length:Int)))),z.1], .fr z.2]) (fun z=>SlC z.2.toFrz z.1 1 (r17.map (eK .u8))∧F1.toFrz.Le z.2.toFrz) ?_ ?_
  ·refine eO ?_;refine dg rfl rfl rfl (fun h3=>?_) (fun h3=>?_)
   ·refine dy ?_;refine kf ?_;have hm13:x_.length≤9223372036854775807:=(List.length_map _)▸hx_.max;refine fP ?_;refine cX (dl 1 rfl rfl rfl rfl (fun w hw hF=>zcG _ w hF x_ vx_ hx_ r17 hr17)) ?_;rintro _ _ ⟨v17_0_0,F3,le1_3,hf17_0_0,hq,rfl⟩;obtain rfl:=hq.symm;haveI:=hf17_0_0.oneC;refine jE ?_;refine gg ?_;refine jv ?_;refine K.bN (hs':=[.row g4 26 [.bool (neg&&(decide (0<(x_.length:Int)))),v17_0_0], .fr F3]) (by rw [show ((neg&&(decide (0<(x_.length:Int)))))=decide (0<(x_.length:Int)) from (by first|exact (kg h3)|exact ((kg h3)).symm)]) ?_;exact cY (v17_0_0,F3) ⟨hf17_0_0,le1_3⟩ (.c (.c .nil)) (List.Sublist.refl _)
   ·refine io ?_;refine cX (dl 1 rfl rfl rfl rfl (fun w hw hF=>zcG _ w hF x_ vx_ hx_ r17 hr17)) ?_;rintro _ _ ⟨v17_0_0,F4,le1_4,hf17_0_0,hq,rfl⟩;obtain rfl:=hq.symm;haveI:=hf17_0_0.oneC;refine jE ?_;refine gg ?_;refine jv ?_;refine K.bN (hs':=[.row g4 26 [.bool (neg&&(decide (0<(x_.length:Int)))),v17_0_0], .fr F4]) (by rw [show ((neg&&(decide (0<(x_.length:Int)))))=false from (by first|exact (iL h3).symm|exact ((iL h3).symm).symm)]) ?_;exact cY (v17_0_0,F4) ⟨hf17_0_0,le1_4⟩ (.c (.c .nil)) (List.Sublist.refl _)
  ·rintro ⟨vc1_1_2,F2⟩ ⟨hc1_1_2,le1_2⟩; (try dsimp only at *);have hm13:x_.length≤9223372036854775807:=(List.length_map _)▸hx_.max;haveI:=hc1_1_2.oneC;refine T.ret ?_;obtain rfl:=Option.some.inj hk;exact iE 0 rfl rfl rfl rfl rfl (fun w' hw=>⟨vc1_1_2,F2.toFrz,hc1_1_2,rfl,dU hw (i:=1) rfl hS0 le1_2⟩)
def zcW (fuel:Nat)(a:GInt)(b:GInt):Option (GInt×Int):=
 (lk a).bind fun r11=>
 dF (fun (x_1:Bool)=>
 (bif x_1 then
 some ((GInt.mk false []),2)
 else
 (zbL fuel a.Digits).bind fun r21=>
 (zbL fuel b.Digits).bind fun r24=>
 dF (fun (x_5:List Int)=>
 (zb1 false x_5).bind fun r37=>
 some (r37.1,r37.2))
 (fun k6=>
 eS (fun (next9:(List Int×List Int)→Option (GInt×Int)) (s9:List Int×List Int)=>
 (bif decide (0<(s9.2.length:Int)) then
 (zcz fuel s9.1 s9.2).bind fun r31=>
 next9 (s9.2,r31.2)
 else
 k6 s9.1)) fuel (r21,r24))))
 (fun k2=>
 (bif !r11 then
 k2 true
 else
 (lk b).bind fun r15=>
 k2 (!r15)))
theorem zhJ (F0:Frz)(w:World)(hF0:F0.At w)(a:GInt)(va_1:Value)(ha_1:SlC F0 va_1 1 (a.Digits.map (eK .u8)))(b:GInt)(vb_1:Value)(hb_1:SlC F0 vb_1 1 (b.Digits.map (eK .u8)))(fuel:Nat)(r:GInt×Int)(hr:zcW fuel a b=some r):Calls Tryz.prog 122 #[.agg [.bool a.Neg,va_1].toArray, .agg [.bool b.Neg,vb_1].toArray] w fun e w'=>∃(y:Value) (G:Frz),(SlC G y 1 (r.1.Digits.map (eK .u8)))∧e= .returned (.tuple #[.agg [.bool r.1.Neg,y].toArray, .int .i64 r.2])∧Fx F0 w G w':=by
 have hk:=hr;unfold zcW at hk;haveI:=ha_1.oneC;haveI:=hb_1.oneC;obtain ⟨S0,F1,rfl,hS0,hp0⟩:=eo hF0;refine dQ Tryz.func122 rfl rfl rfl hp0 ?_;refine iA ?_;rintro _ _ ⟨g2,rfl,rfl⟩;refine q3F ?_;rintro _ _ ⟨g3,rfl,rfl⟩;refine fW ?_;rintro _ _ ⟨g4,rfl,rfl⟩;refine kC ?_;have hq:=dw hk;clear hk;obtain ⟨r11,hr11,hk⟩:=hq; (try dsimp only at hk);have hq:=d7 hk;clear hk;obtain ⟨k2,hk2,hk⟩:=hq; (try dsimp only at hk);refine c9 (ι:=Bool) (fun z=>[(2, .pointer (some ⟨g2,0,none⟩)),(3, .pointer (some ⟨g3,0,none⟩)),(4, .pointer (some ⟨g4,0,none⟩)),(17, .bool z)]) (fun z=>[.row g4 26 [.bool false,(.slice none 0 0)], .row g3 26 [.bool b.Neg,vb_1], .row g2 26 [.bool a.Neg,va_1], .fr F1]) (fun z=>k2 z=some r) ?_ ?_
 ·refine gy ?_;refine cS (fg 2) ?_;refine cX (de rfl rfl rfl (fun w hw=>zcc _ w (hw.fr (i:=3) rfl) a va_1 ha_1 r11 hr11)) ?_;refine jN ?_;refine dg rfl rfl rfl (fun h3=>?_) (fun h3=>?_)
  ·replace hk:=dr hk h3;refine jH ?_;exact cY true hk (.c (.c (.c (.c .nil)))) (List.Sublist.refl _)
  ·replace hk:=dt hk h3;refine q2g ?_;have hq:=dw hk;clear hk;obtain ⟨r15,hr15,hk⟩:=hq;refine cX (de rfl rfl rfl (fun w hw=>zcc _ w (hw.fr (i:=3) rfl) b vb_1 hb_1 r15 hr15)) ?_;refine kZ ?_;exact cY (!r15) hk (.c (.c (.c (.c .nil)))) (List.Sublist.refl _)
 ·rintro x_1 hk;rw [←hk2] at hk; (try dsimp only at hk);refine T.cond rfl (fun h4=>?_) (fun h4=>?_)
  ·replace hk:=dr hk h4;refine q3G ?_;refine gg ?_;refine lw ?_;obtain rfl:=Option.some.inj hk;exact iE 0 rfl rfl rfl rfl rfl (fun w' hw=>⟨(.slice none 0 0),F1.toFrz,(SlC.nil _ 1),rfl,dU hw (i:=3) rfl hS0 (Frz.Le.refl _)⟩)
  ·replace hk:=dt hk h4;refine fN ?_;have hq:=dw hk;clear hk;obtain ⟨r21,hr21,hk⟩:=hq;have hq:=dw hk;clear hk;obtain ⟨r24,hr24,hk⟩:=hq; (try dsimp only at hk);refine dS (sN 0 2 (sN 3 2 (.eff 2 (.eff 5 (.still 6 (.still 7 .done)))))) _ b0 (List.Sublist.refl _) ?_;refine q2a ?_;refine jw ?_;refine dN ?_;refine dc rfl (cT) rfl rfl (dl 3 rfl rfl rfl rfl (fun w hw hF=>zcP _ w hF a.Digits va_1 ha_1 fuel r21 hr21)) ?_;rintro _ _ ⟨v21_0_0,F2,le1_2,hf21_0_0,hq,rfl⟩;obtain rfl:=hq.symm;haveI:=hf21_0_0.oneC;refine ⟨(fun w hw=>(hw.frLe (i:=3) rfl le1_2).sub Sx),?_⟩;refine dN ?_;refine dc rfl (cT) rfl rfl (dl 3 rfl rfl rfl rfl (fun w hw hF=>zcP _ w hF b.Digits vb_1 (SlC.mono hb_1 le1_2) fuel r24 hr24)) ?_;rintro _ _ ⟨v24_0_0,F3,le2_3,hf24_0_0,hq,rfl⟩;obtain rfl:=hq.symm;have le1_3:=le1_2.trans le2_3;haveI:=hf24_0_0.oneC;refine ⟨(fun w hw=>(hw.frLe (i:=3) rfl le1_3).sub Sx),?_⟩;refine fe ?_;refine ma ?_;have hq:=d7 hk;clear hk;obtain ⟨k6,hk6,hk⟩:=hq; (try dsimp only at hk);refine c9 (ι:=List Int×Value×FzB w (fun _=>False) S0) (fun z=>[(4, .pointer (some ⟨g4,0,none⟩)),(6,z.2.1)]) (fun z=>[.row g4 26 [.bool false,(.slice none 0 0)], .fr z.2.2]) (fun z=>k6 z.1=some r∧SlC z.2.2.toFrz z.2.1 1 (z.1.map (eK .u32))∧F3.toFrz.Le z.2.2.toFrz) ?_ ?_
   ·have hq:=kF hk;clear hk;obtain ⟨f9,hf9,hk⟩:=hq;refine eH ?_;refine T.pick [0,3] rfl a8 ?_;refine T.loop (ι:=Nat×List Int×Value×List Int×Value×FzB w (fun _=>False) S0) (fun z=>[(4, .pointer (some ⟨g4,0,none⟩)),(6,z.2.2.1),(7,z.2.2.2.2.1)]) (fun z=>[.row g4 26 [.bool false,(.slice none 0 0)], .fr z.2.2.2.2.2]) (fun z=>eS f9 z.1 (z.2.1,z.2.2.2.1)=some r∧SlC z.2.2.2.2.2.toFrz z.2.2.1 1 (z.2.1.map (eK .u32))∧SlC z.2.2.2.2.2.toFrz z.2.2.2.2.1 1 (z.2.2.2.1.map (eK .u32))∧F3.toFrz.Le z.2.2.2.2.2.toFrz) (fun z=>z.1) (fuel,r21,v21_0_0,r24,v24_0_0,F3) ?_ ?_ ?_ ?_
    ·exact ⟨hk,(SlC.mono hf21_0_0 le2_3),hf24_0_0,(Frz.Le.refl _)⟩
    ·exact mx
    ·exact eG
    ·rintro ⟨m_10,x_7,vx_7,y_8,vy_8,F5⟩ ⟨hk,hx_7,hy_8,le3_5⟩; (try dsimp only at *);haveI:=hx_7.oneC;haveI:=hy_8.oneC;have hq:=kE hk;clear hk;obtain ⟨m_10',rfl,hk⟩:=hq;generalize hn9:eS f9 m_10'=next9 at hk;rw [←hf9] at hk; (try dsimp only at hk);refine iS ?_;refine dy ?_;refine cS (dk rfl rfl hy_8 (List.length_map _)) ?_;have hm26:y_8.length≤9223372036854775807:=(List.length_map _)▸hy_8.max;refine dZ ?_;refine T.cond rfl (fun h11=>?_) (fun h11=>?_)
     ·have p11:=of_decide_eq_true h11;replace hk:=dr hk h11;refine T.skip (K.seq (T.block (T.seq ?_)));have hq:=dw hk;clear hk;obtain ⟨r31,hr31,hk⟩:=hq; (try dsimp only at hk);refine eO ?_;refine cX (dl 1 rfl rfl rfl rfl (fun w hw hF=>zeZ _ w hF x_7 vx_7 hx_7 y_8 vy_8 hy_8 fuel r31 hr31)) ?_;rintro _ _ ⟨⟨v31_0_0,v31_1_0⟩,F6,le5_6,⟨hf31_0_0,hf31_1_0⟩,rfl,rfl⟩;dsimp only at hf31_0_0 hf31_1_0 ⊢;have le3_6:=le3_5.trans le5_6;haveI:=hf31_0_0.oneC;haveI:=hf31_1_0.oneC;refine io ?_;refine dz (T.region ?_);refine kJ ?_;refine TL.nil (fA ?_);rw [←hn9] at hk;exact K.next (m_10',y_8,vy_8,r31.2,v31_1_0,F6) ⟨hk,(SlC.mono hy_8 le5_6),hf31_1_0,le3_6⟩ b5 (.c (.c (.c .nil))) (List.Sublist.refl _)
     ·have p11:=of_decide_eq_false h11;replace hk:=dt hk h11;refine eN ?_;exact cY (x_7,vx_7,F5) ⟨hk,hx_7,le3_5⟩ (.c (.c .nil)) (List.Sublist.refl _)
   ·rintro ⟨x_5,vx_5,F4⟩ ⟨hk,hx_5,le3_4⟩; (try dsimp only at *);rw [←hk6] at hk; (try dsimp only at hk);have le1_4:=le1_3.trans le3_4;haveI:=hx_5.oneC;refine T.seq ?_;have hq:=dw hk;clear hk;obtain ⟨r37,hr37,hk⟩:=hq; (try dsimp only at hk);refine ef ?_;refine cX (dl 1 rfl rfl rfl rfl (fun w hw hF=>zdK _ w hF false x_5 vx_5 hx_5 r37 hr37)) ?_;rintro _ _ ⟨v37_0_1,F7,le4_7,hf37_0_1,rfl,rfl⟩;have le1_7:=le1_4.trans le4_7;haveI:=hf37_0_1.oneC;refine ek ?_;refine gg ?_;refine iw ?_;obtain rfl:=Option.some.inj hk;exact iE 0 rfl rfl rfl rfl rfl (fun w' hw=>⟨v37_0_1,F7.toFrz,hf37_0_1,rfl,dU hw (i:=1) rfl hS0 le1_7⟩)
def zdG (fuel:Nat)(n:Int):Option GInt:=
 dF (fun (u_1:BitVec 64)=>
 (j5 fuel [(IntKind.u32.wrap (u_1.toNat:Int)),(IntKind.u32.wrap ((u_1 >>> 32).toNat:Int))]).bind fun r21=>
 (zb1 (decide (n<0)) r21).bind fun r22=>
 some r22.1)
 (fun k2=>
 (bif decide (n<0) then
 k2 (-(BitVec.ofInt 64 n))
 else
 k2 (BitVec.ofInt 64 n)))
theorem zgr (F0:Frz)(w:World)(hF0:F0.At w)(n:Int)(fuel:Nat)(r:GInt)(hr:zdG fuel n=some r):Calls Tryz.prog 48 #[.int .i64 n] w fun e w'=>∃(y:Value) (G:Frz),(SlC G y 1 (r.Digits.map (eK .u8)))∧e= .returned (.agg [.bool r.Neg,y].toArray)∧Fx F0 w G w':=by
 have hk:=hr;unfold zdG at hk;obtain ⟨S0,F1,rfl,hS0,hp0⟩:=eo hF0;refine dQ Tryz.func48 rfl rfl rfl hp0 ?_;refine dY ?_;refine fW ?_;rintro _ _ ⟨g2,rfl,rfl⟩;refine i0 ?_;refine cS (ey (z:=n)) ?_;refine q3W ?_;have hq:=d7 hk;clear hk;obtain ⟨k2,hk2,hk⟩:=hq; (try dsimp only at hk);refine c9 (ι:=BitVec 64) (fun z=>[(0, .int .i64 n),(2, .pointer (some ⟨g2,0,none⟩)),(3,U z)]) (fun z=>[.row g2 26 [.bool false,(.slice none 0 0)], .fr F1]) (fun z=>k2 z=some r) ?_ ?_
 ·refine T.cond rfl (fun h3=>?_) (fun h3=>?_)
  ·have p3:=of_decide_eq_true h3;replace hk:=dr hk h3;refine ef ?_;refine cS (Yv.co rfl rfl) ?_;refine jv ?_;exact cY (-(BitVec.ofInt 64 n)) hk (.c (.c (.c .nil))) (List.Sublist.refl _)
  ·have p3:=of_decide_eq_false h3;replace hk:=dt hk h3;refine T.skip ?_;exact cY (BitVec.ofInt 64 n) hk (.c (.c (.c .nil))) (List.Sublist.refl _)
 ·rintro u_1 hk;rw [←hk2] at hk; (try dsimp only at hk);refine T.seq ?_;have hq:=dw hk;clear hk;obtain ⟨r21,hr21,hk⟩:=hq;have hq:=dw hk;clear hk;obtain ⟨r22,hr22,hk⟩:=hq; (try dsimp only at hk);refine ie ?_;refine cS (dV (z:=(u_1.toNat:Int))) ?_;refine dy ?_;refine cS (gU (a:=u_1) 32 rfl rfl rfl (show (32:Int)=((32:Nat):Int) from rfl) a7) ?_;refine cS (dV (z:=((u_1 >>> 32).toNat:Int))) ?_;refine iz ?_;rintro _ _ ⟨g20,rfl,rfl⟩;refine q1M ?_;rintro F2 ⟨le1_2,hz2⟩;refine fI ?_;have hfF2:SlC F2.toFrz (.slice (some ⟨g20,0,none⟩) 2 2) 1 ([(IntKind.u32.wrap (u_1.toNat:Int)),(IntKind.u32.wrap ((u_1 >>> 32).toNat:Int))].map (eK .u32)):=(SlK.lit hz2 rfl (Nat.le_refl _) a8).toF (xs:=[(IntKind.u32.wrap (u_1.toNat:Int)),(IntKind.u32.wrap ((u_1 >>> 32).toNat:Int))]) rfl (fun _=>rfl);refine cX (dl 1 rfl rfl rfl rfl (fun w hw hF=>zcn _ w hF [(IntKind.u32.wrap (u_1.toNat:Int)),(IntKind.u32.wrap ((u_1 >>> 32).toNat:Int))] (.slice (some ⟨g20,0,none⟩) 2 2) hfF2 fuel r21 hr21)) ?_;rintro _ _ ⟨v21_0_0,F3,le2_3,hf21_0_0,hq,rfl⟩;obtain rfl:=hq.symm;have le1_3:=le1_2.trans le2_3;haveI:=hf21_0_0.oneC;refine cX (dl 1 rfl rfl rfl rfl (fun w hw hF=>zdK _ w hF (decide (n<0)) r21 v21_0_0 hf21_0_0 r22 hr22)) ?_;rintro _ _ ⟨v22_0_1,F4,le3_4,hf22_0_1,rfl,rfl⟩;have le1_4:=le1_3.trans le3_4;haveI:=hf22_0_1.oneC;refine l9 ?_;rintro _ _ ⟨g4,rfl,rfl⟩;refine gg ?_;refine dy ?_;refine eR ?_;refine jB ?_;refine mo ?_;refine il ?_;obtain rfl:=Option.some.inj hk;exact jV 1 rfl rfl rfl rfl (fun w' hw=>⟨v22_0_1,F4.toFrz,hf22_0_1,rfl,dU hw (i:=2) rfl hS0 le1_4⟩)
def zbU (fuel:Nat)(a:GInt)(b:GInt):Option Int:=
 (lk a).bind fun r7=>
 dF (fun (x_1:Bool)=>
 (bif x_1 then
 some 0
 else
 (bif !(a.Neg == b.Neg) then
 (bif a.Neg then
 some (-1)
 else
 some 1)
 else
 (zbL fuel a.Digits).bind fun r23=>
 (zbL fuel b.Digits).bind fun r26=>
 (bif a.Neg then
 some (wI (0 - (zby r23 r26)))
 else
 some (zby r23 r26)))))
 (fun k2=>
 (bif !r7 then
 k2 true
 else
 (lk b).bind fun r11=>
 k2 (!r11)))
theorem zdk (F0:Frz)(w:World)(hF0:F0.At w)(a:GInt)(va_1:Value)(ha_1:SlC F0 va_1 1 (a.Digits.map (eK .u8)))(b:GInt)(vb_1:Value)(hb_1:SlC F0 vb_1 1 (b.Digits.map (eK .u8)))(fuel:Nat)(r:Int)(hr:zbU fuel a b=some r):Calls Tryz.prog 47 #[.agg [.bool a.Neg,va_1].toArray, .agg [.bool b.Neg,vb_1].toArray] w fun e w'=>e= .returned (.int .i64 r)∧Below w.heap.size w w':=by
 have hk:=hr;unfold zbU at hk;haveI:=ha_1.oneC;haveI:=hb_1.oneC;obtain ⟨S0,F1,rfl,hS0,hp0⟩:=eo hF0;refine dQ Tryz.func47 rfl rfl rfl hp0 ?_;refine iA ?_;rintro _ _ ⟨g2,rfl,rfl⟩;refine q3F ?_;rintro _ _ ⟨g3,rfl,rfl⟩;refine kC ?_;have hq:=dw hk;clear hk;obtain ⟨r7,hr7,hk⟩:=hq; (try dsimp only at hk);have hq:=d7 hk;clear hk;obtain ⟨k2,hk2,hk⟩:=hq; (try dsimp only at hk);refine c9 (ι:=Bool) (fun z=>[(2, .pointer (some ⟨g2,0,none⟩)),(3, .pointer (some ⟨g3,0,none⟩)),(13, .bool z)]) (fun z=>[.row g3 26 [.bool b.Neg,vb_1], .row g2 26 [.bool a.Neg,va_1], .fr F1]) (fun z=>k2 z=some r) ?_ ?_
 ·refine gy ?_;refine q2g ?_;refine cX (de rfl rfl rfl (fun w hw=>zcc _ w (hw.fr (i:=2) rfl) a va_1 ha_1 r7 hr7)) ?_;refine jN ?_;refine dg rfl rfl rfl (fun h3=>?_) (fun h3=>?_)
  ·replace hk:=dr hk h3;refine jH ?_;exact q4r
  ·replace hk:=dt hk h3;refine jB ?_;have hq:=dw hk;clear hk;obtain ⟨r11,hr11,hk⟩:=hq;refine cX (de rfl rfl rfl (fun w hw=>zcc _ w (hw.fr (i:=2) rfl) b vb_1 hb_1 r11 hr11)) ?_;refine kZ ?_;exact cY (!r11) hk (.c (.c (.c .nil))) (List.Sublist.refl _)
 ·rintro x_1 hk;rw [←hk2] at hk; (try dsimp only at hk);refine T.cond rfl (fun h4=>?_) (fun h4=>?_)
  ·replace hk:=dr hk h4;refine iQ ?_;obtain rfl:=Option.some.inj hk;exact d8
  ·replace hk:=dt hk h4;refine j0 ?_;refine kP ?_;refine gC ?_;refine cS (ks b0) ?_;refine dz ?_;refine T.cond rfl (fun h5=>?_) (fun h5=>?_)
   ·replace hk:=dr hk h5;refine iS ?_;refine kP ?_;refine dz ?_;refine T.cond rfl (fun h6=>?_) (fun h6=>?_)
    ·replace hk:=dr hk h6;refine eV ?_;refine dz (T.ret (gk (gk ?_)));obtain rfl:=Option.some.inj hk;exact d8
    ·replace hk:=dt hk h6;refine kO ?_;refine jt ?_;obtain rfl:=Option.some.inj hk;exact d8
   ·replace hk:=dt hk h5;refine fN ?_;have hq:=dw hk;clear hk;obtain ⟨r23,hr23,hk⟩:=hq;have hq:=dw hk;clear hk;obtain ⟨r26,hr26,hk⟩:=hq; (try dsimp only at hk);refine dS (sN 0 2 (sN 3 2 (.eff 2 (.eff 5 (.eff 6 (.still 7 .done)))))) _ b0 (List.Sublist.refl _) ?_;refine jw ?_;refine iy ?_;refine dN ?_;refine dc rfl (cT) rfl rfl (dl 2 rfl rfl rfl rfl (fun w hw hF=>zcP _ w hF a.Digits va_1 ha_1 fuel r23 hr23)) ?_;rintro _ _ ⟨v23_0_0,F2,le1_2,hf23_0_0,hq,rfl⟩;obtain rfl:=hq.symm;haveI:=hf23_0_0.oneC;refine q3v ?_;refine dN ?_;refine dc rfl (cT) rfl rfl (dl 2 rfl rfl rfl rfl (fun w hw hF=>zcP _ w hF b.Digits vb_1 (SlC.mono hb_1 le1_2) fuel r26 hr26)) ?_;rintro _ _ ⟨v26_0_0,F3,le2_3,hf26_0_0,hq,rfl⟩;obtain rfl:=hq.symm;have le1_3:=le1_2.trans le2_3;haveI:=hf26_0_0.oneC;refine q3w ?_;refine dN ?_;refine dc rfl (cT) rfl rfl (de rfl rfl rfl (fun w hw=>zeh _ w (hw.fr (i:=2) rfl) r23 v23_0_0 (SlC.mono hf23_0_0 le2_3) r26 v26_0_0 hf26_0_0)) ?_;refine ee ?_;refine q3w ?_;refine iM ?_;refine K.seq (T.seq (dY ?_));refine kP ?_;refine dz ?_;refine T.cond rfl (fun h7=>?_) (fun h7=>?_)
    ·replace hk:=dr hk h7;refine eV ?_;refine cS (gY) ?_;refine lw ?_;obtain rfl:=Option.some.inj hk;exact d8
    ·replace hk:=dt hk h7;refine T.skip (K.seq (dY ?_));refine mf ?_;obtain rfl:=Option.some.inj hk;exact d8
def zcp (fuel:Nat)(a:GRatio):Option Bool:=
 (mj a.Den).bind fun r7=>
 (bif decide (r7≤0) then
 some false
 else
 (zcW fuel a.Num a.Den).bind fun r14=>
 dF (fun (x_2:Bool)=>
 some x_2)
 (fun k3=>
 (bif decide (r14.2=0) then
 (zdG fuel 1).bind fun r21=>
 (zbU fuel r14.1 r21).bind fun r22=>
 k3 (decide (r22=0))
 else
 k3 false)))
theorem zd9 (F0:Frz)(w:World)(hF0:F0.At w)(a:GRatio)(va_1:Value)(ha_1:SlC F0 va_1 1 (a.Num.Digits.map (eK .u8)))(va_3:Value)(ha_3:SlC F0 va_3 1 (a.Den.Digits.map (eK .u8)))(fuel:Nat)(r:Bool)(hr:zcp fuel a=some r):Calls Tryz.prog 45 #[.agg [.bool a.Num.Neg,va_1, .bool a.Den.Neg,va_3].toArray] w fun e w'=>e= .returned (.bool r)∧Below w.heap.size w w':=by
 have hk:=hr;unfold zcp at hk;haveI:=ha_1.oneC;haveI:=ha_3.oneC;obtain ⟨S0,F1,rfl,hS0,hp0⟩:=eo hF0;refine dQ Tryz.func45 rfl rfl rfl hp0 ?_;refine iA ?_;rintro _ _ ⟨g1,rfl,rfl⟩;refine kC ?_;have hq:=dw hk;clear hk;obtain ⟨r7,hr7,hk⟩:=hq; (try dsimp only at hk);refine mr ?_;refine cS (fa 0 (m:=[.bool a.Den.Neg,va_3])) ?_;refine cX (de rfl rfl rfl (fun w hw=>zd2 _ w (hw.fr (i:=1) rfl) a.Den va_3 ha_3 r7 hr7)) ?_;refine mw ?_;refine T.cond rfl (fun h1=>?_) (fun h1=>?_)
 ·have p1:=of_decide_eq_true h1;replace hk:=dr hk h1;refine iQ ?_;obtain rfl:=Option.some.inj hk;exact d8
 ·have p1:=of_decide_eq_false h1;replace hk:=dt hk h1;refine fN ?_;have hq:=dw hk;clear hk;obtain ⟨r14,hr14,hk⟩:=hq; (try dsimp only at hk);refine mr ?_;refine cS (fa 0 (m:=[.bool a.Num.Neg,va_1])) ?_;refine gn ?_;refine cS (fa 0 (m:=[.bool a.Den.Neg,va_3])) ?_;refine cX (dl 1 rfl rfl rfl rfl (fun w hw hF=>zhJ _ w hF a.Num va_1 ha_1 a.Den va_3 ha_3 fuel r14 hr14)) ?_;rintro _ _ ⟨v14_0_1,F2,le1_2,hf14_0_1,rfl,rfl⟩;haveI:=hf14_0_1.oneC;refine l9 ?_;rintro _ _ ⟨g3,rfl,rfl⟩;refine gg ?_;refine gD ?_; (try dsimp only at hk);have hq:=d7 hk;clear hk;obtain ⟨k3,hk3,hk⟩:=hq; (try dsimp only at hk);refine c9 (ι:=Bool×FzB w (fun _=>False) S0) (fun z=>[(2, .bool z.1)]) (fun z=>[.fr z.2]) (fun z=>k3 z.1=some r∧F2.toFrz.Le z.2.toFrz) ?_ ?_
  ·refine dS (sN 0 4 (.eff 4 (.eff 5 (sN 6 2 (.still 8 .done))))) _ b0 (List.Sublist.refl _) ?_;refine gI ?_;refine fk rfl rfl rfl rfl (fun h4=>?_) (fun h4=>?_)
   ·have p4:=of_decide_eq_true h4;replace hk:=dr hk h4;refine q2f ?_;refine dN ?_;have hq:=dw hk;clear hk;obtain ⟨r21,hr21,hk⟩:=hq;refine dc rfl (Wt.some) rfl rfl (dl 2 rfl rfl rfl rfl (fun w hw hF=>zgr _ w hF 1 fuel r21 hr21)) ?_;rintro _ _ ⟨v21_0_1,F4,le2_4,hf21_0_1,rfl,rfl⟩;haveI:=hf21_0_1.oneC;refine ⟨(fun w hw=>(hw.frLe (i:=2) rfl le2_4).sub Sx),?_⟩;refine dN ?_;have hq:=dw hk;clear hk;obtain ⟨r22,hr22,hk⟩:=hq;refine dc rfl (Wt.some) rfl rfl (de rfl rfl rfl (fun w hw=>zdk _ w (hw.fr (i:=2) rfl) r14.1 v14_0_1 (SlC.mono hf14_0_1 le2_4) r21 v21_0_1 hf21_0_1 fuel r22 hr22)) ?_;refine ee ?_;refine ⟨(fun w hw=>(hw.frLe (i:=2) rfl le2_4).sub Sx),?_⟩;refine gI ?_;refine ia ?_;refine K.pick [2] rfl a8 ?_;exact cY (decide (r22=0),F4) ⟨hk,le2_4⟩ (.c .nil) (List.Sublist.refl _)
   ·have p4:=of_decide_eq_false h4;replace hk:=dt hk h4;refine fS ?_;refine q1R ?_;refine q1R ?_;refine gI ?_;refine ia ?_;refine K.pick [2] rfl a8 ?_;exact cY (false,F2) ⟨hk,(Frz.Le.refl _)⟩ (.c .nil) (List.Sublist.refl _)
  ·rintro ⟨x_2,F3⟩ ⟨hk,le2_3⟩; (try dsimp only at *);rw [←hk3] at hk; (try dsimp only at hk);refine T.ret ?_;obtain rfl:=Option.some.inj hk;exact d8
def zen (fuel:Nat)(a:GRatio):Option Int:=
 (zcp fuel a).bind fun r4=>
 (bif !r4 then
 some 0
 else
 (mj a.Num).bind fun r8=>
 some r8)
theorem zh1 (F0:Frz)(w:World)(hF0:F0.At w)(a:GRatio)(va_1:Value)(ha_1:SlC F0 va_1 1 (a.Num.Digits.map (eK .u8)))(va_3:Value)(ha_3:SlC F0 va_3 1 (a.Den.Digits.map (eK .u8)))(fuel:Nat)(r:Int)(hr:zen fuel a=some r):Calls Tryz.prog 46 #[.agg [.bool a.Num.Neg,va_1, .bool a.Den.Neg,va_3].toArray] w fun e w'=>e= .returned (.int .i64 r)∧Below w.heap.size w w':=by
 have hk:=hr;unfold zen at hk;haveI:=ha_1.oneC;haveI:=ha_3.oneC;obtain ⟨S0,F1,rfl,hS0,hp0⟩:=eo hF0;refine dQ Tryz.func46 rfl rfl rfl hp0 ?_;refine iA ?_;rintro _ _ ⟨g1,rfl,rfl⟩;refine kC ?_;have hq:=dw hk;clear hk;obtain ⟨r4,hr4,hk⟩:=hq; (try dsimp only at hk);refine gy ?_;refine jB ?_;refine cX (de rfl rfl rfl (fun w hw=>zd9 _ w (hw.fr (i:=1) rfl) a va_1 ha_1 va_3 ha_3 fuel r4 hr4)) ?_;refine mw ?_;refine T.cond rfl (fun h1=>?_) (fun h1=>?_)
 ·replace hk:=dr hk h1;refine iQ ?_;obtain rfl:=Option.some.inj hk;exact d8
 ·replace hk:=dt hk h1;refine fN ?_;have hq:=dw hk;clear hk;obtain ⟨r8,hr8,hk⟩:=hq; (try dsimp only at hk);refine mr ?_;refine cS (fa 0 (m:=[.bool a.Num.Neg,va_1])) ?_;refine cX (de rfl rfl rfl (fun w hw=>zd2 _ w (hw.fr (i:=1) rfl) a.Num va_1 ha_1 r8 hr8)) ?_;refine ee ?_;refine iw ?_;obtain rfl:=Option.some.inj hk;exact d8
def zbM (a:GInt):Option (Int×Int):=
 (lk a).bind fun r8=>
 (bif !r8 then
 some (0,2)
 else
 (bif decide (8<(a.Digits.length:Int)) then
 some (0,3)
 else
 dF (fun (u_3:BitVec 64)=>
 (bif a.Neg then
 (bif decide (((9223372036854775808#64).toNat:Int)<(u_3.toNat:Int)) then
 some (0,3)
 else
 some ((wI ((-u_3).toNat:Int)),0))
 else
 (bif decide (((9223372036854775807#64).toNat:Int)<(u_3.toNat:Int)) then
 some (0,3)
 else
 some ((wI (u_3.toNat:Int)),0))))
 (fun k4=>
 dq (fun (i_7:Nat) (next6:BitVec 64→Option (Int×Int)) (u_5:BitVec 64)=>
 next6 ((u_5 <<< 8) ||| (BitVec.ofInt 64 (nth a.Digits i_7))))
 (fun (u_5:BitVec 64)=>
 k4 u_5) (a.Digits.length - 0) 0 (0#64))))
theorem zdR (F0:Frz)(w:World)(hF0:F0.At w)(a:GInt)(va_1:Value)(ha_1:SlC F0 va_1 1 (a.Digits.map (eK .u8)))(r:Int×Int)(hr:zbM a=some r):Calls Tryz.prog 97 #[.agg [.bool a.Neg,va_1].toArray] w fun e w'=>e= .returned (.tuple #[.int .i64 r.1, .int .i64 r.2])∧Below w.heap.size w w':=by
 have hk:=hr;unfold zbM at hk;haveI:=ha_1.oneC;obtain ⟨S0,F1,rfl,hS0,hp0⟩:=eo hF0;refine dQ Tryz.func97 rfl rfl rfl hp0 ?_;refine iA ?_;rintro _ _ ⟨g1,rfl,rfl⟩;refine ek ?_;refine iT ?_;have hq:=dw hk;clear hk;obtain ⟨r8,hr8,hk⟩:=hq; (try dsimp only at hk);refine gy ?_;refine jB ?_;refine cX (de rfl rfl rfl (fun w hw=>zcc _ w (hw.fr (i:=1) rfl) a va_1 ha_1 r8 hr8)) ?_;refine mw ?_;refine T.cond rfl (fun h1=>?_) (fun h1=>?_)
 ·replace hk:=dr hk h1;refine kM ?_;obtain rfl:=Option.some.inj hk;exact kW
 ·replace hk:=dt hk h1;refine j0 ?_;refine q2p ?_;have hm12:a.Digits.length≤9223372036854775807:=(List.length_map _)▸ha_1.max;refine dZ ?_;refine T.cond rfl (fun h2=>?_) (fun h2=>?_)
  ·have p2:=of_decide_eq_true h2;replace hk:=dr hk h2;refine kM ?_;obtain rfl:=Option.some.inj hk;exact kW
  ·have p2:=of_decide_eq_false h2;replace hk:=dt hk h2;refine kO ?_;refine je ?_;refine q2p ?_;refine dZ ?_;have hq:=d7 hk;clear hk;obtain ⟨k4,hk4,hk⟩:=hq; (try dsimp only at hk);refine c9 (ι:=BitVec 64) (fun z=>[(1, .pointer (some ⟨g1,0,none⟩)),(4,U z)]) (fun z=>[.row g1 26 [.bool a.Neg,va_1], .fr F1]) (fun z=>k4 z=some r) ?_ ?_
   ·have hq:=fJ hk;clear hk;obtain ⟨f6,kk6,hf6,hkk6,hk⟩:=hq;refine eH ?_;refine T.loop (ι:=Nat×BitVec 64) (fun z=>[(1, .pointer (some ⟨g1,0,none⟩)),(4,U z.2),(15,va_1),(16, .int .i64 (a.Digits.length:Int)),(17, .int .i64 (z.1:Int))]) (fun z=>[.row g1 26 [.bool a.Neg,va_1], .fr F1]) (fun z=>dq f6 kk6 (a.Digits.length - z.1) z.1 z.2=some r) (fun z=>a.Digits.length - z.1) (0,0#64) ?_ ?_ ?_ ?_
    ·exact hk
    ·exact kn
    ·exact eG
    ·rintro ⟨i_7,u_5⟩ hk; (try dsimp only at *);refine eW ?_;refine T.cond rfl (fun h8=>?_) (fun h8=>?_)
     ·have p8:=of_decide_eq_true h8;rw [fF a7] at hk;generalize hn6:dq f6 kk6 (a.Digits.length - (i_7+1)) (i_7+1)=next6 at hk;rw [←hf6] at hk; (try dsimp only at hk);refine j1 ?_;refine cS (df (i:=i_7) rfl rfl rfl ha_1 (List.length_map _) rfl a7) ?_;refine cS (dD 1 (i:=i_7) (j:=0) rfl rfl rfl ha_1 a7) ?_;refine dy ?_;refine q2i ?_;refine cS (iI (a:=u_5) 8 rfl rfl rfl (show (8:Int)=((8:Nat):Int) from rfl) a7) ?_;refine dy ?_;refine cS (ey (z:=(nth a.Digits i_7))) ?_;refine cS (j7) ?_;refine dy ?_;refine jg ?_;rw [←hn6] at hk;exact K.next ((i_7+1),((u_5 <<< 8) ||| (BitVec.ofInt 64 (nth a.Digits i_7)))) hk b5 (.c (.c (.c (.c (.c .nil))))) (List.Sublist.refl _)
     ·have p8:=of_decide_eq_false h8;rw [fH a7,←hkk6] at hk; (try dsimp only at hk);refine eN ?_;exact cY u_5 hk (.c (.c .nil)) (List.Sublist.refl _)
   ·rintro u_3 hk;rw [←hk4] at hk; (try dsimp only at hk);refine iS ?_;refine gC ?_;refine dz ?_;refine T.cond rfl (fun h9=>?_) (fun h9=>?_)
    ·replace hk:=dr hk h9;refine lT ?_;refine T.cond rfl (fun h10=>?_) (fun h10=>?_)
     ·replace hk:=dr hk h10;refine gO ?_;refine dz (T.ret (gk (gk ?_)));obtain rfl:=Option.some.inj hk;exact kW
     ·replace hk:=dt hk h10;refine kO ?_;refine cS (Yv.co rfl rfl) ?_;refine cS (dV (z:=((-u_3).toNat:Int))) ?_;refine ek ?_;refine jt ?_;obtain rfl:=Option.some.inj hk;exact kW
    ·replace hk:=dt hk h9;refine j0 ?_;refine kz ?_;refine T.cond rfl (fun h11=>?_) (fun h11=>?_)
     ·replace hk:=dr hk h11;refine kM ?_;obtain rfl:=Option.some.inj hk;exact kW
     ·replace hk:=dt hk h11;refine kO ?_;refine cS (dV (z:=(u_3.toNat:Int))) ?_;refine mf ?_;obtain rfl:=Option.some.inj hk;exact kW
def zel (fuel:Nat)(x_:List Int)(y:List Int):Option (List Int):=
 dF (fun (s3:List Int×List Int)=>
 dj (0≤wI ((s3.1.length:Int)+1)) <|
 dj (dm ((wI ((s3.1.length:Int)+1)).toNat) 4) <|
 dF (fun (s7:BitVec 64×List Int)=>
 dj (0≤(s3.1.length:Int)∧(s3.1.length:Int)<(s7.2.length:Int)) <|
 (j5 fuel (s7.2.set s3.1.length (IntKind.u32.wrap (s7.1.toNat:Int)))).bind fun r57=>
 some r57)
 (fun k7=>
 dq (fun (i_11:Nat) (next10:(BitVec 64×List Int)→Option (List Int)) (s10:BitVec 64×List Int)=>
 dF (fun (carry_13:BitVec 64)=>
 dj (0≤(i_11:Int)∧(i_11:Int)<(s10.2.length:Int)) <|
 next10 ((carry_13 >>> 32),(s10.2.set i_11 (IntKind.u32.wrap (carry_13.toNat:Int)))))
 (fun k14=>
 (bif decide ((i_11:Int)<(s3.2.length:Int)) then
 k14 ((s10.1+(BitVec.ofInt 64 (nth s3.1 i_11)))+(BitVec.ofInt 64 (nth s3.2 i_11)))
 else
 k14 (s10.1+(BitVec.ofInt 64 (nth s3.1 i_11))))))
 (fun (s10:BitVec 64×List Int)=>
 k7 (s10.1,s10.2)) (s3.1.length - 0) 0 (0#64,(List.replicate ((wI ((s3.1.length:Int)+1)).toNat) (0:Int)))))
 (fun k3=>
 (bif decide ((x_.length:Int)<(y.length:Int)) then
 k3 (y,x_)
 else
 k3 (x_,y)))
theorem zgD (F0:Frz)(w:World)(hF0:F0.At w)(x_:List Int)(vx_:Value)(hx_:SlC F0 vx_ 1 (x_.map (eK .u32)))(y:List Int)(vy:Value)(hy:SlC F0 vy 1 (y.map (eK .u32)))(fuel:Nat)(r:List Int)(hr:zel fuel x_ y=some r):Calls Tryz.prog 238 #[vx_,vy] w fun e w'=>∃(y:Value) (G:Frz),(SlC G y 1 (r.map (eK .u32)))∧e= .returned (y)∧Fx F0 w G w':=by
 have hk:=hr;unfold zel at hk;haveI:=hx_.oneC;haveI:=hy.oneC;obtain ⟨S0,F1,rfl,hS0,hp0⟩:=eo hF0;refine dQ Tryz.func238 rfl rfl rfl hp0 ?_;refine jQ ?_;refine kf ?_;have hm9:x_.length≤9223372036854775807:=(List.length_map _)▸hx_.max;refine dy ?_;refine q2I ?_;have hm11:y.length≤9223372036854775807:=(List.length_map _)▸hy.max;refine dZ ?_;have hq:=d7 hk;clear hk;obtain ⟨k3,hk3,hk⟩:=hq; (try dsimp only at hk);refine c9 (ι:=List Int×Value×List Int×Value×FzB w (fun _=>False) S0) (fun z=>[(0,z.2.1),(1,z.2.2.2.1)]) (fun z=>[.fr z.2.2.2.2]) (fun z=>k3 (z.1,z.2.2.1)=some r∧SlC z.2.2.2.2.toFrz z.2.1 1 (z.1.map (eK .u32))∧SlC z.2.2.2.2.toFrz z.2.2.2.1 1 (z.2.2.1.map (eK .u32))∧F1.toFrz.Le z.2.2.2.2.toFrz) ?_ ?_
 ·refine T.cond rfl (fun h4=>?_) (fun h4=>?_)
  ·have p4:=of_decide_eq_true h4;replace hk:=dr hk h4;refine gy ?_;refine jH ?_;exact cY (y,vy,x_,vx_,F1) ⟨hk,hy,hx_,(Frz.Le.refl _)⟩ (.c (.c .nil)) (List.Sublist.refl _)
  ·have p4:=of_decide_eq_false h4;replace hk:=dt hk h4;refine T.skip ?_;exact cY (x_,vx_,y,vy,F1) ⟨hk,hx_,hy,(Frz.Le.refl _)⟩ (.c (.c .nil)) (List.Sublist.refl _)
 ·rintro ⟨x_1,vx_1,y_2,vy_2,F2⟩ ⟨hk,hx_1,hy_2,le1_2⟩; (try dsimp only at *);rw [←hk3] at hk; (try dsimp only at hk);haveI:=hx_1.oneC;haveI:=hy_2.oneC;refine T.seq ?_;have hq:(0≤wI ((x_1.length:Int)+1))∧_:=dB hk;clear hk;obtain ⟨g18n,hk⟩:=hq;have hq:(dm ((wI ((x_1.length:Int)+1)).toNat) 4)∧_:=dB hk;clear hk;obtain ⟨g18,hk⟩:=hq; (try dsimp only at hk);refine ef ?_;refine cS (dk rfl rfl hx_1 (List.length_map _)) ?_;have hm16:x_1.length≤9223372036854775807:=(List.length_map _)▸hx_1.max;refine cS (dh (v:= .int .i64 (wI ((x_1.length:Int)+1)))) ?_;refine cX (fZ (n':=((wI ((x_1.length:Int)+1)).toNat)) (enc:=(eK .u32)) (u:=(0:Int)) rfl rfl rfl a7 g18 a8 a8 (fun _=>rfl) rfl) ?_;rintro v18 _ ⟨hv18,rfl⟩;refine km ?_;intro iv18 hmv18;refine dy ?_;refine i0 ?_;refine j3 ?_;refine cS (dk rfl rfl hx_1 (List.length_map _)) ?_;refine dZ ?_;have hq:=d7 hk;clear hk;obtain ⟨k7,hk7,hk⟩:=hq; (try dsimp only at hk);refine c9 (ι:=BitVec 64×List Int) (fun z=>[(0,vx_1),(5,v18),(6,U z.1)]) (fun z=>[.sl v18 175 1 z.2.length (z.2.flatMap (eK .u32)), .fr F2]) (fun z=>k7 (z.1,z.2)=some r) ?_ ?_
  ·have hq:=fJ hk;clear hk;obtain ⟨f10,kk10,hf10,hkk10,hk⟩:=hq;refine eH ?_;refine T.loop (ι:=Nat×BitVec 64×List Int) (fun z=>[(0,vx_1),(1,vy_2),(5,v18),(6,U z.2.1),(20, .int .i64 (x_1.length:Int)),(21, .int .i64 (z.1:Int))]) (fun z=>[.sl v18 175 1 z.2.2.length (z.2.2.flatMap (eK .u32)), .fr F2]) (fun z=>dq f10 kk10 (x_1.length - z.1) z.1 (z.2.1,z.2.2)=some r) (fun z=>x_1.length - z.1) (0,0#64,(List.replicate ((wI ((x_1.length:Int)+1)).toNat) (0:Int))) ?_ ?_ ?_ ?_
   ·exact hk
   ·exact lZ
   ·exact eG
   ·rintro ⟨i_11,carry_8,l_9⟩ hk; (try dsimp only at *);refine eW ?_;refine T.cond rfl (fun h12=>?_) (fun h12=>?_)
    ·have p12:=of_decide_eq_true h12;rw [fF a7] at hk;generalize hn10:dq f10 kk10 (x_1.length - (i_11+1)) (i_11+1)=next10 at hk;rw [←hf10] at hk; (try dsimp only at hk);refine lP ?_;refine mp ?_;refine cS (df (i:=i_11) rfl rfl rfl hx_1 (List.length_map _) rfl a7) ?_;refine cS (dD 1 (i:=i_11) (j:=0) rfl rfl rfl hx_1 a7) ?_;refine cS (ey (z:=(nth x_1 i_11))) ?_;refine cS (gV) ?_;refine dy ?_;refine je ?_;refine ek ?_;refine cS (dk rfl rfl hy_2 (List.length_map _)) ?_;have hm33:y_2.length≤9223372036854775807:=(List.length_map _)▸hy_2.max;refine dZ ?_;have hq:=d7 hk;clear hk;obtain ⟨k14,hk14,hk⟩:=hq; (try dsimp only at hk);refine c9 (ι:=BitVec 64) (fun z=>[(0,vx_1),(1,vy_2),(5,v18),(6,U z),(7, .int .i64 (i_11:Int)),(20, .int .i64 (x_1.length:Int)),(21, .int .i64 (i_11:Int))]) (fun z=>[.sl v18 175 1 l_9.length (l_9.flatMap (eK .u32)), .fr F2]) (fun z=>k14 z=some r) ?_ ?_
     ·refine T.cond rfl (fun h15=>?_) (fun h15=>?_)
      ·have p15:=of_decide_eq_true h15;replace hk:=dr hk h15;refine ie ?_;refine cS (df (i:=i_11) rfl rfl rfl hy_2 (List.length_map _) rfl a7) ?_;refine cS (dD 1 (i:=i_11) (j:=0) rfl rfl rfl hy_2 a7) ?_;refine cS (ey (z:=(nth y_2 i_11))) ?_;refine cS (gV) ?_;refine jv ?_;exact cY ((carry_8+(BitVec.ofInt 64 (nth x_1 i_11)))+(BitVec.ofInt 64 (nth y_2 i_11))) hk (.c (.c (.c (.c (.c (.c (.c .nil))))))) (List.Sublist.refl _)
      ·have p15:=of_decide_eq_false h15;replace hk:=dt hk h15;refine T.skip ?_;exact cY (carry_8+(BitVec.ofInt 64 (nth x_1 i_11))) hk (.c (.c (.c (.c (.c (.c (.c .nil))))))) (List.Sublist.refl _)
     ·rintro carry_13 hk;rw [←hk14] at hk; (try dsimp only at hk);refine T.seq ?_;have hq:(0≤(i_11:Int)∧(i_11:Int)<(l_9.length:Int))∧_:=dB hk;clear hk;obtain ⟨g46,hk⟩:=hq; (try dsimp only at hk);refine ie ?_;refine cS (dV (z:=(carry_13.toNat:Int))) ?_;refine cS (dL 0 (i:=i_11) rfl rfl rfl rfl rfl a7) ?_;refine dM (ez 0 (k':=(l_9.set i_11 (IntKind.u32.wrap (carry_13.toNat:Int))).length) (l':=(l_9.set i_11 (IntKind.u32.wrap (carry_13.toNat:Int))).flatMap (eK .u32)) rfl rfl rfl rfl a7 (ik (enc:=(eK .u32)) (xs:=l_9) (i:=i_11) (j:=0) (size:=1) (fun _=>rfl) a7 a8 a7) (ij (enc:=(eK .u32)) (xs:=l_9) (i:=i_11) (j:=0) (size:=1) (x:=(IntKind.u32.wrap (carry_13.toNat:Int))) (fun _=>rfl) a7 a8 a7 rfl) (List.length_set ..)) ?_;refine ee ?_;refine q2i ?_;refine cS (gU (a:=carry_13) 32 rfl rfl rfl (show (32:Int)=((32:Nat):Int) from rfl) a7) ?_;refine dy ?_;refine jg ?_;rw [←hn10] at hk;exact K.next ((i_11+1),(carry_13 >>> 32),(l_9.set i_11 (IntKind.u32.wrap (carry_13.toNat:Int)))) hk b5 (.c (.c (.c (.c (.c (.c .nil)))))) (List.Sublist.refl _)
    ·have p12:=of_decide_eq_false h12;rw [fH a7,←hkk10] at hk; (try dsimp only at hk);refine eN ?_;exact cY (carry_8,l_9) hk (.c (.c (.c .nil))) (List.Sublist.refl _)
  ·rintro ⟨carry_5,l_6⟩ hk; (try dsimp only at *);rw [←hk7] at hk; (try dsimp only at hk);refine T.seq ?_;have hq:(0≤(x_1.length:Int)∧(x_1.length:Int)<(l_6.length:Int))∧_:=dB hk;clear hk;obtain ⟨g55,hk⟩:=hq; (try dsimp only at hk);refine eO ?_;refine cS (dk rfl rfl hx_1 (List.length_map _)) ?_;refine dy ?_;refine cS (dV (z:=(carry_5.toNat:Int))) ?_;refine cS (dL 0 (i:=x_1.length) rfl rfl rfl rfl rfl a7) ?_;refine dM (ez 0 (k':=(l_6.set x_1.length (IntKind.u32.wrap (carry_5.toNat:Int))).length) (l':=(l_6.set x_1.length (IntKind.u32.wrap (carry_5.toNat:Int))).flatMap (eK .u32)) rfl rfl rfl rfl a7 (ik (enc:=(eK .u32)) (xs:=l_6) (i:=x_1.length) (j:=0) (size:=1) (fun _=>rfl) a7 a8 a7) (ij (enc:=(eK .u32)) (xs:=l_6) (i:=x_1.length) (j:=0) (size:=1) (x:=(IntKind.u32.wrap (carry_5.toNat:Int))) (fun _=>rfl) a7 a8 a7 rfl) (List.length_set ..)) ?_;refine ee ?_;refine fi ?_;refine q1B ?_;rintro F3 ⟨le2_3,hz3⟩;refine fI ?_;have le1_3:=le1_2.trans le2_3;have hfF3:=hz3.toF rfl (fun _=>rfl);haveI:=hfF3.oneC;have hq:=dw hk;clear hk;obtain ⟨r57,hr57,hk⟩:=hq; (try dsimp only at hk);refine ef ?_;refine cX (dl 0 rfl rfl rfl rfl (fun w hw hF=>zcn _ w hF (l_6.set x_1.length (IntKind.u32.wrap (carry_5.toNat:Int))) v18 hfF3 fuel r57 hr57)) ?_;rintro _ _ ⟨v57_0_0,F4,le3_4,hf57_0_0,hq,rfl⟩;obtain rfl:=hq.symm;have le1_4:=le1_3.trans le3_4;haveI:=hf57_0_0.oneC;refine iw ?_;obtain rfl:=Option.some.inj hk;exact eQ rfl rfl (fun w' hw=>⟨v57_0_0,F4.toFrz,hf57_0_0,rfl,dU hw (i:=0) rfl hS0 le1_4⟩)
def zef (fuel:Nat)(x_:List Int)(y:List Int):Option (List Int):=
 dj (dm x_.length 4) <|
 dF (fun (l_1:List Int)=>
 (j5 fuel l_1).bind fun r44=>
 some r44)
 (fun k2=>
 dq (fun (i_6:Nat) (next5:(BitVec 64×List Int)→Option (List Int)) (s5:BitVec 64×List Int)=>
 dF (fun (d_8:BitVec 64)=>
 dj (0≤(i_6:Int)∧(i_6:Int)<(s5.2.length:Int)) <|
 next5 ((d_8 >>> 63),(s5.2.set i_6 (IntKind.u32.wrap (d_8.toNat:Int)))))
 (fun k9=>
 (bif decide ((i_6:Int)<(y.length:Int)) then
 k9 (((BitVec.ofInt 64 (nth x_ i_6)) - s5.1) - (BitVec.ofInt 64 (nth y i_6)))
 else
 k9 ((BitVec.ofInt 64 (nth x_ i_6)) - s5.1))))
 (fun (s5:BitVec 64×List Int)=>
 k2 s5.2) (x_.length - 0) 0 (0#64,(List.replicate x_.length (0:Int))))
theorem zgJ (F0:Frz)(w:World)(hF0:F0.At w)(x_:List Int)(vx_:Value)(hx_:SlC F0 vx_ 1 (x_.map (eK .u32)))(y:List Int)(vy:Value)(hy:SlC F0 vy 1 (y.map (eK .u32)))(fuel:Nat)(r:List Int)(hr:zef fuel x_ y=some r):Calls Tryz.prog 239 #[vx_,vy] w fun e w'=>∃(y:Value) (G:Frz),(SlC G y 1 (r.map (eK .u32)))∧e= .returned (y)∧Fx F0 w G w':=by
 have hk:=hr;unfold zef at hk;haveI:=hx_.oneC;haveI:=hy.oneC;obtain ⟨S0,F1,rfl,hS0,hp0⟩:=eo hF0;refine dQ Tryz.func239 rfl rfl rfl hp0 ?_;refine eW ?_;have hq:(dm x_.length 4)∧_:=dB hk;clear hk;obtain ⟨g11,hk⟩:=hq; (try dsimp only at hk);refine ef ?_;refine kf ?_;have hm10:x_.length≤9223372036854775807:=(List.length_map _)▸hx_.max;refine cX (fZ (n':=x_.length) (enc:=(eK .u32)) (u:=(0:Int)) rfl rfl rfl rfl g11 a8 a8 (fun _=>rfl) rfl) ?_;rintro v11 _ ⟨hv11,rfl⟩;refine km ?_;intro iv11 hmv11;refine dy ?_;refine i0 ?_;refine j3 ?_;refine kf ?_;refine dZ ?_;have hq:=d7 hk;clear hk;obtain ⟨k2,hk2,hk⟩:=hq; (try dsimp only at hk);refine c9 (ι:=List Int) (fun z=>[(5,v11)]) (fun z=>[.sl v11 175 1 z.length (z.flatMap (eK .u32)), .fr F1]) (fun z=>k2 z=some r) ?_ ?_
 ·have hq:=fJ hk;clear hk;obtain ⟨f5,kk5,hf5,hkk5,hk⟩:=hq;refine eH ?_;refine T.loop (ι:=Nat×BitVec 64×List Int) (fun z=>[(0,vx_),(1,vy),(5,v11),(6,U z.2.1),(13, .int .i64 (x_.length:Int)),(14, .int .i64 (z.1:Int))]) (fun z=>[.sl v11 175 1 z.2.2.length (z.2.2.flatMap (eK .u32)), .fr F1]) (fun z=>dq f5 kk5 (x_.length - z.1) z.1 (z.2.1,z.2.2)=some r) (fun z=>x_.length - z.1) (0,0#64,(List.replicate x_.length (0:Int))) ?_ ?_ ?_ ?_
  ·exact hk
  ·exact lZ
  ·exact eG
  ·rintro ⟨i_6,borrow_3,l_4⟩ hk; (try dsimp only at *);refine eW ?_;refine T.cond rfl (fun h7=>?_) (fun h7=>?_)
   ·have p7:=of_decide_eq_true h7;rw [fF a7] at hk;generalize hn5:dq f5 kk5 (x_.length - (i_6+1)) (i_6+1)=next5 at hk;rw [←hf5] at hk; (try dsimp only at hk);refine lP ?_;refine lV ?_;refine cS (df (i:=i_6) rfl rfl rfl hx_ (List.length_map _) rfl a7) ?_;refine cS (dD 1 (i:=i_6) (j:=0) rfl rfl rfl hx_ a7) ?_;refine cS (ey (z:=(nth x_ i_6))) ?_;refine q3q ?_;refine je ?_;refine ek ?_;refine q2I ?_;have hm26:y.length≤9223372036854775807:=(List.length_map _)▸hy.max;refine dZ ?_;have hq:=d7 hk;clear hk;obtain ⟨k9,hk9,hk⟩:=hq; (try dsimp only at hk);refine c9 (ι:=BitVec 64) (fun z=>[(0,vx_),(1,vy),(5,v11),(7, .int .i64 (i_6:Int)),(8,U z),(13, .int .i64 (x_.length:Int)),(14, .int .i64 (i_6:Int))]) (fun z=>[.sl v11 175 1 l_4.length (l_4.flatMap (eK .u32)), .fr F1]) (fun z=>k9 z=some r) ?_ ?_
    ·refine T.cond rfl (fun h10=>?_) (fun h10=>?_)
     ·have p10:=of_decide_eq_true h10;replace hk:=dr hk h10;refine ie ?_;refine cS (df (i:=i_6) rfl rfl rfl hy (List.length_map _) rfl a7) ?_;refine cS (dD 1 (i:=i_6) (j:=0) rfl rfl rfl hy a7) ?_;refine cS (ey (z:=(nth y i_6))) ?_;refine cS (jb) ?_;refine jv ?_;exact cY (((BitVec.ofInt 64 (nth x_ i_6)) - borrow_3) - (BitVec.ofInt 64 (nth y i_6))) hk (.c (.c (.c (.c (.c (.c (.c .nil))))))) (List.Sublist.refl _)
     ·have p10:=of_decide_eq_false h10;replace hk:=dt hk h10;refine T.skip ?_;exact cY ((BitVec.ofInt 64 (nth x_ i_6)) - borrow_3) hk (.c (.c (.c (.c (.c (.c (.c .nil))))))) (List.Sublist.refl _)
    ·rintro d_8 hk;rw [←hk9] at hk; (try dsimp only at hk);refine T.seq ?_;have hq:(0≤(i_6:Int)∧(i_6:Int)<(l_4.length:Int))∧_:=dB hk;clear hk;obtain ⟨g39,hk⟩:=hq; (try dsimp only at hk);refine ie ?_;refine cS (dV (z:=(d_8.toNat:Int))) ?_;refine cS (dL 0 (i:=i_6) rfl rfl rfl rfl rfl a7) ?_;refine dM (ez 0 (k':=(l_4.set i_6 (IntKind.u32.wrap (d_8.toNat:Int))).length) (l':=(l_4.set i_6 (IntKind.u32.wrap (d_8.toNat:Int))).flatMap (eK .u32)) rfl rfl rfl rfl a7 (ik (enc:=(eK .u32)) (xs:=l_4) (i:=i_6) (j:=0) (size:=1) (fun _=>rfl) a7 a8 a7) (ij (enc:=(eK .u32)) (xs:=l_4) (i:=i_6) (j:=0) (size:=1) (x:=(IntKind.u32.wrap (d_8.toNat:Int))) (fun _=>rfl) a7 a8 a7 rfl) (List.length_set ..)) ?_;refine ee ?_;refine q2i ?_;refine cS (gU (a:=d_8) 63 rfl rfl rfl (show (63:Int)=((63:Nat):Int) from rfl) a7) ?_;refine dy ?_;refine jg ?_;rw [←hn5] at hk;exact K.next ((i_6+1),(d_8 >>> 63),(l_4.set i_6 (IntKind.u32.wrap (d_8.toNat:Int)))) hk b5 (.c (.c (.c (.c (.c (.c .nil)))))) (List.Sublist.refl _)
   ·have p7:=of_decide_eq_false h7;rw [fH a7,←hkk5] at hk; (try dsimp only at hk);refine eN ?_;exact q4q
 ·rintro l_1 hk;rw [←hk2] at hk; (try dsimp only at hk);refine T.seq ?_;refine q1B ?_;rintro F2 ⟨le1_2,hz2⟩;refine fI ?_;have hfF2:=hz2.toF rfl (fun _=>rfl);haveI:=hfF2.oneC;have hq:=dw hk;clear hk;obtain ⟨r44,hr44,hk⟩:=hq; (try dsimp only at hk);refine ef ?_;refine cX (dl 0 rfl rfl rfl rfl (fun w hw hF=>zcn _ w hF l_1 v11 hfF2 fuel r44 hr44)) ?_;rintro _ _ ⟨v44_0_0,F3,le2_3,hf44_0_0,hq,rfl⟩;obtain rfl:=hq.symm;have le1_3:=le1_2.trans le2_3;haveI:=hf44_0_0.oneC;refine iw ?_;obtain rfl:=Option.some.inj hk;exact eQ rfl rfl (fun w' hw=>⟨v44_0_0,F3.toFrz,hf44_0_0,rfl,dU hw (i:=0) rfl hS0 le1_3⟩)
def zcC (fuel:Nat)(a:GInt)(b:GInt):Option (GInt×GInt×Int):=
 (lk a).bind fun r14=>
 dF (fun (x_1:Bool)=>
 (bif x_1 then
 some ((GInt.mk false []),(GInt.mk false []),2)
 else
 (zbL fuel b.Digits).bind fun r31=>
 (zbL fuel a.Digits).bind fun r35=>
 (zcz fuel r35 r31).bind fun r37=>
 dF (fun (s9:List Int×List Int)=>
 (zb1 (!(a.Neg == b.Neg)) s9.1).bind fun r63=>
 (bif decide (¬r63.2=0) then
 some ((GInt.mk false []),(GInt.mk false []),r63.2)
 else
 (zb1 b.Neg s9.2).bind fun r75=>
 (bif decide (¬r75.2=0) then
 some ((GInt.mk false []),(GInt.mk false []),r75.2)
 else
 some (r63.1,r75.1,0))))
 (fun k9=>
 (bif ((!(a.Neg == b.Neg))&&(decide (0<(r37.2.length:Int)))) then
 (zel fuel r37.1 [1]).bind fun r52=>
 (zef fuel r31 r37.2).bind fun r55=>
 k9 (r52,r55)
 else
 k9 (r37.1,r37.2)))))
 (fun k2=>
 (bif !r14 then
 k2 true
 else
 (lk b).bind fun r18=>
 (bif !r18 then
 k2 true
 else
 k2 (decide ((b.Digits.length:Int)=0)))))
theorem zeY (F0:Frz)(w:World)(hF0:F0.At w)(a:GInt)(va_1:Value)(ha_1:SlC F0 va_1 1 (a.Digits.map (eK .u8)))(b:GInt)(vb_1:Value)(hb_1:SlC F0 vb_1 1 (b.Digits.map (eK .u8)))(fuel:Nat)(r:GInt×GInt×Int)(hr:zcC fuel a b=some r):Calls Tryz.prog 205 #[.agg [.bool a.Neg,va_1].toArray, .agg [.bool b.Neg,vb_1].toArray] w fun e w'=>∃(y:Value×Value) (G:Frz),(SlC G y.1 1 (r.1.Digits.map (eK .u8))∧SlC G y.2 1 (r.2.1.Digits.map (eK .u8)))∧e= .returned (.tuple #[.agg [.bool r.1.Neg,y.1].toArray, .agg [.bool r.2.1.Neg,y.2].toArray, .int .i64 r.2.2])∧Fx F0 w G w':=by
 have hk:=hr;unfold zcC at hk;haveI:=ha_1.oneC;haveI:=hb_1.oneC;obtain ⟨S0,F1,rfl,hS0,hp0⟩:=eo hF0;refine dQ Tryz.func205 rfl rfl rfl hp0 ?_;refine iA ?_;rintro _ _ ⟨g2,rfl,rfl⟩;refine q3F ?_;rintro _ _ ⟨g3,rfl,rfl⟩;refine fW ?_;rintro _ _ ⟨g4,rfl,rfl⟩;refine fW ?_;rintro _ _ ⟨g5,rfl,rfl⟩;refine kC ?_;have hq:=dw hk;clear hk;obtain ⟨r14,hr14,hk⟩:=hq; (try dsimp only at hk);have hq:=d7 hk;clear hk;obtain ⟨k2,hk2,hk⟩:=hq; (try dsimp only at hk);refine c9 (ι:=Bool) (fun z=>[(2, .pointer (some ⟨g2,0,none⟩)),(3, .pointer (some ⟨g3,0,none⟩)),(4, .pointer (some ⟨g4,0,none⟩)),(5, .pointer (some ⟨g5,0,none⟩)),(26, .bool z)]) (fun z=>[.row g5 26 [.bool false,(.slice none 0 0)], .row g4 26 [.bool false,(.slice none 0 0)], .row g3 26 [.bool b.Neg,vb_1], .row g2 26 [.bool a.Neg,va_1], .fr F1]) (fun z=>k2 z=some r) ?_ ?_
 ·refine gy ?_;refine cS (fg 3) ?_;refine cX (de rfl rfl rfl (fun w hw=>zcc _ w (hw.fr (i:=4) rfl) a va_1 ha_1 r14 hr14)) ?_;refine jN ?_;refine dg rfl rfl rfl (fun h3=>?_) (fun h3=>?_)
  ·replace hk:=dr hk h3;refine q31 ?_;exact q4d
  ·replace hk:=dt hk h3;refine cS (fg 2) ?_;have hq:=dw hk;clear hk;obtain ⟨r18,hr18,hk⟩:=hq;refine cX (de rfl rfl rfl (fun w hw=>zcc _ w (hw.fr (i:=4) rfl) b vb_1 hb_1 r18 hr18)) ?_;refine ee ?_;refine fP ?_;refine dg rfl rfl rfl (fun h4=>?_) (fun h4=>?_)
   ·replace hk:=dr hk h4;refine lE ?_;exact q4d
   ·replace hk:=dt hk h4;refine q1S ?_;refine cS (dk rfl rfl hb_1 (List.length_map _)) ?_;have hm24:b.Digits.length≤9223372036854775807:=(List.length_map _)▸hb_1.max;refine jZ ?_;exact cY (decide ((b.Digits.length:Int)=0)) hk (.c (.c (.c (.c (.c .nil))))) (List.Sublist.refl _)
 ·rintro x_1 hk;rw [←hk2] at hk; (try dsimp only at hk);refine T.cond rfl (fun h5=>?_) (fun h5=>?_)
  ·replace hk:=dr hk h5;refine q3G ?_;refine jE ?_;refine mo ?_;refine gg ?_;refine lw ?_;obtain rfl:=Option.some.inj hk;exact K.bx 1 0 rfl rfl rfl rfl rfl rfl rfl rfl (fun w' hw=>⟨((.slice none 0 0),(.slice none 0 0)),F1.toFrz,⟨(SlC.nil _ 1),(SlC.nil _ 1)⟩,rfl,dU hw (i:=4) rfl hS0 (Frz.Le.refl _)⟩)
  ·replace hk:=dt hk h5;refine fN ?_;have hq:=dw hk;clear hk;obtain ⟨r31,hr31,hk⟩:=hq; (try dsimp only at hk);refine gy ?_;refine q1S ?_;refine cX (dl 4 rfl rfl rfl rfl (fun w hw hF=>zcP _ w hF b.Digits vb_1 hb_1 fuel r31 hr31)) ?_;rintro _ _ ⟨v31_0_0,F2,le1_2,hf31_0_0,hq,rfl⟩;obtain rfl:=hq.symm;haveI:=hf31_0_0.oneC;refine gD ?_;have hq:=dw hk;clear hk;obtain ⟨r35,hr35,hk⟩:=hq;have hq:=dw hk;clear hk;obtain ⟨r37,hr37,hk⟩:=hq; (try dsimp only at hk);refine q1z ?_;refine cX (dl 4 rfl rfl rfl rfl (fun w hw hF=>zcP _ w hF a.Digits va_1 (SlC.mono ha_1 le1_2) fuel r35 hr35)) ?_;rintro _ _ ⟨v35_0_0,F3,le2_3,hf35_0_0,hq,rfl⟩;obtain rfl:=hq.symm;have le1_3:=le1_2.trans le2_3;haveI:=hf35_0_0.oneC;refine dy ?_;refine cX (dl 4 rfl rfl rfl rfl (fun w hw hF=>zeZ _ w hF r35 v35_0_0 hf35_0_0 r31 v31_0_0 (SlC.mono hf31_0_0 le2_3) fuel r37 hr37)) ?_;rintro _ _ ⟨⟨v37_0_0,v37_1_0⟩,F4,le3_4,⟨hf37_0_0,hf37_1_0⟩,rfl,rfl⟩;dsimp only at hf37_0_0 hf37_1_0 ⊢;have le1_4:=le1_3.trans le3_4;have le2_4:=le2_3.trans le3_4;haveI:=hf37_0_0.oneC;haveI:=hf37_1_0.oneC;refine io ?_;refine iT ?_;refine c9 (ι:=Unit) (fun z=>[(2, .pointer (some ⟨g2,0,none⟩)),(3, .pointer (some ⟨g3,0,none⟩)),(4, .pointer (some ⟨g4,0,none⟩)),(5, .pointer (some ⟨g5,0,none⟩)),(7,v31_0_0),(8,v37_0_0),(9,v37_1_0),(49, .bool ((!(a.Neg == b.Neg))&&(decide (0<(r37.2.length:Int)))))]) (fun z=>[.row g5 26 [.bool false,(.slice none 0 0)], .row g4 26 [.bool false,(.slice none 0 0)], .row g3 26 [.bool b.Neg,vb_1], .row g2 26 [.bool a.Neg,va_1], .fr F4]) (fun z=>True) ?_ ?_
   ·refine q1z ?_;refine q1S ?_;refine cS (ks b0) ?_;refine dy ?_;refine dg rfl rfl rfl (fun h6=>?_) (fun h6=>?_)
    ·refine dy ?_;refine cS (dk rfl rfl hf37_1_0 (List.length_map _)) ?_;have hm47:r37.2.length≤9223372036854775807:=(List.length_map _)▸hf37_1_0.max;refine jZ ?_;exact cY () trivial (.c (.c (.c (.c (.c (.c (.c (.b (kg h6) .nil)))))))) (List.Sublist.refl _)
    ·refine jH ?_;exact cY () trivial (.c (.c (.c (.c (.c (.c (.c (.b (iL h6).symm .nil)))))))) (List.Sublist.refl _)
   ·rintro _ _;have hm47:r37.2.length≤9223372036854775807:=(List.length_map _)▸hf37_1_0.max;have hq:=d7 hk;clear hk;obtain ⟨k9,hk9,hk⟩:=hq; (try dsimp only at hk);refine c9 (ι:=List Int×Value×List Int×Value×FzB w (fun _=>False) S0) (fun z=>[(2, .pointer (some ⟨g2,0,none⟩)),(3, .pointer (some ⟨g3,0,none⟩)),(4, .pointer (some ⟨g4,0,none⟩)),(5, .pointer (some ⟨g5,0,none⟩)),(8,z.2.1),(9,z.2.2.2.1)]) (fun z=>[.row g5 26 [.bool false,(.slice none 0 0)], .row g4 26 [.bool false,(.slice none 0 0)], .row g3 26 [.bool b.Neg,vb_1], .row g2 26 [.bool a.Neg,va_1], .fr z.2.2.2.2]) (fun z=>k9 (z.1,z.2.2.1)=some r∧SlC z.2.2.2.2.toFrz z.2.1 1 (z.1.map (eK .u32))∧SlC z.2.2.2.2.toFrz z.2.2.2.1 1 (z.2.2.1.map (eK .u32))∧F4.toFrz.Le z.2.2.2.2.toFrz) ?_ ?_
    ·refine T.cond rfl (fun h10=>?_) (fun h10=>?_)
     ·have p10:=h10; (try simp only [iC] at p10);replace hk:=dr hk h10;refine T.seq ?_;have hq:=dw hk;clear hk;obtain ⟨r52,hr52,hk⟩:=hq; (try dsimp only at hk);refine ef ?_;refine iz ?_;rintro _ _ ⟨g51,rfl,rfl⟩;refine gX (fun w hw=>hw.freezeR (i:=5) (j:=0) a8 rfl rfl) ?_;rintro F6 ⟨le4_6,hz6⟩;refine fI ?_;have le2_6:=le2_4.trans le4_6;have hfF6:SlC F6.toFrz (.slice (some ⟨g51,0,none⟩) 1 1) 1 ([1].map (eK .u32)):=(SlK.lit hz6 rfl (Nat.le_refl _) a8).toF (xs:=[1]) rfl (fun _=>rfl);refine cX (dl 4 rfl rfl rfl rfl (fun w hw hF=>zgD _ w hF r37.1 v37_0_0 (SlC.mono hf37_0_0 le4_6) [1] (.slice (some ⟨g51,0,none⟩) 1 1) hfF6 fuel r52 hr52)) ?_;rintro _ _ ⟨v52_0_0,F7,le6_7,hf52_0_0,hq,rfl⟩;obtain rfl:=hq.symm;have le2_7:=le2_6.trans le6_7;have le4_7:=le4_6.trans le6_7;haveI:=hf52_0_0.oneC;refine dZ ?_;have hq:=dw hk;clear hk;obtain ⟨r55,hr55,hk⟩:=hq; (try dsimp only at hk);refine eO ?_;refine cX (dl 4 rfl rfl rfl rfl (fun w hw hF=>zgJ _ w hF r31 v31_0_0 (SlC.mono hf31_0_0 le2_7) r37.2 v37_1_0 (SlC.mono hf37_1_0 le4_7) fuel r55 hr55)) ?_;rintro _ _ ⟨v55_0_0,F8,le7_8,hf55_0_0,hq,rfl⟩;obtain rfl:=hq.symm;have le4_8:=le4_7.trans le7_8;haveI:=hf55_0_0.oneC;refine jv ?_;exact cY (r52,v52_0_0,r55,v55_0_0,F8) ⟨hk,(SlC.mono hf52_0_0 le7_8),hf55_0_0,le4_8⟩ (.c (.c (.c (.c (.c (.c .nil)))))) (List.Sublist.refl _)
     ·replace hk:=dt hk h10;refine T.skip ?_;exact cY (r37.1,v37_0_0,r37.2,v37_1_0,F4) ⟨hk,hf37_0_0,hf37_1_0,(Frz.Le.refl _)⟩ (.c (.c (.c (.c (.c (.c .nil)))))) (List.Sublist.refl _)
    ·rintro ⟨q_7,vq_7,r_8,vr_8,F5⟩ ⟨hk,hq_7,hr_8,le4_5⟩; (try dsimp only at *);rw [←hk9] at hk; (try dsimp only at hk);have le1_5:=le1_4.trans le4_5;haveI:=hq_7.oneC;haveI:=hr_8.oneC;refine T.seq ?_;have hq:=dw hk;clear hk;obtain ⟨r63,hr63,hk⟩:=hq; (try dsimp only at hk);refine q1z ?_;refine q1S ?_;refine cS (ks b0) ?_;refine dy ?_;refine cX (dl 4 rfl rfl rfl rfl (fun w hw hF=>zdK _ w hF (!(a.Neg == b.Neg)) q_7 vq_7 hq_7 r63 hr63)) ?_;rintro _ _ ⟨v63_0_1,F9,le5_9,hf63_0_1,rfl,rfl⟩;have le1_9:=le1_5.trans le5_9;haveI:=hf63_0_1.oneC;refine l9 ?_;rintro _ _ ⟨g10,rfl,rfl⟩;refine gg ?_;refine q3W ?_;refine T.cond rfl (fun h11=>?_) (fun h11=>?_)
     ·have p11:=of_decide_eq_true h11;replace hk:=dr hk h11;refine q3G ?_;refine jE ?_;refine dy ?_;refine q3o ?_;refine mo ?_;refine lw ?_;obtain rfl:=Option.some.inj hk;exact K.bx 2 1 rfl rfl rfl rfl rfl rfl rfl rfl (fun w' hw=>⟨((.slice none 0 0),(.slice none 0 0)),F9.toFrz,⟨(SlC.nil _ 1),(SlC.nil _ 1)⟩,rfl,dU hw (i:=5) rfl hS0 le1_9⟩)
     ·have p11:=of_decide_eq_false h11;replace hk:=dt hk h11;refine fN ?_;have hq:=dw hk;clear hk;obtain ⟨r75,hr75,hk⟩:=hq; (try dsimp only at hk);refine q1z ?_;refine dy ?_;refine cX (dl 5 rfl rfl rfl rfl (fun w hw hF=>zdK _ w hF b.Neg r_8 vr_8 (SlC.mono hr_8 le5_9) r75 hr75)) ?_;rintro _ _ ⟨v75_0_1,F10,le9_10,hf75_0_1,rfl,rfl⟩;have le1_10:=le1_9.trans le9_10;haveI:=hf75_0_1.oneC;refine l9 ?_;rintro _ _ ⟨g12,rfl,rfl⟩;refine gg ?_;refine q3W ?_;refine T.cond rfl (fun h12=>?_) (fun h12=>?_)
      ·have p12:=of_decide_eq_true h12;replace hk:=dr hk h12;refine q3G ?_;refine jE ?_;refine dy ?_;refine dM (fD 3) ?_;refine ee ?_;refine q3o ?_;refine lw ?_;obtain rfl:=Option.some.inj hk;exact K.bx 3 2 rfl rfl rfl rfl rfl rfl rfl rfl (fun w' hw=>⟨((.slice none 0 0),(.slice none 0 0)),F10.toFrz,⟨(SlC.nil _ 1),(SlC.nil _ 1)⟩,rfl,dU hw (i:=6) rfl hS0 le1_10⟩)
      ·have p12:=of_decide_eq_false h12;replace hk:=dt hk h12;refine fN ?_;refine dS (sN 0 2 (.eff 2 (.eff 3 (.still 4 .done)))) [.row g12 26 [.bool r75.1.Neg,v75_0_1], .row g10 26 [.bool r63.1.Neg,v63_0_1], .row g3 26 [.bool b.Neg,vb_1], .row g2 26 [.bool a.Neg,va_1], .fr F10] b0 Sx ?_;refine cU rfl (fg 1) ?_;refine q2f ?_;refine dN ?_;refine dT rfl (cT) rfl (fD 3) ?_;refine gA ?_;refine dN ?_;refine dT rfl (cT) rfl (fD 2) ?_;refine gA ?_;refine iM ?_;refine K.seq (T.ret ?_);obtain rfl:=Option.some.inj hk;exact K.bx 3 2 rfl rfl rfl rfl rfl rfl rfl rfl (fun w' hw=>⟨(v63_0_1,v75_0_1),F10.toFrz,⟨(SlC.mono hf63_0_1 le9_10),hf75_0_1⟩,rfl,dU hw (i:=6) rfl hS0 le1_10⟩)
def zcZ (fuel:Nat)(a:GRatio)(b:GRatio):Option Int:=
 (zcp fuel a).bind fun r16=>
 dF (fun (x_1:Bool)=>
 (bif x_1 then
 some 0
 else
 dF (fun (s13:Bool×List Int×Bool×List Int×Bool×List Int×Bool×List Int)=>
 some 0)
 (fun k13=>
 eS (fun (next23:(Int×Bool×List Int×Bool×List Int×Bool×List Int×Bool×List Int)→Option Int) (s23:Int×Bool×List Int×Bool×List Int×Bool×List Int×Bool×List Int)=>
 (zcC fuel (GInt.mk s23.2.1 s23.2.2.1) (GInt.mk s23.2.2.2.1 s23.2.2.2.2.1)).bind fun r28=>
 (zcC fuel (GInt.mk s23.2.2.2.2.2.1 s23.2.2.2.2.2.2.1) (GInt.mk s23.2.2.2.2.2.2.2.1 s23.2.2.2.2.2.2.2.2)).bind fun r37=>
 (zbU fuel r28.1 r37.1).bind fun r43=>
 (mj r28.2.1).bind fun r45=>
 (mj r37.2.1).bind fun r47=>
 (bif decide (¬r43=0) then
 some (wI (s23.1*r43))
 else
 (bif ((decide (r45=0))&&(decide (r47=0))) then
 k13 (s23.2.1,s23.2.2.1,s23.2.2.2.1,s23.2.2.2.2.1,s23.2.2.2.2.2.1,s23.2.2.2.2.2.2.1,s23.2.2.2.2.2.2.2.1,s23.2.2.2.2.2.2.2.2)
 else
 (bif decide (r45=0) then
 some (wI (0 - s23.1))
 else
 (bif decide (r47=0) then
 some s23.1
 else
 next23 ((wI (0 - s23.1)),s23.2.2.2.1,s23.2.2.2.2.1,r28.2.1.Neg,r28.2.1.Digits,s23.2.2.2.2.2.2.2.1,s23.2.2.2.2.2.2.2.2,r37.2.1.Neg,r37.2.1.Digits)))))) fuel (1,a.Num.Neg,a.Num.Digits,a.Den.Neg,a.Den.Digits,b.Num.Neg,b.Num.Digits,b.Den.Neg,b.Den.Digits))))
 (fun k2=>
 (bif !r16 then
 k2 true
 else
 (zcp fuel b).bind fun r20=>
 k2 (!r20)))
theorem zgH (F0:Frz)(w:World)(hF0:F0.At w)(a:GRatio)(va_1:Value)(ha_1:SlC F0 va_1 1 (a.Num.Digits.map (eK .u8)))(va_3:Value)(ha_3:SlC F0 va_3 1 (a.Den.Digits.map (eK .u8)))(b:GRatio)(vb_1:Value)(hb_1:SlC F0 vb_1 1 (b.Num.Digits.map (eK .u8)))(vb_3:Value)(hb_3:SlC F0 vb_3 1 (b.Den.Digits.map (eK .u8)))(fuel:Nat)(r:Int)(hr:zcZ fuel a b=some r):Calls Tryz.prog 147 #[.agg [.bool a.Num.Neg,va_1, .bool a.Den.Neg,va_3].toArray, .agg [.bool b.Num.Neg,vb_1, .bool b.Den.Neg,vb_3].toArray] w fun e w'=>e= .returned (.int .i64 r)∧Below w.heap.size w w':=by
 have hk:=hr;unfold zcZ at hk;haveI:=ha_1.oneC;haveI:=ha_3.oneC;haveI:=hb_1.oneC;haveI:=hb_3.oneC;obtain ⟨S0,F1,rfl,hS0,hp0⟩:=eo hF0;refine dQ Tryz.func147 rfl rfl rfl hp0 ?_;refine iA ?_;rintro _ _ ⟨g2,rfl,rfl⟩;refine q3F ?_;rintro _ _ ⟨g3,rfl,rfl⟩;refine dZ ?_;refine T.scope ?_;refine T.seq (T.seq ?_);have hq:=dw hk;clear hk;obtain ⟨r16,hr16,hk⟩:=hq; (try dsimp only at hk);have hq:=d7 hk;clear hk;obtain ⟨k2,hk2,hk⟩:=hq; (try dsimp only at hk);refine c9 (ι:=Bool) (fun z=>[(2, .pointer (some ⟨g2,0,none⟩)),(3, .pointer (some ⟨g3,0,none⟩)),(22, .bool z)]) (fun z=>[.row g3 28 [.bool b.Num.Neg,vb_1, .bool b.Den.Neg,vb_3], .row g2 28 [.bool a.Num.Neg,va_1, .bool a.Den.Neg,va_3], .fr F1]) (fun z=>k2 z=some r) ?_ ?_
 ·refine gy ?_;refine q2g ?_;refine cX (de rfl rfl rfl (fun w hw=>zd9 _ w (hw.fr (i:=2) rfl) a va_1 ha_1 va_3 ha_3 fuel r16 hr16)) ?_;refine jN ?_;refine dg rfl rfl rfl (fun h3=>?_) (fun h3=>?_)
  ·replace hk:=dr hk h3;refine jH ?_;exact q4r
  ·replace hk:=dt hk h3;refine jB ?_;have hq:=dw hk;clear hk;obtain ⟨r20,hr20,hk⟩:=hq;refine cX (de rfl rfl rfl (fun w hw=>zd9 _ w (hw.fr (i:=2) rfl) b vb_1 hb_1 vb_3 hb_3 fuel r20 hr20)) ?_;refine kZ ?_;exact cY (!r20) hk (.c (.c (.c .nil))) (List.Sublist.refl _)
 ·rintro x_1 hk;rw [←hk2] at hk; (try dsimp only at hk);refine T.cond rfl (fun h4=>?_) (fun h4=>?_)
  ·replace hk:=dr hk h4;refine iQ ?_;refine K.bq ?_;obtain rfl:=Option.some.inj hk;exact d8
  ·replace hk:=dt hk h4;refine T.skip (K.seq (dY ?_));refine gD ?_;refine T.label ?_;refine K.seq (T.seq ?_);have hq:=d7 hk;clear hk;obtain ⟨k13,hk13,hk⟩:=hq; (try dsimp only at hk);refine c9 (ι:=Bool×List Int×Value×Bool×List Int×Value×Bool×List Int×Value×Bool×List Int×Value×FzB w (fun _=>False) S0) (fun z=>[]) (fun z=>[.row g2 28 [.bool z.1,z.2.2.1, .bool z.2.2.2.1,z.2.2.2.2.2.1], .row g3 28 [.bool z.2.2.2.2.2.2.1,z.2.2.2.2.2.2.2.2.1, .bool z.2.2.2.2.2.2.2.2.2.1,z.2.2.2.2.2.2.2.2.2.2.2.1], .fr z.2.2.2.2.2.2.2.2.2.2.2.2]) (fun z=>k13 (z.1,z.2.1,z.2.2.2.1,z.2.2.2.2.1,z.2.2.2.2.2.2.1,z.2.2.2.2.2.2.2.1,z.2.2.2.2.2.2.2.2.2.1,z.2.2.2.2.2.2.2.2.2.2.1)=some r∧SlC z.2.2.2.2.2.2.2.2.2.2.2.2.toFrz z.2.2.1 1 (z.2.1.map (eK .u8))∧SlC z.2.2.2.2.2.2.2.2.2.2.2.2.toFrz z.2.2.2.2.2.1 1 (z.2.2.2.2.1.map (eK .u8))∧SlC z.2.2.2.2.2.2.2.2.2.2.2.2.toFrz z.2.2.2.2.2.2.2.2.1 1 (z.2.2.2.2.2.2.2.1.map (eK .u8))∧SlC z.2.2.2.2.2.2.2.2.2.2.2.2.toFrz z.2.2.2.2.2.2.2.2.2.2.2.1 1 (z.2.2.2.2.2.2.2.2.2.2.1.map (eK .u8))∧F1.toFrz.Le z.2.2.2.2.2.2.2.2.2.2.2.2.toFrz) ?_ ?_
   ·have hq:=kF hk;clear hk;obtain ⟨f23,hf23,hk⟩:=hq;refine q3Y ?_;refine T.loop (ι:=Nat×Int×Bool×List Int×Value×Bool×List Int×Value×Bool×List Int×Value×Bool×List Int×Value×FzB w (fun _=>False) S0) (fun z=>[(2, .pointer (some ⟨g2,0,none⟩)),(3, .pointer (some ⟨g3,0,none⟩)),(5, .int .i64 z.2.1)]) (fun z=>[.row g2 28 [.bool z.2.2.1,z.2.2.2.2.1, .bool z.2.2.2.2.2.1,z.2.2.2.2.2.2.2.1], .row g3 28 [.bool z.2.2.2.2.2.2.2.2.1,z.2.2.2.2.2.2.2.2.2.2.1, .bool z.2.2.2.2.2.2.2.2.2.2.2.1,z.2.2.2.2.2.2.2.2.2.2.2.2.2.1], .fr z.2.2.2.2.2.2.2.2.2.2.2.2.2.2]) (fun z=>eS f23 z.1 (z.2.1,z.2.2.1,z.2.2.2.1,z.2.2.2.2.2.1,z.2.2.2.2.2.2.1,z.2.2.2.2.2.2.2.2.1,z.2.2.2.2.2.2.2.2.2.1,z.2.2.2.2.2.2.2.2.2.2.2.1,z.2.2.2.2.2.2.2.2.2.2.2.2.1)=some r∧SlC z.2.2.2.2.2.2.2.2.2.2.2.2.2.2.toFrz z.2.2.2.2.1 1 (z.2.2.2.1.map (eK .u8))∧SlC z.2.2.2.2.2.2.2.2.2.2.2.2.2.2.toFrz z.2.2.2.2.2.2.2.1 1 (z.2.2.2.2.2.2.1.map (eK .u8))∧SlC z.2.2.2.2.2.2.2.2.2.2.2.2.2.2.toFrz z.2.2.2.2.2.2.2.2.2.2.1 1 (z.2.2.2.2.2.2.2.2.2.1.map (eK .u8))∧SlC z.2.2.2.2.2.2.2.2.2.2.2.2.2.2.toFrz z.2.2.2.2.2.2.2.2.2.2.2.2.2.1 1 (z.2.2.2.2.2.2.2.2.2.2.2.2.1.map (eK .u8))∧F1.toFrz.Le z.2.2.2.2.2.2.2.2.2.2.2.2.2.2.toFrz) (fun z=>z.1) (fuel,1,a.Num.Neg,a.Num.Digits,va_1,a.Den.Neg,a.Den.Digits,va_3,b.Num.Neg,b.Num.Digits,vb_1,b.Den.Neg,b.Den.Digits,vb_3,F1) ?_ ?_ ?_ ?_
    ·exact ⟨hk,ha_1,ha_3,hb_1,hb_3,(Frz.Le.refl _)⟩
    ·exact mx
    ·exact eG
    ·rintro ⟨m_24,order_14,c_15,c_16,vc_16,c_17,c_18,vc_18,c_19,c_20,vc_20,c_21,c_22,vc_22,F3⟩ ⟨hk,hc_16,hc_18,hc_20,hc_22,le1_3⟩; (try dsimp only at *);haveI:=hc_16.oneC;haveI:=hc_18.oneC;haveI:=hc_20.oneC;haveI:=hc_22.oneC;have hq:=kE hk;clear hk;obtain ⟨m_24',rfl,hk⟩:=hq;generalize hn23:eS f23 m_24'=next23 at hk;rw [←hf23] at hk; (try dsimp only at hk);refine T.block (T.seq ?_);have hq:=dw hk;clear hk;obtain ⟨r28,hr28,hk⟩:=hq; (try dsimp only at hk);refine mr ?_;refine cS (fa 0 (m:=[.bool c_15,vc_16])) ?_;refine gn ?_;refine cS (fa 0 (m:=[.bool c_17,vc_18])) ?_;refine cX (dl 2 rfl rfl rfl rfl (fun w hw hF=>zeY _ w hF (GInt.mk c_15 c_16) vc_16 hc_16 (GInt.mk c_17 c_18) vc_18 hc_18 fuel r28 hr28)) ?_;rintro _ _ ⟨⟨v28_0_1,v28_1_1⟩,F4,le3_4,⟨hf28_0_1,hf28_1_1⟩,rfl,rfl⟩;dsimp only at hf28_0_1 hf28_1_1 ⊢;have le1_4:=le1_3.trans le3_4;haveI:=hf28_0_1.oneC;haveI:=hf28_1_1.oneC;refine kJ ?_;refine fW ?_;rintro _ _ ⟨g6,rfl,rfl⟩;refine fW ?_;rintro _ _ ⟨g7,rfl,rfl⟩;refine mo ?_;refine gg ?_;refine gD ?_;have hq:=dw hk;clear hk;obtain ⟨r37,hr37,hk⟩:=hq; (try dsimp only at hk);refine mr ?_;refine cS (fa 3 (m:=[.bool c_19,vc_20])) ?_;refine gn ?_;refine cS (fa 3 (m:=[.bool c_21,vc_22])) ?_;refine cX (dl 4 rfl rfl rfl rfl (fun w hw hF=>zeY _ w hF (GInt.mk c_19 c_20) vc_20 (SlC.mono hc_20 le3_4) (GInt.mk c_21 c_22) vc_22 (SlC.mono hc_22 le3_4) fuel r37 hr37)) ?_;rintro _ _ ⟨⟨v37_0_1,v37_1_1⟩,F5,le4_5,⟨hf37_0_1,hf37_1_1⟩,rfl,rfl⟩;dsimp only at hf37_0_1 hf37_1_1 ⊢;have le1_5:=le1_4.trans le4_5;have le3_5:=le3_4.trans le4_5;haveI:=hf37_0_1.oneC;haveI:=hf37_1_1.oneC;refine kJ ?_;refine fW ?_;rintro _ _ ⟨g9,rfl,rfl⟩;refine fW ?_;rintro _ _ ⟨g10,rfl,rfl⟩;refine mo ?_;refine gg ?_;refine gD ?_;have hq:=dw hk;clear hk;obtain ⟨r43,hr43,hk⟩:=hq; (try dsimp only at hk);refine gy ?_;refine cS (fg 3) ?_;refine q2g ?_;refine cX (de rfl rfl rfl (fun w hw=>zdk _ w (hw.fr (i:=6) rfl) r28.1 v28_0_1 (SlC.mono hf28_0_1 le4_5) r37.1 v37_0_1 hf37_0_1 fuel r43 hr43)) ?_;refine ee ?_;refine gD ?_;have hq:=dw hk;clear hk;obtain ⟨r45,hr45,hk⟩:=hq;have hq:=dw hk;clear hk;obtain ⟨r47,hr47,hk⟩:=hq; (try dsimp only at hk);refine q3j ?_;refine q2f ?_;refine dN ?_;refine dc rfl (cT) rfl rfl (de rfl rfl rfl (fun w hw=>zd2 _ w (hw.fr (i:=6) rfl) r28.2.1 v28_1_1 (SlC.mono hf28_1_1 le4_5) r45 hr45)) ?_;refine gA ?_;refine dN ?_;refine dc rfl (cT) rfl rfl (de rfl rfl rfl (fun w hw=>zd2 _ w (hw.fr (i:=6) rfl) r37.2.1 v37_1_1 hf37_1_1 r47 hr47)) ?_;refine gA ?_;refine lL ?_;refine K.seq (T.seq (T.block (dY ?_)));refine fP ?_;refine dz ?_;refine T.cond rfl (fun h25=>?_) (fun h25=>?_)
     ·have p25:=of_decide_eq_true h25;replace hk:=dr hk h25;refine gO ?_;refine cS (dh (v:= .int .i64 (wI (order_14*r43)))) ?_;refine dy ?_;refine q3N ?_;obtain rfl:=Option.some.inj hk;exact d8
     ·have p25:=of_decide_eq_false h25;replace hk:=dt hk h25;refine T.seq ?_;refine c9 (ι:=Unit) (fun z=>[(2, .pointer (some ⟨g2,0,none⟩)),(3, .pointer (some ⟨g3,0,none⟩)),(5, .int .i64 order_14),(7, .pointer (some ⟨g7,0,none⟩)),(10, .pointer (some ⟨g10,0,none⟩)),(13, .int .i64 r45),(14, .int .i64 r47),(54, .bool ((decide (r45=0))&&(decide (r47=0))))]) (fun z=>[.row g10 26 [.bool r37.2.1.Neg,v37_1_1], .row g9 26 [.bool r37.1.Neg,v37_0_1], .row g7 26 [.bool r28.2.1.Neg,v28_1_1], .row g6 26 [.bool r28.1.Neg,v28_0_1], .row g2 28 [.bool c_15,vc_16, .bool c_17,vc_18], .row g3 28 [.bool c_19,vc_20, .bool c_21,vc_22], .fr F5]) (fun z=>True) ?_ ?_
      ·refine ie ?_;refine dg rfl rfl rfl (fun h26=>?_) (fun h26=>?_)
       ·have p26:=of_decide_eq_true h26;refine jH ?_;exact cY () trivial (.c (.c (.c (.c (.c (.c (.c (.b (kg h26) .nil)))))))) (List.Sublist.refl _)
       ·have p26:=of_decide_eq_false h26;refine jH ?_;exact cY () trivial (.c (.c (.c (.c (.c (.c (.c (.b (iL h26).symm .nil)))))))) (List.Sublist.refl _)
      ·rintro _ _;refine T.cond rfl (fun h27=>?_) (fun h27=>?_)
       ·have p27:=h27; (try simp only [iC] at p27);replace hk:=dr hk h27;refine T.exit ?_;refine K.bc rfl ?_;refine iO ?_;refine K.bc rfl ?_;refine iO (j9 ?_);refine K.pick [4,5,6] rfl a8 ?_;exact cY (c_15,c_16,vc_16,c_17,c_18,vc_18,c_19,c_20,vc_20,c_21,c_22,vc_22,F5) ⟨hk,(SlC.mono hc_16 le3_5),(SlC.mono hc_18 le3_5),(SlC.mono hc_20 le3_5),(SlC.mono hc_22 le3_5),le1_5⟩ .nil (List.Sublist.refl _)
       ·replace hk:=dt hk h27;refine jO ?_;refine dz ?_;refine T.cond rfl (fun h28=>?_) (fun h28=>?_)
        ·have p28:=of_decide_eq_true h28;replace hk:=dr hk h28;refine eV ?_;refine cS (gY) ?_;refine dy ?_;refine q3N ?_;obtain rfl:=Option.some.inj hk;exact d8
        ·have p28:=of_decide_eq_false h28;replace hk:=dt hk h28;refine jO ?_;refine dz ?_;refine T.cond rfl (fun h29=>?_) (fun h29=>?_)
         ·have p29:=of_decide_eq_true h29;replace hk:=dr hk h29;refine gO ?_;refine q3N ?_;obtain rfl:=Option.some.inj hk;exact d8
         ·have p29:=of_decide_eq_false h29;replace hk:=dt hk h29;refine T.skip (fA (K.seq (dY ?_)));refine gn ?_;refine cS (fa 4 (m:=[.bool c_17,vc_18])) ?_;refine cS (fg 2) ?_;refine jE ?_;refine dM (fD 4) ?_;refine ee ?_;refine eR ?_;refine gn ?_;refine cS (fa 5 (m:=[.bool c_21,vc_22])) ?_;refine jB ?_;refine jE ?_;refine dM (fD 5) ?_;refine ee ?_;refine q2i ?_;refine cS (gY) ?_;refine q3u ?_;rw [←hn23] at hk;refine K.pick [4,5,6] rfl a8 ?_;exact K.next (m_24',(wI (0 - order_14)),c_17,c_18,vc_18,r28.2.1.Neg,r28.2.1.Digits,v28_1_1,c_21,c_22,vc_22,r37.2.1.Neg,r37.2.1.Digits,v37_1_1,F5) ⟨hk,(SlC.mono hc_18 le3_5),(SlC.mono hf28_1_1 le4_5),(SlC.mono hc_22 le3_5),hf37_1_1,le1_5⟩ b5 (.c (.c (.c .nil))) (List.Sublist.refl _)
   ·rintro ⟨c_5,c_6,vc_6,c_7,c_8,vc_8,c_9,c_10,vc_10,c_11,c_12,vc_12,F2⟩ ⟨hk,hc_6,hc_8,hc_10,hc_12,le1_2⟩; (try dsimp only at *);rw [←hk13] at hk; (try dsimp only at hk);haveI:=hc_6.oneC;haveI:=hc_8.oneC;haveI:=hc_10.oneC;haveI:=hc_12.oneC;refine kp ?_;refine K.bq ?_;obtain rfl:=Option.some.inj hk;exact d8
end Go.Proofs.YtmnjbhkcfghebaaGreatDoor
