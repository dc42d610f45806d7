/- Yr: shortened and put together by squeeze.py. -/
import Derived.Test.YtmnjbhkcfghebaaGreatDoorQ11
set_option maxRecDepth 100000
set_option maxHeartbeats 4000000
set_option linter.unusedVariables false
set_option linter.unusedSectionVars false
set_option linter.unusedSimpArgs false
namespace Go.Proofs.YtmnjbhkcfghebaaGreatDoor
open Go.RowKit
structure Gbandplanref36_Auction where
 Products:List GProduct
 Bidders:List GBidder
 Increment:GIncrement
 Key:List Int
 Posted:List Int
 Rounds:Int
deriving DecidableEq,Inhabited
def de (F:Frz)(c:List Value)(x:Gbandplanref36_Auction):Prop:=∃(v0:Value) (v1:Value) (cs1:List (List Value)) (v4:Value) (v5:Value),c=[v0,v1, .int .i64 x.Increment.Activity, .int .i64 x.Increment.Step,v4,v5, .int .i64 x.Rounds]∧SlC F v0 5 (x.Products.map cV)∧SlD cT F v1 4 cs1 x.Bidders∧SlC F v4 1 (x.Key.map (eK .u8))∧SlC F v5 1 (x.Posted.map eI)
theorem Gbandplanref36_Auction.mono {F G:Frz}{c:List Value}{x:Gbandplanref36_Auction}(hle:F.Le G)(h:de F c x):de G c x:=by
 obtain ⟨v0,v1,cs1,v4,v5,h0,h1,h2,h5,h6⟩:=h;exact ⟨v0,v1,cs1,v4,v5,h0,h1.mono hle,SlD.mono (rep:=cT) (fun _ _ _ _=>GBidder.mono) h2 hle,h5.mono hle,h6.mono hle⟩
theorem Gbandplanref36_Auction.len {F:Frz}{c:List Value}{x:Gbandplanref36_Auction}(h:de F c x):c.length=7:=by
 obtain ⟨v0,v1,cs1,v4,v5,h0,h1,h2,h5,h6⟩:=h;subst h0;rfl
theorem Gbandplanref36_Auction.one {F:Frz}{c:List Value}{x:Gbandplanref36_Auction}(h:de F c x):OneCs c:=by
 obtain ⟨v0,v1,cs1,v4,v5,h0,h1,h2,h5,h6⟩:=h;subst h0;haveI:=h1.oneC;haveI:=h2.1.oneC;haveI:=h5.oneC;haveI:=h6.oneC
 infer_instance
theorem iD {F:Frz}{c:List Value}{x:Gbandplanref36_Auction}(h:de F c x):c[0]?=some (cS c 0)∧SlC F (cS c 0) 5 (x.Products.map cV):=by
 obtain ⟨v0,v1,cs1,v4,v5,h0,h1,h2,h5,h6⟩:=h;subst h0;exact ⟨rfl,h1⟩
theorem iK {F:Frz}{c:List Value}{x:Gbandplanref36_Auction}(h:de F c x):c[1]?=some (cS c 1)∧∃cs,SlD cT F (cS c 1) 4 cs x.Bidders:=by
 obtain ⟨v0,v1,cs1,v4,v5,h0,h1,h2,h5,h6⟩:=h;subst h0;exact ⟨rfl,cs1,h2⟩
theorem iG {F:Frz}{c:List Value}{x:Gbandplanref36_Auction}(h:de F c x):c[2]?=some (.int .i64 x.Increment.Activity):=by
 obtain ⟨v0,v1,cs1,v4,v5,h0,h1,h2,h5,h6⟩:=h;subst h0;rfl
theorem iI {F:Frz}{c:List Value}{x:Gbandplanref36_Auction}(h:de F c x):c[3]?=some (.int .i64 x.Increment.Step):=by
 obtain ⟨v0,v1,cs1,v4,v5,h0,h1,h2,h5,h6⟩:=h;subst h0;rfl
theorem iJ {F:Frz}{c:List Value}{x:Gbandplanref36_Auction}(h:de F c x):c[4]?=some (cS c 4)∧SlC F (cS c 4) 1 (x.Key.map (eK .u8)):=by
 obtain ⟨v0,v1,cs1,v4,v5,h0,h1,h2,h5,h6⟩:=h;subst h0;exact ⟨rfl,h5⟩
theorem iN {F:Frz}{c:List Value}{x:Gbandplanref36_Auction}(h:de F c x):c[6]?=some (.int .i64 x.Rounds):=by
 obtain ⟨v0,v1,cs1,v4,v5,h0,h1,h2,h5,h6⟩:=h;subst h0;rfl
theorem ij {F:Frz}{c:List Value}{x:Gbandplanref36_Auction}(h:de F c x):(c.drop 0).take 7=[cS c 0,cS c 1, .int .i64 x.Increment.Activity, .int .i64 x.Increment.Step,cS c 4,cS c 5, .int .i64 x.Rounds]:=by
 obtain ⟨v0,v1,cs1,v4,v5,h0,h1,h2,h5,h6⟩:=h;subst h0;rfl
def kO (i:GIncrement):Bool:=
 ((((decide (1≤i.Activity))&&(decide (i.Activity≤100)))&&(decide (1≤i.Step)))&&(decide (i.Step≤50)))
theorem zfW (F0:Frz)(w:World)(hF0:F0.At w)(i:GIncrement):Calls Tryz.prog 13 #[.agg [.int .i64 i.Activity, .int .i64 i.Step].toArray] w fun e w'=>e= .returned (.bool (kO i))∧Below w.heap.size w w':=by
 obtain ⟨r,hk⟩:∃r,kO i=r:=⟨_,rfl⟩;rw [hk];unfold kO at hk;obtain ⟨S0,F1,rfl,hS0,hp0⟩:=dY hF0;refine dG Tryz.func13 rfl rfl rfl hp0 ?_;refine fV ?_;rintro _ _ ⟨g1,rfl,rfl⟩;refine fI ?_;refine c9 (ι:=Unit) (fun z=>[(2, .bool ((((decide (1≤i.Activity))&&(decide (i.Activity≤100)))&&(decide (1≤i.Step)))&&(decide (i.Step≤50))))]) (fun z=>[.row g1 23 [.int .i64 i.Activity, .int .i64 i.Step], .fr F1]) (fun z=>True) ?_ ?_
 ·refine li ?_;refine d4 ?_;refine db rfl rfl rfl (fun h1=>?_) (fun h1=>?_)
  ·have p1:=of_decide_eq_true h1;refine gX ?_;refine db rfl rfl rfl (fun h2=>?_) (fun h2=>?_)
   ·have p2:=of_decide_eq_true h2;refine gX ?_;refine db rfl rfl rfl (fun h3=>?_) (fun h3=>?_)
    ·have p3:=of_decide_eq_true h3;refine gX ?_;refine e7 ?_;exact cY () trivial (.b (jr (kA (kA h1 h2) h3)) .nil) (List.Sublist.refl _)
    ·have p3:=of_decide_eq_false h3;refine jH ?_;exact cY () trivial (.b (gK (kA (kA h1 h2) h3)).symm .nil) (List.Sublist.refl _)
   ·have p2:=of_decide_eq_false h2;refine q3R ?_;exact cY () trivial (.b (gK (gK (kA h1 h2))).symm .nil) (List.Sublist.refl _)
  ·have p1:=of_decide_eq_false h1;refine TL.run 15 rfl ?_;refine e7 ?_;exact cY () trivial (.b (gK (gK (gK h1))).symm .nil) (List.Sublist.refl _)
 ·rintro _ _;refine T.ret ?_;subst hk;exact dS
def zcQ (a:GInt):Option (List Int):=
 dF (fun (out_1:List Int)=>
  some out_1)
 (fun k2=>
  gG (fun (i_5:Nat) (next4:List Int→Option (List Int)) (out_3:List Int)=>
   dl (df (out_3++[(cS a.Digits i_5)]).length 1) <|
   next4 (out_3++[(cS a.Digits i_5)]))
  (fun (out_3:List Int)=>
   k2 out_3) a.Digits.length [])
theorem zdP (F0:Frz)(w:World)(hF0:F0.At w)(a:GInt)(va_1:Value)(ha_1:SlC F0 va_1 1 (a.Digits.map (eK .u8)))(r:List Int)(hr:zcQ a=some r):Calls Tryz.prog 200 #[.agg [.bool a.Neg,va_1].toArray] w fun e w'=>∃(y:Value) (G:Frz),(SlC G y 1 (r.map (eK .u8)))∧e= .returned (y)∧Fx F0 w G w':=by
 have hk:=hr;unfold zcQ at hk;haveI:=ha_1.oneC;obtain ⟨S0,F1,rfl,hS0,hp0⟩:=dY hF0;refine dG Tryz.func200 rfl rfl rfl hp0 ?_;refine fV ?_;rintro _ _ ⟨g1,rfl,rfl⟩;refine iL ?_;refine dr ?_;refine j0 ?_;refine i4 ?_;refine jc ?_;refine cU (dn rfl rfl ha_1 (List.length_map _)) ?_;have hm7:a.Digits.length≤9223372036854775807:=(List.length_map _)▸ha_1.max;refine iE ?_;refine dJ ?_;have hq:=dP hk;clear hk;obtain ⟨k2,hk2,hk⟩:=hq; (try dsimp only at hk);refine c9 (ι:=List Int×Value) (fun z=>[(3,z.2)]) (fun z=>[.sl z.2 5 1 z.1.length (z.1.flatMap (eK .u8)), .fr F1]) (fun z=>k2 z.1=some r∧OneC z.2) ?_ ?_
 ·have hq:=zdO hk;clear hk;obtain ⟨f4,kk4,hf4,hkk4,hk⟩:=hq;refine ed ?_;refine T.loop (ι:=Nat×List Int×Value) (fun z=>[(1, .pointer (some ⟨g1,0,none⟩)),(3,z.2.2),(4, .int .i64 ((z.1:Int) - 1))]) (fun z=>[.sl z.2.2 5 1 z.2.1.length (z.2.1.flatMap (eK .u8)), .row g1 26 [.bool a.Neg,va_1], .fr F1]) (fun z=>gG f4 kk4 z.1 z.2.1=some r∧z.1≤a.Digits.length∧OneC z.2.2) (fun z=>z.1) (a.Digits.length,[],(.slice none 0 0)) ?_ ?_ ?_ ?_
  ·exact ⟨hk,(Nat.le_refl _),inferInstance⟩
  ·exact ju
  ·exact eb
  ·rintro ⟨i_5,out_3,vout_3⟩ ⟨hk,hle4,oout_3⟩; (try dsimp only at *);refine kC ?_;refine T.cond rfl (fun h6=>?_) (fun h6=>?_)
   ·have p6:=of_decide_eq_true h6;obtain ⟨i_5',rfl⟩:∃q,i_5=q+1:=⟨i_5 - 1,by omega⟩;replace hk:f4 i_5' (gG f4 kk4 i_5') out_3=some r:=hk;generalize hn4:gG f4 kk4 i_5'=next4 at hk;rw [←hf4] at hk; (try dsimp only at hk);refine jY (gs:=[(1, .pointer (some ⟨g1,0,none⟩)),(3,vout_3),(4, .int .i64 (i_5':Int))]) (by repeat (first|exact Sub.nil|refine Sub.cons rfl ?_|refine eQ rfl a7 ?_|refine eS rfl cR ?_)) (List.Sublist.refl _) ?_;refine kK ?_;have hq:(df (out_3++[(cS a.Digits i_5')]).length 1)∧_:=dp hk;clear hk;obtain ⟨g20,hk⟩:=hq; (try dsimp only at hk);refine ec ?_;refine jc ?_;refine dr ?_;refine cU (dc (i:=i_5') rfl rfl rfl ha_1 (List.length_map _) rfl a7) ?_;refine cU (dv 2 (i:=i_5') (j:=0) rfl rfl rfl ha_1 a7) ?_;refine ga ?_;rintro _ _ ⟨g19,rfl,rfl⟩;refine cZ (fi 1 0 rfl rfl rfl rfl rfl rfl (jP (ys:=[(cS a.Digits i_5')])) (jU (enc:=(eK .u8)) (xs:=out_3) (ys:=[(cS a.Digits i_5')])) g20 a8) ?_;rintro v20 _ ⟨hv20,rfl⟩;refine dr ?_;refine q0H ?_;refine q3o ?_;rw [←hn4] at hk;refine K.pick [1,2,3] rfl a8 ?_;exact K.next (i_5',(out_3++[(cS a.Digits i_5')]),v20) ⟨hk,b6,inferInstance⟩ b6 (.c (.c (.c .nil))) (List.Sublist.refl _)
   ·have p6:=of_decide_eq_false h6;obtain rfl:i_5=0:=a7;replace hk:kk4 out_3=some r:=hk;rw [←hkk4] at hk; (try dsimp only at hk);refine ek ?_;refine K.pick [0,2] rfl a8 ?_;exact q4H
 ·rintro ⟨out_1,vout_1⟩ ⟨hk,oout_1⟩; (try dsimp only at *);rw [←hk2] at hk; (try dsimp only at hk);refine fM ?_;refine q1j ?_;rintro F2 ⟨le1_2,hz2⟩;refine eH ?_;have hfF2:=hz2.toF rfl (fun _=>rfl);haveI:=hfF2.oneC;obtain rfl:=Option.some.inj hk;exact q5f
def zds (fuel:Nat)(a:List Int):Option (List Int):=
 dF (fun (a_1:List Int)=>
  some a_1)
 (fun k2=>
  ej (fun (next4:List Int→Option (List Int)) (a_3:List Int)=>
   (bif ((decide (0<(a_3.length:Int)))&&(decide ((cS a_3 (((a_3.length:Int) - 1).toNat))=0))) then
    next4 (a_3.take (((a_3.length:Int) - 1).toNat))
    else
    k2 a_3)) fuel a)
theorem zet (F0:Frz)(w:World)(hF0:F0.At w)(a:List Int)(va:Value)(ha:SlC F0 va 1 (a.map (eK .u8)))(fuel:Nat)(r:List Int)(hr:zds fuel a=some r):Calls Tryz.prog 228 #[va] w fun e w'=>∃(y:Value) (G:Frz),(SlC G y 1 (r.map (eK .u8)))∧e= .returned (y)∧Fx F0 w G w':=by
 have hk:=hr;unfold zds at hk;haveI:=ha.oneC;obtain ⟨S0,F1,rfl,hS0,hp0⟩:=dY hF0;refine dG Tryz.func228 rfl rfl rfl hp0 ?_;refine eM ?_;have hq:=dP hk;clear hk;obtain ⟨k2,hk2,hk⟩:=hq; (try dsimp only at hk);refine c9 (ι:=List Int×Value×FzB w (fun _=>False) S0) (fun z=>[(0,z.2.1)]) (fun z=>[.fr z.2.2]) (fun z=>k2 z.1=some r∧SlC z.2.2.toFrz z.2.1 1 (z.1.map (eK .u8))∧F1.toFrz.Le z.2.2.toFrz) ?_ ?_
 ·have hq:=ib hk;clear hk;obtain ⟨f4,hf4,hk⟩:=hq;refine ed ?_;refine T.loop (ι:=Nat×List Int×Value×FzB w (fun _=>False) S0) (fun z=>[(0,z.2.2.1)]) (fun z=>[.fr z.2.2.2]) (fun z=>ej f4 z.1 z.2.1=some r∧SlC z.2.2.2.toFrz z.2.2.1 1 (z.2.1.map (eK .u8))∧F1.toFrz.Le z.2.2.2.toFrz) (fun z=>z.1) (fuel,a,va,F1) ?_ ?_ ?_ ?_
  ·exact ⟨hk,ha,(Frz.Le.refl _)⟩
  ·exact (.c .nil)
  ·exact eb
  ·rintro ⟨m_5,a_3,va_3,F3⟩ ⟨hk,ha_3,le1_3⟩; (try dsimp only at *);haveI:=ha_3.oneC;have hq:=ie hk;clear hk;obtain ⟨m_5',rfl,hk⟩:=hq;generalize hn4:ej f4 m_5'=next4 at hk;rw [←hf4] at hk; (try dsimp only at hk);refine T.seq (T.seq ?_);refine c9 (ι:=Unit) (fun z=>[(0,va_3),(14, .bool ((decide (0<(a_3.length:Int)))&&(decide ((cS a_3 (((a_3.length:Int) - 1).toNat))=0))))]) (fun z=>[.fr F3]) (fun z=>True) ?_ ?_
   ·refine ec ?_;refine cU (dn rfl rfl ha_3 (List.length_map _)) ?_;have hm4:a_3.length≤9223372036854775807:=(List.length_map _)▸ha_3.max;refine d4 ?_;refine db rfl rfl rfl (fun h6=>?_) (fun h6=>?_)
    ·have p6:=of_decide_eq_true h6;refine d4 ?_;refine cU (dn rfl rfl ha_3 (List.length_map _)) ?_;refine iE ?_;refine cU (dc (i:=((a_3.length:Int) - 1).toNat) rfl rfl rfl ha_3 (List.length_map _) a7 a7) ?_;refine cU (dv 0 (i:=((a_3.length:Int) - 1).toNat) (j:=0) rfl rfl rfl ha_3 a7) ?_;refine hY ?_;exact cY () trivial (.c (.b (jr h6) .nil)) (List.Sublist.refl _)
    ·have p6:=of_decide_eq_false h6;refine TL.run 8 rfl ?_;refine e7 ?_;exact cY () trivial (.c (.b (gK h6).symm .nil)) (List.Sublist.refl _)
   ·rintro _ _;have hm4:a_3.length≤9223372036854775807:=(List.length_map _)▸ha_3.max;refine T.cond rfl (fun h7=>?_) (fun h7=>?_)
    ·have p7:=h7; (try simp only [gH] at p7);replace hk:=dj hk h7;refine T.skip (K.seq (T.block (T.region ?_)));refine d4 ?_;refine cU (dn rfl rfl ha_3 (List.length_map _)) ?_;refine iE ?_;refine cU (ke (i:=((a_3.length:Int) - 1).toNat) rfl rfl rfl ha_3 (List.length_map _) a7 a7) ?_;have hs19_:SlC F3.toFrz (fK va_3 0 (((a_3.length:Int) - 1).toNat) 1) 1 ((a_3.take (((a_3.length:Int) - 1).toNat)).map (eK .u8)):=ha_3.sliceh (i:=((a_3.length:Int) - 1).toNat) a7;haveI:=hs19_.oneC;refine q3N ?_;rw [←hn4] at hk;exact K.next (m_5',(a_3.take (((a_3.length:Int) - 1).toNat)),(fK va_3 0 (((a_3.length:Int) - 1).toNat) 1),F3) ⟨hk,hs19_,le1_3⟩ b6 (.c .nil) (List.Sublist.refl _)
    ·replace hk:=di hk h7;refine ek ?_;exact cY (a_3,va_3,F3) ⟨hk,ha_3,le1_3⟩ (.c .nil) (List.Sublist.refl _)
 ·rintro ⟨a_1,va_1,F2⟩ ⟨hk,ha_1,le1_2⟩; (try dsimp only at *);rw [←hk2] at hk; (try dsimp only at hk);haveI:=ha_1.oneC;refine kM ?_;obtain rfl:=Option.some.inj hk;exact eg rfl rfl (fun w' hw=>⟨va_1,F2.toFrz,ha_1,rfl,dK hw (i:=0) rfl hS0 le1_2⟩)
def zd3 (fuel:Nat)(a:List Int)(b:List Int):Option (List Int):=
 dF (fun (out_1:List Int)=>
  (zds fuel out_1).bind fun r57=>
  some r57)
 (fun k2=>
  ej (fun (next6:(List Int×Int×Int)→Option (List Int)) (s6:List Int×Int×Int)=>
   (bif (((decide (s6.2.2<(a.length:Int)))||(decide (s6.2.2<(b.length:Int))))||(decide (0<s6.2.1))) then
    dF (fun (s_11:Int)=>
     dF (fun (s_14:Int)=>
      dl (0≤s_14∧1≤(256:Int)) <|
      dl (df (s6.1++[(IntKind.u8.wrap (s_14 % 256))]).length 1) <|
      dl (0≤s_14∧s_14≤9223372036854775807∧1≤(256:Int)) <|
      next6 ((s6.1++[(IntKind.u8.wrap (s_14 % 256))]),(s_14 / 256),wI (s6.2.2+1)))
     (fun k15=>
      (bif decide (s6.2.2<(b.length:Int)) then
       dl (0≤s6.2.2∧s6.2.2<(b.length:Int)) <|
       k15 (wI (s_11+(wI (cS b s6.2.2.toNat))))
       else
       k15 s_11)))
    (fun k12=>
     (bif decide (s6.2.2<(a.length:Int)) then
      dl (0≤s6.2.2∧s6.2.2<(a.length:Int)) <|
      k12 (wI (s6.2.1+(wI (cS a s6.2.2.toNat))))
      else
      k12 s6.2.1))
    else
    k2 s6.1)) fuel ([],0,0))
theorem zff (F0:Frz)(w:World)(hF0:F0.At w)(a:List Int)(va:Value)(ha:SlC F0 va 1 (a.map (eK .u8)))(b:List Int)(vb:Value)(hb:SlC F0 vb 1 (b.map (eK .u8)))(fuel:Nat)(r:List Int)(hr:zd3 fuel a b=some r):Calls Tryz.prog 226 #[va,vb] w fun e w'=>∃(y:Value) (G:Frz),(SlC G y 1 (r.map (eK .u8)))∧e= .returned (y)∧Fx F0 w G w':=by
 have hk:=hr;unfold zd3 at hk;haveI:=ha.oneC;haveI:=hb.oneC;obtain ⟨S0,F1,rfl,hS0,hp0⟩:=dY hF0;refine dG Tryz.func226 rfl rfl rfl hp0 ?_;refine io ?_;refine dr ?_;refine j0 ?_;refine ee ?_;refine jl ?_;refine dJ ?_;have hq:=dP hk;clear hk;obtain ⟨k2,hk2,hk⟩:=hq; (try dsimp only at hk);refine c9 (ι:=List Int×Value) (fun z=>[(5,z.2)]) (fun z=>[.sl z.2 5 1 z.1.length (z.1.flatMap (eK .u8)), .fr F1]) (fun z=>k2 z.1=some r∧OneC z.2) ?_ ?_
 ·have hq:=ib hk;clear hk;obtain ⟨f6,hf6,hk⟩:=hq;refine ed ?_;refine T.loop (ι:=Nat×List Int×Value×Int×Int) (fun z=>[(0,va),(1,vb),(5,z.2.2.1),(6, .int .i64 z.2.2.2.1),(7, .int .i64 z.2.2.2.2)]) (fun z=>[.sl z.2.2.1 5 1 z.2.1.length (z.2.1.flatMap (eK .u8)), .fr F1]) (fun z=>ej f6 z.1 (z.2.1,z.2.2.2.1,z.2.2.2.2)=some r∧OneC z.2.2.1) (fun z=>z.1) (fuel,[],(.slice none 0 0),0,0) ?_ ?_ ?_ ?_
  ·exact kN
  ·exact iS
  ·exact eb
  ·rintro ⟨m_7,out_3,vout_3,carry_4,i_5⟩ ⟨hk,oout_3⟩; (try dsimp only at *);have hq:=ie hk;clear hk;obtain ⟨m_7',rfl,hk⟩:=hq;generalize hn6:ej f6 m_7'=next6 at hk;rw [←hf6] at hk; (try dsimp only at hk);refine T.seq (T.seq ?_);refine c9 (ι:=Unit) (fun z=>[(0,va),(1,vb),(5,vout_3),(6, .int .i64 carry_4),(7, .int .i64 i_5),(22, .bool (((decide (i_5<(a.length:Int)))||(decide (i_5<(b.length:Int))))||(decide (0<carry_4))))]) (fun z=>[.sl vout_3 5 1 out_3.length (out_3.flatMap (eK .u8)), .fr F1]) (fun z=>True) ?_ ?_
   ·refine eo ?_;refine ky ?_;have hm11:a.length≤9223372036854775807:=(List.length_map _)▸ha.max;refine d4 ?_;refine db rfl rfl rfl (fun h8=>?_) (fun h8=>?_)
    ·have p8:=of_decide_eq_true h8;refine q2V ?_;exact cY () trivial (.c (.c (.c (.c (.c (.b (dQ (dQ h8)).symm .nil)))))) (List.Sublist.refl _)
    ·have p8:=of_decide_eq_false h8;refine d4 ?_;refine q2t ?_;have hm16:b.length≤9223372036854775807:=(List.length_map _)▸hb.max;refine fA ?_;refine db rfl rfl rfl (fun h9=>?_) (fun h9=>?_)
     ·have p9:=of_decide_eq_true h9;refine fA ?_;refine e7 ?_;exact cY () trivial (.c (.c (.c (.c (.c (.b (dQ (dZ h8 h9)).symm .nil)))))) (List.Sublist.refl _)
     ·have p9:=of_decide_eq_false h9;refine fA ?_;refine e7 ?_;exact cY () trivial (.c (.c (.c (.c (.c (.b (fg (dZ h8 h9)) .nil)))))) (List.Sublist.refl _)
   ·rintro _ _;have hm11:a.length≤9223372036854775807:=(List.length_map _)▸ha.max;have hm16:b.length≤9223372036854775807:=(List.length_map _)▸hb.max;refine T.cond rfl (fun h10=>?_) (fun h10=>?_)
    ·replace hk:=dj hk h10;refine i3 ?_;refine i4 ?_;refine d4 ?_;refine ky ?_;refine dJ ?_;have hq:=dP hk;clear hk;obtain ⟨k12,hk12,hk⟩:=hq; (try dsimp only at hk);refine c9 (ι:=Int) (fun z=>[(0,va),(1,vb),(5,vout_3),(7, .int .i64 i_5),(8, .int .i64 z)]) (fun z=>[.sl vout_3 5 1 out_3.length (out_3.flatMap (eK .u8)), .fr F1]) (fun z=>k12 z=some r) ?_ ?_
     ·refine T.cond rfl (fun h13=>?_) (fun h13=>?_)
      ·have p13:=of_decide_eq_true h13;replace hk:=dj hk h13;have hq:(0≤i_5∧i_5<(a.length:Int))∧_:=dp hk;clear hk;obtain ⟨g33,hk⟩:=hq; (try dsimp only at hk);refine gI ?_;refine cU (dc (i:=i_5.toNat) rfl rfl rfl ha (List.length_map _) a7 a7) ?_;refine cU (dv 1 (i:=i_5.toNat) (j:=0) rfl rfl rfl ha a7) ?_;refine cU (dR (z:=(cS a i_5.toNat))) ?_;refine cU (dd (v:= .int .i64 (wI (carry_4+(wI (cS a i_5.toNat)))))) ?_;refine ig ?_;exact cY (wI (carry_4+(wI (cS a i_5.toNat)))) hk (.c (.c (.c (.c (.c .nil))))) (List.Sublist.refl _)
      ·have p13:=of_decide_eq_false h13;replace hk:=di hk h13;refine T.skip ?_;exact cY carry_4 hk (.c (.c (.c (.c (.c .nil))))) (List.Sublist.refl _)
     ·rintro s_11 hk;rw [←hk12] at hk; (try dsimp only at hk);refine hD ?_;refine q2t ?_;refine dJ ?_;have hq:=dP hk;clear hk;obtain ⟨k15,hk15,hk⟩:=hq; (try dsimp only at hk);refine c9 (ι:=Int) (fun z=>[(0,va),(1,vb),(5,vout_3),(7, .int .i64 i_5),(8, .int .i64 z)]) (fun z=>[.sl vout_3 5 1 out_3.length (out_3.flatMap (eK .u8)), .fr F1]) (fun z=>k15 z=some r) ?_ ?_
      ·refine T.cond rfl (fun h16=>?_) (fun h16=>?_)
       ·have p16:=of_decide_eq_true h16;replace hk:=dj hk h16;have hq:(0≤i_5∧i_5<(b.length:Int))∧_:=dp hk;clear hk;obtain ⟨g44,hk⟩:=hq; (try dsimp only at hk);refine gI ?_;refine cU (dc (i:=i_5.toNat) rfl rfl rfl hb (List.length_map _) a7 a7) ?_;refine cU (dv 1 (i:=i_5.toNat) (j:=0) rfl rfl rfl hb a7) ?_;refine cU (dR (z:=(cS b i_5.toNat))) ?_;refine cU (dd (v:= .int .i64 (wI (s_11+(wI (cS b i_5.toNat)))))) ?_;refine ig ?_;exact cY (wI (s_11+(wI (cS b i_5.toNat)))) hk (.c (.c (.c (.c (.c .nil))))) (List.Sublist.refl _)
       ·have p16:=of_decide_eq_false h16;replace hk:=di hk h16;refine T.skip ?_;exact cY s_11 hk (.c (.c (.c (.c (.c .nil))))) (List.Sublist.refl _)
      ·rintro s_14 hk;rw [←hk15] at hk; (try dsimp only at hk);refine T.seq ?_;have hq:(0≤s_14∧1≤(256:Int))∧_:=dp hk;clear hk;obtain ⟨g50,hk⟩:=hq;have hq:(df (out_3++[(IntKind.u8.wrap (s_14 % 256))]).length 1)∧_:=dp hk;clear hk;obtain ⟨g53,hk⟩:=hq; (try dsimp only at hk);refine eo ?_;refine cU (i9 (a:=s_14) (b:=(256:Int)) rfl rfl rfl g50) ?_;refine cU (dR (z:=(s_14 % 256))) ?_;refine ga ?_;rintro _ _ ⟨g52,rfl,rfl⟩;refine cZ (fi 1 0 rfl rfl rfl rfl rfl rfl (jP (ys:=[(IntKind.u8.wrap (s_14 % 256))])) (jU (enc:=(eK .u8)) (xs:=out_3) (ys:=[(IntKind.u8.wrap (s_14 % 256))])) g53 a8) ?_;rintro v53 _ ⟨hv53,rfl⟩;refine dJ ?_;have hq:(0≤s_14∧s_14≤9223372036854775807∧1≤(256:Int))∧_:=dp hk;clear hk;obtain ⟨g55,hk⟩:=hq; (try dsimp only at hk);refine ec ?_;refine cU (fB (a:=s_14) (b:=(256:Int)) rfl rfl rfl g55) ?_;refine dr ?_;refine q0H ?_;refine dr ?_;refine cU (dd (v:= .int .i64 (wI (i_5+1)))) ?_;refine ig ?_;rw [←hn6] at hk;refine q3J ?_;exact K.next (m_7',(out_3++[(IntKind.u8.wrap (s_14 % 256))]),v53,(s_14 / 256),wI (i_5+1)) ⟨hk,inferInstance⟩ b6 (.c (.c (.c (.c (.c .nil))))) (List.Sublist.refl _)
    ·have p10:=h10; (try simp only [gH] at p10);replace hk:=di hk h10;refine ek ?_;exact q4H
 ·rintro ⟨out_1,vout_1⟩ ⟨hk,oout_1⟩; (try dsimp only at *);rw [←hk2] at hk; (try dsimp only at hk);refine T.seq ?_;refine q1S ?_;rintro F2 ⟨le1_2,hz2⟩;refine eH ?_;have hfF2:=hz2.toF rfl (fun _=>rfl);haveI:=hfF2.oneC;have hq:=dm hk;clear hk;obtain ⟨r57,hr57,hk⟩:=hq; (try dsimp only at hk);refine ec ?_;refine cZ (dg 0 rfl rfl rfl rfl (fun w hw hF=>zet _ w hF out_1 vout_1 hfF2 fuel r57 hr57)) ?_;rintro _ _ ⟨v57_0_0,F3,le2_3,hf57_0_0,hq,rfl⟩;obtain rfl:=hq.symm;have le1_3:=le1_2.trans le2_3;haveI:=hf57_0_0.oneC;refine gq ?_;obtain rfl:=Option.some.inj hk;exact eg rfl rfl (fun w' hw=>⟨v57_0_0,F3.toFrz,hf57_0_0,rfl,dK hw (i:=0) rfl hS0 le1_3⟩)
def zeh (a:List Int)(b:List Int):Int:=
 (bif decide (¬(a.length:Int)=(b.length:Int)) then
  (bif decide ((a.length:Int)<(b.length:Int)) then
   (-1)
   else
   1)
  else
  dF (fun (_:Unit)=>
   0)
  (fun k3=>
   gG (fun (i_5:Nat) (next4:Unit→Int) (_:Unit)=>
    (bif decide (¬(cS a i_5)=(cS b i_5)) then
     (bif decide ((cS a i_5)<(cS b i_5)) then
      (-1)
      else
      1)
     else
     next4 ()))
   (fun (_:Unit)=>
    k3 ()) a.length ()))
theorem zhb (F0:Frz)(w:World)(hF0:F0.At w)(a:List Int)(va:Value)(ha:SlC F0 va 1 (a.map (eK .u8)))(b:List Int)(vb:Value)(hb:SlC F0 vb 1 (b.map (eK .u8))):Calls Tryz.prog 213 #[va,vb] w fun e w'=>e= .returned (.int .i64 (zeh a b))∧Below w.heap.size w w':=by
 obtain ⟨r,hk⟩:∃r,zeh a b=r:=⟨_,rfl⟩;rw [hk];unfold zeh at hk;haveI:=ha.oneC;haveI:=hb.oneC;obtain ⟨S0,F1,rfl,hS0,hp0⟩:=dY hF0;refine dG Tryz.func213 rfl rfl rfl hp0 ?_;refine ia ?_;refine ky ?_;have hm7:a.length≤9223372036854775807:=(List.length_map _)▸ha.max;refine dr ?_;refine q2t ?_;have hm9:b.length≤9223372036854775807:=(List.length_map _)▸hb.max;refine dJ ?_;refine T.cond rfl (fun h1=>?_) (fun h1=>?_)
 ·have p1:=of_decide_eq_true h1;replace hk:=dj hk h1;refine iu ?_;refine dr ?_;refine ky ?_;refine dr ?_;refine q2t ?_;refine dJ ?_;refine T.cond rfl (fun h2=>?_) (fun h2=>?_)
  ·have p2:=of_decide_eq_true h2;replace hk:=dj hk h2;refine fS ?_;refine dC (T.ret (gC (gC ?_)));subst hk;exact dS
  ·have p2:=of_decide_eq_false h2;replace hk:=di hk h2;refine ik ?_;refine jb ?_;subst hk;exact dS
 ·have p1:=of_decide_eq_false h1;replace hk:=di hk h1;refine il ?_;refine dr ?_;refine ky ?_;refine iE ?_;refine dJ ?_;have hq:=dP hk;clear hk;obtain ⟨k3,hk3,hk⟩:=hq; (try dsimp only at hk);refine c9 (ι:=Unit) (fun z=>[]) (fun z=>[.fr F1]) (fun z=>k3 ()=r) ?_ ?_
  ·have hq:=zdO hk;clear hk;obtain ⟨f4,kk4,hf4,hkk4,hk⟩:=hq;refine ed ?_;refine T.loop (ι:=Nat) (fun z=>[(0,va),(1,vb),(5, .int .i64 ((z:Int) - 1))]) (fun z=>[.fr F1]) (fun z=>gG f4 kk4 z ()=r∧z≤a.length) (fun z=>z) a.length ?_ ?_ ?_ ?_
   ·exact ⟨hk,(Nat.le_refl _)⟩
   ·exact ju
   ·exact eb
   ·rintro i_5 ⟨hk,hle4⟩;refine kC ?_;refine T.cond rfl (fun h6=>?_) (fun h6=>?_)
    ·have p6:=of_decide_eq_true h6;obtain ⟨i_5',rfl⟩:∃q,i_5=q+1:=⟨i_5 - 1,by omega⟩;replace hk:f4 i_5' (gG f4 kk4 i_5') ()=r:=hk;generalize hn4:gG f4 kk4 i_5'=next4 at hk;rw [←hf4] at hk; (try dsimp only at hk);refine jY (gs:=[(0,va),(1,vb),(5, .int .i64 (i_5':Int))]) (by repeat (first|exact Sub.nil|refine Sub.cons rfl ?_|refine eQ rfl a7 ?_|refine eS rfl cR ?_)) (List.Sublist.refl _) ?_;refine lq ?_;refine q2c ?_;refine T.cond rfl (fun h7=>?_) (fun h7=>?_)
     ·have p7:=of_decide_eq_true h7;replace hk:=dj hk h7;refine T.seq (T.seq ?_);refine q2c ?_;refine T.cond rfl (fun h8=>?_) (fun h8=>?_)
      ·have p8:=of_decide_eq_true h8;replace hk:=dj hk h8;refine kR ?_;subst hk;exact dS
      ·have p8:=of_decide_eq_false h8;replace hk:=di hk h8;refine ik ?_;refine dr ?_;refine q0Y ?_;subst hk;exact dS
     ·have p7:=of_decide_eq_false h7;replace hk:=di hk h7;refine q1a ?_;refine q3o ?_;rw [←hn4] at hk;exact q45
    ·have p6:=of_decide_eq_false h6;obtain rfl:i_5=0:=a7;replace hk:kk4 ()=r:=hk;rw [←hkk4] at hk; (try dsimp only at hk);refine ek ?_;exact jh
  ·rintro _ hk;rw [←hk3] at hk; (try dsimp only at hk);refine iU ?_;subst hk;exact dS
def zeg (fuel:Nat)(a:List Int)(b:List Int):Option (List Int):=
 dF (fun (out_1:List Int)=>
  (zds fuel out_1).bind fun r43=>
  some r43)
 (fun k2=>
  dq (fun (i_6:Nat) (next5:(List Int×Int)→Option (List Int)) (s5:List Int×Int)=>
   dF (fun (s_8:Int)=>
    dF (fun (s13:Int×Int)=>
     dl (df (s5.1++[(IntKind.u8.wrap s13.2)]).length 1) <|
     next5 ((s5.1++[(IntKind.u8.wrap s13.2)]),s13.1))
    (fun k13=>
     (bif decide (s_8<0) then
      k13 (1,wI (s_8+256))
      else
      k13 (0,s_8))))
   (fun k9=>
    (bif decide ((i_6:Int)<(b.length:Int)) then
     k9 (wI ((wI ((wI (cS a i_6)) - s5.2)) - (wI (cS b i_6))))
     else
     k9 (wI ((wI (cS a i_6)) - s5.2)))))
  (fun (s5:List Int×Int)=>
   k2 s5.1) (a.length - 0) 0 ([],0))
theorem zfS (F0:Frz)(w:World)(hF0:F0.At w)(a:List Int)(va:Value)(ha:SlC F0 va 1 (a.map (eK .u8)))(b:List Int)(vb:Value)(hb:SlC F0 vb 1 (b.map (eK .u8)))(fuel:Nat)(r:List Int)(hr:zeg fuel a b=some r):Calls Tryz.prog 227 #[va,vb] w fun e w'=>∃(y:Value) (G:Frz),(SlC G y 1 (r.map (eK .u8)))∧e= .returned (y)∧Fx F0 w G w':=by
 have hk:=hr;unfold zeg at hk;haveI:=ha.oneC;haveI:=hb.oneC;obtain ⟨S0,F1,rfl,hS0,hp0⟩:=dY hF0;refine dG Tryz.func227 rfl rfl rfl hp0 ?_;refine io ?_;refine dr ?_;refine j0 ?_;refine ee ?_;refine jl ?_;refine dJ ?_;have hq:=dP hk;clear hk;obtain ⟨k2,hk2,hk⟩:=hq; (try dsimp only at hk);refine c9 (ι:=List Int×Value) (fun z=>[(5,z.2)]) (fun z=>[.sl z.2 5 1 z.1.length (z.1.flatMap (eK .u8)), .fr F1]) (fun z=>k2 z.1=some r∧OneC z.2) ?_ ?_
 ·have hq:=eX hk;clear hk;obtain ⟨f5,kk5,hf5,hkk5,hk⟩:=hq;refine ed ?_;refine T.loop (ι:=Nat×List Int×Value×Int) (fun z=>[(0,va),(1,vb),(5,z.2.2.1),(6, .int .i64 z.2.2.2),(7, .int .i64 (z.1:Int))]) (fun z=>[.sl z.2.2.1 5 1 z.2.1.length (z.2.1.flatMap (eK .u8)), .fr F1]) (fun z=>dq f5 kk5 (a.length - z.1) z.1 (z.2.1,z.2.2.2)=some r∧OneC z.2.2.1) (fun z=>a.length - z.1) (0,[],(.slice none 0 0),0) ?_ ?_ ?_ ?_
  ·exact kN
  ·exact iS
  ·exact eb
  ·rintro ⟨i_6,out_3,vout_3,borrow_4⟩ ⟨hk,oout_3⟩; (try dsimp only at *);refine hD ?_;refine ky ?_;have hm11:a.length≤9223372036854775807:=(List.length_map _)▸ha.max;refine dJ ?_;refine T.cond rfl (fun h7=>?_) (fun h7=>?_)
   ·have p7:=of_decide_eq_true h7;rw [eW a7] at hk;generalize hn5:dq f5 kk5 (a.length - (i_6+1)) (i_6+1)=next5 at hk;rw [←hf5] at hk; (try dsimp only at hk);refine i3 ?_;refine cU (dc (i:=i_6) rfl rfl rfl ha (List.length_map _) rfl a7) ?_;refine cU (dv 1 (i:=i_6) (j:=0) rfl rfl rfl ha a7) ?_;refine cU (dR (z:=(cS a i_6))) ?_;refine dr ?_;refine cU (dd (v:= .int .i64 (wI ((wI (cS a i_6)) - borrow_4)))) ?_;refine jl ?_;refine d4 ?_;refine q2t ?_;have hm24:b.length≤9223372036854775807:=(List.length_map _)▸hb.max;refine dJ ?_;have hq:=dP hk;clear hk;obtain ⟨k9,hk9,hk⟩:=hq; (try dsimp only at hk);refine c9 (ι:=Int) (fun z=>[(0,va),(1,vb),(5,vout_3),(7, .int .i64 (i_6:Int)),(8, .int .i64 z)]) (fun z=>[.sl vout_3 5 1 out_3.length (out_3.flatMap (eK .u8)), .fr F1]) (fun z=>k9 z=some r) ?_ ?_
    ·refine T.cond rfl (fun h10=>?_) (fun h10=>?_)
     ·have p10:=of_decide_eq_true h10;replace hk:=dj hk h10;refine gI ?_;refine cU (dc (i:=i_6) rfl rfl rfl hb (List.length_map _) rfl a7) ?_;refine cU (dv 1 (i:=i_6) (j:=0) rfl rfl rfl hb a7) ?_;refine cU (dR (z:=(cS b i_6))) ?_;refine cU (dd (v:= .int .i64 (wI ((wI ((wI (cS a i_6)) - borrow_4)) - (wI (cS b i_6)))))) ?_;refine ig ?_;exact cY (wI ((wI ((wI (cS a i_6)) - borrow_4)) - (wI (cS b i_6)))) hk (.c (.c (.c (.c (.c .nil))))) (List.Sublist.refl _)
     ·have p10:=of_decide_eq_false h10;replace hk:=di hk h10;refine T.skip ?_;exact cY (wI ((wI (cS a i_6)) - borrow_4)) hk (.c (.c (.c (.c (.c .nil))))) (List.Sublist.refl _)
    ·rintro s_8 hk;rw [←hk9] at hk; (try dsimp only at hk);refine fS ?_;refine q4b ?_;have hq:=dP hk;clear hk;obtain ⟨k13,hk13,hk⟩:=hq; (try dsimp only at hk);refine c9 (ι:=Int×Int) (fun z=>[(0,va),(1,vb),(5,vout_3),(6, .int .i64 z.1),(7, .int .i64 (i_6:Int)),(8, .int .i64 z.2)]) (fun z=>[.sl vout_3 5 1 out_3.length (out_3.flatMap (eK .u8)), .fr F1]) (fun z=>k13 (z.1,z.2)=some r) ?_ ?_
     ·refine T.cond rfl (fun h14=>?_) (fun h14=>?_)
      ·have p14:=of_decide_eq_true h14;replace hk:=dj hk h14;refine fS ?_;refine cU (dd (v:= .int .i64 (wI (s_8+256)))) ?_;refine dr ?_;refine dC (T.region ?_);refine ig ?_;exact cY (1,wI (s_8+256)) hk (.c (.c (.c (.c (.c (.c .nil)))))) (List.Sublist.refl _)
      ·have p14:=of_decide_eq_false h14;replace hk:=di hk h14;refine T.skip ?_;exact cY (0,s_8) hk (.c (.c (.c (.c (.c (.c .nil)))))) (List.Sublist.refl _)
     ·rintro ⟨borrow_11,s_12⟩ hk; (try dsimp only at *);rw [←hk13] at hk; (try dsimp only at hk);have hq:(df (out_3++[(IntKind.u8.wrap s_12)]).length 1)∧_:=dp hk;clear hk;obtain ⟨g41,hk⟩:=hq; (try dsimp only at hk);refine eo ?_;refine cU (dR (z:=s_12)) ?_;refine ga ?_;rintro _ _ ⟨g40,rfl,rfl⟩;refine cZ (fi 1 0 rfl rfl rfl rfl rfl rfl (jP (ys:=[(IntKind.u8.wrap s_12)])) (jU (enc:=(eK .u8)) (xs:=out_3) (ys:=[(IntKind.u8.wrap s_12)])) g41 a8) ?_;rintro v41 _ ⟨hv41,rfl⟩;refine q3u ?_;rw [←hn5] at hk;refine q3J ?_;exact K.next ((i_6+1),(out_3++[(IntKind.u8.wrap s_12)]),v41,borrow_11) ⟨hk,inferInstance⟩ b6 (.c (.c (.c (.c (.c .nil))))) (List.Sublist.refl _)
   ·have p7:=of_decide_eq_false h7;rw [eY a7,←hkk5] at hk; (try dsimp only at hk);refine ek ?_;exact q4H
 ·rintro ⟨out_1,vout_1⟩ ⟨hk,oout_1⟩; (try dsimp only at *);rw [←hk2] at hk; (try dsimp only at hk);refine T.seq ?_;refine q1S ?_;rintro F2 ⟨le1_2,hz2⟩;refine eH ?_;have hfF2:=hz2.toF rfl (fun _=>rfl);haveI:=hfF2.oneC;have hq:=dm hk;clear hk;obtain ⟨r43,hr43,hk⟩:=hq; (try dsimp only at hk);refine ec ?_;refine cZ (dg 0 rfl rfl rfl rfl (fun w hw hF=>zet _ w hF out_1 vout_1 hfF2 fuel r43 hr43)) ?_;rintro _ _ ⟨v43_0_0,F3,le2_3,hf43_0_0,hq,rfl⟩;obtain rfl:=hq.symm;have le1_3:=le1_2.trans le2_3;haveI:=hf43_0_0.oneC;refine gq ?_;obtain rfl:=Option.some.inj hk;exact eg rfl rfl (fun w' hw=>⟨v43_0_0,F3.toFrz,hf43_0_0,rfl,dK hw (i:=0) rfl hS0 le1_3⟩)
def zed (fuel:Nat)(a:List Int)(b:List Int):Option (List Int×List Int):=
 dl (df a.length 1) <|
 dF (fun (s3:List Int×List Int)=>
  (zds fuel s3.2).bind fun r57=>
  some (r57,s3.1))
 (fun k3=>
  dl (-1≤wI ((wI ((a.length:Int) *8)) - 1)∧wI ((wI ((a.length:Int) *8)) - 1)≤4611686018427387903) <|
  gG (fun (i_7:Nat) (next6:(List Int×List Int)→Option (List Int×List Int)) (s6:List Int×List Int)=>
   (zd3 fuel s6.1 s6.1).bind fun r22=>
   dl (0≤(i_7:Int)∧(i_7:Int)≤9223372036854775807∧1≤(8:Int)) <|
   dl (0≤((i_7:Int) / 8)∧((i_7:Int) / 8)<(a.length:Int)) <|
   dl (0≤(i_7:Int)∧1≤(8:Int)) <|
   dl (0≤((i_7:Int) % 8)) <|
   dF (fun (r_9:List Int)=>
    (bif decide (0≤(zeh r_9 b)) then
     (zeg fuel r_9 b).bind fun r42=>
     dl (0≤(i_7:Int)∧(i_7:Int)≤9223372036854775807∧1≤(8:Int)) <|
     dl (0≤(i_7:Int)∧(i_7:Int)≤9223372036854775807∧1≤(8:Int)) <|
     dl (0≤((i_7:Int) / 8)∧((i_7:Int) / 8)<(s6.2.length:Int)) <|
     dl (0≤(i_7:Int)∧1≤(8:Int)) <|
     next6 (r42,(s6.2.set (((i_7:Int) / 8).toNat) (orK .u8 (cS s6.2 (((i_7:Int) / 8).toNat)) (shlK .u8 1 ((i_7:Int) % 8)))))
     else
     next6 (r_9,s6.2)))
   (fun k10=>
    (bif decide ((andK .u8 (shrK .u8 (cS a (((i_7:Int) / 8).toNat)) ((i_7:Int) % 8)) 1)=1) then
     (zd3 fuel r22 [1]).bind fun r35=>
     k10 r35
     else
     k10 r22)))
  (fun (s6:List Int×List Int)=>
   k3 (s6.1,s6.2)) (((wI ((wI ((a.length:Int) *8)) - 1))+1).toNat) ([],(List.replicate a.length (0:Int))))
theorem zfB (F0:Frz)(w:World)(hF0:F0.At w)(a:List Int)(va:Value)(ha:SlC F0 va 1 (a.map (eK .u8)))(b:List Int)(vb:Value)(hb:SlC F0 vb 1 (b.map (eK .u8)))(fuel:Nat)(r:List Int×List Int)(hr:zed fuel a b=some r):Calls Tryz.prog 201 #[va,vb] w fun e w'=>∃(y:Value×Value) (G:Frz),(SlC G y.1 1 (r.1.map (eK .u8))∧SlC G y.2 1 (r.2.map (eK .u8)))∧e= .returned (.tuple #[y.1,y.2])∧Fx F0 w G w':=by
 have hk:=hr;unfold zed at hk;haveI:=ha.oneC;haveI:=hb.oneC;obtain ⟨S0,F1,rfl,hS0,hp0⟩:=dY hF0;refine dG Tryz.func201 rfl rfl rfl hp0 ?_;refine fM ?_;refine eR ?_;have hq:(df a.length 1)∧_:=dp hk;clear hk;obtain ⟨g11,hk⟩:=hq; (try dsimp only at hk);refine ec ?_;refine ky ?_;have hm10:a.length≤9223372036854775807:=(List.length_map _)▸ha.max;refine cZ (fG (n':=a.length) (enc:=(eK .u8)) (u:=(0:Int)) rfl rfl rfl rfl g11 a8 a8 (fun _=>rfl) rfl) ?_;rintro v11 _ ⟨hv11,rfl⟩;refine i8 ?_;intro iv11 hmv11;refine iL ?_;refine ip ?_;refine ky ?_;refine cU (dd (v:= .int .i64 (wI ((a.length:Int) *8)))) ?_;refine cU (dd (v:= .int .i64 (wI ((wI ((a.length:Int) *8)) - 1)))) ?_;refine dJ ?_;have hq:=dP hk;clear hk;obtain ⟨k3,hk3,hk⟩:=hq; (try dsimp only at hk);refine c9 (ι:=List Int×Value×List Int×FzB w (fun _=>False) S0) (fun z=>[(6,v11),(7,z.2.1)]) (fun z=>[.sl v11 5 1 z.2.2.1.length (z.2.2.1.flatMap (eK .u8)), .fr z.2.2.2]) (fun z=>k3 (z.1,z.2.2.1)=some r∧SlC z.2.2.2.toFrz z.2.1 1 (z.1.map (eK .u8))∧F1.toFrz.Le z.2.2.2.toFrz) ?_ ?_
 ·have hq:(-1≤wI ((wI ((a.length:Int) *8)) - 1)∧wI ((wI ((a.length:Int) *8)) - 1)≤4611686018427387903)∧_:=dp hk;clear hk;obtain ⟨gl6,hk⟩:=hq; (try dsimp only at hk);have hq:=zdO hk;clear hk;obtain ⟨f6,kk6,hf6,hkk6,hk⟩:=hq;refine ed ?_;refine T.loop (ι:=Nat×List Int×Value×List Int×FzB w (fun _=>False) S0) (fun z=>[(0,va),(1,vb),(6,v11),(7,z.2.2.1),(8, .int .i64 ((z.1:Int) - 1))]) (fun z=>[.sl v11 5 1 z.2.2.2.1.length (z.2.2.2.1.flatMap (eK .u8)), .fr z.2.2.2.2]) (fun z=>gG f6 kk6 z.1 (z.2.1,z.2.2.2.1)=some r∧z.1≤((wI ((wI ((a.length:Int) *8)) - 1))+1).toNat∧SlC z.2.2.2.2.toFrz z.2.2.1 1 (z.2.1.map (eK .u8))∧F1.toFrz.Le z.2.2.2.2.toFrz) (fun z=>z.1) (((wI ((wI ((a.length:Int) *8)) - 1))+1).toNat,[],(.slice none 0 0),(List.replicate a.length (0:Int)),F1) ?_ ?_ ?_ ?_
  ·exact ⟨hk,(Nat.le_refl _),(SlC.nil _ 1),(Frz.Le.refl _)⟩
  ·exact (.c (.c (.c (.c (.i (a:=wI ((wI ((a.length:Int) *8)) - 1)) (by first|omega|(dsimp only;omega)) .nil)))))
  ·exact eb
  ·rintro ⟨i_7,r_4,vr_4,l_5,F3⟩ ⟨hk,hle6,hr_4,le1_3⟩; (try dsimp only at *);haveI:=hr_4.oneC;refine kC ?_;refine T.cond rfl (fun h8=>?_) (fun h8=>?_)
   ·have p8:=of_decide_eq_true h8;obtain ⟨i_7',rfl⟩:∃q,i_7=q+1:=⟨i_7 - 1,by omega⟩;replace hk:f6 i_7' (gG f6 kk6 i_7') (r_4,l_5)=some r:=hk;generalize hn6:gG f6 kk6 i_7'=next6 at hk;rw [←hf6] at hk; (try dsimp only at hk);refine jY (gs:=[(0,va),(1,vb),(6,v11),(7,vr_4),(8, .int .i64 (i_7':Int))]) (by repeat (first|exact Sub.nil|refine Sub.cons rfl ?_|refine eQ rfl a7 ?_|refine eS rfl cR ?_)) (List.Sublist.refl _) ?_;refine lq ?_;have hq:=dm hk;clear hk;obtain ⟨r22,hr22,hk⟩:=hq; (try dsimp only at hk);refine eo ?_;refine cZ (dg 1 rfl rfl rfl rfl (fun w hw hF=>zff _ w hF r_4 vr_4 hr_4 r_4 vr_4 hr_4 fuel r22 hr22)) ?_;rintro _ _ ⟨v22_0_0,F4,le3_4,hf22_0_0,hq,rfl⟩;obtain rfl:=hq.symm;have le1_4:=le1_3.trans le3_4;haveI:=hf22_0_0.oneC;refine jC ?_;have hq:(0≤(i_7':Int)∧(i_7':Int)≤9223372036854775807∧1≤(8:Int))∧_:=dp hk;clear hk;obtain ⟨g25,hk⟩:=hq;have hq:(0≤((i_7':Int) / 8)∧((i_7':Int) / 8)<(a.length:Int))∧_:=dp hk;clear hk;obtain ⟨g26,hk⟩:=hq;have hq:(0≤(i_7':Int)∧1≤(8:Int))∧_:=dp hk;clear hk;obtain ⟨g29,hk⟩:=hq;have hq:(0≤((i_7':Int) % 8))∧_:=dp hk;clear hk;obtain ⟨g30,hk⟩:=hq; (try dsimp only at hk);refine eo ?_;refine cU (fB (a:=(i_7':Int)) (b:=(8:Int)) rfl rfl rfl g25) ?_;refine cU (dc (i:=((i_7':Int) / 8).toNat) rfl rfl rfl (SlC.mono ha le1_4) (List.length_map _) a7 a7) ?_;refine cU (dv 1 (i:=((i_7':Int) / 8).toNat) (j:=0) rfl rfl rfl (SlC.mono ha le1_4) a7) ?_;refine dr ?_;refine cU (i9 (a:=(i_7':Int)) (b:=(8:Int)) rfl rfl rfl g29) ?_;refine cU (Yv.shrK (a:=(cS a (((i_7':Int) / 8).toNat))) (b:=((i_7':Int) % 8)) rfl rfl rfl g30) ?_;refine cU (Yv.andK (a:=(shrK .u8 (cS a (((i_7':Int) / 8).toNat)) ((i_7':Int) % 8))) (b:=1) rfl rfl rfl) ?_;refine dJ ?_;have hq:=dP hk;clear hk;obtain ⟨k10,hk10,hk⟩:=hq; (try dsimp only at hk);refine c9 (ι:=List Int×Value×FzB w (fun _=>False) S0) (fun z=>[(0,va),(1,vb),(6,v11),(7,z.2.1),(8, .int .i64 (i_7':Int))]) (fun z=>[.sl v11 5 1 l_5.length (l_5.flatMap (eK .u8)), .fr z.2.2]) (fun z=>k10 z.1=some r∧SlC z.2.2.toFrz z.2.1 1 (z.1.map (eK .u8))∧F4.toFrz.Le z.2.2.toFrz) ?_ ?_
    ·refine T.cond rfl (fun h11=>?_) (fun h11=>?_)
     ·have p11:=of_decide_eq_true h11;replace hk:=dj hk h11;have hq:=dm hk;clear hk;obtain ⟨r35,hr35,hk⟩:=hq; (try dsimp only at hk);refine ec ?_;refine ga ?_;rintro _ _ ⟨g34,rfl,rfl⟩;refine q15 ?_;rintro F6 ⟨le4_6,hz6⟩;refine eH ?_;have hfF6:SlC F6.toFrz (.slice (some ⟨g34,0,none⟩) 1 1) 1 ([1].map (eK .u8)):=(SlK.lit hz6 rfl (Nat.le_refl _) a8).toF (xs:=[1]) rfl (fun _=>rfl);refine cZ (dg 1 rfl rfl rfl rfl (fun w hw hF=>zff _ w hF r22 v22_0_0 (SlC.mono hf22_0_0 le4_6) [1] (.slice (some ⟨g34,0,none⟩) 1 1) hfF6 fuel r35 hr35)) ?_;rintro _ _ ⟨v35_0_0,F7,le6_7,hf35_0_0,hq,rfl⟩;obtain rfl:=hq.symm;have le4_7:=le4_6.trans le6_7;haveI:=hf35_0_0.oneC;refine ig ?_;exact cY (r35,v35_0_0,F7) ⟨hk,hf35_0_0,le4_7⟩ (.c (.c (.c (.c (.c .nil))))) (List.Sublist.refl _)
     ·have p11:=of_decide_eq_false h11;replace hk:=di hk h11;refine T.skip ?_;exact cY (r22,v22_0_0,F4) ⟨hk,hf22_0_0,(Frz.Le.refl _)⟩ (.c (.c (.c (.c (.c .nil))))) (List.Sublist.refl _)
    ·rintro ⟨r_9,vr_9,F5⟩ ⟨hk,hr_9,le4_5⟩; (try dsimp only at *);rw [←hk10] at hk; (try dsimp only at hk);have le1_5:=le1_4.trans le4_5;haveI:=hr_9.oneC;refine fM ?_;refine cZ (da rfl rfl rfl (fun w hw=>zhb _ w (hw.fr (i:=1) rfl) r_9 vr_9 hr_9 b vb (SlC.mono hb le1_5))) ?_;refine kG ?_;refine T.cond rfl (fun h12=>?_) (fun h12=>?_)
     ·have p12:=of_decide_eq_true h12;replace hk:=dj hk h12;refine T.seq ?_;have hq:=dm hk;clear hk;obtain ⟨r42,hr42,hk⟩:=hq; (try dsimp only at hk);refine eo ?_;refine cZ (dg 1 rfl rfl rfl rfl (fun w hw hF=>zfS _ w hF r_9 vr_9 hr_9 b vb (SlC.mono hb le1_5) fuel r42 hr42)) ?_;rintro _ _ ⟨v42_0_0,F8,le5_8,hf42_0_0,hq,rfl⟩;obtain rfl:=hq.symm;have le1_8:=le1_5.trans le5_8;haveI:=hf42_0_0.oneC;refine dJ ?_;have hq:(0≤(i_7':Int)∧(i_7':Int)≤9223372036854775807∧1≤(8:Int))∧_:=dp hk;clear hk;obtain ⟨g45,hk⟩:=hq;have hq:(0≤(i_7':Int)∧(i_7':Int)≤9223372036854775807∧1≤(8:Int))∧_:=dp hk;clear hk;obtain ⟨g48,hk⟩:=hq;have hq:(0≤((i_7':Int) / 8)∧((i_7':Int) / 8)<(l_5.length:Int))∧_:=dp hk;clear hk;obtain ⟨g49,hk⟩:=hq;have hq:(0≤(i_7':Int)∧1≤(8:Int))∧_:=dp hk;clear hk;obtain ⟨g52,hk⟩:=hq; (try dsimp only at hk);refine dL (sN 0 6 (sN 8 3 (.eff 6 (.eff 7 (.still 11 (.eff 12 (.eff 13 .done))))))) [.fr F8] b5 Sx ?_;refine eD ?_;refine cX rfl (fB (a:=(i_7':Int)) (b:=(8:Int)) rfl rfl rfl g45) ?_;refine eD ?_;refine cX rfl (fB (a:=(i_7':Int)) (b:=(8:Int)) rfl rfl rfl g48) ?_;refine eN ?_;refine cX rfl (i9 (a:=(i_7':Int)) (b:=(8:Int)) rfl rfl rfl g52) ?_;refine cX rfl (Yv.shlK (a:=1) (b:=((i_7':Int) % 8)) rfl rfl rfl a7) ?_;refine q3w ?_;refine dI rfl (cW) rfl rfl (dX 0 rfl rfl rfl a7 (gl (enc:=(eK .u8)) (i:=((i_7':Int) / 8).toNat) (j:=0) (fun _=>rfl) a7 a8)) (fun w hw=>hw.sub Sx) ?_;refine cX rfl (Yv.orK (a:=(cS l_5 (((i_7':Int) / 8).toNat))) (b:=(shlK .u8 1 ((i_7':Int) % 8)))) ?_;refine q3w ?_;refine dy rfl (cW) rfl (ef 0 (k':=(l_5.set (((i_7':Int) / 8).toNat) (orK .u8 (cS l_5 (((i_7':Int) / 8).toNat)) (shlK .u8 1 ((i_7':Int) % 8)))).length) (l':=(l_5.set (((i_7':Int) / 8).toNat) (orK .u8 (cS l_5 (((i_7':Int) / 8).toNat)) (shlK .u8 1 ((i_7':Int) % 8)))).flatMap (eK .u8)) rfl rfl rfl rfl a7 (gD (enc:=(eK .u8)) (xs:=l_5) (i:=((i_7':Int) / 8).toNat) (j:=0) (size:=1) (fun _=>rfl) a7 a8 b9) (gF (enc:=(eK .u8)) (xs:=l_5) (i:=((i_7':Int) / 8).toNat) (j:=0) (size:=1) (x:=(orK .u8 (cS l_5 (((i_7':Int) / 8).toNat)) (shlK .u8 1 ((i_7':Int) % 8)))) (fun _=>rfl) a7 a8 b9 rfl) (List.length_set ..)) ?_;refine q1v ?_;refine q3o ?_;rw [←hn6] at hk;exact K.next (i_7',r42,v42_0_0,(l_5.set (((i_7':Int) / 8).toNat) (orK .u8 (cS l_5 (((i_7':Int) / 8).toNat)) (shlK .u8 1 ((i_7':Int) % 8)))),F8) ⟨hk,b6,hf42_0_0,le1_8⟩ b6 (.c (.c (.c (.c (.c .nil))))) (List.Sublist.refl _)
     ·have p12:=of_decide_eq_false h12;replace hk:=di hk h12;refine q1a ?_;refine q3o ?_;rw [←hn6] at hk;exact K.next (i_7',r_9,vr_9,l_5,F5) ⟨hk,b6,hr_9,le1_5⟩ b6 (.c (.c (.c (.c (.c .nil))))) (List.Sublist.refl _)
   ·have p8:=of_decide_eq_false h8;obtain rfl:i_7=0:=a7;replace hk:kk6 (r_4,l_5)=some r:=hk;rw [←hkk6] at hk; (try dsimp only at hk);refine ek ?_;exact cY (r_4,vr_4,l_5,F3) ⟨hk,hr_4,le1_3⟩ (.c (.c .nil)) (List.Sublist.refl _)
 ·rintro ⟨r_1,vr_1,l_2,F2⟩ ⟨hk,hr_1,le1_2⟩; (try dsimp only at *);rw [←hk3] at hk; (try dsimp only at hk);haveI:=hr_1.oneC;refine T.seq ?_;refine q1S ?_;rintro F9 ⟨le2_9,hz9⟩;refine eH ?_;have le1_9:=le1_2.trans le2_9;have hfF9:=hz9.toF rfl (fun _=>rfl);haveI:=hfF9.oneC;have hq:=dm hk;clear hk;obtain ⟨r57,hr57,hk⟩:=hq; (try dsimp only at hk);refine ec ?_;refine cZ (dg 0 rfl rfl rfl rfl (fun w hw hF=>zet _ w hF l_2 v11 hfF9 fuel r57 hr57)) ?_;rintro _ _ ⟨v57_0_0,F10,le9_10,hf57_0_0,hq,rfl⟩;obtain rfl:=hq.symm;have le1_10:=le1_9.trans le9_10;have le2_10:=le2_9.trans le9_10;haveI:=hf57_0_0.oneC;refine fA ?_;refine gp ?_;obtain rfl:=Option.some.inj hk;exact eF rfl rfl rfl (fun w' hw=>⟨(v57_0_0,vr_1),F10.toFrz,⟨hf57_0_0,(SlC.mono hr_1 le2_10)⟩,rfl,dK hw (i:=0) rfl hS0 le1_10⟩)
def zcP (fuel:Nat)(neg:Bool)(a:List Int):Option GInt:=
 (zds fuel a).bind fun r8=>
 dF (fun (c_2:List Int)=>
  some (GInt.mk (neg&&(decide (0<(r8.length:Int)))) c_2))
 (fun k3=>
  gG (fun (i_6:Nat) (next5:List Int→Option GInt) (c_4:List Int)=>
   dl (df (c_4++[(cS r8 i_6)]).length 1) <|
   next5 (c_4++[(cS r8 i_6)]))
  (fun (c_4:List Int)=>
   k3 c_4) r8.length [])
theorem zd1 (F0:Frz)(w:World)(hF0:F0.At w)(neg:Bool)(a:List Int)(va:Value)(ha:SlC F0 va 1 (a.map (eK .u8)))(fuel:Nat)(r:GInt)(hr:zcP fuel neg a=some r):Calls Tryz.prog 196 #[.bool neg,va] w fun e w'=>∃(y:Value) (G:Frz),(SlC G y 1 (r.Digits.map (eK .u8)))∧e= .returned (.agg [.bool r.Neg,y].toArray)∧Fx F0 w G w':=by
 have hk:=hr;unfold zcP at hk;haveI:=ha.oneC;obtain ⟨S0,F1,rfl,hS0,hp0⟩:=dY hF0;refine dG Tryz.func196 rfl rfl rfl hp0 ?_;refine d5 ?_;refine fv ?_;rintro _ _ ⟨g4,rfl,rfl⟩;refine eR ?_;have hq:=dm hk;clear hk;obtain ⟨r8,hr8,hk⟩:=hq; (try dsimp only at hk);refine ec ?_;refine cZ (dg 1 rfl rfl rfl rfl (fun w hw hF=>zet _ w hF a va ha fuel r8 hr8)) ?_;rintro _ _ ⟨v8_0_0,F2,le1_2,hf8_0_0,hq,rfl⟩;obtain rfl:=hq.symm;haveI:=hf8_0_0.oneC;refine fI ?_;refine c9 (ι:=Nat) (fun z=>[(1,v8_0_0),(4, .pointer (some ⟨g4,0,none⟩)),(5, .pointer (some ⟨z,0,none⟩))]) (fun z=>[.row z 26 [.bool (neg&&(decide (0<(r8.length:Int)))),(.slice none 0 0)], .sl (.slice none 0 0) 5 1 ([]:List Int).length ([].flatMap (eK .u8)), .row g4 26 [.bool false,(.slice none 0 0)], .fr F2]) (fun z=>True) ?_ ?_
 ·refine eo ?_;refine db rfl rfl rfl (fun h1=>?_) (fun h1=>?_)
  ·refine dr ?_;refine cU (dn rfl rfl hf8_0_0 (List.length_map _)) ?_;have hm12:r8.length≤9223372036854775807:=(List.length_map _)▸hf8_0_0.max;refine d4 ?_;refine iP ?_;refine fv ?_;rintro _ _ ⟨g5,rfl,rfl⟩;refine j0 ?_;refine ln ?_;refine j0 ?_;refine e7 ?_;refine K.pick [2,0,3,4] rfl a8 ?_;refine K.bP (hs':=[.row g5 26 [.bool (neg&&(decide (0<(r8.length:Int)))),(.slice none 0 0)], .sl (.slice none 0 0) 5 1 ([]:List Int).length ([].flatMap (eK .u8)), .row g4 26 [.bool false,(.slice none 0 0)], .fr F2]) (by rw [show ((neg&&(decide (0<(r8.length:Int)))))=decide (0<(r8.length:Int)) from (by first|exact (jr h1)|exact ((jr h1)).symm)] <;> rfl) ?_;exact cY g5 trivial (.c (.c (.c .nil))) (List.Sublist.refl _)
  ·refine TL.run 4 rfl ?_;refine iP ?_;refine fv ?_;rintro _ _ ⟨g5,rfl,rfl⟩;refine j0 ?_;refine ln ?_;refine j0 ?_;refine e7 ?_;refine K.pick [2,0,3,4] rfl a8 ?_;refine K.bP (hs':=[.row g5 26 [.bool (neg&&(decide (0<(r8.length:Int)))),(.slice none 0 0)], .sl (.slice none 0 0) 5 1 ([]:List Int).length ([].flatMap (eK .u8)), .row g4 26 [.bool false,(.slice none 0 0)], .fr F2]) (by rw [show ((neg&&(decide (0<(r8.length:Int)))))=false from (by first|exact (gK h1).symm|exact ((gK h1).symm).symm)] <;> rfl) ?_;exact cY g5 trivial (.c (.c (.c .nil))) (List.Sublist.refl _)
 ·rintro g5 _; (try dsimp only at *);have hm12:r8.length≤9223372036854775807:=(List.length_map _)▸hf8_0_0.max;refine iu ?_;refine dr ?_;refine cU (dn rfl rfl hf8_0_0 (List.length_map _)) ?_;refine iE ?_;refine dJ ?_;have hq:=dP hk;clear hk;obtain ⟨k3,hk3,hk⟩:=hq; (try dsimp only at hk);refine c9 (ι:=List Int×Value) (fun z=>[(4, .pointer (some ⟨g4,0,none⟩)),(5, .pointer (some ⟨g5,0,none⟩))]) (fun z=>[.sl z.2 5 1 z.1.length (z.1.flatMap (eK .u8)), .row g5 26 [.bool (neg&&(decide (0<(r8.length:Int)))),z.2], .row g4 26 [.bool false,(.slice none 0 0)], .fr F2]) (fun z=>k3 z.1=some r∧OneC z.2) ?_ ?_
  ·have hq:=zdO hk;clear hk;obtain ⟨f5,kk5,hf5,hkk5,hk⟩:=hq;refine ed ?_;refine T.pick [1,0,2,3] rfl a8 ?_;refine T.loop (ι:=Nat×List Int×Value) (fun z=>[(1,v8_0_0),(4, .pointer (some ⟨g4,0,none⟩)),(5, .pointer (some ⟨g5,0,none⟩)),(6, .int .i64 ((z.1:Int) - 1))]) (fun z=>[.sl z.2.2 5 1 z.2.1.length (z.2.1.flatMap (eK .u8)), .row g5 26 [.bool (neg&&(decide (0<(r8.length:Int)))),z.2.2], .row g4 26 [.bool false,(.slice none 0 0)], .fr F2]) (fun z=>gG f5 kk5 z.1 z.2.1=some r∧z.1≤r8.length∧OneC z.2.2) (fun z=>z.1) (r8.length,[],(.slice none 0 0)) ?_ ?_ ?_ ?_
   ·exact ⟨hk,(Nat.le_refl _),inferInstance⟩
   ·exact gR
   ·exact eb
   ·rintro ⟨i_6,c_4,vc_4⟩ ⟨hk,hle5,oc_4⟩; (try dsimp only at *);refine kC ?_;refine T.cond rfl (fun h7=>?_) (fun h7=>?_)
    ·have p7:=of_decide_eq_true h7;obtain ⟨i_6',rfl⟩:∃q,i_6=q+1:=⟨i_6 - 1,by omega⟩;replace hk:f5 i_6' (gG f5 kk5 i_6') c_4=some r:=hk;generalize hn5:gG f5 kk5 i_6'=next5 at hk;rw [←hf5] at hk; (try dsimp only at hk);refine jY (gs:=[(1,v8_0_0),(4, .pointer (some ⟨g4,0,none⟩)),(5, .pointer (some ⟨g5,0,none⟩)),(6, .int .i64 (i_6':Int))]) (by repeat (first|exact Sub.nil|refine Sub.cons rfl ?_|refine eQ rfl a7 ?_|refine eS rfl cR ?_)) (List.Sublist.refl _) ?_;refine kK ?_;have hq:(df (c_4++[(cS r8 i_6')]).length 1)∧_:=dp hk;clear hk;obtain ⟨g30,hk⟩:=hq; (try dsimp only at hk);refine dL (.still 0 (.still 2 (.still 3 (.still 4 (.still 5 (.two 1 6 (.eff 6 (.eff 7 (.still 8 (.eff 9 .done)))) (.eff 1 (.eff 7 (.still 8 (.eff 9 .done)))))))))) [.row g4 26 [.bool false,(.slice none 0 0)], .fr F2] b5 Sx ?_;refine ii ?_;refine eD ?_;refine cX rfl (dc (i:=i_6') rfl rfl rfl hf8_0_0 (List.length_map _) rfl a7) ?_;refine cX rfl (dv 1 (i:=i_6') (j:=0) rfl rfl rfl hf8_0_0 a7) ?_;refine TS.two ?_ ?_
     ·refine dI rfl (cW) rfl rfl (dh 1) (fun w hw=>hw.sub Sx) ?_;refine dH ?_;refine kl ?_;rintro _ _ ⟨g29,rfl,rfl⟩;refine jt ?_;refine q3p ?_;rintro v30 _ ⟨hv30,rfl⟩;refine q1U ?_;refine iE ?_;refine ig ?_;rw [←hn5] at hk;refine K.pick [1,2,3,4] rfl a8 ?_;exact q5g
     ·refine kl ?_;rintro _ _ ⟨g29,rfl,rfl⟩;refine jt ?_;refine q2v ?_;refine q3p ?_;rintro v30 _ ⟨hv30,rfl⟩;refine q1U ?_;refine iE ?_;refine ig ?_;rw [←hn5] at hk;refine K.pick [1,2,3,4] rfl a8 ?_;exact q5g
    ·have p7:=of_decide_eq_false h7;obtain rfl:i_6=0:=a7;replace hk:kk5 c_4=some r:=hk;rw [←hkk5] at hk; (try dsimp only at hk);refine ek ?_;exact cY (c_4,vc_4) ⟨hk,inferInstance⟩ (.c (.c .nil)) (List.Sublist.refl _)
  ·rintro ⟨c_2,vc_2⟩ ⟨hk,oc_2⟩; (try dsimp only at *);rw [←hk3] at hk; (try dsimp only at hk);refine d5 ?_;refine jZ ?_;refine q3K ?_;refine gp ?_;refine jm (fun w hw=>hw.freezeS (i:=3) (j:=0) a8 rfl rfl) ?_;rintro F3 ⟨le2_3,hz3⟩;refine eH ?_;have le1_3:=le1_2.trans le2_3;have hfF3:=hz3.toF rfl (fun _=>rfl);haveI:=hfF3.oneC;obtain rfl:=Option.some.inj hk;exact jj 1 rfl rfl rfl rfl (fun w' hw=>⟨vc_2,F3.toFrz,hfF3,rfl,dK hw (i:=2) rfl hS0 le1_3⟩)
def zex (fuel:Nat)(a:GInt)(b:GInt):Option GInt:=
 (zcQ a).bind fun r10=>
 (zcQ b).bind fun r12=>
 dF (fun (x_1:List Int)=>
  (zcP fuel false x_1).bind fun r25=>
  some r25)
 (fun k2=>
  ej (fun (next5:(List Int×List Int)→Option GInt) (s5:List Int×List Int)=>
   (bif decide (0<(s5.2.length:Int)) then
    (zed fuel s5.1 s5.2).bind fun r19=>
    next5 (s5.2,r19.2)
    else
    k2 s5.1)) fuel (r10,r12))
theorem zgK (F0:Frz)(w:World)(hF0:F0.At w)(a:GInt)(va_1:Value)(ha_1:SlC F0 va_1 1 (a.Digits.map (eK .u8)))(b:GInt)(vb_1:Value)(hb_1:SlC F0 vb_1 1 (b.Digits.map (eK .u8)))(fuel:Nat)(r:GInt)(hr:zex fuel a b=some r):Calls Tryz.prog 130 #[.agg [.bool a.Neg,va_1].toArray, .agg [.bool b.Neg,vb_1].toArray] w fun e w'=>∃(y:Value) (G:Frz),(SlC G y 1 (r.Digits.map (eK .u8)))∧e= .returned (.agg [.bool r.Neg,y].toArray)∧Fx F0 w G w':=by
 have hk:=hr;unfold zex at hk;haveI:=ha_1.oneC;haveI:=hb_1.oneC;obtain ⟨S0,F1,rfl,hS0,hp0⟩:=dY hF0;refine dG Tryz.func130 rfl rfl rfl hp0 ?_;refine fV ?_;rintro _ _ ⟨g2,rfl,rfl⟩;refine q3D ?_;rintro _ _ ⟨g3,rfl,rfl⟩;refine fv ?_;rintro _ _ ⟨g4,rfl,rfl⟩;refine eR ?_;have hq:=dm hk;clear hk;obtain ⟨r10,hr10,hk⟩:=hq;have hq:=dm hk;clear hk;obtain ⟨r12,hr12,hk⟩:=hq; (try dsimp only at hk);refine q3B ?_;refine cX rfl (eP 1) ?_;refine dH ?_;refine c5 rfl (cW) rfl rfl (dg 3 rfl rfl rfl rfl (fun w hw hF=>zdP _ w hF a va_1 ha_1 r10 hr10)) ?_;rintro _ _ ⟨v10_0_0,F2,le1_2,hf10_0_0,hq,rfl⟩;obtain rfl:=hq.symm;haveI:=hf10_0_0.oneC;refine ⟨(fun w hw=>(hw.frLe (i:=3) rfl le1_2).sub Sx),?_⟩;refine dH ?_;refine c5 rfl (cW) rfl rfl (dg 3 rfl rfl rfl rfl (fun w hw hF=>zdP _ w hF b vb_1 (SlC.mono hb_1 le1_2) r12 hr12)) ?_;rintro _ _ ⟨v12_0_0,F3,le2_3,hf12_0_0,hq,rfl⟩;obtain rfl:=hq.symm;have le1_3:=le1_2.trans le2_3;haveI:=hf12_0_0.oneC;refine ⟨(fun w hw=>(hw.frLe (i:=3) rfl le1_3).sub Sx),?_⟩;refine jq ?_;refine kr ?_;have hq:=dP hk;clear hk;obtain ⟨k2,hk2,hk⟩:=hq; (try dsimp only at hk);refine c9 (ι:=List Int×Value×FzB w (fun _=>False) S0) (fun z=>[(4, .pointer (some ⟨g4,0,none⟩)),(5,z.2.1)]) (fun z=>[.row g4 26 [.bool false,(.slice none 0 0)], .fr z.2.2]) (fun z=>k2 z.1=some r∧SlC z.2.2.toFrz z.2.1 1 (z.1.map (eK .u8))∧F3.toFrz.Le z.2.2.toFrz) ?_ ?_
 ·have hq:=ib hk;clear hk;obtain ⟨f5,hf5,hk⟩:=hq;refine ed ?_;refine T.pick [0,3] rfl a8 ?_;refine T.loop (ι:=Nat×List Int×Value×List Int×Value×FzB w (fun _=>False) S0) (fun z=>[(4, .pointer (some ⟨g4,0,none⟩)),(5,z.2.2.1),(6,z.2.2.2.2.1)]) (fun z=>[.row g4 26 [.bool false,(.slice none 0 0)], .fr z.2.2.2.2.2]) (fun z=>ej f5 z.1 (z.2.1,z.2.2.2.1)=some r∧SlC z.2.2.2.2.2.toFrz z.2.2.1 1 (z.2.1.map (eK .u8))∧SlC z.2.2.2.2.2.toFrz z.2.2.2.2.1 1 (z.2.2.2.1.map (eK .u8))∧F3.toFrz.Le z.2.2.2.2.2.toFrz) (fun z=>z.1) (fuel,r10,v10_0_0,r12,v12_0_0,F3) ?_ ?_ ?_ ?_
  ·exact ⟨hk,(SlC.mono hf10_0_0 le2_3),hf12_0_0,(Frz.Le.refl _)⟩
  ·exact ju
  ·exact eb
  ·rintro ⟨m_6,x_3,vx_3,y_4,vy_4,F5⟩ ⟨hk,hx_3,hy_4,le3_5⟩; (try dsimp only at *);haveI:=hx_3.oneC;haveI:=hy_4.oneC;have hq:=ie hk;clear hk;obtain ⟨m_6',rfl,hk⟩:=hq;generalize hn5:ej f5 m_6'=next5 at hk;rw [←hf5] at hk; (try dsimp only at hk);refine iu ?_;refine dr ?_;refine cU (dn rfl rfl hy_4 (List.length_map _)) ?_;have hm14:y_4.length≤9223372036854775807:=(List.length_map _)▸hy_4.max;refine dJ ?_;refine T.cond rfl (fun h7=>?_) (fun h7=>?_)
   ·have p7:=of_decide_eq_true h7;replace hk:=dj hk h7;refine T.skip (K.seq (T.block (T.seq ?_)));have hq:=dm hk;clear hk;obtain ⟨r19,hr19,hk⟩:=hq; (try dsimp only at hk);refine eo ?_;refine cZ (dg 1 rfl rfl rfl rfl (fun w hw hF=>zfB _ w hF x_3 vx_3 hx_3 y_4 vy_4 hy_4 fuel r19 hr19)) ?_;rintro _ _ ⟨⟨v19_0_0,v19_1_0⟩,F6,le5_6,⟨hf19_0_0,hf19_1_0⟩,rfl,rfl⟩;dsimp only at hf19_0_0 hf19_1_0 ⊢;have le3_6:=le3_5.trans le5_6;haveI:=hf19_0_0.oneC;haveI:=hf19_1_0.oneC;refine hN ?_;refine dC (T.region ?_);refine TL.run 4 rfl ?_;refine TL.nil (fk ?_);rw [←hn5] at hk;exact K.next (m_6',y_4,vy_4,r19.2,v19_1_0,F6) ⟨hk,(SlC.mono hy_4 le5_6),hf19_1_0,le3_6⟩ b6 (.c (.c (.c .nil))) (List.Sublist.refl _)
   ·have p7:=of_decide_eq_false h7;replace hk:=di hk h7;refine ek ?_;exact cY (x_3,vx_3,F5) ⟨hk,hx_3,le3_5⟩ (.c (.c .nil)) (List.Sublist.refl _)
 ·rintro ⟨x_1,vx_1,F4⟩ ⟨hk,hx_1,le3_4⟩; (try dsimp only at *);rw [←hk2] at hk; (try dsimp only at hk);have le1_4:=le1_3.trans le3_4;haveI:=hx_1.oneC;refine T.seq ?_;have hq:=dm hk;clear hk;obtain ⟨r25,hr25,hk⟩:=hq; (try dsimp only at hk);refine ec ?_;refine cZ (dg 1 rfl rfl rfl rfl (fun w hw hF=>zd1 _ w hF false x_1 vx_1 hx_1 fuel r25 hr25)) ?_;rintro _ _ ⟨v25_0_1,F7,le4_7,hf25_0_1,rfl,rfl⟩;have le1_7:=le1_4.trans le4_7;haveI:=hf25_0_1.oneC;refine fx ?_;refine gp ?_;obtain rfl:=Option.some.inj hk;exact jj 0 rfl rfl rfl rfl (fun w' hw=>⟨v25_0_1,F7.toFrz,hf25_0_1,rfl,dK hw (i:=1) rfl hS0 le1_7⟩)
def zfm (fuel:Nat)(n:Int):Option GInt:=
 dF (fun (out_1:List Int)=>
  (zcP fuel (decide (n<0)) out_1).bind fun r25=>
  some r25)
 (fun k2=>
  ej (fun (next5:(List Int×Int)→Option GInt) (s5:List Int×Int)=>
   (bif decide (¬s5.2=0) then
    dl (0≤s5.2∧1≤(256:Int)) <|
    dF (fun (d_8:Int)=>
     dl (df (s5.1++[(IntKind.u8.wrap d_8)]).length 1) <|
     dl (0≤s5.2∧s5.2≤9223372036854775807∧1≤(256:Int)) <|
     next5 ((s5.1++[(IntKind.u8.wrap d_8)]),(s5.2 / 256)))
    (fun k9=>
     (bif decide ((s5.2 % 256)<0) then
      k9 (wI (0 - (s5.2 % 256)))
      else
      k9 (s5.2 % 256)))
    else
    k2 s5.1)) fuel ([],n))
theorem zgY (F0:Frz)(w:World)(hF0:F0.At w)(n:Int)(fuel:Nat)(r:GInt)(hr:zfm fuel n=some r):Calls Tryz.prog 117 #[.int .i64 n] w fun e w'=>∃(y:Value) (G:Frz),(SlC G y 1 (r.Digits.map (eK .u8)))∧e= .returned (.agg [.bool r.Neg,y].toArray)∧Fx F0 w G w':=by
 have hk:=hr;unfold zfm at hk;obtain ⟨S0,F1,rfl,hS0,hp0⟩:=dY hF0;refine dG Tryz.func117 rfl rfl rfl hp0 ?_;refine d5 ?_;refine fv ?_;rintro _ _ ⟨g2,rfl,rfl⟩;refine ee ?_;refine dr ?_;refine j0 ?_;refine q4b ?_;have hq:=dP hk;clear hk;obtain ⟨k2,hk2,hk⟩:=hq; (try dsimp only at hk);refine c9 (ι:=List Int×Value) (fun z=>[(0, .int .i64 n),(2, .pointer (some ⟨g2,0,none⟩)),(3,z.2)]) (fun z=>[.sl z.2 5 1 z.1.length (z.1.flatMap (eK .u8)), .row g2 26 [.bool false,(.slice none 0 0)], .fr F1]) (fun z=>k2 z.1=some r∧OneC z.2) ?_ ?_
 ·have hq:=ib hk;clear hk;obtain ⟨f5,hf5,hk⟩:=hq;refine ed ?_;refine T.loop (ι:=Nat×List Int×Value×Int) (fun z=>[(0, .int .i64 n),(2, .pointer (some ⟨g2,0,none⟩)),(3,z.2.2.1),(4, .int .i64 z.2.2.2)]) (fun z=>[.sl z.2.2.1 5 1 z.2.1.length (z.2.1.flatMap (eK .u8)), .row g2 26 [.bool false,(.slice none 0 0)], .fr F1]) (fun z=>ej f5 z.1 (z.2.1,z.2.2.2)=some r∧OneC z.2.2.1) (fun z=>z.1) (fuel,[],(.slice none 0 0),n) ?_ ?_ ?_ ?_
  ·exact kN
  ·exact gR
  ·exact eb
  ·rintro ⟨m_6,out_3,vout_3,m_4⟩ ⟨hk,oout_3⟩; (try dsimp only at *);have hq:=ie hk;clear hk;obtain ⟨m_6',rfl,hk⟩:=hq;generalize hn5:ej f5 m_6'=next5 at hk;rw [←hf5] at hk; (try dsimp only at hk);refine kC ?_;refine T.cond rfl (fun h7=>?_) (fun h7=>?_)
   ·have p7:=of_decide_eq_true h7;replace hk:=dj hk h7;refine lq ?_;have hq:(0≤m_4∧1≤(256:Int))∧_:=dp hk;clear hk;obtain ⟨g12,hk⟩:=hq; (try dsimp only at hk);refine ec ?_;refine cU (i9 (a:=m_4) (b:=(256:Int)) rfl rfl rfl g12) ?_;refine q4f ?_;have hq:=dP hk;clear hk;obtain ⟨k9,hk9,hk⟩:=hq; (try dsimp only at hk);refine c9 (ι:=Int) (fun z=>[(0, .int .i64 n),(2, .pointer (some ⟨g2,0,none⟩)),(3,vout_3),(4, .int .i64 m_4),(5, .int .i64 z)]) (fun z=>[.sl vout_3 5 1 out_3.length (out_3.flatMap (eK .u8)), .row g2 26 [.bool false,(.slice none 0 0)], .fr F1]) (fun z=>k9 z=some r) ?_ ?_
    ·refine T.cond rfl (fun h10=>?_) (fun h10=>?_)
     ·have p10:=of_decide_eq_true h10;replace hk:=dj hk h10;refine ec ?_;refine cU (gZ) ?_;refine ig ?_;exact cY (wI (0 - (m_4 % 256))) hk (.c (.c (.c (.c (.c .nil))))) (List.Sublist.refl _)
     ·have p10:=of_decide_eq_false h10;replace hk:=di hk h10;refine T.skip ?_;exact cY (m_4 % 256) hk (.c (.c (.c (.c (.c .nil))))) (List.Sublist.refl _)
    ·rintro d_8 hk;rw [←hk9] at hk; (try dsimp only at hk);have hq:(df (out_3++[(IntKind.u8.wrap d_8)]).length 1)∧_:=dp hk;clear hk;obtain ⟨g21,hk⟩:=hq; (try dsimp only at hk);refine eo ?_;refine cU (dR (z:=d_8)) ?_;refine ga ?_;rintro _ _ ⟨g20,rfl,rfl⟩;refine cZ (fi 1 0 rfl rfl rfl rfl rfl rfl (jP (ys:=[(IntKind.u8.wrap d_8)])) (jU (enc:=(eK .u8)) (xs:=out_3) (ys:=[(IntKind.u8.wrap d_8)])) g21 a8) ?_;rintro v21 _ ⟨hv21,rfl⟩;refine dr ?_;refine TL.nil (fk (K.seq ?_));have hq:(0≤m_4∧m_4≤9223372036854775807∧1≤(256:Int))∧_:=dp hk;clear hk;obtain ⟨g10,hk⟩:=hq; (try dsimp only at hk);refine ec ?_;refine cU (fB (a:=m_4) (b:=(256:Int)) rfl rfl rfl g10) ?_;refine ig ?_;rw [←hn5] at hk;refine K.pick [1,2,3] rfl a8 ?_;exact K.next (m_6',(out_3++[(IntKind.u8.wrap d_8)]),v21,(m_4 / 256)) ⟨hk,inferInstance⟩ b6 (.c (.c (.c (.c .nil)))) (List.Sublist.refl _)
   ·have p7:=of_decide_eq_false h7;replace hk:=di hk h7;refine ek ?_;exact cY (out_3,vout_3) ⟨hk,inferInstance⟩ (.c (.c (.c .nil))) (List.Sublist.refl _)
 ·rintro ⟨out_1,vout_1⟩ ⟨hk,oout_1⟩; (try dsimp only at *);rw [←hk2] at hk; (try dsimp only at hk);refine T.seq ?_;refine gP (fun w hw=>hw.freezeS (i:=2) (j:=0) a8 rfl rfl) ?_;rintro F2 ⟨le1_2,hz2⟩;refine eH ?_;have hfF2:=hz2.toF rfl (fun _=>rfl);haveI:=hfF2.oneC;have hq:=dm hk;clear hk;obtain ⟨r25,hr25,hk⟩:=hq; (try dsimp only at hk);refine gI ?_;refine cZ (dg 1 rfl rfl rfl rfl (fun w hw hF=>zd1 _ w hF (decide (n<0)) out_1 vout_1 hfF2 fuel r25 hr25)) ?_;rintro _ _ ⟨v25_0_1,F3,le2_3,hf25_0_1,rfl,rfl⟩;have le1_3:=le1_2.trans le2_3;haveI:=hf25_0_1.oneC;refine fx ?_;refine gp ?_;obtain rfl:=Option.some.inj hk;exact jj 0 rfl rfl rfl rfl (fun w' hw=>⟨v25_0_1,F3.toFrz,hf25_0_1,rfl,dK hw (i:=1) rfl hS0 le1_3⟩)
def zb9 (l:List GBidder):Option (List GBidder):=
 dF (fun (out_1:List GBidder)=>
  some out_1)
 (fun k2=>
  dq (fun (i_5:Nat) (next4:List GBidder→Option (List GBidder)) (out_3:List GBidder)=>
   dl (df ([]++(cS l i_5).Blocks).length 8) <|
   dl (df (out_3++[(GBidder.mk ((cS l i_5).ID) ((cS l i_5).Eligibility) ((cS l i_5).Waivers) ([]++(cS l i_5).Blocks))]).length 48) <|
   next4 (out_3++[(GBidder.mk ((cS l i_5).ID) ((cS l i_5).Eligibility) ((cS l i_5).Waivers) ([]++(cS l i_5).Blocks))]))
  (fun (out_3:List GBidder)=>
   k2 out_3) (l.length - 0) 0 [])
theorem zdm (F0:Frz)(w:World)(hF0:F0.At w)(l:List GBidder)(vl:Value)(cl:List (List Value))(hl:SlD cT F0 vl 4 cl l)(r:List GBidder)(hr:zb9 l=some r):Calls Tryz.prog 23 #[vl] w fun e w'=>∃(y:Value×List (List Value)) (G:Frz),(SlD cT G y.1 4 y.2 r)∧e= .returned (y.1)∧Fx F0 w G w':=by
 have hk:=hr;unfold zb9 at hk;haveI:=hl.1.oneC;obtain ⟨S0,F1,rfl,hS0,hp0⟩:=dY hF0;refine dG Tryz.func23 rfl rfl rfl hp0 ?_;refine io ?_;refine dr ?_;refine TL.slNil 57 4 ?_;refine i4 ?_;refine dJ ?_;have hq:=dP hk;clear hk;obtain ⟨k2,hk2,hk⟩:=hq; (try dsimp only at hk);refine c9 (ι:=List GBidder×Value×List (List Value)×FzB w (fun _=>False) S0) (fun z=>[(3,z.2.1)]) (fun z=>[.sl z.2.1 57 4 z.1.length z.2.2.1.flatten, .fr z.2.2.2]) (fun z=>k2 z.1=some r∧OwnD cT z.2.2.2.toFrz 4 z.2.2.1 z.1∧OneC z.2.1∧F1.toFrz.Le z.2.2.2.toFrz) ?_ ?_
 ·have hq:=eX hk;clear hk;obtain ⟨f4,kk4,hf4,hkk4,hk⟩:=hq;refine ed ?_;refine T.loop (ι:=Nat×List GBidder×Value×List (List Value)×FzB w (fun _=>False) S0) (fun z=>[(0,vl),(3,z.2.2.1),(4, .int .i64 (z.1:Int))]) (fun z=>[.sl z.2.2.1 57 4 z.2.1.length z.2.2.2.1.flatten, .fr z.2.2.2.2]) (fun z=>dq f4 kk4 (l.length - z.1) z.1 z.2.1=some r∧OwnD cT z.2.2.2.2.toFrz 4 z.2.2.2.1 z.2.1∧OneC z.2.2.1∧F1.toFrz.Le z.2.2.2.2.toFrz) (fun z=>l.length - z.1) (0,[],(.slice none 0 0),[],F1) ?_ ?_ ?_ ?_
  ·exact ⟨hk,(OwnD.nil _ _ 4),inferInstance,(Frz.Le.refl _)⟩
  ·exact ju
  ·exact eb
  ·rintro ⟨i_5,out_3,vout_3,cout_3,F3⟩ ⟨hk,hout_3,oout_3,le1_3⟩; (try dsimp only at *);refine hD ?_;refine cU (dn rfl rfl (SlD.mono (rep:=cT) (fun _ _ _ _=>GBidder.mono) hl le1_3).1 (SlD.mono (rep:=cT) (fun _ _ _ _=>GBidder.mono) hl le1_3).2.1) ?_;have hm8:l.length≤9223372036854775807:=(SlD.mono (rep:=cT) (fun _ _ _ _=>GBidder.mono) hl le1_3).2.1▸(SlD.mono (rep:=cT) (fun _ _ _ _=>GBidder.mono) hl le1_3).1.max;refine dJ ?_;refine T.cond rfl (fun h6=>?_) (fun h6=>?_)
   ·have p6:=of_decide_eq_true h6;rw [eW a7] at hk;generalize hn4:dq f4 kk4 (l.length - (i_5+1)) (i_5+1)=next4 at hk;rw [←hf4] at hk; (try dsimp only at hk);refine i3 ?_;refine q29 ?_;refine cU (eV 1 (i:=i_5) (j:=0) rfl rfl rfl (SlD.mono (rep:=cT) (fun _ _ _ _=>GBidder.mono) hl le1_3).1 (SlD.mono (rep:=cT) (fun _ _ _ _=>GBidder.mono) hl le1_3).2.1 a7 rfl (d8 ((SlD.mono (rep:=cT) (fun _ _ _ _=>GBidder.mono) hl le1_3).2.2 i_5 a7))) ?_;have hd15_3:=(dM ((SlD.mono (rep:=cT) (fun _ _ _ _=>GBidder.mono) hl le1_3).2.2 i_5 a7)).2;haveI:=hd15_3.oneC;refine fv ?_;rintro _ _ ⟨g5,rfl,rfl⟩;refine fx ?_;refine eR ?_;have hq:(df ([]++(cS l i_5).Blocks).length 8)∧_:=dp hk;clear hk;obtain ⟨g18,hk⟩:=hq; (try dsimp only at hk);refine li ?_;refine TL.slNil 3 1 ?_;refine cZ (fH 0 3 (kD (fun _=>inferInstance)) rfl rfl rfl rfl rfl hd15_3 (zdZ (xs:=([]:List Int))) (zc8 (xs:=([]:List Int))) g18 a8) ?_;rintro v18 _ ⟨hv18,rfl⟩;refine fX ?_;refine dz (gu 1 rfl rfl rfl rfl b8) ?_;refine kJ ?_;refine gP (fun w hw=>hw.freezeS (i:=3) (j:=0) a8 rfl rfl) ?_;rintro F4 ⟨le3_4,hz4⟩;refine eH ?_;have le1_4:=le1_3.trans le3_4;have hfF4:=hz4.toF rfl (fun _=>rfl);haveI:=hfF4.oneC;have hq:(df (out_3++[(GBidder.mk ((cS l i_5).ID) ((cS l i_5).Eligibility) ((cS l i_5).Waivers) ([]++(cS l i_5).Blocks))]).length 48)∧_:=dp hk;clear hk;obtain ⟨g23,hk⟩:=hq; (try dsimp only at hk);refine ec ?_;refine iQ ?_;refine ga ?_;rintro _ _ ⟨g22,rfl,rfl⟩;have hl22:OwnD cT F4.toFrz 4 [[.int .i64 ((cS l i_5).ID), .int .i64 ((cS l i_5).Eligibility), .int .i64 ((cS l i_5).Waivers),v18]] [(GBidder.mk ((cS l i_5).ID) ((cS l i_5).Eligibility) ((cS l i_5).Waivers) ([]++(cS l i_5).Blocks))]:=(eu (OwnD.nil _ _ 4) ⟨_,rfl,hfF4⟩);refine cZ (fi 2 0 rfl rfl rfl rfl rfl rfl (jP (ys:=[(GBidder.mk ((cS l i_5).ID) ((cS l i_5).Eligibility) ((cS l i_5).Waivers) ([]++(cS l i_5).Blocks))])) (zim (cs:=cout_3) (ds:=[[.int .i64 ((cS l i_5).ID), .int .i64 ((cS l i_5).Eligibility), .int .i64 ((cS l i_5).Waivers),v18]])) g23 a8) ?_;rintro v23 _ ⟨hv23,rfl⟩;have ho23:OwnD cT F4.toFrz 4 (cout_3++[[.int .i64 ((cS l i_5).ID), .int .i64 ((cS l i_5).Eligibility), .int .i64 ((cS l i_5).Waivers),v18]]) (out_3++[(GBidder.mk ((cS l i_5).ID) ((cS l i_5).Eligibility) ((cS l i_5).Waivers) ([]++(cS l i_5).Blocks))]):=(eu (OwnD.mono (rep:=cT) (fun _ _ _ _=>GBidder.mono) hout_3 le3_4) ⟨_,rfl,hfF4⟩);refine q3u ?_;rw [←hn4] at hk;refine K.pick [2,3] rfl a8 ?_;exact K.next ((i_5+1),(out_3++[(GBidder.mk ((cS l i_5).ID) ((cS l i_5).Eligibility) ((cS l i_5).Waivers) ([]++(cS l i_5).Blocks))]),v23,(cout_3++[[.int .i64 ((cS l i_5).ID), .int .i64 ((cS l i_5).Eligibility), .int .i64 ((cS l i_5).Waivers),v18]]),F4) ⟨hk,ho23,inferInstance,le1_4⟩ b6 (.c (.c (.c .nil))) (List.Sublist.refl _)
   ·have p6:=of_decide_eq_false h6;rw [eY a7,←hkk4] at hk; (try dsimp only at hk);refine ek ?_;exact cY (out_3,vout_3,cout_3,F3) ⟨hk,hout_3,inferInstance,le1_3⟩ (.c .nil) (List.Sublist.refl _)
 ·rintro ⟨out_1,vout_1,cout_1,F2⟩ ⟨hk,hout_1,oout_1,le1_2⟩; (try dsimp only at *);rw [←hk2] at hk; (try dsimp only at hk);refine fM ?_;refine q1j ?_;rintro F5 ⟨le2_5,hz5⟩;refine eH ?_;have le1_5:=le1_2.trans le2_5;have hfF5:=hz5.toD (OwnD.mono (rep:=cT) (fun _ _ _ _=>GBidder.mono) hout_1 le2_5) rfl;haveI:=hfF5.1.oneC;obtain rfl:=Option.some.inj hk;exact eg rfl rfl (fun w' hw=>⟨(vout_1,cout_1),F5.toFrz,hfF5,rfl,dK hw (i:=0) rfl hS0 le1_5⟩)
def i2 (l:List GProduct):Bool:=
 dF (fun (_:Unit)=>
  true)
 (fun k1=>
  dq (fun (i_3:Nat) (next2:Unit→Bool) (_:Unit)=>
   (bif ((((((((((decide ((cS l i_3).Area<0))||(decide (63<(cS l i_3).Area)))||(decide ((cS l i_3).Category<1)))||(decide (2<(cS l i_3).Category)))||(decide ((cS l i_3).Supply<1)))||(decide (12<(cS l i_3).Supply)))||(decide ((cS l i_3).Units<1)))||(decide (100000<(cS l i_3).Units)))||(decide ((cS l i_3).Reserve<0)))||(decide (549755813888<(cS l i_3).Reserve))) then
    false
    else
    (bif decide (0<(i_3:Int)) then
     (bif ((decide ((cS l i_3).Area<(cS l (((i_3:Int) - 1).toNat)).Area))||((decide ((cS l i_3).Area=(cS l (((i_3:Int) - 1).toNat)).Area))&&((decide ((cS l i_3).Category≤(cS l (((i_3:Int) - 1).toNat)).Category))||(decide (12<wI (((cS l i_3).Supply)+((cS l (((i_3:Int) - 1).toNat)).Supply))))))) then
      false
      else
      next2 ())
     else
     next2 ())))
  (fun (_:Unit)=>
   k1 ()) (l.length - 0) 0 ())
theorem zeQ (F0:Frz)(w:World)(hF0:F0.At w)(l:List GProduct)(vl:Value)(hl:SlC F0 vl 5 (l.map cV)):Calls Tryz.prog 155 #[vl] w fun e w'=>e= .returned (.bool (i2 l))∧Below w.heap.size w w':=by
 obtain ⟨r,hk⟩:∃r,i2 l=r:=⟨_,rfl⟩;rw [hk];unfold i2 at hk;haveI:=hl.oneC;obtain ⟨S0,F1,rfl,hS0,hp0⟩:=dY hF0;refine dG Tryz.func155 rfl rfl rfl hp0 ?_;refine fS ?_;refine i4 ?_;refine dJ ?_;have hq:=dP hk;clear hk;obtain ⟨k1,hk1,hk⟩:=hq; (try dsimp only at hk);refine c9 (ι:=Unit) (fun z=>[]) (fun z=>[.fr F1]) (fun z=>k1 ()=r) ?_ ?_
 ·have hq:=eX hk;clear hk;obtain ⟨f2,kk2,hf2,hkk2,hk⟩:=hq;refine ed ?_;refine T.loop (ι:=Nat) (fun z=>[(0,vl),(3, .int .i64 (z:Int))]) (fun z=>[.fr F1]) (fun z=>dq f2 kk2 (l.length - z) z ()=r) (fun z=>l.length - z) 0 ?_ ?_ ?_ ?_
  ·exact hk
  ·exact (.c (.c .nil))
  ·exact eb
  ·rintro i_3 hk;refine hD ?_;refine j4 ?_;have hm8:l.length≤9223372036854775807:=(List.length_map _)▸hl.max;refine dJ ?_;refine T.cond rfl (fun h4=>?_) (fun h4=>?_)
   ·have p4:=of_decide_eq_true h4;rw [eW a7] at hk;generalize hn2:dq f2 kk2 (l.length - (i_3+1)) (i_3+1)=next2 at hk;rw [←hf2] at hk; (try dsimp only at hk);refine i3 ?_;refine cU (dc (i:=i_3) rfl rfl rfl hl (List.length_map _) rfl a7) ?_;refine cU (fP 0 (i:=i_3) rfl rfl rfl hl a7) ?_;refine fv ?_;rintro _ _ ⟨g4,rfl,rfl⟩;refine fx ?_;refine hI ?_;refine c9 (ι:=Unit) (fun z=>[(0,vl),(3, .int .i64 (i_3:Int)),(4, .pointer (some ⟨g4,0,none⟩)),(63, .bool ((((((((((decide ((cS l i_3).Area<0))||(decide (63<(cS l i_3).Area)))||(decide ((cS l i_3).Category<1)))||(decide (2<(cS l i_3).Category)))||(decide ((cS l i_3).Supply<1)))||(decide (12<(cS l i_3).Supply)))||(decide ((cS l i_3).Units<1)))||(decide (100000<(cS l i_3).Units)))||(decide ((cS l i_3).Reserve<0)))||(decide (549755813888<(cS l i_3).Reserve))))]) (fun z=>[.row g4 55 [.int .i64 ((cS l i_3).Area), .int .i64 ((cS l i_3).Category), .int .i64 ((cS l i_3).Supply), .int .i64 ((cS l i_3).Units), .int .i64 ((cS l i_3).Reserve)], .fr F1]) (fun z=>True) ?_ ?_
    ·refine li ?_;refine d4 ?_;refine db rfl rfl rfl (fun h5=>?_) (fun h5=>?_)
     ·have p5:=of_decide_eq_true h5;refine TL.run 44 rfl ?_;refine e7 ?_;exact cY () trivial (.c (.c (.c (.b (dQ (dQ (dQ (dQ (dQ (dQ (dQ (dQ (dQ h5))))))))).symm .nil)))) (List.Sublist.refl _)
     ·have p5:=of_decide_eq_false h5;refine gX ?_;refine db rfl rfl rfl (fun h6=>?_) (fun h6=>?_)
      ·have p6:=of_decide_eq_true h6;refine TL.run 39 rfl ?_;refine e7 ?_;exact cY () trivial (.c (.c (.c (.b (dQ (dQ (dQ (dQ (dQ (dQ (dQ (dQ (dZ h5 h6))))))))).symm .nil)))) (List.Sublist.refl _)
      ·have p6:=of_decide_eq_false h6;refine gX ?_;refine db rfl rfl rfl (fun h7=>?_) (fun h7=>?_)
       ·have p7:=of_decide_eq_true h7;refine TL.run 34 rfl ?_;refine e7 ?_;exact cY () trivial (.c (.c (.c (.b (dQ (dQ (dQ (dQ (dQ (dQ (dQ (dZ (dZ h5 h6) h7)))))))).symm .nil)))) (List.Sublist.refl _)
       ·have p7:=of_decide_eq_false h7;refine gX ?_;refine db rfl rfl rfl (fun h8=>?_) (fun h8=>?_)
        ·have p8:=of_decide_eq_true h8;refine TL.run 29 rfl ?_;refine e7 ?_;exact cY () trivial (.c (.c (.c (.b (dQ (dQ (dQ (dQ (dQ (dQ (dZ (dZ (dZ h5 h6) h7) h8))))))).symm .nil)))) (List.Sublist.refl _)
        ·have p8:=of_decide_eq_false h8;refine gX ?_;refine db rfl rfl rfl (fun h9=>?_) (fun h9=>?_)
         ·have p9:=of_decide_eq_true h9;refine TL.run 24 rfl ?_;refine e7 ?_;exact cY () trivial (.c (.c (.c (.b (dQ (dQ (dQ (dQ (dQ (dZ (dZ (dZ (dZ h5 h6) h7) h8) h9)))))).symm .nil)))) (List.Sublist.refl _)
         ·have p9:=of_decide_eq_false h9;refine gX ?_;refine db rfl rfl rfl (fun h10=>?_) (fun h10=>?_)
          ·have p10:=of_decide_eq_true h10;refine TL.run 19 rfl ?_;refine e7 ?_;exact cY () trivial (.c (.c (.c (.b (dQ (dQ (dQ (dQ (dZ (dZ (dZ (dZ (dZ h5 h6) h7) h8) h9) h10))))).symm .nil)))) (List.Sublist.refl _)
          ·have p10:=of_decide_eq_false h10;refine gX ?_;refine db rfl rfl rfl (fun h11=>?_) (fun h11=>?_)
           ·have p11:=of_decide_eq_true h11;refine q3W ?_;exact cY () trivial (.c (.c (.c (.b (dQ (dQ (dQ (dZ (dZ (dZ (dZ (dZ (dZ h5 h6) h7) h8) h9) h10) h11)))).symm .nil)))) (List.Sublist.refl _)
           ·have p11:=of_decide_eq_false h11;refine gX ?_;refine db rfl rfl rfl (fun h12=>?_) (fun h12=>?_)
            ·have p12:=of_decide_eq_true h12;refine q2V ?_;exact cY () trivial (.c (.c (.c (.b (dQ (dQ (dZ (dZ (dZ (dZ (dZ (dZ (dZ h5 h6) h7) h8) h9) h10) h11) h12))).symm .nil)))) (List.Sublist.refl _)
            ·have p12:=of_decide_eq_false h12;refine gX ?_;refine db rfl rfl rfl (fun h13=>?_) (fun h13=>?_)
             ·have p13:=of_decide_eq_true h13;refine iz ?_;exact cY () trivial (.c (.c (.c (.b (dQ (dZ (dZ (dZ (dZ (dZ (dZ (dZ (dZ h5 h6) h7) h8) h9) h10) h11) h12) h13)).symm .nil)))) (List.Sublist.refl _)
             ·have p13:=of_decide_eq_false h13;refine fR ?_;refine hY ?_;exact cY () trivial (.c (.c (.c (.b (fg (dZ (dZ (dZ (dZ (dZ (dZ (dZ (dZ h5 h6) h7) h8) h9) h10) h11) h12) h13)) .nil)))) (List.Sublist.refl _)
    ·rintro _ _;refine T.cond rfl (fun h14=>?_) (fun h14=>?_)
     ·replace hk:=dj hk h14;refine kR ?_;subst hk;exact dS
     ·have p14:=h14; (try simp only [gH] at p14);replace hk:=di hk h14;refine ik ?_;refine iZ ?_;refine T.cond rfl (fun h15=>?_) (fun h15=>?_)
      ·have p15:=of_decide_eq_true h15;replace hk:=dj hk h15;refine fM ?_;refine iE ?_;refine cU (dc (i:=((i_3:Int) - 1).toNat) rfl rfl rfl hl (List.length_map _) a7 a7) ?_;refine cU (fP 1 (i:=((i_3:Int) - 1).toNat) rfl rfl rfl hl a7) ?_;refine fv ?_;rintro _ _ ⟨g5,rfl,rfl⟩;refine fx ?_;refine eR ?_;refine c9 (ι:=Unit) (fun z=>[(0,vl),(3, .int .i64 (i_3:Int)),(97, .bool ((decide ((cS l i_3).Area<(cS l (((i_3:Int) - 1).toNat)).Area))||((decide ((cS l i_3).Area=(cS l (((i_3:Int) - 1).toNat)).Area))&&((decide ((cS l i_3).Category≤(cS l (((i_3:Int) - 1).toNat)).Category))||(decide (12<wI (((cS l i_3).Supply)+((cS l (((i_3:Int) - 1).toNat)).Supply))))))))]) (fun z=>[.row g5 55 [.int .i64 ((cS l (((i_3:Int) - 1).toNat)).Area), .int .i64 ((cS l (((i_3:Int) - 1).toNat)).Category), .int .i64 ((cS l (((i_3:Int) - 1).toNat)).Supply), .int .i64 ((cS l (((i_3:Int) - 1).toNat)).Units), .int .i64 ((cS l (((i_3:Int) - 1).toNat)).Reserve)], .row g4 55 [.int .i64 ((cS l i_3).Area), .int .i64 ((cS l i_3).Category), .int .i64 ((cS l i_3).Supply), .int .i64 ((cS l i_3).Units), .int .i64 ((cS l i_3).Reserve)], .fr F1]) (fun z=>True) ?_ ?_
       ·refine fO ?_;refine jc ?_;refine fR ?_;refine d4 ?_;refine db rfl rfl rfl (fun h16=>?_) (fun h16=>?_)
        ·have p16:=of_decide_eq_true h16;refine TL.run 21 rfl ?_;refine e7 ?_;exact cY () trivial (.c (.c (.b (dQ h16).symm .nil))) (List.Sublist.refl _)
        ·have p16:=of_decide_eq_false h16;refine jc ?_;refine fR ?_;refine d4 ?_;refine db rfl rfl rfl (fun h17=>?_) (fun h17=>?_)
         ·have p17:=of_decide_eq_true h17;refine jc ?_;refine fR ?_;refine d4 ?_;refine db rfl rfl rfl (fun h18=>?_) (fun h18=>?_)
          ·have p18:=of_decide_eq_true h18;refine q2V ?_;exact cY () trivial (.c (.c (.b (dZ h16 (kA h17 (dQ h18))).symm .nil))) (List.Sublist.refl _)
          ·have p18:=of_decide_eq_false h18;refine jc ?_;refine fR ?_;refine cU (dd (v:= .int .i64 (wI (((cS l i_3).Supply)+((cS l (((i_3:Int) - 1).toNat)).Supply))))) ?_;refine iz ?_;exact cY () trivial (.c (.c (.b (Eq.trans (Eq.trans (fg h18) (jr h17)) (fg h16)) .nil))) (List.Sublist.refl _)
         ·have p17:=of_decide_eq_false h17;refine TL.run 15 rfl ?_;refine e7 ?_;exact cY () trivial (.c (.c (.b (dZ h16 (gK h17)).symm .nil))) (List.Sublist.refl _)
       ·rintro _ _;refine T.cond rfl (fun h19=>?_) (fun h19=>?_)
        ·replace hk:=dj hk h19;refine kp ?_;subst hk;exact dS
        ·have p19:=h19; (try simp only [gH] at p19);replace hk:=di hk h19;refine q4i ?_;rw [←hn2] at hk;refine q3r ?_;exact q42
      ·have p15:=of_decide_eq_false h15;replace hk:=di hk h15;refine q4i ?_;rw [←hn2] at hk;refine jf ?_;exact q42
   ·have p4:=of_decide_eq_false h4;rw [eY a7,←hkk2] at hk; (try dsimp only at hk);refine ek ?_;exact jh
 ·rintro _ hk;rw [←hk1] at hk; (try dsimp only at hk);refine iU ?_;subst hk;exact dS
def zcj (l:List GProduct)(blocks:List Int):Bool:=
 (bif ((!(i2 l))||(decide (¬(blocks.length:Int)=(l.length:Int)))) then
  false
  else
  dF (fun (_:Unit)=>
   true)
  (fun k3=>
   dq (fun (i_5:Nat) (next4:Unit→Bool) (_:Unit)=>
    (bif ((decide ((cS blocks i_5)<0))||(decide ((cS l i_5).Supply<(cS blocks i_5)))) then
     false
     else
     next4 ()))
   (fun (_:Unit)=>
    k3 ()) (l.length - 0) 0 ()))
theorem zg3 (F0:Frz)(w:World)(hF0:F0.At w)(l:List GProduct)(vl:Value)(hl:SlC F0 vl 5 (l.map cV))(blocks:List Int)(vblocks:Value)(hblocks:SlC F0 vblocks 1 (blocks.map eI)):Calls Tryz.prog 210 #[vl,vblocks] w fun e w'=>e= .returned (.bool (zcj l blocks))∧Below w.heap.size w w':=by
 obtain ⟨r,hk⟩:∃r,zcj l blocks=r:=⟨_,rfl⟩;rw [hk];unfold zcj at hk;haveI:=hl.oneC;haveI:=hblocks.oneC;obtain ⟨S0,F1,rfl,hS0,hp0⟩:=dY hF0;refine dG Tryz.func210 rfl rfl rfl hp0 ?_;refine fS ?_;refine hI ?_;refine c9 (ι:=Unit) (fun z=>[(0,vl),(1,vblocks),(15, .bool ((!(i2 l))||(decide (¬(blocks.length:Int)=(l.length:Int)))))]) (fun z=>[.fr F1]) (fun z=>True) ?_ ?_
 ·refine ec ?_;refine q31 ?_;refine iy ?_;refine db rfl rfl rfl (fun h1=>?_) (fun h1=>?_)
  ·refine q3b ?_;exact q4P
  ·refine dr ?_;refine q34 ?_;have hm11:blocks.length≤9223372036854775807:=(List.length_map _)▸hblocks.max;refine dr ?_;refine j4 ?_;have hm13:l.length≤9223372036854775807:=(List.length_map _)▸hl.max;refine hY ?_;exact q4Q
 ·rintro _ _;have hm11:blocks.length≤9223372036854775807:=(List.length_map _)▸hblocks.max;have hm13:l.length≤9223372036854775807:=(List.length_map _)▸hl.max;refine T.cond rfl (fun h2=>?_) (fun h2=>?_)
  ·replace hk:=dj hk h2;refine gw ?_;subst hk;exact dS
  ·have p2:=h2; (try simp only [gH] at p2);replace hk:=di hk h2;refine il ?_;refine dJ ?_;have hq:=dP hk;clear hk;obtain ⟨k3,hk3,hk⟩:=hq; (try dsimp only at hk);refine c9 (ι:=Unit) (fun z=>[]) (fun z=>[.fr F1]) (fun z=>k3 ()=r) ?_ ?_
   ·have hq:=eX hk;clear hk;obtain ⟨f4,kk4,hf4,hkk4,hk⟩:=hq;refine ed ?_;refine T.loop (ι:=Nat) (fun z=>[(0,vl),(1,vblocks),(5, .int .i64 (z:Int))]) (fun z=>[.fr F1]) (fun z=>dq f4 kk4 (l.length - z) z ()=r) (fun z=>l.length - z) 0 ?_ ?_ ?_ ?_
    ·exact hk
    ·exact ju
    ·exact eb
    ·rintro i_5 hk;refine hD ?_;refine j4 ?_;refine dJ ?_;refine T.cond rfl (fun h6=>?_) (fun h6=>?_)
     ·have p6:=of_decide_eq_true h6;rw [eW a7] at hk;generalize hn4:dq f4 kk4 (l.length - (i_5+1)) (i_5+1)=next4 at hk;rw [←hf4] at hk; (try dsimp only at hk);refine lq ?_;refine c9 (ι:=Unit) (fun z=>[(0,vl),(1,vblocks),(5, .int .i64 (i_5:Int)),(38, .bool ((decide ((cS blocks i_5)<0))||(decide ((cS l i_5).Supply<(cS blocks i_5)))))]) (fun z=>[.fr F1]) (fun z=>True) ?_ ?_
      ·refine dL (sN 0 16 (.still 16 .done)) _ b5 (List.Sublist.refl _) ?_;refine q26 ?_;refine ep rfl rfl rfl rfl (fun h7=>?_) (fun h7=>?_)
       ·have p7:=of_decide_eq_true h7;refine TS.run 11 rfl ?_;refine TS.done ?_;exact cY () trivial (.c (.c (.c (.b (dQ h7).symm .nil)))) (List.Sublist.refl _)
       ·have p7:=of_decide_eq_false h7;refine q26 ?_;refine cX rfl (dc (i:=i_5) rfl rfl rfl hl (List.length_map _) rfl a7) ?_;refine cX rfl (fm rfl rfl hl (List.length_map _) a7) ?_;refine cX rfl (dv 0 (i:=i_5) (j:=2) rfl rfl rfl hl a7) ?_;refine jq ?_;exact cY () trivial (.c (.c (.c (.b (fg h7) .nil)))) (List.Sublist.refl _)
      ·rintro _ _;refine T.cond rfl (fun h8=>?_) (fun h8=>?_)
       ·replace hk:=dj hk h8;refine kp ?_;subst hk;exact dS
       ·have p8:=h8; (try simp only [gH] at p8);replace hk:=di hk h8;refine q4i ?_;rw [←hn4] at hk;exact K.next (i_5+1) hk a7 (.c (.c (.c .nil))) (List.Sublist.refl _)
     ·have p6:=of_decide_eq_false h6;rw [eY a7,←hkk4] at hk; (try dsimp only at hk);refine ek ?_;exact jh
   ·rintro _ hk;rw [←hk3] at hk; (try dsimp only at hk);refine iU ?_;subst hk;exact dS
def zcy (l:List GProduct):Option (List Int):=
 dF (fun (out_1:List Int)=>
  some out_1)
 (fun k2=>
  dq (fun (i_5:Nat) (next4:List Int→Option (List Int)) (out_3:List Int)=>
   dl (df (out_3++[(cS l i_5).Units]).length 8) <|
   next4 (out_3++[(cS l i_5).Units]))
  (fun (out_3:List Int)=>
   k2 out_3) (l.length - 0) 0 [])
theorem ze5 (F0:Frz)(w:World)(hF0:F0.At w)(l:List GProduct)(vl:Value)(hl:SlC F0 vl 5 (l.map cV))(r:List Int)(hr:zcy l=some r):Calls Tryz.prog 159 #[vl] w fun e w'=>∃(y:Value) (G:Frz),(SlC G y 1 (r.map eI))∧e= .returned (y)∧Fx F0 w G w':=by
 have hk:=hr;unfold zcy at hk;haveI:=hl.oneC;obtain ⟨S0,F1,rfl,hS0,hp0⟩:=dY hF0;refine dG Tryz.func159 rfl rfl rfl hp0 ?_;refine io ?_;refine q3G ?_;have hq:=dP hk;clear hk;obtain ⟨k2,hk2,hk⟩:=hq; (try dsimp only at hk);refine c9 (ι:=List Int×Value) (fun z=>[(3,z.2)]) (fun z=>[.sl z.2 3 1 z.1.length (z.1.flatMap eI), .fr F1]) (fun z=>k2 z.1=some r∧OneC z.2) ?_ ?_
 ·have hq:=eX hk;clear hk;obtain ⟨f4,kk4,hf4,hkk4,hk⟩:=hq;refine ed ?_;refine T.loop (ι:=Nat×List Int×Value) (fun z=>[(0,vl),(3,z.2.2),(4, .int .i64 (z.1:Int))]) (fun z=>[.sl z.2.2 3 1 z.2.1.length (z.2.1.flatMap eI), .fr F1]) (fun z=>dq f4 kk4 (l.length - z.1) z.1 z.2.1=some r∧OneC z.2.2) (fun z=>l.length - z.1) (0,[],(.slice none 0 0)) ?_ ?_ ?_ ?_
  ·exact kN
  ·exact ju
  ·exact eb
  ·rintro ⟨i_5,out_3,vout_3⟩ ⟨hk,oout_3⟩; (try dsimp only at *);refine hD ?_;refine j4 ?_;have hm7:l.length≤9223372036854775807:=(List.length_map _)▸hl.max;refine dJ ?_;refine T.cond rfl (fun h6=>?_) (fun h6=>?_)
   ·have p6:=of_decide_eq_true h6;rw [eW a7] at hk;generalize hn4:dq f4 kk4 (l.length - (i_5+1)) (i_5+1)=next4 at hk;rw [←hf4] at hk; (try dsimp only at hk);refine kK ?_;have hq:(df (out_3++[(cS l i_5).Units]).length 8)∧_:=dp hk;clear hk;obtain ⟨g18,hk⟩:=hq; (try dsimp only at hk);refine gI ?_;refine q30 ?_;refine q3F ?_;refine cU (dv 1 (i:=i_5) (j:=3) rfl rfl rfl hl a7) ?_;refine ga ?_;rintro _ _ ⟨g17,rfl,rfl⟩;refine cZ (fi 1 0 rfl rfl rfl rfl rfl rfl (jP (ys:=[(cS l i_5).Units])) (jU (enc:=eI) (xs:=out_3) (ys:=[(cS l i_5).Units])) g18 a8) ?_;rintro v18 _ ⟨hv18,rfl⟩;refine q3u ?_;rw [←hn4] at hk;refine q3J ?_;exact K.next ((i_5+1),(out_3++[(cS l i_5).Units]),v18) ⟨hk,inferInstance⟩ b6 (.c (.c (.c .nil))) (List.Sublist.refl _)
   ·have p6:=of_decide_eq_false h6;rw [eY a7,←hkk4] at hk; (try dsimp only at hk);refine ek ?_;exact q4H
 ·rintro ⟨out_1,vout_1⟩ ⟨hk,oout_1⟩; (try dsimp only at *);rw [←hk2] at hk; (try dsimp only at hk);refine fM ?_;refine q1j ?_;rintro F2 ⟨le1_2,hz2⟩;refine eH ?_;have hfF2:=hz2.toF rfl (fun _=>rfl);haveI:=hfF2.oneC;obtain rfl:=Option.some.inj hk;exact q5f
def zdl (fuel:Nat)(a:List Int)(b:List Int):Option Int:=
 dF (fun (n_1:Int)=>
  some n_1)
 (fun k2=>
  ej (fun (next5:(Int×Int)→Option Int) (s5:Int×Int)=>
   (bif ((decide (s5.2<(a.length:Int)))&&(decide (s5.2<(b.length:Int)))) then
    dl (0≤s5.2∧s5.2<(a.length:Int)) <|
    next5 (wI (s5.1+(wI ((cS a s5.2.toNat) * (cS b s5.2.toNat)))),(s5.2+1))
    else
    k2 s5.1)) fuel (0,0))
theorem zfy (F0:Frz)(w:World)(hF0:F0.At w)(a:List Int)(va:Value)(ha:SlC F0 va 1 (a.map eI))(b:List Int)(vb:Value)(hb:SlC F0 vb 1 (b.map eI))(fuel:Nat)(r:Int)(hr:zdl fuel a b=some r):Calls Tryz.prog 158 #[va,vb] w fun e w'=>e= .returned (.int .i64 r)∧Below w.heap.size w w':=by
 have hk:=hr;unfold zdl at hk;haveI:=ha.oneC;haveI:=hb.oneC;obtain ⟨S0,F1,rfl,hS0,hp0⟩:=dY hF0;refine dG Tryz.func158 rfl rfl rfl hp0 ?_;refine io ?_;refine jl ?_;refine dJ ?_;have hq:=dP hk;clear hk;obtain ⟨k2,hk2,hk⟩:=hq; (try dsimp only at hk);refine c9 (ι:=Int) (fun z=>[(5, .int .i64 z)]) (fun z=>[.fr F1]) (fun z=>k2 z=some r) ?_ ?_
 ·have hq:=ib hk;clear hk;obtain ⟨f5,hf5,hk⟩:=hq;refine ed ?_;refine T.loop (ι:=Nat×Int×Int) (fun z=>[(0,va),(1,vb),(5, .int .i64 z.2.1),(6, .int .i64 z.2.2)]) (fun z=>[.fr F1]) (fun z=>ej f5 z.1 (z.2.1,z.2.2)=some r) (fun z=>z.1) (fuel,0,0) ?_ ?_ ?_ ?_
  ·exact hk
  ·exact gR
  ·exact eb
  ·rintro ⟨m_6,n_3,i_4⟩ hk; (try dsimp only at *);have hq:=ie hk;clear hk;obtain ⟨m_6',rfl,hk⟩:=hq;generalize hn5:ej f5 m_6'=next5 at hk;rw [←hf5] at hk; (try dsimp only at hk);refine T.seq (T.seq ?_);refine c9 (ι:=Unit) (fun z=>[(0,va),(1,vb),(5, .int .i64 n_3),(6, .int .i64 i_4),(16, .bool ((decide (i_4<(a.length:Int)))&&(decide (i_4<(b.length:Int)))))]) (fun z=>[.fr F1]) (fun z=>True) ?_ ?_
   ·refine eo ?_;refine ky ?_;have hm9:a.length≤9223372036854775807:=(List.length_map _)▸ha.max;refine d4 ?_;refine db rfl rfl rfl (fun h7=>?_) (fun h7=>?_)
    ·have p7:=of_decide_eq_true h7;refine d4 ?_;refine q2t ?_;have hm14:b.length≤9223372036854775807:=(List.length_map _)▸hb.max;refine hY ?_;exact cY () trivial (.c (.c (.c (.c (.b (jr h7) .nil))))) (List.Sublist.refl _)
    ·have p7:=of_decide_eq_false h7;refine jH ?_;exact cY () trivial (.c (.c (.c (.c (.b (gK h7).symm .nil))))) (List.Sublist.refl _)
   ·rintro _ _;have hm9:a.length≤9223372036854775807:=(List.length_map _)▸ha.max;have hm14:b.length≤9223372036854775807:=(List.length_map _)▸hb.max;refine T.cond rfl (fun h8=>?_) (fun h8=>?_)
    ·have p8:=h8; (try simp only [gH] at p8);replace hk:=dj hk h8;refine kK ?_;have hq:(0≤i_4∧i_4<(a.length:Int))∧_:=dp hk;clear hk;obtain ⟨g22,hk⟩:=hq; (try dsimp only at hk);refine dL (sN 0 11 (.still 11 .done)) _ b5 (List.Sublist.refl _) ?_;refine fj ?_;refine cX rfl (dc (i:=i_4.toNat) rfl rfl rfl ha (List.length_map _) a7 a7) ?_;refine cX rfl (dv 0 (i:=i_4.toNat) (j:=0) rfl rfl rfl ha a7) ?_;refine eD ?_;refine cX rfl (dc (i:=i_4.toNat) rfl rfl rfl hb (List.length_map _) a7 a7) ?_;refine cX rfl (dv 0 (i:=i_4.toNat) (j:=0) rfl rfl rfl hb a7) ?_;refine cX rfl (dd (v:= .int .i64 (wI ((cS a i_4.toNat) * (cS b i_4.toNat))))) ?_;refine cX rfl (dd (v:= .int .i64 (wI (n_3+(wI ((cS a i_4.toNat) * (cS b i_4.toNat))))))) ?_;refine iF ?_;refine fk (K.seq (T.region ?_));refine q2d ?_;rw [←hn5] at hk;exact K.next (m_6',wI (n_3+(wI ((cS a i_4.toNat) * (cS b i_4.toNat)))),(i_4+1)) hk b6 (.c (.c (.c (.c .nil)))) (List.Sublist.refl _)
    ·replace hk:=di hk h8;refine ek ?_;exact cY n_3 hk (.c .nil) (List.Sublist.refl _)
 ·rintro n_1 hk;rw [←hk2] at hk; (try dsimp only at hk);refine kM ?_;obtain rfl:=Option.some.inj hk;exact dS
def zci (fuel:Nat)(l:List GProduct)(blocks:List Int):Option (Int×Int):=
 (bif !(zcj l blocks) then
  some (0,2)
  else
  (zcy l).bind fun r11=>
  (zdl fuel r11 blocks).bind fun r13=>
  some (r13,0))
theorem zhd (F0:Frz)(w:World)(hF0:F0.At w)(l:List GProduct)(vl:Value)(hl:SlC F0 vl 5 (l.map cV))(blocks:List Int)(vblocks:Value)(hblocks:SlC F0 vblocks 1 (blocks.map eI))(fuel:Nat)(r:Int×Int)(hr:zci fuel l blocks=some r):Calls Tryz.prog 154 #[vl,vblocks] w fun e w'=>e= .returned (.tuple #[.int .i64 r.1, .int .i64 r.2])∧Below w.heap.size w w':=by
 have hk:=hr;unfold zci at hk;haveI:=hl.oneC;haveI:=hblocks.oneC;obtain ⟨S0,F1,rfl,hS0,hp0⟩:=dY hF0;refine dG Tryz.func154 rfl rfl rfl hp0 ?_;refine fM ?_;refine i4 ?_;refine d4 ?_;refine cZ (da rfl rfl rfl (fun w hw=>zg3 _ w (hw.fr (i:=0) rfl) l vl hl blocks vblocks hblocks)) ?_;refine kG ?_;refine T.cond rfl (fun h1=>?_) (fun h1=>?_)
 ·replace hk:=dj hk h1;refine jp ?_;obtain rfl:=Option.some.inj hk;exact j7
 ·replace hk:=di hk h1;refine fD ?_;have hq:=dm hk;clear hk;obtain ⟨r11,hr11,hk⟩:=hq;have hq:=dm hk;clear hk;obtain ⟨r13,hr13,hk⟩:=hq; (try dsimp only at hk);refine ec ?_;refine cZ (dg 0 rfl rfl rfl rfl (fun w hw hF=>ze5 _ w hF l vl hl r11 hr11)) ?_;rintro _ _ ⟨v11_0_0,F2,le1_2,hf11_0_0,hq,rfl⟩;obtain rfl:=hq.symm;haveI:=hf11_0_0.oneC;refine dr ?_;refine cZ (da rfl rfl rfl (fun w hw=>zfy _ w (hw.fr (i:=0) rfl) r11 v11_0_0 hf11_0_0 blocks vblocks (SlC.mono hblocks le1_2) fuel r13 hr13)) ?_;refine iy ?_;refine gp ?_;obtain rfl:=Option.some.inj hk;exact j7
def zbu (fuel:Nat)(l:List GProduct)(bidders:List GBidder):Option Bool:=
 dF (fun (_:Unit)=>
  some (i2 l))
 (fun k1=>
  dq (fun (i_3:Nat) (next2:Unit→Option Bool) (_:Unit)=>
   (bif (((((((decide ((cS bidders i_3).ID<0))||(decide (31<(cS bidders i_3).ID)))||(decide ((cS bidders i_3).Eligibility<0)))||(decide (76800000<(cS bidders i_3).Eligibility)))||(decide ((cS bidders i_3).Waivers<0)))||(decide (3<(cS bidders i_3).Waivers)))||((decide (0<(i_3:Int)))&&(decide ((cS bidders i_3).ID≤(cS bidders (((i_3:Int) - 1).toNat)).ID)))) then
    some false
    else
    (zci fuel l ((cS bidders i_3).Blocks)).bind fun r66=>
    (bif ((decide (¬r66.2=0))||(decide ((cS bidders i_3).Eligibility<r66.1))) then
     some false
     else
     next2 ())))
  (fun (_:Unit)=>
   k1 ()) (bidders.length - 0) 0 ())
theorem zfd (F0:Frz)(w:World)(hF0:F0.At w)(l:List GProduct)(vl:Value)(hl:SlC F0 vl 5 (l.map cV))(bidders:List GBidder)(vbidders:Value)(cbidders:List (List Value))(hbidders:SlD cT F0 vbidders 4 cbidders bidders)(fuel:Nat)(r:Bool)(hr:zbu fuel l bidders=some r):Calls Tryz.prog 70 #[vl,vbidders] w fun e w'=>e= .returned (.bool r)∧Below w.heap.size w w':=by
 have hk:=hr;unfold zbu at hk;haveI:=hl.oneC;haveI:=hbidders.1.oneC;obtain ⟨S0,F1,rfl,hS0,hp0⟩:=dY hF0;refine dG Tryz.func70 rfl rfl rfl hp0 ?_;refine fS ?_;refine i4 ?_;refine dJ ?_;have hq:=dP hk;clear hk;obtain ⟨k1,hk1,hk⟩:=hq; (try dsimp only at hk);refine c9 (ι:=Unit) (fun z=>[(0,vl)]) (fun z=>[.fr F1]) (fun z=>k1 ()=some r) ?_ ?_
 ·have hq:=eX hk;clear hk;obtain ⟨f2,kk2,hf2,hkk2,hk⟩:=hq;refine ed ?_;refine T.loop (ι:=Nat) (fun z=>[(0,vl),(1,vbidders),(5, .int .i64 (z:Int))]) (fun z=>[.fr F1]) (fun z=>dq f2 kk2 (bidders.length - z) z ()=some r) (fun z=>bidders.length - z) 0 ?_ ?_ ?_ ?_
  ·exact hk
  ·exact ju
  ·exact eb
  ·rintro i_3 hk;refine hD ?_;refine q2D ?_;have hm11:bidders.length≤9223372036854775807:=hbidders.2.1▸hbidders.1.max;refine dJ ?_;refine T.cond rfl (fun h4=>?_) (fun h4=>?_)
   ·have p4:=of_decide_eq_true h4;rw [eW a7] at hk;generalize hn2:dq f2 kk2 (bidders.length - (i_3+1)) (i_3+1)=next2 at hk;rw [←hf2] at hk; (try dsimp only at hk);refine i3 ?_;refine cU (dc (i:=i_3) rfl rfl rfl hbidders.1 hbidders.2.1 rfl a7) ?_;refine cU (eV 0 (i:=i_3) (j:=0) rfl rfl rfl hbidders.1 hbidders.2.1 a7 rfl (d8 (hbidders.2.2 i_3 a7))) ?_;have hd18_3:=(dM (hbidders.2.2 i_3 a7)).2;haveI:=hd18_3.oneC;refine fv ?_;rintro _ _ ⟨g6,rfl,rfl⟩;refine fx ?_;refine hI ?_;refine c9 (ι:=Unit) (fun z=>[(0,vl),(1,vbidders),(5, .int .i64 (i_3:Int)),(6, .pointer (some ⟨g6,0,none⟩)),(61, .bool (((((((decide ((cS bidders i_3).ID<0))||(decide (31<(cS bidders i_3).ID)))||(decide ((cS bidders i_3).Eligibility<0)))||(decide (76800000<(cS bidders i_3).Eligibility)))||(decide ((cS bidders i_3).Waivers<0)))||(decide (3<(cS bidders i_3).Waivers)))||((decide (0<(i_3:Int)))&&(decide ((cS bidders i_3).ID≤(cS bidders (((i_3:Int) - 1).toNat)).ID)))))]) (fun z=>[.row g6 57 [.int .i64 ((cS bidders i_3).ID), .int .i64 ((cS bidders i_3).Eligibility), .int .i64 ((cS bidders i_3).Waivers),(cS (cS cbidders i_3) 3)], .fr F1]) (fun z=>True) ?_ ?_
    ·refine dL (sN 0 42 (.still 42 .done)) _ b5 (List.Sublist.refl _) ?_;refine gh ?_;refine eD ?_;refine ep rfl rfl rfl rfl (fun h5=>?_) (fun h5=>?_)
     ·have p5:=of_decide_eq_true h5;refine TS.run 39 rfl ?_;refine TS.done ?_;exact cY () trivial (.c (.c (.c (.c (.b (dQ (dQ (dQ (dQ (dQ (dQ h5)))))).symm .nil))))) (List.Sublist.refl _)
     ·have p5:=of_decide_eq_false h5;refine gh ?_;refine fj ?_;refine ep rfl rfl rfl rfl (fun h6=>?_) (fun h6=>?_)
      ·have p6:=of_decide_eq_true h6;refine TS.run 34 rfl ?_;refine TS.done ?_;exact cY () trivial (.c (.c (.c (.c (.b (dQ (dQ (dQ (dQ (dQ (dZ h5 h6)))))).symm .nil))))) (List.Sublist.refl _)
      ·have p6:=of_decide_eq_false h6;refine gh ?_;refine fj ?_;refine ep rfl rfl rfl rfl (fun h7=>?_) (fun h7=>?_)
       ·have p7:=of_decide_eq_true h7;refine TS.run 29 rfl ?_;refine TS.done ?_;exact cY () trivial (.c (.c (.c (.c (.b (dQ (dQ (dQ (dQ (dZ (dZ h5 h6) h7))))).symm .nil))))) (List.Sublist.refl _)
       ·have p7:=of_decide_eq_false h7;refine gh ?_;refine fj ?_;refine ep rfl rfl rfl rfl (fun h8=>?_) (fun h8=>?_)
        ·have p8:=of_decide_eq_true h8;refine TS.run 24 rfl ?_;refine TS.done ?_;exact cY () trivial (.c (.c (.c (.c (.b (dQ (dQ (dQ (dZ (dZ (dZ h5 h6) h7) h8)))).symm .nil))))) (List.Sublist.refl _)
        ·have p8:=of_decide_eq_false h8;refine gh ?_;refine fj ?_;refine ep rfl rfl rfl rfl (fun h9=>?_) (fun h9=>?_)
         ·have p9:=of_decide_eq_true h9;refine TS.run 19 rfl ?_;refine TS.done ?_;exact cY () trivial (.c (.c (.c (.c (.b (dQ (dQ (dZ (dZ (dZ (dZ h5 h6) h7) h8) h9))).symm .nil))))) (List.Sublist.refl _)
         ·have p9:=of_decide_eq_false h9;refine gh ?_;refine fj ?_;refine ep rfl rfl rfl rfl (fun h10=>?_) (fun h10=>?_)
          ·have p10:=of_decide_eq_true h10;refine TS.run 14 rfl ?_;refine TS.done ?_;exact cY () trivial (.c (.c (.c (.c (.b (dQ (dZ (dZ (dZ (dZ (dZ h5 h6) h7) h8) h9) h10)).symm .nil))))) (List.Sublist.refl _)
          ·have p10:=of_decide_eq_false h10;refine fj ?_;refine ep rfl rfl rfl rfl (fun h11=>?_) (fun h11=>?_)
           ·have p11:=of_decide_eq_true h11;refine gh ?_;refine eD ?_;refine q3M ?_;refine cX rfl (dc (i:=((i_3:Int) - 1).toNat) rfl rfl rfl hbidders.1 hbidders.2.1 a7 a7) ?_;refine cX rfl (fm rfl rfl hbidders.1 hbidders.2.1 a7) ?_;refine cX rfl (eZ 1 (i:=((i_3:Int) - 1).toNat) (j:=0) rfl rfl rfl hbidders.1 hbidders.2.1 a7 rfl (fT (hbidders.2.2 (((i_3:Int) - 1).toNat) a7))) ?_;refine fj ?_;refine TS.done ?_;exact cY () trivial (.c (.c (.c (.c (.b (Eq.trans (jr h11) (fg (dZ (dZ (dZ (dZ (dZ h5 h6) h7) h8) h9) h10))) .nil))))) (List.Sublist.refl _)
           ·have p11:=of_decide_eq_false h11;refine TS.run 11 rfl ?_;refine TS.done ?_;exact cY () trivial (.c (.c (.c (.c (.b (dZ (dZ (dZ (dZ (dZ (dZ h5 h6) h7) h8) h9) h10) (gK h11)).symm .nil))))) (List.Sublist.refl _)
    ·rintro _ _;refine T.cond rfl (fun h12=>?_) (fun h12=>?_)
     ·replace hk:=dj hk h12;refine kR ?_;obtain rfl:=Option.some.inj hk;exact dS
     ·have p12:=h12; (try simp only [gH] at p12);replace hk:=di hk h12;refine fD ?_;have hq:=dm hk;clear hk;obtain ⟨r66,hr66,hk⟩:=hq; (try dsimp only at hk);refine ec ?_;refine fR ?_;refine cZ (da rfl rfl rfl (fun w hw=>zhd _ w (hw.fr (i:=1) rfl) l vl hl ((cS bidders i_3).Blocks) (cS (cS cbidders i_3) 3) hd18_3 fuel r66 hr66)) ?_;refine dU ?_;refine hN ?_;refine eR ?_;refine c9 (ι:=Unit) (fun z=>[(0,vl),(1,vbidders),(5, .int .i64 (i_3:Int)),(76, .bool ((decide (¬r66.2=0))||(decide ((cS bidders i_3).Eligibility<r66.1))))]) (fun z=>[.row g6 57 [.int .i64 ((cS bidders i_3).ID), .int .i64 ((cS bidders i_3).Eligibility), .int .i64 ((cS bidders i_3).Waivers),(cS (cS cbidders i_3) 3)], .fr F1]) (fun z=>True) ?_ ?_
      ·refine gI ?_;refine db rfl rfl rfl (fun h13=>?_) (fun h13=>?_)
       ·have p13:=of_decide_eq_true h13;refine jH ?_;exact cY () trivial (.c (.c (.c (.b (dQ h13).symm .nil)))) (List.Sublist.refl _)
       ·have p13:=of_decide_eq_false h13;refine dr ?_;refine fR ?_;refine hY ?_;exact cY () trivial (.c (.c (.c (.b (fg h13) .nil)))) (List.Sublist.refl _)
      ·rintro _ _;refine T.cond rfl (fun h14=>?_) (fun h14=>?_)
       ·replace hk:=dj hk h14;refine kp ?_;obtain rfl:=Option.some.inj hk;exact dS
       ·have p14:=h14; (try simp only [gH] at p14);replace hk:=di hk h14;refine q4i ?_;rw [←hn2] at hk;refine jf ?_;exact K.next (i_3+1) hk a7 (.c (.c (.c .nil))) (List.Sublist.refl _)
   ·have p4:=of_decide_eq_false h4;rw [eY a7,←hkk2] at hk; (try dsimp only at hk);refine ek ?_;exact cY () hk (.c .nil) (List.Sublist.refl _)
 ·rintro _ hk;rw [←hk1] at hk; (try dsimp only at hk);refine fS ?_;refine q31 ?_;refine dU ?_;refine gq ?_;obtain rfl:=Option.some.inj hk;exact dS
def zdU (fuel:Nat)(l:List GProduct)(bidders:List GBidder)(i:GIncrement)(key:List Int):Option (Gbandplanref36_Auction×Int):=
 (zbu fuel l bidders).bind fun r14=>
 (bif ((((!r14)||(!(kO i)))||(decide ((key.length:Int)<1)))||(decide (32<(key.length:Int)))) then
  some ((Gbandplanref36_Auction.mk [] [] (GIncrement.mk 0 0) [] [] 0),2)
  else
  dl (df ([]++l).length 40) <|
  (zb9 bidders).bind fun r35=>
  dl (df ([]++key).length 1) <|
  dF (fun (c_6:List Int)=>
   some ((Gbandplanref36_Auction.mk ([]++l) r35 (GIncrement.mk i.Activity i.Step) ([]++key) c_6 0),0))
  (fun k7=>
   dq (fun (k_10:Nat) (next9:List Int→Option (Gbandplanref36_Auction×Int)) (c_8:List Int)=>
    dl (df (c_8++[(cS l k_10).Reserve]).length 8) <|
    next9 (c_8++[(cS l k_10).Reserve]))
   (fun (c_8:List Int)=>
    k7 c_8) (l.length - 0) 0 []))
theorem zgi (F0:Frz)(w:World)(hF0:F0.At w)(l:List GProduct)(vl:Value)(hl:SlC F0 vl 5 (l.map cV))(bidders:List GBidder)(vbidders:Value)(cbidders:List (List Value))(hbidders:SlD cT F0 vbidders 4 cbidders bidders)(i:GIncrement)(key:List Int)(vkey:Value)(hkey:SlC F0 vkey 1 (key.map (eK .u8)))(fuel:Nat)(r:Gbandplanref36_Auction×Int)(hr:zdU fuel l bidders i key=some r):Calls Tryz.prog 24 #[vl,vbidders, .agg [.int .i64 i.Activity, .int .i64 i.Step].toArray,vkey] w fun e w'=>∃(y:Value×Value×List (List Value)×Value×Value) (G:Frz),(SlC G y.1 5 (r.1.Products.map cV)∧SlD cT G y.2.1 4 y.2.2.1 r.1.Bidders∧SlC G y.2.2.2.1 1 (r.1.Key.map (eK .u8))∧SlC G y.2.2.2.2 1 (r.1.Posted.map eI))∧e= .returned (.tuple #[.agg [y.1,y.2.1, .int .i64 r.1.Increment.Activity, .int .i64 r.1.Increment.Step,y.2.2.2.1,y.2.2.2.2, .int .i64 r.1.Rounds].toArray, .int .i64 r.2])∧Fx F0 w G w':=by
 have hk:=hr;unfold zdU at hk;haveI:=hl.oneC;haveI:=hbidders.1.oneC;haveI:=hkey.oneC;obtain ⟨S0,F1,rfl,hS0,hp0⟩:=dY hF0;refine dG Tryz.func24 rfl rfl rfl hp0 ?_;refine fV ?_;rintro _ _ ⟨g6,rfl,rfl⟩;refine fv ?_;rintro _ _ ⟨g8,rfl,rfl⟩;refine jC ?_;have hq:=dm hk;clear hk;obtain ⟨r14,hr14,hk⟩:=hq; (try dsimp only at hk);refine c9 (ι:=Unit) (fun z=>[(0,vl),(1,vbidders),(3,vkey),(6, .pointer (some ⟨g6,0,none⟩)),(8, .pointer (some ⟨g8,0,none⟩)),(30, .bool ((((!r14)||(!(kO i)))||(decide ((key.length:Int)<1)))||(decide (32<(key.length:Int)))))]) (fun z=>[.row g8 51 [(.slice none 0 0),(.slice none 0 0), .int .i64 0, .int .i64 0,(.slice none 0 0),(.slice none 0 0), .int .i64 0], .row g6 23 [.int .i64 i.Activity, .int .i64 i.Step], .fr F1]) (fun z=>True) ?_ ?_
 ·refine eo ?_;refine cZ (da rfl rfl rfl (fun w hw=>zfd _ w (hw.fr (i:=2) rfl) l vl hl bidders vbidders cbidders hbidders fuel r14 hr14)) ?_;refine iy ?_;refine db rfl rfl rfl (fun h1=>?_) (fun h1=>?_)
  ·refine q3W ?_;exact cY () trivial (.c (.c (.c (.c (.c (.b (dQ (dQ (dQ h1))).symm .nil)))))) (List.Sublist.refl _)
  ·refine jZ ?_;refine cZ (da rfl rfl rfl (fun w hw=>zfW _ w (hw.fr (i:=2) rfl) i)) ?_;refine kV ?_;refine db rfl rfl rfl (fun h2=>?_) (fun h2=>?_)
   ·refine q2V ?_;exact cY () trivial (.c (.c (.c (.c (.c (.b (dQ (dQ (dZ h1 h2))).symm .nil)))))) (List.Sublist.refl _)
   ·refine q1J ?_;have hm23:key.length≤9223372036854775807:=(List.length_map _)▸hkey.max;refine fA ?_;refine db rfl rfl rfl (fun h3=>?_) (fun h3=>?_)
    ·have p3:=of_decide_eq_true h3;refine iz ?_;exact cY () trivial (.c (.c (.c (.c (.c (.b (dQ (dZ (dZ h1 h2) h3)).symm .nil)))))) (List.Sublist.refl _)
    ·have p3:=of_decide_eq_false h3;refine q1J ?_;refine hY ?_;exact cY () trivial (.c (.c (.c (.c (.c (.b (fg (dZ (dZ h1 h2) h3)) .nil)))))) (List.Sublist.refl _)
 ·rintro _ _;have hm23:key.length≤9223372036854775807:=(List.length_map _)▸hkey.max;refine T.cond rfl (fun h4=>?_) (fun h4=>?_)
  ·replace hk:=dj hk h4;refine lj ?_;refine fx ?_;refine jb ?_;obtain rfl:=Option.some.inj hk;exact gE 0 rfl rfl rfl rfl rfl (fun w' hw=>⟨((.slice none 0 0),(.slice none 0 0),[],(.slice none 0 0),(.slice none 0 0)),F1.toFrz,⟨(SlC.nil _ 5),(SlD.nil _ _ 4),(SlC.nil _ 1),(SlC.nil _ 1)⟩,rfl,dK hw (i:=2) rfl hS0 (Frz.Le.refl _)⟩)
  ·have p4:=h4; (try simp only [gH] at p4);replace hk:=di hk h4;refine fD ?_;have hq:(df ([]++l).length 40)∧_:=dp hk;clear hk;obtain ⟨g33,hk⟩:=hq;have hq:=dm hk;clear hk;obtain ⟨r35,hr35,hk⟩:=hq;have hq:(df ([]++key).length 1)∧_:=dp hk;clear hk;obtain ⟨g38,hk⟩:=hq; (try dsimp only at hk);refine c9 (ι:=Nat×Value×Value×Value×List (List Value)×FzB w (fun _=>False) S0) (fun z=>[(0,vl),(8, .pointer (some ⟨g8,0,none⟩)),(10, .pointer (some ⟨z.1,0,none⟩))]) (fun z=>[.row z.1 51 [z.2.1,z.2.2.2.1, .int .i64 i.Activity, .int .i64 i.Step,z.2.2.1,(.slice none 0 0), .int .i64 0], .sl z.2.1 55 5 ([]++l).length (([]++l).flatMap cV), .sl z.2.2.1 5 1 ([]++key).length (([]++key).flatMap (eK .u8)), .sl (.slice none 0 0) 3 1 ([]:List Int).length ([].flatMap eI), .row g8 51 [(.slice none 0 0),(.slice none 0 0), .int .i64 0, .int .i64 0,(.slice none 0 0),(.slice none 0 0), .int .i64 0], .row g6 23 [.int .i64 i.Activity, .int .i64 i.Step], .fr z.2.2.2.2.2]) (fun z=>OneC z.2.1∧OneC z.2.2.1∧SlD cT z.2.2.2.2.2.toFrz z.2.2.2.1 4 z.2.2.2.2.1 r35∧F1.toFrz.Le z.2.2.2.2.2.toFrz) ?_ ?_
   ·refine dL (.still 0 (.still 2 (.still 4 (.still 5 (.two 1 8 (.two 3 8 (.two 6 8 (.still 7 (.eff 8 (.eff 9 .done))) (.eff 6 (.still 7 (.eff 9 .done)))) (.eff 3 (.eff 6 (.still 7 (.eff 9 .done))))) (.eff 1 (.eff 3 (.eff 6 (.still 7 (.eff 9 .done)))))))))) _ b5 (List.Sublist.refl _) ?_;refine eD ?_;refine cX rfl (eP 1) ?_;refine eN ?_;refine TS.two ?_ ?_
    ·refine TSo.slNil 55 5 ?_;refine c5 rfl (cW) rfl rfl (fH 0 3 (kD (fun _=>inferInstance)) rfl rfl rfl rfl rfl hl (zdZ (xs:=([]:List GProduct))) (zc8 (xs:=([]:List GProduct))) g33 a8) ?_;rintro v33 _ ⟨hv33,rfl⟩;refine gB ?_;refine TS.two ?_ ?_
     ·refine c5 rfl (cW) rfl rfl (dg 3 rfl rfl rfl rfl (fun w hw hF=>zdm _ w hF bidders vbidders cbidders hbidders r35 hr35)) ?_;rintro _ _ ⟨⟨v35_0_0,cs35_0_0⟩,F3,le1_3,hf35_0_0,hq,rfl⟩;obtain rfl:=hq.symm;dsimp only at hf35_0_0 ⊢;haveI:=hf35_0_0.1.oneC;refine ⟨(fun w hw=>(hw.frLe (i:=3) rfl le1_3).sub Sx),?_⟩;refine TS.two ?_ ?_
      ·refine TSo.slNil 5 1 ?_;refine c5 rfl (cW) rfl rfl (fH 0 4 (kD (fun _=>inferInstance)) rfl rfl rfl rfl rfl (SlC.mono hkey le1_3) (zdZ (xs:=([]:List Int))) (zc8 (xs:=([]:List Int))) g38 a8) ?_;rintro v38 _ ⟨hv38,rfl⟩;refine ⟨(fun w hw=>(hw.frLe (i:=4) rfl le1_3).sub Sx),?_⟩;refine cX rfl (Yv.build) ?_;refine dH ?_;refine q2j ?_;rintro _ _ ⟨g10,rfl,rfl⟩;refine ⟨(fun w hw=>(hw.frLe (i:=5) rfl le1_3).sub Sx),?_⟩;refine jS ?_;refine q3g ?_;refine ⟨(fun w hw=>(hw.frLe (i:=6) rfl le1_3).sub Sx),?_⟩;refine jS ?_;refine TS.done ?_;refine K.pick [2,4,3,0,5,6,7] rfl a8 ?_;exact q5h
      ·refine q2j ?_;rintro _ _ ⟨g10,rfl,rfl⟩;refine ⟨(fun w hw=>(hw.frLe (i:=4) rfl le1_3).sub Sx),?_⟩;refine jS ?_;refine dH ?_;refine TSo.slNil 5 1 ?_;refine c5 rfl (cW) rfl rfl (fH 0 6 (kD (fun _=>inferInstance)) rfl rfl rfl rfl rfl (SlC.mono hkey le1_3) (zdZ (xs:=([]:List Int))) (zc8 (xs:=([]:List Int))) g38 a8) ?_;rintro v38 _ ⟨hv38,rfl⟩;refine ⟨(fun w hw=>(hw.frLe (i:=6) rfl le1_3).sub Sx),?_⟩;refine cX rfl (Yv.build) ?_;refine dH ?_;refine q3Q ?_;refine ⟨(fun w hw=>(hw.frLe (i:=6) rfl le1_3).sub Sx),?_⟩;refine jS ?_;refine TS.done ?_;refine K.pick [3,4,1,0,5,6,7] rfl a8 ?_;exact q5h
     ·refine q2j ?_;rintro _ _ ⟨g10,rfl,rfl⟩;refine gB ?_;refine jS ?_;refine dH ?_;refine q4j ?_;rintro _ _ ⟨⟨v35_0_0,cs35_0_0⟩,F4,le1_4,hf35_0_0,hq,rfl⟩;obtain rfl:=hq.symm;dsimp only at hf35_0_0 ⊢;haveI:=hf35_0_0.1.oneC;refine ⟨(fun w hw=>(hw.frLe (i:=5) rfl le1_4).sub Sx),?_⟩;refine dH ?_;refine TSo.slNil 5 1 ?_;refine c5 rfl (cW) rfl rfl (fH 0 6 (kD (fun _=>inferInstance)) rfl rfl rfl rfl rfl (SlC.mono hkey le1_4) (zdZ (xs:=([]:List Int))) (zc8 (xs:=([]:List Int))) g38 a8) ?_;rintro v38 _ ⟨hv38,rfl⟩;refine ⟨(fun w hw=>(hw.frLe (i:=6) rfl le1_4).sub Sx),?_⟩;refine cX rfl (Yv.build) ?_;refine dH ?_;refine q3Q ?_;refine ⟨(fun w hw=>(hw.frLe (i:=6) rfl le1_4).sub Sx),?_⟩;refine jS ?_;refine TS.done ?_;refine K.pick [3,4,1,0,5,6,7] rfl a8 ?_;exact cY (g10,v33,v38,v35_0_0,cs35_0_0,F4) ⟨hv33,hv38,hf35_0_0,le1_4⟩ (.c (.c (.c .nil))) (List.Sublist.refl _)
    ·refine q2j ?_;rintro _ _ ⟨g10,rfl,rfl⟩;refine gB ?_;refine jS ?_;refine dH ?_;refine TSo.slNil 55 5 ?_;refine c5 rfl (cW) rfl rfl (fH 0 5 (kD (fun _=>inferInstance)) rfl rfl rfl rfl rfl hl (zdZ (xs:=([]:List GProduct))) (zc8 (xs:=([]:List GProduct))) g33 a8) ?_;rintro v33 _ ⟨hv33,rfl⟩;refine jt ?_;refine q4j ?_;rintro _ _ ⟨⟨v35_0_0,cs35_0_0⟩,F5,le1_5,hf35_0_0,hq,rfl⟩;obtain rfl:=hq.symm;dsimp only at hf35_0_0 ⊢;haveI:=hf35_0_0.1.oneC;refine ⟨(fun w hw=>(hw.frLe (i:=5) rfl le1_5).sub Sx),?_⟩;refine dH ?_;refine TSo.slNil 5 1 ?_;refine c5 rfl (cW) rfl rfl (fH 0 6 (kD (fun _=>inferInstance)) rfl rfl rfl rfl rfl (SlC.mono hkey le1_5) (zdZ (xs:=([]:List Int))) (zc8 (xs:=([]:List Int))) g38 a8) ?_;rintro v38 _ ⟨hv38,rfl⟩;refine ⟨(fun w hw=>(hw.frLe (i:=6) rfl le1_5).sub Sx),?_⟩;refine cX rfl (Yv.build) ?_;refine dH ?_;refine dy rfl (cW) rfl (fb 3) ?_;refine dU ?_;refine ⟨(fun w hw=>(hw.frLe (i:=6) rfl le1_5).sub Sx),?_⟩;refine jS ?_;refine TS.done ?_;refine K.pick [4,2,1,0,5,6,7] rfl a8 ?_;exact cY (g10,v33,v38,v35_0_0,cs35_0_0,F5) ⟨hv33,hv38,hf35_0_0,le1_5⟩ (.c (.c (.c .nil))) (List.Sublist.refl _)
   ·rintro ⟨g10,v33,v38,vc5_1_5,cc5_1_5,F2⟩ ⟨hv33,hv38,hc5_1_5,le1_2⟩; (try dsimp only at *);haveI:=hc5_1_5.1.oneC;refine iu ?_;refine dJ ?_;have hq:=dP hk;clear hk;obtain ⟨k7,hk7,hk⟩:=hq; (try dsimp only at hk);refine c9 (ι:=List Int×Value) (fun z=>[(8, .pointer (some ⟨g8,0,none⟩)),(10, .pointer (some ⟨g10,0,none⟩))]) (fun z=>[.sl z.2 3 1 z.1.length (z.1.flatMap eI), .row g10 51 [v33,vc5_1_5, .int .i64 i.Activity, .int .i64 i.Step,v38,z.2, .int .i64 0], .sl v33 55 5 ([]++l).length (([]++l).flatMap cV), .sl v38 5 1 ([]++key).length (([]++key).flatMap (eK .u8)), .row g8 51 [(.slice none 0 0),(.slice none 0 0), .int .i64 0, .int .i64 0,(.slice none 0 0),(.slice none 0 0), .int .i64 0], .fr F2]) (fun z=>k7 z.1=some r∧OneC z.2) ?_ ?_
    ·have hq:=eX hk;clear hk;obtain ⟨f9,kk9,hf9,hkk9,hk⟩:=hq;refine ed ?_;refine T.pick [3,0,1,2,4,6] rfl a8 ?_;refine T.loop (ι:=Nat×List Int×Value) (fun z=>[(0,vl),(8, .pointer (some ⟨g8,0,none⟩)),(10, .pointer (some ⟨g10,0,none⟩)),(11, .int .i64 (z.1:Int))]) (fun z=>[.sl z.2.2 3 1 z.2.1.length (z.2.1.flatMap eI), .row g10 51 [v33,vc5_1_5, .int .i64 i.Activity, .int .i64 i.Step,v38,z.2.2, .int .i64 0], .sl v33 55 5 ([]++l).length (([]++l).flatMap cV), .sl v38 5 1 ([]++key).length (([]++key).flatMap (eK .u8)), .row g8 51 [(.slice none 0 0),(.slice none 0 0), .int .i64 0, .int .i64 0,(.slice none 0 0),(.slice none 0 0), .int .i64 0], .fr F2]) (fun z=>dq f9 kk9 (l.length - z.1) z.1 z.2.1=some r∧OneC z.2.2) (fun z=>l.length - z.1) (0,[],(.slice none 0 0)) ?_ ?_ ?_ ?_
     ·exact kN
     ·exact gR
     ·exact eb
     ·rintro ⟨k_10,c_8,vc_8⟩ ⟨hk,oc_8⟩; (try dsimp only at *);refine hD ?_;refine cU (dn rfl rfl (SlC.mono hl le1_2) (List.length_map _)) ?_;have hm42:l.length≤9223372036854775807:=(List.length_map _)▸(SlC.mono hl le1_2).max;refine dJ ?_;refine T.cond rfl (fun h11=>?_) (fun h11=>?_)
      ·have p11:=of_decide_eq_true h11;rw [eW a7] at hk;generalize hn9:dq f9 kk9 (l.length - (k_10+1)) (k_10+1)=next9 at hk;rw [←hf9] at hk; (try dsimp only at hk);refine kK ?_;have hq:(df (c_8++[(cS l k_10).Reserve]).length 8)∧_:=dp hk;clear hk;obtain ⟨g54,hk⟩:=hq; (try dsimp only at hk);refine dL (.still 0 (.still 2 (.still 3 (.still 4 (.still 5 (.still 6 (.two 1 7 (.eff 7 (.eff 8 (.still 9 (.eff 10 .done)))) (.eff 1 (.eff 8 (.still 9 (.eff 10 .done))))))))))) [.sl v33 55 5 ([]++l).length (([]++l).flatMap cV), .sl v38 5 1 ([]++key).length (([]++key).flatMap (eK .u8)), .row g8 51 [(.slice none 0 0),(.slice none 0 0), .int .i64 0, .int .i64 0,(.slice none 0 0),(.slice none 0 0), .int .i64 0], .fr F2] b5 Sx ?_;refine ii ?_;refine eD ?_;refine cX rfl (dc (i:=k_10) rfl rfl rfl (SlC.mono hl le1_2) (List.length_map _) rfl a7) ?_;refine cX rfl (fm rfl rfl (SlC.mono hl le1_2) (List.length_map _) a7) ?_;refine cX rfl (dv 3 (i:=k_10) (j:=4) rfl rfl rfl (SlC.mono hl le1_2) a7) ?_;refine TS.two ?_ ?_
       ·refine dI rfl (cW) rfl rfl (dh 1) (fun w hw=>hw.sub Sx) ?_;refine dH ?_;refine kl ?_;rintro _ _ ⟨g53,rfl,rfl⟩;refine jt ?_;refine q3j ?_;rintro v54 _ ⟨hv54,rfl⟩;refine q1U ?_;refine hJ ?_;rw [←hn9] at hk;refine K.pick [1,2,3,4,5,6] rfl a8 ?_;exact q5i
       ·refine kl ?_;rintro _ _ ⟨g53,rfl,rfl⟩;refine jt ?_;refine q2v ?_;refine q3j ?_;rintro v54 _ ⟨hv54,rfl⟩;refine q1U ?_;refine hJ ?_;rw [←hn9] at hk;refine K.pick [1,2,3,4,5,6] rfl a8 ?_;exact q5i
      ·have p11:=of_decide_eq_false h11;rw [eY a7,←hkk9] at hk; (try dsimp only at hk);refine ek ?_;exact cY (c_8,vc_8) ⟨hk,inferInstance⟩ (.c (.c .nil)) (List.Sublist.refl _)
    ·rintro ⟨c_6,vc_6⟩ ⟨hk,oc_6⟩; (try dsimp only at *);rw [←hk7] at hk; (try dsimp only at hk);refine d5 ?_;refine jZ ?_;refine dz (fb 4) ?_;refine dU ?_;refine gq ?_;refine jm (fun w hw=>hw.freezeS (i:=5) (j:=2) a8 rfl rfl) ?_;rintro F6 ⟨le2_6,hz6⟩;refine eH ?_;have le1_6:=le1_2.trans le2_6;have hfF6:=hz6.toF rfl GProduct.len;haveI:=hfF6.oneC;refine jm (fun w hw=>hw.freezeS (i:=4) (j:=2) a8 rfl rfl) ?_;rintro F7 ⟨le6_7,hz7⟩;refine eH ?_;have le1_7:=le1_6.trans le6_7;have le2_7:=le2_6.trans le6_7;have hfF7:=hz7.toF rfl (fun _=>rfl);haveI:=hfF7.oneC;refine jm (fun w hw=>hw.freezeS (i:=3) (j:=0) a8 rfl rfl) ?_;rintro F8 ⟨le7_8,hz8⟩;refine eH ?_;have le1_8:=le1_7.trans le7_8;have le2_8:=le2_7.trans le7_8;have le6_8:=le6_7.trans le7_8;have hfF8:=hz8.toF rfl (fun _=>rfl);haveI:=hfF8.oneC;obtain rfl:=Option.some.inj hk;exact gE 1 rfl rfl rfl rfl rfl (fun w' hw=>⟨(v33,vc5_1_5,cc5_1_5,v38,vc_6),F8.toFrz,⟨(SlC.mono hfF6 le6_8),(SlD.mono (rep:=cT) (fun _ _ _ _=>GBidder.mono) hc5_1_5 le2_8),(SlC.mono hfF7 le7_8),hfF8⟩,rfl,dK hw (i:=2) rfl hS0 le1_8⟩)
def zdB (fuel:Nat)(l:List GProduct)(bidders:List GBidder):Option (List Int×Int):=
 (zbu fuel l bidders).bind fun r12=>
 (bif !r12 then
  some ([],2)
  else
  dF (fun (out_2:List Int)=>
   some (out_2,0))
  (fun k3=>
   dq (fun (i_6:Nat) (next5:List Int→Option (List Int×Int)) (out_4:List Int)=>
    dF (fun (n_8:Int)=>
     dl (df (out_4++[n_8]).length 8) <|
     next5 (out_4++[n_8]))
    (fun k9=>
     dq (fun (k_12:Nat) (next11:Int→Option (List Int×Int)) (n_10:Int)=>
      dl (0≤(i_6:Int)∧(i_6:Int)<(((cS bidders k_12).Blocks).length:Int)) <|
      next11 (wI (n_10+(cS ((cS bidders k_12).Blocks) i_6))))
     (fun (n_10:Int)=>
      k9 n_10) (bidders.length - 0) 0 0))
   (fun (out_4:List Int)=>
    k3 out_4) (l.length - 0) 0 []))
theorem zg6 (F0:Frz)(w:World)(hF0:F0.At w)(l:List GProduct)(vl:Value)(hl:SlC F0 vl 5 (l.map cV))(bidders:List GBidder)(vbidders:Value)(cbidders:List (List Value))(hbidders:SlD cT F0 vbidders 4 cbidders bidders)(fuel:Nat)(r:List Int×Int)(hr:zdB fuel l bidders=some r):Calls Tryz.prog 211 #[vl,vbidders] w fun e w'=>∃(y:Value) (G:Frz),(SlC G y 1 (r.1.map eI))∧e= .returned (.tuple #[y, .int .i64 r.2])∧Fx F0 w G w':=by
 have hk:=hr;unfold zdB at hk;haveI:=hl.oneC;haveI:=hbidders.1.oneC;obtain ⟨S0,F1,rfl,hS0,hp0⟩:=dY hF0;refine dG Tryz.func211 rfl rfl rfl hp0 ?_;refine fM ?_;refine hI ?_;have hq:=dm hk;clear hk;obtain ⟨r12,hr12,hk⟩:=hq; (try dsimp only at hk);refine eo ?_;refine cZ (da rfl rfl rfl (fun w hw=>zfd _ w (hw.fr (i:=0) rfl) l vl hl bidders vbidders cbidders hbidders fuel r12 hr12)) ?_;refine kG ?_;refine T.cond rfl (fun h1=>?_) (fun h1=>?_)
 ·replace hk:=dj hk h1;refine jp ?_;obtain rfl:=Option.some.inj hk;exact q4R
 ·replace hk:=di hk h1;refine ik ?_;refine q3G ?_;have hq:=dP hk;clear hk;obtain ⟨k3,hk3,hk⟩:=hq; (try dsimp only at hk);refine c9 (ι:=List Int×Value) (fun z=>[(6,z.2)]) (fun z=>[.sl z.2 3 1 z.1.length (z.1.flatMap eI), .fr F1]) (fun z=>k3 z.1=some r∧OneC z.2) ?_ ?_
  ·have hq:=eX hk;clear hk;obtain ⟨f5,kk5,hf5,hkk5,hk⟩:=hq;refine ed ?_;refine T.loop (ι:=Nat×List Int×Value) (fun z=>[(0,vl),(1,vbidders),(6,z.2.2),(7, .int .i64 (z.1:Int))]) (fun z=>[.sl z.2.2 3 1 z.2.1.length (z.2.1.flatMap eI), .fr F1]) (fun z=>dq f5 kk5 (l.length - z.1) z.1 z.2.1=some r∧OneC z.2.2) (fun z=>l.length - z.1) (0,[],(.slice none 0 0)) ?_ ?_ ?_ ?_
   ·exact kN
   ·exact gR
   ·exact eb
   ·rintro ⟨i_6,out_4,vout_4⟩ ⟨hk,oout_4⟩; (try dsimp only at *);refine hD ?_;refine j4 ?_;have hm16:l.length≤9223372036854775807:=(List.length_map _)▸hl.max;refine dJ ?_;refine T.cond rfl (fun h7=>?_) (fun h7=>?_)
    ·have p7:=of_decide_eq_true h7;rw [eW a7] at hk;generalize hn5:dq f5 kk5 (l.length - (i_6+1)) (i_6+1)=next5 at hk;rw [←hf5] at hk; (try dsimp only at hk);refine jv ?_;refine jl ?_;refine dJ ?_;have hq:=dP hk;clear hk;obtain ⟨k9,hk9,hk⟩:=hq; (try dsimp only at hk);refine c9 (ι:=Int) (fun z=>[(0,vl),(1,vbidders),(6,vout_4),(7, .int .i64 (i_6:Int)),(8, .int .i64 z)]) (fun z=>[.sl vout_4 3 1 out_4.length (out_4.flatMap eI), .fr F1]) (fun z=>k9 z=some r) ?_ ?_
     ·have hq:=eX hk;clear hk;obtain ⟨f11,kk11,hf11,hkk11,hk⟩:=hq;refine ed ?_;refine T.loop (ι:=Nat×Int) (fun z=>[(0,vl),(1,vbidders),(6,vout_4),(7, .int .i64 (i_6:Int)),(8, .int .i64 z.2),(9, .int .i64 (z.1:Int))]) (fun z=>[.sl vout_4 3 1 out_4.length (out_4.flatMap eI), .fr F1]) (fun z=>dq f11 kk11 (bidders.length - z.1) z.1 z.2=some r) (fun z=>bidders.length - z.1) (0,0) ?_ ?_ ?_ ?_
      ·exact hk
      ·exact kI
      ·exact eb
      ·rintro ⟨k_12,n_10⟩ hk; (try dsimp only at *);refine hD ?_;refine q2D ?_;have hm22:bidders.length≤9223372036854775807:=hbidders.2.1▸hbidders.1.max;refine dJ ?_;refine T.cond rfl (fun h13=>?_) (fun h13=>?_)
       ·have p13:=of_decide_eq_true h13;rw [eW a7] at hk;generalize hn11:dq f11 kk11 (bidders.length - (k_12+1)) (k_12+1)=next11 at hk;rw [←hf11] at hk; (try dsimp only at hk);refine kK ?_;have hq:(0≤(i_6:Int)∧(i_6:Int)<(((cS bidders k_12).Blocks).length:Int))∧_:=dp hk;clear hk;obtain ⟨g33,hk⟩:=hq; (try dsimp only at hk);refine gI ?_;refine cU (dc (i:=k_12) rfl rfl rfl hbidders.1 hbidders.2.1 rfl a7) ?_;refine cU (fm rfl rfl hbidders.1 hbidders.2.1 a7) ?_;refine cU (eZ 1 (i:=k_12) (j:=3) rfl rfl rfl hbidders.1 hbidders.2.1 a7 rfl (dM (hbidders.2.2 k_12 a7)).1) ?_;have hd31_3:=(dM (hbidders.2.2 k_12 a7)).2;haveI:=hd31_3.oneC;refine dr ?_;refine cU (dc (i:=i_6) rfl rfl rfl hd31_3 (List.length_map _) rfl a7) ?_;refine cU (dv 1 (i:=i_6) (j:=0) rfl rfl rfl hd31_3 a7) ?_;refine cU (dd (v:= .int .i64 (wI (n_10+(cS ((cS bidders k_12).Blocks) i_6))))) ?_;refine q3u ?_;rw [←hn11] at hk;exact K.next ((k_12+1),wI (n_10+(cS ((cS bidders k_12).Blocks) i_6))) hk b6 (.c (.c (.c (.c (.c (.c .nil)))))) (List.Sublist.refl _)
       ·have p13:=of_decide_eq_false h13;rw [eY a7,←hkk11] at hk; (try dsimp only at hk);refine ek ?_;exact cY n_10 hk (.c (.c (.c (.c (.c .nil))))) (List.Sublist.refl _)
     ·rintro n_8 hk;rw [←hk9] at hk; (try dsimp only at hk);have hq:(df (out_4++[n_8]).length 8)∧_:=dp hk;clear hk;obtain ⟨g39,hk⟩:=hq; (try dsimp only at hk);refine eo ?_;refine ga ?_;rintro _ _ ⟨g38,rfl,rfl⟩;refine cZ (fi 1 0 rfl rfl rfl rfl rfl rfl (jP (ys:=[n_8])) (jU (enc:=eI) (xs:=out_4) (ys:=[n_8])) g39 a8) ?_;rintro v39 _ ⟨hv39,rfl⟩;refine q3u ?_;rw [←hn5] at hk;refine q3J ?_;exact K.next ((i_6+1),(out_4++[n_8]),v39) ⟨hk,inferInstance⟩ b6 (.c (.c (.c (.c .nil)))) (List.Sublist.refl _)
    ·have p7:=of_decide_eq_false h7;rw [eY a7,←hkk5] at hk; (try dsimp only at hk);refine ek ?_;exact cY (out_4,vout_4) ⟨hk,inferInstance⟩ (.c .nil) (List.Sublist.refl _)
  ·rintro ⟨out_2,vout_2⟩ ⟨hk,oout_2⟩; (try dsimp only at *);rw [←hk3] at hk; (try dsimp only at hk);refine iM ?_;refine q1j ?_;rintro F2 ⟨le1_2,hz2⟩;refine eH ?_;have hfF2:=hz2.toF rfl (fun _=>rfl);haveI:=hfF2.oneC;obtain rfl:=Option.some.inj hk;exact eF rfl rfl rfl (fun w' hw=>⟨vout_2,F2.toFrz,hfF2,rfl,dK hw (i:=0) rfl hS0 le1_2⟩)
def zcm (fuel:Nat)(a:Gbandplanref36_Auction):Option (List Int):=
 (zdB fuel a.Products a.Bidders).bind fun r10=>
 some r10.1
theorem zeC (F0:Frz)(w:World)(hF0:F0.At w)(a:Gbandplanref36_Auction)(va_0:Value)(ha_0:SlC F0 va_0 5 (a.Products.map cV))(va_1:Value)(ca_1:List (List Value))(ha_1:SlD cT F0 va_1 4 ca_1 a.Bidders)(va_4:Value)(ha_4:SlC F0 va_4 1 (a.Key.map (eK .u8)))(va_5:Value)(ha_5:SlC F0 va_5 1 (a.Posted.map eI))(fuel:Nat)(r:List Int)(hr:zcm fuel a=some r):Calls Tryz.prog 157 #[.agg [va_0,va_1, .int .i64 a.Increment.Activity, .int .i64 a.Increment.Step,va_4,va_5, .int .i64 a.Rounds].toArray] w fun e w'=>∃(y:Value) (G:Frz),(SlC G y 1 (r.map eI))∧e= .returned (y)∧Fx F0 w G w':=by
 have hk:=hr;unfold zcm at hk;haveI:=ha_0.oneC;haveI:=ha_1.1.oneC;haveI:=ha_4.oneC;haveI:=ha_5.oneC;obtain ⟨S0,F1,rfl,hS0,hp0⟩:=dY hF0;refine dG Tryz.func157 rfl rfl rfl hp0 ?_;refine fV ?_;rintro _ _ ⟨g1,rfl,rfl⟩;refine fI ?_;have hq:=dm hk;clear hk;obtain ⟨r10,hr10,hk⟩:=hq; (try dsimp only at hk);refine li ?_;refine fR ?_;refine cZ (dg 1 rfl rfl rfl rfl (fun w hw hF=>zg6 _ w hF a.Products va_0 ha_0 a.Bidders va_1 ca_1 ha_1 fuel r10 hr10)) ?_;rintro _ _ ⟨v10_0_0,F2,le1_2,hf10_0_0,rfl,rfl⟩;haveI:=hf10_0_0.oneC;refine hN ?_;refine ee ?_;refine q4a ?_;obtain rfl:=Option.some.inj hk;exact eg rfl rfl (fun w' hw=>⟨v10_0_0,F2.toFrz,hf10_0_0,rfl,dK hw (i:=1) rfl hS0 le1_2⟩)
def zc9 (l:List GProduct)(total:List Int):Option (List Int×Int):=
 (bif ((!(i2 l))||(decide (¬(total.length:Int)=(l.length:Int)))) then
  some ([],2)
  else
  dF (fun (out_3:List Int)=>
   some (out_3,0))
  (fun k4=>
   dq (fun (i_7:Nat) (next6:List Int→Option (List Int×Int)) (out_5:List Int)=>
    (bif ((decide ((cS total i_7)<0))||(decide (384<(cS total i_7)))) then
     some ([],2)
     else
     dl (df (out_5++[(max 0 (wI ((cS total i_7) - ((cS l i_7).Supply))))]).length 8) <|
     next6 (out_5++[(max 0 (wI ((cS total i_7) - ((cS l i_7).Supply))))])))
   (fun (out_5:List Int)=>
    k4 out_5) (l.length - 0) 0 []))
theorem zgL (F0:Frz)(w:World)(hF0:F0.At w)(l:List GProduct)(vl:Value)(hl:SlC F0 vl 5 (l.map cV))(total:List Int)(vtotal:Value)(htotal:SlC F0 vtotal 1 (total.map eI))(r:List Int×Int)(hr:zc9 l total=some r):Calls Tryz.prog 156 #[vl,vtotal] w fun e w'=>∃(y:Value) (G:Frz),(SlC G y 1 (r.1.map eI))∧e= .returned (.tuple #[y, .int .i64 r.2])∧Fx F0 w G w':=by
 have hk:=hr;unfold zc9 at hk;haveI:=hl.oneC;haveI:=htotal.oneC;obtain ⟨S0,F1,rfl,hS0,hp0⟩:=dY hF0;refine dG Tryz.func156 rfl rfl rfl hp0 ?_;refine fM ?_;refine hI ?_;refine c9 (ι:=Unit) (fun z=>[(0,vl),(1,vtotal),(17, .bool ((!(i2 l))||(decide (¬(total.length:Int)=(l.length:Int)))))]) (fun z=>[.fr F1]) (fun z=>True) ?_ ?_
 ·refine ec ?_;refine q31 ?_;refine iy ?_;refine db rfl rfl rfl (fun h1=>?_) (fun h1=>?_)
  ·refine q3b ?_;exact q4P
  ·refine dr ?_;refine cU (dn rfl rfl htotal (List.length_map _)) ?_;have hm13:total.length≤9223372036854775807:=(List.length_map _)▸htotal.max;refine dr ?_;refine j4 ?_;have hm15:l.length≤9223372036854775807:=(List.length_map _)▸hl.max;refine hY ?_;exact q4Q
 ·rintro _ _;have hm13:total.length≤9223372036854775807:=(List.length_map _)▸htotal.max;have hm15:l.length≤9223372036854775807:=(List.length_map _)▸hl.max;refine T.cond rfl (fun h2=>?_) (fun h2=>?_)
  ·replace hk:=dj hk h2;refine jp ?_;obtain rfl:=Option.some.inj hk;exact q4R
  ·have p2:=h2; (try simp only [gH] at p2);replace hk:=di hk h2;refine ik ?_;refine q3G ?_;have hq:=dP hk;clear hk;obtain ⟨k4,hk4,hk⟩:=hq; (try dsimp only at hk);refine c9 (ι:=List Int×Value) (fun z=>[(6,z.2)]) (fun z=>[.sl z.2 3 1 z.1.length (z.1.flatMap eI), .fr F1]) (fun z=>k4 z.1=some r∧OneC z.2) ?_ ?_
   ·have hq:=eX hk;clear hk;obtain ⟨f6,kk6,hf6,hkk6,hk⟩:=hq;refine ed ?_;refine T.loop (ι:=Nat×List Int×Value) (fun z=>[(0,vl),(1,vtotal),(6,z.2.2),(7, .int .i64 (z.1:Int))]) (fun z=>[.sl z.2.2 3 1 z.2.1.length (z.2.1.flatMap eI), .fr F1]) (fun z=>dq f6 kk6 (l.length - z.1) z.1 z.2.1=some r∧OneC z.2.2) (fun z=>l.length - z.1) (0,[],(.slice none 0 0)) ?_ ?_ ?_ ?_
    ·exact kN
    ·exact gR
    ·exact eb
    ·rintro ⟨i_7,out_5,vout_5⟩ ⟨hk,oout_5⟩; (try dsimp only at *);refine hD ?_;refine j4 ?_;refine dJ ?_;refine T.cond rfl (fun h8=>?_) (fun h8=>?_)
     ·have p8:=of_decide_eq_true h8;rw [eW a7] at hk;generalize hn6:dq f6 kk6 (l.length - (i_7+1)) (i_7+1)=next6 at hk;rw [←hf6] at hk; (try dsimp only at hk);refine T.skip (K.seq (T.seq (T.block (T.seq (T.seq ?_)))));refine c9 (ι:=Unit) (fun z=>[(0,vl),(1,vtotal),(6,vout_5),(7, .int .i64 (i_7:Int)),(35, .bool ((decide ((cS total i_7)<0))||(decide (384<(cS total i_7)))))]) (fun z=>[.sl vout_5 3 1 out_5.length (out_5.flatMap eI), .fr F1]) (fun z=>True) ?_ ?_
      ·refine eo ?_;refine q2l ?_;refine d4 ?_;refine db rfl rfl rfl (fun h9=>?_) (fun h9=>?_)
       ·have p9:=of_decide_eq_true h9;refine q3b ?_;exact cY () trivial (.c (.c (.c (.c (.b (dQ h9).symm .nil))))) (List.Sublist.refl _)
       ·have p9:=of_decide_eq_false h9;refine d4 ?_;refine q2l ?_;refine hY ?_;exact cY () trivial (.c (.c (.c (.c (.b (fg h9) .nil))))) (List.Sublist.refl _)
      ·rintro _ _;refine T.cond rfl (fun h10=>?_) (fun h10=>?_)
       ·replace hk:=dj hk h10;refine fM ?_;refine q05 ?_;obtain rfl:=Option.some.inj hk;exact q47
       ·have p10:=h10; (try simp only [gH] at p10);replace hk:=di hk h10;refine T.skip (K.seq ?_);have hq:(df (out_5++[(max 0 (wI ((cS total i_7) - ((cS l i_7).Supply))))]).length 8)∧_:=dp hk;clear hk;obtain ⟨g49,hk⟩:=hq; (try dsimp only at hk);refine dL (sN 0 12 (.eff 12 (.eff 13 (.still 14 .done)))) [.fr F1] b5 Sx ?_;refine fj ?_;refine cX rfl (dc (i:=i_7) rfl rfl rfl htotal (List.length_map _) rfl a7) ?_;refine cX rfl (dv 0 (i:=i_7) (j:=0) rfl rfl rfl htotal a7) ?_;refine eD ?_;refine cX rfl (dc (i:=i_7) rfl rfl rfl hl (List.length_map _) rfl a7) ?_;refine cX rfl (fm rfl rfl hl (List.length_map _) a7) ?_;refine cX rfl (dv 0 (i:=i_7) (j:=2) rfl rfl rfl hl a7) ?_;refine cX rfl (dd (v:= .int .i64 (wI ((cS total i_7) - ((cS l i_7).Supply))))) ?_;refine cX rfl (Yv.max2 rfl rfl rfl) ?_;refine dH ?_;refine kl ?_;rintro _ _ ⟨g48,rfl,rfl⟩;refine jt ?_;refine c5 rfl (cW) rfl rfl (fi 1 0 rfl rfl rfl rfl rfl rfl (jP (ys:=[(max 0 (wI ((cS total i_7) - ((cS l i_7).Supply))))])) (jU (enc:=eI) (xs:=out_5) (ys:=[(max 0 (wI ((cS total i_7) - ((cS l i_7).Supply))))])) g49 a8) ?_;rintro v49 _ ⟨hv49,rfl⟩;refine gB ?_;refine iF ?_;refine fk (K.seq (T.region ?_));refine q2d ?_;rw [←hn6] at hk;refine q3J ?_;exact K.next ((i_7+1),(out_5++[(max 0 (wI ((cS total i_7) - ((cS l i_7).Supply))))]),v49) ⟨hk,inferInstance⟩ b6 (.c (.c (.c (.c .nil)))) (List.Sublist.refl _)
     ·have p8:=of_decide_eq_false h8;rw [eY a7,←hkk6] at hk; (try dsimp only at hk);refine ek ?_;exact cY (out_5,vout_5) ⟨hk,inferInstance⟩ (.c .nil) (List.Sublist.refl _)
   ·rintro ⟨out_3,vout_3⟩ ⟨hk,oout_3⟩; (try dsimp only at *);rw [←hk4] at hk; (try dsimp only at hk);refine iM ?_;refine q1j ?_;rintro F2 ⟨le1_2,hz2⟩;refine eH ?_;have hfF2:=hz2.toF rfl (fun _=>rfl);haveI:=hfF2.oneC;obtain rfl:=Option.some.inj hk;exact eF rfl rfl rfl (fun w' hw=>⟨vout_3,F2.toFrz,hfF2,rfl,dK hw (i:=0) rfl hS0 le1_2⟩)
def zcp (fuel:Nat)(a:Gbandplanref36_Auction):Option (List Int):=
 (zcm fuel a).bind fun r9=>
 (zc9 a.Products r9).bind fun r10=>
 some r10.1
theorem zeA (F0:Frz)(w:World)(hF0:F0.At w)(a:Gbandplanref36_Auction)(va_0:Value)(ha_0:SlC F0 va_0 5 (a.Products.map cV))(va_1:Value)(ca_1:List (List Value))(ha_1:SlD cT F0 va_1 4 ca_1 a.Bidders)(va_4:Value)(ha_4:SlC F0 va_4 1 (a.Key.map (eK .u8)))(va_5:Value)(ha_5:SlC F0 va_5 1 (a.Posted.map eI))(fuel:Nat)(r:List Int)(hr:zcp fuel a=some r):Calls Tryz.prog 74 #[.agg [va_0,va_1, .int .i64 a.Increment.Activity, .int .i64 a.Increment.Step,va_4,va_5, .int .i64 a.Rounds].toArray] w fun e w'=>∃(y:Value) (G:Frz),(SlC G y 1 (r.map eI))∧e= .returned (y)∧Fx F0 w G w':=by
 have hk:=hr;unfold zcp at hk;haveI:=ha_0.oneC;haveI:=ha_1.1.oneC;haveI:=ha_4.oneC;haveI:=ha_5.oneC;obtain ⟨S0,F1,rfl,hS0,hp0⟩:=dY hF0;refine dG Tryz.func74 rfl rfl rfl hp0 ?_;refine fV ?_;rintro _ _ ⟨g1,rfl,rfl⟩;refine fI ?_;have hq:=dm hk;clear hk;obtain ⟨r9,hr9,hk⟩:=hq;have hq:=dm hk;clear hk;obtain ⟨r10,hr10,hk⟩:=hq; (try dsimp only at hk);refine dL (sN 0 3 (.eff 3 (.eff 4 (sN 5 4 (.still 9 .done))))) _ b5 (List.Sublist.refl _) ?_;refine gh ?_;refine kc ?_;refine c5 rfl (cW) rfl rfl (dg 1 rfl rfl rfl rfl (fun w hw hF=>zeC _ w hF a va_0 ha_0 va_1 ca_1 ha_1 va_4 ha_4 va_5 ha_5 fuel r9 hr9)) ?_;rintro _ _ ⟨v9_0_0,F2,le1_2,hf9_0_0,hq,rfl⟩;obtain rfl:=hq.symm;haveI:=hf9_0_0.oneC;refine q24 ?_;refine dH ?_;refine c5 rfl (cW) rfl rfl (dg 1 rfl rfl rfl rfl (fun w hw hF=>zgL _ w hF a.Products va_0 (SlC.mono ha_0 le1_2) r9 v9_0_0 hf9_0_0 r10 hr10)) ?_;rintro _ _ ⟨v10_0_0,F3,le2_3,hf10_0_0,rfl,rfl⟩;have le1_3:=le1_2.trans le2_3;haveI:=hf10_0_0.oneC;refine q2a ?_;refine q25 ?_;refine gp ?_;obtain rfl:=Option.some.inj hk;exact eg rfl rfl (fun w' hw=>⟨v10_0_0,F3.toFrz,hf10_0_0,rfl,dK hw (i:=1) rfl hS0 le1_3⟩)
def zd0 (fuel:Nat)(a:Gbandplanref36_Auction):Option Bool:=
 (zcp fuel a).bind fun r6=>
 dF (fun (_:Unit)=>
  some true)
 (fun k1=>
  dq (fun (i_3:Nat) (next2:Unit→Option Bool) (_:Unit)=>
   (bif decide (0<(cS r6 i_3)) then
    some false
    else
    next2 ()))
  (fun (_:Unit)=>
   k1 ()) (r6.length - 0) 0 ())
theorem zhz (F0:Frz)(w:World)(hF0:F0.At w)(a:Gbandplanref36_Auction)(va_0:Value)(ha_0:SlC F0 va_0 5 (a.Products.map cV))(va_1:Value)(ca_1:List (List Value))(ha_1:SlD cT F0 va_1 4 ca_1 a.Bidders)(va_4:Value)(ha_4:SlC F0 va_4 1 (a.Key.map (eK .u8)))(va_5:Value)(ha_5:SlC F0 va_5 1 (a.Posted.map eI))(fuel:Nat)(r:Bool)(hr:zd0 fuel a=some r):Calls Tryz.prog 77 #[.agg [va_0,va_1, .int .i64 a.Increment.Activity, .int .i64 a.Increment.Step,va_4,va_5, .int .i64 a.Rounds].toArray] w fun e w'=>e= .returned (.bool r)∧Below w.heap.size w w':=by
 have hk:=hr;unfold zd0 at hk;haveI:=ha_0.oneC;haveI:=ha_1.1.oneC;haveI:=ha_4.oneC;haveI:=ha_5.oneC;obtain ⟨S0,F1,rfl,hS0,hp0⟩:=dY hF0;refine dG Tryz.func77 rfl rfl rfl hp0 ?_;refine fV ?_;rintro _ _ ⟨g1,rfl,rfl⟩;refine fI ?_;have hq:=dm hk;clear hk;obtain ⟨r6,hr6,hk⟩:=hq; (try dsimp only at hk);refine fO ?_;refine iQ ?_;refine cZ (dg 1 rfl rfl rfl rfl (fun w hw hF=>zeA _ w hF a va_0 ha_0 va_1 ca_1 ha_1 va_4 ha_4 va_5 ha_5 fuel r6 hr6)) ?_;rintro _ _ ⟨v6_0_0,F2,le1_2,hf6_0_0,hq,rfl⟩;obtain rfl:=hq.symm;haveI:=hf6_0_0.oneC;refine jl ?_;refine dJ ?_;have hq:=dP hk;clear hk;obtain ⟨k1,hk1,hk⟩:=hq; (try dsimp only at hk);refine c9 (ι:=Unit) (fun z=>[]) (fun z=>[.fr F2]) (fun z=>k1 ()=some r) ?_ ?_
 ·have hq:=eX hk;clear hk;obtain ⟨f2,kk2,hf2,hkk2,hk⟩:=hq;refine ed ?_;refine T.pick [1] rfl a8 ?_;refine T.loop (ι:=Nat) (fun z=>[(3,v6_0_0),(4, .int .i64 (z:Int))]) (fun z=>[.fr F2]) (fun z=>dq f2 kk2 (r6.length - z) z ()=some r) (fun z=>r6.length - z) 0 ?_ ?_ ?_ ?_
  ·exact hk
  ·exact (.c (.c .nil))
  ·exact eb
  ·rintro i_3 hk;refine hD ?_;refine cU (dn rfl rfl hf6_0_0 (List.length_map _)) ?_;have hm9:r6.length≤9223372036854775807:=(List.length_map _)▸hf6_0_0.max;refine dJ ?_;refine T.cond rfl (fun h4=>?_) (fun h4=>?_)
   ·have p4:=of_decide_eq_true h4;rw [eW a7] at hk;generalize hn2:dq f2 kk2 (r6.length - (i_3+1)) (i_3+1)=next2 at hk;rw [←hf2] at hk; (try dsimp only at hk);refine i3 ?_;refine cU (dc (i:=i_3) rfl rfl rfl hf6_0_0 (List.length_map _) rfl a7) ?_;refine cU (dv 0 (i:=i_3) (j:=0) rfl rfl rfl hf6_0_0 a7) ?_;refine dJ ?_;refine T.cond rfl (fun h5=>?_) (fun h5=>?_)
    ·have p5:=of_decide_eq_true h5;replace hk:=dj hk h5;refine kp ?_;obtain rfl:=Option.some.inj hk;exact dS
    ·have p5:=of_decide_eq_false h5;replace hk:=di hk h5;refine q4i ?_;rw [←hn2] at hk;exact q42
   ·have p4:=of_decide_eq_false h4;rw [eY a7,←hkk2] at hk; (try dsimp only at hk);refine ek ?_;exact jh
 ·rintro _ hk;rw [←hk1] at hk; (try dsimp only at hk);refine iU ?_;obtain rfl:=Option.some.inj hk;exact dS
def gQ (bidders:List GBidder)(id:Int):Int:=
 dF (fun (_:Unit)=>
  (-1))
 (fun k1=>
  dq (fun (i_3:Nat) (next2:Unit→Int) (_:Unit)=>
   (bif decide ((cS bidders i_3).ID=id) then
    (i_3:Int)
    else
    next2 ()))
  (fun (_:Unit)=>
   k1 ()) (bidders.length - 0) 0 ())
theorem zhe (F0:Frz)(w:World)(hF0:F0.At w)(bidders:List GBidder)(vbidders:Value)(cbidders:List (List Value))(hbidders:SlD cT F0 vbidders 4 cbidders bidders)(id:Int):Calls Tryz.prog 68 #[vbidders, .int .i64 id] w fun e w'=>e= .returned (.int .i64 (gQ bidders id))∧Below w.heap.size w w':=by
 obtain ⟨r,hk⟩:∃r,gQ bidders id=r:=⟨_,rfl⟩;rw [hk];unfold gQ at hk;haveI:=hbidders.1.oneC;obtain ⟨S0,F1,rfl,hS0,hp0⟩:=dY hF0;refine dG Tryz.func68 rfl rfl rfl hp0 ?_;refine fS ?_;refine i4 ?_;refine dJ ?_;have hq:=dP hk;clear hk;obtain ⟨k1,hk1,hk⟩:=hq; (try dsimp only at hk);refine c9 (ι:=Unit) (fun z=>[]) (fun z=>[.fr F1]) (fun z=>k1 ()=r) ?_ ?_
 ·have hq:=eX hk;clear hk;obtain ⟨f2,kk2,hf2,hkk2,hk⟩:=hq;refine ed ?_;refine T.loop (ι:=Nat) (fun z=>[(0,vbidders),(1, .int .i64 id),(5, .int .i64 (z:Int))]) (fun z=>[.fr F1]) (fun z=>dq f2 kk2 (bidders.length - z) z ()=r) (fun z=>bidders.length - z) 0 ?_ ?_ ?_ ?_
  ·exact hk
  ·exact ju
  ·exact eb
  ·rintro i_3 hk;refine hD ?_;refine q2D ?_;have hm8:bidders.length≤9223372036854775807:=hbidders.2.1▸hbidders.1.max;refine dJ ?_;refine T.cond rfl (fun h4=>?_) (fun h4=>?_)
   ·have p4:=of_decide_eq_true h4;rw [eW a7] at hk;generalize hn2:dq f2 kk2 (bidders.length - (i_3+1)) (i_3+1)=next2 at hk;rw [←hf2] at hk; (try dsimp only at hk);refine i3 ?_;refine cU (dc (i:=i_3) rfl rfl rfl hbidders.1 hbidders.2.1 rfl a7) ?_;refine cU (fm rfl rfl hbidders.1 hbidders.2.1 a7) ?_;refine cU (eZ 0 (i:=i_3) (j:=0) rfl rfl rfl hbidders.1 hbidders.2.1 a7 rfl (fT (hbidders.2.2 i_3 a7))) ?_;refine iZ ?_;refine T.cond rfl (fun h5=>?_) (fun h5=>?_)
    ·have p5:=of_decide_eq_true h5;replace hk:=dj hk h5;refine fM ?_;refine q0Y ?_;subst hk;exact dS
    ·have p5:=of_decide_eq_false h5;replace hk:=di hk h5;refine q4i ?_;rw [←hn2] at hk;exact K.next (i_3+1) hk a7 (.c (.c (.c .nil))) (List.Sublist.refl _)
   ·have p4:=of_decide_eq_false h4;rw [eY a7,←hkk2] at hk; (try dsimp only at hk);refine ek ?_;exact jh
 ·rintro _ hk;rw [←hk1] at hk; (try dsimp only at hk);refine iU ?_;subst hk;exact dS
def zde (fuel:Nat)(a:Gbandplanref36_Auction):Option (List Int):=
 (zcp fuel a).bind fun r8=>
 dF (fun (out_1:List Int)=>
  some out_1)
 (fun k2=>
  dq (fun (i_5:Nat) (next4:List Int→Option (List Int)) (out_3:List Int)=>
   dl (0≤(i_5:Int)∧(i_5:Int)<(a.Posted.length:Int)) <|
   dF (fun (p_7:Int)=>
    dl (df (out_3++[p_7]).length 8) <|
    next4 (out_3++[p_7]))
   (fun k8=>
    (bif decide (0<(cS r8 i_5)) then
     dl (0≤wI ((cS a.Posted i_5) *a.Increment.Step)∧wI ((cS a.Posted i_5) *a.Increment.Step)≤9223372036854775807∧1≤(100:Int)) <|
     k8 (wI ((cS a.Posted i_5)+(max 1 ((wI ((cS a.Posted i_5) *a.Increment.Step)) / 100))))
     else
     k8 (cS a.Posted i_5))))
  (fun (out_3:List Int)=>
   k2 out_3) (r8.length - 0) 0 [])
theorem zgN (F0:Frz)(w:World)(hF0:F0.At w)(a:Gbandplanref36_Auction)(va_0:Value)(ha_0:SlC F0 va_0 5 (a.Products.map cV))(va_1:Value)(ca_1:List (List Value))(ha_1:SlD cT F0 va_1 4 ca_1 a.Bidders)(va_4:Value)(ha_4:SlC F0 va_4 1 (a.Key.map (eK .u8)))(va_5:Value)(ha_5:SlC F0 va_5 1 (a.Posted.map eI))(fuel:Nat)(r:List Int)(hr:zde fuel a=some r):Calls Tryz.prog 72 #[.agg [va_0,va_1, .int .i64 a.Increment.Activity, .int .i64 a.Increment.Step,va_4,va_5, .int .i64 a.Rounds].toArray] w fun e w'=>∃(y:Value) (G:Frz),(SlC G y 1 (r.map eI))∧e= .returned (y)∧Fx F0 w G w':=by
 have hk:=hr;unfold zde at hk;haveI:=ha_0.oneC;haveI:=ha_1.1.oneC;haveI:=ha_4.oneC;haveI:=ha_5.oneC;obtain ⟨S0,F1,rfl,hS0,hp0⟩:=dY hF0;refine dG Tryz.func72 rfl rfl rfl hp0 ?_;refine fV ?_;rintro _ _ ⟨g1,rfl,rfl⟩;refine fI ?_;have hq:=dm hk;clear hk;obtain ⟨r8,hr8,hk⟩:=hq; (try dsimp only at hk);refine fO ?_;refine iQ ?_;refine cZ (dg 1 rfl rfl rfl rfl (fun w hw hF=>zeA _ w hF a va_0 ha_0 va_1 ca_1 ha_1 va_4 ha_4 va_5 ha_5 fuel r8 hr8)) ?_;rintro _ _ ⟨v8_0_0,F2,le1_2,hf8_0_0,hq,rfl⟩;obtain rfl:=hq.symm;haveI:=hf8_0_0.oneC;refine iL ?_;refine q3G ?_;have hq:=dP hk;clear hk;obtain ⟨k2,hk2,hk⟩:=hq; (try dsimp only at hk);refine c9 (ι:=List Int×Value) (fun z=>[(4,z.2)]) (fun z=>[.sl z.2 3 1 z.1.length (z.1.flatMap eI), .fr F2]) (fun z=>k2 z.1=some r∧OneC z.2) ?_ ?_
 ·have hq:=eX hk;clear hk;obtain ⟨f4,kk4,hf4,hkk4,hk⟩:=hq;refine ed ?_;refine T.loop (ι:=Nat×List Int×Value) (fun z=>[(1, .pointer (some ⟨g1,0,none⟩)),(3,v8_0_0),(4,z.2.2),(5, .int .i64 (z.1:Int))]) (fun z=>[.sl z.2.2 3 1 z.2.1.length (z.2.1.flatMap eI), .row g1 51 [va_0,va_1, .int .i64 a.Increment.Activity, .int .i64 a.Increment.Step,va_4,va_5, .int .i64 a.Rounds], .fr F2]) (fun z=>dq f4 kk4 (r8.length - z.1) z.1 z.2.1=some r∧OneC z.2.2) (fun z=>r8.length - z.1) (0,[],(.slice none 0 0)) ?_ ?_ ?_ ?_
  ·exact kN
  ·exact gR
  ·exact eb
  ·rintro ⟨i_5,out_3,vout_3⟩ ⟨hk,oout_3⟩; (try dsimp only at *);refine hD ?_;refine cU (dn rfl rfl hf8_0_0 (List.length_map _)) ?_;have hm11:r8.length≤9223372036854775807:=(List.length_map _)▸hf8_0_0.max;refine dJ ?_;refine T.cond rfl (fun h6=>?_) (fun h6=>?_)
   ·have p6:=of_decide_eq_true h6;rw [eW a7] at hk;generalize hn4:dq f4 kk4 (r8.length - (i_5+1)) (i_5+1)=next4 at hk;rw [←hf4] at hk; (try dsimp only at hk);refine lq ?_;have hq:(0≤(i_5:Int)∧(i_5:Int)<(a.Posted.length:Int))∧_:=dp hk;clear hk;obtain ⟨g18,hk⟩:=hq; (try dsimp only at hk);refine fO ?_;refine jc ?_;refine dr ?_;refine cU (dc (i:=i_5) rfl rfl rfl (SlC.mono ha_5 le1_2) (List.length_map _) rfl a7) ?_;refine cU (dv 2 (i:=i_5) (j:=0) rfl rfl rfl (SlC.mono ha_5 le1_2) a7) ?_;refine jl ?_;refine d4 ?_;refine cU (dc (i:=i_5) rfl rfl rfl hf8_0_0 (List.length_map _) rfl a7) ?_;refine cU (dv 2 (i:=i_5) (j:=0) rfl rfl rfl hf8_0_0 a7) ?_;refine dJ ?_;have hq:=dP hk;clear hk;obtain ⟨k8,hk8,hk⟩:=hq; (try dsimp only at hk);refine c9 (ι:=Int) (fun z=>[(1, .pointer (some ⟨g1,0,none⟩)),(3,v8_0_0),(4,vout_3),(5, .int .i64 (i_5:Int)),(6, .int .i64 z)]) (fun z=>[.sl vout_3 3 1 out_3.length (out_3.flatMap eI), .row g1 51 [va_0,va_1, .int .i64 a.Increment.Activity, .int .i64 a.Increment.Step,va_4,va_5, .int .i64 a.Rounds], .fr F2]) (fun z=>k8 z=some r) ?_ ?_
    ·refine T.cond rfl (fun h9=>?_) (fun h9=>?_)
     ·have p9:=of_decide_eq_true h9;replace hk:=dj hk h9;have hq:(0≤wI ((cS a.Posted i_5) *a.Increment.Step)∧wI ((cS a.Posted i_5) *a.Increment.Step)≤9223372036854775807∧1≤(100:Int))∧_:=dp hk;clear hk;obtain ⟨g31,hk⟩:=hq; (try dsimp only at hk);refine eo ?_;refine fX ?_;refine jc ?_;refine cU (dd (v:= .int .i64 (wI ((cS a.Posted i_5) *a.Increment.Step)))) ?_;refine cU (fB (a:=wI ((cS a.Posted i_5) *a.Increment.Step)) (b:=(100:Int)) rfl rfl rfl g31) ?_;refine cU (Yv.max2 rfl rfl rfl) ?_;refine cU (dd (v:= .int .i64 (wI ((cS a.Posted i_5)+(max 1 ((wI ((cS a.Posted i_5) *a.Increment.Step)) / 100)))))) ?_;refine ig ?_;exact cY (wI ((cS a.Posted i_5)+(max 1 ((wI ((cS a.Posted i_5) *a.Increment.Step)) / 100)))) hk (.c (.c (.c (.c (.c .nil))))) (List.Sublist.refl _)
     ·have p9:=of_decide_eq_false h9;replace hk:=di hk h9;refine T.skip ?_;exact cY (cS a.Posted i_5) hk (.c (.c (.c (.c (.c .nil))))) (List.Sublist.refl _)
    ·rintro p_7 hk;rw [←hk8] at hk; (try dsimp only at hk);have hq:(df (out_3++[p_7]).length 8)∧_:=dp hk;clear hk;obtain ⟨g37,hk⟩:=hq; (try dsimp only at hk);refine eo ?_;refine ga ?_;rintro _ _ ⟨g36,rfl,rfl⟩;refine cZ (fi 1 0 rfl rfl rfl rfl rfl rfl (jP (ys:=[p_7])) (jU (enc:=eI) (xs:=out_3) (ys:=[p_7])) g37 a8) ?_;rintro v37 _ ⟨hv37,rfl⟩;refine q3u ?_;rw [←hn4] at hk;refine K.pick [1,2,3] rfl a8 ?_;exact K.next ((i_5+1),(out_3++[p_7]),v37) ⟨hk,inferInstance⟩ b6 (.c (.c (.c (.c .nil)))) (List.Sublist.refl _)
   ·have p6:=of_decide_eq_false h6;rw [eY a7,←hkk4] at hk; (try dsimp only at hk);refine ek ?_;refine K.pick [0,2] rfl a8 ?_;exact q4H
 ·rintro ⟨out_1,vout_1⟩ ⟨hk,oout_1⟩; (try dsimp only at *);rw [←hk2] at hk; (try dsimp only at hk);refine fM ?_;refine q1j ?_;rintro F3 ⟨le2_3,hz3⟩;refine eH ?_;have le1_3:=le1_2.trans le2_3;have hfF3:=hz3.toF rfl (fun _=>rfl);haveI:=hfF3.oneC;obtain rfl:=Option.some.inj hk;exact eg rfl rfl (fun w' hw=>⟨vout_1,F3.toFrz,hfF3,rfl,dK hw (i:=0) rfl hS0 le1_3⟩)
def zd9 (fuel:Nat)(a:GInt):Option GInt:=
 (zcQ a).bind fun r7=>
 (zcP fuel (!a.Neg) r7).bind fun r8=>
 some r8
theorem zgc (F0:Frz)(w:World)(hF0:F0.At w)(a:GInt)(va_1:Value)(ha_1:SlC F0 va_1 1 (a.Digits.map (eK .u8)))(fuel:Nat)(r:GInt)(hr:zd9 fuel a=some r):Calls Tryz.prog 194 #[.agg [.bool a.Neg,va_1].toArray] w fun e w'=>∃(y:Value) (G:Frz),(SlC G y 1 (r.Digits.map (eK .u8)))∧e= .returned (.agg [.bool r.Neg,y].toArray)∧Fx F0 w G w':=by
 have hk:=hr;unfold zd9 at hk;haveI:=ha_1.oneC;obtain ⟨S0,F1,rfl,hS0,hp0⟩:=dY hF0;refine dG Tryz.func194 rfl rfl rfl hp0 ?_;refine fV ?_;rintro _ _ ⟨g1,rfl,rfl⟩;refine fv ?_;rintro _ _ ⟨g2,rfl,rfl⟩;refine eR ?_;have hq:=dm hk;clear hk;obtain ⟨r7,hr7,hk⟩:=hq;have hq:=dm hk;clear hk;obtain ⟨r8,hr8,hk⟩:=hq; (try dsimp only at hk);refine dL (sN 0 4 (.eff 4 (.eff 5 (.eff 6 .done)))) [.row g1 26 [.bool a.Neg,va_1], .fr F1] b5 Sx ?_;refine gh ?_;refine eN ?_;refine kc ?_;refine c5 rfl (cW) rfl rfl (dg 2 rfl rfl rfl rfl (fun w hw hF=>zdP _ w hF a va_1 ha_1 r7 hr7)) ?_;rintro _ _ ⟨v7_0_0,F2,le1_2,hf7_0_0,hq,rfl⟩;obtain rfl:=hq.symm;haveI:=hf7_0_0.oneC;refine q3O ?_;refine dH ?_;refine c5 rfl (cW) rfl rfl (dg 2 rfl rfl rfl rfl (fun w hw hF=>zd1 _ w hF (!a.Neg) r7 v7_0_0 hf7_0_0 fuel r8 hr8)) ?_;rintro _ _ ⟨v8_0_1,F3,le2_3,hf8_0_1,rfl,rfl⟩;have le1_3:=le1_2.trans le2_3;haveI:=hf8_0_1.oneC;refine q3P ?_;refine q17 ?_;refine dU ?_;refine q3P ?_;refine TS.done ?_;refine K.seq (T.ret ?_);obtain rfl:=Option.some.inj hk;exact jj 0 rfl rfl rfl rfl (fun w' hw=>⟨v8_0_1,F3.toFrz,hf8_0_1,rfl,dK hw (i:=2) rfl hS0 le1_3⟩)
def zdY (fuel:Nat)(a:GInt)(b:GInt):Option (GInt×GInt):=
 (zcQ a).bind fun r10=>
 (zcQ b).bind fun r12=>
 (zed fuel r10 r12).bind fun r13=>
 dF (fun (s4:List Int×List Int)=>
  (zcP fuel (!(a.Neg == b.Neg)) s4.1).bind fun r39=>
  (zcP fuel b.Neg s4.2).bind fun r43=>
  some (r39,r43))
 (fun k4=>
  (bif ((decide (0<(r13.2.length:Int)))&&(!(a.Neg == b.Neg))) then
   (zd3 fuel r13.1 [1]).bind fun r28=>
   (zcQ b).bind fun r30=>
   (zeg fuel r30 r13.2).bind fun r32=>
   k4 (r28,r32)
   else
   k4 (r13.1,r13.2)))
theorem zfs (F0:Frz)(w:World)(hF0:F0.At w)(a:GInt)(va_1:Value)(ha_1:SlC F0 va_1 1 (a.Digits.map (eK .u8)))(b:GInt)(vb_1:Value)(hb_1:SlC F0 vb_1 1 (b.Digits.map (eK .u8)))(fuel:Nat)(r:GInt×GInt)(hr:zdY fuel a b=some r):Calls Tryz.prog 195 #[.agg [.bool a.Neg,va_1].toArray, .agg [.bool b.Neg,vb_1].toArray] w fun e w'=>∃(y:Value×Value) (G:Frz),(SlC G y.1 1 (r.1.Digits.map (eK .u8))∧SlC G y.2 1 (r.2.Digits.map (eK .u8)))∧e= .returned (.tuple #[.agg [.bool r.1.Neg,y.1].toArray, .agg [.bool r.2.Neg,y.2].toArray])∧Fx F0 w G w':=by
 have hk:=hr;unfold zdY at hk;haveI:=ha_1.oneC;haveI:=hb_1.oneC;obtain ⟨S0,F1,rfl,hS0,hp0⟩:=dY hF0;refine dG Tryz.func195 rfl rfl rfl hp0 ?_;refine fV ?_;rintro _ _ ⟨g2,rfl,rfl⟩;refine q3D ?_;rintro _ _ ⟨g3,rfl,rfl⟩;refine fv ?_;rintro _ _ ⟨g4,rfl,rfl⟩;refine fv ?_;rintro _ _ ⟨g5,rfl,rfl⟩;refine eR ?_;have hq:=dm hk;clear hk;obtain ⟨r10,hr10,hk⟩:=hq;have hq:=dm hk;clear hk;obtain ⟨r12,hr12,hk⟩:=hq;have hq:=dm hk;clear hk;obtain ⟨r13,hr13,hk⟩:=hq; (try dsimp only at hk);refine dL (.still 0 (.still 2 (.eff 1 (.eff 3 (.eff 4 (sN 5 4 (.still 9 .done))))))) _ b5 (List.Sublist.refl _) ?_;refine cX rfl (eP 3) ?_;refine cX rfl (eP 2) ?_;refine dH ?_;refine c5 rfl (cW) rfl rfl (dg 4 rfl rfl rfl rfl (fun w hw hF=>zdP _ w hF a va_1 ha_1 r10 hr10)) ?_;rintro _ _ ⟨v10_0_0,F2,le1_2,hf10_0_0,hq,rfl⟩;obtain rfl:=hq.symm;haveI:=hf10_0_0.oneC;refine ⟨(fun w hw=>(hw.frLe (i:=4) rfl le1_2).sub Sx),?_⟩;refine dH ?_;refine c5 rfl (cW) rfl rfl (dg 4 rfl rfl rfl rfl (fun w hw hF=>zdP _ w hF b vb_1 (SlC.mono hb_1 le1_2) r12 hr12)) ?_;rintro _ _ ⟨v12_0_0,F3,le2_3,hf12_0_0,hq,rfl⟩;obtain rfl:=hq.symm;have le1_3:=le1_2.trans le2_3;haveI:=hf12_0_0.oneC;refine ⟨(fun w hw=>(hw.frLe (i:=4) rfl le1_3).sub Sx),?_⟩;refine dH ?_;refine c5 rfl (cW) rfl rfl (dg 4 rfl rfl rfl rfl (fun w hw hF=>zfB _ w hF r10 v10_0_0 (SlC.mono hf10_0_0 le2_3) r12 v12_0_0 hf12_0_0 fuel r13 hr13)) ?_;rintro _ _ ⟨⟨v13_0_0,v13_1_0⟩,F4,le3_4,⟨hf13_0_0,hf13_1_0⟩,rfl,rfl⟩;dsimp only at hf13_0_0 hf13_1_0 ⊢;have le1_4:=le1_3.trans le3_4;haveI:=hf13_0_0.oneC;haveI:=hf13_1_0.oneC;refine ⟨(fun w hw=>(hw.frLe (i:=4) rfl le1_4).sub Sx),?_⟩;refine TS.run 5 rfl ?_;refine TS.done ?_;refine K.seq (T.seq (T.seq ?_));refine c9 (ι:=Unit) (fun z=>[(2, .pointer (some ⟨g2,0,none⟩)),(3, .pointer (some ⟨g3,0,none⟩)),(4, .pointer (some ⟨g4,0,none⟩)),(5, .pointer (some ⟨g5,0,none⟩)),(6,v13_0_0),(7,v13_1_0),(25, .bool ((decide (0<(r13.2.length:Int)))&&(!(a.Neg == b.Neg))))]) (fun z=>[.row g5 26 [.bool false,(.slice none 0 0)], .row g4 26 [.bool false,(.slice none 0 0)], .row g3 26 [.bool b.Neg,vb_1], .row g2 26 [.bool a.Neg,va_1], .fr F4]) (fun z=>True) ?_ ?_
 ·refine ec ?_;refine cU (dn rfl rfl hf13_1_0 (List.length_map _)) ?_;have hm17:r13.2.length≤9223372036854775807:=(List.length_map _)▸hf13_1_0.max;refine d4 ?_;refine db rfl rfl rfl (fun h1=>?_) (fun h1=>?_)
  ·have p1:=of_decide_eq_true h1;refine q37 ?_;refine ig ?_;exact cY () trivial (.c (.c (.c (.c (.c (.c (.b (jr h1) .nil))))))) (List.Sublist.refl _)
  ·have p1:=of_decide_eq_false h1;refine q3b ?_;exact cY () trivial (.c (.c (.c (.c (.c (.c (.b (gK h1).symm .nil))))))) (List.Sublist.refl _)
 ·rintro _ _;have hm17:r13.2.length≤9223372036854775807:=(List.length_map _)▸hf13_1_0.max;have hq:=dP hk;clear hk;obtain ⟨k4,hk4,hk⟩:=hq; (try dsimp only at hk);refine c9 (ι:=List Int×Value×List Int×Value×FzB w (fun _=>False) S0) (fun z=>[(2, .pointer (some ⟨g2,0,none⟩)),(3, .pointer (some ⟨g3,0,none⟩)),(4, .pointer (some ⟨g4,0,none⟩)),(5, .pointer (some ⟨g5,0,none⟩)),(6,z.2.1),(7,z.2.2.2.1)]) (fun z=>[.row g5 26 [.bool false,(.slice none 0 0)], .row g4 26 [.bool false,(.slice none 0 0)], .row g3 26 [.bool b.Neg,vb_1], .row g2 26 [.bool a.Neg,va_1], .fr z.2.2.2.2]) (fun z=>k4 (z.1,z.2.2.1)=some r∧SlC z.2.2.2.2.toFrz z.2.1 1 (z.1.map (eK .u8))∧SlC z.2.2.2.2.toFrz z.2.2.2.1 1 (z.2.2.1.map (eK .u8))∧F4.toFrz.Le z.2.2.2.2.toFrz) ?_ ?_
  ·refine T.cond rfl (fun h5=>?_) (fun h5=>?_)
   ·have p5:=h5; (try simp only [gH] at p5);replace hk:=dj hk h5;have hq:=dm hk;clear hk;obtain ⟨r28,hr28,hk⟩:=hq;have hq:=dm hk;clear hk;obtain ⟨r30,hr30,hk⟩:=hq;have hq:=dm hk;clear hk;obtain ⟨r32,hr32,hk⟩:=hq; (try dsimp only at hk);refine dL (.still 0 (.still 3 (.still 5 (.eff 1 (.eff 2 (.eff 4 (.eff 6 (.still 7 (.still 8 .done))))))))) _ b5 (List.Sublist.refl _) ?_;refine eN ?_;refine cX rfl (eP 2) ?_;refine eN ?_;refine dH ?_;refine kl ?_;rintro _ _ ⟨g27,rfl,rfl⟩;refine gB ?_;refine iA (fun w hw=>hw.freezeR (i:=5) (j:=0) a8 rfl rfl) ?_;rintro F6 ⟨le4_6,hz6⟩;refine eH ?_;have le1_6:=le1_4.trans le4_6;have hfF6:SlC F6.toFrz (.slice (some ⟨g27,0,none⟩) 1 1) 1 ([1].map (eK .u8)):=(SlK.lit hz6 rfl (Nat.le_refl _) a8).toF (xs:=[1]) rfl (fun _=>rfl);refine dH ?_;refine c5 rfl (cW) rfl rfl (dg 4 rfl rfl rfl rfl (fun w hw hF=>zff _ w hF r13.1 v13_0_0 (SlC.mono hf13_0_0 le4_6) [1] (.slice (some ⟨g27,0,none⟩) 1 1) hfF6 fuel r28 hr28)) ?_;rintro _ _ ⟨v28_0_0,F7,le6_7,hf28_0_0,hq,rfl⟩;obtain rfl:=hq.symm;have le1_7:=le1_6.trans le6_7;have le4_7:=le4_6.trans le6_7;haveI:=hf28_0_0.oneC;refine ⟨(fun w hw=>(hw.frLe (i:=4) rfl le4_7).sub Sx),?_⟩;refine dH ?_;refine c5 rfl (cW) rfl rfl (dg 4 rfl rfl rfl rfl (fun w hw hF=>zdP _ w hF b vb_1 (SlC.mono hb_1 le1_7) r30 hr30)) ?_;rintro _ _ ⟨v30_0_0,F8,le7_8,hf30_0_0,hq,rfl⟩;obtain rfl:=hq.symm;have le4_8:=le4_7.trans le7_8;haveI:=hf30_0_0.oneC;refine ⟨(fun w hw=>(hw.frLe (i:=4) rfl le4_8).sub Sx),?_⟩;refine dH ?_;refine c5 rfl (cW) rfl rfl (dg 4 rfl rfl rfl rfl (fun w hw hF=>zfS _ w hF r30 v30_0_0 hf30_0_0 r13.2 v13_1_0 (SlC.mono hf13_1_0 le4_8) fuel r32 hr32)) ?_;rintro _ _ ⟨v32_0_0,F9,le8_9,hf32_0_0,hq,rfl⟩;obtain rfl:=hq.symm;have le4_9:=le4_8.trans le8_9;have le7_9:=le7_8.trans le8_9;haveI:=hf32_0_0.oneC;refine ⟨(fun w hw=>(hw.frLe (i:=4) rfl le4_9).sub Sx),?_⟩;refine jq ?_;exact cY (r28,v28_0_0,r32,v32_0_0,F9) ⟨hk,(SlC.mono hf28_0_0 le7_9),hf32_0_0,le4_9⟩ (.c (.c (.c (.c (.c (.c .nil)))))) (List.Sublist.refl _)
   ·replace hk:=di hk h5;refine T.skip ?_;exact cY (r13.1,v13_0_0,r13.2,v13_1_0,F4) ⟨hk,hf13_0_0,hf13_1_0,(Frz.Le.refl _)⟩ (.c (.c (.c (.c (.c (.c .nil)))))) (List.Sublist.refl _)
  ·rintro ⟨q_2,vq_2,r_3,vr_3,F5⟩ ⟨hk,hq_2,hr_3,le4_5⟩; (try dsimp only at *);rw [←hk4] at hk; (try dsimp only at hk);have le1_5:=le1_4.trans le4_5;haveI:=hq_2.oneC;haveI:=hr_3.oneC;refine T.seq ?_;have hq:=dm hk;clear hk;obtain ⟨r39,hr39,hk⟩:=hq;have hq:=dm hk;clear hk;obtain ⟨r43,hr43,hk⟩:=hq; (try dsimp only at hk);refine dL (sN 0 6 (sN 7 3 (.eff 6 (.eff 10 (.eff 11 (.eff 12 .done)))))) [.row g3 26 [.bool b.Neg,vb_1], .row g2 26 [.bool a.Neg,va_1], .fr F5] b5 Sx ?_;refine jN ?_;refine gh ?_;refine cX rfl (lv b5 rfl rfl rfl) ?_;refine eN ?_;refine gh ?_;refine eN ?_;refine dH ?_;refine c5 rfl (cW) rfl rfl (dg 4 rfl rfl rfl rfl (fun w hw hF=>zd1 _ w hF (!(a.Neg == b.Neg)) q_2 vq_2 hq_2 fuel r39 hr39)) ?_;rintro _ _ ⟨v39_0_1,F10,le5_10,hf39_0_1,rfl,rfl⟩;have le1_10:=le1_5.trans le5_10;haveI:=hf39_0_1.oneC;refine ⟨(fun w hw=>(hw.frLe (i:=4) rfl le5_10).sub Sx),?_⟩;refine dH ?_;refine c5 rfl (cW) rfl rfl (dg 4 rfl rfl rfl rfl (fun w hw hF=>zd1 _ w hF b.Neg r_3 vr_3 (SlC.mono hr_3 le5_10) fuel r43 hr43)) ?_;rintro _ _ ⟨v43_0_1,F11,le10_11,hf43_0_1,rfl,rfl⟩;have le1_11:=le1_10.trans le10_11;have le5_11:=le5_10.trans le10_11;haveI:=hf43_0_1.oneC;refine ⟨(fun w hw=>(hw.frLe (i:=4) rfl le5_11).sub Sx),?_⟩;refine q3g ?_;refine ⟨(fun w hw=>(hw.frLe (i:=4) rfl le5_11).sub Sx),?_⟩;refine q17 ?_;refine dU ?_;refine ⟨(fun w hw=>(hw.frLe (i:=4) rfl le5_11).sub Sx),?_⟩;refine TS.done ?_;refine K.seq (T.ret ?_);obtain rfl:=Option.some.inj hk;exact K.cB 1 0 rfl rfl rfl rfl rfl rfl rfl (fun w' hw=>⟨(v39_0_1,v43_0_1),F11.toFrz,⟨(SlC.mono hf39_0_1 le10_11),hf43_0_1⟩,rfl,dK hw (i:=4) rfl hS0 le1_11⟩)
def zew (fuel:Nat)(n:GInt)(d:GInt):Option GRatio:=
 (zex fuel n d).bind fun r12=>
 dF (fun (s3:Bool×List Int)=>
  (zdY fuel n (GInt.mk s3.1 s3.2)).bind fun r20=>
  (zdY fuel d (GInt.mk s3.1 s3.2)).bind fun r26=>
  some (GRatio.mk (GInt.mk r20.1.Neg r20.1.Digits) (GInt.mk r26.1.Neg r26.1.Digits)))
 (fun k3=>
  (bif d.Neg then
   (zd9 fuel r12).bind fun r16=>
   k3 (r16.Neg,r16.Digits)
   else
   k3 (r12.Neg,r12.Digits)))
theorem zgH (F0:Frz)(w:World)(hF0:F0.At w)(n:GInt)(vn_1:Value)(hn_1:SlC F0 vn_1 1 (n.Digits.map (eK .u8)))(d:GInt)(vd_1:Value)(hd_1:SlC F0 vd_1 1 (d.Digits.map (eK .u8)))(fuel:Nat)(r:GRatio)(hr:zew fuel n d=some r):Calls Tryz.prog 116 #[.agg [.bool n.Neg,vn_1].toArray, .agg [.bool d.Neg,vd_1].toArray] w fun e w'=>∃(y:Value×Value) (G:Frz),(SlC G y.1 1 (r.Num.Digits.map (eK .u8))∧SlC G y.2 1 (r.Den.Digits.map (eK .u8)))∧e= .returned (.agg [.bool r.Num.Neg,y.1, .bool r.Den.Neg,y.2].toArray)∧Fx F0 w G w':=by
 have hk:=hr;unfold zew at hk;haveI:=hn_1.oneC;haveI:=hd_1.oneC;obtain ⟨S0,F1,rfl,hS0,hp0⟩:=dY hF0;refine dG Tryz.func116 rfl rfl rfl hp0 ?_;refine fV ?_;rintro _ _ ⟨g2,rfl,rfl⟩;refine q3D ?_;rintro _ _ ⟨g3,rfl,rfl⟩;refine fv ?_;rintro _ _ ⟨g4,rfl,rfl⟩;refine eR ?_;have hq:=dm hk;clear hk;obtain ⟨r12,hr12,hk⟩:=hq; (try dsimp only at hk);refine fO ?_;refine cU (eP 2) ?_;refine jZ ?_;refine cZ (dg 3 rfl rfl rfl rfl (fun w hw hF=>zgK _ w hF n vn_1 hn_1 d vd_1 hd_1 fuel r12 hr12)) ?_;rintro _ _ ⟨v12_0_1,F2,le1_2,hf12_0_1,rfl,rfl⟩;haveI:=hf12_0_1.oneC;refine fv ?_;rintro _ _ ⟨g5,rfl,rfl⟩;refine fx ?_;refine i4 ?_;refine q2b ?_;refine dC ?_;have hq:=dP hk;clear hk;obtain ⟨k3,hk3,hk⟩:=hq; (try dsimp only at hk);refine c9 (ι:=Bool×List Int×Value×FzB w (fun _=>False) S0) (fun z=>[(2, .pointer (some ⟨g2,0,none⟩)),(3, .pointer (some ⟨g3,0,none⟩)),(4, .pointer (some ⟨g4,0,none⟩)),(5, .pointer (some ⟨g5,0,none⟩))]) (fun z=>[.row g5 26 [.bool z.1,z.2.2.1], .row g4 28 [.bool false,(.slice none 0 0), .bool false,(.slice none 0 0)], .row g3 26 [.bool d.Neg,vd_1], .row g2 26 [.bool n.Neg,vn_1], .fr z.2.2.2]) (fun z=>k3 (z.1,z.2.1)=some r∧SlC z.2.2.2.toFrz z.2.2.1 1 (z.2.1.map (eK .u8))∧F2.toFrz.Le z.2.2.2.toFrz) ?_ ?_
 ·refine T.cond rfl (fun h4=>?_) (fun h4=>?_)
  ·replace hk:=dj hk h4;have hq:=dm hk;clear hk;obtain ⟨r16,hr16,hk⟩:=hq; (try dsimp only at hk);refine fO ?_;refine iQ ?_;refine cZ (dg 4 rfl rfl rfl rfl (fun w hw hF=>zgc _ w hF r12 v12_0_1 hf12_0_1 fuel r16 hr16)) ?_;rintro _ _ ⟨v16_0_1,F4,le2_4,hf16_0_1,rfl,rfl⟩;haveI:=hf16_0_1.oneC;refine fx ?_;refine e7 ?_;exact cY (r16.Neg,r16.Digits,v16_0_1,F4) ⟨hk,hf16_0_1,le2_4⟩ (.c (.c (.c (.c .nil)))) (List.Sublist.refl _)
  ·replace hk:=di hk h4;refine T.skip ?_;exact cY (r12.Neg,r12.Digits,v12_0_1,F2) ⟨hk,hf12_0_1,(Frz.Le.refl _)⟩ (.c (.c (.c (.c .nil)))) (List.Sublist.refl _)
 ·rintro ⟨c_1,c_2,vc_2,F3⟩ ⟨hk,hc_2,le2_3⟩; (try dsimp only at *);rw [←hk3] at hk; (try dsimp only at hk);have le1_3:=le1_2.trans le2_3;haveI:=hc_2.oneC;refine T.seq ?_;have hq:=dm hk;clear hk;obtain ⟨r20,hr20,hk⟩:=hq; (try dsimp only at hk);refine fO ?_;refine q32 ?_;refine iQ ?_;refine cZ (dg 4 rfl rfl rfl rfl (fun w hw hF=>zfs _ w hF n vn_1 (SlC.mono hn_1 le1_3) (GInt.mk c_1 c_2) vc_2 hc_2 fuel r20 hr20)) ?_;rintro _ _ ⟨⟨v20_0_1,v20_1_1⟩,F5,le3_5,⟨hf20_0_1,hf20_1_1⟩,rfl,rfl⟩;dsimp only at hf20_0_1 hf20_1_1 ⊢;have le1_5:=le1_3.trans le3_5;haveI:=hf20_0_1.oneC;haveI:=hf20_1_1.oneC;refine kb ?_;rintro _ _ ⟨g6,rfl,rfl⟩;refine fv ?_;rintro _ _ ⟨g7,rfl,rfl⟩;refine ln ?_;refine fx ?_;refine eR ?_;have hq:=dm hk;clear hk;obtain ⟨r26,hr26,hk⟩:=hq; (try dsimp only at hk);refine fO ?_;refine cU (eP 4) ?_;refine cU (eP 2) ?_;refine cZ (dg 6 rfl rfl rfl rfl (fun w hw hF=>zfs _ w hF d vd_1 (SlC.mono hd_1 le1_5) (GInt.mk c_1 c_2) vc_2 (SlC.mono hc_2 le3_5) fuel r26 hr26)) ?_;rintro _ _ ⟨⟨v26_0_1,v26_1_1⟩,F6,le5_6,⟨hf26_0_1,hf26_1_1⟩,rfl,rfl⟩;dsimp only at hf26_0_1 hf26_1_1 ⊢;have le1_6:=le1_5.trans le5_6;haveI:=hf26_0_1.oneC;haveI:=hf26_1_1.oneC;refine kb ?_;rintro _ _ ⟨g8,rfl,rfl⟩;refine fv ?_;rintro _ _ ⟨g9,rfl,rfl⟩;refine ln ?_;refine fx ?_;refine ee ?_;refine q32 ?_;refine jZ ?_;refine iP ?_;refine dz (fb 5) ?_;refine dU ?_;refine gp ?_;obtain rfl:=Option.some.inj hk;exact jj 5 rfl rfl rfl rfl (fun w' hw=>⟨(v20_0_1,v26_0_1),F6.toFrz,⟨(SlC.mono hf20_0_1 le5_6),hf26_0_1⟩,rfl,dK hw (i:=8) rfl hS0 le1_6⟩)
def zfY (fuel:Nat)(n:Int)(d:Int):Option GRatio:=
 (zfm fuel n).bind fun r6=>
 (zfm fuel d).bind fun r8=>
 (zew fuel r6 r8).bind fun r9=>
 some r9
theorem zh4 (F0:Frz)(w:World)(hF0:F0.At w)(n:Int)(d:Int)(fuel:Nat)(r:GRatio)(hr:zfY fuel n d=some r):Calls Tryz.prog 40 #[.int .i64 n, .int .i64 d] w fun e w'=>∃(y:Value×Value) (G:Frz),(SlC G y.1 1 (r.Num.Digits.map (eK .u8))∧SlC G y.2 1 (r.Den.Digits.map (eK .u8)))∧e= .returned (.agg [.bool r.Num.Neg,y.1, .bool r.Den.Neg,y.2].toArray)∧Fx F0 w G w':=by
 have hk:=hr;unfold zfY at hk;obtain ⟨S0,F1,rfl,hS0,hp0⟩:=dY hF0;refine dG Tryz.func40 rfl rfl rfl hp0 ?_;refine d5 ?_;refine fv ?_;rintro _ _ ⟨g4,rfl,rfl⟩;refine eR ?_;have hq:=dm hk;clear hk;obtain ⟨r6,hr6,hk⟩:=hq;have hq:=dm hk;clear hk;obtain ⟨r8,hr8,hk⟩:=hq;have hq:=dm hk;clear hk;obtain ⟨r9,hr9,hk⟩:=hq; (try dsimp only at hk);refine ec ?_;refine cZ (dg 1 rfl rfl rfl rfl (fun w hw hF=>zgY _ w hF n fuel r6 hr6)) ?_;rintro _ _ ⟨v6_0_1,F2,le1_2,hf6_0_1,rfl,rfl⟩;haveI:=hf6_0_1.oneC;refine dr ?_;refine cZ (dg 1 rfl rfl rfl rfl (fun w hw hF=>zgY _ w hF d fuel r8 hr8)) ?_;rintro _ _ ⟨v8_0_1,F3,le2_3,hf8_0_1,rfl,rfl⟩;have le1_3:=le1_2.trans le2_3;haveI:=hf8_0_1.oneC;refine cZ (dg 1 rfl rfl rfl rfl (fun w hw hF=>zgH _ w hF r6 v6_0_1 (SlC.mono hf6_0_1 le2_3) r8 v8_0_1 hf8_0_1 fuel r9 hr9)) ?_;rintro _ _ ⟨⟨v9_0_1,v9_0_3⟩,F4,le3_4,⟨hf9_0_1,hf9_0_3⟩,rfl,rfl⟩;dsimp only at hf9_0_1 hf9_0_3 ⊢;have le1_4:=le1_3.trans le3_4;haveI:=hf9_0_1.oneC;haveI:=hf9_0_3.oneC;refine fx ?_;refine gp ?_;obtain rfl:=Option.some.inj hk;exact jj 0 rfl rfl rfl rfl (fun w' hw=>⟨(v9_0_1,v9_0_3),F4.toFrz,⟨hf9_0_1,hf9_0_3⟩,rfl,dK hw (i:=1) rfl hS0 le1_4⟩)
def jy (a:List Int)(b:List Int):Bool:=
 (bif decide (¬(a.length:Int)=(b.length:Int)) then
  false
  else
  dF (fun (_:Unit)=>
   true)
  (fun k2=>
   dq (fun (i_4:Nat) (next3:Unit→Bool) (_:Unit)=>
    (bif decide (¬(cS a i_4)=(cS b i_4)) then
     false
     else
     next3 ()))
   (fun (_:Unit)=>
    k2 ()) (a.length - 0) 0 ()))
theorem zcg (F0:Frz)(w:World)(hF0:F0.At w)(a:List Int)(va:Value)(ha:SlC F0 va 1 (a.map eI))(b:List Int)(vb:Value)(hb:SlC F0 vb 1 (b.map eI)):Calls Tryz.prog 27 #[va,vb] w fun e w'=>e= .returned (.bool (jy a b))∧Below w.heap.size w w':=by
 obtain ⟨r,hk⟩:∃r,jy a b=r:=⟨_,rfl⟩;rw [hk];unfold jy at hk;haveI:=ha.oneC;haveI:=hb.oneC;obtain ⟨S0,F1,rfl,hS0,hp0⟩:=dY hF0;refine dG Tryz.func27 rfl rfl rfl hp0 ?_;refine ia ?_;refine ky ?_;have hm7:a.length≤9223372036854775807:=(List.length_map _)▸ha.max;refine dr ?_;refine q2t ?_;have hm9:b.length≤9223372036854775807:=(List.length_map _)▸hb.max;refine dJ ?_;refine T.cond rfl (fun h1=>?_) (fun h1=>?_)
 ·have p1:=of_decide_eq_true h1;replace hk:=dj hk h1;refine gw ?_;subst hk;exact dS
 ·have p1:=of_decide_eq_false h1;replace hk:=di hk h1;refine il ?_;refine dJ ?_;have hq:=dP hk;clear hk;obtain ⟨k2,hk2,hk⟩:=hq; (try dsimp only at hk);refine c9 (ι:=Unit) (fun z=>[]) (fun z=>[.fr F1]) (fun z=>k2 ()=r) ?_ ?_
  ·have hq:=eX hk;clear hk;obtain ⟨f3,kk3,hf3,hkk3,hk⟩:=hq;refine ed ?_;refine T.loop (ι:=Nat) (fun z=>[(0,va),(1,vb),(5, .int .i64 (z:Int))]) (fun z=>[.fr F1]) (fun z=>dq f3 kk3 (a.length - z) z ()=r) (fun z=>a.length - z) 0 ?_ ?_ ?_ ?_
   ·exact hk
   ·exact ju
   ·exact eb
   ·rintro i_4 hk;refine hD ?_;refine ky ?_;refine dJ ?_;refine T.cond rfl (fun h5=>?_) (fun h5=>?_)
    ·have p5:=of_decide_eq_true h5;rw [eW a7] at hk;generalize hn3:dq f3 kk3 (a.length - (i_4+1)) (i_4+1)=next3 at hk;rw [←hf3] at hk; (try dsimp only at hk);refine lq ?_;refine q01 ?_;refine cX rfl (dc (i:=i_4) rfl rfl rfl ha (List.length_map _) rfl a7) ?_;refine cX rfl (dv 0 (i:=i_4) (j:=0) rfl rfl rfl ha a7) ?_;refine eD ?_;refine cX rfl (dc (i:=i_4) rfl rfl rfl hb (List.length_map _) rfl a7) ?_;refine cX rfl (dv 0 (i:=i_4) (j:=0) rfl rfl rfl hb a7) ?_;refine iF ?_;refine K.seq ?_;refine T.cond rfl (fun h6=>?_) (fun h6=>?_)
     ·have p6:=of_decide_eq_true h6;replace hk:=dj hk h6;refine kp ?_;subst hk;exact dS
     ·have p6:=of_decide_eq_false h6;replace hk:=di hk h6;refine q4i ?_;rw [←hn3] at hk;exact q43
    ·have p5:=of_decide_eq_false h5;rw [eY a7,←hkk3] at hk; (try dsimp only at hk);refine ek ?_;exact jh
  ·rintro _ hk;rw [←hk2] at hk; (try dsimp only at hk);refine iU ?_;subst hk;exact dS
def zdw (a:List GProduct)(b:List GProduct):Bool:=
 (bif decide (¬(a.length:Int)=(b.length:Int)) then
  false
  else
  dF (fun (_:Unit)=>
   true)
  (fun k2=>
   dq (fun (i_4:Nat) (next3:Unit→Bool) (_:Unit)=>
    (bif !(decide ((cS a i_4).Area=(cS b i_4).Area)&&decide ((cS a i_4).Category=(cS b i_4).Category)&&decide ((cS a i_4).Supply=(cS b i_4).Supply)&&decide ((cS a i_4).Units=(cS b i_4).Units)&&decide ((cS a i_4).Reserve=(cS b i_4).Reserve)) then
     false
     else
     next3 ()))
   (fun (_:Unit)=>
    k2 ()) (a.length - 0) 0 ()))
theorem zhq (F0:Frz)(w:World)(hF0:F0.At w)(a:List GProduct)(va:Value)(ha:SlC F0 va 5 (a.map cV))(b:List GProduct)(vb:Value)(hb:SlC F0 vb 5 (b.map cV)):Calls Tryz.prog 71 #[va,vb] w fun e w'=>e= .returned (.bool (zdw a b))∧Below w.heap.size w w':=by
 obtain ⟨r,hk⟩:∃r,zdw a b=r:=⟨_,rfl⟩;rw [hk];unfold zdw at hk;haveI:=ha.oneC;haveI:=hb.oneC;obtain ⟨S0,F1,rfl,hS0,hp0⟩:=dY hF0;refine dG Tryz.func71 rfl rfl rfl hp0 ?_;refine ia ?_;refine ky ?_;have hm7:a.length≤9223372036854775807:=(List.length_map _)▸ha.max;refine dr ?_;refine q2t ?_;have hm9:b.length≤9223372036854775807:=(List.length_map _)▸hb.max;refine dJ ?_;refine T.cond rfl (fun h1=>?_) (fun h1=>?_)
 ·have p1:=of_decide_eq_true h1;replace hk:=dj hk h1;refine gw ?_;subst hk;exact dS
 ·have p1:=of_decide_eq_false h1;replace hk:=di hk h1;refine il ?_;refine dJ ?_;have hq:=dP hk;clear hk;obtain ⟨k2,hk2,hk⟩:=hq; (try dsimp only at hk);refine c9 (ι:=Unit) (fun z=>[]) (fun z=>[.fr F1]) (fun z=>k2 ()=r) ?_ ?_
  ·have hq:=eX hk;clear hk;obtain ⟨f3,kk3,hf3,hkk3,hk⟩:=hq;refine ed ?_;refine T.loop (ι:=Nat) (fun z=>[(0,va),(1,vb),(5, .int .i64 (z:Int))]) (fun z=>[.fr F1]) (fun z=>dq f3 kk3 (a.length - z) z ()=r) (fun z=>a.length - z) 0 ?_ ?_ ?_ ?_
   ·exact hk
   ·exact ju
   ·exact eb
   ·rintro i_4 hk;refine hD ?_;refine ky ?_;refine dJ ?_;refine T.cond rfl (fun h5=>?_) (fun h5=>?_)
    ·have p5:=of_decide_eq_true h5;rw [eW a7] at hk;generalize hn3:dq f3 kk3 (a.length - (i_4+1)) (i_4+1)=next3 at hk;rw [←hf3] at hk; (try dsimp only at hk);refine lq ?_;refine q01 ?_;refine cX rfl (dc (i:=i_4) rfl rfl rfl ha (List.length_map _) rfl a7) ?_;refine cX rfl (fP 0 (i:=i_4) rfl rfl rfl ha a7) ?_;refine eD ?_;refine cX rfl (dc (i:=i_4) rfl rfl rfl hb (List.length_map _) rfl a7) ?_;refine cX rfl (fP 0 (i:=i_4) rfl rfl rfl hb a7) ?_;refine cX rfl (Yv.cI b5 rfl rfl rfl) ?_;refine TS.done ?_;refine K.seq ?_;refine T.cond rfl (fun h6=>?_) (fun h6=>?_)
     ·replace hk:=dj hk h6;refine kp ?_;subst hk;exact dS
     ·have p6:=h6; (try simp only [gH] at p6);replace hk:=di hk h6;refine q4i ?_;rw [←hn3] at hk;exact q43
    ·have p5:=of_decide_eq_false h5;rw [eY a7,←hkk3] at hk; (try dsimp only at hk);refine ek ?_;exact jh
  ·rintro _ hk;rw [←hk2] at hk; (try dsimp only at hk);refine iU ?_;subst hk;exact dS
def zbB (a:List GBidder)(b:List GBidder):Bool:=
 (bif decide (¬(a.length:Int)=(b.length:Int)) then
  false
  else
  dF (fun (_:Unit)=>
   true)
  (fun k2=>
   dq (fun (i_4:Nat) (next3:Unit→Bool) (_:Unit)=>
    (bif ((((decide (¬(cS a i_4).ID=(cS b i_4).ID))||(decide (¬(cS a i_4).Eligibility=(cS b i_4).Eligibility)))||(decide (¬(cS a i_4).Waivers=(cS b i_4).Waivers)))||(!(jy ((cS a i_4).Blocks) ((cS b i_4).Blocks)))) then
     false
     else
     next3 ()))
   (fun (_:Unit)=>
    k2 ()) (a.length - 0) 0 ()))
theorem zep (F0:Frz)(w:World)(hF0:F0.At w)(a:List GBidder)(va:Value)(ca:List (List Value))(ha:SlD cT F0 va 4 ca a)(b:List GBidder)(vb:Value)(cb:List (List Value))(hb:SlD cT F0 vb 4 cb b):Calls Tryz.prog 73 #[va,vb] w fun e w'=>e= .returned (.bool (zbB a b))∧Below w.heap.size w w':=by
 obtain ⟨r,hk⟩:∃r,zbB a b=r:=⟨_,rfl⟩;rw [hk];unfold zbB at hk;haveI:=ha.1.oneC;haveI:=hb.1.oneC;obtain ⟨S0,F1,rfl,hS0,hp0⟩:=dY hF0;refine dG Tryz.func73 rfl rfl rfl hp0 ?_;refine ia ?_;refine cU (dn rfl rfl ha.1 ha.2.1) ?_;have hm7:a.length≤9223372036854775807:=ha.2.1▸ha.1.max;refine dr ?_;refine cU (dn rfl rfl hb.1 hb.2.1) ?_;have hm9:b.length≤9223372036854775807:=hb.2.1▸hb.1.max;refine dJ ?_;refine T.cond rfl (fun h1=>?_) (fun h1=>?_)
 ·have p1:=of_decide_eq_true h1;replace hk:=dj hk h1;refine gw ?_;subst hk;exact dS
 ·have p1:=of_decide_eq_false h1;replace hk:=di hk h1;refine il ?_;refine dJ ?_;have hq:=dP hk;clear hk;obtain ⟨k2,hk2,hk⟩:=hq; (try dsimp only at hk);refine c9 (ι:=Unit) (fun z=>[]) (fun z=>[.fr F1]) (fun z=>k2 ()=r) ?_ ?_
  ·have hq:=eX hk;clear hk;obtain ⟨f3,kk3,hf3,hkk3,hk⟩:=hq;refine ed ?_;refine T.loop (ι:=Nat) (fun z=>[(0,va),(1,vb),(5, .int .i64 (z:Int))]) (fun z=>[.fr F1]) (fun z=>dq f3 kk3 (a.length - z) z ()=r) (fun z=>a.length - z) 0 ?_ ?_ ?_ ?_
   ·exact hk
   ·exact ju
   ·exact eb
   ·rintro i_4 hk;refine hD ?_;refine cU (dn rfl rfl ha.1 ha.2.1) ?_;refine dJ ?_;refine T.cond rfl (fun h5=>?_) (fun h5=>?_)
    ·have p5:=of_decide_eq_true h5;rw [eW a7] at hk;generalize hn3:dq f3 kk3 (a.length - (i_4+1)) (i_4+1)=next3 at hk;rw [←hf3] at hk; (try dsimp only at hk);refine lq ?_;refine c9 (ι:=Unit) (fun z=>[(0,va),(1,vb),(5, .int .i64 (i_4:Int)),(67, .bool ((((decide (¬(cS a i_4).ID=(cS b i_4).ID))||(decide (¬(cS a i_4).Eligibility=(cS b i_4).Eligibility)))||(decide (¬(cS a i_4).Waivers=(cS b i_4).Waivers)))||(!(jy ((cS a i_4).Blocks) ((cS b i_4).Blocks)))))]) (fun z=>[.fr F1]) (fun z=>True) ?_ ?_
     ·refine dL (sN 0 48 (.eff 48 (.still 49 (.still 50 .done)))) _ b5 (List.Sublist.refl _) ?_;refine q1V ?_;refine cX rfl (eZ 0 (i:=i_4) (j:=0) rfl rfl rfl ha.1 ha.2.1 a7 rfl (fT (ha.2.2 i_4 a7))) ?_;refine q10 ?_;refine cX rfl (eZ 0 (i:=i_4) (j:=0) rfl rfl rfl hb.1 hb.2.1 a7 rfl (fT (hb.2.2 i_4 a7))) ?_;refine eD ?_;refine ep rfl rfl rfl rfl (fun h6=>?_) (fun h6=>?_)
      ·have p6:=of_decide_eq_true h6;refine TS.run 36 rfl ?_;refine j8 ?_;refine jq ?_;exact cY () trivial (.c (.c (.c (.b (dQ (dQ (dQ h6))).symm .nil)))) (List.Sublist.refl _)
      ·have p6:=of_decide_eq_false h6;refine q1V ?_;refine cX rfl (eZ 0 (i:=i_4) (j:=1) rfl rfl rfl ha.1 ha.2.1 a7 rfl (iq (ha.2.2 i_4 a7))) ?_;refine q10 ?_;refine cX rfl (eZ 0 (i:=i_4) (j:=1) rfl rfl rfl hb.1 hb.2.1 a7 rfl (iq (hb.2.2 i_4 a7))) ?_;refine fj ?_;refine ep rfl rfl rfl rfl (fun h7=>?_) (fun h7=>?_)
       ·have p7:=of_decide_eq_true h7;refine TS.run 23 rfl ?_;refine j8 ?_;refine jq ?_;exact cY () trivial (.c (.c (.c (.b (dQ (dQ (dZ h6 h7))).symm .nil)))) (List.Sublist.refl _)
       ·have p7:=of_decide_eq_false h7;refine q1V ?_;refine cX rfl (eZ 0 (i:=i_4) (j:=2) rfl rfl rfl ha.1 ha.2.1 a7 rfl (iw (ha.2.2 i_4 a7))) ?_;refine q10 ?_;refine cX rfl (eZ 0 (i:=i_4) (j:=2) rfl rfl rfl hb.1 hb.2.1 a7 rfl (iw (hb.2.2 i_4 a7))) ?_;refine fj ?_;refine ep rfl rfl rfl rfl (fun h8=>?_) (fun h8=>?_)
        ·have p8:=of_decide_eq_true h8;refine TS.run 10 rfl ?_;refine j8 ?_;refine jq ?_;exact cY () trivial (.c (.c (.c (.b (dQ (dZ (dZ h6 h7) h8)).symm .nil)))) (List.Sublist.refl _)
        ·have p8:=of_decide_eq_false h8;refine q1V ?_;refine cX rfl (eZ 0 (i:=i_4) (j:=3) rfl rfl rfl ha.1 ha.2.1 a7 rfl (dM (ha.2.2 i_4 a7)).1) ?_;have hd59_3:=(dM (ha.2.2 i_4 a7)).2;haveI:=hd59_3.oneC;refine q10 ?_;refine cX rfl (eZ 0 (i:=i_4) (j:=3) rfl rfl rfl hb.1 hb.2.1 a7 rfl (dM (hb.2.2 i_4 a7)).1) ?_;have hd64_3:=(dM (hb.2.2 i_4 a7)).2;haveI:=hd64_3.oneC;refine dH ?_;refine c5 rfl (Wt.some) rfl rfl (da rfl rfl rfl (fun w hw=>zcg _ w (hw.fr (i:=0) rfl) ((cS a i_4).Blocks) (cS (cS ca i_4) 3) hd59_3 ((cS b i_4).Blocks) (cS (cS cb i_4) 3) hd64_3)) ?_;refine q4d ?_;refine jq ?_;exact cY () trivial (.c (.c (.c (.b (fg (dZ (dZ h6 h7) h8)) .nil)))) (List.Sublist.refl _)
     ·rintro _ _;refine T.cond rfl (fun h9=>?_) (fun h9=>?_)
      ·replace hk:=dj hk h9;refine kp ?_;subst hk;exact dS
      ·have p9:=h9; (try simp only [gH] at p9);replace hk:=di hk h9;refine q4i ?_;rw [←hn3] at hk;exact q43
    ·have p5:=of_decide_eq_false h5;rw [eY a7,←hkk3] at hk; (try dsimp only at hk);refine ek ?_;exact jh
  ·rintro _ hk;rw [←hk2] at hk; (try dsimp only at hk);refine iU ?_;subst hk;exact dS
def zb4 (a:GBidder)(b:GBidder):Bool:=
 (zbB [a] [b])
theorem zf6 (F0:Frz)(w:World)(hF0:F0.At w)(a:GBidder)(va_3:Value)(ha_3:SlC F0 va_3 1 (a.Blocks.map eI))(b:GBidder)(vb_3:Value)(hb_3:SlC F0 vb_3 1 (b.Blocks.map eI)):Calls Tryz.prog 75 #[.agg [.int .i64 a.ID, .int .i64 a.Eligibility, .int .i64 a.Waivers,va_3].toArray, .agg [.int .i64 b.ID, .int .i64 b.Eligibility, .int .i64 b.Waivers,vb_3].toArray] w fun e w'=>e= .returned (.bool (zb4 a b))∧Below w.heap.size w w':=by
 obtain ⟨r,hk⟩:∃r,zb4 a b=r:=⟨_,rfl⟩;rw [hk];unfold zb4 at hk;haveI:=ha_3.oneC;haveI:=hb_3.oneC;obtain ⟨S0,F1,rfl,hS0,hp0⟩:=dY hF0;refine dG Tryz.func75 rfl rfl rfl hp0 ?_;refine fV ?_;rintro _ _ ⟨g2,rfl,rfl⟩;refine q3D ?_;rintro _ _ ⟨g3,rfl,rfl⟩;refine iL ?_;refine jZ ?_;refine ga ?_;rintro _ _ ⟨g6,rfl,rfl⟩;have hl6:OwnD cT F1.toFrz 4 [[.int .i64 a.ID, .int .i64 a.Eligibility, .int .i64 a.Waivers,va_3]] [a]:=(eu (OwnD.nil _ _ 4) ⟨_,rfl,ha_3⟩);refine q3e ?_;rintro F2 ⟨le1_2,hz2⟩;refine eH ?_;have hfF2:SlD cT F2.toFrz (.slice (some ⟨g6,0,none⟩) 1 1) 4 [[.int .i64 a.ID, .int .i64 a.Eligibility, .int .i64 a.Waivers,va_3]] [a]:=(SlK.lit hz2 rfl (Nat.le_refl _) a8).toD (OwnD.mono (rep:=cT) (fun _ _ _ _=>GBidder.mono) hl6 le1_2) rfl;refine iQ ?_;refine ga ?_;rintro _ _ ⟨g8,rfl,rfl⟩;have hl8:OwnD cT F2.toFrz 4 [[.int .i64 b.ID, .int .i64 b.Eligibility, .int .i64 b.Waivers,vb_3]] [b]:=(eu (OwnD.nil _ _ 4) ⟨_,rfl,(SlC.mono hb_3 le1_2)⟩);refine q3e ?_;rintro F3 ⟨le2_3,hz3⟩;refine eH ?_;have hfF3:SlD cT F3.toFrz (.slice (some ⟨g8,0,none⟩) 1 1) 4 [[.int .i64 b.ID, .int .i64 b.Eligibility, .int .i64 b.Waivers,vb_3]] [b]:=(SlK.lit hz3 rfl (Nat.le_refl _) a8).toD (OwnD.mono (rep:=cT) (fun _ _ _ _=>GBidder.mono) hl8 le2_3) rfl;refine cZ (da rfl rfl rfl (fun w hw=>zep _ w (hw.fr (i:=2) rfl) [a] (.slice (some ⟨g6,0,none⟩) 1 1) [[.int .i64 a.ID, .int .i64 a.Eligibility, .int .i64 a.Waivers,va_3]] (SlD.mono (rep:=cT) (fun _ _ _ _=>GBidder.mono) hfF2 le2_3) [b] (.slice (some ⟨g8,0,none⟩) 1 1) [[.int .i64 b.ID, .int .i64 b.Eligibility, .int .i64 b.Waivers,vb_3]] hfF3)) ?_;refine dU ?_;refine gq ?_;subst hk;exact dS
def zcC (fuel:Nat)(a:Gbandplanref36_Auction):Option Int:=
 (zcm fuel a).bind fun r6=>
 (zdl fuel a.Posted r6).bind fun r7=>
 some r7
theorem zgd (F0:Frz)(w:World)(hF0:F0.At w)(a:Gbandplanref36_Auction)(va_0:Value)(ha_0:SlC F0 va_0 5 (a.Products.map cV))(va_1:Value)(ca_1:List (List Value))(ha_1:SlD cT F0 va_1 4 ca_1 a.Bidders)(va_4:Value)(ha_4:SlC F0 va_4 1 (a.Key.map (eK .u8)))(va_5:Value)(ha_5:SlC F0 va_5 1 (a.Posted.map eI))(fuel:Nat)(r:Int)(hr:zcC fuel a=some r):Calls Tryz.prog 78 #[.agg [va_0,va_1, .int .i64 a.Increment.Activity, .int .i64 a.Increment.Step,va_4,va_5, .int .i64 a.Rounds].toArray] w fun e w'=>e= .returned (.int .i64 r)∧Below w.heap.size w w':=by
 have hk:=hr;unfold zcC at hk;haveI:=ha_0.oneC;haveI:=ha_1.1.oneC;haveI:=ha_4.oneC;haveI:=ha_5.oneC;obtain ⟨S0,F1,rfl,hS0,hp0⟩:=dY hF0;refine dG Tryz.func78 rfl rfl rfl hp0 ?_;refine fV ?_;rintro _ _ ⟨g1,rfl,rfl⟩;refine fI ?_;have hq:=dm hk;clear hk;obtain ⟨r6,hr6,hk⟩:=hq;have hq:=dm hk;clear hk;obtain ⟨r7,hr7,hk⟩:=hq; (try dsimp only at hk);refine dL (sN 0 3 (.eff 3 (.eff 4 (.still 5 .done)))) _ b5 (List.Sublist.refl _) ?_;refine gh ?_;refine kc ?_;refine c5 rfl (cW) rfl rfl (dg 1 rfl rfl rfl rfl (fun w hw hF=>zeC _ w hF a va_0 ha_0 va_1 ca_1 ha_1 va_4 ha_4 va_5 ha_5 fuel r6 hr6)) ?_;rintro _ _ ⟨v6_0_0,F2,le1_2,hf6_0_0,hq,rfl⟩;obtain rfl:=hq.symm;haveI:=hf6_0_0.oneC;refine q24 ?_;refine dH ?_;refine c5 rfl (cW) rfl rfl (da rfl rfl rfl (fun w hw=>zfy _ w (hw.fr (i:=1) rfl) a.Posted va_5 (SlC.mono ha_5 le1_2) r6 v6_0_0 hf6_0_0 fuel r7 hr7)) ?_;refine dU ?_;refine q24 ?_;refine q3S ?_;obtain rfl:=Option.some.inj hk;exact dS
def zd7 (fuel:Nat)(a:Gbandplanref36_Auction):Option Int:=
 (zcy a.Products).bind fun r5=>
 (zcm fuel a).bind fun r7=>
 (zdl fuel r5 r7).bind fun r8=>
 some r8
theorem zhE (F0:Frz)(w:World)(hF0:F0.At w)(a:Gbandplanref36_Auction)(va_0:Value)(ha_0:SlC F0 va_0 5 (a.Products.map cV))(va_1:Value)(ca_1:List (List Value))(ha_1:SlD cT F0 va_1 4 ca_1 a.Bidders)(va_4:Value)(ha_4:SlC F0 va_4 1 (a.Key.map (eK .u8)))(va_5:Value)(ha_5:SlC F0 va_5 1 (a.Posted.map eI))(fuel:Nat)(r:Int)(hr:zd7 fuel a=some r):Calls Tryz.prog 79 #[.agg [va_0,va_1, .int .i64 a.Increment.Activity, .int .i64 a.Increment.Step,va_4,va_5, .int .i64 a.Rounds].toArray] w fun e w'=>e= .returned (.int .i64 r)∧Below w.heap.size w w':=by
 have hk:=hr;unfold zd7 at hk;haveI:=ha_0.oneC;haveI:=ha_1.1.oneC;haveI:=ha_4.oneC;haveI:=ha_5.oneC;obtain ⟨S0,F1,rfl,hS0,hp0⟩:=dY hF0;refine dG Tryz.func79 rfl rfl rfl hp0 ?_;refine fV ?_;rintro _ _ ⟨g1,rfl,rfl⟩;refine fI ?_;have hq:=dm hk;clear hk;obtain ⟨r5,hr5,hk⟩:=hq;have hq:=dm hk;clear hk;obtain ⟨r7,hr7,hk⟩:=hq;have hq:=dm hk;clear hk;obtain ⟨r8,hr8,hk⟩:=hq; (try dsimp only at hk);refine dL (sN 0 2 (.still 3 (.eff 2 (.eff 4 (.eff 5 (.still 6 .done)))))) _ b5 (List.Sublist.refl _) ?_;refine gh ?_;refine kc ?_;refine c5 rfl (cW) rfl rfl (dg 1 rfl rfl rfl rfl (fun w hw hF=>ze5 _ w hF a.Products va_0 ha_0 r5 hr5)) ?_;rintro _ _ ⟨v5_0_0,F2,le1_2,hf5_0_0,hq,rfl⟩;obtain rfl:=hq.symm;haveI:=hf5_0_0.oneC;refine q24 ?_;refine dH ?_;refine c5 rfl (cW) rfl rfl (dg 1 rfl rfl rfl rfl (fun w hw hF=>zeC _ w hF a va_0 (SlC.mono ha_0 le1_2) va_1 ca_1 (SlD.mono (rep:=cT) (fun _ _ _ _=>GBidder.mono) ha_1 le1_2) va_4 (SlC.mono ha_4 le1_2) va_5 (SlC.mono ha_5 le1_2) fuel r7 hr7)) ?_;rintro _ _ ⟨v7_0_0,F3,le2_3,hf7_0_0,hq,rfl⟩;obtain rfl:=hq.symm;have le1_3:=le1_2.trans le2_3;haveI:=hf7_0_0.oneC;refine q2a ?_;refine dH ?_;refine c5 rfl (cW) rfl rfl (da rfl rfl rfl (fun w hw=>zfy _ w (hw.fr (i:=1) rfl) r5 v5_0_0 (SlC.mono hf5_0_0 le2_3) r7 v7_0_0 hf7_0_0 fuel r8 hr8)) ?_;refine dU ?_;refine q2a ?_;refine q3S ?_;obtain rfl:=Option.some.inj hk;exact dS
end Go.Proofs.YtmnjbhkcfghebaaGreatDoor
