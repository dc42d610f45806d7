/- Yz Wd Dp Yj Df Dy: shortened and put together by squeeze.py. -/
import Derived.Test.YtogbggmckmnlfaaGreatDoorQ10
import Derived.RecoverIn
set_option maxRecDepth 100000
set_option maxHeartbeats 4000000
set_option linter.unusedVariables false
set_option linter.unusedSectionVars false
set_option linter.unusedSimpArgs false
namespace Go.Proofs.YtogbggmckmnlfaaGreatDoor
open Go.RowKit
def km (a:Int)(b:Int):GPair:=
 (GPair.mk a b 0 14 51)
theorem zdU (F0:Frz)(w:World)(hF0:F0.At w)(a:Int)(b:Int):Calls Tryz.prog 71 #[.int .i64 a, .int .i64 b] w fun e w'=>e= .returned (.agg [.int .i64 ((km a b).A), .int .i64 ((km a b).B), .int .i64 ((km a b).Offset), .int .i64 ((km a b).Low), .int .i64 ((km a b).High)].toArray)∧Below w.heap.size w w':=by
 obtain ⟨r,hk⟩:∃r,km a b=r:=⟨_,rfl⟩;rw [hk];unfold km at hk;obtain ⟨S0,F1,rfl,hS0,hp0⟩:=fK hF0;refine dq Tryz.func71 rfl rfl rfl hp0 ?_;refine de ?_;refine fQ ?_;rintro _ _ ⟨g4,rfl,rfl⟩;refine dG ?_;refine d5 ?_;refine iX ?_;refine kr ?_;refine fJ ?_;subst hk;exact j1 0 rfl rfl rfl rfl (fun w' hw=>⟨rfl,hw.isBelow⟩)
def kM  : GProblem :=
 (GProblem.mk [(GDomain.mk 1 [14,15]),(GDomain.mk 2 [14,15]),(GDomain.mk 3 [14,15]),(GDomain.mk 4 [14])] (GRules.mk [(km 1 2),(km 1 3),(km 2 3)] [] []))
theorem zcx (F0 : Frz)(w : World)(hF0 : F0.At w)  : Calls Tryz.prog 33 #[] w fun e w' => ∃ (y : Value × List (List Value) × Value × Value × Value) (G : Frz), (SlD cJ G y.1 2 y.2.1 ((kM).Domains) ∧ SlC G y.2.2.1 5 (((kM).Rules.Pairs).map c8) ∧ SlC G y.2.2.2.1 5 (((kM).Rules.Loads).map da) ∧ SlC G y.2.2.2.2 4 (((kM).Rules.Caps).map dh)) ∧ e = .returned (.agg [y.1, y.2.2.1, y.2.2.2.1, y.2.2.2.2].toArray) ∧ Fx F0 w G w' := by
 obtain ⟨r,hk⟩:∃r,kM=r:=⟨_,rfl⟩;rw [hk];unfold kM at hk;obtain ⟨S0,F1,rfl,hS0,hp0⟩:=fK hF0;refine dq Tryz.func33 rfl rfl rfl hp0 ?_;refine de ?_;refine fQ ?_;rintro _ _ ⟨g0,rfl,rfl⟩;refine dG ?_;refine jg ?_;rintro _ _ ⟨g2,rfl,rfl⟩;refine kx ?_;refine iU (fun w hw=>hw.freezeR (i:=2) (j:=0) a6 rfl rfl) ?_;rintro F2 ⟨le1_2,hz2⟩;refine gU ?_;have hf2:SlC F2.toFrz (.slice (some ⟨g2,0,none⟩) 2 2) 1 ([14,15].map eI):=(SlK.lit hz2 rfl (Nat.le_refl _) a6).toF (xs:=[14,15]) rfl (fun _=>rfl);refine fo ?_;refine iX ?_;refine dd ?_;refine iX ?_;refine dd ?_;refine iX ?_;refine jg ?_;rintro _ _ ⟨g9,rfl,rfl⟩;refine i4 (fun w hw=>hw.freezeR (i:=2) (j:=0) a6 rfl rfl) ?_;rintro F3 ⟨le2_3,hz3⟩;refine gU ?_;have le1_3:=le1_2.trans le2_3;have hf3:SlC F3.toFrz (.slice (some ⟨g9,0,none⟩) 1 1) 1 ([14].map eI):=(SlK.lit hz3 rfl (Nat.le_refl _) a6).toF (xs:=[14]) rfl (fun _=>rfl);refine iX ?_;refine jg ?_;rintro _ _ ⟨g11,rfl,rfl⟩;have hl11:OwnD cJ F3.toFrz 2 [[.int .i64 1,(.slice (some ⟨g2,0,none⟩) 2 2)],[.int .i64 2,(.slice (some ⟨g2,0,none⟩) 2 2)],[.int .i64 3,(.slice (some ⟨g2,0,none⟩) 2 2)],[.int .i64 4,(.slice (some ⟨g9,0,none⟩) 1 1)]] [(GDomain.mk 1 [14,15]),(GDomain.mk 2 [14,15]),(GDomain.mk 3 [14,15]),(GDomain.mk 4 [14])]:=(cP (cP (cP (cP (OwnD.nil _ _ 2) ⟨_,rfl,(SlC.mono hf2 le2_3)⟩) ⟨_,rfl,(SlC.mono hf2 le2_3)⟩) ⟨_,rfl,(SlC.mono hf2 le2_3)⟩) ⟨_,rfl,hf3⟩);refine cN (cL rfl rfl rfl (fun w hw=>zdU _ w (hw.fr (i:=2) rfl) 1 2)) ?_;refine ex ?_;refine cN (cL rfl rfl rfl (fun w hw=>zdU _ w (hw.fr (i:=2) rfl) 1 3)) ?_;refine ex ?_;refine cN (cL rfl rfl rfl (fun w hw=>zdU _ w (hw.fr (i:=2) rfl) 2 3)) ?_;refine ex ?_;refine jg ?_;rintro _ _ ⟨g15,rfl,rfl⟩;refine iX ?_;refine iX ?_;refine d7 (dr 2) ?_;refine ex ?_;refine fJ ?_;refine jP (fun w hw=>hw.freezeR (i:=3) (j:=1) a6 rfl rfl) ?_;rintro F4 ⟨le3_4,hz4⟩;refine gU ?_;have le1_4:=le1_3.trans le3_4;have hf4:SlD cJ F4.toFrz (.slice (some ⟨g11,0,none⟩) 4 4) 2 [[.int .i64 1,(.slice (some ⟨g2,0,none⟩) 2 2)],[.int .i64 2,(.slice (some ⟨g2,0,none⟩) 2 2)],[.int .i64 3,(.slice (some ⟨g2,0,none⟩) 2 2)],[.int .i64 4,(.slice (some ⟨g9,0,none⟩) 1 1)]] [(GDomain.mk 1 [14,15]),(GDomain.mk 2 [14,15]),(GDomain.mk 3 [14,15]),(GDomain.mk 4 [14])]:=(SlK.lit hz4 rfl (Nat.le_refl _) a6).toD (OwnD.mono (rep:=cJ) (fun _ _ _ _=>GDomain.mono) hl11 le3_4) rfl;refine jP (fun w hw=>hw.freezeR (i:=2) (j:=0) a6 rfl rfl) ?_;rintro F5 ⟨le4_5,hz5⟩;refine gU ?_;have le1_5:=le1_4.trans le4_5;have hf5:SlC F5.toFrz (.slice (some ⟨g15,0,none⟩) 3 3) 5 ([(km 1 2),(km 1 3),(km 2 3)].map c8):=(SlK.lit hz5 rfl (Nat.le_refl _) a6).toF (xs:=[(km 1 2),(km 1 3),(km 2 3)]) rfl GPair.len;subst hk;exact j1 0 rfl rfl rfl rfl (fun w' hw=>⟨((.slice (some ⟨g11,0,none⟩) 4 4),[[.int .i64 1,(.slice (some ⟨g2,0,none⟩) 2 2)],[.int .i64 2,(.slice (some ⟨g2,0,none⟩) 2 2)],[.int .i64 3,(.slice (some ⟨g2,0,none⟩) 2 2)],[.int .i64 4,(.slice (some ⟨g9,0,none⟩) 1 1)]],(.slice (some ⟨g15,0,none⟩) 3 3),(.slice none 0 0),(.slice none 0 0)),F5.toFrz,⟨(SlD.mono (rep:=cJ) (fun _ _ _ _=>GDomain.mono) hf4 le4_5),hf5,(SlC.nil _ 5),(SlC.nil _ 4)⟩,rfl,fC hw (i:=1) rfl hS0 le1_5⟩)
def zbi (stations:List Int)(lemmas:Int):Option GProof:=
 dS (fun (s3:List Int×List (List GChoice))=>
  d4 (db (s3.2++[[]]).length 24) <|
  some (GProof.mk s3.1 (s3.2++[[]])))
 (fun k3=>
  d4 (lemmas≤9223372036854775807) <|
  di (fun (i_7:Nat) (next6:(List Int×List (List GChoice))→Option GProof) (s6:List Int×List (List GChoice))=>
   d4 (db (s6.2++[[(GChoice.mk (i_7:Int) 14)]]).length 24) <|
   next6 (s6.1,(s6.2++[[(GChoice.mk (i_7:Int) 14)]])))
  (fun (s6:List Int×List (List GChoice))=>
   k3 (s6.1,s6.2)) (lemmas.toNat - 1) 1 (stations,[]))
theorem zbE (F0:Frz)(w:World)(hF0:F0.At w)(stations:List Int)(vstations:Value)(hstations:SlC F0 vstations 1 (stations.map eI))(lemmas:Int)(r:GProof)(hr:zbi stations lemmas=some r):Calls Tryz.prog 34 #[vstations, .int .i64 lemmas] w fun e w'=>∃(y:Value×Value×List (List Value)) (G:Frz),(SlC G y.1 1 (r.Stations.map eI)∧SlD cG G y.2.1 1 y.2.2 r.Lemmas)∧e= .returned (.agg [y.1,y.2.1].toArray)∧Fx F0 w G w':=by
 have hk:=hr;unfold zbi at hk;haveI:=hstations.oneC;obtain ⟨S0,F1,rfl,hS0,hp0⟩:=fK hF0;refine dq Tryz.func34 rfl rfl rfl hp0 ?_;refine de ?_;refine fQ ?_;rintro _ _ ⟨g4,rfl,rfl⟩;refine lm ?_;refine iX ?_;refine fQ ?_;rintro _ _ ⟨g5,rfl,rfl⟩;refine TL.slNil 50 1 ?_;refine q2d ?_;refine TL.slNil 50 1 ?_;refine gX ?_;refine dP ?_;have hq:=eP hk;clear hk;obtain ⟨k3,hk3,hk⟩:=hq; (try dsimp only at hk);refine dj (ι:=List Int×Value×List (List GChoice)×Value×List (List Value)×FzB w (fun _=>False) S0) (fun z=>[(4, .pointer (some ⟨g4,0,none⟩)),(5, .pointer (some ⟨g5,0,none⟩))]) (fun z=>[.sl z.2.2.2.1 50 1 z.2.2.1.length z.2.2.2.2.1.flatten, .row g5 33 [z.2.1,z.2.2.2.1], .row g4 33 [(.slice none 0 0),(.slice none 0 0)], .fr z.2.2.2.2.2]) (fun z=>k3 (z.1,z.2.2.1)=some r∧SlC z.2.2.2.2.2.toFrz z.2.1 1 (z.1.map eI)∧OwnD cG z.2.2.2.2.2.toFrz 1 z.2.2.2.2.1 z.2.2.1∧OneC z.2.2.2.1∧F1.toFrz.Le z.2.2.2.2.2.toFrz) ?_ ?_
 ·have hq:(lemmas≤9223372036854775807)∧_:=eQ hk;clear hk;obtain ⟨gl6,hk⟩:=hq; (try dsimp only at hk);have hq:=fS hk;clear hk;obtain ⟨f6,kk6,hf6,hkk6,hk⟩:=hq;refine gg ?_;refine T.pick [0,2,3,4] rfl a6 ?_;refine T.loop (ι:=Nat×List Int×Value×List (List GChoice)×Value×List (List Value)×FzB w (fun _=>False) S0) (fun z=>[(1, .int .i64 lemmas),(4, .pointer (some ⟨g4,0,none⟩)),(5, .pointer (some ⟨g5,0,none⟩)),(6, .int .i64 (z.1:Int))]) (fun z=>[.sl z.2.2.2.2.1 50 1 z.2.2.2.1.length z.2.2.2.2.2.1.flatten, .row g5 33 [z.2.2.1,z.2.2.2.2.1], .row g4 33 [(.slice none 0 0),(.slice none 0 0)], .fr z.2.2.2.2.2.2]) (fun z=>di f6 kk6 (lemmas.toNat - z.1) z.1 (z.2.1,z.2.2.2.1)=some r∧SlC z.2.2.2.2.2.2.toFrz z.2.2.1 1 (z.2.1.map eI)∧OwnD cG z.2.2.2.2.2.2.toFrz 1 z.2.2.2.2.2.1 z.2.2.2.1∧OneC z.2.2.2.2.1∧F1.toFrz.Le z.2.2.2.2.2.2.toFrz) (fun z=>lemmas.toNat - z.1) (1,stations,vstations,[],(.slice none 0 0),[],F1) ?_ ?_ ?_ ?_
  ·exact ⟨hk,hstations,(OwnD.nil _ _ 1),inferInstance,(Frz.Le.refl _)⟩
  ·exact q37
  ·exact fv
  ·rintro ⟨i_7,c_4,vc_4,c_5,vc_5,cc_5,F3⟩ ⟨hk,hc_4,hc_5,oc_5,le1_3⟩; (try dsimp only at *);haveI:=hc_4.oneC;refine iJ ?_;refine eM ?_;refine TL.ns ?_;refine T.cond rfl (fun h8=>?_) (fun h8=>?_)
   ·have p8:=of_decide_eq_true h8;rw [fT a5] at hk;generalize hn6:di f6 kk6 (lemmas.toNat - (i_7+1)) (i_7+1)=next6 at hk;rw [←hf6] at hk; (try dsimp only at hk);refine T.skip (K.seq (T.seq (T.block ?_)));have hq:(db (c_5++[[(GChoice.mk (i_7:Int) 14)]]).length 24)∧_:=eQ hk;clear hk;obtain ⟨g20,hk⟩:=hq; (try dsimp only at hk);refine ed ?_;refine kX ?_;refine dd ?_;refine iX ?_;refine jg ?_;rintro _ _ ⟨g18,rfl,rfl⟩;refine i4 (fun w hw=>hw.freezeR (i:=4) (j:=0) a6 rfl rfl) ?_;rintro F4 ⟨le3_4,hz4⟩;refine gU ?_;have le1_4:=le1_3.trans le3_4;have hf4:SlC F4.toFrz (.slice (some ⟨g18,0,none⟩) 1 1) 2 ([(GChoice.mk (i_7:Int) 14)].map cM):=(SlK.lit hz4 rfl (Nat.le_refl _) a6).toF (xs:=[(GChoice.mk (i_7:Int) 14)]) rfl GChoice.len;refine jg ?_;rintro _ _ ⟨g19,rfl,rfl⟩;have hl19:OwnD cG F4.toFrz 1 [[(.slice (some ⟨g18,0,none⟩) 1 1)]] [[(GChoice.mk (i_7:Int) 14)]]:=(cP (OwnD.nil _ _ 1) ⟨_,rfl,hf4⟩);refine cN (d8 1 0 rfl rfl rfl rfl rfl rfl (iC (ys:=[[(GChoice.mk (i_7:Int) 14)]])) (j4 (cs:=cc_5) (ds:=[[(.slice (some ⟨g18,0,none⟩) 1 1)]])) g20 a6) ?_;rintro v20 _ ⟨hv20,rfl⟩;have ho20:OwnD cG F4.toFrz 1 (cc_5++[[(.slice (some ⟨g18,0,none⟩) 1 1)]]) (c_5++[[(GChoice.mk (i_7:Int) 14)]]):=(cP (OwnD.mono (rep:=cG) (fun _ _ _ _=>R_List_GChoice.mono) hc_5 le3_4) ⟨_,rfl,hf4⟩);refine eZ ?_;refine d7 (dC 2 rfl rfl rfl rfl a7) ?_;refine ex ?_;refine q3K ?_;refine jS ?_;rw [←hn6] at hk;refine K.pick [1,2,3,4] rfl a6 ?_;exact K.next ((i_7+1),c_4,vc_4,(c_5++[[(GChoice.mk (i_7:Int) 14)]]),v20,(cc_5++[[(.slice (some ⟨g18,0,none⟩) 1 1)]]),F4) ⟨hk,(SlC.mono hc_4 le3_4),ho20,inferInstance,le1_4⟩ a9 (.c (.c (.c (.c .nil)))) (List.Sublist.refl _)
   ·have p8:=of_decide_eq_false h8;rw [fR a5,←hkk6] at hk; (try dsimp only at hk);refine ff ?_;exact c4 (c_4,vc_4,c_5,vc_5,cc_5,F3) ⟨hk,hc_4,hc_5,inferInstance,le1_3⟩ (.c (.c .nil)) (List.Sublist.refl _)
 ·rintro ⟨c_1,vc_1,c_2,vc_2,cc_2,F2⟩ ⟨hk,hc_1,hc_2,oc_2,le1_2⟩; (try dsimp only at *);rw [←hk3] at hk; (try dsimp only at hk);haveI:=hc_1.oneC;refine T.seq ?_;have hq:(db (c_2++[[]]).length 24)∧_:=eQ hk;clear hk;obtain ⟨g25,hk⟩:=hq; (try dsimp only at hk);refine ed ?_;refine kX ?_;refine jg ?_;rintro _ _ ⟨g24,rfl,rfl⟩;have hl24:OwnD cG F2.toFrz 1 [[(.slice none 0 0)]] [[]]:=(cP (OwnD.nil _ _ 1) ⟨_,rfl,(SlC.nil _ 2)⟩);refine cN (d8 1 0 rfl rfl rfl rfl rfl rfl (iC (ys:=[[]])) (j4 (cs:=cc_2) (ds:=[[(.slice none 0 0)]])) g25 a6) ?_;rintro v25 _ ⟨hv25,rfl⟩;have ho25:OwnD cG F2.toFrz 1 (cc_2++[[(.slice none 0 0)]]) (c_2++[[]]):=(cP hc_2 ⟨_,rfl,(SlC.nil _ 2)⟩);refine eZ ?_;refine d7 (dC 2 rfl rfl rfl rfl a7) ?_;refine ex ?_;refine dG ?_;refine cI (dJ 2) ?_;refine d7 (dr 3) ?_;refine ex ?_;refine fJ ?_;refine jP (fun w hw=>hw.freezeS (i:=4) (j:=1) a6 rfl rfl) ?_;rintro F5 ⟨le2_5,hz5⟩;refine gU ?_;have le1_5:=le1_2.trans le2_5;have hf5:=hz5.toD (OwnD.mono (rep:=cG) (fun _ _ _ _=>R_List_GChoice.mono) ho25 le2_5) rfl;haveI:=hf5.1.oneC;obtain rfl:=Option.some.inj hk;exact j1 2 rfl rfl rfl rfl (fun w' hw=>⟨(vc_1,v25,(cc_2++[[(.slice none 0 0)]])),F5.toFrz,⟨(SlC.mono hc_1 le2_5),hf5⟩,rfl,fC hw (i:=3) rfl hS0 le1_5⟩)
def zb0 (fuel:Nat)(x_:GProof)(want:Int)(e_:Int):Option Bool:=
 (zcL fuel (kM) x_).bind fun r12=>
 some ((decide (r12.1=want))&&(decide (r12.2=e_)))
theorem zcO (F0:Frz)(w:World)(hF0:F0.At w)(x_:GProof)(vx__0:Value)(hx__0:SlC F0 vx__0 1 (x_.Stations.map eI))(vx__1:Value)(cx__1:List (List Value))(hx__1:SlD cG F0 vx__1 1 cx__1 x_.Lemmas)(want:Int)(e_:Int)(htab:Tab w)(fuel:Nat)(hfu:100000≤fuel)(r:Bool)(hr:zb0 fuel x_ want e_=some r):Calls Tryz.prog 35 #[.agg [vx__0,vx__1].toArray, .int .i64 want, .int .i64 e_] w fun e w'=>e= .returned (.bool r)∧Below w.heap.size w w':=by
 have hk:=hr;unfold zb0 at hk;haveI:=hx__0.oneC;haveI:=hx__1.1.oneC;obtain ⟨S0,F1,rfl,hS0,hp0⟩:=fK hF0;have hM0:¬(fun _:Nat=>False) 0:=fun h=>h;have htk:∀ {hs:HS} {w':World},Hp w (fun _=>False) hs w'→Tab w':=fun hw=>htab.keptF hw;refine dq Tryz.func35 rfl rfl rfl hp0 ?_;refine kA ?_;rintro _ _ ⟨g3,rfl,rfl⟩;refine kx ?_;have hq:=dM hk;clear hk;obtain ⟨r12,hr12,hk⟩:=hq; (try dsimp only at hk);refine dT (.still 1 (.eff 0 (.eff 2 (sN 3 4 (.still 7 .done))))) _ a8 (List.Sublist.refl _) ?_;refine q2r ?_;refine dF ?_;refine dn rfl (Wt.none) rfl rfl (eh 1 rfl rfl rfl rfl (fun w hw hF=>zcx _ w hF )) ?_;rintro _ _ ⟨⟨v10_0_0,cs10_0_0,v10_0_1,v10_0_2,v10_0_3⟩,F2,le1_2,⟨hf10_0_0,hf10_0_1,hf10_0_2,hf10_0_3⟩,rfl,rfl⟩;dsimp only at hf10_0_0 hf10_0_1 hf10_0_2 hf10_0_3 ⊢;haveI:=hf10_0_0.1.oneC;haveI:=hf10_0_1.oneC;haveI:=hf10_0_2.oneC;haveI:=hf10_0_3.oneC;refine ⟨(fun w hw=>(hw.frLe (i:=1) rfl le1_2).sub Sx),?_⟩;refine dF ?_;refine dn rfl (Wt.none) rfl rfl (cL rfl rfl rfl (fun w hw=>zeI _ w (hw.fr (i:=1) rfl) (kM) v10_0_0 cs10_0_0 hf10_0_0 v10_0_1 hf10_0_1 v10_0_2 hf10_0_2 v10_0_3 hf10_0_3 x_ vx__0 (SlC.mono hx__0 le1_2) vx__1 cx__1 (SlD.mono (rep:=cG) (fun _ _ _ _=>R_List_GChoice.mono) hx__1 le1_2) (htab.keptF hw) fuel hfu r12 hr12)) ?_;refine ex ?_;refine ⟨(fun w hw=>(hw.frLe (i:=1) rfl le1_2).sub Sx),?_⟩;refine TS.run 5 rfl ?_;refine TS.done ?_;refine K.seq (T.seq ?_);refine dj (ι:=Unit) (fun z=>[(6, .bool ((decide (r12.1=want))&&(decide (r12.2=e_))))]) (fun z=>[.row g3 33 [vx__0,vx__1], .fr F2]) (fun z=>True) ?_ ?_
 ·refine ed ?_;refine TL.run 4 rfl ?_;refine dQ rfl rfl rfl (fun h1=>?_) (fun h1=>?_)
  ·have p1:=of_decide_eq_true h1;refine q2j ?_;exact q4n
  ·have p1:=of_decide_eq_false h1;refine q2j ?_;exact q4o
 ·rintro _ _;refine T.ret ?_;obtain rfl:=Option.some.inj hk;exact fw
def zcc (fuel : Nat)  : Option Bool :=
 (zbi [1,2,3] 3).bind fun r9=>
 (zcK fuel (kM) r9).bind fun r10=>
 dS (fun (x_1:Bool)=>
  (bif x_1 then
   some false
   else
   (zbi [1,2] 3).bind fun r32=>
   (zb0 fuel r32 0 0).bind fun r33=>
   dS (fun (x_7:Bool)=>
    (bif x_7 then
     some false
     else
     (zbi [1,2,3] 3).bind fun r44=>
     (zdP fuel (kM) r44).bind fun r45=>
     (zdg fuel r45.1).bind fun r50=>
     dS (fun (x_11:Bool)=>
      some x_11)
     (fun k12=>
      (bif decide (r45.2=0) then
       (bif decide (r50.2=0) then
        (zbi [1,2,3] 2).bind fun r62=>
        (bif (zc7 r45.1 r62) then
         k12 ((u8s r50.1) == ([3,1,2,3,2,1,1,14,0]:List UInt8))
         else
         k12 false)
        else
        k12 false)
       else
       k12 false))))
   (fun k8=>
    (bif !r33 then
     k8 true
     else
     (zbi [1,2,3,5] 3).bind fun r37=>
     (zb0 fuel r37 0 9).bind fun r38=>
     k8 (!r38)))))
 (fun k2=>
  (bif decide (¬r10=0) then
   k2 true
   else
   (zbi [1,2,3] 3).bind fun r14=>
   (zb0 fuel r14 3 0).bind fun r15=>
   (bif !r15 then
    k2 true
    else
    (zbi [1,2,3] 1).bind fun r20=>
    (zb0 fuel r20 0 0).bind fun r21=>
    (bif !r21 then
     k2 true
     else
     (zbi [1,2,3] 1).bind fun r27=>
     (zcK fuel (kM) r27).bind fun r28=>
     k2 (decide (¬r28=10))))))
theorem zgZ (F0 : Frz)(w : World)(hF0 : F0.At w)  (htab : Tab w)(fuel : Nat)(hfu : 100000 ≤ fuel)(r : Bool)(hr : zcc fuel = some r) : Calls Tryz.prog 10 #[] w fun e w' => e = .returned (.bool r) ∧ Below w.heap.size w w' := by
 have hk:=hr;unfold zcc at hk;obtain ⟨S0,F1,rfl,hS0,hp0⟩:=fK hF0;have hM0:¬(fun _:Nat=>False) 0:=fun h=>h;have htk:∀ {hs:HS} {w':World},Hp w (fun _=>False) hs w'→Tab w':=fun hw=>htab.keptF hw;refine dq Tryz.func10 rfl rfl rfl hp0 ?_;refine lr ?_;refine jg ?_;rintro _ _ ⟨g6,rfl,rfl⟩;refine dd ?_;refine jB ?_;refine iU (fun w hw=>hw.freezeR (i:=1) (j:=0) a6 rfl rfl) ?_;rintro F2 ⟨le1_2,hz2⟩;refine gU ?_;have hf2:SlC F2.toFrz (.slice (some ⟨g6,0,none⟩) 3 3) 1 ([1,2,3].map eI):=(SlK.lit hz2 rfl (Nat.le_refl _) a6).toF (xs:=[1,2,3]) rfl (fun _=>rfl);have hq:=dM hk;clear hk;obtain ⟨r9,hr9,hk⟩:=hq;have hq:=dM hk;clear hk;obtain ⟨r10,hr10,hk⟩:=hq; (try dsimp only at hk);have hq:=eP hk;clear hk;obtain ⟨k2,hk2,hk⟩:=hq; (try dsimp only at hk);refine dj (ι:=Bool×FzB w (fun _=>False) S0) (fun z=>[(1,(.slice (some ⟨g6,0,none⟩) 3 3)),(30, .bool z.1)]) (fun z=>[.fr z.2]) (fun z=>k2 z.1=some r∧F2.toFrz.Le z.2.toFrz) ?_ ?_
 ·refine ed ?_;refine cN (eh 0 rfl rfl rfl rfl (fun w hw hF=>zcx _ w hF )) ?_;rintro _ _ ⟨⟨v7_0_0,cs7_0_0,v7_0_1,v7_0_2,v7_0_3⟩,F4,le2_4,⟨hf7_0_0,hf7_0_1,hf7_0_2,hf7_0_3⟩,rfl,rfl⟩;dsimp only at hf7_0_0 hf7_0_1 hf7_0_2 hf7_0_3 ⊢;haveI:=hf7_0_0.1.oneC;haveI:=hf7_0_1.oneC;haveI:=hf7_0_2.oneC;haveI:=hf7_0_3.oneC;refine dd ?_;refine cN (eh 0 rfl rfl rfl rfl (fun w hw hF=>zbE _ w hF [1,2,3] (.slice (some ⟨g6,0,none⟩) 3 3) (SlC.mono hf2 le2_4) 3 r9 hr9)) ?_;rintro _ _ ⟨⟨v9_0_0,v9_0_1,cs9_0_1⟩,F5,le4_5,⟨hf9_0_0,hf9_0_1⟩,rfl,rfl⟩;dsimp only at hf9_0_0 hf9_0_1 ⊢;have le2_5:=le2_4.trans le4_5;haveI:=hf9_0_0.oneC;haveI:=hf9_0_1.1.oneC;refine cN (cL rfl rfl rfl (fun w hw=>zeG _ w (hw.fr (i:=0) rfl) (kM) v7_0_0 cs7_0_0 (SlD.mono (rep:=cJ) (fun _ _ _ _=>GDomain.mono) hf7_0_0 le4_5) v7_0_1 (SlC.mono hf7_0_1 le4_5) v7_0_2 (SlC.mono hf7_0_2 le4_5) v7_0_3 (SlC.mono hf7_0_3 le4_5) r9 v9_0_0 hf9_0_0 v9_0_1 cs9_0_1 hf9_0_1 (htab.keptF hw) fuel hfu r10 hr10)) ?_;refine ex ?_;refine d5 ?_;refine dQ rfl rfl rfl (fun h3=>?_) (fun h3=>?_)
  ·have p3:=of_decide_eq_true h3;replace hk:=dy hk h3;refine TL.run 18 rfl ?_;refine TL.nil ?_;exact c4 (true,F5) ⟨hk,le2_5⟩ (.c (.c .nil)) (List.Sublist.refl _)
  ·have p3:=of_decide_eq_false h3;replace hk:=dz hk h3;refine dd ?_;have hq:=dM hk;clear hk;obtain ⟨r14,hr14,hk⟩:=hq;refine cN (eh 0 rfl rfl rfl rfl (fun w hw hF=>zbE _ w hF [1,2,3] (.slice (some ⟨g6,0,none⟩) 3 3) (SlC.mono hf2 le2_5) 3 r14 hr14)) ?_;rintro _ _ ⟨⟨v14_0_0,v14_0_1,cs14_0_1⟩,F6,le5_6,⟨hf14_0_0,hf14_0_1⟩,rfl,rfl⟩;dsimp only at hf14_0_0 hf14_0_1 ⊢;have le2_6:=le2_5.trans le5_6;haveI:=hf14_0_0.oneC;haveI:=hf14_0_1.1.oneC;have hq:=dM hk;clear hk;obtain ⟨r15,hr15,hk⟩:=hq;refine cN (cL rfl rfl rfl (fun w hw=>zcO _ w (hw.fr (i:=0) rfl) r14 v14_0_0 hf14_0_0 v14_0_1 cs14_0_1 hf14_0_1 3 0 (htab.keptF hw) fuel hfu r15 hr15)) ?_;refine ex ?_;refine eM ?_;refine dQ rfl rfl rfl (fun h4=>?_) (fun h4=>?_)
   ·replace hk:=dy hk h4;refine TL.run 12 rfl ?_;refine TL.nil ?_;exact c4 (true,F6) ⟨hk,le2_6⟩ (.c (.c .nil)) (List.Sublist.refl _)
   ·replace hk:=dz hk h4;refine dd ?_;have hq:=dM hk;clear hk;obtain ⟨r20,hr20,hk⟩:=hq;refine cN (eh 0 rfl rfl rfl rfl (fun w hw hF=>zbE _ w hF [1,2,3] (.slice (some ⟨g6,0,none⟩) 3 3) (SlC.mono hf2 le2_6) 1 r20 hr20)) ?_;rintro _ _ ⟨⟨v20_0_0,v20_0_1,cs20_0_1⟩,F7,le6_7,⟨hf20_0_0,hf20_0_1⟩,rfl,rfl⟩;dsimp only at hf20_0_0 hf20_0_1 ⊢;have le2_7:=le2_6.trans le6_7;haveI:=hf20_0_0.oneC;haveI:=hf20_0_1.1.oneC;have hq:=dM hk;clear hk;obtain ⟨r21,hr21,hk⟩:=hq;refine cN (cL rfl rfl rfl (fun w hw=>zcO _ w (hw.fr (i:=0) rfl) r20 v20_0_0 hf20_0_0 v20_0_1 cs20_0_1 hf20_0_1 0 0 (htab.keptF hw) fuel hfu r21 hr21)) ?_;refine ex ?_;refine eM ?_;refine dQ rfl rfl rfl (fun h5=>?_) (fun h5=>?_)
    ·replace hk:=dy hk h5;refine TL.run 6 rfl ?_;refine TL.nil ?_;exact c4 (true,F7) ⟨hk,le2_7⟩ (.c (.c .nil)) (List.Sublist.refl _)
    ·replace hk:=dz hk h5;refine cN (eh 0 rfl rfl rfl rfl (fun w hw hF=>zcx _ w hF )) ?_;rintro _ _ ⟨⟨v25_0_0,cs25_0_0,v25_0_1,v25_0_2,v25_0_3⟩,F8,le7_8,⟨hf25_0_0,hf25_0_1,hf25_0_2,hf25_0_3⟩,rfl,rfl⟩;dsimp only at hf25_0_0 hf25_0_1 hf25_0_2 hf25_0_3 ⊢;have le2_8:=le2_7.trans le7_8;haveI:=hf25_0_0.1.oneC;haveI:=hf25_0_1.oneC;haveI:=hf25_0_2.oneC;haveI:=hf25_0_3.oneC;refine dd ?_;have hq:=dM hk;clear hk;obtain ⟨r27,hr27,hk⟩:=hq;refine cN (eh 0 rfl rfl rfl rfl (fun w hw hF=>zbE _ w hF [1,2,3] (.slice (some ⟨g6,0,none⟩) 3 3) (SlC.mono hf2 le2_8) 1 r27 hr27)) ?_;rintro _ _ ⟨⟨v27_0_0,v27_0_1,cs27_0_1⟩,F9,le8_9,⟨hf27_0_0,hf27_0_1⟩,rfl,rfl⟩;dsimp only at hf27_0_0 hf27_0_1 ⊢;have le2_9:=le2_8.trans le8_9;haveI:=hf27_0_0.oneC;haveI:=hf27_0_1.1.oneC;have hq:=dM hk;clear hk;obtain ⟨r28,hr28,hk⟩:=hq;refine cN (cL rfl rfl rfl (fun w hw=>zeG _ w (hw.fr (i:=0) rfl) (kM) v25_0_0 cs25_0_0 (SlD.mono (rep:=cJ) (fun _ _ _ _=>GDomain.mono) hf25_0_0 le8_9) v25_0_1 (SlC.mono hf25_0_1 le8_9) v25_0_2 (SlC.mono hf25_0_2 le8_9) v25_0_3 (SlC.mono hf25_0_3 le8_9) r27 v27_0_0 hf27_0_0 v27_0_1 cs27_0_1 hf27_0_1 (htab.keptF hw) fuel hfu r28 hr28)) ?_;refine lO ?_;exact c4 (decide (¬r28=10),F9) ⟨hk,le2_9⟩ (.c (.c .nil)) (List.Sublist.refl _)
 ·rintro ⟨x_1,F3⟩ ⟨hk,le2_3⟩; (try dsimp only at *);rw [←hk2] at hk; (try dsimp only at hk);refine T.cond rfl (fun h6=>?_) (fun h6=>?_)
  ·replace hk:=dy hk h6;refine gF ?_;obtain rfl:=Option.some.inj hk;exact fw
  ·replace hk:=dz hk h6;refine q3h ?_;have hq:=dM hk;clear hk;obtain ⟨r32,hr32,hk⟩:=hq;have hq:=dM hk;clear hk;obtain ⟨r33,hr33,hk⟩:=hq; (try dsimp only at hk);have hq:=eP hk;clear hk;obtain ⟨k8,hk8,hk⟩:=hq; (try dsimp only at hk);refine dj (ι:=Bool×FzB w (fun _=>False) S0) (fun z=>[(1,(.slice (some ⟨g6,0,none⟩) 3 3)),(40, .bool z.1)]) (fun z=>[.fr z.2]) (fun z=>k8 z.1=some r∧F3.toFrz.Le z.2.toFrz) ?_ ?_
   ·refine ed ?_;refine jg ?_;rintro _ _ ⟨g31,rfl,rfl⟩;refine i4 (fun w hw=>hw.freezeR (i:=1) (j:=0) a6 rfl rfl) ?_;rintro F11 ⟨le3_11,hz11⟩;refine gU ?_;have hf11:SlC F11.toFrz (.slice (some ⟨g31,0,none⟩) 2 2) 1 ([1,2].map eI):=(SlK.lit hz11 rfl (Nat.le_refl _) a6).toF (xs:=[1,2]) rfl (fun _=>rfl);refine cN (eh 0 rfl rfl rfl rfl (fun w hw hF=>zbE _ w hF [1,2] (.slice (some ⟨g31,0,none⟩) 2 2) hf11 3 r32 hr32)) ?_;rintro _ _ ⟨⟨v32_0_0,v32_0_1,cs32_0_1⟩,F12,le11_12,⟨hf32_0_0,hf32_0_1⟩,rfl,rfl⟩;dsimp only at hf32_0_0 hf32_0_1 ⊢;have le3_12:=le3_11.trans le11_12;haveI:=hf32_0_0.oneC;haveI:=hf32_0_1.1.oneC;refine cN (cL rfl rfl rfl (fun w hw=>zcO _ w (hw.fr (i:=0) rfl) r32 v32_0_0 hf32_0_0 v32_0_1 cs32_0_1 hf32_0_1 0 0 (htab.keptF hw) fuel hfu r33 hr33)) ?_;refine ex ?_;refine d5 ?_;refine dQ rfl rfl rfl (fun h9=>?_) (fun h9=>?_)
    ·replace hk:=dy hk h9;refine q2j ?_;exact c4 (true,F12) ⟨hk,le3_12⟩ (.c (.c .nil)) (List.Sublist.refl _)
    ·replace hk:=dz hk h9;refine jg ?_;rintro _ _ ⟨g36,rfl,rfl⟩;refine i4 (fun w hw=>hw.freezeR (i:=1) (j:=0) a6 rfl rfl) ?_;rintro F13 ⟨le12_13,hz13⟩;refine gU ?_;have le3_13:=le3_12.trans le12_13;have hf13:SlC F13.toFrz (.slice (some ⟨g36,0,none⟩) 4 4) 1 ([1,2,3,5].map eI):=(SlK.lit hz13 rfl (Nat.le_refl _) a6).toF (xs:=[1,2,3,5]) rfl (fun _=>rfl);have hq:=dM hk;clear hk;obtain ⟨r37,hr37,hk⟩:=hq;refine cN (eh 0 rfl rfl rfl rfl (fun w hw hF=>zbE _ w hF [1,2,3,5] (.slice (some ⟨g36,0,none⟩) 4 4) hf13 3 r37 hr37)) ?_;rintro _ _ ⟨⟨v37_0_0,v37_0_1,cs37_0_1⟩,F14,le13_14,⟨hf37_0_0,hf37_0_1⟩,rfl,rfl⟩;dsimp only at hf37_0_0 hf37_0_1 ⊢;have le3_14:=le3_13.trans le13_14;haveI:=hf37_0_0.oneC;haveI:=hf37_0_1.1.oneC;have hq:=dM hk;clear hk;obtain ⟨r38,hr38,hk⟩:=hq;refine cN (cL rfl rfl rfl (fun w hw=>zcO _ w (hw.fr (i:=0) rfl) r37 v37_0_0 hf37_0_0 v37_0_1 cs37_0_1 hf37_0_1 0 9 (htab.keptF hw) fuel hfu r38 hr38)) ?_;refine lO ?_;exact c4 (!r38,F14) ⟨hk,le3_14⟩ (.c (.c .nil)) (List.Sublist.refl _)
   ·rintro ⟨x_7,F10⟩ ⟨hk,le3_10⟩; (try dsimp only at *);rw [←hk8] at hk; (try dsimp only at hk);have le2_10:=le2_3.trans le3_10;refine T.cond rfl (fun h10=>?_) (fun h10=>?_)
    ·replace hk:=dy hk h10;refine gF ?_;obtain rfl:=Option.some.inj hk;exact fw
    ·replace hk:=dz hk h10;refine iR ?_;have hq:=dM hk;clear hk;obtain ⟨r44,hr44,hk⟩:=hq;have hq:=dM hk;clear hk;obtain ⟨r45,hr45,hk⟩:=hq; (try dsimp only at hk);refine ed ?_;refine cN (eh 0 rfl rfl rfl rfl (fun w hw hF=>zcx _ w hF )) ?_;rintro _ _ ⟨⟨v42_0_0,cs42_0_0,v42_0_1,v42_0_2,v42_0_3⟩,F15,le10_15,⟨hf42_0_0,hf42_0_1,hf42_0_2,hf42_0_3⟩,rfl,rfl⟩;dsimp only at hf42_0_0 hf42_0_1 hf42_0_2 hf42_0_3 ⊢;have le2_15:=le2_10.trans le10_15;haveI:=hf42_0_0.1.oneC;haveI:=hf42_0_1.oneC;haveI:=hf42_0_2.oneC;haveI:=hf42_0_3.oneC;refine dd ?_;refine cN (eh 0 rfl rfl rfl rfl (fun w hw hF=>zbE _ w hF [1,2,3] (.slice (some ⟨g6,0,none⟩) 3 3) (SlC.mono hf2 le2_15) 3 r44 hr44)) ?_;rintro _ _ ⟨⟨v44_0_0,v44_0_1,cs44_0_1⟩,F16,le15_16,⟨hf44_0_0,hf44_0_1⟩,rfl,rfl⟩;dsimp only at hf44_0_0 hf44_0_1 ⊢;have le2_16:=le2_15.trans le15_16;haveI:=hf44_0_0.oneC;haveI:=hf44_0_1.1.oneC;refine cN (eh 0 rfl rfl rfl rfl (fun w hw hF=>zhK _ w hF (kM) v42_0_0 cs42_0_0 (SlD.mono (rep:=cJ) (fun _ _ _ _=>GDomain.mono) hf42_0_0 le15_16) v42_0_1 (SlC.mono hf42_0_1 le15_16) v42_0_2 (SlC.mono hf42_0_2 le15_16) v42_0_3 (SlC.mono hf42_0_3 le15_16) r44 v44_0_0 hf44_0_0 v44_0_1 cs44_0_1 hf44_0_1 (htab.keptF hw) fuel hfu r45 hr45)) ?_;rintro _ _ ⟨⟨v45_0_0,v45_0_1,cs45_0_1⟩,F17,le16_17,⟨hf45_0_0,hf45_0_1⟩,rfl,rfl⟩;dsimp only at hf45_0_0 hf45_0_1 ⊢;have le2_17:=le2_16.trans le16_17;haveI:=hf45_0_0.oneC;haveI:=hf45_0_1.1.oneC;refine eM ?_;refine fQ ?_;rintro _ _ ⟨g2,rfl,rfl⟩;refine kr ?_;refine kx ?_;have hq:=dM hk;clear hk;obtain ⟨r50,hr50,hk⟩:=hq; (try dsimp only at hk);refine ed ?_;refine gY ?_;refine cN (dl [1,0] [] [.row g2 33 [v45_0_0,v45_0_1]] rfl rfl rfl rfl a6 (fun w hw hw2 hF=>zga _ w hF r45.1 v45_0_0 hf45_0_0 v45_0_1 cs45_0_1 hf45_0_1 fuel r50 hr50)) ?_;rintro _ _ ⟨v50_0_0, -,rfl,rfl⟩;refine q3H ?_;intro iv50_0_0 hmv50_0_0;refine TL.run 5 rfl ?_;refine q3v ?_;rintro F18 ⟨le17_18,hz18⟩;refine gU ?_;have le2_18:=le2_17.trans le17_18;have hf18:=hz18.toF rfl (fun _=>rfl);haveI:=hf18.oneC; (try dsimp only at hk);have hq:=eP hk;clear hk;obtain ⟨k12,hk12,hk⟩:=hq; (try dsimp only at hk);refine dj (ι:=Bool×FzB w (fun _=>False) S0) (fun z=>[(0, .bool z.1)]) (fun z=>[.fr z.2]) (fun z=>k12 z.1=some r∧F18.toFrz.Le z.2.toFrz) ?_ ?_
     ·refine dT (sN 0 9 (.eff 9 (.eff 10 (sN 11 6 (.still 17 .done))))) _ a8 (List.Sublist.refl _) ?_;refine TS.run 3 rfl ?_;refine jz rfl rfl rfl rfl (fun h13=>?_) (fun h13=>?_)
      ·have p13:=of_decide_eq_true h13;replace hk:=dy hk h13;refine TS.run 4 rfl ?_;refine jz rfl rfl rfl rfl (fun h14=>?_) (fun h14=>?_)
       ·have p14:=of_decide_eq_true h14;replace hk:=dy hk h14;refine cR rfl (dJ 1) ?_;refine gR ?_;refine dF ?_;have hq:=dM hk;clear hk;obtain ⟨r62,hr62,hk⟩:=hq;refine dn rfl (Wt.some) rfl rfl (eh 0 rfl rfl rfl rfl (fun w hw hF=>zbE _ w hF [1,2,3] (.slice (some ⟨g6,0,none⟩) 3 3) (SlC.mono hf2 le2_18) 2 r62 hr62)) ?_;rintro _ _ ⟨⟨v62_0_0,v62_0_1,cs62_0_1⟩,F20,le18_20,⟨hf62_0_0,hf62_0_1⟩,rfl,rfl⟩;dsimp only at hf62_0_0 hf62_0_1 ⊢;have le17_20:=le17_18.trans le18_20;haveI:=hf62_0_0.oneC;haveI:=hf62_0_1.1.oneC;refine ⟨(fun w hw=>(hw.frLe (i:=0) rfl le18_20).sub Sx),?_⟩;refine dF ?_;refine dn rfl (Wt.some) rfl rfl (cL rfl rfl rfl (fun w hw=>zhk _ w (hw.fr (i:=0) rfl) r45.1 v45_0_0 (SlC.mono hf45_0_0 le17_20) v45_0_1 cs45_0_1 (SlD.mono (rep:=cG) (fun _ _ _ _=>R_List_GChoice.mono) hf45_0_1 le17_20) r62 v62_0_0 hf62_0_0 v62_0_1 cs62_0_1 hf62_0_1)) ?_;refine ex ?_;refine ⟨(fun w hw=>(hw.frLe (i:=0) rfl le18_20).sub Sx),?_⟩;refine iQ ?_;refine jz rfl rfl rfl rfl (fun h15=>?_) (fun h15=>?_)
        ·replace hk:=dy hk h15;refine gR ?_;refine cR rfl (Yv.cB 0 (e:=5) a8 a8 a8 rfl rfl rfl hf18) ?_;refine cR rfl (Yv.ct (a:=(u8s r50.1)) (b:=([3,1,2,3,2,1,1,14,0]:List UInt8)) rfl rfl rfl) ?_;refine iQ ?_;refine q3R ?_;exact c4 (((u8s r50.1) == ([3,1,2,3,2,1,1,14,0]:List UInt8)),F20) ⟨hk,le18_20⟩ (.c .nil) (List.Sublist.refl _)
        ·replace hk:=dz hk h15;refine TS.run 5 rfl ?_;refine q3R ?_;exact c4 (false,F20) ⟨hk,le18_20⟩ (.c .nil) (List.Sublist.refl _)
       ·have p14:=of_decide_eq_false h14;replace hk:=dz hk h14;refine iQ ?_;refine q2p ?_;refine q2p ?_;refine TS.run 7 rfl ?_;refine q3R ?_;exact c4 (false,F18) ⟨hk,(Frz.Le.refl _)⟩ (.c .nil) (List.Sublist.refl _)
      ·have p13:=of_decide_eq_false h13;replace hk:=dz hk h13;refine TS.run 6 rfl ?_;refine q2p ?_;refine q2p ?_;refine TS.run 7 rfl ?_;refine q3R ?_;exact c4 (false,F18) ⟨hk,(Frz.Le.refl _)⟩ (.c .nil) (List.Sublist.refl _)
     ·rintro ⟨x_11,F19⟩ ⟨hk,le18_19⟩; (try dsimp only at *);rw [←hk12] at hk; (try dsimp only at hk);refine T.ret ?_;obtain rfl:=Option.some.inj hk;exact fw
theorem zkv (n:Nat):zcc (n+100000)=some true:=by kernel_rfl
theorem zkf {fuel:Nat}(hf:100000≤fuel):zcc fuel=some true:=by
 obtain ⟨n,rfl⟩:∃n,fuel=n+100000:=⟨fuel - 100000,by omega⟩;exact zkv n
section
variable {p:GProblem}{x:GProof}{fuel:Nat}
end
inductive Dy (α β:Type) where
 |ok (x:α)
 |er (z:β)
instance {α β:Type} [Inhabited α]:Inhabited (Dy α β):=⟨.ok default⟩
def i2 {α β:Type}:Dy α β→Bool
 | .ok _=>true
 | .er _=>false
def eD {α β:Type}[Inhabited α]:Dy α β→α
 | .ok x=>x
 | .er _=>default
def jq {α β:Type}[Inhabited β]:Dy α β→β
 | .ok _=>default
 | .er z=>z
abbrev dyE (t:TypeId)(k:Int):List PanicEntry:=[{ v:= .iface t (.int .i64 k),recovered:=false }]
def zjT (P:Program)(fn:Func)(R:Ending→World→Prop):Exit→Act→World→Prop
 | .normal,a,w| .ret,a,w=>LeavesInM Fence.wide 0 P fn a.tmps R a.defers .returning w
 | .panic ch,a,w=>∀tmps,LeavesInM Fence.wide 0 P fn tmps R a.defers (.panicking ch) w
 |_,_,_=>False
instance (P:Program) (fn:Func) (R:Ending→World→Prop):NP (zjT P fn R):=⟨fun c a d v w h=>by
 cases d <;> exact h⟩
section
variable {F:Fence}{P:Program}{n:Nat}{B D:World}{M:Nat→Prop}{Q:Exit→Act→World→Prop}{fs:dH}{hs:HS}{ops:Array Oper}{l rest:List Oper}{ch:List PanicEntry}{id:Nat}
theorem zeJ {f : FuncId} {fn : Func} {c : Code} {args : List Value} {w : World} {R : Ending → World → Prop} (hf : P.funcs[f]? = some fn) (hb : fn.body = some c) (hn : fn.ntmps = n) (hlen : Nat.ble args.length n = true)
    (hh : Hp w M hs w) (h : T Fence.wide P n w w M c (zjT P fn R) (jf 0 args) hs) : Calls P f args.toArray w R := by
  (have hle : args.length ≤ n := by simpa using hlen); refine callsIn_wide.1 (callsIn_of_wp_marks (F := Fence.wide) (n := 0) hf hb trivial (wpIn_mono (h.out { tmps := args.toArray ++ Array.replicate (fn.ntmps - args.toArray.size) undef, defers := [] } w ⟨?_, ?_⟩ hh ⟨Kp.refl w, [], rfl, List.nodup_nil, fun _ h => by cases h⟩) ?_))
  · simp [hn]; omega
  · intro t v e; obtain ⟨_, h2⟩ := zdS _ _ _ _ e; rw [Nat.sub_zero] at h2; have ht : t < args.length := (List.getElem?_eq_some_iff.1 h2).1; rw [Array.getElem?_append_left (by simpa using ht)]; simpa using h2
  · intro e a w hq
    cases e <;> first | exact hq | exact hq a.tmps | exact hq.elim
theorem K.pq {fn:Func}{R:Ending→World→Prop}(h:K n B D M (j2 P fn R) .ret fs hs):K n B D M (zjT P fn R) .ret fs hs:=⟨fun a w ha hw hm=>h.out a w ha hw hm⟩
theorem K.cC {fn:Func}{R:Ending→World→Prop}(h:K n B D M (j2 P fn R) .normal fs hs):K n B D M (zjT P fn R) .normal fs hs:=⟨fun a w ha hw hm=>h.out a w ha hw hm⟩
theorem ek {N:Act→World→Prop}(h:K n B D M Q (.panic ch) fs hs):K n B D M (Exit.then N Q) (.panic ch) fs hs:=⟨fun a w ha hw hm=>h.out a w ha hw hm⟩
theorem K.aY (h:K n B D M Q (.panic ch) fs hs):K n B D M (Exit.inBlock id Q) (.panic ch) fs hs:=⟨fun a w ha hw hm=>h.out a w ha hw hm⟩
theorem zeP {fn : Func} {R : Ending → World → Prop} {tmps : Array Value} (hv : ∀ w, Hp B M hs w → R (.panicked ch) w) :
    ∀ (rs : List Nat) (w : World), Hp B M hs w → Kp D w → rs.Nodup → (∀ r ∈ rs, w.heap[r]? = some (.deferred (some [])) ∧ B.heap.size ≤ r ∧ D.heap.size ≤ r) → LeavesInM Fence.wide 0 P fn tmps R (rs.map lv) (.panicking ch) w
  | [], w, h, hk, _, _ => hv w h
  | r :: rs, w, h, hk, hn, hr => by
    obtain ⟨h1, h2, h3⟩ := hr r a7; have hlt := (Array.getElem?_eq_some_iff.1 h1).1; have ho : Only (· = r) w (w.putObj r (.deferred none)) := ⟨rfl, rfl, rfl, by rw [World.putObj_size]; exact Nat.le_refl _, fun k hk hne => World.putObj_heap_other hne⟩; refine ⟨by simp, .inl ⟨r, w.putObj r (.deferred none), rfl, run_takeDeferred h1, ?_⟩⟩; rw [List.nodup_cons] at hn; refine zeP hv rs _ (h.other ho h2 (h.notMark h1)) ⟨Nat.le_trans hk.size ho.size, fun q c hq => ?_⟩ hn.2 (fun q hq => ?_)
    · have hq' := (Array.getElem?_eq_some_iff.1 hq).1; exact (World.putObj_heap_other a5).trans (hk.keep q c hq)
    · have hq' := hr q (by simp [hq]); exact ⟨(World.putObj_heap_other (fun (e : q = r) => hn.1 (by rw [← e]; exact hq))).trans hq'.1, hq'.2⟩
theorem K.bi {fn:Func}{R:Ending→World→Prop}(h:∀w,Hp B M hs w→R (.panicked ch) w):K n B D M (zjT P fn R) (.panic ch) fs hs:=
 ⟨fun a w ha hw ⟨h0,rs,h1,h2,h3⟩=>by
  intro tmps
  rw [h1];exact zeP h rs w hw h0 h2 h3⟩
end
section
variable {Fe:Fence}[hFe:Calm Fe]{P:Program}{n:Nat}{B D:World}{M S0:Nat→Prop}{Q:Exit→Act→World→Prop}{fs:dH}{hs:HS}{ops:Array Oper}{rest:List Oper}{o:Oper}{v:Value}
def ziV (P:Program)(t:TypeId):Bool:=
 match P.underlying t with
 |some (.interface _)=>false
 |some _=>true
 |none=>false
theorem Yv.bV {t:TypeId}{x:Operand}(ho:o.op= .makeInterface t x)(hx:ev fs x=some v)(ht:ziV P t=true):Yv P n B M fs hs o (.iface t v):=fun a w ha _=>by
 have h1:(Instr.makeInterface t v).run P w= .ok (.iface t v) w:=by
  unfold ziV at ht
  cases hU:P.underlying t with
  |none=>rw [hU] at ht;cases ht
  |some d=>
   rw [hU] at ht
   cases d <;> first|(cases ht;done)|simp [Instr.makeInterface,underlying,hU]
 unfold execOp;simp only [ho,ha.ev hx];rw [Sem.run_bind,h1];rfl
theorem TL.bW {t:TypeId}{x:Operand}(hg:o.guard=none)(ho:o.op= .panic x)(hx:ev fs x=some (.iface t v))(k:K n B D M Q (.panic [{ v:= .iface t v,recovered:=false }]) fs hs):TL Fe P n B D M ops Q (o :: rest) fs hs:=
 ⟨fun a w ha hp hm=>wpListIn_step fun K hK=>by
  rw [if_pos (Wt.none hg a ha)]
  have hr:(execOp a.eval o).run P w= .halt (.panic (.iface t v)) w:=by
   unfold execOp;simp only [ho,ha.ev hx]
   rfl
  refine zgg (fun c e=>by rw [ho] at e;cases e) ?_;rw [hr]
  exact k.out a w ha hp hm⟩
theorem ziY {c : Operand} {xs : Array Operand} {ts : Array TypeId} {f : FuncId} {fst caps : Array Value} {vs : List Value} [hE : Enters P f] (ho : o.op = .call { callee := .value c, args := xs, argTypes := ts }) (hc : ev fs c = some (.func (.func f) fst caps)) (hv : evs fs xs.toList = some vs)
    {a : Act} {w : World} (ha : Fr n fs a) {R : Ending → World → Prop} (C : Calls P f (fst.toList ++ vs ++ caps.toList).toArray w R) {K : Act → World → Prop} (h1 : ∀ v w', R (.returned v) w' → K (a.put o.dst v) w') (h2 : ∀ ch w', R (.panicked ch) w' → Q (.panic ch) a w') (h3 : ∀ w', ¬ R .outgrown w') : o.wpIn Fe 0 P a w K Q := by
  (have h4 : xs.map a.eval = vs.toArray := by rw [← ha.evs hv]; apply Array.ext'; simp)
  have hrun : (execOp a.eval o).run P w = .ok (.enter f (fst.toList ++ vs ++ caps.toList).toArray) w := by
    unfold execOp; have := hE.run (fst.toList ++ vs ++ caps.toList).toArray w;simp only [ho, resolve, ha.ev hc, Deferred.ofValue, h4, invoke, Sem.run_bind, Sem.run_pure, Result.andThen_ok]; rw [← this]
    congr 2
    apply Array.ext'; simp
  refine zgg (ziL hrun) ?_; rw [hrun, Oper.uponIn_enter];refine ⟨(fun h => by rw [hFe.depth] at h; cases h), zfg C ?_⟩; intro e w' hR
  cases e with
  | returned v => exact h1 v w' hR
  | panicked ch => exact h2 ch w' hR
  | outgrown => exact absurd hR (h3 w')
theorem kZ (idx : List Nat) (bs rs : HS) {ι : Type} {F : FzB B M S0} {φ : ι → Prop} {ch : List PanicEntry} {es : ι → HS} {c : Operand} {xs : Array Operand} {ts : Array TypeId} {f : FuncId} {fst caps : Array Value} {vs : List Value} [hE : Enters P f] (hg : o.guard = none)
    (ho : o.op = .call { callee := .value c, args := xs, argTypes := ts }) (hc : ev fs c = some (.func (.func f) fst caps)) (hv : evs fs xs.toList = some vs) (hp : lk hs idx = some (bs ++ .fr F :: rs)) (hn : idx.Nodup)
    (C : ∀ w, Hp B M hs w → Hp B M (bs ++ .fr F :: rs) w → F.toFrz.At w → Calls P f (fst.toList ++ vs ++ caps.toList).toArray w (fun e w' => ∃ y, φ y ∧ e = .panicked ch ∧ FxM F.toFrz w (cZ bs) F.toFrz (es y) w'))
    (k : ∀ y, φ y → K n B D M Q (.panic ch) fs (es y ++ .fr F :: rs)) : TL Fe P n B D M ops Q (o :: rest) fs hs :=
  ⟨fun a w ha hw hm => wpListIn_step fun K hK => by
    rw [if_pos (Wt.none hg a ha)]; have hw2 := hw.pick hp hn; have hF : F.toFrz.At w := hw2.fr (i := bs.length) a7; refine ziY ho hc hv ha (C w hw hw2 hF) (fun v w' h => ?_) (fun ch2 w' h => ?_) (fun w' h => ?_)
    · obtain ⟨_, _, e, _⟩ := h; cases e
    · obtain ⟨y, hy, e, hx⟩ := h
      cases e
      refine (k y hy).out a w' ha ?_ (hm.next (Kp.only hx.hp.only fun g hg c => ?_))
      · exact q4H
      · obtain ⟨e, h1, h2⟩ := hg; exact e.nd (hw2.own e (List.mem_append_left _ h1)) g h2 c
    · obtain ⟨_, _, e, _⟩ := h; cases e⟩
end
structure GReader where
 fault:Gfault
 made:Bool
 in_:List Int
 at_:Int
deriving DecidableEq,Inhabited
def dZ (F:Frz)(c:List Value)(x:GReader):Prop:=∃(v2:Value),c=[.int .i64 x.fault.first, .bool x.made,v2, .int .i64 x.at_]∧SlC F v2 1 (x.in_.map (eK .u8))
theorem GReader.mono {F G:Frz}{c:List Value}{x:GReader}(hle:F.Le G)(h:dZ F c x):dZ G c x:=by
 obtain ⟨v2,h0,h3⟩:=h;exact ⟨v2,h0,h3.mono hle⟩
theorem GReader.len {F:Frz}{c:List Value}{x:GReader}(h:dZ F c x):c.length=4:=by
 obtain ⟨v2,h0,h3⟩:=h;subst h0;rfl
theorem GReader.one {F:Frz}{c:List Value}{x:GReader}(h:dZ F c x):OneCs c:=by
 obtain ⟨v2,h0,h3⟩:=h;subst h0;haveI:=h3.oneC
 infer_instance
theorem GReader.c0 {F:Frz}{c:List Value}{x:GReader}(h:dZ F c x):c[0]?=some (.int .i64 x.fault.first):=by
 obtain ⟨v2,h0,h3⟩:=h;subst h0;rfl
theorem GReader.c1 {F:Frz}{c:List Value}{x:GReader}(h:dZ F c x):c[1]?=some (.bool x.made):=by
 obtain ⟨v2,h0,h3⟩:=h;subst h0;rfl
theorem GReader.c2 {F:Frz}{c:List Value}{x:GReader}(h:dZ F c x):c[2]?=some (cH c 2)∧SlC F (cH c 2) 1 (x.in_.map (eK .u8)):=by
 obtain ⟨v2,h0,h3⟩:=h;subst h0;exact ⟨rfl,h3⟩
theorem GReader.c3 {F:Frz}{c:List Value}{x:GReader}(h:dZ F c x):c[3]?=some (.int .i64 x.at_):=by
 obtain ⟨v2,h0,h3⟩:=h;subst h0;rfl
theorem GReader.form {F:Frz}{c:List Value}{x:GReader}(h:dZ F c x):(c.drop 0).take 4=[.int .i64 x.fault.first, .bool x.made,cH c 2, .int .i64 x.at_]:=by
 obtain ⟨v2,h0,h3⟩:=h;subst h0;rfl
def zaE (x0_:GReader):Bool:=
 x0_.made
theorem zbK (F0:Frz)(w:World)(hF0:F0.At w)(x0_:GReader)(g0_:Nat)(v0_2:Value)(hO:Hp w (cZ [.row g0_ 155 [.int .i64 x0_.fault.first, .bool x0_.made,v0_2, .int .i64 x0_.at_], .sl v0_2 5 1 x0_.in_.length (x0_.in_.flatMap (eK .u8))]) [.row g0_ 155 [.int .i64 x0_.fault.first, .bool x0_.made,v0_2, .int .i64 x0_.at_], .sl v0_2 5 1 x0_.in_.length (x0_.in_.flatMap (eK .u8))] w)(hA:∀g,cZ [.row g0_ 155 [.int .i64 x0_.fault.first, .bool x0_.made,v0_2, .int .i64 x0_.at_], .sl v0_2 5 1 x0_.in_.length (x0_.in_.flatMap (eK .u8))] g→¬F0.S g):Calls Tryz.prog 98 #[.pointer (some ⟨g0_,0,none⟩)] w fun e w'=>∃(y:Unit),(True)∧e= .returned (.bool (zaE x0_))∧FxM F0 w (cZ [.row g0_ 155 [.int .i64 x0_.fault.first, .bool x0_.made,v0_2, .int .i64 x0_.at_], .sl v0_2 5 1 x0_.in_.length (x0_.in_.flatMap (eK .u8))]) F0 [.row g0_ 155 [.int .i64 x0_.fault.first, .bool x0_.made,v0_2, .int .i64 x0_.at_], .sl v0_2 5 1 x0_.in_.length (x0_.in_.flatMap (eK .u8))] w':=by
 obtain ⟨r,hk⟩:∃r,zaE x0_=r:=⟨_,rfl⟩;rw [hk];unfold zaE at hk;haveI:=gN (hO.own (.sl v0_2 5 1 x0_.in_.length (x0_.in_.flatMap (eK .u8))) a7);have hmx0_2:=gW (hO.own (.sl v0_2 5 1 x0_.in_.length (x0_.in_.flatMap (eK .u8))) a7);obtain ⟨S0,F1,rfl,hS0,hp0⟩:=ga hF0 hO hA;refine dq (hs:=[.row g0_ 155 [.int .i64 x0_.fault.first, .bool x0_.made,v0_2, .int .i64 x0_.at_], .sl v0_2 5 1 x0_.in_.length (x0_.in_.flatMap (eK .u8)), .fr F1]) Tryz.func98 rfl rfl rfl hp0 ?_;refine ei ?_;refine dj (ι:=Unit) (fun z=>[(2, .bool x0_.made)]) (fun z=>[.row g0_ 155 [.int .i64 x0_.fault.first, .bool x0_.made,v0_2, .int .i64 x0_.at_], .sl v0_2 5 1 x0_.in_.length (x0_.in_.flatMap (eK .u8)), .fr F1]) (fun z=>True) ?_ ?_
 ·refine fo ?_;refine cI (kR (e:=155) a8 rfl rfl rfl) ?_;refine eM ?_;refine eu ?_;refine d5 ?_;refine TL.nil ?_;exact q4m
 ·rintro _ _;refine T.ret ?_;subst hk;exact mj
def zau (x0_:GReader):Option (Dy (Int×Int) (Int×Int)):=
 dS (fun (_:Unit)=>
  d4 (0≤x0_.at_∧x0_.at_<(x0_.in_.length:Int)) <|
  some (Dy.ok ((cH x0_.in_ x0_.at_.toNat),(x0_.at_+1))))
 (fun k1=>
  (bif decide ((x0_.in_.length:Int)≤x0_.at_) then
   some (Dy.er (4,x0_.at_))
   else
   k1 ()))
theorem zbM (F0:Frz)(w:World)(hF0:F0.At w)(x0_:GReader)(g0_:Nat)(v0_2:Value)(hO:Hp w (cZ [.row g0_ 155 [.int .i64 x0_.fault.first, .bool x0_.made,v0_2, .int .i64 x0_.at_], .sl v0_2 5 1 x0_.in_.length (x0_.in_.flatMap (eK .u8))]) [.row g0_ 155 [.int .i64 x0_.fault.first, .bool x0_.made,v0_2, .int .i64 x0_.at_], .sl v0_2 5 1 x0_.in_.length (x0_.in_.flatMap (eK .u8))] w)(hA:∀g,cZ [.row g0_ 155 [.int .i64 x0_.fault.first, .bool x0_.made,v0_2, .int .i64 x0_.at_], .sl v0_2 5 1 x0_.in_.length (x0_.in_.flatMap (eK .u8))] g→¬F0.S g)(r:Dy (Int×Int) (Int×Int))(hr:zau x0_=some r):Calls Tryz.prog 129 #[.pointer (some ⟨g0_,0,none⟩)] w fun e w'=>((i2 r=true→∃(y:Unit),(True)∧e= .returned (.int .u8 ((eD r).1))∧FxM F0 w (cZ [.row g0_ 155 [.int .i64 x0_.fault.first, .bool x0_.made,v0_2, .int .i64 x0_.at_], .sl v0_2 5 1 x0_.in_.length (x0_.in_.flatMap (eK .u8))]) F0 [.row g0_ 155 [.int .i64 x0_.fault.first, .bool x0_.made,v0_2, .int .i64 ((eD r).2)], .sl v0_2 5 1 x0_.in_.length (x0_.in_.flatMap (eK .u8))] w')∧(i2 r=false→∃(y:Unit),(True)∧e= .panicked (dyE 36 ((jq r).1))∧FxM F0 w (cZ [.row g0_ 155 [.int .i64 x0_.fault.first, .bool x0_.made,v0_2, .int .i64 x0_.at_], .sl v0_2 5 1 x0_.in_.length (x0_.in_.flatMap (eK .u8))]) F0 [.row g0_ 155 [.int .i64 x0_.fault.first, .bool x0_.made,v0_2, .int .i64 ((jq r).2)], .sl v0_2 5 1 x0_.in_.length (x0_.in_.flatMap (eK .u8))] w')):=by
 have hk:=hr;unfold zau at hk;haveI:=gN (hO.own (.sl v0_2 5 1 x0_.in_.length (x0_.in_.flatMap (eK .u8))) a7);have hmx0_2:=gW (hO.own (.sl v0_2 5 1 x0_.in_.length (x0_.in_.flatMap (eK .u8))) a7);obtain ⟨S0,F1,rfl,hS0,hp0⟩:=ga hF0 hO hA;refine zeJ (hs:=[.row g0_ 155 [.int .i64 x0_.fault.first, .bool x0_.made,v0_2, .int .i64 x0_.at_], .sl v0_2 5 1 x0_.in_.length (x0_.in_.flatMap (eK .u8)), .fr F1]) Tryz.func129 rfl rfl rfl hp0 ?_;refine gy ?_;refine jB ?_;refine dT (sN 0 9 (.still 9 .done)) _ a8 (List.Sublist.refl _) ?_;refine iQ ?_;refine fY ?_;refine iQ ?_;refine fY ?_;refine cR rfl (jk 1 rfl rfl rfl) ?_;refine ky ?_;have hq:=eP hk;clear hk;obtain ⟨k1,hk1,hk⟩:=hq; (try dsimp only at hk);refine dj (ι:=Unit) (fun z=>[(0, .pointer (some ⟨g0_,0,none⟩))]) (fun z=>[.row g0_ 155 [.int .i64 x0_.fault.first, .bool x0_.made,v0_2, .int .i64 x0_.at_], .sl v0_2 5 1 x0_.in_.length (x0_.in_.flatMap (eK .u8)), .fr F1]) (fun z=>k1 ()=some r) ?_ ?_
 ·refine T.cond rfl (fun h2=>?_) (fun h2=>?_)
  ·have p2:=of_decide_eq_true h2;replace hk:=dy hk h2;refine q1E ?_;obtain rfl:=Option.some.inj hk;exact q38
  ·have p2:=of_decide_eq_false h2;replace hk:=dz hk h2;refine T.skip ?_;exact c4 () hk (.c .nil) (List.Sublist.refl _)
 ·rintro _ hk;rw [←hk1] at hk; (try dsimp only at hk);refine T.seq ?_;have hq:(0≤x0_.at_∧x0_.at_<(x0_.in_.length:Int))∧_:=eQ hk;clear hk;obtain ⟨g23,hk⟩:=hq; (try dsimp only at hk);refine dT (sN 0 10 (.still 10 .done)) _ a8 (List.Sublist.refl _) ?_;refine iQ ?_;refine fY ?_;refine iQ ?_;refine fY ?_;refine cR rfl (mg 1 (i:=x0_.at_.toNat) rfl rfl rfl rfl a5 a5) ?_;refine cR rfl (Yv.bR 1 rfl rfl rfl a5 (zkB (enc:=(eK .u8)) (i:=x0_.at_.toNat) (j:=0) (fun _=>rfl) a5 a6 rfl)) ?_;refine q0X ?_;refine K.seq (de ?_);refine d5 ?_;refine eu ?_;refine ly ?_;refine dd ?_;refine eZ ?_;refine q1W ?_;refine dG ?_;refine ji ?_;obtain rfl:=Option.some.inj hk;refine K.pq ?_;exact q4A
def zas (x0_:GReader)(most:Int):Option (Dy (BitVec 64×Int) (Int×Int)):=
 d4 (most≤10) <|
 dS (fun (s3:BitVec 64×Int)=>
  some (Dy.er (6,s3.2)))
 (fun k3=>
  di (fun (i_8:Nat) (next7:(BitVec 64×BitVec 64×Int)→Option (Dy (BitVec 64×Int) (Int×Int))) (s7:BitVec 64×BitVec 64×Int)=>
   (zau (GReader.mk (Gfault.mk x0_.fault.first) x0_.made x0_.in_ s7.2.2)).bind fun r14=>
   (bif i2 r14 then
    dS (fun (_:Unit)=>
     (bif decide ((eD r14).1<128) then
      dS (fun (_:Unit)=>
       some (Dy.ok ((s7.2.1 ||| ((BitVec.ofInt 64 (andK .u8 ((eD r14).1) 127)) <<< ((7* (i_8:Int)).toNat))),((eD r14).2))))
      (fun k16=>
       (bif ((decide ((eD r14).1=0))&&(decide (0<(i_8:Int)))) then
        some (Dy.er (6,((eD r14).2)))
        else
        k16 ()))
      else
      next7 (s7.1,(s7.2.1 ||| ((BitVec.ofInt 64 (andK .u8 ((eD r14).1) 127)) <<< ((7* (i_8:Int)).toNat))),(eD r14).2)))
    (fun k12=>
     (bif ((decide ((i_8:Int)=9))&&(decide (((1#64).toNat:Int)<((BitVec.ofInt 64 (andK .u8 ((eD r14).1) 127)).toNat:Int)))) then
      some (Dy.er (6,((eD r14).2)))
      else
      k12 ()))
    else
    some (Dy.er ((jq r14).1,((jq r14).2)))))
  (fun (s7:BitVec 64×BitVec 64×Int)=>
   k3 (s7.1,s7.2.2)) (most.toNat - 0) 0 (0#64,0#64,x0_.at_))
theorem zaW (F0:Frz)(w:World)(hF0:F0.At w)(x0_:GReader)(g0_:Nat)(v0_2:Value)(most:Int)(hO:Hp w (cZ [.row g0_ 155 [.int .i64 x0_.fault.first, .bool x0_.made,v0_2, .int .i64 x0_.at_], .sl v0_2 5 1 x0_.in_.length (x0_.in_.flatMap (eK .u8))]) [.row g0_ 155 [.int .i64 x0_.fault.first, .bool x0_.made,v0_2, .int .i64 x0_.at_], .sl v0_2 5 1 x0_.in_.length (x0_.in_.flatMap (eK .u8))] w)(hA:∀g,cZ [.row g0_ 155 [.int .i64 x0_.fault.first, .bool x0_.made,v0_2, .int .i64 x0_.at_], .sl v0_2 5 1 x0_.in_.length (x0_.in_.flatMap (eK .u8))] g→¬F0.S g)(r:Dy (BitVec 64×Int) (Int×Int))(hr:zas x0_ most=some r):Calls Tryz.prog 97 #[.pointer (some ⟨g0_,0,none⟩), .int .i64 most] w fun e w'=>((i2 r=true→∃(y:Unit),(True)∧e= .returned (U ((eD r).1))∧FxM F0 w (cZ [.row g0_ 155 [.int .i64 x0_.fault.first, .bool x0_.made,v0_2, .int .i64 x0_.at_], .sl v0_2 5 1 x0_.in_.length (x0_.in_.flatMap (eK .u8))]) F0 [.row g0_ 155 [.int .i64 x0_.fault.first, .bool x0_.made,v0_2, .int .i64 ((eD r).2)], .sl v0_2 5 1 x0_.in_.length (x0_.in_.flatMap (eK .u8))] w')∧(i2 r=false→∃(y:Unit),(True)∧e= .panicked (dyE 36 ((jq r).1))∧FxM F0 w (cZ [.row g0_ 155 [.int .i64 x0_.fault.first, .bool x0_.made,v0_2, .int .i64 x0_.at_], .sl v0_2 5 1 x0_.in_.length (x0_.in_.flatMap (eK .u8))]) F0 [.row g0_ 155 [.int .i64 x0_.fault.first, .bool x0_.made,v0_2, .int .i64 ((jq r).2)], .sl v0_2 5 1 x0_.in_.length (x0_.in_.flatMap (eK .u8))] w')):=by
 have hk:=hr;unfold zas at hk;haveI:=gN (hO.own (.sl v0_2 5 1 x0_.in_.length (x0_.in_.flatMap (eK .u8))) a7);have hmx0_2:=gW (hO.own (.sl v0_2 5 1 x0_.in_.length (x0_.in_.flatMap (eK .u8))) a7);obtain ⟨S0,F1,rfl,hS0,hp0⟩:=ga hF0 hO hA;refine zeJ (hs:=[.row g0_ 155 [.int .i64 x0_.fault.first, .bool x0_.made,v0_2, .int .i64 x0_.at_], .sl v0_2 5 1 x0_.in_.length (x0_.in_.flatMap (eK .u8)), .fr F1]) Tryz.func97 rfl rfl rfl hp0 ?_;have hq:(most≤10)∧_:=eQ hk;clear hk;obtain ⟨gmost,hk⟩:=hq;refine lr ?_;refine jd ?_;refine iK ?_;have hq:=eP hk;clear hk;obtain ⟨k3,hk3,hk⟩:=hq; (try dsimp only at hk);refine dj (ι:=BitVec 64×Int) (fun z=>[(4,U z.1)]) (fun z=>[.row g0_ 155 [.int .i64 x0_.fault.first, .bool x0_.made,v0_2, .int .i64 z.2], .sl v0_2 5 1 x0_.in_.length (x0_.in_.flatMap (eK .u8)), .fr F1]) (fun z=>k3 (z.1,z.2)=some r) ?_ ?_
 ·have hq:=fS hk;clear hk;obtain ⟨f7,kk7,hf7,hkk7,hk⟩:=hq;refine gg ?_;refine T.loop (ι:=Nat×BitVec 64×BitVec 64×Int) (fun z=>[(0, .pointer (some ⟨g0_,0,none⟩)),(4,U z.2.1),(5,U z.2.2.1),(9, .int .i64 most),(10, .int .i64 (z.1:Int))]) (fun z=>[.row g0_ 155 [.int .i64 x0_.fault.first, .bool x0_.made,v0_2, .int .i64 z.2.2.2], .sl v0_2 5 1 x0_.in_.length (x0_.in_.flatMap (eK .u8)), .fr F1]) (fun z=>di f7 kk7 (most.toNat - z.1) z.1 (z.2.1,z.2.2.1,z.2.2.2)=some r) (fun z=>most.toNat - z.1) (0,0#64,0#64,x0_.at_) ?_ ?_ ?_ ?_
  ·exact hk
  ·exact ld
  ·exact fv
  ·rintro ⟨i_8,x_4,n_5,c_6⟩ hk; (try dsimp only at *);refine ei ?_;refine T.cond rfl (fun h9=>?_) (fun h9=>?_)
   ·have p9:=of_decide_eq_true h9;rw [fT a5] at hk;generalize hn7:di f7 kk7 (most.toNat - (i_8+1)) (i_8+1)=next7 at hk;rw [←hf7] at hk; (try dsimp only at hk);refine fq ?_;refine d5 ?_;refine i3 ?_;have hq:=dM hk;clear hk;obtain ⟨r14,hr14,hk⟩:=hq; (try dsimp only at hk);refine iH (i2 r14) (fun h10=>?_) (fun h10=>?_)
    ·replace hk:=dy hk h10;refine fo ?_;refine cN (dl [0,1,2] [.row g0_ 155 [.int .i64 x0_.fault.first, .bool x0_.made,v0_2, .int .i64 c_6], .sl v0_2 5 1 x0_.in_.length (x0_.in_.flatMap (eK .u8))] [] rfl rfl rfl rfl a6 (fun w hw hw2 hF=>(zbM _ w hF (GReader.mk (Gfault.mk x0_.fault.first) x0_.made x0_.in_ c_6) g0_ v0_2 hw2.takes.1 hw2.takes.2 r14 hr14).mono (fun e w' hp=>hp.1 h10))) ?_;rintro _ _ ⟨⟨⟩, -,rfl,rfl⟩;refine em ?_;refine kn ?_;refine cI (Yv.andK (a:=(eD r14).1) (b:=127) rfl rfl rfl) ?_;refine cI (Yv.bz (z:=(andK .u8 ((eD r14).1) 127)) rfl rfl) ?_;refine dd ?_;refine jB ?_;refine dj (ι:=Unit) (fun z=>[(0, .pointer (some ⟨g0_,0,none⟩)),(4,U x_4),(5,U n_5),(6, .int .i64 (i_8:Int)),(7, .int .u8 ((eD r14).1)),(8,U (BitVec.ofInt 64 (andK .u8 ((eD r14).1) 127))),(9, .int .i64 most),(10, .int .i64 (i_8:Int)),(23, .bool ((decide ((i_8:Int)=9))&&(decide (((1#64).toNat:Int)<((BitVec.ofInt 64 (andK .u8 ((eD r14).1) 127)).toNat:Int)))))]) (fun z=>[.row g0_ 155 [.int .i64 x0_.fault.first, .bool x0_.made,v0_2, .int .i64 ((eD r14).2)], .sl v0_2 5 1 x0_.in_.length (x0_.in_.flatMap (eK .u8)), .fr F1]) (fun z=>True) ?_ ?_
     ·refine ed ?_;refine eM ?_;refine dQ rfl rfl rfl (fun h11=>?_) (fun h11=>?_)
      ·have p11:=of_decide_eq_true h11;refine lZ ?_;exact c4 () trivial (.c (.c (.c (.c (.c (.c (.c (.c (.b (zgb h11) .nil))))))))) (List.Sublist.refl _)
      ·have p11:=of_decide_eq_false h11;refine lZ ?_;exact c4 () trivial (.c (.c (.c (.c (.c (.c (.c (.c (.b (zef h11).symm .nil))))))))) (List.Sublist.refl _)
     ·rintro _ _;have hq:=eP hk;clear hk;obtain ⟨k12,hk12,hk⟩:=hq; (try dsimp only at hk);refine dj (ι:=Unit) (fun z=>[(0, .pointer (some ⟨g0_,0,none⟩)),(4,U x_4),(5,U n_5),(6, .int .i64 (i_8:Int)),(7, .int .u8 ((eD r14).1)),(8,U (BitVec.ofInt 64 (andK .u8 ((eD r14).1) 127))),(9, .int .i64 most),(10, .int .i64 (i_8:Int))]) (fun z=>[.row g0_ 155 [.int .i64 x0_.fault.first, .bool x0_.made,v0_2, .int .i64 ((eD r14).2)], .sl v0_2 5 1 x0_.in_.length (x0_.in_.flatMap (eK .u8)), .fr F1]) (fun z=>k12 ()=some r) ?_ ?_
      ·refine T.cond rfl (fun h13=>?_) (fun h13=>?_)
       ·have p13:=h13; (try simp only [cV] at p13);replace hk:=dy hk h13;refine q1E ?_;refine q3c ?_;obtain rfl:=Option.some.inj hk;exact q38
       ·replace hk:=dz hk h13;refine T.skip ?_;exact c4 () hk (.c (.c (.c (.c (.c (.c (.c (.c .nil)))))))) (List.Sublist.refl _)
      ·rintro _ hk;rw [←hk12] at hk; (try dsimp only at hk);refine de ?_;refine eM ?_;refine cI (Yv.ck rfl rfl rfl a5) ?_;refine cI (fW (a:=(BitVec.ofInt 64 (andK .u8 ((eD r14).1) 127))) ((7* (i_8:Int)).toNat) rfl rfl rfl a5 a5) ?_;refine cI (fH) ?_;refine f9 ?_;refine iK ?_;refine T.cond rfl (fun h14=>?_) (fun h14=>?_)
       ·have p14:=of_decide_eq_true h14;replace hk:=dy hk h14;refine T.seq (T.seq ?_);refine dj (ι:=Unit) (fun z=>[(5,U (n_5 ||| ((BitVec.ofInt 64 (andK .u8 ((eD r14).1) 127)) <<< ((7* (i_8:Int)).toNat)))),(38, .bool ((decide ((eD r14).1=0))&&(decide (0<(i_8:Int)))))]) (fun z=>[.row g0_ 155 [.int .i64 x0_.fault.first, .bool x0_.made,v0_2, .int .i64 ((eD r14).2)], .sl v0_2 5 1 x0_.in_.length (x0_.in_.flatMap (eK .u8)), .fr F1]) (fun z=>True) ?_ ?_
        ·refine ed ?_;refine eM ?_;refine dQ rfl rfl rfl (fun h15=>?_) (fun h15=>?_)
         ·have p15:=of_decide_eq_true h15;refine lZ ?_;exact c4 () trivial (.c (.b (zgb h15) .nil)) (List.Sublist.refl _)
         ·have p15:=of_decide_eq_false h15;refine lZ ?_;exact c4 () trivial (.c (.b (zef h15).symm .nil)) (List.Sublist.refl _)
        ·rintro _ _;have hq:=eP hk;clear hk;obtain ⟨k16,hk16,hk⟩:=hq; (try dsimp only at hk);refine dj (ι:=Unit) (fun z=>[(5,U (n_5 ||| ((BitVec.ofInt 64 (andK .u8 ((eD r14).1) 127)) <<< ((7* (i_8:Int)).toNat))))]) (fun z=>[.row g0_ 155 [.int .i64 x0_.fault.first, .bool x0_.made,v0_2, .int .i64 ((eD r14).2)], .sl v0_2 5 1 x0_.in_.length (x0_.in_.flatMap (eK .u8)), .fr F1]) (fun z=>k16 ()=some r) ?_ ?_
         ·refine T.cond rfl (fun h17=>?_) (fun h17=>?_)
          ·have p17:=h17; (try simp only [cV] at p17);replace hk:=dy hk h17;refine q1E ?_;refine q3c ?_;obtain rfl:=Option.some.inj hk;exact q38
          ·replace hk:=dz hk h17;refine T.skip ?_;exact c4 () hk (.c .nil) (List.Sublist.refl _)
         ·rintro _ hk;rw [←hk16] at hk; (try dsimp only at hk);refine iA ?_;refine q0B ?_;obtain rfl:=Option.some.inj hk;refine K.pq ?_;exact q4A
       ·have p14:=of_decide_eq_false h14;replace hk:=dz hk h14;refine gB ?_;rw [←hn7] at hk;exact K.next ((i_8+1),x_4,(n_5 ||| ((BitVec.ofInt 64 (andK .u8 ((eD r14).1) 127)) <<< ((7* (i_8:Int)).toNat))),(eD r14).2) hk a9 (.c (.c (.c (.c (.c .nil))))) (List.Sublist.refl _)
    ·replace hk:=dz hk h10;refine fo ?_;refine kZ [0,1,2] [.row g0_ 155 [.int .i64 x0_.fault.first, .bool x0_.made,v0_2, .int .i64 c_6], .sl v0_2 5 1 x0_.in_.length (x0_.in_.flatMap (eK .u8))] [] rfl rfl rfl rfl rfl a6 (fun w hw hw2 hF=>(zbM _ w hF (GReader.mk (Gfault.mk x0_.fault.first) x0_.made x0_.in_ c_6) g0_ v0_2 hw2.takes.1 hw2.takes.2 r14 hr14).mono (fun e w' hp=>hp.2 h10)) ?_;rintro ⟨⟩ -;refine em ?_;refine ek ?_;refine q3c ?_;obtain rfl:=Option.some.inj hk;exact q38
   ·have p9:=of_decide_eq_false h9;rw [fR a5,←hkk7] at hk; (try dsimp only at hk);refine ff ?_;exact c4 (x_4,c_6) hk (.c .nil) (List.Sublist.refl _)
 ·rintro ⟨x_1,c_2⟩ hk; (try dsimp only at *);rw [←hk3] at hk; (try dsimp only at hk);refine ed ?_;refine cI (Yv.bV rfl rfl a8) ?_;refine TL.bW rfl rfl rfl ?_;obtain rfl:=Option.some.inj hk;exact q38
def zax (x0_:GReader)(limit:Int):Option (Dy (Int×Int) (Int×Int)):=
 (zas x0_ 9).bind fun r7=>
 (bif i2 r7 then
  dS (fun (_:Unit)=>
   dS (fun (_:Unit)=>
    some (Dy.ok ((wI (((eD r7).1).toNat:Int)),((eD r7).2))))
   (fun k4=>
    (bif decide (limit<(wI (((eD r7).1).toNat:Int))) then
     some (Dy.er (7,((eD r7).2)))
     else
     k4 ())))
  (fun k2=>
   (bif decide (limit<0) then
    some (Dy.er (2,((eD r7).2)))
    else
    k2 ()))
  else
  some (Dy.er ((jq r7).1,((jq r7).2))))
theorem zbJ (F0:Frz)(w:World)(hF0:F0.At w)(x0_:GReader)(g0_:Nat)(v0_2:Value)(limit:Int)(hO:Hp w (cZ [.row g0_ 155 [.int .i64 x0_.fault.first, .bool x0_.made,v0_2, .int .i64 x0_.at_], .sl v0_2 5 1 x0_.in_.length (x0_.in_.flatMap (eK .u8))]) [.row g0_ 155 [.int .i64 x0_.fault.first, .bool x0_.made,v0_2, .int .i64 x0_.at_], .sl v0_2 5 1 x0_.in_.length (x0_.in_.flatMap (eK .u8))] w)(hA:∀g,cZ [.row g0_ 155 [.int .i64 x0_.fault.first, .bool x0_.made,v0_2, .int .i64 x0_.at_], .sl v0_2 5 1 x0_.in_.length (x0_.in_.flatMap (eK .u8))] g→¬F0.S g)(r:Dy (Int×Int) (Int×Int))(hr:zax x0_ limit=some r):Calls Tryz.prog 127 #[.pointer (some ⟨g0_,0,none⟩), .int .i64 limit] w fun e w'=>((i2 r=true→∃(y:Unit),(True)∧e= .returned (.int .i64 ((eD r).1))∧FxM F0 w (cZ [.row g0_ 155 [.int .i64 x0_.fault.first, .bool x0_.made,v0_2, .int .i64 x0_.at_], .sl v0_2 5 1 x0_.in_.length (x0_.in_.flatMap (eK .u8))]) F0 [.row g0_ 155 [.int .i64 x0_.fault.first, .bool x0_.made,v0_2, .int .i64 ((eD r).2)], .sl v0_2 5 1 x0_.in_.length (x0_.in_.flatMap (eK .u8))] w')∧(i2 r=false→∃(y:Unit),(True)∧e= .panicked (dyE 36 ((jq r).1))∧FxM F0 w (cZ [.row g0_ 155 [.int .i64 x0_.fault.first, .bool x0_.made,v0_2, .int .i64 x0_.at_], .sl v0_2 5 1 x0_.in_.length (x0_.in_.flatMap (eK .u8))]) F0 [.row g0_ 155 [.int .i64 x0_.fault.first, .bool x0_.made,v0_2, .int .i64 ((jq r).2)], .sl v0_2 5 1 x0_.in_.length (x0_.in_.flatMap (eK .u8))] w')):=by
 have hk:=hr;unfold zax at hk;haveI:=gN (hO.own (.sl v0_2 5 1 x0_.in_.length (x0_.in_.flatMap (eK .u8))) a7);have hmx0_2:=gW (hO.own (.sl v0_2 5 1 x0_.in_.length (x0_.in_.flatMap (eK .u8))) a7);obtain ⟨S0,F1,rfl,hS0,hp0⟩:=ga hF0 hO hA;refine zeJ (hs:=[.row g0_ 155 [.int .i64 x0_.fault.first, .bool x0_.made,v0_2, .int .i64 x0_.at_], .sl v0_2 5 1 x0_.in_.length (x0_.in_.flatMap (eK .u8)), .fr F1]) Tryz.func127 rfl rfl rfl hp0 ?_;refine ei ?_;have hq:=dM hk;clear hk;obtain ⟨r7,hr7,hk⟩:=hq; (try dsimp only at hk);refine iH (i2 r7) (fun h1=>?_) (fun h1=>?_)
 ·replace hk:=dy hk h1;refine fo ?_;refine cN (dl [0,1,2] [.row g0_ 155 [.int .i64 x0_.fault.first, .bool x0_.made,v0_2, .int .i64 x0_.at_], .sl v0_2 5 1 x0_.in_.length (x0_.in_.flatMap (eK .u8))] [] rfl rfl rfl rfl a6 (fun w hw hw2 hF=>(zaW _ w hF x0_ g0_ v0_2 9 hw2.takes.1 hw2.takes.2 r7 hr7).mono (fun e w' hp=>hp.1 h1))) ?_;rintro _ _ ⟨⟨⟩, -,rfl,rfl⟩;refine em ?_;refine cI (j7 (z:=(((eD r7).1).toNat:Int)) rfl rfl) ?_;refine jd ?_;refine iK ?_;have hq:=eP hk;clear hk;obtain ⟨k2,hk2,hk⟩:=hq; (try dsimp only at hk);refine dj (ι:=Unit) (fun z=>[(1, .int .i64 limit),(5, .int .i64 (wI (((eD r7).1).toNat:Int)))]) (fun z=>[.row g0_ 155 [.int .i64 x0_.fault.first, .bool x0_.made,v0_2, .int .i64 ((eD r7).2)], .sl v0_2 5 1 x0_.in_.length (x0_.in_.flatMap (eK .u8)), .fr F1]) (fun z=>k2 ()=some r) ?_ ?_
  ·refine T.cond rfl (fun h3=>?_) (fun h3=>?_)
   ·have p3:=of_decide_eq_true h3;replace hk:=dy hk h3;refine q1E ?_;obtain rfl:=Option.some.inj hk;exact q38
   ·have p3:=of_decide_eq_false h3;replace hk:=dz hk h3;refine T.skip ?_;exact c4 () hk (.c (.c .nil)) (List.Sublist.refl _)
  ·rintro _ hk;rw [←hk2] at hk; (try dsimp only at hk);refine iJ ?_;refine eM ?_;refine TL.ns ?_;have hq:=eP hk;clear hk;obtain ⟨k4,hk4,hk⟩:=hq; (try dsimp only at hk);refine dj (ι:=Unit) (fun z=>[(5, .int .i64 (wI (((eD r7).1).toNat:Int)))]) (fun z=>[.row g0_ 155 [.int .i64 x0_.fault.first, .bool x0_.made,v0_2, .int .i64 ((eD r7).2)], .sl v0_2 5 1 x0_.in_.length (x0_.in_.flatMap (eK .u8)), .fr F1]) (fun z=>k4 ()=some r) ?_ ?_
   ·refine T.cond rfl (fun h5=>?_) (fun h5=>?_)
    ·have p5:=of_decide_eq_true h5;replace hk:=dy hk h5;refine q1E ?_;obtain rfl:=Option.some.inj hk;exact q38
    ·have p5:=of_decide_eq_false h5;replace hk:=dz hk h5;refine T.skip ?_;exact c4 () hk (.c .nil) (List.Sublist.refl _)
   ·rintro _ hk;rw [←hk4] at hk; (try dsimp only at hk);refine iA ?_;refine fJ ?_;obtain rfl:=Option.some.inj hk;refine K.pq ?_;exact q4A
 ·replace hk:=dz hk h1;refine fo ?_;refine kZ [0,1,2] [.row g0_ 155 [.int .i64 x0_.fault.first, .bool x0_.made,v0_2, .int .i64 x0_.at_], .sl v0_2 5 1 x0_.in_.length (x0_.in_.flatMap (eK .u8))] [] rfl rfl rfl rfl rfl a6 (fun w hw hw2 hF=>(zaW _ w hF x0_ g0_ v0_2 9 hw2.takes.1 hw2.takes.2 r7 hr7).mono (fun e w' hp=>hp.2 h1)) ?_;rintro ⟨⟩ -;refine em ?_;refine ek ?_;obtain rfl:=Option.some.inj hk;exact q38
section
variable (P:Program)(n:Nat)(B:World)(M:Nat→Prop)(ds:List Deferred)
structure DK (Q:Exit→Act→World→Prop) (e:Exit) (fs:dH) (hs:HS):Prop where
 out:∀a w,Fr n fs a→Hp B M hs w→a.defers=ds→Q e a w
structure DT (c:Code) (Q:Exit→Act→World→Prop) (fs:dH) (hs:HS):Prop where
 out:∀a w,Fr n fs a→Hp B M hs w→a.defers=ds→c.wpIn Fence.wide 0 P Q a w
structure DL (ops:Array Oper) (Q:Exit→Act→World→Prop) (l:List Oper) (fs:dH) (hs:HS):Prop where
 out:∀a w,Fr n fs a→Hp B M hs w→a.defers=ds→wpListIn Fence.wide 0 P ops Q l a w
end
theorem put_defers (a:Act)(d:Option Nat)(v:Value):(a.put d v).defers=a.defers:=by cases d <;> rfl
section
variable {P:Program}{n:Nat}{B:World}{M:Nat→Prop}{ds:List Deferred}{Q:Exit→Act→World→Prop}{fs fs':dH}{hs hs':HS}{ops:Array Oper}{l l' rest:List Oper}{c c1 c2:Code}{id:Nat}{o:Oper}{v:Value}
theorem DT.seq (h:DT P n B M ds c1 (Exit.then (c2.wpIn Fence.wide 0 P Q) Q) fs hs):DT P n B M ds (.seq c1 c2) Q fs hs:=⟨fun a w ha hw hm=>wpIn_seq (h.out a w ha hw hm)⟩
theorem DT.skip (h:DK n B M ds Q .normal fs hs):DT P n B M ds .skip Q fs hs:=⟨fun a w ha hw hm=>wpIn_skip (h.out a w ha hw hm)⟩
theorem DT.ret (h:DK n B M ds Q .ret fs hs):DT P n B M ds .ret Q fs hs:=⟨fun a w ha hw hm=>wpIn_ret (h.out a w ha hw hm)⟩
theorem DT.cond {o:Operand}{b:Bool}(hb:ev fs o=some (.bool b))(h1:b=true→DT P n B M ds c1 Q fs hs)(h2:b=false→DT P n B M ds c2 Q fs hs):DT P n B M ds (.cond o c1 c2) Q fs hs:=
 ⟨fun a w ha hw hm=>wpIn_cond_split (ha.ev hb) (fun h=>(h1 h).out a w ha hw hm) (fun h=>(h2 h).out a w ha hw hm)⟩
theorem DT.region {l:List Oper}(h:DL P n B M ds l.toArray Q l fs hs):DT P n B M ds (.region id l.toArray false) Q fs hs:=⟨fun a w ha hw hm=>wpIn_region_lit (h.out a w ha hw hm)⟩
theorem DL.nil (h:DK n B M ds Q .normal fs hs):DL P n B M ds ops Q [] fs hs:=⟨fun a w ha hw hm=>wpListIn_nil (h.out a w ha hw hm)⟩
theorem DK.seq (h:DT P n B M ds c Q fs hs):DK n B M ds (Exit.then (c.wpIn Fence.wide 0 P Q) Q) .normal fs hs:=⟨fun a w ha hw hm=>h.out a w ha hw hm⟩
theorem fe {N:Act→World→Prop}(h:DK n B M ds Q .ret fs hs):DK n B M ds (Exit.then N Q) .ret fs hs:=⟨fun a w ha hw hm=>h.out a w ha hw hm⟩
theorem DK.then_panic {N:Act→World→Prop}{ch:List PanicEntry}(h:DK n B M ds Q (.panic ch) fs hs):DK n B M ds (Exit.then N Q) (.panic ch) fs hs:=⟨fun a w ha hw hm=>h.out a w ha hw hm⟩
theorem jl {gs:dH}(h1:Sub fs gs)(h:DL P n B M ds ops Q l gs hs):DL P n B M ds ops Q l fs hs:=⟨fun a w ha hw hm=>h.out a w (ha.sub h1) hw hm⟩
theorem DL.yv {d:Nat}(hw:Wt n ops fs o true)(hd:o.dst=some d)(hb:Nat.blt d n=true)(h:Yv P n B M fs hs o v)(k:DL P n B M ds ops Q rest ((d,v) :: fs) hs):DL P n B M ds ops Q (o :: rest) fs hs:=
 ⟨fun a w ha hp hm=>wpListIn_step fun K hK=>by
  rw [if_pos (hw a ha)];refine zgg (zgI (h a w ha hp)) ?_;rw [h a w ha hp,Oper.uponIn_value,hd]
  exact hK _ _ (k.out _ w (ha.put hb v) hp (by rw [put_defers];exact hm))⟩
theorem DL.off {d:Nat}(hw:Wt n ops fs o false)(hd:o.dst=some d)(hb:Nat.blt d n=true)(k:DL P n B M ds ops Q rest ((d,undef) :: fs) hs):DL P n B M ds ops Q (o :: rest) fs hs:=
 ⟨fun a w ha hp hm=>wpListIn_step fun K hK=>by
  rw [if_neg (by rw [hw a ha];simp),hd]
  exact ⟨fun f _=>trivial,hK _ _ (k.out _ w (ha.put hb undef) hp (by rw [put_defers];exact hm))⟩⟩
theorem DL.run:∀(k:Nat) {fs fs':dH} {l l':List Oper},jO n ops k fs l=some (fs',l')→DL P n B M ds ops Q l' fs' hs→DL P n B M ds ops Q l fs hs
 |0,fs,fs',l,l',h,t=>by simp only [jO,Option.some.injEq,Prod.mk.injEq] at h;rw [h.1,h.2];exact t
 |k+1,fs,fs',[],l',h,t=>by simp [jO] at h
 |k+1,fs,fs',o :: r,l',h,t=>by
  simp only [jO] at h
  split at h
  ·rename_i f1 h1;obtain ⟨d,v,hd,hb,rfl,h2⟩:=zfJ h1;have ih:=DL.run k h t;rcases h2 with ⟨hg,hv⟩|⟨hg,rfl⟩
   ·exact DL.yv (kG hg) hd hb (lQ hv) ih
   ·exact DL.off (kG hg) hd hb ih
  ·cases h
theorem DL.gs {d j:Nat}{want b:Bool}(hg:o.guard=some (j,want))(hd:(ops[j]?).bind (·.dst)=some d)(hl:d6 fs d=some (.bool b))(h1:b=true→DL P n B M ds ops Q (o :: rest) ((d, .bool true) :: fs) hs)(h2:b=false→DL P n B M ds ops Q (o :: rest) ((d, .bool false) :: fs) hs):DL P n B M ds ops Q (o :: rest) fs hs:=by
 cases b with
 |true=>exact jl (Sub.cons hl Sub.refl) (h1 rfl)
 |false=>exact jl (Sub.cons hl Sub.refl) (h2 rfl)
theorem io {d:Nat}(h:Yv P n B M fs hs o v)(k:DL P n B M ds ops Q rest ((d,v) :: fs) hs)(hw:kH ops fs o=some true:=by rfl)(hd:o.dst=some d:=by rfl)(hb:Nat.blt d n=true:=by rfl):DL P n B M ds ops Q (o :: rest) fs hs:=DL.yv (kG hw) hd hb h k
theorem DL.e {d:Nat}{Φ:Value→HS→Prop}(h:Ew P n B M fs hs o Φ)(k:∀v hs',Φ v hs'→DL P n B M ds ops Q rest ((d,v) :: fs) hs')(hw:kH ops fs o=some true:=by rfl)(hd:o.dst=some d:=by rfl)(hb:Nat.blt d n=true:=by rfl):DL P n B M ds ops Q (o :: rest) fs hs:=
 ⟨fun a w ha hp hm=>wpListIn_step fun K hK=>by
  rw [if_pos (kG hw a ha)]
  exact h Fence.wide inferInstance Q K a w ha hp fun v w' hs' hk hp' hΦ=>hK _ _ (by rw [hd];exact (k v hs' hΦ).out _ w' (ha.put hb v) hp' (by rw [put_defers];exact hm))⟩
theorem DL.e0 {Φ:Value→HS→Prop}(h:Ew P n B M fs hs o Φ)(k:∀v hs',Φ v hs'→DL P n B M ds ops Q rest fs hs')(hw:kH ops fs o=some true:=by rfl)(hd:o.dst=none:=by rfl):DL P n B M ds ops Q (o :: rest) fs hs:=
 ⟨fun a w ha hp hm=>wpListIn_step fun K hK=>by
  rw [if_pos (kG hw a ha)]
  exact h Fence.wide inferInstance Q K a w ha hp fun v w' hs' hk hp' hΦ=>hK _ _ (by rw [hd];exact (k v hs' hΦ).out _ w' (ha.put_none v) hp' (by rw [put_defers];exact hm))⟩
theorem lL {d : Nat} {c : Operand} {xs : Array Operand} {ts : Array TypeId} {f : FuncId} {fst caps : Array Value} {vs : List Value} {φ1 : Value → HS → Prop} {φ2 : List PanicEntry → HS → Prop} [hE : Enters P f] (ho : o.op = .call { callee := .value c, args := xs, argTypes := ts }) (hc : ev fs c = some (.func (.func f) fst caps)) (hv : evs fs xs.toList = some vs)
    (C : ∀ w, Hp B M hs w → Calls P f (fst.toList ++ vs ++ caps.toList).toArray w (fun e w' => (∃ v hs', e = .returned v ∧ Hp B M hs' w' ∧ φ1 v hs') ∨ ∃ ch hs', e = .panicked ch ∧ Hp B M hs' w' ∧ φ2 ch hs'))
    (k1 : ∀ v hs', φ1 v hs' → DL P n B M ds ops Q rest ((d, v) :: fs) hs') (k2 : ∀ ch hs', φ2 ch hs' → DK n B M ds Q (.panic ch) fs hs') (hw : kH ops fs o = some true := by rfl) (hd : o.dst = some d := by rfl) (hb : Nat.blt d n = true := by rfl) : DL P n B M ds ops Q (o :: rest) fs hs :=
  ⟨fun a w ha hp hm => wpListIn_step fun K hK => by
    rw [if_pos (kG hw a ha)]; refine ziY ho hc hv ha (C w hp) (fun v w' h => ?_) (fun ch w' h => ?_) (fun w' h => ?_)
    · rcases h with ⟨v', hs', e, h1, h2⟩ | ⟨ch, hs', e, h1, h2⟩
      · cases e
        exact hK _ _ (by rw [hd]; exact (k1 v hs' h2).out _ w' (ha.put hb v) h1 (by rw [put_defers]; exact hm))
      · cases e
    · rcases h with ⟨v', hs', e, h1, h2⟩ | ⟨ch, hs', e, h1, h2⟩
      · cases e
      · cases e
        exact (k2 _ hs' h2).out a w' ha h1 hm
    · rcases h with ⟨v', hs', e, h1, h2⟩ | ⟨ch, hs', e, h1, h2⟩ <;> cases e⟩
theorem DL.defer {c:Operand}{fn:Fn}{cap:Array Value}{ts:Array TypeId}(ho:o.op= .defer { callee:= .value c,args:= #[],argTypes:=ts })(hc:ev fs c=some (.func fn #[] cap))(k:DL P n B M ({ target:= .fn fn cap,args:= #[] } :: ds) ops Q rest fs hs)(hw:kH ops fs o=some true:=by rfl)(hd:o.dst=none:=by rfl):DL P n B M ds ops Q (o :: rest) fs hs:=
 ⟨fun a w ha hp hm=>wpListIn_step fun K hK=>by
  rw [if_pos (kG hw a ha)];refine ⟨fun f _=>trivial,?_⟩
  have hr:(execOp a.eval o).run P w= .ok (.defer { target:= .fn fn cap,args:= #[] }) w:=by
   unfold execOp;simp [ho,resolve,ha.ev hc,Deferred.ofValue]
  rw [show Fence.wide.round=none from rfl,Oper.semAt_none,hr,Oper.uponIn_defer];refine hK _ _ (k.out _ w ?_ hp ?_)
  ·rw [hd];exact ⟨ha.size,ha.get⟩
  ·rw [put_defers];show _ :: a.defers=_;rw [hm]⟩
theorem ziJ {f : FuncId} {fn : Func} {c : Code} {args : List Value} {w : World} {R : Ending → World → Prop} (hf : P.funcs[f]? = some fn) (hb : fn.body = some c) (hn : fn.ntmps = n) (hlen : Nat.ble args.length n = true)
    (hh : Hp w M hs w) (h : DT P n w M [] c (bodyPostM Fence.wide 0 P fn R) (jf 0 args) hs) : Calls P f args.toArray w R := by
  (have hle : args.length ≤ n := by simpa using hlen); refine callsIn_wide.1 (callsIn_of_wp_marks (F := Fence.wide) (n := 0) hf hb trivial (h.out { tmps := args.toArray ++ Array.replicate (fn.ntmps - args.toArray.size) undef, defers := [] } w ⟨?_, ?_⟩ hh rfl))
  · simp [hn]; omega
  · intro t v e; obtain ⟨_, h2⟩ := zdS _ _ _ _ e; rw [Nat.sub_zero] at h2; have ht : t < args.length := (List.getElem?_eq_some_iff.1 h2).1; rw [Array.getElem?_append_left (by simpa using ht)]; simpa using h2
theorem DK.end0 {fn:Func}{R:Ending→World→Prop}(hr:fn.results= #[])(h:∀w,Hp B M hs w→R (.returned (.tuple #[])) w):DK n B M [] (bodyPostM Fence.wide 0 P fn R) .normal fs hs:=
 ⟨fun a w ha hw hm=>by
  show LeavesInM Fence.wide 0 P fn a.tmps R a.defers .returning w
  rw [hm];exact ⟨_,results_none hr _ _ _,h w hw⟩⟩
theorem iO {fn:Func}{R:Ending→World→Prop}(hr:fn.results= #[])(h:∀w,Hp B M hs w→R (.returned (.tuple #[])) w):DK n B M [] (bodyPostM Fence.wide 0 P fn R) .ret fs hs:=
 ⟨fun a w ha hw hm=>(DK.end0 (n:=n) (fs:=fs) hr h).out a w ha hw hm⟩
theorem zlT {f : FuncId} {cap : Array Value} {fn : Func} {R : Ending → World → Prop} {u : FrameMode} {tmps : Array Value} {w : World} [hE : Enters P f] (hu : u ≠ .run) (hr : fn.results = #[])
    (C : CallsDIn Fence.wide 0 P f cap u w (fun e u' w' => e = .returned (.tuple #[]) ∧ settle u' = .returning ∧ R (.returned (.tuple #[])) w')) : LeavesInM Fence.wide 0 P fn tmps R [{ target := .fn (.func f) cap, args := #[] }] u w := by
  refine ⟨hu, .inr ⟨(fun h => by cases h), .func f, cap, f, cap, rfl, ?_, fun _ _ => trivial, ?_⟩⟩
  · have := hE.run cap w;simp only [invoke]; rw [show (#[] ++ cap : Array Value) = cap from by simp]; exact this
  · refine C.mono ?_; rintro e u' w' ⟨rfl, hs, hR⟩
    show LeavesIn Fence.wide 0 P fn tmps R [] (settle u') w'
    rw [hs]; exact ⟨_, results_none hr _ _ _, hR⟩
theorem DK.end1 {f : FuncId} {cap : Array Value} {fn : Func} {R : Ending → World → Prop} [hE : Enters P f] (hr : fn.results = #[])
    (C : ∀ w, Hp B M hs w → CallsDIn Fence.wide 0 P f cap .returning w (fun e u' w' => e = .returned (.tuple #[]) ∧ settle u' = .returning ∧ R (.returned (.tuple #[])) w')) : DK n B M [{ target := .fn (.func f) cap, args := #[] }] (bodyPostM Fence.wide 0 P fn R) .normal fs hs :=
  ⟨fun a w ha hw hm => by
    show LeavesInM Fence.wide 0 P fn a.tmps R a.defers .returning w
    rw [hm]; exact zlT a7 hr (C w hw)⟩
theorem DK.die1 {f : FuncId} {cap : Array Value} {fn : Func} {R : Ending → World → Prop} {ch : List PanicEntry} [hE : Enters P f] (hr : fn.results = #[])
    (C : ∀ w, Hp B M hs w → CallsDIn Fence.wide 0 P f cap (.panicking ch) w (fun e u' w' => e = .returned (.tuple #[]) ∧ settle u' = .returning ∧ R (.returned (.tuple #[])) w')) : DK n B M [{ target := .fn (.func f) cap, args := #[] }] (bodyPostM Fence.wide 0 P fn R) (.panic ch) fs hs :=
  ⟨fun a w ha hw hm => by
    show LeavesInM Fence.wide 0 P fn a.tmps R a.defers (.panicking ch) w
    rw [hm]; exact zlT a7 hr (C w hw)⟩
theorem zgz {f : FuncId} {fn : Func} {rest : Code} {args : List Value} {u u' : FrameMode} {w : World} {R : Ending → FrameMode → World → Prop} {id d1 d2 : Nat} {o1 o2 : Oper} {v : Value}
    (hf : P.funcs[f]? = some fn) (hb : fn.body = some (.seq (.region id #[o1, o2] false) rest)) (hn : fn.ntmps = n) (hlen : Nat.ble args.length n = true) (hres : fn.results = #[])
    (h1 : ∃ ts, o1.op = .call { callee := .builtin .recover, args := #[], argTypes := ts }) (g1 : o1.guard = none) (e1 : o1.dst = some d1) (h2 : o2.op = .assign (.tmp d1)) (g2 : o2.guard = none) (e2 : o2.dst = some d2) (l1 : Nat.blt d1 n = true) (l2 : Nat.blt d2 n = true)
    (hu : (u = .returning ∧ u' = .returning ∧ v = .nilIface) ∨ (u = .panicking [{ v := v, recovered := false }] ∧ u' = .panicking [{ v := v, recovered := true }]))
    (hh : Hp B M hs w) (h : DT P n B M [] rest (fun e a w' => (e = .normal ∨ e = .ret) ∧ a.defers = [] ∧ R (.returned (.tuple #[])) u' w') ((d2, v) :: (d1, v) :: jf 0 args) hs) : CallsDIn Fence.wide 0 P f args.toArray u w R := by
  (have hle : args.length ≤ n := by simpa using hlen); refine callsDIn_of_wpSIn hf hb trivial fun c₀ cs hc => ?_;refine wpSIn_seq (wpSIn_region ?_); obtain ⟨ts, h1⟩ := h1
  have ha : Fr n (jf 0 args) { tmps := args.toArray ++ Array.replicate (fn.ntmps - args.toArray.size) undef, defers := [] } := by
    refine ⟨?_, ?_⟩
    · simp [hn]; omega
    · intro t v e; obtain ⟨_, h2⟩ := zdS _ _ _ _ e; rw [Nat.sub_zero] at h2; have ht : t < args.length := (List.getElem?_eq_some_iff.1 h2).1; rw [Array.getElem?_append_left (by simpa using ht)]; simpa using h2
  generalize hA : ({ tmps := args.toArray ++ Array.replicate (fn.ntmps - args.toArray.size) undef, defers := [] } : Act) = a at ha; (have had : a.defers = [] := by rw [← hA]); (have w1 : ∀ a : Act, Region.wanted o1 (yielded #[o1, o2] a.tmps) = true := fun a => by simp [Region.wanted, g1]); (have w2 : ∀ a : Act, Region.wanted o2 (yielded #[o1, o2] a.tmps) = true := fun a => by simp [Region.wanted, g2])
  have r1 : ∀ (ρ : Operand → Value) (w : World), (execOp ρ o1).run P w = .ok .recover w := fun ρ w => by
    unfold execOp; simp [h1, resolve, invoke, builtin]
  have r2 : ∀ (ρ : Operand → Value) (w : World), (execOp ρ o2).run P w = .ok (.value (ρ (.tmp d1))) w := fun ρ w => by
    unfold execOp; simp [h2]
  have fin : ∀ (c1 : Frame), c1 = { c₀ with mode := u' } → wpOpsSIn Fence.wide 0 P #[o1, o2] (Exit.thenS (rest.wpSIn Fence.wide 0 P (bodyPostS P fn c₀ cs R)) (bodyPostS P fn c₀ cs R)) [1] (a.put o1.dst v) (c1 :: cs) w := fun c1 hc1 => by
    subst hc1; have ha1 : Fr n ((d1, v) :: jf 0 args) (a.put (some d1) v) := ha.put l1 v;simp only [wpOpsSIn]; simp only [show (#[o1, o2] : Array Oper)[1]? = some o2 from rfl]; refine ⟨fun _ _ => trivial, ?_⟩; rw [if_pos (w2 _), r2];simp only []
    show rest.wpSIn Fence.wide 0 P _ _ _ _
    refine wpSIn_of_wpIn rfl ?_; rw [e1, e2]; have hv : (a.put (some d1) v).eval (.tmp d1) = v := ha1.ev (x := .tmp d1) (by show d6 _ _ = _; simp [d6]); rw [hv];refine wpIn_mono (h.out _ w (ha1.put l2 v) hh (by rw [put_defers, put_defers]; exact had)) ?_; rintro e a' w' ⟨he, hd, hR⟩; rcases he with rfl | rfl
    · exact ⟨hd, u', rfl, _, results_none hres _ _ _, hR⟩
    · exact ⟨hd, u', rfl, _, results_none hres _ _ _, hR⟩
  show wpOpsSIn Fence.wide 0 P #[o1, o2] _ [0, 1] a (c₀ :: cs) w
  unfold wpOpsSIn; simp only [show (#[o1, o2] : Array Oper)[0]? = some o1 from rfl]; refine ⟨fun _ _ => trivial, ?_⟩; rw [if_pos (w1 _), r1];simp only []; rcases hu with ⟨rfl, rfl, rfl⟩ | ⟨rfl, rfl⟩
  · (have : recoverD (c₀ :: cs) = none := by simp [recoverD, hc]); rw [this]; exact fin c₀ (by rw [← hc])
  · (have : recoverD (c₀ :: cs) = some (v, { c₀ with mode := .panicking [{ v := v, recovered := true }] } :: cs) := by simp [recoverD, hc]); rw [this]; exact fin _ rfl
end
abbrev eC (g:Nat)(x:GReader)(v:Value):Ent:= .row g 155 [.int .i64 x.fault.first, .bool x.made,v, .int .i64 x.at_]
abbrev eo (v:Value)(x:GReader):Ent:= .sl v 5 1 x.in_.length (x.in_.flatMap (eK .u8))
theorem ziQ (g:Nat)(c:Bool)(w:World)(h:w.cell? ⟨g,1,none⟩=some (.bool c)):Calls Tryz.prog 98 #[.pointer (some ⟨g,0,none⟩)] w fun e w'=>e= .returned (.bool c)∧Below w.heap.size w w':=by
 refine dq (M:=fun _=>False) (hs:=[]) Tryz.func98 rfl rfl rfl (Hp.refl w _) ?_;refine ei ?_;refine dj (ι:=Unit) (fun z=>[(2, .bool c)]) (fun z=>[]) (fun z=>True) ?_ ?_
 ·refine fo ?_;refine cI (kR (e:=155) a8 rfl rfl rfl) ?_;refine eM ?_;refine eZ ?_;refine cI (dI rfl rfl h (fun h=>h)) ?_;refine d5 ?_;refine TL.nil ?_;exact q4m
 ·rintro _ _;refine T.ret ?_;exact fw
theorem zmp (g T':Nat)(k f:Int)(rc:List Value)(w:World)(h:(Ent.row g T' (.int .i64 f :: rc)).ok w):Calls Tryz.prog 100 #[.pointer (some ⟨g,0,none⟩), .int .i64 k] w fun e w'=>∃y:Unit,True∧e= .returned (.tuple #[])∧Hp w (Ent.row g T' (.int .i64 f :: rc)).fp [.row g T' (.int .i64 (if f=0 then k else f) :: rc)] w':=by
 refine dq (hs:=[.row g T' (.int .i64 f :: rc)]) Tryz.func100 rfl rfl rfl (Hp.start h) ?_;refine iA ?_;refine eu ?_;refine dP ?_;refine T.cond rfl (fun h1=>?_) (fun h1=>?_)
 ·have p1:=of_decide_eq_true h1;refine ed ?_;refine q3E ?_;exact eX rfl (fun w' hw=>⟨(),trivial,rfl,by rw [if_pos p1];exact hw⟩)
 ·have p1:=of_decide_eq_false h1;refine T.skip ?_;exact eX rfl (fun w' hw=>⟨(),trivial,rfl,by rw [if_neg p1];exact hw⟩)
theorem Yv.cd {P:Program}{n:Nat}{B:World}{M:Nat→Prop}{fs:dH}{hs:HS}{o:Oper}{v:Value}{s t:TypeId}{x:Operand}(ho:o.op= .typeAssert x s t true)(hx:ev fs x=some (.iface t v))(ht:ziV P t=true):Yv P n B M fs hs o (.tuple #[v, .bool true]):=fun a w ha _=>by
 have h1:(Instr.typeAssert (.iface t v) s t true).run P w= .ok (.tuple #[v, .bool true]) w:=by
  unfold ziV at ht
  cases hU:P.underlying t with
  |none=>rw [hU] at ht;cases ht
  |some d=>
   rw [hU] at ht
   cases d <;> first|(cases ht;done)|simp [Instr.typeAssert,underlying,hU]
 unfold execOp;simp only [ho,ha.ev hx];rw [Sem.run_bind,h1];rfl
section
variable {B:World}{M:Nat→Prop}{rest:HS}
theorem zl4 {gs gb:Nat}{w:World}{hs:HS}(hw:Hp B M hs w):CallsDIn Fence.wide 0 Tryz.prog 128 #[.pointer (some ⟨gs,0,none⟩), .pointer (some ⟨gb,0,none⟩)] .returning w (fun e u' w'=>e= .returned (.tuple #[])∧settle u'= .returning∧Hp B M hs w'):=by
 refine zgz (hs:=hs) (args:=[.pointer (some ⟨gs,0,none⟩), .pointer (some ⟨gb,0,none⟩)]) (u':= .returning) (v:= .nilIface) Tryz.func128 rfl rfl rfl rfl ⟨_,rfl⟩ rfl rfl rfl rfl rfl rfl rfl (.inl ⟨rfl,rfl,rfl⟩) hw ?_;refine DT.seq (DT.seq (DT.region ?_));refine DL.run 1 rfl ?_;refine io (ju (v:= .bool true) rfl rfl rfl (fun w=>by kernel_rfl)) ?_;refine DL.nil (DK.seq (DT.cond rfl (fun _=>DT.ret (fe ⟨fun a w ha hw hm=>⟨.inr rfl,hm,rfl,rfl,hw⟩⟩)) (fun h=>by cases h)))
theorem zk5 {gs gb g : Nat} {w : World} {a0 a1 f k : Int} {m v : Value} (hw : Hp B M (.row gs 3 [.int .i64 a0] :: .row gb 111 [.pointer (some ⟨g, 0, none⟩)] :: .row g 155 [.int .i64 f, m, v, .int .i64 a1] :: rest) w) :
    CallsDIn Fence.wide 0 Tryz.prog 128 #[.pointer (some ⟨gs, 0, none⟩), .pointer (some ⟨gb, 0, none⟩)] (.panicking (dyE 36 k)) w (fun e u' w' => e = .returned (.tuple #[]) ∧ settle u' = .returning ∧ Hp B M (.row gs 3 [.int .i64 a0] :: .row gb 111 [.pointer (some ⟨g, 0, none⟩)] :: .row g 155 [.int .i64 (if f = 0 then k else f), m, v, .int .i64 a0] :: rest) w') := by
  refine zgz (hs := _) (args := [.pointer (some ⟨gs, 0, none⟩), .pointer (some ⟨gb, 0, none⟩)]) (u' := .panicking [{ v := .iface 36 (.int .i64 k), recovered := true }]) (v := .iface 36 (.int .i64 k)) Tryz.func128 rfl rfl rfl rfl ⟨_, rfl⟩ rfl rfl rfl rfl rfl rfl rfl (.inr ⟨rfl, rfl⟩) hw ?_;refine DT.seq (DT.seq (DT.region ?_));refine DL.run 1 rfl ?_;refine io (ju (v := .bool false) rfl rfl rfl (fun w => by kernel_rfl)) ?_; refine DL.nil (DK.seq (DT.cond rfl (fun h => by cases h) (fun _ => DT.skip (DK.seq ?_))));refine DT.seq (DT.region ?_);refine io (cS 1) ?_;refine q18 ?_;refine DL.e0 (dC 2 rfl rfl rfl rfl a7) ?_; rintro _ _ ⟨rfl, rfl⟩;refine DL.nil (DK.seq (DT.seq (DT.region ?_)));refine DL.run 1 rfl ?_;refine io (Yv.cd rfl rfl a8) ?_;refine DL.run 5 rfl ?_;refine DL.nil (DK.seq (DT.seq (DT.region ?_)));refine DL.run 1 rfl ?_; refine DL.nil (DK.seq (DT.cond rfl (fun _ => DT.region ?_) (fun h => by cases h)));refine io (cS 1) ?_;refine DL.run 1 rfl ?_;refine io (Yv.fieldAddr) ?_;refine DL.run 1 rfl ?_;refine DL.e (j0 2 rfl rfl rfl rfl (fun w hw => zmp g 155 k f [m, v, .int .i64 a0] w (hw.get (i := 2) rfl))) ?_; rintro _ _ ⟨⟨⟩, -, rfl, rfl⟩; refine DL.nil ⟨fun a w ha hw hm => ⟨.inl rfl, hm, rfl, rfl, hw⟩⟩
end
theorem perm_bs {a b f:Ent}{bs:HS}:(a :: b :: (bs++[f])).Perm (bs++f :: [a,b]):=by
 have:=List.perm_append_comm (l₁:=[a,b]) (l₂:=bs++[f])
 rwa [List.append_assoc] at this
theorem ziF {F0 : Frz} {w : World} (hF0 : F0.At w) (x : GReader) (g : Nat) (v : Value) (cb cb' res : HS) (f : FuncId) (caps : Array Value) [hE : Enters Tryz.prog f] (ok : Bool) (na code : Int)
    (hO : Hp w (cZ (eC g x v :: eo v x :: cb)) (eC g x v :: eo v x :: cb) w) (hA : ∀ g', cZ (eC g x v :: eo v x :: cb) g' → ¬ F0.S g')
    (hC : ∀ w1, F0.At w1 → Hp w1 (cZ (eC g x v :: eo v x :: cb)) (eC g x v :: eo v x :: cb) w1 → (∀ g', cZ (eC g x v :: eo v x :: cb) g' → ¬ F0.S g') → Calls Tryz.prog f caps w1 (fun e w' => (ok = true → e = .returned (.tuple #[]) ∧ FxM F0 w1 (cZ (eC g x v :: eo v x :: cb)) F0 (eC g { x with at_ := na } v :: eo v x :: cb') w') ∧ (ok = false → ∃ a', e = .panicked (dyE 36 code) ∧ FxM F0 w1 (cZ (eC g x v :: eo v x :: cb)) F0 (eC g { x with at_ := a' } v :: eo v x :: cb) w')))
    (hR : (bif x.made && decide (x.fault.first = 0) then (bif ok then eC g { x with at_ := na } v :: eo v x :: cb' else eC g { x with fault := ⟨code⟩ } v :: eo v x :: cb) else eC g x v :: eo v x :: cb) = res) :
    Calls Tryz.prog 95 #[.pointer (some ⟨g, 0, none⟩), .func (.func f) #[] caps] w (fun e w' => e = .returned (.tuple #[]) ∧ FxM F0 w (cZ (eC g x v :: eo v x :: cb)) F0 res w') := by
  subst hR; obtain ⟨S0, F1, rfl, hS0, hp0⟩ := ga hF0 hO hA;refine q2y ?_; rintro _ _ ⟨gb, rfl, rfl⟩;refine q2L ?_; rintro _ _ ⟨rfl, rfl⟩;refine DL.run 2 rfl ?_; refine DL.gs rfl rfl rfl (fun h1 => ?_) (fun h1 => ?_)
  · refine DL.run 7 rfl ?_; refine DL.nil (DK.seq (DT.cond rfl (fun _ => DT.ret (fe (iO rfl (fun w' hw => ⟨rfl, ?_⟩)))) (fun h => by cases h))); (have hm : x.made = false := by simpa using h1); rw [show (x.made && decide (x.fault.first = 0)) = false by rw [hm]; rfl, cond_false]; exact cX (hw.sub (List.sublist_cons_self _ _)) hS0 (Frz.Le.refl _)
  · (have hm : x.made = true := by simpa using h1);refine q18 ?_;refine io (Yv.fieldAddr) ?_;refine io (cS 1) ?_;refine DL.run 2 rfl ?_; refine DL.nil (DK.seq (DT.cond rfl (fun h2 => DT.ret (fe (iO rfl (fun w' hw => ⟨rfl, ?_⟩)))) (fun h2 => DT.skip (DK.seq ?_))))
    · have h3 : ¬ x.fault.first = 0 := of_decide_eq_true h2; rw [show (x.made && decide (x.fault.first = 0)) = false by rw [hm, decide_eq_false h3]; rfl, cond_false]; exact cX (hw.sub (List.sublist_cons_self _ _)) hS0 (Frz.Le.refl _)
    · (have h3 : x.fault.first = 0 := by have := of_decide_eq_false h2; simpa using this); rw [show (x.made && decide (x.fault.first = 0)) = true by rw [hm, decide_eq_true h3]; rfl, cond_true];refine DT.seq (DT.region ?_);refine q18 ?_;refine io (cS 1) ?_;refine DL.e (Ew.alloc) ?_; rintro _ _ ⟨gs, rfl, rfl⟩;refine DL.e0 (dC 0 rfl rfl rfl rfl a7) ?_; rintro _ _ ⟨rfl, rfl⟩;refine DL.nil (DK.seq (DT.seq (DT.region ?_)));refine DL.run 1 rfl ?_;refine DL.defer rfl rfl ?_;refine DL.nil (DK.seq (DT.region ?_));refine DL.run 1 rfl ?_
      refine lL (vs := []) (φ1 := fun u hs' => ok = true ∧ hs' = .row gs 3 [.int .i64 x.at_] :: .row gb 111 [.pointer (some ⟨g, 0, none⟩)] :: ((eC g { x with at_ := na } v :: eo v x :: cb') ++ [.fr F1]))
        (φ2 := fun ch hs' => ok = false ∧ ∃ a', ch = dyE 36 code ∧ hs' = .row gs 3 [.int .i64 x.at_] :: .row gb 111 [.pointer (some ⟨g, 0, none⟩)] :: ((eC g { x with at_ := a' } v :: eo v x :: cb) ++ [.fr F1])) rfl rfl rfl (fun w1 hw1 => ?_) ?_ ?_
      · have hw2 := hw1.perm (perm_bs (bs := eC g x v :: eo v x :: cb)); have hF : F1.toFrz.At w1 := hw2.fr (i := (eC g x v :: eo v x :: cb).length) a7; have hc := hC w1 hF hw2.takes.1 hw2.takes.2
        have back : ∀ {es : HS} {w' : World}, FxM F1.toFrz w1 (cZ (eC g x v :: eo v x :: cb)) F1.toFrz es w' → Hp w (cZ (eC g x v :: eo v x :: cb)) (.row gs 3 [.int .i64 x.at_] :: .row gb 111 [.pointer (some ⟨g, 0, none⟩)] :: (es ++ [.fr F1])) w' := fun {es w'} hx =>
          (gE (es := eC g x v :: eo v x :: cb) (es' := es) hw2 hx.hp.only (fun g _ ⟨e, he, hg⟩ => ⟨e, he, hg⟩) hx.hp.own (fun e he g hg => hx.hp.new e he g hg) hx.hp.apart).perm perm_bs.symm
        rw [show (#[] : Array Value).toList ++ [] ++ caps.toList = caps.toList from by simp, Array.toArray_toList];refine hc.mono ?_; rintro e w' ⟨c1, c2⟩
        cases hok : ok with
        | true => obtain ⟨rfl, hx⟩ := c1 hok; exact .inl ⟨_, _, rfl, back hx, rfl, rfl⟩
        | false => obtain ⟨a', rfl, hx⟩ := c2 hok; exact .inr ⟨_, _, rfl, back hx, rfl, a', rfl, rfl⟩
      · rintro u hs' ⟨rfl, rfl⟩; rw [cond_true]; refine DL.nil (DK.end1 (cap := #[.pointer (some ⟨gs, 0, none⟩), .pointer (some ⟨gb, 0, none⟩)]) rfl (fun w' hw => (zl4 hw).mono ?_)); rintro e u' w'' ⟨rfl, hs, hw'⟩; exact ⟨rfl, hs, rfl, cX ((hw'.sub (List.sublist_cons_self _ _)).sub (List.sublist_cons_self _ _)) hS0 (Frz.Le.refl _)⟩
      · rintro ch hs' ⟨rfl, a', rfl, rfl⟩; rw [cond_false]; refine DK.die1 (cap := #[.pointer (some ⟨gs, 0, none⟩), .pointer (some ⟨gb, 0, none⟩)]) rfl (fun w' hw => (zk5 hw).mono ?_); rintro e u' w'' ⟨rfl, hs, hw'⟩; rw [if_pos h3] at hw'; exact ⟨rfl, hs, rfl, cX ((hw'.sub (List.sublist_cons_self _ _)).sub (List.sublist_cons_self _ _)) hS0 (Frz.Le.refl _)⟩
theorem zlJ {F0 : Frz} {w : World} (hF0 : F0.At w) (x : GReader) (g : Nat) (v : Value) (cb : HS) (f : FuncId) (caps : Array Value) (hO : Hp w (cZ (eC g x v :: eo v x :: cb)) (eC g x v :: eo v x :: cb) w) (hA : ∀ g', cZ (eC g x v :: eo v x :: cb) g' → ¬ F0.S g') (hm0 : (x.made && decide (x.fault.first = 0)) = false) :
    Calls Tryz.prog 95 #[.pointer (some ⟨g, 0, none⟩), .func (.func f) #[] caps] w (fun e w' => e = .returned (.tuple #[]) ∧ FxM F0 w (cZ (eC g x v :: eo v x :: cb)) F0 (eC g x v :: eo v x :: cb) w') := by
  obtain ⟨S0, F1, rfl, hS0, hp0⟩ := ga hF0 hO hA;refine q2y ?_; rintro _ _ ⟨gb, rfl, rfl⟩;refine q2L ?_; rintro _ _ ⟨rfl, rfl⟩;refine DL.run 2 rfl ?_; refine DL.gs rfl rfl rfl (fun h1 => ?_) (fun h1 => ?_)
  · refine DL.run 7 rfl ?_; refine DL.nil (DK.seq (DT.cond rfl (fun _ => DT.ret (fe (iO rfl (fun w' hw => ⟨rfl, ?_⟩)))) (fun h => by cases h))); exact cX (hw.sub (List.sublist_cons_self _ _)) hS0 (Frz.Le.refl _)
  · (have hm : x.made = true := by simpa using h1);refine q18 ?_;refine io (Yv.fieldAddr) ?_;refine io (cS 1) ?_;refine DL.run 2 rfl ?_; refine DL.nil (DK.seq (DT.cond rfl (fun h2 => DT.ret (fe (iO rfl (fun w' hw => ⟨rfl, ?_⟩)))) (fun h2 => ?_)))
    · exact cX (hw.sub (List.sublist_cons_self _ _)) hS0 (Frz.Le.refl _)
    · (have h3 : x.fault.first = 0 := by have := of_decide_eq_false h2; simpa using this); rw [hm, h3] at hm0; cases hm0
theorem zll {F0 : Frz} {w : World} (hF0 : F0.At w) (x : GReader) (g : Nat) (v : Value) (gb gn : Nat) (hO : Hp w (cZ (eC g x v :: eo v x :: [.row gb 111 [.pointer (some ⟨g, 0, none⟩)], .row gn 3 [.int .i64 0]])) (eC g x v :: eo v x :: [.row gb 111 [.pointer (some ⟨g, 0, none⟩)], .row gn 3 [.int .i64 0]]) w) (hA : ∀ g', cZ (eC g x v :: eo v x :: [.row gb 111 [.pointer (some ⟨g, 0, none⟩)], .row gn 3 [.int .i64 0]]) g' → ¬ F0.S g') (r : Dy (BitVec 64 × Int) (Int × Int)) (hr : zas x 9 = some r) :
    Calls Tryz.prog 96 #[.pointer (some ⟨gb, 0, none⟩), .pointer (some ⟨gn, 0, none⟩)] w (fun e w' => (i2 r = true → e = .returned (.tuple #[]) ∧ FxM F0 w (cZ (eC g x v :: eo v x :: [.row gb 111 [.pointer (some ⟨g, 0, none⟩)], .row gn 3 [.int .i64 0]])) F0 (eC g { x with at_ := (eD r).2 } v :: eo v x :: [.row gb 111 [.pointer (some ⟨g, 0, none⟩)], .row gn 3 [.int .i64 (wI (((eD r).1).toNat : Int))]]) w') ∧ (i2 r = false → ∃ a', e = .panicked (dyE 36 (jq r).1) ∧ FxM F0 w (cZ (eC g x v :: eo v x :: [.row gb 111 [.pointer (some ⟨g, 0, none⟩)], .row gn 3 [.int .i64 0]])) F0 (eC g { x with at_ := a' } v :: eo v x :: [.row gb 111 [.pointer (some ⟨g, 0, none⟩)], .row gn 3 [.int .i64 0]]) w')) := by
  obtain ⟨S0, F1, rfl, hS0, hp0⟩ := ga hF0 hO hA;refine zeJ (hs := (eC g x v :: eo v x :: [.row gb 111 [.pointer (some ⟨g, 0, none⟩)], .row gn 3 [.int .i64 0]]) ++ [.fr F1]) (args := [.pointer (some ⟨gb, 0, none⟩), .pointer (some ⟨gn, 0, none⟩)]) Tryz.func96 rfl rfl rfl hp0 ?_; refine iH (i2 r) (fun h => ?_) (fun h => ?_)
  · refine q3S ?_;refine cN (dl [0, 1, 4, 2, 3] [eC g x v, eo v x] [.row gb 111 [.pointer (some ⟨g, 0, none⟩)], .row gn 3 [.int .i64 0]] rfl rfl rfl rfl a6 (fun w hw hw2 hF => (zaW _ w hF x g v 9 hw2.takes.1 hw2.takes.2 r hr).mono (fun e w' hp => hp.1 h))) ?_; rintro _ _ ⟨⟨⟩, -, rfl, rfl⟩;dsimp only [List.cons_append, List.nil_append];refine cI (j7 (z := (((eD r).1).toNat : Int)) rfl rfl) ?_;refine d7 (dC 4 rfl rfl rfl rfl a7) ?_; rintro _ _ ⟨rfl, rfl⟩;refine TL.nil ?_; exact K.cC (eX rfl (fun w' hw => ⟨fun _ => ⟨rfl, cX (hw.pick (idx := [0, 1, 3, 4, 2]) rfl a6) hS0 (Frz.Le.refl _)⟩, (fun h2 => by rw [h] at h2; cases h2)⟩))
  · refine q3S ?_;refine kZ [0, 1, 4, 2, 3] [eC g x v, eo v x] [.row gb 111 [.pointer (some ⟨g, 0, none⟩)], .row gn 3 [.int .i64 0]] rfl rfl rfl rfl rfl a6 (fun w hw hw2 hF => (zaW _ w hF x g v 9 hw2.takes.1 hw2.takes.2 r hr).mono (fun e w' hp => hp.2 h)) ?_; rintro ⟨⟩ -;dsimp only [List.cons_append, List.nil_append]; exact K.bi (fun w' hw => ⟨(fun h2 => by rw [h] at h2; cases h2), fun _ => ⟨(jq r).2, rfl, cX (hw.pick (idx := [0, 1, 3, 4, 2]) rfl a6) hS0 (Frz.Le.refl _)⟩⟩)
theorem zkG {F0 : Frz} {w : World} (hF0 : F0.At w) (x : GReader) (g : Nat) (v : Value) (gb gl gn : Nat) (lim : Int) (hO : Hp w (cZ (eC g x v :: eo v x :: [.row gb 111 [.pointer (some ⟨g, 0, none⟩)], .row gl 3 [.int .i64 lim], .row gn 3 [.int .i64 0]])) (eC g x v :: eo v x :: [.row gb 111 [.pointer (some ⟨g, 0, none⟩)], .row gl 3 [.int .i64 lim], .row gn 3 [.int .i64 0]]) w) (hA : ∀ g', cZ (eC g x v :: eo v x :: [.row gb 111 [.pointer (some ⟨g, 0, none⟩)], .row gl 3 [.int .i64 lim], .row gn 3 [.int .i64 0]]) g' → ¬ F0.S g') (r : Dy (Int × Int) (Int × Int)) (hr : zax x lim = some r) :
    Calls Tryz.prog 126 #[.pointer (some ⟨gb, 0, none⟩), .pointer (some ⟨gl, 0, none⟩), .pointer (some ⟨gn, 0, none⟩)] w (fun e w' => (i2 r = true → e = .returned (.tuple #[]) ∧ FxM F0 w (cZ (eC g x v :: eo v x :: [.row gb 111 [.pointer (some ⟨g, 0, none⟩)], .row gl 3 [.int .i64 lim], .row gn 3 [.int .i64 0]])) F0 (eC g { x with at_ := (eD r).2 } v :: eo v x :: [.row gb 111 [.pointer (some ⟨g, 0, none⟩)], .row gl 3 [.int .i64 lim], .row gn 3 [.int .i64 (eD r).1]]) w') ∧ (i2 r = false → ∃ a', e = .panicked (dyE 36 (jq r).1) ∧ FxM F0 w (cZ (eC g x v :: eo v x :: [.row gb 111 [.pointer (some ⟨g, 0, none⟩)], .row gl 3 [.int .i64 lim], .row gn 3 [.int .i64 0]])) F0 (eC g { x with at_ := a' } v :: eo v x :: [.row gb 111 [.pointer (some ⟨g, 0, none⟩)], .row gl 3 [.int .i64 lim], .row gn 3 [.int .i64 0]]) w')) := by
  obtain ⟨S0, F1, rfl, hS0, hp0⟩ := ga hF0 hO hA;refine zeJ (hs := (eC g x v :: eo v x :: [.row gb 111 [.pointer (some ⟨g, 0, none⟩)], .row gl 3 [.int .i64 lim], .row gn 3 [.int .i64 0]]) ++ [.fr F1]) (args := [.pointer (some ⟨gb, 0, none⟩), .pointer (some ⟨gl, 0, none⟩), .pointer (some ⟨gn, 0, none⟩)]) Tryz.func126 rfl rfl rfl hp0 ?_; refine iH (i2 r) (fun h => ?_) (fun h => ?_)
  · refine q3S ?_;refine cI (cS 3) ?_;refine cN (dl [0, 1, 5, 2, 3, 4] [eC g x v, eo v x] [.row gb 111 [.pointer (some ⟨g, 0, none⟩)], .row gl 3 [.int .i64 lim], .row gn 3 [.int .i64 0]] rfl rfl rfl rfl a6 (fun w hw hw2 hF => (zbJ _ w hF x g v lim hw2.takes.1 hw2.takes.2 r hr).mono (fun e w' hp => hp.1 h))) ?_; rintro _ _ ⟨⟨⟩, -, rfl, rfl⟩;dsimp only [List.cons_append, List.nil_append];refine d7 (dC 5 rfl rfl rfl rfl a7) ?_; rintro _ _ ⟨rfl, rfl⟩;refine TL.nil ?_; exact K.cC (eX rfl (fun w' hw => ⟨fun _ => ⟨rfl, cX (hw.pick (idx := [0, 1, 3, 4, 5, 2]) rfl a6) hS0 (Frz.Le.refl _)⟩, (fun h2 => by rw [h] at h2; cases h2)⟩))
  · refine q3S ?_;refine cI (cS 3) ?_;refine kZ [0, 1, 5, 2, 3, 4] [eC g x v, eo v x] [.row gb 111 [.pointer (some ⟨g, 0, none⟩)], .row gl 3 [.int .i64 lim], .row gn 3 [.int .i64 0]] rfl rfl rfl rfl rfl a6 (fun w hw hw2 hF => (zbJ _ w hF x g v lim hw2.takes.1 hw2.takes.2 r hr).mono (fun e w' hp => hp.2 h)) ?_; rintro ⟨⟩ -;dsimp only [List.cons_append, List.nil_append]; exact K.bi (fun w' hw => ⟨(fun h2 => by rw [h] at h2; cases h2), fun _ => ⟨(jq r).2, rfl, cX (hw.pick (idx := [0, 1, 3, 4, 5, 2]) rfl a6) hS0 (Frz.Le.refl _)⟩⟩)
def zaj (x:GReader):Option (Int×(Int×Int)):=
 bif x.made&&decide (x.fault.first=0) then
  (zas x 9).bind fun r=>bif i2 r then some ((wI (((eD r).1).toNat:Int)),(x.fault.first,(eD r).2)) else some (0,((jq r).1,x.at_))
 else some (0,(x.fault.first,x.at_))
theorem zbj (F0:Frz)(w:World)(hF0:F0.At w)(x0_:GReader)(g0_:Nat)(v0_2:Value)(hO:Hp w (cZ [.row g0_ 155 [.int .i64 x0_.fault.first, .bool x0_.made,v0_2, .int .i64 x0_.at_], .sl v0_2 5 1 x0_.in_.length (x0_.in_.flatMap (eK .u8))]) [.row g0_ 155 [.int .i64 x0_.fault.first, .bool x0_.made,v0_2, .int .i64 x0_.at_], .sl v0_2 5 1 x0_.in_.length (x0_.in_.flatMap (eK .u8))] w)(hA:∀g,cZ [.row g0_ 155 [.int .i64 x0_.fault.first, .bool x0_.made,v0_2, .int .i64 x0_.at_], .sl v0_2 5 1 x0_.in_.length (x0_.in_.flatMap (eK .u8))] g→¬F0.S g)(r:Int×(Int×Int))(hr:zaj x0_=some r):Calls Tryz.prog 60 #[.pointer (some ⟨g0_,0,none⟩)] w fun e w'=>∃(y:Unit),(True)∧e= .returned (.int .i64 r.1)∧FxM F0 w (cZ [.row g0_ 155 [.int .i64 x0_.fault.first, .bool x0_.made,v0_2, .int .i64 x0_.at_], .sl v0_2 5 1 x0_.in_.length (x0_.in_.flatMap (eK .u8))]) F0 [.row g0_ 155 [.int .i64 r.2.1, .bool x0_.made,v0_2, .int .i64 r.2.2], .sl v0_2 5 1 x0_.in_.length (x0_.in_.flatMap (eK .u8))] w':=by
 haveI:=gN (hO.own (eo v0_2 x0_) a7);obtain ⟨S0,F1,rfl,hS0,hp0⟩:=ga hF0 hO hA;refine dq (hs:=[eC g0_ x0_ v0_2,eo v0_2 x0_, .fr F1]) (args:=[.pointer (some ⟨g0_,0,none⟩)]) Tryz.func60 rfl rfl rfl hp0 ?_;refine de ?_;refine cN (Ew.box) ?_;rintro _ _ ⟨gb,rfl,rfl⟩;refine f9 ?_;refine fQ ?_;rintro _ _ ⟨gn,rfl,rfl⟩;refine q1W ?_;refine dG ?_;refine cI (cS 1) ?_;refine dd ?_
 have key:∀w2,F1.toFrz.At w2→Hp w2 (cZ (eC g0_ x0_ v0_2 :: eo v0_2 x0_ :: [.row gb 111 [.pointer (some ⟨g0_,0,none⟩)], .row gn 3 [.int .i64 0]])) (eC g0_ x0_ v0_2 :: eo v0_2 x0_ :: [.row gb 111 [.pointer (some ⟨g0_,0,none⟩)], .row gn 3 [.int .i64 0]]) w2→(∀g,cZ (eC g0_ x0_ v0_2 :: eo v0_2 x0_ :: [.row gb 111 [.pointer (some ⟨g0_,0,none⟩)], .row gn 3 [.int .i64 0]]) g→¬F1.toFrz.S g)→Calls Tryz.prog 95 #[.pointer (some ⟨g0_,0,none⟩), .func (.func 96) #[] #[.pointer (some ⟨gb,0,none⟩), .pointer (some ⟨gn,0,none⟩)]] w2 (fun e w'=>∃(y:Unit),True∧e= .returned (.tuple #[])∧FxM F1.toFrz w2 (cZ (eC g0_ x0_ v0_2 :: eo v0_2 x0_ :: [.row gb 111 [.pointer (some ⟨g0_,0,none⟩)], .row gn 3 [.int .i64 0]])) F1.toFrz (eC g0_ { x0_ with fault:=⟨r.2.1⟩,at_:=r.2.2 } v0_2 :: eo v0_2 x0_ :: [.row gb 111 [.pointer (some ⟨g0_,0,none⟩)], .row gn 3 [.int .i64 r.1]]) w'):=fun w2 h1 h2 h3=>by
  refine Calls.mono (R:=fun e w'=>e= .returned (.tuple #[])∧FxM F1.toFrz w2 (cZ (eC g0_ x0_ v0_2 :: eo v0_2 x0_ :: [.row gb 111 [.pointer (some ⟨g0_,0,none⟩)], .row gn 3 [.int .i64 0]])) F1.toFrz (eC g0_ { x0_ with fault:=⟨r.2.1⟩,at_:=r.2.2 } v0_2 :: eo v0_2 x0_ :: [.row gb 111 [.pointer (some ⟨g0_,0,none⟩)], .row gn 3 [.int .i64 r.1]]) w') ?_ (fun e w' hp=>⟨(),trivial,hp.1,hp.2⟩);unfold zaj at hr
  cases hm:x0_.made&&decide (x0_.fault.first=0) with
  |false=>
   rw [hm,cond_false] at hr;obtain rfl:=Option.some.inj hr;refine zlJ h1 x0_ g0_ v0_2 _ 96 #[.pointer (some ⟨gb,0,none⟩), .pointer (some ⟨gn,0,none⟩)] h2 h3 hm
  |true=>
   rw [hm,cond_true] at hr;obtain ⟨t,ht,hr⟩:=Option.bind_eq_some_iff.1 hr;refine ziF h1 x0_ g0_ v0_2 _ ([.row gb 111 [.pointer (some ⟨g0_,0,none⟩)], .row gn 3 [.int .i64 (wI (((eD t).1).toNat:Int))]]) _ 96 #[.pointer (some ⟨gb,0,none⟩), .pointer (some ⟨gn,0,none⟩)] (i2 t) (eD t).2 (jq t).1 h2 h3 (fun w1 c1 c2 c3=>zll c1 x0_ g0_ v0_2 gb gn c2 c3 t ht) ?_;rw [hm,cond_true]
   cases hk:i2 t with
   |true=>rw [hk,cond_true] at hr;obtain rfl:=Option.some.inj hr;rfl
   |false=>rw [hk,cond_false] at hr;obtain rfl:=Option.some.inj hr;rfl
 refine cN (dl [2,3,1,0,4] (eC g0_ x0_ v0_2 :: eo v0_2 x0_ :: [.row gb 111 [.pointer (some ⟨g0_,0,none⟩)], .row gn 3 [.int .i64 0]]) [] rfl rfl rfl rfl a6 (fun w hw hw2 hF=>key w hF hw2.takes.1 hw2.takes.2)) ?_;rintro _ _ ⟨⟨⟩, -,rfl,rfl⟩;refine em ?_;refine dG ?_;refine cI (cS 3) ?_;refine eU ?_;exact cU rfl rfl (fun w' hw=>⟨(),trivial,rfl,cX (hw.pick (idx:=[0,1,4]) rfl a6) hS0 (Frz.Le.refl _)⟩)
def zar (x:GReader)(limit:Int):Option (Int×(Int×Int)):=
 bif x.made&&decide (x.fault.first=0) then
  (zax x limit).bind fun r=>bif i2 r then some ((eD r).1,(x.fault.first,(eD r).2)) else some (0,((jq r).1,x.at_))
 else some (0,(x.fault.first,x.at_))
theorem zbe (F0:Frz)(w:World)(hF0:F0.At w)(x0_:GReader)(g0_:Nat)(v0_2:Value)(limit:Int)(hO:Hp w (cZ [.row g0_ 155 [.int .i64 x0_.fault.first, .bool x0_.made,v0_2, .int .i64 x0_.at_], .sl v0_2 5 1 x0_.in_.length (x0_.in_.flatMap (eK .u8))]) [.row g0_ 155 [.int .i64 x0_.fault.first, .bool x0_.made,v0_2, .int .i64 x0_.at_], .sl v0_2 5 1 x0_.in_.length (x0_.in_.flatMap (eK .u8))] w)(hA:∀g,cZ [.row g0_ 155 [.int .i64 x0_.fault.first, .bool x0_.made,v0_2, .int .i64 x0_.at_], .sl v0_2 5 1 x0_.in_.length (x0_.in_.flatMap (eK .u8))] g→¬F0.S g)(r:Int×(Int×Int))(hr:zar x0_ limit=some r):Calls Tryz.prog 93 #[.pointer (some ⟨g0_,0,none⟩), .int .i64 limit] w fun e w'=>∃(y:Unit),(True)∧e= .returned (.int .i64 r.1)∧FxM F0 w (cZ [.row g0_ 155 [.int .i64 x0_.fault.first, .bool x0_.made,v0_2, .int .i64 x0_.at_], .sl v0_2 5 1 x0_.in_.length (x0_.in_.flatMap (eK .u8))]) F0 [.row g0_ 155 [.int .i64 r.2.1, .bool x0_.made,v0_2, .int .i64 r.2.2], .sl v0_2 5 1 x0_.in_.length (x0_.in_.flatMap (eK .u8))] w':=by
 haveI:=gN (hO.own (eo v0_2 x0_) a7);obtain ⟨S0,F1,rfl,hS0,hp0⟩:=ga hF0 hO hA;refine dq (hs:=[eC g0_ x0_ v0_2,eo v0_2 x0_, .fr F1]) (args:=[.pointer (some ⟨g0_,0,none⟩), .int .i64 limit]) Tryz.func93 rfl rfl rfl hp0 ?_;refine de ?_;refine cN (Ew.box) ?_;rintro _ _ ⟨gb,rfl,rfl⟩;refine cN (Ew.box) ?_;rintro _ _ ⟨gl,rfl,rfl⟩;refine f9 ?_;refine fQ ?_;rintro _ _ ⟨gn,rfl,rfl⟩;refine q1W ?_;refine dG ?_;refine cI (cS 2) ?_;refine dd ?_
 have key:∀w2,F1.toFrz.At w2→Hp w2 (cZ (eC g0_ x0_ v0_2 :: eo v0_2 x0_ :: [.row gb 111 [.pointer (some ⟨g0_,0,none⟩)], .row gl 3 [.int .i64 limit], .row gn 3 [.int .i64 0]])) (eC g0_ x0_ v0_2 :: eo v0_2 x0_ :: [.row gb 111 [.pointer (some ⟨g0_,0,none⟩)], .row gl 3 [.int .i64 limit], .row gn 3 [.int .i64 0]]) w2→(∀g,cZ (eC g0_ x0_ v0_2 :: eo v0_2 x0_ :: [.row gb 111 [.pointer (some ⟨g0_,0,none⟩)], .row gl 3 [.int .i64 limit], .row gn 3 [.int .i64 0]]) g→¬F1.toFrz.S g)→Calls Tryz.prog 95 #[.pointer (some ⟨g0_,0,none⟩), .func (.func 126) #[] #[.pointer (some ⟨gb,0,none⟩), .pointer (some ⟨gl,0,none⟩), .pointer (some ⟨gn,0,none⟩)]] w2 (fun e w'=>∃(y:Unit),True∧e= .returned (.tuple #[])∧FxM F1.toFrz w2 (cZ (eC g0_ x0_ v0_2 :: eo v0_2 x0_ :: [.row gb 111 [.pointer (some ⟨g0_,0,none⟩)], .row gl 3 [.int .i64 limit], .row gn 3 [.int .i64 0]])) F1.toFrz (eC g0_ { x0_ with fault:=⟨r.2.1⟩,at_:=r.2.2 } v0_2 :: eo v0_2 x0_ :: [.row gb 111 [.pointer (some ⟨g0_,0,none⟩)], .row gl 3 [.int .i64 limit], .row gn 3 [.int .i64 r.1]]) w'):=fun w2 h1 h2 h3=>by
  refine Calls.mono (R:=fun e w'=>e= .returned (.tuple #[])∧FxM F1.toFrz w2 (cZ (eC g0_ x0_ v0_2 :: eo v0_2 x0_ :: [.row gb 111 [.pointer (some ⟨g0_,0,none⟩)], .row gl 3 [.int .i64 limit], .row gn 3 [.int .i64 0]])) F1.toFrz (eC g0_ { x0_ with fault:=⟨r.2.1⟩,at_:=r.2.2 } v0_2 :: eo v0_2 x0_ :: [.row gb 111 [.pointer (some ⟨g0_,0,none⟩)], .row gl 3 [.int .i64 limit], .row gn 3 [.int .i64 r.1]]) w') ?_ (fun e w' hp=>⟨(),trivial,hp.1,hp.2⟩);unfold zar at hr
  cases hm:x0_.made&&decide (x0_.fault.first=0) with
  |false=>
   rw [hm,cond_false] at hr;obtain rfl:=Option.some.inj hr;refine zlJ h1 x0_ g0_ v0_2 _ 126 #[.pointer (some ⟨gb,0,none⟩), .pointer (some ⟨gl,0,none⟩), .pointer (some ⟨gn,0,none⟩)] h2 h3 hm
  |true=>
   rw [hm,cond_true] at hr;obtain ⟨t,ht,hr⟩:=Option.bind_eq_some_iff.1 hr;refine ziF h1 x0_ g0_ v0_2 _ ([.row gb 111 [.pointer (some ⟨g0_,0,none⟩)], .row gl 3 [.int .i64 limit], .row gn 3 [.int .i64 (eD t).1]]) _ 126 #[.pointer (some ⟨gb,0,none⟩), .pointer (some ⟨gl,0,none⟩), .pointer (some ⟨gn,0,none⟩)] (i2 t) (eD t).2 (jq t).1 h2 h3 (fun w1 c1 c2 c3=>zkG c1 x0_ g0_ v0_2 gb gl gn limit c2 c3 t ht) ?_;rw [hm,cond_true]
   cases hk:i2 t with
   |true=>rw [hk,cond_true] at hr;obtain rfl:=Option.some.inj hr;rfl
   |false=>rw [hk,cond_false] at hr;obtain rfl:=Option.some.inj hr;rfl
 refine cN (dl [3,4,2,1,0,5] (eC g0_ x0_ v0_2 :: eo v0_2 x0_ :: [.row gb 111 [.pointer (some ⟨g0_,0,none⟩)], .row gl 3 [.int .i64 limit], .row gn 3 [.int .i64 0]]) [] rfl rfl rfl rfl a6 (fun w hw hw2 hF=>key w hF hw2.takes.1 hw2.takes.2)) ?_;rintro _ _ ⟨⟨⟩, -,rfl,rfl⟩;refine em ?_;refine dG ?_;refine cI (cS 4) ?_;refine eU ?_;exact cU rfl rfl (fun w' hw=>⟨(),trivial,rfl,cX (hw.pick (idx:=[0,1,5]) rfl a6) hS0 (Frz.Le.refl _)⟩)
end Go.Proofs.YtogbggmckmnlfaaGreatDoor
