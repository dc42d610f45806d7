/- Y6 Wm Of: shortened and put together by squeeze.py. -/
import Derived.Test.YtogbggmckmnlfaaGreatDoorQ12
import Derived.Deep.Slices
import Derived.ChangeArms
set_option maxRecDepth 100000
set_option maxHeartbeats 4000000
set_option linter.unusedVariables false
set_option linter.unusedSectionVars false
set_option linter.unusedSimpArgs false
namespace Go.Proofs.YtogbggmckmnlfaaGreatDoor
open Go.RowKit
def zbR (fuel : Nat)  : Option Bool :=
 dS (fun (s4:List GChoice×List Int×List (List GChoice))=>
  dS (fun (s15:List Int×List (List GChoice)×List Int×List (List GChoice))=>
   d4 (db (s15.2.1++[[]]).length 24) <|
   d4 (db (s15.2.2.2++[[]]).length 24) <|
   (zds fuel (GProof.mk s15.1 (s15.2.1++[[]]))).bind fun r63=>
   (zds fuel (GProof.mk s15.2.2.1 (s15.2.2.2++[[]]))).bind fun r68=>
   (zbh r63.1).bind fun r73=>
   d4 (db 65537 1) <|
   (zbh (List.replicate 65537 0)).bind fun r78=>
   dS (fun (x_25:Bool)=>
    (bif x_25 then
     some false
     else
     d4 (0≤1∧1≤(s4.1.length:Int)) <|
     d4 (db (([(s4.1.take 1)]:List (List GChoice))++(s15.2.1++[[]])).length 24) <|
     (l8 (GProof.mk s15.1 (([(s4.1.take 1)]:List (List GChoice))++(s15.2.1++[[]])))).bind fun r119=>
     dS (fun (x_35:Bool)=>
      some x_35)
     (fun k36=>
      (bif !r119 then
       (zcc fuel).bind fun r122=>
       k36 r122
       else
       k36 false))))
   (fun k26=>
    (bif decide (¬r63.2=0) then
     k26 true
     else
     (bif decide (¬r68.2=7) then
      k26 true
      else
      (bif decide (¬r73.2=0) then
       k26 true
       else
       (bif decide (¬r78.2=5) then
        k26 true
        else
        (bif decide (¬(r73.1.Lemmas.length:Int)=4096) then
         k26 true
         else
         (l8 (GProof.mk s15.1 (s15.2.1++[[]]))).bind fun r103=>
         (bif !r103 then
          k26 true
          else
          (l8 (GProof.mk s15.2.2.1 (s15.2.2.2++[[]]))).bind fun r108=>
          k26 (!r108)))))))))
  (fun k15=>
   di (fun (i_21:Nat) (next20:(List Int×List (List GChoice)×List Int×List (List GChoice))→Option Bool) (s20:List Int×List (List GChoice)×List Int×List (List GChoice))=>
    d4 (0≤1∧1≤(s4.1.length:Int)) <|
    d4 (db (s20.2.1++[(s4.1.take 1)]).length 24) <|
    d4 (db (s20.2.2.2++[s4.1]).length 24) <|
    next20 (s20.1,(s20.2.1++[(s4.1.take 1)]),s20.2.2.1,(s20.2.2.2++[s4.1])))
   (fun (s20:List Int×List (List GChoice)×List Int×List (List GChoice))=>
    k15 (s20.1,s20.2.1,s20.2.2.1,s20.2.2.2)) (4096 - 1) 1 (s4.2.1,s4.2.2,s4.2.1,[])))
 (fun k4=>
  di (fun (i_9:Nat) (next8:(List GChoice×List Int×List (List GChoice))→Option Bool) (s8:List GChoice×List Int×List (List GChoice))=>
   d4 (db (s8.2.1++[(300+(i_9:Int))]).length 8) <|
   d4 (db (s8.1++[(GChoice.mk (300+(i_9:Int)) 51)]).length 16) <|
   next8 ((s8.1++[(GChoice.mk (300+(i_9:Int)) 51)]),(s8.2.1++[(300+(i_9:Int))]),s8.2.2))
  (fun (s8:List GChoice×List Int×List (List GChoice))=>
   k4 (s8.1,s8.2.1,s8.2.2)) (10 - 0) 0 ([],[],[]))
theorem zel (F0 : Frz)(w : World)(hF0 : F0.At w)  (htab : Tab w)(fuel : Nat)(hfu : 100000 ≤ fuel)(r : Bool)(hr : zbR fuel = some r) : Calls Tryz.prog 8 #[] w fun e w' => e = .returned (.bool r) ∧ Below w.heap.size w w' := by
 have hk:=hr;unfold zbR at hk;obtain ⟨S0,F1,rfl,hS0,hp0⟩:=fK hF0;have hM0:¬(fun _:Nat=>False) 0:=fun h=>h;have htk:∀ {hs:HS} {w':World},Hp w (fun _=>False) hs w'→Tab w':=fun hw=>htab.keptF hw;refine dq Tryz.func8 rfl rfl rfl hp0 ?_;refine lr ?_;refine fQ ?_;rintro _ _ ⟨g1,rfl,rfl⟩;refine TL.slNil 3 1 ?_;refine TL.slNil 50 1 ?_;refine fQ ?_;rintro _ _ ⟨g2,rfl,rfl⟩;refine TL.slNil 50 1 ?_;refine lm ?_;refine TL.slNil 68 2 ?_;refine gX ?_;refine dP ?_;have hq:=eP hk;clear hk;obtain ⟨k4,hk4,hk⟩:=hq; (try dsimp only at hk);refine dj (ι:=List GChoice×Value×List Int×Value×List (List GChoice)×Value×List (List Value)) (fun z=>[(1, .pointer (some ⟨g1,0,none⟩)),(2, .pointer (some ⟨g2,0,none⟩)),(3,z.2.1)]) (fun z=>[.sl z.2.1 68 2 z.1.length (z.1.flatMap cM), .sl z.2.2.2.1 3 1 z.2.2.1.length (z.2.2.1.flatMap eI), .sl z.2.2.2.2.2.1 50 1 z.2.2.2.2.1.length z.2.2.2.2.2.2.flatten, .row g1 33 [z.2.2.2.1,z.2.2.2.2.2.1], .sl (.slice none 0 0) 50 1 ([]:List (List GChoice)).length ([]:List (List Value)).flatten, .row g2 33 [(.slice none 0 0),(.slice none 0 0)], .fr F1]) (fun z=>k4 (z.1,z.2.2.1,z.2.2.2.2.1)=some r∧OneC z.2.1∧OneC z.2.2.2.1∧OwnD cG F1.toFrz 1 z.2.2.2.2.2.2 z.2.2.2.2.1∧OneC z.2.2.2.2.2.1) ?_ ?_
 ·have hq:=fS hk;clear hk;obtain ⟨f8,kk8,hf8,hkk8,hk⟩:=hq;refine gg ?_;refine T.pick [0,4,3,5,1,2,6] rfl a6 ?_;refine T.loop (ι:=Nat×List GChoice×Value×List Int×Value×List (List GChoice)×Value×List (List Value)) (fun z=>[(1, .pointer (some ⟨g1,0,none⟩)),(2, .pointer (some ⟨g2,0,none⟩)),(3,z.2.2.1),(4, .int .i64 (z.1:Int))]) (fun z=>[.sl z.2.2.1 68 2 z.2.1.length (z.2.1.flatMap cM), .sl z.2.2.2.2.1 3 1 z.2.2.2.1.length (z.2.2.2.1.flatMap eI), .sl z.2.2.2.2.2.2.1 50 1 z.2.2.2.2.2.1.length z.2.2.2.2.2.2.2.flatten, .row g1 33 [z.2.2.2.2.1,z.2.2.2.2.2.2.1], .sl (.slice none 0 0) 50 1 ([]:List (List GChoice)).length ([]:List (List Value)).flatten, .row g2 33 [(.slice none 0 0),(.slice none 0 0)], .fr F1]) (fun z=>di f8 kk8 (10 - z.1) z.1 (z.2.1,z.2.2.2.1,z.2.2.2.2.2.1)=some r∧OneC z.2.2.1∧OneC z.2.2.2.2.1∧OwnD cG F1.toFrz 1 z.2.2.2.2.2.2.2 z.2.2.2.2.2.1∧OneC z.2.2.2.2.2.2.1) (fun z=>10 - z.1) (0,[],(.slice none 0 0),[],(.slice none 0 0),[],(.slice none 0 0),[]) ?_ ?_ ?_ ?_
  ·exact ⟨hk,inferInstance,inferInstance,(OwnD.nil _ _ 1),inferInstance⟩
  ·exact q37
  ·exact fv
  ·rintro ⟨i_9,long_5,vlong_5,c_6,vc_6,c_7,vc_7,cc_7⟩ ⟨hk,olong_5,oc_6,hc_7,oc_7⟩; (try dsimp only at *);refine iJ ?_;refine iK ?_;refine T.cond rfl (fun h10=>?_) (fun h10=>?_)
   ·have p10:=of_decide_eq_true h10;rw [fT a5] at hk;generalize hn8:di f8 kk8 (10 - (i_9+1)) (i_9+1)=next8 at hk;rw [←hf8] at hk; (try dsimp only at hk);refine T.skip (K.seq (T.seq (T.block ?_)));have hq:(db (c_6++[(300+(i_9:Int))]).length 8)∧_:=eQ hk;clear hk;obtain ⟨g23,hk⟩:=hq;have hq:(db (long_5++[(GChoice.mk (300+(i_9:Int)) 51)]).length 16)∧_:=eQ hk;clear hk;obtain ⟨g29,hk⟩:=hq; (try dsimp only at hk);refine ed ?_;refine q1O ?_;refine dd ?_;refine ly ?_;refine jg ?_;rintro _ _ ⟨g22,rfl,rfl⟩;refine cN (d8 2 0 rfl rfl rfl rfl rfl rfl (iC (ys:=[(300+(i_9:Int))])) (zcu (enc:=eI) (xs:=c_6) (ys:=[(300+(i_9:Int))])) g23 a6) ?_;rintro v23 _ ⟨hv23,rfl⟩;refine d5 ?_;refine ly ?_;refine iX ?_;refine jg ?_;rintro _ _ ⟨g28,rfl,rfl⟩;refine cN (d8 2 0 rfl rfl rfl rfl rfl rfl (iC (ys:=[(GChoice.mk (300+(i_9:Int)) 51)])) (zcu (enc:=cM) (xs:=long_5) (ys:=[(GChoice.mk (300+(i_9:Int)) 51)])) g29 a6) ?_;rintro v29 _ ⟨hv29,rfl⟩;refine eZ ?_;refine d7 (dC 5 rfl rfl rfl rfl a7) ?_;refine lJ ?_;refine q3K ?_;refine jS ?_;rw [←hn8] at hk;refine K.pick [2,3,4,5,6,7,8] rfl a6 ?_;exact K.next ((i_9+1),(long_5++[(GChoice.mk (300+(i_9:Int)) 51)]),v29,(c_6++[(300+(i_9:Int))]),v23,c_7,vc_7,cc_7) ⟨hk,inferInstance,inferInstance,hc_7,inferInstance⟩ a9 (.c (.c (.c (.c .nil)))) (List.Sublist.refl _)
   ·have p10:=of_decide_eq_false h10;rw [fR a5,←hkk8] at hk; (try dsimp only at hk);refine ff ?_;exact c4 (long_5,vlong_5,c_6,vc_6,c_7,vc_7,cc_7) ⟨hk,inferInstance,inferInstance,hc_7,inferInstance⟩ (.c (.c (.c .nil))) (List.Sublist.refl _)
 ·rintro ⟨long_1,vlong_1,c_2,vc_2,c_3,vc_3,cc_3⟩ ⟨hk,olong_1,oc_2,hc_3,oc_3⟩; (try dsimp only at *);rw [←hk4] at hk; (try dsimp only at hk);refine T.seq ?_;refine iU (fun w hw=>hw.freezeS (i:=6) (j:=1) a6 rfl rfl) ?_;rintro F2 ⟨le1_2,hz2⟩;refine gU ?_;have hf2:=hz2.toF rfl (fun _=>rfl);haveI:=hf2.oneC;refine ed ?_;refine kO ?_;refine eZ ?_;refine d7 (dC 4 rfl rfl rfl rfl a7) ?_;refine ex ?_;refine gX ?_;refine dP ?_;refine iU (fun w hw=>hw.freezeS (i:=5) (j:=0) a6 rfl rfl) ?_;rintro F3 ⟨le2_3,hz3⟩;refine gU ?_;have le1_3:=le1_2.trans le2_3;have hf3:=hz3.toF rfl GChoice.len;haveI:=hf3.oneC;have hq:=eP hk;clear hk;obtain ⟨k15,hk15,hk⟩:=hq; (try dsimp only at hk);refine dj (ι:=List Int×Value×List (List GChoice)×Value×List (List Value)×List Int×Value×List (List GChoice)×Value×List (List Value)×FzB w (fun _=>False) S0) (fun z=>[(1, .pointer (some ⟨g1,0,none⟩)),(2, .pointer (some ⟨g2,0,none⟩)),(3,vlong_1)]) (fun z=>[.sl z.2.2.2.1 50 1 z.2.2.1.length z.2.2.2.2.1.flatten, .row g1 33 [z.2.1,z.2.2.2.1], .sl z.2.2.2.2.2.2.2.2.1 50 1 z.2.2.2.2.2.2.2.1.length z.2.2.2.2.2.2.2.2.2.1.flatten, .row g2 33 [z.2.2.2.2.2.2.1,z.2.2.2.2.2.2.2.2.1], .fr z.2.2.2.2.2.2.2.2.2.2]) (fun z=>k15 (z.1,z.2.2.1,z.2.2.2.2.2.1,z.2.2.2.2.2.2.2.1)=some r∧SlC z.2.2.2.2.2.2.2.2.2.2.toFrz z.2.1 1 (z.1.map eI)∧OwnD cG z.2.2.2.2.2.2.2.2.2.2.toFrz 1 z.2.2.2.2.1 z.2.2.1∧OneC z.2.2.2.1∧SlC z.2.2.2.2.2.2.2.2.2.2.toFrz z.2.2.2.2.2.2.1 1 (z.2.2.2.2.2.1.map eI)∧OwnD cG z.2.2.2.2.2.2.2.2.2.2.toFrz 1 z.2.2.2.2.2.2.2.2.2.1 z.2.2.2.2.2.2.2.1∧OneC z.2.2.2.2.2.2.2.2.1∧F3.toFrz.Le z.2.2.2.2.2.2.2.2.2.2.toFrz) ?_ ?_
  ·have hq:=fS hk;clear hk;obtain ⟨f20,kk20,hf20,hkk20,hk⟩:=hq;refine gg ?_;refine T.loop (ι:=Nat×List Int×Value×List (List GChoice)×Value×List (List Value)×List Int×Value×List (List GChoice)×Value×List (List Value)×FzB w (fun _=>False) S0) (fun z=>[(1, .pointer (some ⟨g1,0,none⟩)),(2, .pointer (some ⟨g2,0,none⟩)),(3,vlong_1),(5, .int .i64 (z.1:Int))]) (fun z=>[.sl z.2.2.2.2.1 50 1 z.2.2.2.1.length z.2.2.2.2.2.1.flatten, .row g1 33 [z.2.2.1,z.2.2.2.2.1], .sl z.2.2.2.2.2.2.2.2.2.1 50 1 z.2.2.2.2.2.2.2.2.1.length z.2.2.2.2.2.2.2.2.2.2.1.flatten, .row g2 33 [z.2.2.2.2.2.2.2.1,z.2.2.2.2.2.2.2.2.2.1], .fr z.2.2.2.2.2.2.2.2.2.2.2]) (fun z=>di f20 kk20 (4096 - z.1) z.1 (z.2.1,z.2.2.2.1,z.2.2.2.2.2.2.1,z.2.2.2.2.2.2.2.2.1)=some r∧SlC z.2.2.2.2.2.2.2.2.2.2.2.toFrz z.2.2.1 1 (z.2.1.map eI)∧OwnD cG z.2.2.2.2.2.2.2.2.2.2.2.toFrz 1 z.2.2.2.2.2.1 z.2.2.2.1∧OneC z.2.2.2.2.1∧SlC z.2.2.2.2.2.2.2.2.2.2.2.toFrz z.2.2.2.2.2.2.2.1 1 (z.2.2.2.2.2.2.1.map eI)∧OwnD cG z.2.2.2.2.2.2.2.2.2.2.2.toFrz 1 z.2.2.2.2.2.2.2.2.2.2.1 z.2.2.2.2.2.2.2.2.1∧OneC z.2.2.2.2.2.2.2.2.2.1∧F3.toFrz.Le z.2.2.2.2.2.2.2.2.2.2.2.toFrz) (fun z=>4096 - z.1) (1,c_2,vc_2,c_3,vc_3,cc_3,c_2,vc_2,[],(.slice none 0 0),[],F3) ?_ ?_ ?_ ?_
   ·exact ⟨hk,(SlC.mono hf2 le2_3),(OwnD.mono (rep:=cG) (fun _ _ _ _=>R_List_GChoice.mono) hc_3 le1_3),inferInstance,(SlC.mono hf2 le2_3),(OwnD.nil _ _ 1),inferInstance,(Frz.Le.refl _)⟩
   ·exact q37
   ·exact fv
   ·rintro ⟨i_21,c_16,vc_16,c_17,vc_17,cc_17,c_18,vc_18,c_19,vc_19,cc_19,F5⟩ ⟨hk,hc_16,hc_17,oc_17,hc_18,hc_19,oc_19,le3_5⟩; (try dsimp only at *);haveI:=hc_16.oneC;haveI:=hc_18.oneC;refine iJ ?_;refine iK ?_;refine T.cond rfl (fun h22=>?_) (fun h22=>?_)
    ·have p22:=of_decide_eq_true h22;rw [fT a5] at hk;generalize hn20:di f20 kk20 (4096 - (i_21+1)) (i_21+1)=next20 at hk;rw [←hf20] at hk; (try dsimp only at hk);refine T.skip (K.seq (T.seq (T.block ?_)));have hq:(0≤1∧1≤(long_1.length:Int))∧_:=eQ hk;clear hk;obtain ⟨g41h,hk⟩:=hq;have hq:(db (c_17++[(long_1.take 1)]).length 24)∧_:=eQ hk;clear hk;obtain ⟨g43,hk⟩:=hq;have hq:(db (c_19++[long_1]).length 24)∧_:=eQ hk;clear hk;obtain ⟨g48,hk⟩:=hq; (try dsimp only at hk);refine dT (.still 0 (.still 1 (.still 2 (.still 3 (.still 6 (.still 7 (.still 8 (.two 4 9 (.two 5 9 (.still 11 (.eff 9 (.eff 10 (.bar 12 (.still 13 (.bar 14 .done)))))) (.eff 5 (.still 11 (.eff 10 (.bar 12 (.still 13 (.bar 14 .done))))))) (.eff 4 (.eff 5 (.still 11 (.eff 10 (.bar 12 (.still 13 (.bar 14 .done))))))))))))))) [.row g1 33 [vc_16,vc_17], .row g2 33 [vc_18,vc_19], .fr F5] a8 Sx ?_;refine fY ?_;refine gR ?_;refine cR rfl (k7 (i:=1) rfl rfl rfl (SlC.mono hf3 le3_5) (List.length_map _) (show (1:Int)=((1:Nat):Int) from rfl) a5) ?_;have hs41_:SlC F3.toFrz (gh vlong_1 0 1 2) 2 ((long_1.take 1).map cM):=hf3.sliceh (i:=1) a5;haveI:=hs41_.oneC;refine iq ?_;refine cR rfl (cS 1) ?_;refine gR ?_;refine TS.two ?_ ?_
     ·refine jU ?_;rintro _ _ ⟨g42,rfl,rfl⟩;have hl42:OwnD cG F5.toFrz 1 [[(gh vlong_1 0 1 2)]] [(long_1.take 1)]:=(cP (OwnD.nil _ _ 1) ⟨_,rfl,(SlC.mono hs41_ le3_5)⟩);refine gZ ?_;refine TS.two ?_ ?_
      ·refine dn rfl (Wt.none) rfl rfl (d8 1 0 rfl rfl rfl rfl rfl rfl (iC (ys:=[(long_1.take 1)])) (j4 (cs:=cc_17) (ds:=[[(gh vlong_1 0 1 2)]])) g43 a6) ?_;rintro v43 _ ⟨hv43,rfl⟩;have ho43:OwnD cG F5.toFrz 1 (cc_17++[[(gh vlong_1 0 1 2)]]) (c_17++[(long_1.take 1)]):=(cP hc_17 ⟨_,rfl,(SlC.mono hs41_ le3_5)⟩);refine gZ ?_;refine jc ?_;refine jU ?_;rintro _ _ ⟨g47,rfl,rfl⟩;have hl47:OwnD cG F5.toFrz 1 [[vlong_1]] [long_1]:=(cP (OwnD.nil _ _ 1) ⟨_,rfl,(SlC.mono hf3 le3_5)⟩);refine gZ ?_;refine dF ?_;refine q3x ?_;rintro v48 _ ⟨hv48,rfl⟩;have ho48:OwnD cG F5.toFrz 1 (cc_19++[[vlong_1]]) (c_19++[long_1]):=(cP hc_19 ⟨_,rfl,(SlC.mono hf3 le3_5)⟩);refine gZ ?_;refine TS.bar ?_;refine q0R ?_;refine dd ?_;refine jS ?_;rw [←hn20] at hk;refine K.pick [2,3,4,5,6] rfl a6 ?_;exact q4B
      ·refine jU ?_;rintro _ _ ⟨g47,rfl,rfl⟩;have hl47:OwnD cG F5.toFrz 1 [[vlong_1]] [long_1]:=(cP (OwnD.nil _ _ 1) ⟨_,rfl,(SlC.mono hf3 le3_5)⟩);refine gZ ?_;refine dF ?_;refine dn rfl (Wt.none) rfl rfl (d8 2 1 rfl rfl rfl rfl rfl rfl (iC (ys:=[(long_1.take 1)])) (j4 (cs:=cc_17) (ds:=[[(gh vlong_1 0 1 2)]])) g43 a6) ?_;rintro v43 _ ⟨hv43,rfl⟩;have ho43:OwnD cG F5.toFrz 1 (cc_17++[[(gh vlong_1 0 1 2)]]) (c_17++[(long_1.take 1)]):=(cP hc_17 ⟨_,rfl,(SlC.mono hs41_ le3_5)⟩);refine gZ ?_;refine jc ?_;refine q3x ?_;rintro v48 _ ⟨hv48,rfl⟩;have ho48:OwnD cG F5.toFrz 1 (cc_19++[[vlong_1]]) (c_19++[long_1]):=(cP hc_19 ⟨_,rfl,(SlC.mono hf3 le3_5)⟩);refine gZ ?_;refine TS.bar ?_;refine q0R ?_;refine dd ?_;refine jS ?_;rw [←hn20] at hk;refine K.pick [2,3,4,5,6] rfl a6 ?_;exact q4B
     ·refine jU ?_;rintro _ _ ⟨g47,rfl,rfl⟩;have hl47:OwnD cG F5.toFrz 1 [[vlong_1]] [long_1]:=(cP (OwnD.nil _ _ 1) ⟨_,rfl,(SlC.mono hf3 le3_5)⟩);refine gZ ?_;refine dF ?_;refine jU ?_;rintro _ _ ⟨g42,rfl,rfl⟩;have hl42:OwnD cG F5.toFrz 1 [[(gh vlong_1 0 1 2)]] [(long_1.take 1)]:=(cP (OwnD.nil _ _ 1) ⟨_,rfl,(SlC.mono hs41_ le3_5)⟩);refine gZ ?_;refine dF ?_;refine dn rfl (Wt.none) rfl rfl (d8 2 0 rfl rfl rfl rfl rfl rfl (iC (ys:=[(long_1.take 1)])) (j4 (cs:=cc_17) (ds:=[[(gh vlong_1 0 1 2)]])) g43 a6) ?_;rintro v43 _ ⟨hv43,rfl⟩;have ho43:OwnD cG F5.toFrz 1 (cc_17++[[(gh vlong_1 0 1 2)]]) (c_17++[(long_1.take 1)]):=(cP hc_17 ⟨_,rfl,(SlC.mono hs41_ le3_5)⟩);refine gZ ?_;refine jc ?_;refine dn rfl (Wt.none) rfl rfl (d8 4 1 rfl rfl rfl rfl rfl rfl (iC (ys:=[long_1])) (j4 (cs:=cc_19) (ds:=[[vlong_1]])) g48 a6) ?_;rintro v48 _ ⟨hv48,rfl⟩;have ho48:OwnD cG F5.toFrz 1 (cc_19++[[vlong_1]]) (c_19++[long_1]):=(cP hc_19 ⟨_,rfl,(SlC.mono hf3 le3_5)⟩);refine gZ ?_;refine TS.bar ?_;refine fc [.row g42 50 [(gh vlong_1 0 1 2)], .row g47 50 [vlong_1], .sl v43 50 1 (c_17++[(long_1.take 1)]).length (cc_17++[[(gh vlong_1 0 1 2)]]).flatten, .row g1 33 [vc_16,v43], .sl v48 50 1 (c_19++[long_1]).length (cc_19++[[vlong_1]]).flatten, .row g2 33 [vc_18,vc_19], .fr F5] rfl (Wt.none) rfl (dC 3 rfl rfl rfl rfl a7) ?_;refine kI ?_;refine iq ?_;refine TS.bar ?_;refine fc [.row g42 50 [(gh vlong_1 0 1 2)], .row g47 50 [vlong_1], .sl v43 50 1 (c_17++[(long_1.take 1)]).length (cc_17++[[(gh vlong_1 0 1 2)]]).flatten, .row g1 33 [vc_16,v43], .sl v48 50 1 (c_19++[long_1]).length (cc_19++[[vlong_1]]).flatten, .row g2 33 [vc_18,v48], .fr F5] rfl (Wt.none) rfl (dC 5 rfl rfl rfl rfl a7) ?_;refine kI ?_;refine TS.done ?_;refine fh (K.seq (T.region ?_));refine dd ?_;refine jS ?_;rw [←hn20] at hk;refine K.pick [2,3,4,5,6] rfl a6 ?_;exact q4B
    ·have p22:=of_decide_eq_false h22;rw [fR a5,←hkk20] at hk; (try dsimp only at hk);refine ff ?_;exact c4 (c_16,vc_16,c_17,vc_17,cc_17,c_18,vc_18,c_19,vc_19,cc_19,F5) ⟨hk,hc_16,hc_17,inferInstance,hc_18,hc_19,inferInstance,le3_5⟩ (.c (.c (.c .nil))) (List.Sublist.refl _)
  ·rintro ⟨c_11,vc_11,c_12,vc_12,cc_12,c_13,vc_13,c_14,vc_14,cc_14,F4⟩ ⟨hk,hc_11,hc_12,oc_12,hc_13,hc_14,oc_14,le3_4⟩; (try dsimp only at *);rw [←hk15] at hk; (try dsimp only at hk);haveI:=hc_11.oneC;haveI:=hc_13.oneC;refine T.seq ?_;have hq:(db (c_12++[[]]).length 24)∧_:=eQ hk;clear hk;obtain ⟨g54,hk⟩:=hq;have hq:(db (c_14++[[]]).length 24)∧_:=eQ hk;clear hk;obtain ⟨g58,hk⟩:=hq; (try dsimp only at hk);refine dj (ι:=Value×List (List Value)×Value×List (List Value)) (fun z=>[(1, .pointer (some ⟨g1,0,none⟩)),(2, .pointer (some ⟨g2,0,none⟩)),(3,vlong_1)]) (fun z=>[.sl z.1 50 1 (c_12++[[]]).length z.2.1.flatten, .row g1 33 [vc_11,z.1], .sl z.2.2.1 50 1 (c_14++[[]]).length z.2.2.2.flatten, .row g2 33 [vc_13,z.2.2.1], .fr F4]) (fun z=>OneC z.1∧OwnD cG F4.toFrz 1 z.2.1 (c_12++[[]])∧OneC z.2.2.1∧OwnD cG F4.toFrz 1 z.2.2.2 (c_14++[[]])) ?_ ?_
   ·refine dT (.still 0 (.still 1 (.still 4 (.still 5 (.two 2 6 (.two 3 6 (.still 8 (.eff 6 (.eff 7 (.bar 9 (.still 10 (.bar 11 .done)))))) (.eff 3 (.still 8 (.eff 7 (.bar 9 (.still 10 (.bar 11 .done))))))) (.eff 2 (.eff 3 (.still 8 (.eff 7 (.bar 9 (.still 10 (.bar 11 .done)))))))))))) [.row g1 33 [vc_11,vc_12], .row g2 33 [vc_13,vc_14], .fr F4] a8 Sx ?_;refine fY ?_;refine iq ?_;refine cR rfl (cS 1) ?_;refine TS.two ?_ ?_
    ·refine jU ?_;rintro _ _ ⟨g53,rfl,rfl⟩;have hl53:OwnD cG F4.toFrz 1 [[(.slice none 0 0)]] [[]]:=(cP (OwnD.nil _ _ 1) ⟨_,rfl,(SlC.nil _ 2)⟩);refine gZ ?_;refine TS.two ?_ ?_
     ·refine dn rfl (Wt.none) rfl rfl (d8 1 0 rfl rfl rfl rfl rfl rfl (iC (ys:=[[]])) (j4 (cs:=cc_12) (ds:=[[(.slice none 0 0)]])) g54 a6) ?_;rintro v54 _ ⟨hv54,rfl⟩;have ho54:OwnD cG F4.toFrz 1 (cc_12++[[(.slice none 0 0)]]) (c_12++[[]]):=(cP hc_12 ⟨_,rfl,(SlC.nil _ 2)⟩);refine gZ ?_;refine jc ?_;refine jU ?_;rintro _ _ ⟨g57,rfl,rfl⟩;have hl57:OwnD cG F4.toFrz 1 [[(.slice none 0 0)]] [[]]:=(cP (OwnD.nil _ _ 1) ⟨_,rfl,(SlC.nil _ 2)⟩);refine gZ ?_;refine dF ?_;refine q3p ?_;rintro v58 _ ⟨hv58,rfl⟩;have ho58:OwnD cG F4.toFrz 1 (cc_14++[[(.slice none 0 0)]]) (c_14++[[]]):=(cP hc_14 ⟨_,rfl,(SlC.nil _ 2)⟩);refine gZ ?_;refine TS.bar ?_;refine q0N ?_;exact q4C
     ·refine jU ?_;rintro _ _ ⟨g57,rfl,rfl⟩;have hl57:OwnD cG F4.toFrz 1 [[(.slice none 0 0)]] [[]]:=(cP (OwnD.nil _ _ 1) ⟨_,rfl,(SlC.nil _ 2)⟩);refine gZ ?_;refine dF ?_;refine dn rfl (Wt.none) rfl rfl (d8 2 1 rfl rfl rfl rfl rfl rfl (iC (ys:=[[]])) (j4 (cs:=cc_12) (ds:=[[(.slice none 0 0)]])) g54 a6) ?_;rintro v54 _ ⟨hv54,rfl⟩;have ho54:OwnD cG F4.toFrz 1 (cc_12++[[(.slice none 0 0)]]) (c_12++[[]]):=(cP hc_12 ⟨_,rfl,(SlC.nil _ 2)⟩);refine gZ ?_;refine jc ?_;refine q3p ?_;rintro v58 _ ⟨hv58,rfl⟩;have ho58:OwnD cG F4.toFrz 1 (cc_14++[[(.slice none 0 0)]]) (c_14++[[]]):=(cP hc_14 ⟨_,rfl,(SlC.nil _ 2)⟩);refine gZ ?_;refine TS.bar ?_;refine q0N ?_;exact q4C
    ·refine jU ?_;rintro _ _ ⟨g57,rfl,rfl⟩;have hl57:OwnD cG F4.toFrz 1 [[(.slice none 0 0)]] [[]]:=(cP (OwnD.nil _ _ 1) ⟨_,rfl,(SlC.nil _ 2)⟩);refine gZ ?_;refine dF ?_;refine jU ?_;rintro _ _ ⟨g53,rfl,rfl⟩;have hl53:OwnD cG F4.toFrz 1 [[(.slice none 0 0)]] [[]]:=(cP (OwnD.nil _ _ 1) ⟨_,rfl,(SlC.nil _ 2)⟩);refine gZ ?_;refine dF ?_;refine dn rfl (Wt.none) rfl rfl (d8 2 0 rfl rfl rfl rfl rfl rfl (iC (ys:=[[]])) (j4 (cs:=cc_12) (ds:=[[(.slice none 0 0)]])) g54 a6) ?_;rintro v54 _ ⟨hv54,rfl⟩;have ho54:OwnD cG F4.toFrz 1 (cc_12++[[(.slice none 0 0)]]) (c_12++[[]]):=(cP hc_12 ⟨_,rfl,(SlC.nil _ 2)⟩);refine gZ ?_;refine jc ?_;refine dn rfl (Wt.none) rfl rfl (d8 4 1 rfl rfl rfl rfl rfl rfl (iC (ys:=[[]])) (j4 (cs:=cc_14) (ds:=[[(.slice none 0 0)]])) g58 a6) ?_;rintro v58 _ ⟨hv58,rfl⟩;have ho58:OwnD cG F4.toFrz 1 (cc_14++[[(.slice none 0 0)]]) (c_14++[[]]):=(cP hc_14 ⟨_,rfl,(SlC.nil _ 2)⟩);refine gZ ?_;refine TS.bar ?_;refine fc [.row g53 50 [(Value.slice none 0 0)], .row g57 50 [(Value.slice none 0 0)], .sl v54 50 1 (c_12++[[]]).length (cc_12++[[(Value.slice none 0 0)]]).flatten, .row g1 33 [vc_11,v54], .sl v58 50 1 (c_14++[[]]).length (cc_14++[[(Value.slice none 0 0)]]).flatten, .row g2 33 [vc_13,vc_14], .fr F4] rfl (Wt.none) rfl (dC 3 rfl rfl rfl rfl a7) ?_;refine kI ?_;refine iq ?_;refine TS.bar ?_;refine fc [.row g53 50 [(Value.slice none 0 0)], .row g57 50 [(Value.slice none 0 0)], .sl v54 50 1 (c_12++[[]]).length (cc_12++[[(Value.slice none 0 0)]]).flatten, .row g1 33 [vc_11,v54], .sl v58 50 1 (c_14++[[]]).length (cc_14++[[(Value.slice none 0 0)]]).flatten, .row g2 33 [vc_13,v58], .fr F4] rfl (Wt.none) rfl (dC 5 rfl rfl rfl rfl a7) ?_;refine kI ?_;refine TS.done ?_;refine K.pick [2,3,4,5,6] rfl a6 ?_;exact q4C
   ·rintro ⟨vo15_23,co15_23,vo16_24,co16_24⟩ ⟨hvo15_23,ho15_23,hvo16_24,ho16_24⟩; (try dsimp only at *);refine T.seq ?_;refine iU (fun w hw=>hw.freezeS (i:=4) (j:=0) a6 rfl rfl) ?_;rintro F6 ⟨le4_6,hz6⟩;refine gU ?_;have le3_6:=le3_4.trans le4_6;have hf6:=hz6.toD (OwnD.mono (rep:=cG) (fun _ _ _ _=>R_List_GChoice.mono) ho15_23 le4_6) rfl;haveI:=hf6.1.oneC;have hq:=dM hk;clear hk;obtain ⟨r63,hr63,hk⟩:=hq; (try dsimp only at hk);refine ed ?_;refine gY ?_;refine cN (dl [3,0,1,2] [] [.row g1 33 [vc_11,vo15_23], .sl vo16_24 50 1 (c_14++[[]]).length co16_24.flatten, .row g2 33 [vc_13,vo16_24]] rfl rfl rfl rfl a6 (fun w hw hw2 hF=>zh4 _ w hF (GProof.mk c_11 (c_12++[[]])) vc_11 (SlC.mono hc_11 le4_6) vo15_23 co15_23 hf6 fuel r63 hr63)) ?_;rintro _ _ ⟨v63_0_0, -,rfl,rfl⟩;refine q3H ?_;intro iv63_0_0 hmv63_0_0;refine TL.run 5 rfl ?_;refine i3 ?_;refine iU (fun w hw=>hw.freezeS (i:=1) (j:=3) a6 rfl rfl) ?_;rintro F7 ⟨le6_7,hz7⟩;refine gU ?_;have le3_7:=le3_6.trans le6_7;have le4_7:=le4_6.trans le6_7;have hf7:=hz7.toD (OwnD.mono (rep:=cG) (fun _ _ _ _=>R_List_GChoice.mono) ho16_24 le4_7) rfl;haveI:=hf7.1.oneC;have hq:=dM hk;clear hk;obtain ⟨r68,hr68,hk⟩:=hq; (try dsimp only at hk);refine ed ?_;refine cI (dJ 3) ?_;refine cN (dl [1,0,2,3] [] [.sl v63_0_0 5 1 r63.1.length (r63.1.flatMap (eK .u8)), .row g1 33 [vc_11,vo15_23], .row g2 33 [vc_13,vo16_24]] rfl rfl rfl rfl a6 (fun w hw hw2 hF=>zh4 _ w hF (GProof.mk c_13 (c_14++[[]])) vc_13 (SlC.mono hc_13 le4_7) vo16_24 co16_24 hf7 fuel r68 hr68)) ?_;rintro _ _ ⟨v68_0_0, -,rfl,rfl⟩;refine q3H ?_;intro iv68_0_0 hmv68_0_0;refine TL.run 5 rfl ?_;refine i3 ?_;refine iU (fun w hw=>hw.freezeS (i:=1) (j:=2) a6 rfl rfl) ?_;rintro F8 ⟨le7_8,hz8⟩;refine gU ?_;have le3_8:=le3_7.trans le7_8;have le4_8:=le4_7.trans le7_8;have le6_8:=le6_7.trans le7_8;have hf8:=hz8.toF rfl (fun _=>rfl);haveI:=hf8.oneC;have hq:=dM hk;clear hk;obtain ⟨r73,hr73,hk⟩:=hq; (try dsimp only at hk);refine fo ?_;refine cN (eh 1 rfl rfl rfl rfl (fun w hw hF=>zeg _ w hF r63.1 v63_0_0 hf8 r73 hr73)) ?_;rintro _ _ ⟨⟨v73_0_0,v73_0_1,cs73_0_1⟩,F9,le8_9,⟨hf73_0_0,hf73_0_1⟩,rfl,rfl⟩;dsimp only at hf73_0_0 hf73_0_1 ⊢;have le3_9:=le3_8.trans le8_9;have le4_9:=le4_8.trans le8_9;have le6_9:=le6_8.trans le8_9;have le7_9:=le7_8.trans le8_9;haveI:=hf73_0_0.oneC;haveI:=hf73_0_1.1.oneC;refine eM ?_;refine fQ ?_;rintro _ _ ⟨g10,rfl,rfl⟩;refine kr ?_;refine kx ?_;have hq:(db 65537 1)∧_:=eQ hk;clear hk;obtain ⟨g77,hk⟩:=hq;have hq:=dM hk;clear hk;obtain ⟨r78,hr78,hk⟩:=hq; (try dsimp only at hk);refine ed ?_;refine cN (Ew.cc (n':=65537) (enc:=(eK .u8)) (u:=0) rfl rfl rfl (show (65537:Int)=((65537:Nat):Int) from rfl) g77 a6 a6 (fun _=>rfl) rfl) ?_;rintro v77 _ ⟨hv77,rfl⟩;refine fB 0 rfl ?_;intro iv77 hmv77;refine i4 (fun w hw=>hw.freezeS (i:=3) (j:=0) a6 rfl rfl) ?_;rintro F10 ⟨le9_10,hz10⟩;refine gU ?_;have le3_10:=le3_9.trans le9_10;have le4_10:=le4_9.trans le9_10;have le6_10:=le6_9.trans le9_10;have le7_10:=le7_9.trans le9_10;have hf10:=hz10.toF rfl (fun _=>rfl);haveI:=hf10.oneC;refine cN (eh 2 rfl rfl rfl rfl (fun w hw hF=>zeg _ w hF (List.replicate 65537 0) v77 hf10 r78 hr78)) ?_;rintro _ _ ⟨⟨v78_0_0,v78_0_1,cs78_0_1⟩,F11,le10_11,⟨hf78_0_0,hf78_0_1⟩,rfl,rfl⟩;dsimp only at hf78_0_0 hf78_0_1 ⊢;have le3_11:=le3_10.trans le10_11;have le4_11:=le4_10.trans le10_11;have le6_11:=le6_10.trans le10_11;have le7_11:=le7_10.trans le10_11;have le9_11:=le9_10.trans le10_11;haveI:=hf78_0_0.oneC;haveI:=hf78_0_1.1.oneC;refine eM ?_;refine fQ ?_;rintro _ _ ⟨g12,rfl,rfl⟩;refine kr ?_;refine dd ?_;refine jB ?_; (try dsimp only at hk);have hq:=eP hk;clear hk;obtain ⟨k26,hk26,hk⟩:=hq; (try dsimp only at hk);refine dj (ι:=Bool) (fun z=>[(1, .pointer (some ⟨g1,0,none⟩)),(3,vlong_1),(110, .bool z)]) (fun z=>[.row g1 33 [vc_11,vo15_23], .fr F11]) (fun z=>k26 z=some r) ?_ ?_
    ·refine ed ?_;refine eM ?_;refine dQ rfl rfl rfl (fun h27=>?_) (fun h27=>?_)
     ·have p27:=of_decide_eq_true h27;replace hk:=dy hk h27;refine TL.run 27 rfl ?_;refine q2x ?_;exact q36
     ·have p27:=of_decide_eq_false h27;replace hk:=dz hk h27;refine TL.run 4 rfl ?_;refine dQ rfl rfl rfl (fun h28=>?_) (fun h28=>?_)
      ·have p28:=of_decide_eq_true h28;replace hk:=dy hk h28;refine TL.run 23 rfl ?_;refine q2x ?_;exact q36
      ·have p28:=of_decide_eq_false h28;replace hk:=dz hk h28;refine TL.run 4 rfl ?_;refine dQ rfl rfl rfl (fun h29=>?_) (fun h29=>?_)
       ·have p29:=of_decide_eq_true h29;replace hk:=dy hk h29;refine TL.run 19 rfl ?_;refine q2x ?_;exact q36
       ·have p29:=of_decide_eq_false h29;replace hk:=dz hk h29;refine TL.run 4 rfl ?_;refine dQ rfl rfl rfl (fun h30=>?_) (fun h30=>?_)
        ·have p30:=of_decide_eq_true h30;replace hk:=dy hk h30;refine TL.run 15 rfl ?_;refine q2x ?_;exact q36
        ·have p30:=of_decide_eq_false h30;replace hk:=dz hk h30;refine kX ?_;refine cI (dA rfl rfl (SlD.mono (rep:=cG) (fun _ _ _ _=>R_List_GChoice.mono) hf73_0_1 le9_11).1 (SlD.mono (rep:=cG) (fun _ _ _ _=>R_List_GChoice.mono) hf73_0_1 le9_11).2.1) ?_;have hm98:r73.1.Lemmas.length≤9223372036854775807:=(SlD.mono (rep:=cG) (fun _ _ _ _=>R_List_GChoice.mono) hf73_0_1 le9_11).2.1▸(SlD.mono (rep:=cG) (fun _ _ _ _=>R_List_GChoice.mono) hf73_0_1 le9_11).1.max;refine eM ?_;refine dQ rfl rfl rfl (fun h31=>?_) (fun h31=>?_)
         ·have p31:=of_decide_eq_true h31;replace hk:=dy hk h31;refine TL.run 9 rfl ?_;refine q2x ?_;exact q36
         ·have p31:=of_decide_eq_false h31;replace hk:=dz hk h31;refine cI (dJ 4) ?_;have hq:=dM hk;clear hk;obtain ⟨r103,hr103,hk⟩:=hq;refine cN (cL rfl rfl rfl (fun w hw=>zbQ _ w (hw.fr (i:=3) rfl) (GProof.mk c_11 (c_12++[[]])) vc_11 (SlC.mono hc_11 le4_11) vo15_23 co15_23 (SlD.mono (rep:=cG) (fun _ _ _ _=>R_List_GChoice.mono) hf6 le6_11) r103 hr103)) ?_;refine ex ?_;refine eM ?_;refine dQ rfl rfl rfl (fun h32=>?_) (fun h32=>?_)
          ·replace hk:=dy hk h32;refine TL.run 4 rfl ?_;refine q2x ?_;exact q36
          ·replace hk:=dz hk h32;refine cI (dJ 5) ?_;have hq:=dM hk;clear hk;obtain ⟨r108,hr108,hk⟩:=hq;refine cN (cL rfl rfl rfl (fun w hw=>zbQ _ w (hw.fr (i:=3) rfl) (GProof.mk c_13 (c_14++[[]])) vc_13 (SlC.mono hc_13 le4_11) vo16_24 co16_24 (SlD.mono (rep:=cG) (fun _ _ _ _=>R_List_GChoice.mono) hf7 le7_11) r108 hr108)) ?_;refine lO ?_;refine K.pick [4,3] rfl a6 ?_;exact c4 (!r108) hk (.c (.c (.c .nil))) (List.Sublist.refl _)
    ·rintro x_25 hk;rw [←hk26] at hk; (try dsimp only at hk);refine T.cond rfl (fun h33=>?_) (fun h33=>?_)
     ·replace hk:=dy hk h33;refine gF ?_;obtain rfl:=Option.some.inj hk;exact fw
     ·replace hk:=dz hk h33;refine iR ?_;have hq:(0≤1∧1≤(long_1.length:Int))∧_:=eQ hk;clear hk;obtain ⟨g112h,hk⟩:=hq;have hq:(db (([(long_1.take 1)]:List (List GChoice))++(c_12++[[]])).length 24)∧_:=eQ hk;clear hk;obtain ⟨g116,hk⟩:=hq; (try dsimp only at hk);refine dj (ι:=Value×List (List Value)) (fun z=>[(1, .pointer (some ⟨g1,0,none⟩))]) (fun z=>[.sl z.1 50 1 (([(long_1.take 1)]:List (List GChoice))++(c_12++[[]])).length z.2.flatten, .row g1 33 [vc_11,z.1], .fr F11]) (fun z=>OneC z.1∧OwnD cG F11.toFrz 1 z.2 (([(long_1.take 1)]:List (List GChoice))++(c_12++[[]]))) ?_ ?_
      ·refine dT (.still 0 (.still 1 (.still 3 (.two 2 4 (.eff 4 (.eff 5 (.still 6 (.eff 7 .done)))) (.eff 2 (.eff 5 (.still 6 (.eff 7 .done)))))))) [.fr F11] a8 Sx ?_;refine gR ?_;refine cR rfl (k7 (i:=1) rfl rfl rfl (SlC.mono hf3 le3_11) (List.length_map _) (show (1:Int)=((1:Nat):Int) from rfl) a5) ?_;have hs112_:SlC F3.toFrz (gh vlong_1 0 1 2) 2 ((long_1.take 1).map cM):=hf3.sliceh (i:=1) a5;haveI:=hs112_.oneC;refine iq ?_;refine TS.two ?_ ?_
       ·refine jU ?_;rintro _ _ ⟨g113,rfl,rfl⟩;have hl113:OwnD cG F11.toFrz 1 [[(gh vlong_1 0 1 2)]] ([(long_1.take 1)]:List (List GChoice)):=(cP (OwnD.nil _ _ 1) ⟨_,rfl,(SlC.mono hs112_ le3_11)⟩);refine q23 ?_;refine dF ?_;refine fI rfl (Wt.none) rfl rfl (cS 1) (fun w hw=>hw.sub Sx) ?_;refine q1r ?_;rintro v116 _ ⟨hv116,rfl⟩;have ho116:OwnD cG F11.toFrz 1 ([[(gh vlong_1 0 1 2)]]++co15_23) (([(long_1.take 1)]:List (List GChoice))++(c_12++[[]])):=jZ hl113 (SlD.mono (rep:=cG) (fun _ _ _ _=>R_List_GChoice.mono) hf6 le6_11);refine q3W ?_;exact q4W
       ·refine fI rfl (Wt.none) rfl rfl (cS 0) (fun w hw=>hw.sub Sx) ?_;refine dF ?_;refine jU ?_;rintro _ _ ⟨g113,rfl,rfl⟩;have hl113:OwnD cG F11.toFrz 1 [[(gh vlong_1 0 1 2)]] ([(long_1.take 1)]:List (List GChoice)):=(cP (OwnD.nil _ _ 1) ⟨_,rfl,(SlC.mono hs112_ le3_11)⟩);refine q23 ?_;refine q1r ?_;rintro v116 _ ⟨hv116,rfl⟩;have ho116:OwnD cG F11.toFrz 1 ([[(gh vlong_1 0 1 2)]]++co15_23) (([(long_1.take 1)]:List (List GChoice))++(c_12++[[]])):=jZ hl113 (SlD.mono (rep:=cG) (fun _ _ _ _=>R_List_GChoice.mono) hf6 le6_11);refine q3W ?_;exact q4W
      ·rintro ⟨vo34_34,co34_34⟩ ⟨hvo34_34,ho34_34⟩; (try dsimp only at *);refine T.seq ?_;refine iU (fun w hw=>hw.freezeS (i:=2) (j:=0) a6 rfl rfl) ?_;rintro F12 ⟨le11_12,hz12⟩;refine gU ?_;have le4_12:=le4_11.trans le11_12;have hf12:=hz12.toD (OwnD.mono (rep:=cG) (fun _ _ _ _=>R_List_GChoice.mono) ho34_34 le11_12) rfl;haveI:=hf12.1.oneC;have hq:=dM hk;clear hk;obtain ⟨r119,hr119,hk⟩:=hq; (try dsimp only at hk);have hq:=eP hk;clear hk;obtain ⟨k36,hk36,hk⟩:=hq; (try dsimp only at hk);refine dj (ι:=Bool) (fun z=>[(0, .bool z)]) (fun z=>[.fr F12]) (fun z=>k36 z=some r) ?_ ?_
       ·refine ed ?_;refine gY ?_;refine cN (cL rfl rfl rfl (fun w hw=>zbQ _ w (hw.fr (i:=1) rfl) (GProof.mk c_11 (([(long_1.take 1)]:List (List GChoice))++(c_12++[[]]))) vc_11 (SlC.mono hc_11 le4_12) vo34_34 co34_34 hf12 r119 hr119)) ?_;refine ex ?_;refine d5 ?_;refine dQ rfl rfl rfl (fun h37=>?_) (fun h37=>?_)
        ·replace hk:=dy hk h37;have hq:=dM hk;clear hk;obtain ⟨r122,hr122,hk⟩:=hq;refine cN (cL rfl rfl rfl (fun w hw=>zgZ _ w (hw.fr (i:=1) rfl) (htab.keptF hw) fuel hfu r122 hr122)) ?_;refine lO ?_;refine K.pick [1] rfl a6 ?_;exact c4 r122 hk (.c .nil) (List.Sublist.refl _)
        ·replace hk:=dz hk h37;refine lZ ?_;refine K.pick [1] rfl a6 ?_;exact q4y
       ·rintro x_35 hk;rw [←hk36] at hk; (try dsimp only at hk);refine T.ret ?_;obtain rfl:=Option.some.inj hk;exact fw
def wr (out:List Int):GWriter:=if out.length≤65536 then ⟨⟨0⟩,out⟩ else ⟨⟨7⟩,[]⟩
theorem zg6 {fuel:Nat}{out:List Int}{n:Int}(hf:20≤fuel)(hn:0≤n∧n≤9223372036854775807):lG fuel (wr out) n=some (wr (out++dw n.toNat)):=by
 by_cases h:out.length≤65536
 ·have e:wr out=⟨⟨0⟩,out⟩:=if_pos h;rw [e];unfold lG
  show (bif decide (n<0) then none else (zbP fuel out (BitVec.ofInt 64 n)).bind _)=_
  rw [decide_eq_false a5,cond_false,zlw hf a5,show (BitVec.ofInt 64 n).toNat=n.toNat from by rw [BitVec.toNat_ofInt];omega,Option.bind_some];unfold wr zjv;by_cases h2:(out++dw n.toNat).length≤65536
  ·rw [if_pos h2,decide_eq_false a5];rfl
  ·rw [if_neg h2,decide_eq_true a5];rfl
 ·have e:wr out=⟨⟨7⟩,[]⟩:=if_neg h;have e2:wr (out++dw n.toNat)=⟨⟨7⟩,[]⟩:=if_neg (by rw [List.length_append];omega);rw [e,e2];rfl
theorem zni (out:List Int):zav (wr out)=some (if out.length≤65536 then (out,0) else ([],7)):=by
 unfold wr zav;by_cases h:out.length≤65536
 ·rw [if_pos h,if_pos h,decide_eq_false (fun h=>h rfl),cond_false]
  show (if db ([]++out).length 1 then some ([]++out,(0:Int)) else none)=_
  rw [List.nil_append,if_pos (by unfold db;omega)]
 ·rw [if_neg h,if_neg h];rfl
theorem zme {ρ α:Type}[Inhabited α]{l:List α}{g:α→List Int}{f:Nat→(GWriter→ρ)→GWriter→ρ}{k:GWriter→ρ}{s0:List Int}(hf:∀i next s,i<l.length→f i next (wr s)=next (wr (s++g (cH l i)))):di f k (l.length - 0) 0 (wr s0)=k (wr (s0++l.flatMap g)):=by
 have key:∀m i s,i+m=l.length→di f k m i (wr s)=k (wr (s++(l.drop i).flatMap g)):=by
  intro m
  induction m with
  |zero=>intro i s e;rw [List.drop_eq_nil_of_le a5,List.flatMap_nil,List.append_nil];rfl
  |succ m ih=>
   intro i s e;rw [List.drop_eq_getElem_cons (show i<l.length by omega),List.flatMap_cons,←dW (show i<l.length by omega),←List.append_assoc];rw [←ih (i+1) (s++g (cH l i)) a5];exact hf i _ s a5
 have:=key (l.length - 0) 0 s0 a5
 rwa [List.drop_zero] at this
theorem zhH {fuel:Nat}{x:GProof}(hf:20≤fuel)(hok:jV x=true):zds fuel x=some (if (eL x).length≤65536 then (eL x,0) else ([],7)):=by
 have hx:=zka hok;have a:=hx.ns;have b:=hx.nl
 have hw:∀(out:List Int) (n:Nat),n≤5000→lG fuel (wr out) (n:Int)=some (wr (out++dw n)):=fun out n h1=>by
  rw [zg6 hf a5];rfl
 have e0:GWriter.mk (Gfault.mk 0) []=wr []:=(if_pos a6).symm;unfold zds;rw [zeQ,Option.bind_some,hok,Bool.not_true,cond_false,e0,hw [] x.Stations.length a5,Option.bind_some,List.nil_append];simp only [dS];refine (zme (l:=x.Stations) (g:=fA) (fun i next s hi=>?_)).trans ?_
 ·rw [zg6 hf (by have:=hx.st _ (gp hi);omega)];rfl
 rw [hw _ x.Lemmas.length a5,Option.bind_some];refine (zme (l:=x.Lemmas) (g:=ft) (fun i next s hi=>?_)).trans ?_
 ·have hg:=hx.g _ (gp hi);have hn:=zfH hg; (have e:s++ft (cH x.Lemmas i)=(s++dw (cH x.Lemmas i).length)++(cH x.Lemmas i).flatMap kq:=by unfold ft;rw [List.append_assoc]);rw [e,hw s (cH x.Lemmas i).length a5,Option.bind_some];refine zme (l:=cH x.Lemmas i) (g:=kq) (fun k nx s hk=>?_);have hc:=hg.good _ (gp hk); (have e:s++kq (cH (cH x.Lemmas i) k)=(s++fA (cH (cH x.Lemmas i) k).Station)++fA (cH (cH x.Lemmas i) k).Channel:=by unfold kq;rw [List.append_assoc]);rw [e,zg6 hf a5,Option.bind_some]
  show (lG fuel (wr (s++fA (cH (cH x.Lemmas i) k).Station)) _).bind _=_
  rw [zg6 hf a5];rfl
 (have e:((dw x.Stations.length++x.Stations.flatMap fA)++dw x.Lemmas.length)++x.Lemmas.flatMap ft=eL x:=by unfold eL;simp only [List.append_assoc]);rw [zni,e];rfl
def limC:List GChoice:=(List.range 10).map fun (i:Nat)=>⟨300+(i:Int),51⟩
def limS:List Int:=(List.range 10).map fun (i:Nat)=>300+(i:Int)
def eS (g:List GChoice):List (List GChoice):=List.replicate 4095 g++[[]]
theorem lim1 {ρ : Type} (k : (List GChoice × List Int × List (List GChoice)) → Option ρ) : di (fun (i : Nat) (next : (List GChoice × List Int × List (List GChoice)) → Option ρ) (s : List GChoice × List Int × List (List GChoice)) =>
      d4 (db (s.2.1 ++ [(300 + (i : Int))]).length 8) <|
      d4 (db (s.1 ++ [(GChoice.mk (300 + (i : Int)) 51)]).length 16) <|
      next ((s.1 ++ [(GChoice.mk (300 + (i : Int)) 51)]), (s.2.1 ++ [(300 + (i : Int))]), s.2.2)) k (10 - 0) 0 ([], [], []) = k (limC, limS, []) := by kernel_rfl
theorem lim2 {ρ : Type} {a b : List GChoice} {st : List Int} (k : (List Int × List (List GChoice) × List Int × List (List GChoice)) → Option ρ) (f : Nat → ((List Int × List (List GChoice) × List Int × List (List GChoice)) → Option ρ) → (List Int × List (List GChoice) × List Int × List (List GChoice)) → Option ρ)
    (hf : ∀ i next s, s.2.1.length ≤ 5000 → s.2.2.2.length ≤ 5000 → f i next s = next (s.1, s.2.1 ++ [a], s.2.2.1, s.2.2.2 ++ [b])) : ∀ m i (u v : List (List GChoice)), u.length + m ≤ 5000 → v.length + m ≤ 5000 → di f k m i (st, u, st, v) = k (st, u ++ List.replicate m a, st, v ++ List.replicate m b)
  | 0, i, u, v, _, _ => by rw [List.replicate_zero, List.append_nil, List.replicate_zero, List.append_nil]; rfl
  | m + 1, i, u, v, h1, h2 => by
    have h := lim2 (st := st) k f hf m (i + 1) (u ++ [a]) (v ++ [b]) (by rw [List.length_append]; simp; omega) (by rw [List.length_append]; simp; omega); rw [List.replicate_succ, List.replicate_succ, ← List.singleton_append, ← List.append_assoc, ← List.singleton_append (l := List.replicate m b), ← List.append_assoc v, ← h]; exact hf i _ _ (by dsimp only; omega) (by dsimp only; omega)
theorem zea (g:List GChoice):(eS g).length=4096:=by unfold eS;rw [List.length_append,List.length_replicate];rfl
theorem zkQ (g:List GChoice){i:Nat}(h:i<4096):cH (eS g) i=if i<4095 then g else []:=by
 unfold eS;by_cases h1:i<4095
 ·rw [if_pos h1,dW (by rw [List.length_append,List.length_replicate];omega),List.getElem_append_left (by rw [List.length_replicate];exact h1),List.getElem_replicate]
 ·(obtain rfl:i=4095:=by omega);rw [if_neg a5,dW (by rw [List.length_append,List.length_replicate];decide),List.getElem_append_right (by rw [List.length_replicate];omega)];simp
theorem zlS {g:List GChoice}(h1:kc g=true)(h2:g.length≠0)(h3:(g.all fun c=>jb limS c.Station)=true):jV ⟨limS,eS g⟩=true:=by
 unfold jV;rw [Bool.and_eq_true,Bool.and_eq_true];refine ⟨by kernel_rfl,?_,List.all_eq_true.2 fun i hi=>?_⟩
 ·show (!(decide (((eS g).length:Int)<1)||decide (4096<((eS g).length:Int))))=true
  rw [zea];rfl
 ·have hi:i<4096:=by
   have:=List.mem_range.1 hi
   rwa [show (GProof.mk limS (eS g)).Lemmas.length=4096 from zea g] at this
  unfold okL
  show ((kc (cH (eS g) i)&&(decide (((cH (eS g) i).length:Int)=0) == decide ((i:Int)=(((eS g).length:Int) - 1))))&&(cH (eS g) i).all fun c=>jb limS c.Station)=true
  rw [zkQ g hi,zea];by_cases h:i<4095
  ·rw [if_pos h,h1,h3,decide_eq_false a5,decide_eq_false a5];rfl
  ·rw [if_neg h,decide_eq_true (show (i:Int)=((4096:Nat):Int) - 1 by omega)]
   kernel_rfl
theorem zmi {u:List (List GChoice)}(h:4096<u.length):jV ⟨limS,u⟩=false:=by
 unfold jV;have:decide (4096<(u.length:Int))=true:=decide_eq_true a5
 show (kT limS&&(!(decide ((u.length:Int)<1)||decide (4096<(u.length:Int))))&&_)=false
 rw [this,Bool.or_true,Bool.not_true,Bool.and_false,Bool.false_and]
theorem zlH:∀(g:List GChoice),2*g.length≤(g.flatMap kq).length
 | []=>Nat.le_refl _
 |c :: g=>by
  have:=zlH g;have a:=(show 1≤(dw c.Station.toNat).length from zg3 _);have b:=(show 1≤(dw c.Channel.toNat).length from zg3 _); (have e:(kq c).length=(dw c.Station.toNat).length+(dw c.Channel.toNat).length:=by unfold kq fA;rw [List.length_append]);rw [List.flatMap_cons,List.length_append,List.length_cons];omega
theorem zjI {g:List GChoice}{q:Nat}(h:q≤(ft g).length):∀n,n*q≤((List.replicate n g++[[]]).flatMap ft).length
 |0=>by omega
 |n+1=>by
  have:=zjI h n;rw [List.replicate_succ,List.cons_append,List.flatMap_cons,List.length_append,Nat.add_mul];omega
theorem zmY {st:List Int}{u:List (List GChoice)}{q:Nat}(h:q≤(u.flatMap ft).length):q≤(eL ⟨st,u⟩).length:=by
 unfold eL;simp only [List.length_append];omega
theorem zmG {g:List GChoice}{q:Nat}(h:q≤(ft g).length):4095*q≤((eS g).flatMap ft).length:=zjI h 4095
theorem zlE:21≤(ft limC).length:=by
 have h:=zlH limC;have h2:1≤(dw limC.length).length:=zg3 _; (have h3:limC.length=10:=by decide);unfold ft;rw [List.length_append];omega
theorem zlf {g x:List GChoice}(h:x∈eS g):x=g∨x=[]:=by
 unfold eS at h;rcases List.mem_append.1 h with h|h
 ·exact .inl (List.eq_of_mem_replicate h)
 ·exact .inr (List.mem_singleton.1 h)
theorem zkX {b:List Int}(h:65536<b.length):zbh b=some (GProof.mk [] [],5):=by
 unfold zbh;rw [decide_eq_true a5,cond_true]
theorem znq {g:List GChoice}(h1:g.length≤1)(ha:jV ⟨limS,eS g⟩=true):(eL ⟨limS,eS g⟩).length≤65536:=by
 have:=x_n (zka ha) (m:=1) fun x hx=>by
  rcases zlf hx with h|h
  ·rw [h];exact h1
  ·rw [h];decide
 have e1:(GProof.mk limS (eS g)).Stations.length=10:=(by decide:limS.length=10);have e2:(GProof.mk limS (eS g)).Lemmas.length=4096:=zea _;rw [e1,e2] at this;omega
theorem zi6 {σ ρ:Type}(f:σ→ρ)(g:(σ→ρ)→ρ):dS f g=g f:=rfl
theorem zgY {fuel:Nat}(hf:100000≤fuel):zbR fuel=some true:=by
 have ha:jV ⟨limS,eS (limC.take 1)⟩=true:=zlS a8 a6 a8;have hb:jV ⟨limS,eS limC⟩=true:=zlS a8 a6 a8;have la:=znq a6 ha;have lb:4095*21≤(eL ⟨limS,eS limC⟩).length:=zmY (zmG zlE);have eA:(eS (limC.take 1)).length=4096:=zea _;have eB:(eS limC).length=4096:=zea _;have hd:zbh (List.replicate 65537 0)=some (GProof.mk [] [],5):=zkX (by rw [List.length_replicate];omega);unfold zbR;rw [zi6];refine (lim1 _).trans ?_;dsimp only;rw [zi6];refine (lim2 (a:=limC.take 1) (b:=limC) (st:=limS) _ _ (fun i next s h1 h2=>?_) (4096 - 1) 1 [] [] a6 a6).trans ?_
 ·rw [gG a6,gG (by unfold db;rw [List.length_append];simp;omega),gG (by unfold db;rw [List.length_append];simp;omega)]
 rw [hd];dsimp only;rw [List.nil_append,List.nil_append,show List.replicate (4096 - 1) (limC.take 1)++[[]]=eS (limC.take 1) from rfl,show List.replicate (4096 - 1) limC++[[]]=eS limC from rfl];generalize eS (limC.take 1)=A at *;generalize eS limC=B at *;simp only [dS];rw [eA,gG (by unfold db;omega),eB,gG (by unfold db;omega),zhH a5 ha,if_pos la,Option.bind_some,zhH a5 hb,if_neg a5,Option.bind_some];dsimp only;rw [zhc ha la,Option.bind_some,gG (by unfold db;omega),Option.bind_some];dsimp only;rw [eA,decide_eq_false (fun h=>h rfl),cond_false,decide_eq_false (fun h=>h rfl),cond_false,decide_eq_false (fun h=>h rfl),cond_false,decide_eq_false (fun h=>h rfl),cond_false,cond_false];rw [zeQ,ha,Option.bind_some,Bool.not_true,cond_false,zeQ,hb,Option.bind_some,Bool.not_true,cond_false,gG a6]; (have e5:([limC.take 1]++A).length=4097:=by rw [List.length_append,eA];rfl);rw [e5,gG (by unfold db;omega),zeQ,zmi (by rw [e5];omega),Option.bind_some,Bool.not_false,cond_true,zkf hf]
 rfl
end Go.Proofs.YtogbggmckmnlfaaGreatDoor
namespace Go.Proofs.YtogbggmckmnlfaaGreatDoor
open Go.RowKit Go.ChangeShapes Go.WideShapes Go.Deep
def Opens {H:Type}(enc:TypeId×Value→H)(w:World)(base:Nat)(spare:Nat→Bool)(held:Bool)(t:TypeId){α:Type}(R:List Value→α→Prop):Prop:=
 ∀fuel cs y,DataW.trod enc Tryz.prog w base spare held fuel t cs=some y→∃x,R cs x
section
variable {H:Type}{enc:TypeId×Value→H}{w:World}{base:Nat}{spare:Nat→Bool}{held:Bool}
theorem Opens.int {t:TypeId}(ht:Tryz.prog.underlying t=some (.int .i64)):Opens enc w base spare held t (fun cs (x:Int)=>cs=[.int .i64 x]):=fun fuel cs y h=>by
 obtain ⟨k,hk,_⟩:=DataW.trod_int ht h;exact ⟨k,hk⟩
theorem zmf {a:Addr}{v:Value}(h:w.cell? a=some v):Cb w a.block:=by
 unfold World.cell? at h
 split at h
 all_goals (first|exact ⟨_,_,_,by assumption⟩|simp at h|skip)
theorem Opens.any {t e : TypeId} {k : Nat} {α : Type} [Inhabited α] {R : List Value → α → Prop} (ht : Tryz.prog.underlying t = some (.slice e)) (hk : Tryz.prog.cellsOf e = k) (hpos : 0 < k) (ho : Opens enc w base spare held e R) :
    Opens enc w base spare held t (fun cs (l : List α) => ∃ v c, cs = [v] ∧ SlC (Frz.all w) v k c ∧ c.length = l.length ∧ ∀ i, i < l.length → R (cH c i) (cH l i)) := fun fuel cs y h => by
  rcases open_slice ht h with ⟨h0, _⟩ | ⟨a, len, cap, m, n, D, Pl, hcs, hb, hl, hm, hmm, _, hx⟩
  · exact ⟨[], _, [], h0, SlC.nil _ _, rfl, fun i hi => absurd hi (Nat.not_lt_zero i)⟩
  · subst hcs; (have hlm : len ≤ m := by rw [hmm]; split <;> omega)
    have each : ∀ i, i < m → ∃ x : List Value × α, x.1.length = k ∧ R x.1 x.2 ∧ ∀ j, j < k → w.cell? (a.add (i * k + j)) = x.1[j]? := fun i hi => by
      obtain ⟨cs', h1, h2⟩ := hx i hi; rw [hk] at h1; obtain ⟨_, hlen, hcell⟩ := World.cells?_some h1; obtain ⟨x, hR⟩ := ho _ _ _ h2; exact ⟨(cs', x), hlen, hR, fun j hj => by rw [← hcell j hj, add_add]⟩
    obtain ⟨X, hX⟩ := choose_lt each
    have hn : ∀ i, i < len → cH ((List.range len).map fun i => (X i).1) i = (X i).1 := fun i hi => by
      rw [dW (by simpa using hi)]; simp
    have hn2 : ∀ i, i < len → cH ((List.range len).map fun i => (X i).2) i = (X i).2 := fun i hi => by
      rw [dW (by simpa using hi)]; simp
    refine ⟨(List.range len).map fun i => (X i).2, _, (List.range len).map fun i => (X i).1, rfl, ⟨some a, cap, by simp, by simpa using hl, by unfold maxLen at hm; omega, fun c hc => ?_, fun hp => ?_⟩, by simp, fun i hi => ?_⟩
    · simp at hc; obtain ⟨i, hi, rfl⟩ := hc; exact (hX i a5).1
    · (have hp' : 0 < len := by simpa using hp); have c0 := (hX 0 a5).2.2 0 hpos; have hx0 := (hX 0 a5).1; rw [List.getElem?_eq_getElem a5] at c0; have hcb := zmf c0; have hs := World.cell?_spot c0; simp [Addr.add] at hs hcb; obtain ⟨b, off, sp⟩ := a; simp at hs hcb; subst hs; refine ⟨b, off, rfl, hcb, fun i hi j hj => ?_⟩; simp at hi; rw [hn i hi] at hj ⊢; have hxi := hX i a5; have := hxi.2.2 j a5;refine Eq.trans ?_ this
      show w.cell? _ = _
      rw [zdA, Nat.add_assoc]
    · simp at hi; rw [hn i hi, hn2 i hi]; exact (hX i a5).2.1
theorem Opens.bytes {t e : TypeId} (ht : Tryz.prog.underlying t = some (.slice e)) (he : Tryz.prog.underlying e = some (.int .u8)) (hk : Tryz.prog.cellsOf e = 1) :
    Opens enc w base spare held t (fun cs (l : List Int) => ∃ v, cs = [v] ∧ SlC (Frz.all w) v 1 (l.map (eK .u8)) ∧ ∀ x ∈ l, 0 ≤ x ∧ x ≤ 255) := fun fuel cs y h => by
  have ho : Opens enc w base spare held e (fun cs (x : Int) => cs = eK .u8 x ∧ (0 ≤ x ∧ x ≤ 255)) := fun fuel cs y h => by
    obtain ⟨k, h1, _, h2⟩ := DataW.trod_int he h;refine ⟨k, h1, ?_⟩; (have e1 : IntKind.u8.min = 0 := by decide); (have e2 : IntKind.u8.max = 255 := by decide); simp only [Lit.wf, e1, e2, Bool.and_eq_true, decide_eq_true_eq] at h2; exact h2
  obtain ⟨l, v, c, h1, h2, h3, h4⟩ := Opens.any ht hk a6 ho _ _ _ h; refine ⟨l, v, h1, ?_, fun x hx => ?_⟩
  · have : c = l.map (eK .u8) := by
      apply List.ext_getElem (by simpa using h3); intro i hi hi2; rw [← dW hi, (h4 i a5).1, List.getElem_map, dW a5]
    rw [← this]; exact h2
  · obtain ⟨i, hi, e⟩ := List.mem_iff_getElem.1 hx; have := (h4 i hi).2; rw [dW hi, e] at this; exact this
end
end Go.Proofs.YtogbggmckmnlfaaGreatDoor
