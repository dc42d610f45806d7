/- Ys Ng Nh Ni Of: shortened and put together by squeeze.py. -/
import Derived.Test.YtbpbhbkcahcdiaaGreatDoorQ11
import Derived.Deep.Slices
import Derived.ChangeArms
set_option maxRecDepth 100000
set_option maxHeartbeats 4000000
set_option linter.unusedVariables false
set_option linter.unusedSectionVars false
set_option linter.unusedSimpArgs false
namespace Go.Proofs.YtbpbhbkcahcdiaaGreatDoor
open Go.RowKit
def zb0 (fuel:Nat)(x0_:GStore):Option (List (List GChoice)×Bool):=
 grd (∀x∈x0_.list,room x.length 16) <|
 zax (fun (s5:List (List GChoice)×Bool×List (List GChoice))=>
  some (s5.2.2,true))
 (fun k5=>
  zax (fun (s9:List (List GChoice)×Bool×List (List GChoice))=>
   some (s9.1,s9.2.1))
  (fun kr9=>
   zai (fun (i9:Nat) (next9:(List (List GChoice)×Bool×List (List GChoice))→Option (List (List GChoice)×Bool)) (s9:List (List GChoice)×Bool×List (List GChoice))=>
    (bif decide (¬(i9:Int)=(s9.2.2.length:Int)) then
     kr9 ([],false,s9.2.2)
     else
     grd (room ([]++(nth x0_.list i9)).length 16) <|
     grd (room (s9.2.2++[([]++(nth x0_.list i9))]).length 24) <|
     zbd (fun (next14:(Int×List GChoice)→Option (List (List GChoice)×Bool)) (s14:Int×List GChoice)=>
      (bif decide (s14.1<(s14.2.length:Int)) then
       grd (0≤s14.1∧s14.1<(s14.2.length:Int)) <|
       next14 ((s14.1+1),(s14.2.set s14.1.toNat (GChoice.mk ((nth s14.2 s14.1.toNat).Station) 1)))
       else
       next9 (s9.1,s9.2.1,(s9.2.2++[([]++(nth x0_.list i9))])))) fuel (0,(nth x0_.list i9))))
   (fun (s9:List (List GChoice)×Bool×List (List GChoice))=>
    k5 (s9.1,s9.2.1,s9.2.2)) (x0_.list.length - 0) 0 ([],false,[])))
theorem zfR (F0:Frz)(w:World)(hF0:F0.At w)(x0_:GStore)(g0_:Nat)(k0_512:SK)(v0_512:Value)(L0_512:Ws)(hs0_512:SI x0_.start.1 x0_.start.2 k0_512 L0_512)(tf0_512:TbF F0 k0_512)(zf0_512:SzF F0 k0_512 v0_512 L0_512 (!x0_.start.2.2))(v0_513:Value)(c0_513:List (List Value))(h0_513:OwnD R_List_GChoice.rep F0 1 c0_513 x0_.list)(hO:Hp w (fps [.row g0_ 92 ((x0_.domains.1.map U)++[.pointer (some ⟨k0_512.sp,0,none⟩),v0_513]), .sl v0_513 31 1 x0_.list.length c0_513.flatten]) [.row g0_ 92 ((x0_.domains.1.map U)++[.pointer (some ⟨k0_512.sp,0,none⟩),v0_513]), .sl v0_513 31 1 x0_.list.length c0_513.flatten] w)(hA:∀g,fps [.row g0_ 92 ((x0_.domains.1.map U)++[.pointer (some ⟨k0_512.sp,0,none⟩),v0_513]), .sl v0_513 31 1 x0_.list.length c0_513.flatten] g→¬F0.S g)(fuel:Nat)(r:List (List GChoice)×Bool)(hr:zb0 fuel x0_=some r):Calls Tryz.prog 32 #[.pointer (some ⟨g0_,0,none⟩)] w fun e w'=>∃(y:Value×List (List Value)) (G:Frz),(SlD R_List_GChoice.rep G y.1 1 y.2 r.1)∧e= .returned (.tuple #[y.1, .bool r.2])∧FxM F0 w (fps [.row g0_ 92 ((x0_.domains.1.map U)++[.pointer (some ⟨k0_512.sp,0,none⟩),v0_513]), .sl v0_513 31 1 x0_.list.length c0_513.flatten]) G [.row g0_ 92 ((x0_.domains.1.map U)++[.pointer (some ⟨k0_512.sp,0,none⟩),v0_513]), .sl v0_513 31 1 x0_.list.length c0_513.flatten] w':=by
 have hk:=hr;unfold zb0 at hk;haveI:=zcG (hO.own (.sl v0_513 31 1 x0_.list.length c0_513.flatten) (by simp));have hmx0_513:=zcu (hO.own (.sl v0_513 31 1 x0_.list.length c0_513.flatten) (by simp));obtain ⟨S0,F1,rfl,hS0,hp0⟩:=zbz hF0 hO hA;refine zac (hs:=[.row g0_ 92 ((x0_.domains.1.map U)++[.pointer (some ⟨k0_512.sp,0,none⟩),v0_513]), .sl v0_513 31 1 x0_.list.length c0_513.flatten, .fr F1]) Tryz.func32 rfl rfl rfl hp0 ?_;refine T.sr ?_;refine TL.e (Ew.alloc rfl) ?_;rintro _ _ ⟨g2,rfl,rfl⟩;refine TL.e (Ew.alloc rfl) ?_;rintro _ _ ⟨g3,rfl,rfl⟩;refine TL.nx ?_;refine TL.run 1 rfl ?_;refine TL.e (Ew.aU [2,3,4,0,1] [.row g0_ 92 ((x0_.domains.1.map U)++([.pointer (some ⟨k0_512.sp,0,none⟩),v0_513]:List Value)), .sl v0_513 31 1 x0_.list.length c0_513.flatten] [.row g3 4 [.bool false], .row g2 30 [(.slice none 0 0)]] rfl rfl rfl rfl (by decide) (fun w hw hw2 hF=>zcw _ w hF x0_ g0_ k0_512 v0_512 L0_512 hs0_512 tf0_512 zf0_512 v0_513 c0_513 h0_513 hw2.takes.1 hw2.takes.2)) ?_;rintro _ _ ⟨gb10, -,rfl,rfl⟩;dsimp only [List.cons_append,List.nil_append];refine TL.run 1 rfl ?_;refine TL.ns (T.seq (T.sr ?_));refine TL.run 1 rfl ?_;refine TL.y (Yv.bJ (v:= .bool false) rfl rfl rfl (fun w=>by kernel_rfl)) ?_;refine TL.ns ?_;refine T.aJ rfl rfl ?_;refine T.skip (K.seq (T.sr ?_));refine TL.e (Ew.alloc rfl) ?_;rintro _ _ ⟨g5,rfl,rfl⟩;refine TL.slNil 31 1 ?_;refine TL.ns (T.seq (T.sr ?_));refine TL.run 1 rfl ?_;refine TL.ns ?_;have hq:(∀x∈x0_.list,room x.length 16)∧_:=zaE hk;clear hk;obtain ⟨gr1,hk⟩:=hq; (try dsimp only at hk);have hq:=zae hk;clear hk;obtain ⟨k5,hk5,hk⟩:=hq; (try dsimp only at hk);refine T.al (ι:=List (List GChoice)×Value×List (List Value)×Bool×List (List GChoice)×Value×List (List Value)×FzB w (fps [.row g0_ 92 ((x0_.domains.1.map U)++[.pointer (some ⟨k0_512.sp,0,none⟩),v0_513]), .sl v0_513 31 1 x0_.list.length c0_513.flatten]) S0) (fun z=>[(2, .pointer (some ⟨g2,0,none⟩)),(3, .pointer (some ⟨g3,0,none⟩)),(5, .pointer (some ⟨g5,0,none⟩))]) (fun z=>[.row g2 30 [z.2.1], .row g3 4 [.bool z.2.2.2.1], .sl z.2.2.2.2.2.1 31 1 z.2.2.2.2.1.length z.2.2.2.2.2.2.1.flatten, .row g5 30 [z.2.2.2.2.2.1], .row gb10 30 [(capV v0_513)], .row g0_ 92 ((x0_.domains.1.map U)++[.pointer (some ⟨k0_512.sp,0,none⟩),v0_513]), .sl v0_513 31 1 x0_.list.length c0_513.flatten, .fr z.2.2.2.2.2.2.2]) (fun z=>k5 (z.1,z.2.2.2.1,z.2.2.2.2.1)=some r∧SlD R_List_GChoice.rep z.2.2.2.2.2.2.2.toFrz z.2.1 1 z.2.2.1 z.1∧OwnD R_List_GChoice.rep z.2.2.2.2.2.2.2.toFrz 1 z.2.2.2.2.2.2.1 z.2.2.2.2.1∧OneC z.2.2.2.2.2.1∧F1.toFrz.Le z.2.2.2.2.2.2.2.toFrz) ?_ ?_
 ·have hq:=zae hk;clear hk;obtain ⟨kr9,hkr9,hk⟩:=hq; (try dsimp only at hk);have hq:=zaj hk;clear hk;obtain ⟨f9,kk9,hf9,hkk9,hk⟩:=hq;refine T.block ?_;refine T.pick [2,4,7,6,0,1,3,5] rfl (by decide) ?_;refine T.bR _ _ _ (fun i9 y9=>∃z:List (List GChoice)×Value×List (List Value)×Bool×List (List GChoice)×Value×List (List Value)×FzB w (fps [.row g0_ 92 ((x0_.domains.1.map U)++[.pointer (some ⟨k0_512.sp,0,none⟩),v0_513]), .sl v0_513 31 1 x0_.list.length c0_513.flatten]) S0,(zai f9 kk9 (x0_.list.length - i9) i9 (z.1,z.2.2.2.1,z.2.2.2.2.1)=some r∧SlD R_List_GChoice.rep z.2.2.2.2.2.2.2.toFrz z.2.1 1 z.2.2.1 z.1∧OwnD R_List_GChoice.rep z.2.2.2.2.2.2.2.toFrz 1 z.2.2.2.2.2.2.1 z.2.2.2.2.1∧OneC z.2.2.2.2.2.1∧F1.toFrz.Le z.2.2.2.2.2.2.2.toFrz)∧y9=[.row g2 30 [z.2.1], .row g3 4 [.bool z.2.2.2.1], .sl z.2.2.2.2.2.1 31 1 z.2.2.2.2.1.length z.2.2.2.2.2.2.1.flatten, .row g5 30 [z.2.2.2.2.2.1], .row g0_ 92 ((x0_.domains.1.map U)++[.pointer (some ⟨k0_512.sp,0,none⟩),v0_513]), .fr z.2.2.2.2.2.2.2]) (fun c9 y9=>(c9= .ret∧∃z:List (List GChoice)×Value×List (List Value)×Bool×List (List GChoice)×Value×List (List Value)×FzB w (fps [.row g0_ 92 ((x0_.domains.1.map U)++[.pointer (some ⟨k0_512.sp,0,none⟩),v0_513]), .sl v0_513 31 1 x0_.list.length c0_513.flatten]) S0,(kr9 (z.1,z.2.2.2.1,z.2.2.2.2.1)=some r∧SlD R_List_GChoice.rep z.2.2.2.2.2.2.2.toFrz z.2.1 1 z.2.2.1 z.1∧OwnD R_List_GChoice.rep z.2.2.2.2.2.2.2.toFrz 1 z.2.2.2.2.2.2.1 z.2.2.2.2.1∧OneC z.2.2.2.2.2.1∧F1.toFrz.Le z.2.2.2.2.2.2.2.toFrz)∧y9=[.row g2 30 [z.2.1], .row g3 4 [.bool z.2.2.2.1], .sl z.2.2.2.2.2.1 31 1 z.2.2.2.2.1.length z.2.2.2.2.2.2.1.flatten, .row g5 30 [z.2.2.2.2.2.1], .row g0_ 92 ((x0_.domains.1.map U)++[.pointer (some ⟨k0_512.sp,0,none⟩),v0_513]), .fr z.2.2.2.2.2.2.2])) (fun _ _ v9=>[(6,v9.getD 0 undef),(7,v9.getD 1 undef),(2, .pointer (some ⟨g2,0,none⟩)),(3, .pointer (some ⟨g3,0,none⟩)),(5, .pointer (some ⟨g5,0,none⟩))]) _ ⟨([],(.slice none 0 0),[],false,[],(.slice none 0 0),[],F1),⟨hk,(SlD.nil _ _ 1),(OwnD.nil _ _ 1),inferInstance,(Frz.Le.refl _)⟩,rfl⟩ ?_ rfl (zjA h0_513 gr1) (by decide) (by rintro i x vs gx ⟨v,rfl,rfl⟩;rfl) (List.Sublist.refl _) ?_ ?_ ?_ ?_
  ·rintro i9 _ w ⟨⟨c_6,vc_6,cc_6,c_7,c_8,vc_8,cc_8,F3⟩,⟨_,hc_6,hc_8,oc_8,le1_3⟩,rfl⟩ hw;exact (hw.fr (i:=7) rfl).le le1_3
  ·rintro l9 i9 x9 X9 D9 g9 vs9 gx9 hx9 hA9;obtain ⟨vz1,rfl,rfl⟩:=hA9;refine T.sr ?_;refine TL.run 1 rfl ?_;refine TL.ns (T.region ?_);refine TL.run 1 rfl ?_;refine TL.nil ?_;exact K.at (by repeat (first|exact Sub.nil|refine Sub.cons rfl ?_|refine Sub.consI rfl (by omega) ?_|refine Sub.consB rfl (by assumption) ?_)) (List.Sublist.refl _)
  ·rintro l9 i9 x9 X9 D9 g9 vs9 gx9 hx9 hA9 ⟨⟨c_6,vc_6,cc_6,c_7,c_8,vc_8,cc_8,F3⟩,⟨hk,hc_6,hc_8,oc_8,le1_3⟩,rfl⟩;obtain ⟨vz1,rfl,rfl⟩:=hA9;obtain ⟨hi9,hxe⟩:=zmy hx9;subst hxe; (try dsimp only at *);dsimp only [List.cons_append,List.nil_append];haveI:=hc_6.1.oneC;rw [zar (by omega)] at hk;generalize hn9:zai f9 kk9 (x0_.list.length - (i9+1)) (i9+1)=next9 at hk;rw [←hf9] at hk; (try dsimp only at hk);refine T.aM (gs:=[(2, .pointer (some ⟨g2,0,none⟩)),(3, .pointer (some ⟨g3,0,none⟩)),(5, .pointer (some ⟨g5,0,none⟩)),(6, .int .i64 (i9:Int)),(7,vz1)]) (by repeat (first|exact Sub.nil|refine Sub.cons rfl ?_|refine Sub.consI rfl (by omega) ?_|refine Sub.consB rfl (by assumption) ?_)) (List.Sublist.refl _) ?_;refine T.aZ 2 rfl ?_;intro ivz1 hmvz1;refine T.block (T.seq (T.sr ?_));refine TL.run 1 rfl ?_;refine TL.y (Yv.ac 6 rfl rfl rfl rfl) ?_;refine TL.y (Yv.bk 5 rfl rfl rfl) ?_;refine TL.aZ 5 rfl ?_;intro _ hm18;refine TL.run 1 rfl ?_;refine TL.ns ?_;refine T.cond rfl (fun h10=>?_) (fun h10=>?_)
   ·have p10:=of_decide_eq_true h10;replace hk:=zab hk h10;refine T.sr ?_;refine TL.e0 (Ew.aE 3 rfl rfl rfl rfl (by simp)) ?_;rintro _ _ ⟨rfl,rfl⟩;refine TL.e0 (Ew.aE 4 rfl rfl rfl rfl (by simp)) ?_;rintro _ _ ⟨rfl,rfl⟩;refine TL.ns (T.ret (K.aa (K.ag ?_)));refine K.pick [0,1,3,4,5,6,7,8,9] rfl (by decide) ?_;exact K.bU _ ⟨_,rfl,⟨rfl,([],(.slice none 0 0),[],false,c_8,vc_8,cc_8,F3),⟨hk,(SlD.nil _ _ 1),hc_8,inferInstance,le1_3⟩,rfl⟩⟩ (List.Sublist.refl _)
   ·have p10:=of_decide_eq_false h10;replace hk:=zaa hk h10;refine T.skip (K.seq (T.seq ?_));have hq:(room ([]++(nth x0_.list i9)).length 16)∧_:=zaE hk;clear hk;obtain ⟨g22,hk⟩:=hq;have hq:(room (c_8++[([]++(nth x0_.list i9))]).length 24)∧_:=zaE hk;clear hk;obtain ⟨g24,hk⟩:=hq; (try dsimp only at hk);refine T.al (ι:=Value×List (List Value)×FzB w (fps [.row g0_ 92 ((x0_.domains.1.map U)++[.pointer (some ⟨k0_512.sp,0,none⟩),v0_513]), .sl v0_513 31 1 x0_.list.length c0_513.flatten]) S0) (fun z=>[(2, .pointer (some ⟨g2,0,none⟩)),(3, .pointer (some ⟨g3,0,none⟩)),(7,vz1)]) (fun z=>[.row gb10 30 [(capV v0_513)], .sl v0_513 31 1 x0_.list.length c0_513.flatten, .sl vz1 50 2 (nth x0_.list i9).length ((nth x0_.list i9).flatMap GChoice.enc), .row g2 30 [vc_6], .row g3 4 [.bool c_7], .sl z.1 31 1 (c_8++[([]++(nth x0_.list i9))]).length z.2.1.flatten, .row g5 30 [z.1], .row g0_ 92 ((x0_.domains.1.map U)++[.pointer (some ⟨k0_512.sp,0,none⟩),v0_513]),X9, .fr z.2.2]) (fun z=>OneC z.1∧OwnD R_List_GChoice.rep z.2.2.toFrz 1 z.2.1 (c_8++[([]++(nth x0_.list i9))])∧F3.toFrz.Le z.2.2.toFrz) ?_ ?_
    ·refine T.as (.still 1 (.two 0 2 (.eff 2 (.eff 3 (.eff 4 (.eff 5 .done)))) (.two 0 3 (.eff 3 (.eff 4 (.eff 5 .done))) (.eff 0 (.eff 4 (.eff 5 .done)))))) [.row gb10 30 [(capV v0_513)], .sl v0_513 31 1 x0_.list.length c0_513.flatten, .sl vz1 50 2 (nth x0_.list i9).length ((nth x0_.list i9).flatMap GChoice.enc), .row g2 30 [vc_6], .row g3 4 [.bool c_7], .row g0_ 92 ((x0_.domains.1.map U)++[.pointer (some ⟨k0_512.sp,0,none⟩),v0_513]), .fr F3,X9] (by kernel_rfl) Sx ?_;refine TS.run 1 rfl ?_;refine TS.two ?_ ?_
     ·refine TSo.br rfl (Wt.none rfl) rfl rfl (Yv.ac 6 rfl rfl rfl rfl) (fun w hw=>hw.sub Sx) ?_;refine TS.eff ?_;refine TSo.slNil 50 2 ?_;refine TSo.aD rfl (Wt.none rfl) rfl rfl (Ew.bK 0 3 (ziA (fun _=>inferInstance)) rfl rfl rfl rfl rfl (ziv ([]:List GChoice) (nth x0_.list i9)) (zgU (enc:=GChoice.enc) ([]:List GChoice) (nth x0_.list i9)) g22 (by decide)) ?_;rintro v22 _ ⟨hv22,rfl⟩;refine ⟨(fun w hw=>hw.sub Sx),?_⟩;refine TS.aX (fun w hw=>hw.freezeS (i:=9) (j:=0) (by decide) rfl rfl) ?_;rintro F5 ⟨le3_5,hz5⟩;dsimp only [List.set,List.eraseIdx];have hf5:=hz5.toF rfl GChoice.len;haveI:=hf5.oneC;refine TS.eff ?_;refine TSo.aD rfl (Wt.none rfl) rfl rfl (Ew.buildSlice rfl rfl rfl (by decide)) ?_;rintro _ _ ⟨g23,rfl,rfl⟩;have hl23:OwnD R_List_GChoice.rep F5.toFrz 1 [[v22]] [([]++(nth x0_.list i9))]:=(OwnD.snoc (OwnD.nil _ _ 1) ⟨_,rfl,hf5⟩ rfl);refine ⟨(fun w hw=>(hw.frLe (i:=9) rfl le3_5).sub Sx),?_⟩;refine TS.eff ?_;refine TSo.aD rfl (Wt.none rfl) rfl rfl (Ew.aQ 6 0 rfl rfl rfl rfl rfl rfl (zce (ys:=[([]++(nth x0_.list i9))]) rfl) (zbI (cs:=cc_8) (ds:=[[v22]])) g24 (by decide)) ?_;rintro v24 _ ⟨hv24,rfl⟩;have ho24:OwnD R_List_GChoice.rep F5.toFrz 1 (cc_8++[[v22]]) (c_8++[([]++(nth x0_.list i9))]):=(OwnD.snoc (OwnD.mono (rep:=R_List_GChoice.rep) (fun _ _ _ _=>R_List_GChoice.mono) hc_8 le3_5) ⟨_,rfl,hf5⟩ rfl);refine ⟨(fun w hw=>(hw.frLe (i:=9) rfl le3_5).sub Sx),?_⟩;refine TS.eff ?_;refine TSo.aY rfl (Wt.none rfl) rfl (Ew.aE 7 rfl rfl rfl rfl (by simp)) ?_;rintro _ _ ⟨rfl,rfl⟩;refine ⟨(fun w hw=>(hw.frLe (i:=9) rfl le3_5).sub Sx),?_⟩;refine TS.done ?_;refine K.pick [1,2,3,4,5,6,7,8,10,9] rfl (by decide) ?_;exact K.aj (v24,(cc_8++[[v22]]),F5) ⟨inferInstance,ho24,le3_5⟩ (.c (.c (.c .nil))) (List.Sublist.refl _)
     ·refine TSo.slNil 50 2 ?_;refine TSo.aD rfl (Wt.none rfl) rfl rfl (Ew.bK 0 3 (ziA (fun _=>inferInstance)) rfl rfl rfl rfl rfl (ziv ([]:List GChoice) (nth x0_.list i9)) (zgU (enc:=GChoice.enc) ([]:List GChoice) (nth x0_.list i9)) g22 (by decide)) ?_;rintro v22 _ ⟨hv22,rfl⟩;refine ⟨(fun w hw=>hw.sub Sx),?_⟩;refine TS.aX (fun w hw=>hw.freezeS (i:=9) (j:=0) (by decide) rfl rfl) ?_;rintro F6 ⟨le3_6,hz6⟩;dsimp only [List.set,List.eraseIdx];have hf6:=hz6.toF rfl GChoice.len;haveI:=hf6.oneC;refine TS.two ?_ ?_
      ·refine TSo.br rfl (Wt.none rfl) rfl rfl (Yv.ac 6 rfl rfl rfl rfl) (fun w hw=>(hw.frLe (i:=8) rfl le3_6).sub Sx) ?_;refine TS.eff ?_;refine TSo.aD rfl (Wt.none rfl) rfl rfl (Ew.buildSlice rfl rfl rfl (by decide)) ?_;rintro _ _ ⟨g23,rfl,rfl⟩;have hl23:OwnD R_List_GChoice.rep F6.toFrz 1 [[v22]] [([]++(nth x0_.list i9))]:=(OwnD.snoc (OwnD.nil _ _ 1) ⟨_,rfl,hf6⟩ rfl);refine ⟨(fun w hw=>(hw.frLe (i:=9) rfl le3_6).sub Sx),?_⟩;refine TS.eff ?_;refine TSo.aD rfl (Wt.none rfl) rfl rfl (Ew.aQ 6 0 rfl rfl rfl rfl rfl rfl (zce (ys:=[([]++(nth x0_.list i9))]) rfl) (zbI (cs:=cc_8) (ds:=[[v22]])) g24 (by decide)) ?_;rintro v24 _ ⟨hv24,rfl⟩;have ho24:OwnD R_List_GChoice.rep F6.toFrz 1 (cc_8++[[v22]]) (c_8++[([]++(nth x0_.list i9))]):=(OwnD.snoc (OwnD.mono (rep:=R_List_GChoice.rep) (fun _ _ _ _=>R_List_GChoice.mono) hc_8 le3_6) ⟨_,rfl,hf6⟩ rfl);refine ⟨(fun w hw=>(hw.frLe (i:=9) rfl le3_6).sub Sx),?_⟩;refine TS.eff ?_;refine TSo.aY rfl (Wt.none rfl) rfl (Ew.aE 7 rfl rfl rfl rfl (by simp)) ?_;rintro _ _ ⟨rfl,rfl⟩;refine ⟨(fun w hw=>(hw.frLe (i:=9) rfl le3_6).sub Sx),?_⟩;refine TS.done ?_;refine K.pick [1,2,3,4,5,6,7,8,10,9] rfl (by decide) ?_;exact K.aj (v24,(cc_8++[[v22]]),F6) ⟨inferInstance,ho24,le3_6⟩ (.c (.c (.c .nil))) (List.Sublist.refl _)
      ·refine TSo.aD rfl (Wt.none rfl) rfl rfl (Ew.buildSlice rfl rfl rfl (by decide)) ?_;rintro _ _ ⟨g23,rfl,rfl⟩;have hl23:OwnD R_List_GChoice.rep F6.toFrz 1 [[v22]] [([]++(nth x0_.list i9))]:=(OwnD.snoc (OwnD.nil _ _ 1) ⟨_,rfl,hf6⟩ rfl);refine ⟨(fun w hw=>(hw.frLe (i:=9) rfl le3_6).sub Sx),?_⟩;refine TS.eff ?_;refine TSo.br rfl (Wt.none rfl) rfl rfl (Yv.ac 7 rfl rfl rfl rfl) (fun w hw=>(hw.frLe (i:=9) rfl le3_6).sub Sx) ?_;refine TS.eff ?_;refine TSo.aD rfl (Wt.none rfl) rfl rfl (Ew.aQ 6 0 rfl rfl rfl rfl rfl rfl (zce (ys:=[([]++(nth x0_.list i9))]) rfl) (zbI (cs:=cc_8) (ds:=[[v22]])) g24 (by decide)) ?_;rintro v24 _ ⟨hv24,rfl⟩;have ho24:OwnD R_List_GChoice.rep F6.toFrz 1 (cc_8++[[v22]]) (c_8++[([]++(nth x0_.list i9))]):=(OwnD.snoc (OwnD.mono (rep:=R_List_GChoice.rep) (fun _ _ _ _=>R_List_GChoice.mono) hc_8 le3_6) ⟨_,rfl,hf6⟩ rfl);refine ⟨(fun w hw=>(hw.frLe (i:=9) rfl le3_6).sub Sx),?_⟩;refine TS.eff ?_;refine TSo.aY rfl (Wt.none rfl) rfl (Ew.aE 7 rfl rfl rfl rfl (by simp)) ?_;rintro _ _ ⟨rfl,rfl⟩;refine ⟨(fun w hw=>(hw.frLe (i:=9) rfl le3_6).sub Sx),?_⟩;refine TS.done ?_;refine K.pick [1,2,3,4,5,6,7,8,10,9] rfl (by decide) ?_;exact K.aj (v24,(cc_8++[[v22]]),F6) ⟨inferInstance,ho24,le3_6⟩ (.c (.c (.c .nil))) (List.Sublist.refl _)
    ·rintro ⟨vo9_11,co9_11,F4⟩ ⟨hvo9_11,ho9_11,le3_4⟩; (try dsimp only at *);have le1_4:=le1_3.trans le3_4;refine T.sr ?_;refine TL.run 1 rfl ?_;refine TL.ns ?_;have hq:=zb3 hk;clear hk;obtain ⟨f14,hf14,hk⟩:=hq;refine T.block ?_;refine T.pick [2,0,1,3,4,5,6,7,8,9] rfl (by decide) ?_;refine T.loop (ι:=Nat×Int×List GChoice) (fun z=>[(2, .pointer (some ⟨g2,0,none⟩)),(3, .pointer (some ⟨g3,0,none⟩)),(7,vz1),(8, .int .i64 z.2.1)]) (fun z=>[.sl vz1 50 2 z.2.2.length (z.2.2.flatMap GChoice.enc), .row gb10 30 [(capV v0_513)], .sl v0_513 31 1 x0_.list.length c0_513.flatten, .row g2 30 [vc_6], .row g3 4 [.bool c_7], .sl vo9_11 31 1 (c_8++[([]++(nth x0_.list i9))]).length co9_11.flatten, .row g5 30 [vo9_11], .row g0_ 92 ((x0_.domains.1.map U)++[.pointer (some ⟨k0_512.sp,0,none⟩),v0_513]),X9, .fr F4]) (fun z=>zbd f14 z.1 (z.2.1,z.2.2)=some r) (fun z=>z.1) (fuel,0,(nth x0_.list i9)) ?_ ?_ ?_ ?_
     ·exact hk
     ·exact (.c (.c (.c (.c .nil))))
     ·exact List.Sublist.refl _
     ·rintro ⟨m_15,k_12,l_13⟩ hk; (try dsimp only at *);have hq:=zco hk;clear hk;obtain ⟨m_15',rfl,hk⟩:=hq;generalize hn14:zbd f14 m_15'=next14 at hk;rw [←hf14] at hk; (try dsimp only at hk);refine T.seq (T.sr ?_);refine TL.run 2 rfl ?_;refine TL.y (Yv.bk 0 rfl rfl rfl) ?_;refine TL.aZ 0 rfl ?_;intro _ hm27;refine TL.run 1 rfl ?_;refine TL.ns ?_;refine T.cond rfl (fun h16=>?_) (fun h16=>?_)
      ·have p16:=of_decide_eq_true h16;replace hk:=zab hk h16;refine T.skip (K.seq (T.seq (T.block ?_)));have hq:(0≤k_12∧k_12<(l_13.length:Int))∧_:=zaE hk;clear hk;obtain ⟨g33,hk⟩:=hq; (try dsimp only at hk);refine T.region ?_;refine TL.run 2 rfl ?_;refine TL.y (Yv.bZ 0 (i:=k_12.toNat) rfl rfl rfl rfl (by omega) (by omega)) ?_;refine TL.y (Yv.cq 0 rfl rfl rfl (by omega)) ?_;refine TL.e0 (Ew.bz 0 (k':=(l_13.set k_12.toNat (GChoice.mk ((nth l_13 k_12.toNat).Station) 1)).length) (l':=(l_13.set k_12.toNat (GChoice.mk ((nth l_13 k_12.toNat).Station) 1)).flatMap GChoice.enc) rfl rfl rfl rfl (by omega) (zeF (i:=k_12.toNat) (j:=1) GChoice.len (by omega) (by decide) (by omega)) (zfe (i:=k_12.toNat) (j:=1) (x:=(GChoice.mk ((nth l_13 k_12.toNat).Station) 1)) GChoice.len (by omega) (by decide) (by omega) rfl) (List.length_set ..)) ?_;rintro _ _ ⟨rfl,rfl⟩;refine TL.nil (K.ad (K.seq (T.region ?_)));refine TL.run 1 rfl ?_;refine TL.y (Yv.an rfl rfl rfl (by omega)) ?_;refine TL.run 1 rfl ?_;refine TL.nil ?_;rw [←hn14] at hk;exact K.next (m_15',(k_12+1),(l_13.set k_12.toNat (GChoice.mk ((nth l_13 k_12.toNat).Station) 1))) hk (by dsimp only;omega) (.c (.c (.c (.c .nil)))) (List.Sublist.refl _)
      ·have p16:=of_decide_eq_false h16;replace hk:=zaa hk h16;refine T.exit (K.ab (K.ab (K.ae (K.ad ?_))));refine K.pick [1,2,3,4,5,6,7,9,8] rfl (by decide) ?_;exact K.round _ ⟨_,rfl,⟨(c_6,vc_6,cc_6,c_7,(c_8++[([]++(nth x0_.list i9))]),vo9_11,co9_11,F4),⟨hk,(SlD.mono (rep:=R_List_GChoice.rep) (fun _ _ _ _=>R_List_GChoice.mono) hc_6 le3_4),ho9_11,inferInstance,le1_4⟩,rfl⟩⟩ (List.Sublist.refl _)
  ·rintro _ ⟨⟨c_6,vc_6,cc_6,c_7,c_8,vc_8,cc_8,F3⟩,⟨hk,hc_6,hc_8,oc_8,le1_3⟩,rfl⟩; (try dsimp only at *);dsimp only [List.cons_append,List.nil_append];haveI:=hc_6.1.oneC;rw [zas (Nat.le_refl _),←hkk9] at hk; (try dsimp only at hk);refine K.ad ?_;refine K.pick [2,3,4,5,0,6,1,7] rfl (by decide) ?_;exact K.aj (c_6,vc_6,cc_6,c_7,c_8,vc_8,cc_8,F3) ⟨hk,hc_6,hc_8,inferInstance,le1_3⟩ (.c (.c (.c .nil))) (List.Sublist.refl _)
  ·rintro _ _ ⟨rfl,⟨c_6,vc_6,cc_6,c_7,c_8,vc_8,cc_8,F3⟩,⟨hk,hc_6,hc_8,oc_8,le1_3⟩,rfl⟩; (try dsimp only at *);dsimp only [List.cons_append,List.nil_append];haveI:=hc_6.1.oneC;rw [←hkr9] at hk; (try dsimp only at hk);refine T.ret (K.ag (K.aa ?_));obtain rfl:=Option.some.inj hk;exact K.cc 2 3 rfl rfl rfl rfl rfl rfl rfl (fun w' hw=>⟨(vc_6,cc_6),F3.toFrz,hc_6,rfl,FxM.of (hw.pick (idx:=[6,1,7]) rfl (by decide)) hS0 le1_3⟩)
 ·rintro ⟨c_2,vc_2,cc_2,c_3,c_4,vc_4,cc_4,F2⟩ ⟨hk,hc_2,hc_4,oc_4,le1_2⟩; (try dsimp only at *);rw [←hk5] at hk; (try dsimp only at hk);haveI:=hc_2.1.oneC;refine T.sr ?_;refine TL.y (Yv.ac 3 rfl rfl rfl rfl) ?_;refine TL.e0 (Ew.aE 0 rfl rfl rfl rfl (by simp)) ?_;rintro _ _ ⟨rfl,rfl⟩;refine TL.e0 (Ew.aE 1 rfl rfl rfl rfl (by simp)) ?_;rintro _ _ ⟨rfl,rfl⟩;refine TL.ns (T.ret ?_);refine K.aX (fun w hw=>hw.freezeS (i:=7) (j:=2) (by decide) rfl rfl) ?_;rintro F7 ⟨le2_7,hz7⟩;dsimp only [List.set,List.eraseIdx];have le1_7:=le1_2.trans le2_7;have hf7:=hz7.toD (OwnD.mono (rep:=R_List_GChoice.rep) (fun _ _ _ _=>R_List_GChoice.mono) hc_4 le2_7) rfl;haveI:=hf7.1.oneC;obtain rfl:=Option.some.inj hk;exact K.cc 0 1 rfl rfl rfl rfl rfl rfl rfl (fun w' hw=>⟨(vc_4,cc_4),F7.toFrz,hf7,rfl,FxM.of (hw.pick (idx:=[4,5,6]) rfl (by decide)) hS0 le1_7⟩)
def zaz (x0_:GStore)(l1_:List GChoice):Option (Int×List (List GChoice)):=
 (bif (zag x0_) then
  some (1,x0_.list)
  else
  (zap x0_ l1_).bind fun r9=>
  (bif !r9 then
   some (2,x0_.list)
   else
   (bif decide (4096≤(x0_.list.length:Int)) then
    some (7,x0_.list)
    else
    grd (room l1_.length 16) <|
    grd (room (x0_.list++[l1_]).length 24) <|
    some (0,(x0_.list++[l1_])))))
theorem zcf (F0:Frz)(w:World)(hF0:F0.At w)(x0_:GStore)(g0_:Nat)(k0_512:SK)(v0_512:Value)(L0_512:Ws)(hs0_512:SI x0_.start.1 x0_.start.2 k0_512 L0_512)(tf0_512:TbF F0 k0_512)(zf0_512:SzF F0 k0_512 v0_512 L0_512 (!x0_.start.2.2))(v0_513:Value)(c0_513:List (List Value))(h0_513:OwnD R_List_GChoice.rep F0 1 c0_513 x0_.list)(l1_:List GChoice)(v1_:Value)(hO:Hp w (fps [.row g0_ 92 ((x0_.domains.1.map U)++[.pointer (some ⟨k0_512.sp,0,none⟩),v0_513]), .sl v0_513 31 1 x0_.list.length c0_513.flatten, .sl v1_ 50 2 l1_.length (l1_.flatMap GChoice.enc)]) [.row g0_ 92 ((x0_.domains.1.map U)++[.pointer (some ⟨k0_512.sp,0,none⟩),v0_513]), .sl v0_513 31 1 x0_.list.length c0_513.flatten, .sl v1_ 50 2 l1_.length (l1_.flatMap GChoice.enc)] w)(hA:∀g,fps [.row g0_ 92 ((x0_.domains.1.map U)++[.pointer (some ⟨k0_512.sp,0,none⟩),v0_513]), .sl v0_513 31 1 x0_.list.length c0_513.flatten, .sl v1_ 50 2 l1_.length (l1_.flatMap GChoice.enc)] g→¬F0.S g)(r:Int×List (List GChoice))(hr:zaz x0_ l1_=some r):Calls Tryz.prog 15 #[.pointer (some ⟨g0_,0,none⟩),v1_] w fun e w'=>∃(y:Value×List (List Value)) (G:Frz),(OwnD R_List_GChoice.rep G 1 y.2 r.2)∧e= .returned (.int .i64 r.1)∧FxM F0 w (fps [.row g0_ 92 ((x0_.domains.1.map U)++[.pointer (some ⟨k0_512.sp,0,none⟩),v0_513]), .sl v0_513 31 1 x0_.list.length c0_513.flatten, .sl v1_ 50 2 l1_.length (l1_.flatMap GChoice.enc)]) G [.row g0_ 92 ((x0_.domains.1.map U)++[.pointer (some ⟨k0_512.sp,0,none⟩),y.1]), .sl y.1 31 1 r.2.length y.2.flatten, .sl v1_ 50 2 l1_.length (l1_.flatMap GChoice.enc)] w':=by
 have hk:=hr;unfold zaz at hk;haveI:=zcG (hO.own (.sl v0_513 31 1 x0_.list.length c0_513.flatten) (by simp));have hmx0_513:=zcu (hO.own (.sl v0_513 31 1 x0_.list.length c0_513.flatten) (by simp));haveI:=zcG (hO.own (.sl v1_ 50 2 l1_.length (l1_.flatMap GChoice.enc)) (by simp));have hmx1_:=zcu (hO.own (.sl v1_ 50 2 l1_.length (l1_.flatMap GChoice.enc)) (by simp));obtain ⟨S0,F1,rfl,hS0,hp0⟩:=zbz hF0 hO hA;refine zac (hs:=[.row g0_ 92 ((x0_.domains.1.map U)++[.pointer (some ⟨k0_512.sp,0,none⟩),v0_513]), .sl v0_513 31 1 x0_.list.length c0_513.flatten, .sl v1_ 50 2 l1_.length (l1_.flatMap GChoice.enc), .fr F1]) Tryz.func15 rfl rfl rfl hp0 ?_;refine T.sr ?_;refine TL.run 1 rfl ?_;refine TL.ns (T.seq (T.sr ?_));refine TL.run 1 rfl ?_;refine TL.e (Ew.aU [0,1,3,2] [.row g0_ 92 ((x0_.domains.1.map U)++([.pointer (some ⟨k0_512.sp,0,none⟩),v0_513]:List Value)), .sl v0_513 31 1 x0_.list.length c0_513.flatten] [.sl v1_ 50 2 l1_.length (l1_.flatMap GChoice.enc)] rfl rfl rfl rfl (by decide) (fun w hw hw2 hF=>zau _ w hF x0_ g0_ k0_512 v0_512 L0_512 hs0_512 tf0_512 zf0_512 v0_513 c0_513 h0_513 hw2.takes.1 hw2.takes.2)) ?_;rintro _ _ ⟨⟨⟩, -,rfl,rfl⟩;dsimp only [List.cons_append,List.nil_append];refine TL.ns ?_;refine T.cond rfl (fun h1=>?_) (fun h1=>?_)
 ·replace hk:=zab hk h1;refine T.sr ?_;refine TL.run 1 rfl ?_;refine TL.ns (T.ret (K.aa ?_));obtain rfl:=Option.some.inj hk;exact K.ah rfl rfl (fun w' hw=>⟨(v0_513,c0_513),F1.toFrz,h0_513,rfl,FxM.of (hw.pick (idx:=[0,1,3,2]) rfl (by decide)) hS0 (Frz.Le.refl _)⟩)
 ·replace hk:=zaa hk h1;refine T.skip (K.seq (T.seq (T.seq ?_)));have hq:=zal hk;clear hk;obtain ⟨r9,hr9,hk⟩:=hq; (try dsimp only at hk);refine T.region ?_;refine TL.run 2 rfl ?_;refine TL.e (Ew.aU [0,1,2,3] [.row g0_ 92 ((x0_.domains.1.map U)++([.pointer (some ⟨k0_512.sp,0,none⟩),v0_513]:List Value)), .sl v0_513 31 1 x0_.list.length c0_513.flatten] [.sl v1_ 50 2 l1_.length (l1_.flatMap GChoice.enc)] rfl rfl rfl rfl (by decide) (fun w hw hw2 hF=>(hw.bor (i:=2) (j:=3) rfl rfl).elim fun F9 b=>have le1_2:=b.1.le; (zaZ F9 w b.1.at_ x0_ g0_ k0_512 v0_512 L0_512 hs0_512 (tf0_512.mono le1_2) (zf0_512.mono le1_2) v0_513 c0_513 (OwnD.mono (rep:=R_List_GChoice.rep) (fun _ _ _ _=>R_List_GChoice.mono) h0_513 le1_2) l1_ v1_ (b.2.toF rfl GChoice.len) hw2.takes.1 (hw2.takesB (j:=0) rfl b.1) r9 hr9).mono (fun e w9 ⟨y9,fa9,he9,hx9⟩=>⟨y9,fa9,he9,hx9.back b.1.le⟩))) ?_;rintro _ _ ⟨⟨⟩, -,rfl,rfl⟩;dsimp only [List.cons_append,List.nil_append];refine TL.run 1 rfl ?_;refine TL.ns ?_;refine T.cond rfl (fun h2=>?_) (fun h2=>?_)
  ·replace hk:=zab hk h2;refine T.sr ?_;refine TL.run 1 rfl ?_;refine TL.ns (T.ret (K.aa ?_));obtain rfl:=Option.some.inj hk;exact K.ah rfl rfl (fun w' hw=>⟨(v0_513,c0_513),F1.toFrz,h0_513,rfl,FxM.of (hw.pick (idx:=[0,1,3,2]) rfl (by decide)) hS0 (Frz.Le.refl _)⟩)
  ·replace hk:=zaa hk h2;refine T.skip (K.seq (T.seq (T.sr ?_)));refine TL.run 2 rfl ?_;refine TL.y (Yv.fieldAddr rfl rfl) ?_;refine TL.y (Yv.ac 0 rfl rfl rfl (zb8 (by omega) (zb2 Vec.len (show [.pointer (some ⟨k0_512.sp,0,none⟩),v0_513][1]?=some _ from rfl)))) ?_;refine TL.y (Yv.bk 1 rfl rfl rfl) ?_;refine TL.run 1 rfl ?_;refine TL.ns ?_;refine T.cond rfl (fun h3=>?_) (fun h3=>?_)
   ·have p3:=of_decide_eq_true h3;replace hk:=zab hk h3;refine T.sr ?_;refine TL.run 1 rfl ?_;refine TL.ns (T.ret (K.aa ?_));obtain rfl:=Option.some.inj hk;exact K.ah rfl rfl (fun w' hw=>⟨(v0_513,c0_513),F1.toFrz,h0_513,rfl,FxM.of (hw.pick (idx:=[0,1,3,2]) rfl (by decide)) hS0 (Frz.Le.refl _)⟩)
   ·have p3:=of_decide_eq_false h3;replace hk:=zaa hk h3;refine T.skip (K.seq (T.seq ?_));have hq:(room l1_.length 16)∧_:=zaE hk;clear hk;obtain ⟨g23,hk⟩:=hq;have hq:(room (x0_.list++[l1_]).length 24)∧_:=zaE hk;clear hk;obtain ⟨g25,hk⟩:=hq; (try dsimp only at hk);refine T.al (ι:=Value×List (List Value)×FzB w (fps [.row g0_ 92 ((x0_.domains.1.map U)++[.pointer (some ⟨k0_512.sp,0,none⟩),v0_513]), .sl v0_513 31 1 x0_.list.length c0_513.flatten, .sl v1_ 50 2 l1_.length (l1_.flatMap GChoice.enc)]) S0) (fun z=>[]) (fun z=>[.row g0_ 92 ((x0_.domains.1.map U)++[.pointer (some ⟨k0_512.sp,0,none⟩),z.1]), .sl z.1 31 1 (x0_.list++[l1_]).length z.2.1.flatten, .sl v1_ 50 2 l1_.length (l1_.flatMap GChoice.enc), .fr z.2.2]) (fun z=>OneC z.1∧OwnD R_List_GChoice.rep z.2.2.toFrz 1 z.2.1 (x0_.list++[l1_])∧F1.toFrz.Le z.2.2.toFrz) ?_ ?_
    ·refine T.as (.still 0 (.still 1 (.still 2 (.still 3 (.still 5 (.two 4 6 (.eff 6 (.eff 7 (.eff 8 (.still 9 (.still 10 (.eff 11 .done)))))) (.two 4 7 (.eff 7 (.eff 8 (.still 9 (.still 10 (.eff 11 .done))))) (.eff 4 (.eff 8 (.still 9 (.still 10 (.eff 11 .done)))))))))))) [.fr F1, .sl v1_ 50 2 l1_.length (l1_.flatMap GChoice.enc)] (by kernel_rfl) Sx ?_;refine TS.run 3 rfl ?_;refine TS.y rfl (Yv.fieldAddr rfl rfl) ?_;refine TS.run 1 rfl ?_;refine TS.two ?_ ?_
     ·refine TSo.br rfl (Wt.none rfl) rfl rfl (Yv.ac 0 rfl rfl rfl (zb8 (by omega) (zb2 Vec.len (show [.pointer (some ⟨k0_512.sp,0,none⟩),v0_513][1]?=some _ from rfl)))) (fun w hw=>hw.sub Sx) ?_;refine TS.eff ?_;refine TSo.aD rfl (Wt.none rfl) rfl rfl (Ew.bh rfl rfl rfl (fun w hw=>(hw.bor (i:=2) (j:=3) rfl rfl).elim fun F9 b=>zeq F9 w b.1.at_ l1_ v1_ (b.2.toF rfl GChoice.len) g23)) ?_;rintro v23_ _ ⟨_,_,rfl,rfl⟩;dsimp only [List.cons_append,List.nil_append];refine ⟨(fun w hw=>hw.sub Sx),?_⟩;refine TS.aZ 0 rfl ?_;intro iv23_ hmv23_;refine TS.aX (fun w hw=>hw.freezeS (i:=3) (j:=0) (by decide) rfl rfl) ?_;rintro F4 ⟨le1_4,hz4⟩;dsimp only [List.set,List.eraseIdx];have hf4:=hz4.toF rfl GChoice.len;haveI:=hf4.oneC;refine TS.eff ?_;refine TSo.aD rfl (Wt.none rfl) rfl rfl (Ew.buildSlice rfl rfl rfl (by decide)) ?_;rintro _ _ ⟨g24,rfl,rfl⟩;have hl24:OwnD R_List_GChoice.rep F4.toFrz 1 [[v23_]] [l1_]:=(OwnD.snoc (OwnD.nil _ _ 1) ⟨_,rfl,hf4⟩ rfl);refine ⟨(fun w hw=>(hw.frLe (i:=3) rfl le1_4).sub Sx),?_⟩;refine TS.eff ?_;refine TSo.aD rfl (Wt.none rfl) rfl rfl (Ew.aQ 2 0 rfl rfl rfl rfl rfl rfl (zce (ys:=[l1_]) rfl) (zbI (cs:=c0_513) (ds:=[[v23_]])) g25 (by decide)) ?_;rintro v25 _ ⟨hv25,rfl⟩;have ho25:OwnD R_List_GChoice.rep F4.toFrz 1 (c0_513++[[v23_]]) (x0_.list++[l1_]):=(OwnD.snoc (OwnD.mono (rep:=R_List_GChoice.rep) (fun _ _ _ _=>R_List_GChoice.mono) h0_513 le1_4) ⟨_,rfl,hf4⟩ rfl);refine ⟨(fun w hw=>(hw.frLe (i:=3) rfl le1_4).sub Sx),?_⟩;refine TS.run 1 rfl ?_;refine TS.y rfl (Yv.fieldAddr rfl rfl) ?_;refine TS.eff ?_;refine TSo.aY rfl (Wt.none rfl) rfl (Ew.aT 1 ((x0_.domains.1.map U)++[.pointer (some ⟨k0_512.sp,0,none⟩),v25]) rfl rfl rfl rfl (by rw [(zde Vec.len rfl)];first|omega|(simp only [List.length_cons,List.length_nil];omega)) (zfT (by omega) (zfE Vec.len (rfl:[.pointer (some ⟨k0_512.sp,0,none⟩),v0_513].set 1 _=_)))) ?_;rintro _ _ ⟨rfl,rfl⟩;refine ⟨(fun w hw=>(hw.frLe (i:=3) rfl le1_4).sub Sx),?_⟩;refine TS.done ?_;refine K.pick [1,2,4,3] rfl (by decide) ?_;exact K.aj (v25,(c0_513++[[v23_]]),F4) ⟨inferInstance,ho25,le1_4⟩ .nil (List.Sublist.refl _)
     ·refine TSo.aD rfl (Wt.none rfl) rfl rfl (Ew.bh rfl rfl rfl (fun w hw=>(hw.bor (i:=2) (j:=3) rfl rfl).elim fun F9 b=>zeq F9 w b.1.at_ l1_ v1_ (b.2.toF rfl GChoice.len) g23)) ?_;rintro v23_ _ ⟨_,_,rfl,rfl⟩;dsimp only [List.cons_append,List.nil_append];refine ⟨(fun w hw=>hw.sub Sx),?_⟩;refine TS.aZ 0 rfl ?_;intro iv23_ hmv23_;refine TS.aX (fun w hw=>hw.freezeS (i:=3) (j:=0) (by decide) rfl rfl) ?_;rintro F5 ⟨le1_5,hz5⟩;dsimp only [List.set,List.eraseIdx];have hf5:=hz5.toF rfl GChoice.len;haveI:=hf5.oneC;refine TS.two ?_ ?_
      ·refine TSo.br rfl (Wt.none rfl) rfl rfl (Yv.ac 0 rfl rfl rfl (zb8 (by omega) (zb2 Vec.len (show [.pointer (some ⟨k0_512.sp,0,none⟩),v0_513][1]?=some _ from rfl)))) (fun w hw=>(hw.frLe (i:=2) rfl le1_5).sub Sx) ?_;refine TS.eff ?_;refine TSo.aD rfl (Wt.none rfl) rfl rfl (Ew.buildSlice rfl rfl rfl (by decide)) ?_;rintro _ _ ⟨g24,rfl,rfl⟩;have hl24:OwnD R_List_GChoice.rep F5.toFrz 1 [[v23_]] [l1_]:=(OwnD.snoc (OwnD.nil _ _ 1) ⟨_,rfl,hf5⟩ rfl);refine ⟨(fun w hw=>(hw.frLe (i:=3) rfl le1_5).sub Sx),?_⟩;refine TS.eff ?_;refine TSo.aD rfl (Wt.none rfl) rfl rfl (Ew.aQ 2 0 rfl rfl rfl rfl rfl rfl (zce (ys:=[l1_]) rfl) (zbI (cs:=c0_513) (ds:=[[v23_]])) g25 (by decide)) ?_;rintro v25 _ ⟨hv25,rfl⟩;have ho25:OwnD R_List_GChoice.rep F5.toFrz 1 (c0_513++[[v23_]]) (x0_.list++[l1_]):=(OwnD.snoc (OwnD.mono (rep:=R_List_GChoice.rep) (fun _ _ _ _=>R_List_GChoice.mono) h0_513 le1_5) ⟨_,rfl,hf5⟩ rfl);refine ⟨(fun w hw=>(hw.frLe (i:=3) rfl le1_5).sub Sx),?_⟩;refine TS.run 1 rfl ?_;refine TS.y rfl (Yv.fieldAddr rfl rfl) ?_;refine TS.eff ?_;refine TSo.aY rfl (Wt.none rfl) rfl (Ew.aT 1 ((x0_.domains.1.map U)++[.pointer (some ⟨k0_512.sp,0,none⟩),v25]) rfl rfl rfl rfl (by rw [(zde Vec.len rfl)];first|omega|(simp only [List.length_cons,List.length_nil];omega)) (zfT (by omega) (zfE Vec.len (rfl:[.pointer (some ⟨k0_512.sp,0,none⟩),v0_513].set 1 _=_)))) ?_;rintro _ _ ⟨rfl,rfl⟩;refine ⟨(fun w hw=>(hw.frLe (i:=3) rfl le1_5).sub Sx),?_⟩;refine TS.done ?_;refine K.pick [1,2,4,3] rfl (by decide) ?_;exact K.aj (v25,(c0_513++[[v23_]]),F5) ⟨inferInstance,ho25,le1_5⟩ .nil (List.Sublist.refl _)
      ·refine TSo.aD rfl (Wt.none rfl) rfl rfl (Ew.buildSlice rfl rfl rfl (by decide)) ?_;rintro _ _ ⟨g24,rfl,rfl⟩;have hl24:OwnD R_List_GChoice.rep F5.toFrz 1 [[v23_]] [l1_]:=(OwnD.snoc (OwnD.nil _ _ 1) ⟨_,rfl,hf5⟩ rfl);refine ⟨(fun w hw=>(hw.frLe (i:=3) rfl le1_5).sub Sx),?_⟩;refine TS.eff ?_;refine TSo.br rfl (Wt.none rfl) rfl rfl (Yv.ac 1 rfl rfl rfl (zb8 (by omega) (zb2 Vec.len (show [.pointer (some ⟨k0_512.sp,0,none⟩),v0_513][1]?=some _ from rfl)))) (fun w hw=>(hw.frLe (i:=3) rfl le1_5).sub Sx) ?_;refine TS.eff ?_;refine TSo.aD rfl (Wt.none rfl) rfl rfl (Ew.aQ 2 0 rfl rfl rfl rfl rfl rfl (zce (ys:=[l1_]) rfl) (zbI (cs:=c0_513) (ds:=[[v23_]])) g25 (by decide)) ?_;rintro v25 _ ⟨hv25,rfl⟩;have ho25:OwnD R_List_GChoice.rep F5.toFrz 1 (c0_513++[[v23_]]) (x0_.list++[l1_]):=(OwnD.snoc (OwnD.mono (rep:=R_List_GChoice.rep) (fun _ _ _ _=>R_List_GChoice.mono) h0_513 le1_5) ⟨_,rfl,hf5⟩ rfl);refine ⟨(fun w hw=>(hw.frLe (i:=3) rfl le1_5).sub Sx),?_⟩;refine TS.run 1 rfl ?_;refine TS.y rfl (Yv.fieldAddr rfl rfl) ?_;refine TS.eff ?_;refine TSo.aY rfl (Wt.none rfl) rfl (Ew.aT 1 ((x0_.domains.1.map U)++[.pointer (some ⟨k0_512.sp,0,none⟩),v25]) rfl rfl rfl rfl (by rw [(zde Vec.len rfl)];first|omega|(simp only [List.length_cons,List.length_nil];omega)) (zfT (by omega) (zfE Vec.len (rfl:[.pointer (some ⟨k0_512.sp,0,none⟩),v0_513].set 1 _=_)))) ?_;rintro _ _ ⟨rfl,rfl⟩;refine ⟨(fun w hw=>(hw.frLe (i:=3) rfl le1_5).sub Sx),?_⟩;refine TS.done ?_;refine K.pick [1,2,4,3] rfl (by decide) ?_;exact K.aj (v25,(c0_513++[[v23_]]),F5) ⟨inferInstance,ho25,le1_5⟩ .nil (List.Sublist.refl _)
    ·rintro ⟨vo1_4,co1_4,F3⟩ ⟨hvo1_4,ho1_4,le1_3⟩; (try dsimp only at *);refine T.sr ?_;refine TL.run 1 rfl ?_;refine TL.ns (T.ret ?_);obtain rfl:=Option.some.inj hk;exact K.ah rfl rfl (fun w' hw=>⟨(vo1_4,co1_4),F3.toFrz,ho1_4,rfl,FxM.of (hw.pick (idx:=[0,1,2,3]) rfl (by decide)) hS0 le1_3⟩)
def zcy (fuel:Nat)(p:GProblem)(l:List (List GChoice)):Option (Option GStore×List (List GChoice)):=
 (zbC fuel p).bind fun r16=>
 (bif (r16.1).isSome then
  (bif decide (¬r16.2=0) then
   some (none,[])
   else
   zax (fun (s5:List (List GChoice)×List (List GChoice))=>
    (zb0 fuel (GStore.mk ((r16.1.getD default).domains) (((r16.1.getD default).start).1,((r16.1.getD default).start).2) s5.2)).bind fun r77=>
    (bif (((!r77.2)||(decide (¬(zao (GStore.mk ((r16.1.getD default).domains) (((r16.1.getD default).start).1,((r16.1.getD default).start).2) s5.2))=(s5.1.length:Int))))||(!(zbU r77.1 s5.1))) then
     some (none,[])
     else
     some (some (GStore.mk ((r16.1.getD default).domains) (((r16.1.getD default).start).1,((r16.1.getD default).start).2) s5.2),s5.1)))
   (fun k5=>
    zai (fun (i_9:Nat) (next8:(List (List GChoice)×List (List GChoice))→Option (Option GStore×List (List GChoice))) (s8:List (List GChoice)×List (List GChoice))=>
     grd (room ([]++(nth l i_9)).length 16) <|
     (zaz (GStore.mk ((r16.1.getD default).domains) (((r16.1.getD default).start).1,((r16.1.getD default).start).2) s8.2) ([]++(nth l i_9))).bind fun r38=>
     zax (fun (l_11:List GChoice)=>
      (zca p (nth l i_9)).bind fun r54=>
      (bif ((!(r54 == (decide (r38.1=0))))||((decide (¬r38.1=0))&&(decide (¬r38.1=2)))) then
       some (none,[])
       else
       (bif decide (r38.1=0) then
        grd (room (s8.1++[(nth l i_9)]).length 24) <|
        next8 ((s8.1++[(nth l i_9)]),r38.2)
        else
        next8 (s8.1,r38.2))))
     (fun k12=>
      zbd (fun (next15:(Int×List GChoice)→Option (Option GStore×List (List GChoice))) (s15:Int×List GChoice)=>
       (bif decide (s15.1<(s15.2.length:Int)) then
        grd (0≤s15.1∧s15.1<(s15.2.length:Int)) <|
        next15 ((s15.1+1),(s15.2.set s15.1.toNat (GChoice.mk 500 ((nth s15.2 s15.1.toNat).Channel))))
        else
        k12 s15.2)) fuel (0,([]++(nth l i_9)))))
    (fun (s8:List (List GChoice)×List (List GChoice))=>
     k5 (s8.1,s8.2)) (l.length - 0) 0 ([],(r16.1.getD default).list)))
  else
  some (none,[]))
theorem zeP (F0:Frz)(w:World)(hF0:F0.At w)(p:GProblem)(vp_0:Value)(cp_0:List (List Value))(hp_0:SlD GDomain.rep F0 vp_0 2 cp_0 p.Domains)(vp_1:Value)(hp_1:SlC F0 vp_1 5 (p.Rules.Pairs.map GPair.enc))(vp_2:Value)(hp_2:SlC F0 vp_2 5 (p.Rules.Loads.map GLoad.enc))(vp_3:Value)(hp_3:SlC F0 vp_3 4 (p.Rules.Caps.map GCap.enc))(l:List (List GChoice))(vl:Value)(cl:List (List Value))(hl:SlD R_List_GChoice.rep F0 vl 1 cl l)(htab:Tab w)(fuel:Nat)(hfu:100000≤fuel)(r:Option GStore×List (List GChoice))(hr:zcy fuel p l=some r):Calls Tryz.prog 19 #[.agg [vp_0,vp_1,vp_2,vp_3].toArray,vl] w fun e w'=>((r.1).isSome=true→∃(y:Value×List (List Value)×Nat×SK×Value×Ws×Value×List (List Value)) (G:Frz),(SlD R_List_GChoice.rep G y.1 1 y.2.1 r.2∧SI ((r.1.getD default).start).1 ((r.1.getD default).start).2 y.2.2.2.1 y.2.2.2.2.2.1∧TbF G y.2.2.2.1∧SzF G y.2.2.2.1 y.2.2.2.2.1 y.2.2.2.2.2.1 (!((r.1.getD default).start).2.2)∧OwnD R_List_GChoice.rep G 1 y.2.2.2.2.2.2.2 ((r.1.getD default).list))∧e= .returned (.tuple #[.pointer (some ⟨y.2.2.1,0,none⟩),y.1])∧FxM F0 w (fps []) G [.row y.2.2.1 92 ((((r.1.getD default).domains).1.map U)++[.pointer (some ⟨y.2.2.2.1.sp,0,none⟩),y.2.2.2.2.2.2.1]), .sl y.2.2.2.2.2.2.1 31 1 ((r.1.getD default).list).length y.2.2.2.2.2.2.2.flatten] w')∧((r.1).isSome=false→∃(y:Value×List (List Value)) (G:Frz),(SlD R_List_GChoice.rep G y.1 1 y.2 r.2)∧e= .returned (.tuple #[.pointer none,y.1])∧FxM F0 w (fps []) G [] w'):=by
 have hk:=hr;unfold zcy at hk;haveI:=hp_0.1.oneC;haveI:=hp_1.oneC;haveI:=hp_2.oneC;haveI:=hp_3.oneC;haveI:=hl.1.oneC;obtain ⟨S0,F1,rfl,hS0,hp0⟩:=zan hF0;rw [zgG];have hM0:¬(fun _:Nat=>False) 0:=fun h=>h;have htk:∀ {hs:HS} {w':World},Hp w (fun _=>False) hs w'→Tab w':=fun hw=>htab.keptF hw;refine zac Tryz.func19 rfl rfl rfl hp0 ?_;refine T.sr ?_;refine TL.e (Ew.aA rfl rfl) ?_;rintro _ _ ⟨g2,rfl,rfl⟩;refine TL.run 2 rfl ?_;refine TL.ns (T.seq ?_);have hq:=zal hk;clear hk;obtain ⟨r16,hr16,hk⟩:=hq; (try dsimp only at hk);refine T.bc ((r16.1).isSome) (fun h1=>?_) (fun h1=>?_)
 ·replace hk:=zab hk h1;refine T.region ?_;refine TL.y (Yv.am 0 rfl rfl rfl rfl) ?_;refine TL.e (Ew.aH [1,0] [] [.row g2 29 [vp_0,vp_1,vp_2,vp_3]] rfl rfl rfl rfl (by decide) (fun w hw hw2 hF=>(zbB _ w hF p vp_0 cp_0 hp_0 vp_1 hp_1 vp_2 hp_2 vp_3 hp_3 (htk hw) fuel hfu r16 hr16).mono (fun e w' hp=>hp.1 h1))) ?_;rintro _ _ ⟨⟨g16_n,k16_n_512,v16_n_512,L16_n_512,v16_n_513,c16_n_513⟩,F2,le1_2,⟨hs16_n_512,tf16_n_512,zf16_n_512,ho16_n_513⟩,rfl,rfl⟩;dsimp only [List.cons_append,List.nil_append]; (try dsimp only at hs16_n_512 tf16_n_512 zf16_n_512 ho16_n_513);refine TL.aZ 1 rfl ?_;intro iv16_n_513 hmv16_n_513;refine TL.run 5 rfl ?_;refine TL.ns (T.seq (T.seq ?_));refine T.al (ι:=Unit) (fun z=>[(1,vl),(2, .pointer (some ⟨g2,0,none⟩)),(6, .pointer (some ⟨g16_n,0,none⟩)),(24, .bool (decide (¬r16.2=0)))]) (fun z=>[.row g16_n 92 ((((r16.1.getD default).domains).1.map U)++[.pointer (some ⟨k16_n_512.sp,0,none⟩),v16_n_513]), .sl v16_n_513 31 1 ((r16.1.getD default).list).length c16_n_513.flatten, .row g2 29 [vp_0,vp_1,vp_2,vp_3], .fr F2]) (fun z=>True) ?_ ?_
  ·refine T.region ?_;refine TL.run 1 rfl ?_;refine TL.y (Yv.ba (e:=92) (by kernel_rfl) rfl rfl rfl) ?_;refine TL.run 4 rfl ?_;refine TL.nil ?_;refine K.pick [0,1,3,2] rfl (by decide) ?_;exact K.aj () trivial (.c (.c (.c (.c .nil)))) (List.Sublist.refl _)
  ·rintro _ _;refine T.cond rfl (fun h2=>?_) (fun h2=>?_)
   ·have p2:=of_decide_eq_true h2;replace hk:=zab hk h2;refine T.sr ?_;refine TL.run 2 rfl ?_;refine TL.ns (T.ret (K.aa ?_));obtain rfl:=Option.some.inj hk;exact K.aN rfl rfl rfl (fun w' hw=>⟨fun h=>(by cases h),fun _=>⟨((.slice none 0 0),[]),F2.toFrz,(SlD.nil _ _ 1),rfl,FxM.of (hw.pick (idx:=[3]) rfl (by decide)) hS0 le1_2⟩⟩)
   ·have p2:=of_decide_eq_false h2;replace hk:=zaa hk h2;refine T.skip (K.seq (T.sr ?_));refine TL.run 1 rfl ?_;refine TL.slNil 31 1 ?_;refine TL.ns (T.seq (T.sr ?_));refine TL.run 1 rfl ?_;refine TL.ns ?_;have hq:=zae hk;clear hk;obtain ⟨k5,hk5,hk⟩:=hq; (try dsimp only at hk);refine T.al (ι:=List (List GChoice)×Value×List (List Value)×List (List GChoice)×Value×List (List Value)×FzB w (fun _=>False) S0) (fun z=>[(6, .pointer (some ⟨g16_n,0,none⟩)),(8,z.2.1)]) (fun z=>[.sl z.2.1 31 1 z.1.length z.2.2.1.flatten, .sl z.2.2.2.2.1 31 1 z.2.2.2.1.length z.2.2.2.2.2.1.flatten, .row g16_n 92 ((((r16.1.getD default).domains).1.map U)++[.pointer (some ⟨k16_n_512.sp,0,none⟩),z.2.2.2.2.1]), .fr z.2.2.2.2.2.2]) (fun z=>k5 (z.1,z.2.2.2.1)=some r∧OwnD R_List_GChoice.rep z.2.2.2.2.2.2.toFrz 1 z.2.2.1 z.1∧OneC z.2.1∧OwnD R_List_GChoice.rep z.2.2.2.2.2.2.toFrz 1 z.2.2.2.2.2.1 z.2.2.2.1∧OneC z.2.2.2.2.1∧F2.toFrz.Le z.2.2.2.2.2.2.toFrz) ?_ ?_
    ·have hq:=zaj hk;clear hk;obtain ⟨f8,kk8,hf8,hkk8,hk⟩:=hq;refine T.block ?_;refine T.pick [0,2,1,3,4] rfl (by decide) ?_;refine T.loop (ι:=Nat×List (List GChoice)×Value×List (List Value)×List (List GChoice)×Value×List (List Value)×FzB w (fun _=>False) S0) (fun z=>[(1,vl),(2, .pointer (some ⟨g2,0,none⟩)),(6, .pointer (some ⟨g16_n,0,none⟩)),(8,z.2.2.1),(9, .int .i64 (z.1:Int))]) (fun z=>[.sl z.2.2.1 31 1 z.2.1.length z.2.2.2.1.flatten, .sl z.2.2.2.2.2.1 31 1 z.2.2.2.2.1.length z.2.2.2.2.2.2.1.flatten, .row g16_n 92 ((((r16.1.getD default).domains).1.map U)++[.pointer (some ⟨k16_n_512.sp,0,none⟩),z.2.2.2.2.2.1]), .row g2 29 [vp_0,vp_1,vp_2,vp_3], .fr z.2.2.2.2.2.2.2]) (fun z=>zai f8 kk8 (l.length - z.1) z.1 (z.2.1,z.2.2.2.2.1)=some r∧OwnD R_List_GChoice.rep z.2.2.2.2.2.2.2.toFrz 1 z.2.2.2.1 z.2.1∧OneC z.2.2.1∧OwnD R_List_GChoice.rep z.2.2.2.2.2.2.2.toFrz 1 z.2.2.2.2.2.2.1 z.2.2.2.2.1∧OneC z.2.2.2.2.2.1∧F2.toFrz.Le z.2.2.2.2.2.2.2.toFrz) (fun z=>l.length - z.1) (0,[],(.slice none 0 0),[],(r16.1.getD default).list,v16_n_513,c16_n_513,F2) ?_ ?_ ?_ ?_
     ·exact ⟨hk,(OwnD.nil _ _ 1),inferInstance,ho16_n_513,inferInstance,(Frz.Le.refl _)⟩
     ·exact (.c (.c (.c (.c (.c .nil)))))
     ·exact List.Sublist.refl _
     ·rintro ⟨i_9,own_6,vown_6,cown_6,c_7,vc_7,cc_7,F4⟩ ⟨hk,hown_6,oown_6,hc_7,oc_7,le2_4⟩; (try dsimp only at *);have le1_4:=le1_2.trans le2_4;refine T.seq (T.sr ?_);refine TL.run 2 rfl ?_;refine TL.y (Yv.ar rfl rfl (SlD.mono (rep:=R_List_GChoice.rep) (fun _ _ _ _=>R_List_GChoice.mono) hl le1_4).1 (SlD.mono (rep:=R_List_GChoice.rep) (fun _ _ _ _=>R_List_GChoice.mono) hl le1_4).2.1) ?_;have hm27:l.length≤9223372036854775807:=(SlD.mono (rep:=R_List_GChoice.rep) (fun _ _ _ _=>R_List_GChoice.mono) hl le1_4).2.1▸(SlD.mono (rep:=R_List_GChoice.rep) (fun _ _ _ _=>R_List_GChoice.mono) hl le1_4).1.max;refine TL.run 1 rfl ?_;refine TL.ns ?_;refine T.cond rfl (fun h10=>?_) (fun h10=>?_)
      ·have p10:=of_decide_eq_true h10;rw [zar (by omega)] at hk;generalize hn8:zai f8 kk8 (l.length - (i_9+1)) (i_9+1)=next8 at hk;rw [←hf8] at hk; (try dsimp only at hk);refine T.skip (K.seq (T.seq (T.block (T.seq ?_))));have hq:(room ([]++(nth l i_9)).length 16)∧_:=zaE hk;clear hk;obtain ⟨g35,hk⟩:=hq; (try dsimp only at hk);refine T.region ?_;refine TL.run 2 rfl ?_;refine TL.y (Yv.ao (i:=i_9) rfl rfl rfl (SlD.mono (rep:=R_List_GChoice.rep) (fun _ _ _ _=>R_List_GChoice.mono) hl le1_4).1 (SlD.mono (rep:=R_List_GChoice.rep) (fun _ _ _ _=>R_List_GChoice.mono) hl le1_4).2.1 rfl (by omega)) ?_;refine TL.y (Yv.loadR 4 (i:=i_9) (j:=0) rfl rfl rfl (SlD.mono (rep:=R_List_GChoice.rep) (fun _ _ _ _=>R_List_GChoice.mono) hl le1_4).1 (SlD.mono (rep:=R_List_GChoice.rep) (fun _ _ _ _=>R_List_GChoice.mono) hl le1_4).2.1 (by omega) rfl (R_List_GChoice.c0 ((SlD.mono (rep:=R_List_GChoice.rep) (fun _ _ _ _=>R_List_GChoice.mono) hl le1_4).2.2 i_9 (by omega))).1) ?_;have hd34_0:=(R_List_GChoice.c0 ((SlD.mono (rep:=R_List_GChoice.rep) (fun _ _ _ _=>R_List_GChoice.mono) hl le1_4).2.2 i_9 (by omega))).2;haveI:=hd34_0.oneC;refine TL.slNil 50 2 ?_;refine TL.e (Ew.bj 0 5 (zfw (fun _=>inferInstance)) rfl rfl rfl rfl rfl hd34_0 (zgv (xs:=([]:List GChoice))) (zfK (xs:=([]:List GChoice))) g35 (by decide)) ?_;rintro v35 _ ⟨hv35,rfl⟩;refine TL.run 1 rfl ?_;refine TL.ns (T.seq ?_);have hq:=zal hk;clear hk;obtain ⟨r38,hr38,hk⟩:=hq; (try dsimp only at hk);refine T.region ?_;refine TL.run 2 rfl ?_;refine TL.e (Ew.aH [3,2,0,5,1,4] [.row g16_n 92 ((((r16.1.getD default).domains).1.map U)++([.pointer (some ⟨k16_n_512.sp,0,none⟩),vc_7]:List Value)), .sl vc_7 31 1 c_7.length cc_7.flatten, .sl v35 50 2 (([]:List GChoice)++(nth l i_9)).length ((([]:List GChoice)++(nth l i_9)).flatMap GChoice.enc)] [.sl vown_6 31 1 own_6.length cown_6.flatten, .row g2 29 [vp_0,vp_1,vp_2,vp_3]] rfl rfl rfl rfl (by decide) (fun w hw hw2 hF=>zcf _ w hF (GStore.mk ((r16.1.getD default).domains) (((r16.1.getD default).start).1,((r16.1.getD default).start).2) c_7) g16_n k16_n_512 v16_n_512 L16_n_512 hs16_n_512 (tf16_n_512.mono le2_4) (zf16_n_512.mono le2_4) vc_7 cc_7 hc_7 ([]++(nth l i_9)) v35 hw2.takes.1 hw2.takes.2 r38 hr38)) ?_;rintro _ _ ⟨⟨v38_1_513,c38_1_513⟩,F5,le4_5,ho38_1_513,rfl,rfl⟩;dsimp only [List.cons_append,List.nil_append]; (try dsimp only at ho38_1_513);have le1_5:=le1_4.trans le4_5;have le2_5:=le2_4.trans le4_5;refine TL.aZ 1 rfl ?_;intro iv38_1_513 hmv38_1_513;refine TL.run 1 rfl ?_;refine TL.ns (T.seq (T.sr ?_));refine TL.run 1 rfl ?_;refine TL.ns ?_;have hq:=zae hk;clear hk;obtain ⟨k12,hk12,hk⟩:=hq; (try dsimp only at hk);refine T.al (ι:=List GChoice) (fun z=>[(1,vl),(2, .pointer (some ⟨g2,0,none⟩)),(6, .pointer (some ⟨g16_n,0,none⟩)),(7, .int .i64 r38.1),(8,vown_6),(9, .int .i64 (i_9:Int))]) (fun z=>[.sl v35 50 2 z.length (z.flatMap GChoice.enc), .row g16_n 92 ((((r16.1.getD default).domains).1.map U)++[.pointer (some ⟨k16_n_512.sp,0,none⟩),v38_1_513]), .sl v38_1_513 31 1 r38.2.length c38_1_513.flatten, .sl vown_6 31 1 own_6.length cown_6.flatten, .row g2 29 [vp_0,vp_1,vp_2,vp_3], .fr F5]) (fun z=>k12 z=some r) ?_ ?_
       ·have hq:=zb3 hk;clear hk;obtain ⟨f15,hf15,hk⟩:=hq;refine T.block ?_;refine T.pick [2,0,1,4,5,3] rfl (by decide) ?_;refine T.loop (ι:=Nat×Int×List GChoice) (fun z=>[(1,vl),(2, .pointer (some ⟨g2,0,none⟩)),(6, .pointer (some ⟨g16_n,0,none⟩)),(7, .int .i64 r38.1),(8,vown_6),(9, .int .i64 (i_9:Int)),(10,v35),(11, .int .i64 z.2.1)]) (fun z=>[.sl v35 50 2 z.2.2.length (z.2.2.flatMap GChoice.enc), .row g16_n 92 ((((r16.1.getD default).domains).1.map U)++[.pointer (some ⟨k16_n_512.sp,0,none⟩),v38_1_513]), .sl v38_1_513 31 1 r38.2.length c38_1_513.flatten, .sl vown_6 31 1 own_6.length cown_6.flatten, .row g2 29 [vp_0,vp_1,vp_2,vp_3], .fr F5]) (fun z=>zbd f15 z.1 (z.2.1,z.2.2)=some r) (fun z=>z.1) (fuel,0,([]++(nth l i_9))) ?_ ?_ ?_ ?_
        ·exact hk
        ·exact (.c (.c (.c (.c (.c (.c (.c (.c .nil))))))))
        ·exact List.Sublist.refl _
        ·rintro ⟨m_16,k_13,l_14⟩ hk; (try dsimp only at *);have hq:=zco hk;clear hk;obtain ⟨m_16',rfl,hk⟩:=hq;generalize hn15:zbd f15 m_16'=next15 at hk;rw [←hf15] at hk; (try dsimp only at hk);refine T.seq (T.sr ?_);refine TL.run 2 rfl ?_;refine TL.y (Yv.bk 0 rfl rfl rfl) ?_;refine TL.aZ 0 rfl ?_;intro _ hm41;refine TL.run 1 rfl ?_;refine TL.ns ?_;refine T.cond rfl (fun h17=>?_) (fun h17=>?_)
         ·have p17:=of_decide_eq_true h17;replace hk:=zab hk h17;refine T.skip (K.seq (T.seq (T.block ?_)));have hq:(0≤k_13∧k_13<(l_14.length:Int))∧_:=zaE hk;clear hk;obtain ⟨g47,hk⟩:=hq; (try dsimp only at hk);refine T.region ?_;refine TL.run 2 rfl ?_;refine TL.y (Yv.bZ 0 (i:=k_13.toNat) rfl rfl rfl rfl (by omega) (by omega)) ?_;refine TL.y (Yv.cq 0 rfl rfl rfl (by omega)) ?_;refine TL.e0 (Ew.bz 0 (k':=(l_14.set k_13.toNat (GChoice.mk 500 ((nth l_14 k_13.toNat).Channel))).length) (l':=(l_14.set k_13.toNat (GChoice.mk 500 ((nth l_14 k_13.toNat).Channel))).flatMap GChoice.enc) rfl rfl rfl rfl (by omega) (zeF (i:=k_13.toNat) (j:=0) GChoice.len (by omega) (by decide) (by omega)) (zfe (i:=k_13.toNat) (j:=0) (x:=(GChoice.mk 500 ((nth l_14 k_13.toNat).Channel))) GChoice.len (by omega) (by decide) (by omega) rfl) (List.length_set ..)) ?_;rintro _ _ ⟨rfl,rfl⟩;refine TL.nil (K.ad (K.seq (T.region ?_)));refine TL.run 1 rfl ?_;refine TL.y (Yv.an rfl rfl rfl (by omega)) ?_;refine TL.run 1 rfl ?_;refine TL.nil ?_;rw [←hn15] at hk;exact K.next (m_16',(k_13+1),(l_14.set k_13.toNat (GChoice.mk 500 ((nth l_14 k_13.toNat).Channel)))) hk (by dsimp only;omega) (.c (.c (.c (.c (.c (.c (.c (.c .nil)))))))) (List.Sublist.refl _)
         ·have p17:=of_decide_eq_false h17;replace hk:=zaa hk h17;refine T.exit (K.ab (K.ab (K.ae ?_)));exact K.aj l_14 hk (.c (.c (.c (.c (.c (.c .nil)))))) (List.Sublist.refl _)
       ·rintro l_11 hk;rw [←hk12] at hk; (try dsimp only at hk);refine T.seq (T.seq ?_);have hq:=zal hk;clear hk;obtain ⟨r54,hr54,hk⟩:=hq; (try dsimp only at hk);refine T.al (ι:=Unit) (fun z=>[(1,vl),(2, .pointer (some ⟨g2,0,none⟩)),(6, .pointer (some ⟨g16_n,0,none⟩)),(7, .int .i64 r38.1),(8,vown_6),(9, .int .i64 (i_9:Int)),(65, .bool ((!(r54 == (decide (r38.1=0))))||((decide (¬r38.1=0))&&(decide (¬r38.1=2)))))]) (fun z=>[.sl v35 50 2 l_11.length (l_11.flatMap GChoice.enc), .row g16_n 92 ((((r16.1.getD default).domains).1.map U)++[.pointer (some ⟨k16_n_512.sp,0,none⟩),v38_1_513]), .sl v38_1_513 31 1 r38.2.length c38_1_513.flatten, .sl vown_6 31 1 own_6.length cown_6.flatten, .row g2 29 [vp_0,vp_1,vp_2,vp_3], .fr F5]) (fun z=>True) ?_ ?_
        ·refine T.as (.still 0 (.still 1 (.still 2 (.still 3 (.still 4 (.still 6 (.still 7 (.eff 5 (.still 8 (.still 9 (.still 10 (.still 11 (.still 12 (.still 13 (.still 14 (.still 15 (.still 16 .done))))))))))))))))) _ (by kernel_rfl) (List.Sublist.refl _) ?_;refine TS.y rfl (Yv.am 4 rfl rfl rfl rfl) ?_;refine TS.run 2 rfl ?_;refine TS.y rfl (Yv.ao (i:=i_9) rfl rfl rfl (SlD.mono (rep:=R_List_GChoice.rep) (fun _ _ _ _=>R_List_GChoice.mono) hl le1_5).1 (SlD.mono (rep:=R_List_GChoice.rep) (fun _ _ _ _=>R_List_GChoice.mono) hl le1_5).2.1 rfl (by omega)) ?_;refine TS.y rfl (Yv.loadR 5 (i:=i_9) (j:=0) rfl rfl rfl (SlD.mono (rep:=R_List_GChoice.rep) (fun _ _ _ _=>R_List_GChoice.mono) hl le1_5).1 (SlD.mono (rep:=R_List_GChoice.rep) (fun _ _ _ _=>R_List_GChoice.mono) hl le1_5).2.1 (by omega) rfl (R_List_GChoice.c0 ((SlD.mono (rep:=R_List_GChoice.rep) (fun _ _ _ _=>R_List_GChoice.mono) hl le1_5).2.2 i_9 (by omega))).1) ?_;have hd53_0:=(R_List_GChoice.c0 ((SlD.mono (rep:=R_List_GChoice.rep) (fun _ _ _ _=>R_List_GChoice.mono) hl le1_5).2.2 i_9 (by omega))).2;haveI:=hd53_0.oneC;refine TS.run 2 rfl ?_;refine TS.eff ?_;refine TSo.aD rfl (Wt.none rfl) rfl rfl (Ew.af rfl rfl rfl (fun w hw=>zgk _ w (hw.fr (i:=5) rfl) p vp_0 cp_0 (SlD.mono (rep:=GDomain.rep) (fun _ _ _ _=>GDomain.mono) hp_0 le1_5) vp_1 (SlC.mono hp_1 le1_5) vp_2 (SlC.mono hp_2 le1_5) vp_3 (SlC.mono hp_3 le1_5) (nth l i_9) (nth (nth cl i_9) 0) hd53_0 r54 hr54)) ?_;rintro _ _ ⟨rfl,rfl⟩;refine ⟨(fun w hw=>hw.sub Sx),?_⟩;refine TS.y rfl (Yv.cy (by kernel_rfl) rfl rfl rfl) ?_;refine TS.run 1 rfl ?_;refine TS.gs rfl rfl rfl rfl (fun h18=>?_) (fun h18=>?_)
         ·refine TS.run 7 rfl ?_;refine TS.done ?_;exact K.aj () trivial (.c (.c (.c (.c (.c (.c (.b (zbN h18).symm .nil))))))) (List.Sublist.refl _)
         ·refine TS.run 3 rfl ?_;refine TS.gs rfl rfl rfl rfl (fun h19=>?_) (fun h19=>?_)
          ·have p19:=of_decide_eq_true h19;refine TS.run 4 rfl ?_;refine TS.done ?_;exact K.aj () trivial (.c (.c (.c (.c (.c (.c (.b (Eq.trans (zdi h19) (or_f h18)) .nil))))))) (List.Sublist.refl _)
          ·have p19:=of_decide_eq_false h19;refine TS.run 4 rfl ?_;refine TS.done ?_;exact K.aj () trivial (.c (.c (.c (.c (.c (.c (.b (zcp h18 (zaJ h19)).symm .nil))))))) (List.Sublist.refl _)
        ·rintro _ _;refine T.cond rfl (fun h20=>?_) (fun h20=>?_)
         ·replace hk:=zab hk h20;refine T.sr ?_;refine TL.run 2 rfl ?_;refine TL.ns (T.ret (K.aa (K.ag (K.aa (K.aa (K.ag (K.aa ?_)))))));obtain rfl:=Option.some.inj hk;exact K.aN rfl rfl rfl (fun w' hw=>⟨fun h=>(by cases h),fun _=>⟨((.slice none 0 0),[]),F5.toFrz,(SlD.nil _ _ 1),rfl,FxM.of (hw.pick (idx:=[5]) rfl (by decide)) hS0 le1_5⟩⟩)
         ·replace hk:=zaa hk h20;refine T.skip (K.seq (T.sr ?_));refine TL.run 2 rfl ?_;refine TL.ns ?_;refine T.cond rfl (fun h21=>?_) (fun h21=>?_)
          ·have p21:=of_decide_eq_true h21;replace hk:=zab hk h21;have hq:(room (own_6++[(nth l i_9)]).length 24)∧_:=zaE hk;clear hk;obtain ⟨g74,hk⟩:=hq; (try dsimp only at hk);refine T.region ?_;refine TL.run 3 rfl ?_;refine TL.y (Yv.ao (i:=i_9) rfl rfl rfl (SlD.mono (rep:=R_List_GChoice.rep) (fun _ _ _ _=>R_List_GChoice.mono) hl le1_5).1 (SlD.mono (rep:=R_List_GChoice.rep) (fun _ _ _ _=>R_List_GChoice.mono) hl le1_5).2.1 rfl (by omega)) ?_;refine TL.y (Yv.loadR 5 (i:=i_9) (j:=0) rfl rfl rfl (SlD.mono (rep:=R_List_GChoice.rep) (fun _ _ _ _=>R_List_GChoice.mono) hl le1_5).1 (SlD.mono (rep:=R_List_GChoice.rep) (fun _ _ _ _=>R_List_GChoice.mono) hl le1_5).2.1 (by omega) rfl (R_List_GChoice.c0 ((SlD.mono (rep:=R_List_GChoice.rep) (fun _ _ _ _=>R_List_GChoice.mono) hl le1_5).2.2 i_9 (by omega))).1) ?_;have hd72_0:=(R_List_GChoice.c0 ((SlD.mono (rep:=R_List_GChoice.rep) (fun _ _ _ _=>R_List_GChoice.mono) hl le1_5).2.2 i_9 (by omega))).2;haveI:=hd72_0.oneC;refine TL.e (Ew.buildSlice rfl rfl rfl (by decide)) ?_;rintro _ _ ⟨g73,rfl,rfl⟩;have hl73:OwnD R_List_GChoice.rep F5.toFrz 1 [[(nth (nth cl i_9) 0)]] [(nth l i_9)]:=(OwnD.snoc (OwnD.nil _ _ 1) ⟨_,rfl,hd72_0⟩ rfl);refine TL.e (Ew.aQ 4 0 rfl rfl rfl rfl rfl rfl (zce (ys:=[(nth l i_9)]) rfl) (zbI (cs:=cown_6) (ds:=[[(nth (nth cl i_9) 0)]])) g74 (by decide)) ?_;rintro v74 _ ⟨hv74,rfl⟩;have ho74:OwnD R_List_GChoice.rep F5.toFrz 1 (cown_6++[[(nth (nth cl i_9) 0)]]) (own_6++[(nth l i_9)]):=(OwnD.snoc (OwnD.mono (rep:=R_List_GChoice.rep) (fun _ _ _ _=>R_List_GChoice.mono) hown_6 le4_5) ⟨_,rfl,hd72_0⟩ rfl);refine TL.run 1 rfl ?_;refine TL.nil (K.ad (K.seq (T.region ?_)));refine TL.run 1 rfl ?_;refine TL.y (Yv.an rfl rfl rfl (by omega)) ?_;refine TL.run 1 rfl ?_;refine TL.nil ?_;rw [←hn8] at hk;refine K.pick [4,3,2,5,6] rfl (by decide) ?_;exact K.next ((i_9+1),(own_6++[(nth l i_9)]),v74,(cown_6++[[(nth (nth cl i_9) 0)]]),r38.2,v38_1_513,c38_1_513,F5) ⟨hk,ho74,inferInstance,ho38_1_513,inferInstance,le2_5⟩ (by dsimp only;omega) (.c (.c (.c (.c (.c .nil))))) (List.Sublist.refl _)
          ·have p21:=of_decide_eq_false h21;replace hk:=zaa hk h21;refine T.skip (K.ad (K.seq (T.region ?_)));refine TL.run 1 rfl ?_;refine TL.y (Yv.an rfl rfl rfl (by omega)) ?_;refine TL.run 1 rfl ?_;refine TL.nil ?_;rw [←hn8] at hk;refine K.pick [3,2,1,4,5] rfl (by decide) ?_;exact K.next ((i_9+1),own_6,vown_6,cown_6,r38.2,v38_1_513,c38_1_513,F5) ⟨hk,(OwnD.mono (rep:=R_List_GChoice.rep) (fun _ _ _ _=>R_List_GChoice.mono) hown_6 le4_5),inferInstance,ho38_1_513,inferInstance,le2_5⟩ (by dsimp only;omega) (.c (.c (.c (.c (.c .nil))))) (List.Sublist.refl _)
      ·have p10:=of_decide_eq_false h10;rw [zas (by omega),←hkk8] at hk; (try dsimp only at hk);refine T.exit (K.ab (K.ab (K.ae ?_)));refine K.pick [0,1,2,4] rfl (by decide) ?_;exact K.aj (own_6,vown_6,cown_6,c_7,vc_7,cc_7,F4) ⟨hk,hown_6,inferInstance,hc_7,inferInstance,le2_4⟩ (.c (.c .nil)) (List.Sublist.refl _)
    ·rintro ⟨own_3,vown_3,cown_3,c_4,vc_4,cc_4,F3⟩ ⟨hk,hown_3,oown_3,hc_4,oc_4,le2_3⟩; (try dsimp only at *);rw [←hk5] at hk; (try dsimp only at hk);have le1_3:=le1_2.trans le2_3;refine T.seq ?_;have hq:=zal hk;clear hk;obtain ⟨r77,hr77,hk⟩:=hq; (try dsimp only at hk);refine T.region ?_;refine TL.run 1 rfl ?_;refine TL.e (Ew.aH [2,1,3,0] [.row g16_n 92 ((((r16.1.getD default).domains).1.map U)++([.pointer (some ⟨k16_n_512.sp,0,none⟩),vc_4]:List Value)), .sl vc_4 31 1 c_4.length cc_4.flatten] [.sl vown_3 31 1 own_3.length cown_3.flatten] rfl rfl rfl rfl (by decide) (fun w hw hw2 hF=>zfR _ w hF (GStore.mk ((r16.1.getD default).domains) (((r16.1.getD default).start).1,((r16.1.getD default).start).2) c_4) g16_n k16_n_512 v16_n_512 L16_n_512 hs16_n_512 (tf16_n_512.mono le2_3) (zf16_n_512.mono le2_3) vc_4 cc_4 hc_4 hw2.takes.1 hw2.takes.2 fuel r77 hr77)) ?_;rintro _ _ ⟨⟨v77_0_0,cs77_0_0⟩,F6,le3_6,hf77_0_0,rfl,rfl⟩;dsimp only [List.cons_append,List.nil_append]; (try dsimp only at hf77_0_0);have le1_6:=le1_3.trans le3_6;have le2_6:=le2_3.trans le3_6;haveI:=hf77_0_0.1.oneC;refine TL.run 5 rfl ?_;refine TL.ns (T.seq (T.seq ?_));refine T.aX (fun w hw=>hw.freezeS (i:=2) (j:=3) (by decide) rfl rfl) ?_;rintro F7 ⟨le6_7,hz7⟩;dsimp only [List.set,List.eraseIdx];have le1_7:=le1_6.trans le6_7;have le2_7:=le2_6.trans le6_7;have le3_7:=le3_6.trans le6_7;have hf7:=hz7.toD (OwnD.mono (rep:=R_List_GChoice.rep) (fun _ _ _ _=>R_List_GChoice.mono) hown_3 le3_7) rfl;haveI:=hf7.1.oneC;refine T.al (ι:=Unit) (fun z=>[(6, .pointer (some ⟨g16_n,0,none⟩)),(8,vown_3),(94, .bool (((!r77.2)||(decide (¬(zao (GStore.mk ((r16.1.getD default).domains) (((r16.1.getD default).start).1,((r16.1.getD default).start).2) c_4))=(own_3.length:Int))))||(!(zbU r77.1 own_3))))]) (fun z=>[.row g16_n 92 ((((r16.1.getD default).domains).1.map U)++[.pointer (some ⟨k16_n_512.sp,0,none⟩),vc_4]), .sl vc_4 31 1 c_4.length cc_4.flatten, .fr F7]) (fun z=>True) ?_ ?_
     ·refine T.region ?_;refine TL.run 3 rfl ?_;refine TL.gs rfl rfl rfl (fun h22=>?_) (fun h22=>?_)
      ·refine TL.run 12 rfl ?_;refine TL.nil ?_;exact K.aj () trivial (.c (.c (.b (zbN (zbN h22)).symm .nil))) (List.Sublist.refl _)
      ·refine TL.run 1 rfl ?_;refine TL.e (Ew.aU [0,1,2] [.row g16_n 92 ((((r16.1.getD default).domains).1.map U)++([.pointer (some ⟨k16_n_512.sp,0,none⟩),vc_4]:List Value)), .sl vc_4 31 1 c_4.length cc_4.flatten] [] rfl rfl rfl rfl (by decide) (fun w hw hw2 hF=>zbD _ w hF (GStore.mk ((r16.1.getD default).domains) (((r16.1.getD default).start).1,((r16.1.getD default).start).2) c_4) g16_n k16_n_512 v16_n_512 L16_n_512 hs16_n_512 (tf16_n_512.mono le2_7) (zf16_n_512.mono le2_7) vc_4 cc_4 (OwnD.mono (rep:=R_List_GChoice.rep) (fun _ _ _ _=>R_List_GChoice.mono) hc_4 le3_7) hw2.takes.1 hw2.takes.2)) ?_;rintro _ _ ⟨⟨⟩, -,rfl,rfl⟩;dsimp only [List.cons_append,List.nil_append];refine TL.run 1 rfl ?_;refine TL.y (Yv.ar rfl rfl hf7.1 hf7.2.1) ?_;have hm86:own_3.length≤9223372036854775807:=hf7.2.1▸hf7.1.max;refine TL.run 3 rfl ?_;refine TL.gs rfl rfl rfl (fun h23=>?_) (fun h23=>?_)
       ·have p23:=of_decide_eq_true h23;refine TL.run 5 rfl ?_;refine TL.nil ?_;exact K.aj () trivial (.c (.c (.b (zbN (zcp h22 h23)).symm .nil))) (List.Sublist.refl _)
       ·have p23:=of_decide_eq_false h23;refine TL.run 2 rfl ?_;refine TL.e (Ew.af rfl rfl rfl (fun w hw=>zhn _ w (hw.fr (i:=2) rfl) r77.1 v77_0_0 cs77_0_0 (SlD.mono (rep:=R_List_GChoice.rep) (fun _ _ _ _=>R_List_GChoice.mono) hf77_0_0 le6_7) own_3 vown_3 cown_3 hf7)) ?_;rintro _ _ ⟨rfl,rfl⟩;refine TL.run 2 rfl ?_;refine TL.nil ?_;exact K.aj () trivial (.c (.c (.b (or_f (zcp h22 h23)) .nil))) (List.Sublist.refl _)
     ·rintro _ _;have hm86:own_3.length≤9223372036854775807:=hf7.2.1▸hf7.1.max;refine T.cond rfl (fun h24=>?_) (fun h24=>?_)
      ·replace hk:=zab hk h24;refine T.sr ?_;refine TL.run 2 rfl ?_;refine TL.ns (T.ret (K.aa ?_));obtain rfl:=Option.some.inj hk;exact K.aN rfl rfl rfl (fun w' hw=>⟨fun h=>(by cases h),fun _=>⟨((.slice none 0 0),[]),F7.toFrz,(SlD.nil _ _ 1),rfl,FxM.of (hw.pick (idx:=[2]) rfl (by decide)) hS0 le1_7⟩⟩)
      ·have p24:=h24; (try simp only [nfB] at p24);replace hk:=zaa hk h24;refine T.skip (K.seq (T.sr ?_));refine TL.run 4 rfl ?_;refine TL.ns (T.ret ?_);obtain rfl:=Option.some.inj hk;exact K.aN rfl rfl rfl (fun w' hw=>⟨fun _=>⟨(vown_3,cown_3,g16_n,k16_n_512,v16_n_512,L16_n_512,vc_4,cc_4),F7.toFrz,⟨hf7,hs16_n_512,(tf16_n_512.mono le2_7),(zf16_n_512.mono le2_7),(OwnD.mono (rep:=R_List_GChoice.rep) (fun _ _ _ _=>R_List_GChoice.mono) hc_4 le3_7)⟩,rfl,FxM.of (hw.pick (idx:=[0,1,2]) rfl (by decide)) hS0 le1_7⟩,fun h=>(by cases h)⟩)
 ·replace hk:=zaa hk h1;refine T.region ?_;refine TL.y (Yv.am 0 rfl rfl rfl rfl) ?_;refine TL.e (Ew.aH [1,0] [] [.row g2 29 [vp_0,vp_1,vp_2,vp_3]] rfl rfl rfl rfl (by decide) (fun w hw hw2 hF=>(zbB _ w hF p vp_0 cp_0 hp_0 vp_1 hp_1 vp_2 hp_2 vp_3 hp_3 (htk hw) fuel hfu r16 hr16).mono (fun e w' hp=>hp.2 h1))) ?_;rintro _ _ ⟨⟨⟩,F8,le1_8, -,rfl,rfl⟩;dsimp only [List.cons_append,List.nil_append];refine TL.run 5 rfl ?_;refine TL.ns (T.seq (T.seq ?_));refine T.al (ι:=Unit) (fun z=>[(1,vl),(2, .pointer (some ⟨g2,0,none⟩)),(6, .pointer none),(24, .bool true)]) (fun z=>[.row g2 29 [vp_0,vp_1,vp_2,vp_3], .fr F8]) (fun z=>True) ?_ ?_
  ·refine T.region ?_;refine TL.run 1 rfl ?_;refine TL.y (Yv.ba (e:=92) (by kernel_rfl) rfl rfl rfl) ?_;refine TL.run 4 rfl ?_;refine TL.nil ?_;refine K.pick [1,0] rfl (by decide) ?_;exact K.aj () trivial (.c (.c (.c (.c .nil)))) (List.Sublist.refl _)
  ·rintro _ _;refine T.aK rfl rfl ?_;refine T.sr ?_;refine TL.run 2 rfl ?_;refine TL.ns (T.ret (K.aa ?_));obtain rfl:=Option.some.inj hk;exact K.aN rfl rfl rfl (fun w' hw=>⟨fun h=>(by cases h),fun _=>⟨((.slice none 0 0),[]),F8.toFrz,(SlD.nil _ _ 1),rfl,FxM.of (hw.pick (idx:=[1]) rfl (by decide)) hS0 le1_8⟩⟩)
def zbO (fuel:Nat)(p:GProblem)(l:List (List GChoice))(a:List GChoice):Option Bool:=
 (zb9 fuel p l).bind fun r17=>
 zax (fun (x_1:Bool)=>
  (bif x_1 then
   (zbo fuel).bind fun r29=>
   some r29
   else
   (zcy fuel p l).bind fun r33=>
   (bif (r33.1).isSome then
    (zaf fuel (r33.1.getD default) a).bind fun r41=>
    (bif !(zaS a) then
     zax (fun (x_8:Bool)=>
      some x_8)
     (fun k9=>
      (bif decide ((r41.1.length:Int)=0) then
       (bif !r41.2.1 then
        (bif decide (r41.2.2=2) then
         (zbo fuel).bind fun r60=>
         k9 r60
         else
         k9 false)
        else
        k9 false)
       else
       k9 false))
     else
     zax (fun (_:Unit)=>
      (zcQ fuel p r33.2 a).bind fun r94=>
      zax (fun (x_23:Bool)=>
       some x_23)
      (fun k24=>
       (bif decide (r41.2.2=0) then
        (bif !(r41.2.1 == r94.2) then
         (bif (zaP r41.1 r94.1) then
          (zbo fuel).bind fun r110=>
          k24 r110
          else
          k24 false)
         else
         k24 false)
        else
        k24 false)))
     (fun k13=>
      zai (fun (i_15:Nat) (next14:Unit→Option Bool) (_:Unit)=>
       (bif decide ((zad p ((nth a i_15).Station))<0) then
        zax (fun (x_18:Bool)=>
         some x_18)
        (fun k19=>
         (bif decide ((r41.1.length:Int)=0) then
          (bif !r41.2.1 then
           (bif decide (r41.2.2=9) then
            (zbo fuel).bind fun r88=>
            k19 r88
            else
            k19 false)
           else
           k19 false)
          else
          k19 false))
        else
        next14 ()))
      (fun (_:Unit)=>
       k13 ()) (a.length - 0) 0 ()))
    else
    some false)))
 (fun k2=>
  (bif !r17 then
   k2 true
   else
   (bif decide (20<(a.length:Int)) then
    k2 true
    else
    (zbV p).bind fun r26=>
    k2 (!r26))))
theorem zel (F0:Frz)(w:World)(hF0:F0.At w)(p:GProblem)(vp_0:Value)(cp_0:List (List Value))(hp_0:SlD GDomain.rep F0 vp_0 2 cp_0 p.Domains)(vp_1:Value)(hp_1:SlC F0 vp_1 5 (p.Rules.Pairs.map GPair.enc))(vp_2:Value)(hp_2:SlC F0 vp_2 5 (p.Rules.Loads.map GLoad.enc))(vp_3:Value)(hp_3:SlC F0 vp_3 4 (p.Rules.Caps.map GCap.enc))(l:List (List GChoice))(vl:Value)(cl:List (List Value))(hl:SlD R_List_GChoice.rep F0 vl 1 cl l)(a:List GChoice)(va:Value)(ha:SlC F0 va 2 (a.map GChoice.enc))(htab:Tab w)(fuel:Nat)(hfu:100000≤fuel)(r:Bool)(hr:zbO fuel p l a=some r):Calls Tryz.prog 4 #[.agg [vp_0,vp_1,vp_2,vp_3].toArray,vl,va] w fun e w'=>e= .returned (.bool r)∧Below w.heap.size w w':=by
 have hk:=hr;unfold zbO at hk;haveI:=hp_0.1.oneC;haveI:=hp_1.oneC;haveI:=hp_2.oneC;haveI:=hp_3.oneC;haveI:=hl.1.oneC;haveI:=ha.oneC;obtain ⟨S0,F1,rfl,hS0,hp0⟩:=zan hF0;have hM0:¬(fun _:Nat=>False) 0:=fun h=>h;have htk:∀ {hs:HS} {w':World},Hp w (fun _=>False) hs w'→Tab w':=fun hw=>htab.keptF hw;refine zac Tryz.func4 rfl rfl rfl hp0 ?_;refine T.sr ?_;refine TL.e (Ew.aA rfl rfl) ?_;rintro _ _ ⟨g3,rfl,rfl⟩;refine TL.run 1 rfl ?_;refine TL.ns (T.seq (T.seq ?_));have hq:=zal hk;clear hk;obtain ⟨r17,hr17,hk⟩:=hq; (try dsimp only at hk);have hq:=zae hk;clear hk;obtain ⟨k2,hk2,hk⟩:=hq; (try dsimp only at hk);refine T.al (ι:=Bool) (fun z=>[(1,vl),(2,va),(3, .pointer (some ⟨g3,0,none⟩)),(28, .bool z)]) (fun z=>[.row g3 29 [vp_0,vp_1,vp_2,vp_3], .fr F1]) (fun z=>k2 z=some r) ?_ ?_
 ·refine T.region ?_;refine TL.y (Yv.am 0 rfl rfl rfl rfl) ?_;refine TL.run 1 rfl ?_;refine TL.e (Ew.af rfl rfl rfl (fun w hw=>zgl _ w (hw.fr (i:=1) rfl) p vp_0 cp_0 hp_0 vp_1 hp_1 vp_2 hp_2 vp_3 hp_3 l vl cl hl fuel r17 hr17)) ?_;rintro _ _ ⟨rfl,rfl⟩;refine TL.run 2 rfl ?_;refine TL.gs rfl rfl rfl (fun h3=>?_) (fun h3=>?_)
  ·replace hk:=zab hk h3;refine TL.run 9 rfl ?_;refine TL.nil ?_;exact K.aj true hk (.c (.c (.c (.c .nil)))) (List.Sublist.refl _)
  ·replace hk:=zaa hk h3;refine TL.run 1 rfl ?_;refine TL.y (Yv.ar rfl rfl ha (List.length_map _)) ?_;have hm21:a.length≤9223372036854775807:=(List.length_map _)▸ha.max;refine TL.run 3 rfl ?_;refine TL.gs rfl rfl rfl (fun h4=>?_) (fun h4=>?_)
   ·have p4:=of_decide_eq_true h4;replace hk:=zab hk h4;refine TL.run 4 rfl ?_;refine TL.nil ?_;exact K.aj true hk (.c (.c (.c (.c .nil)))) (List.Sublist.refl _)
   ·have p4:=of_decide_eq_false h4;replace hk:=zaa hk h4;refine TL.y (Yv.am 0 rfl rfl rfl rfl) ?_;have hq:=zal hk;clear hk;obtain ⟨r26,hr26,hk⟩:=hq;refine TL.e (Ew.af rfl rfl rfl (fun w hw=>zeg _ w (hw.fr (i:=1) rfl) p vp_0 cp_0 hp_0 vp_1 hp_1 vp_2 hp_2 vp_3 hp_3 r26 hr26)) ?_;rintro _ _ ⟨rfl,rfl⟩;refine TL.run 2 rfl ?_;refine TL.nil ?_;exact K.aj (!r26) hk (.c (.c (.c (.c .nil)))) (List.Sublist.refl _)
 ·rintro x_1 hk;rw [←hk2] at hk; (try dsimp only at hk);refine T.cond rfl (fun h5=>?_) (fun h5=>?_)
  ·replace hk:=zab hk h5;refine T.seq ?_;have hq:=zal hk;clear hk;obtain ⟨r29,hr29,hk⟩:=hq; (try dsimp only at hk);refine T.region ?_;refine TL.e (Ew.af rfl rfl rfl (fun w hw=>zcJ _ w (hw.fr (i:=1) rfl) (htab.keptF hw) fuel hfu r29 hr29)) ?_;rintro _ _ ⟨rfl,rfl⟩;refine TL.run 1 rfl ?_;refine TL.ns (T.ret (K.aa ?_));obtain rfl:=Option.some.inj hk;exact K.ah rfl rfl (fun w' hw=>⟨rfl,hw.isBelow⟩)
  ·replace hk:=zaa hk h5;refine T.skip (K.seq (T.seq ?_));have hq:=zal hk;clear hk;obtain ⟨r33,hr33,hk⟩:=hq; (try dsimp only at hk);refine T.bc ((r33.1).isSome) (fun h6=>?_) (fun h6=>?_)
   ·replace hk:=zab hk h6;refine T.region ?_;refine TL.y (Yv.am 0 rfl rfl rfl rfl) ?_;refine TL.run 1 rfl ?_;refine TL.e (Ew.aH [1,0] [] [.row g3 29 [vp_0,vp_1,vp_2,vp_3]] rfl rfl rfl rfl (by decide) (fun w hw hw2 hF=>(zeP _ w hF p vp_0 cp_0 hp_0 vp_1 hp_1 vp_2 hp_2 vp_3 hp_3 l vl cl hl (htk hw) fuel hfu r33 hr33).mono (fun e w' hp=>hp.1 h6))) ?_;rintro _ _ ⟨⟨v33_1_0,cs33_1_0,g33_n,k33_n_512,v33_n_512,L33_n_512,v33_n_513,c33_n_513⟩,F2,le1_2,⟨hf33_1_0,hs33_n_512,tf33_n_512,zf33_n_512,ho33_n_513⟩,rfl,rfl⟩;dsimp only [List.cons_append,List.nil_append]; (try dsimp only at hf33_1_0 hs33_n_512 tf33_n_512 zf33_n_512 ho33_n_513);haveI:=hf33_1_0.1.oneC;refine TL.aZ 1 rfl ?_;intro iv33_n_513 hmv33_n_513;refine TL.run 5 rfl ?_;refine TL.ns (T.seq (T.sr ?_));refine TL.run 1 rfl ?_;refine TL.y (Yv.ba (e:=92) (by kernel_rfl) rfl rfl rfl) ?_;refine TL.ns ?_;refine T.aJ rfl rfl ?_;refine T.skip (K.seq (T.seq ?_));have hq:=zal hk;clear hk;obtain ⟨r41,hr41,hk⟩:=hq; (try dsimp only at hk);refine T.region ?_;refine TL.run 2 rfl ?_;refine TL.e (Ew.aH [0,1,2,3] [.row g33_n 92 ((((r33.1.getD default).domains).1.map U)++([.pointer (some ⟨k33_n_512.sp,0,none⟩),v33_n_513]:List Value)), .sl v33_n_513 31 1 ((r33.1.getD default).list).length c33_n_513.flatten] [.row g3 29 [vp_0,vp_1,vp_2,vp_3]] rfl rfl rfl rfl (by decide) (fun w hw hw2 hF=>zaN _ w hF (r33.1.getD default) g33_n k33_n_512 v33_n_512 L33_n_512 hs33_n_512 tf33_n_512 zf33_n_512 v33_n_513 c33_n_513 ho33_n_513 a va (SlC.mono ha le1_2) (htk hw) hw2.takes.1 hw2.takes.2 (hw2.takes0 hM0 htab.pos) fuel hfu r41 hr41)) ?_;rintro _ _ ⟨⟨v41_0_0,cs41_0_0⟩,F3,le2_3,hf41_0_0,rfl,rfl⟩;dsimp only [List.cons_append,List.nil_append]; (try dsimp only at hf41_0_0);have le1_3:=le1_2.trans le2_3;haveI:=hf41_0_0.1.oneC;refine TL.run 7 rfl ?_;refine TL.ns (T.seq (T.sr ?_));refine TL.run 1 rfl ?_;refine TL.e (Ew.af rfl rfl rfl (fun w hw=>zc8 _ w (hw.fr (i:=2) rfl) a va (SlC.mono ha le1_3))) ?_;rintro _ _ ⟨rfl,rfl⟩;refine TL.run 1 rfl ?_;refine TL.ns ?_;refine T.cond rfl (fun h7=>?_) (fun h7=>?_)
    ·replace hk:=zab hk h7;refine T.seq ?_; (try dsimp only at hk);have hq:=zae hk;clear hk;obtain ⟨k9,hk9,hk⟩:=hq; (try dsimp only at hk);refine T.al (ι:=Bool) (fun z=>[(6, .bool z)]) (fun z=>[.fr F3]) (fun z=>k9 z=some r) ?_ ?_
     ·refine T.region ?_;refine TL.run 1 rfl ?_;refine TL.y (Yv.ar rfl rfl hf41_0_0.1 hf41_0_0.2.1) ?_;have hm49:r41.1.length≤9223372036854775807:=hf41_0_0.2.1▸hf41_0_0.1.max;refine TL.run 2 rfl ?_;refine TL.gs rfl rfl rfl (fun h10=>?_) (fun h10=>?_)
      ·have p10:=of_decide_eq_true h10;replace hk:=zab hk h10;refine TL.run 4 rfl ?_;refine TL.gs rfl rfl rfl (fun h11=>?_) (fun h11=>?_)
       ·replace hk:=zab hk h11;refine TL.run 4 rfl ?_;refine TL.gs rfl rfl rfl (fun h12=>?_) (fun h12=>?_)
        ·have p12:=of_decide_eq_true h12;replace hk:=zab hk h12;have hq:=zal hk;clear hk;obtain ⟨r60,hr60,hk⟩:=hq;refine TL.e (Ew.af rfl rfl rfl (fun w hw=>zcJ _ w (hw.fr (i:=2) rfl) (htab.keptF hw) fuel hfu r60 hr60)) ?_;rintro _ _ ⟨rfl,rfl⟩;refine TL.run 2 rfl ?_;refine TL.nil ?_;refine K.pick [2] rfl (by decide) ?_;exact K.aj r60 hk (.c .nil) (List.Sublist.refl _)
        ·have p12:=of_decide_eq_false h12;replace hk:=zaa hk h12;refine TL.run 3 rfl ?_;refine TL.nil ?_;refine K.pick [2] rfl (by decide) ?_;exact K.aj false hk (.c .nil) (List.Sublist.refl _)
       ·replace hk:=zaa hk h11;refine TL.run 7 rfl ?_;refine TL.nil ?_;refine K.pick [2] rfl (by decide) ?_;exact K.aj false hk (.c .nil) (List.Sublist.refl _)
      ·have p10:=of_decide_eq_false h10;replace hk:=zaa hk h10;refine TL.run 11 rfl ?_;refine TL.nil ?_;refine K.pick [2] rfl (by decide) ?_;exact K.aj false hk (.c .nil) (List.Sublist.refl _)
     ·rintro x_8 hk;rw [←hk9] at hk; (try dsimp only at hk);refine T.ret (K.aa ?_);obtain rfl:=Option.some.inj hk;exact K.ah rfl rfl (fun w' hw=>⟨rfl,hw.isBelow⟩)
    ·replace hk:=zaa hk h7;refine T.skip (K.seq (T.seq (T.sr ?_)));refine TL.run 1 rfl ?_;refine TL.ns ?_;have hq:=zae hk;clear hk;obtain ⟨k13,hk13,hk⟩:=hq; (try dsimp only at hk);refine T.al (ι:=Unit) (fun z=>[(2,va),(3, .pointer (some ⟨g3,0,none⟩)),(8,v33_1_0),(9,v41_0_0),(10, .bool r41.2.1),(11, .int .i64 r41.2.2)]) (fun z=>[.row g3 29 [vp_0,vp_1,vp_2,vp_3], .fr F3]) (fun z=>k13 ()=some r) ?_ ?_
     ·have hq:=zaj hk;clear hk;obtain ⟨f14,kk14,hf14,hkk14,hk⟩:=hq;refine T.block ?_;refine T.pick [3,2] rfl (by decide) ?_;refine T.loop (ι:=Nat) (fun z=>[(2,va),(3, .pointer (some ⟨g3,0,none⟩)),(8,v33_1_0),(9,v41_0_0),(10, .bool r41.2.1),(11, .int .i64 r41.2.2),(12, .int .i64 (z:Int))]) (fun z=>[.row g3 29 [vp_0,vp_1,vp_2,vp_3], .fr F3]) (fun z=>zai f14 kk14 (a.length - z) z ()=some r) (fun z=>a.length - z) 0 ?_ ?_ ?_ ?_
      ·exact hk
      ·exact (.c (.c (.c (.c (.c (.c (.c .nil)))))))
      ·exact List.Sublist.refl _
      ·rintro i_15 hk;refine T.seq (T.sr ?_);refine TL.run 2 rfl ?_;refine TL.y (Yv.ar rfl rfl (SlC.mono ha le1_3) (List.length_map _)) ?_;have hm64:a.length≤9223372036854775807:=(List.length_map _)▸(SlC.mono ha le1_3).max;refine TL.run 1 rfl ?_;refine TL.ns ?_;refine T.cond rfl (fun h16=>?_) (fun h16=>?_)
       ·have p16:=of_decide_eq_true h16;rw [zar (by omega)] at hk;generalize hn14:zai f14 kk14 (a.length - (i_15+1)) (i_15+1)=next14 at hk;rw [←hf14] at hk; (try dsimp only at hk);refine T.skip (K.seq (T.seq (T.block (T.seq ?_))));refine T.as (.still 0 (.still 1 (.still 2 (.still 3 (.still 4 (.still 5 (.eff 6 (.still 7 .done)))))))) _ (by kernel_rfl) (List.Sublist.refl _) ?_;refine TS.y rfl (Yv.am 0 rfl rfl rfl rfl) ?_;refine TS.run 2 rfl ?_;refine TS.y rfl (Yv.ao (i:=i_15) rfl rfl rfl (SlC.mono ha le1_3) (List.length_map _) rfl (by omega)) ?_;refine TS.y rfl (Yv.aG rfl rfl (SlC.mono ha le1_3) (List.length_map _) (by omega)) ?_;refine TS.y rfl (Yv.az 1 (i:=i_15) (j:=0) rfl rfl rfl (SlC.mono ha le1_3) (by omega) rfl rfl) ?_;refine TS.eff ?_;refine TSo.aD rfl (Wt.none rfl) rfl rfl (Ew.af rfl rfl rfl (fun w hw=>zbT _ w (hw.fr (i:=1) rfl) p vp_0 cp_0 (SlD.mono (rep:=GDomain.rep) (fun _ _ _ _=>GDomain.mono) hp_0 le1_3) vp_1 (SlC.mono hp_1 le1_3) vp_2 (SlC.mono hp_2 le1_3) vp_3 (SlC.mono hp_3 le1_3) ((nth a i_15).Station))) ?_;rintro _ _ ⟨rfl,rfl⟩;refine ⟨(fun w hw=>hw.sub Sx),?_⟩;refine TS.run 1 rfl ?_;refine TS.done ?_;refine K.seq ?_;refine T.cond rfl (fun h17=>?_) (fun h17=>?_)
        ·have p17:=of_decide_eq_true h17;replace hk:=zab hk h17;refine T.seq ?_; (try dsimp only at hk);have hq:=zae hk;clear hk;obtain ⟨k19,hk19,hk⟩:=hq; (try dsimp only at hk);refine T.al (ι:=Bool) (fun z=>[(6, .bool z)]) (fun z=>[.fr F3]) (fun z=>k19 z=some r) ?_ ?_
         ·refine T.region ?_;refine TL.run 1 rfl ?_;refine TL.y (Yv.ar rfl rfl hf41_0_0.1 hf41_0_0.2.1) ?_;have hm77:r41.1.length≤9223372036854775807:=hf41_0_0.2.1▸hf41_0_0.1.max;refine TL.run 2 rfl ?_;refine TL.gs rfl rfl rfl (fun h20=>?_) (fun h20=>?_)
          ·have p20:=of_decide_eq_true h20;replace hk:=zab hk h20;refine TL.run 4 rfl ?_;refine TL.gs rfl rfl rfl (fun h21=>?_) (fun h21=>?_)
           ·replace hk:=zab hk h21;refine TL.run 4 rfl ?_;refine TL.gs rfl rfl rfl (fun h22=>?_) (fun h22=>?_)
            ·have p22:=of_decide_eq_true h22;replace hk:=zab hk h22;have hq:=zal hk;clear hk;obtain ⟨r88,hr88,hk⟩:=hq;refine TL.e (Ew.af rfl rfl rfl (fun w hw=>zcJ _ w (hw.fr (i:=1) rfl) (htab.keptF hw) fuel hfu r88 hr88)) ?_;rintro _ _ ⟨rfl,rfl⟩;refine TL.run 2 rfl ?_;refine TL.nil ?_;refine K.pick [1] rfl (by decide) ?_;exact K.aj r88 hk (.c .nil) (List.Sublist.refl _)
            ·have p22:=of_decide_eq_false h22;replace hk:=zaa hk h22;refine TL.run 3 rfl ?_;refine TL.nil ?_;refine K.pick [1] rfl (by decide) ?_;exact K.aj false hk (.c .nil) (List.Sublist.refl _)
           ·replace hk:=zaa hk h21;refine TL.run 7 rfl ?_;refine TL.nil ?_;refine K.pick [1] rfl (by decide) ?_;exact K.aj false hk (.c .nil) (List.Sublist.refl _)
          ·have p20:=of_decide_eq_false h20;replace hk:=zaa hk h20;refine TL.run 11 rfl ?_;refine TL.nil ?_;refine K.pick [1] rfl (by decide) ?_;exact K.aj false hk (.c .nil) (List.Sublist.refl _)
         ·rintro x_18 hk;rw [←hk19] at hk; (try dsimp only at hk);refine T.ret (K.ag (K.aa (K.aa (K.ag (K.aa ?_)))));obtain rfl:=Option.some.inj hk;exact K.ah rfl rfl (fun w' hw=>⟨rfl,hw.isBelow⟩)
        ·have p17:=of_decide_eq_false h17;replace hk:=zaa hk h17;refine T.skip (K.ad (K.seq (T.region ?_)));refine TL.run 1 rfl ?_;refine TL.y (Yv.an rfl rfl rfl (by omega)) ?_;refine TL.run 1 rfl ?_;refine TL.nil ?_;rw [←hn14] at hk;exact K.next (i_15+1) hk (by omega) (.c (.c (.c (.c (.c (.c (.c .nil))))))) (List.Sublist.refl _)
       ·have p16:=of_decide_eq_false h16;rw [zas (by omega),←hkk14] at hk; (try dsimp only at hk);refine T.exit (K.ab (K.ab (K.ae ?_)));exact K.aj () hk (.c (.c (.c (.c (.c (.c .nil)))))) (List.Sublist.refl _)
     ·rintro _ hk;rw [←hk13] at hk; (try dsimp only at hk);refine T.seq ?_;have hq:=zal hk;clear hk;obtain ⟨r94,hr94,hk⟩:=hq; (try dsimp only at hk);refine T.region ?_;refine TL.y (Yv.am 0 rfl rfl rfl rfl) ?_;refine TL.run 2 rfl ?_;refine TL.e (Ew.aS 1 rfl rfl rfl rfl (fun w hw hF=>zie _ w hF p vp_0 cp_0 (SlD.mono (rep:=GDomain.rep) (fun _ _ _ _=>GDomain.mono) hp_0 le1_3) vp_1 (SlC.mono hp_1 le1_3) vp_2 (SlC.mono hp_2 le1_3) vp_3 (SlC.mono hp_3 le1_3) r33.2 v33_1_0 cs33_1_0 (SlD.mono (rep:=R_List_GChoice.rep) (fun _ _ _ _=>R_List_GChoice.mono) hf33_1_0 le2_3) a va (SlC.mono ha le1_3) fuel r94 hr94)) ?_;rintro _ _ ⟨⟨v94_0_0,cs94_0_0⟩,F4,le3_4,hf94_0_0,rfl,rfl⟩;dsimp only at hf94_0_0 ⊢;haveI:=hf94_0_0.1.oneC;refine TL.run 5 rfl ?_;refine TL.ns (T.seq ?_); (try dsimp only at hk);have hq:=zae hk;clear hk;obtain ⟨k24,hk24,hk⟩:=hq; (try dsimp only at hk);refine T.al (ι:=Bool) (fun z=>[(6, .bool z)]) (fun z=>[.fr F4]) (fun z=>k24 z=some r) ?_ ?_
      ·refine T.region ?_;refine TL.run 3 rfl ?_;refine TL.gs rfl rfl rfl (fun h25=>?_) (fun h25=>?_)
       ·have p25:=of_decide_eq_true h25;replace hk:=zab hk h25;refine TL.run 2 rfl ?_;refine TL.y (Yv.cy (by kernel_rfl) rfl rfl rfl) ?_;refine TL.run 2 rfl ?_;refine TL.gs rfl rfl rfl (fun h26=>?_) (fun h26=>?_)
        ·replace hk:=zab hk h26;refine TL.run 2 rfl ?_;refine TL.e (Ew.af rfl rfl rfl (fun w hw=>zcP _ w (hw.fr (i:=1) rfl) r41.1 v41_0_0 cs41_0_0 (SlD.mono (rep:=GDomain.rep) (fun _ _ _ _=>GDomain.mono) hf41_0_0 le3_4) r94.1 v94_0_0 cs94_0_0 hf94_0_0)) ?_;rintro _ _ ⟨rfl,rfl⟩;refine TL.run 2 rfl ?_;refine TL.gs rfl rfl rfl (fun h27=>?_) (fun h27=>?_)
         ·replace hk:=zab hk h27;have hq:=zal hk;clear hk;obtain ⟨r110,hr110,hk⟩:=hq;refine TL.e (Ew.af rfl rfl rfl (fun w hw=>zcJ _ w (hw.fr (i:=1) rfl) (htab.keptF hw) fuel hfu r110 hr110)) ?_;rintro _ _ ⟨rfl,rfl⟩;refine TL.run 2 rfl ?_;refine TL.nil ?_;refine K.pick [1] rfl (by decide) ?_;exact K.aj r110 hk (.c .nil) (List.Sublist.refl _)
         ·replace hk:=zaa hk h27;refine TL.run 3 rfl ?_;refine TL.nil ?_;refine K.pick [1] rfl (by decide) ?_;exact K.aj false hk (.c .nil) (List.Sublist.refl _)
        ·replace hk:=zaa hk h26;refine TL.run 8 rfl ?_;refine TL.nil ?_;refine K.pick [1] rfl (by decide) ?_;exact K.aj false hk (.c .nil) (List.Sublist.refl _)
       ·have p25:=of_decide_eq_false h25;replace hk:=zaa hk h25;refine TL.run 13 rfl ?_;refine TL.nil ?_;refine K.pick [1] rfl (by decide) ?_;exact K.aj false hk (.c .nil) (List.Sublist.refl _)
      ·rintro x_23 hk;rw [←hk24] at hk; (try dsimp only at hk);refine T.ret ?_;obtain rfl:=Option.some.inj hk;exact K.ah rfl rfl (fun w' hw=>⟨rfl,hw.isBelow⟩)
   ·replace hk:=zaa hk h6;refine T.region ?_;refine TL.y (Yv.am 0 rfl rfl rfl rfl) ?_;refine TL.run 1 rfl ?_;refine TL.e (Ew.aH [1,0] [] [.row g3 29 [vp_0,vp_1,vp_2,vp_3]] rfl rfl rfl rfl (by decide) (fun w hw hw2 hF=>(zeP _ w hF p vp_0 cp_0 hp_0 vp_1 hp_1 vp_2 hp_2 vp_3 hp_3 l vl cl hl (htk hw) fuel hfu r33 hr33).mono (fun e w' hp=>hp.2 h6))) ?_;rintro _ _ ⟨⟨v33_1_0,cs33_1_0⟩,F5,le1_5,hf33_1_0,rfl,rfl⟩;dsimp only [List.cons_append,List.nil_append]; (try dsimp only at hf33_1_0);haveI:=hf33_1_0.1.oneC;refine TL.run 5 rfl ?_;refine TL.ns (T.seq (T.sr ?_));refine TL.run 1 rfl ?_;refine TL.y (Yv.ba (e:=92) (by kernel_rfl) rfl rfl rfl) ?_;refine TL.ns ?_;refine T.aK rfl rfl ?_;refine T.sr ?_;refine TL.run 1 rfl ?_;refine TL.ns (T.ret (K.aa ?_));obtain rfl:=Option.some.inj hk;exact K.ah rfl rfl (fun w' hw=>⟨rfl,hw.isBelow⟩)
theorem zi4 {a b:List GChoice}:zbl a b=decide (a=b):=by
 unfold zbl;simp only [zax,Nat.sub_zero];by_cases hl:a.length=b.length
 ·rw [decide_eq_false (by simp [hl]),cond_false,zcB (fun i=>decide (nth a i=nth b i)) (fun i next _=>?_),Bool.and_true,Bool.eq_iff_iff,List.all_eq_true,decide_eq_true_eq]
  ·constructor
   ·intro h;exact zdg hl fun i hi=>of_decide_eq_true (h i (List.mem_range.2 hi))
   ·rintro rfl i _;simp
  ·have e:(decide ((nth a i).Station=(nth b i).Station)&&decide ((nth a i).Channel=(nth b i).Channel))=decide (nth a i=nth b i):=by
    rw [Bool.eq_iff_iff]
    cases nth a i;cases nth b i
    simp
   rw [e]
   cases decide (nth a i=nth b i) <;> rfl
 ·rw [decide_eq_true (by omega),cond_true,decide_eq_false (fun e=>hl (by rw [e]))]
theorem zlg {a:List (List GChoice)}:zbU a a=true:=by
 unfold zbU;simp only [zax,Nat.sub_zero,zi4];rw [decide_eq_false (by simp),cond_false,zcB (fun _=>true) (fun i next _=>by simp),Bool.and_true];simp
section
variable {p:GProblem}{t:GStore}{fuel:Nat}{l S:List (List GChoice)}
theorem len_x:zao t=(t.list.length:Int):=rfl
theorem zkT (hf:100000≤fuel)(hl:t.list.length≤1000)(hg:∀g∈t.list,g.length≤1000):zb0 fuel t=some (t.list,true):=by
 unfold zb0;rw [zaX (fun x hx=>by have:=hg x hx;simp only [room];omega)];simp only [zax,Nat.sub_zero];refine zaU (σ:=List (List GChoice)×Bool×List (List GChoice)) (fun i s=>s.2.2=t.list.take i) (fun o=>o=some (t.list,true)) rfl (fun s hs=>by rw [hs,List.take_length]) (fun i s next hi hs hn=>?_); (have e:s.2.2.length=i:=by rw [hs,List.length_take];omega);have hgi:=hg _ (zak hi);rw [decide_eq_false (by omega),cond_false,zaX (by simp only [room,List.nil_append];omega),zaX (by simp only [room,List.length_append,List.length_singleton];omega)];refine zck (σ:=Int×List GChoice) (I:=fun q=>0≤q.1∧q.1≤q.2.length∧q.2.length=(nth t.list i).length) (μ:=fun q=>(q.2.length - q.1).toNat) (post:=fun o=>o=some (t.list,true)) ⟨by simp,by simp,rfl⟩ (by simp;omega) ?_;rintro ⟨k,q⟩ nx ⟨h1,h2,h3⟩ hnx;dsimp only at h1 h2 h3 hnx ⊢;by_cases hk:k<(q.length:Int)
 ·rw [decide_eq_true hk,cond_true,zaX ⟨h1,hk⟩];exact hnx _ ⟨by dsimp only;omega,by dsimp only;rw [List.length_set];omega,by dsimp only;rw [List.length_set];exact h3⟩ (by dsimp only;rw [List.length_set];omega)
 ·rw [decide_eq_false hk,cond_false];exact hn _ (by dsimp only;rw [List.nil_append,zbS hi,hs])
theorem zmq (h:StN p t){g:List GChoice}(hl:t.list.length<4096)(hg:g.length≤1000):zaz t g=some (bif okN p g then (0,t.list++[g]) else (2,t.list)):=by
 unfold zaz zag;rw [cond_false,zlk h.tb,Option.bind_some]
 cases hn:okN p g with
 |false=>rfl
 |true=>
  rw [Bool.not_true,cond_false,decide_eq_false (by omega),cond_false,zaX (by simp only [room];omega),zaX (by simp only [room,List.length_append,List.length_singleton];omega)];rfl
theorem zmg {s:Int}(hG:GG p)(h:¬zad p s<0):0≤zad p s∧zad p s<(p.Domains.length:Int)∧(nth p.Domains (zad p s).toNat).Station=s:=by
 revert h
 unfold zad;simp only [zax,Nat.sub_zero];refine zaU (fun _ _=>True) (fun r=>¬r<0→0≤r∧r<(p.Domains.length:Int)∧(nth p.Domains r.toNat).Station=s) trivial (fun _ _ h=>by omega) (fun i _ next hi _ hn=>?_);by_cases e:(nth p.Domains i).Station=s
 ·rw [decide_eq_true e,cond_true];exact fun _=>⟨by omega,by omega,by simpa using e⟩
 ·rw [decide_eq_false e,cond_false];exact hn () trivial
theorem zjj {g:List GChoice}(hok:okG p=true):zca p g=some (okN p g):=by
 have hG:=zhp hok;unfold zca okN;rw [zky,Option.bind_some,hok,zeU]
 cases hv:(List.range g.length).all (zev g) with
 |false=>rfl
 |true=>
  simp only [zax,Nat.sub_zero,Bool.not_true,Bool.or_self,cond_false,Bool.true_and];refine (zaU (fun i _=>(List.range i).all (fun i=>zdp p (nth g i).Station (nth g i).Channel)=true) (fun o=>o=some ((List.range g.length).all fun i=>zdp p (nth g i).Station (nth g i).Channel)) rfl (fun _ h=>by rw [h]) (fun i _ next hi hI hn=>?_))
  have bad:zdp p (nth g i).Station (nth g i).Channel=false→((List.range g.length).all fun i=>zdp p (nth g i).Station (nth g i).Channel)=false:=fun h=>by
   rw [List.all_eq_false];exact ⟨i,List.mem_range.2 hi,by rw [h];simp⟩
  by_cases hfi:zad p (nth g i).Station<0
  ·rw [decide_eq_true hfi,cond_true];rw [cond_true,bad]
   cases hc:zdp p (nth g i).Station (nth g i).Channel with
   |false=>rfl
   |true=>have:=zgh hc;rw [hasSt_find.1 hfi] at this;cases this
  ·obtain ⟨h1,h2,h3⟩:=zmg hG hfi
   have e:zbF (nth p.Domains (zad p (nth g i).Station).toNat).Channels (nth g i).Channel=zdp p (nth g i).Station (nth g i).Channel:=by
    (have hj:(zad p (nth g i).Station).toNat<p.Domains.length:=by omega);rw [zms,Bool.eq_iff_iff,hasCh_iff,List.any_eq_true];constructor
    ·rintro ⟨k,hk,e⟩;exact ⟨_,zak hj,h3,by rw [←of_decide_eq_true e];exact hk⟩
    ·rintro ⟨x,hx,e1,e2⟩;obtain ⟨q,hq,rfl⟩:=zaK hx
     have:q=(zad p (nth g i).Station).toNat:=by
      rcases Nat.lt_trichotomy q (zad p (nth g i).Station).toNat with h|h|h
      ·have:=hG.inc _ _ h hj;omega
      ·exact h
      ·have:=hG.inc _ _ h hq;omega
     exact ⟨_,by rw [←this];exact e2,by simp⟩
   rw [decide_eq_false hfi,cond_false,zaX ⟨h1,h2⟩,e]
   cases hc:zdp p (nth g i).Station (nth g i).Channel with
   |false=>rw [Bool.not_false,cond_true,bad hc]
   |true=>
    rw [Bool.not_true,cond_false];refine hn () ?_;rw [List.range_succ,List.all_append,hI];simp [hc]
theorem zmx (hf:100000≤fuel)(hok:okG p=true)(hl:l.length≤1000)(hg:∀g∈l,g.length≤1000):∃t,zcy fuel p l=some (some t,l.filter (okN p))∧StN p t∧t.list=l.filter (okN p):=by
 obtain ⟨t,g1,g2,g3⟩:=new_x hf hok;have hst:∀q:List (List GChoice),StN p ⟨t.domains,(t.start.1,t.start.2),q.filter (okN p)⟩:=fun q=>⟨g2.pr,g2.st,g2.tb,fun g hg=>(List.mem_filter.1 hg).2⟩;have hfl:∀q:List (List GChoice),(q.filter (okN p)).length≤q.length:=fun q=>List.length_filter_le _ _;unfold zcy;rw [g1,Option.bind_some];simp only [Option.isSome_some,cond_true,decide_eq_false (show ¬ ¬(0:Int)=0 by omega),cond_false,zax,Option.getD_some,Nat.sub_zero];rw [g3];refine zaU (σ:=List (List GChoice)×List (List GChoice)) (fun i s=>s=((l.take i).filter (okN p),(l.take i).filter (okN p))) (fun o=>∃t,o=some (some t,l.filter (okN p))∧StN p t∧t.list=l.filter (okN p)) rfl (fun s hs=>?_) (fun i s next hi hs hn=>?_)
 ·subst hs;dsimp only;rw [List.take_length];have h1:=hfl l;rw [zkT hf (t:=⟨t.domains,(t.start.1,t.start.2),l.filter (okN p)⟩) (by dsimp only;omega) (fun g h=>hg g (List.mem_filter.1 h).1),Option.bind_some];exact ⟨⟨t.domains,(t.start.1,t.start.2),l.filter (okN p)⟩,by simp [zlg,len_x],hst l,rfl⟩
 ·subst hs;dsimp only;have hgi:=hg _ (zak hi);have h1:=hfl (l.take i); (have h2:(l.take i).length≤i:=by rw [List.length_take];omega);rw [zaX (by simp only [room,List.nil_append];omega),zmq (hst _) (by dsimp only;omega) (by simp only [List.nil_append];omega),Option.bind_some,List.nil_append];refine zck (σ:=Int×List GChoice) (I:=fun q=>0≤q.1∧q.1≤q.2.length∧q.2.length=(nth l i).length) (μ:=fun q=>(q.2.length - q.1).toNat) (post:=fun o=>∃t,o=some (some t,l.filter (okN p))∧StN p t∧t.list=l.filter (okN p)) ⟨by simp,by simp,rfl⟩ (by simp;omega) ?_;rintro ⟨k,q⟩ nx ⟨h3,h4,h5⟩ hnx;dsimp only at h3 h4 h5 hnx ⊢;by_cases hk:k<(q.length:Int)
  ·rw [decide_eq_true hk,cond_true,zaX ⟨h3,hk⟩];exact hnx _ ⟨by dsimp only;omega,by dsimp only;rw [List.length_set];omega,by dsimp only;rw [List.length_set];exact h5⟩ (by dsimp only;rw [List.length_set];omega)
  ·rw [decide_eq_false hk,cond_false,zjj hok,Option.bind_some]
   have hsn:(l.take (i+1)).filter (okN p)=(l.take i).filter (okN p)++bif okN p (nth l i) then [nth l i] else []:=by
    rw [zbS hi,List.filter_append]
    cases h6:okN p (nth l i) <;> simp [h6]
   cases h6:okN p (nth l i) with
   |false=>
    rw [h6] at hsn;exact hn _ (by simp [hsn])
   |true=>
    rw [h6] at hsn;simp only [cond_true,decide_eq_true (show (0:Int)=0 from rfl),decide_eq_false (show ¬ ¬(0:Int)=0 by omega),beq_self_eq_true,Bool.not_true,Bool.false_and,Bool.or_self,cond_false];rw [zaX (by simp only [room,List.length_append,List.length_singleton];omega)];refine hn _ ?_;rw [hsn];rfl
end
def QN (p:GProblem)(S:List (List GChoice))(d:List GDomain)(r:List GDomain×Bool):Prop:=
 (r.2=true∧ClosedN p S r.1∧SubP p r.1∧SubD r.1 d∧∀e,ClosedN p S e→SubD e d→SubD e r.1)∨(r=([],false)∧∀e,ClosedN p S e→¬SubD e d)
def R21 (p:GProblem)(S:List (List GChoice))(d:List GDomain)(s c:Int):Bool:=(S.any fun g=>remN d g s c)||remP p d s c
section
variable {p:GProblem}{S S':List (List GChoice)}{d a b:List GDomain}{t:GStore}{fuel:Nat}{l:List GChoice}
theorem zlV (hok:okG p=true)(ha:SubP p a)(hb:SubP p b)(h1:SubD a b)(h2:SubD b a):a=b:=by
 obtain ⟨_,hbd,_,_⟩:=zfj hok;refine zdg h1.1 fun i hi=>?_; (have hi':i<b.length:=by rw [←h1.1];exact hi); (have hp:i<p.Domains.length:=by rw [←ha.len];exact hi);have hch:(nth a i).Channels=(nth b i).Channels:=zcO (ha.ord i hp) (hb.ord i hp) (hbd.ch _ (zak hp)).2 (fun x=>⟨(h1.2 i hi').2 x,(h2.2 i hi).2 x⟩);have hst:=(h1.2 i hi').1
 cases hx:nth a i;cases hy:nth b i
 rw [hx,hy] at hch hst;simp only at hch hst;rw [hch,hst]
theorem QN.eq {r r':List GDomain×Bool}(hok:okG p=true)(h:QN p S d r)(h':QN p S d r'):r=r':=by
 rcases h with ⟨h1,h2,h3,h4,h5⟩|⟨h1,h2⟩
 ·rcases h' with ⟨g1,g2,g3,g4,g5⟩|⟨g1,g2⟩
  ·exact Prod.ext (zlV hok h3 g3 (g5 _ h2 h4) (h5 _ g2 g4)) (h1.trans g1.symm)
  ·exact absurd h4 (g2 _ h2)
 ·rcases h' with ⟨g1,g2,g3,g4,g5⟩|⟨g1,g2⟩
  ·exact absurd g4 (h2 _ g2)
  ·rw [h1,g1]
theorem ClosedN.mono (h:ClosedN p S d)(hs:∀g∈S',g∈S):ClosedN p S' d:=⟨h.cl,fun g hg=>h.ne g (hs g hg),fun g hg=>h.calm g (hs g hg)⟩
theorem QN.congr {r:List GDomain×Bool}(h:QN p S d r)(hs:∀g,g∈S↔g∈S'):QN p S' d r:=by
 have f:∀ {e},ClosedN p S' e→ClosedN p S e:=fun he=>he.mono fun g hg=>(hs g).1 hg;rcases h with ⟨h1,h2,h3,h4,h5⟩|⟨h1,h2⟩
 ·exact .inl ⟨h1,h2.mono fun g hg=>(hs g).2 hg,h3,h4,fun e he=>h5 e (f he)⟩
 ·exact .inr ⟨h1,fun e he=>h2 e (f he)⟩
theorem byN_x {g:List GChoice}(hg:ValidL g){s c:Int}:zbm d g s c=remN d g s c:=by
 unfold zbm;simp only [zax,Nat.sub_zero,ziu];refine zaU (fun i (b:Bool)=>b=((g.take i).any fun x=>decide (x.Station=s)&&decide (x.Channel=c))∧((g.take i).all fun x=>decide (x.Station=s)||zcz d x.Station x.Channel)=true) (fun r=>r=remN d g s c) ⟨rfl,rfl⟩ (fun b hb=>?_) (fun i b next hi hb hn=>?_)
 ·rw [List.take_length] at hb;unfold remN;rw [hb.1,hb.2,Bool.and_true]
 ·by_cases hs:(nth g i).Station=s
  ·rw [decide_eq_true hs,cond_true];refine hn _ ⟨?_,?_⟩
   ·have h0:((g.take i).any fun x=>decide (x.Station=s)&&decide (x.Channel=c))=false:=by
     rw [List.any_eq_false];intro x hx;obtain ⟨j,hj,rfl⟩:=List.mem_iff_getElem.1 hx;rw [List.length_take] at hj;rw [List.getElem_take];have:=hg.inc j i (by omega) hi;rw [zat (by omega)] at this;simp;intro e;omega
    rw [zbS hi,List.any_append,h0];simp [hs]
   ·rw [zbS hi,List.all_append,hb.2];simp [hs]
  ·rw [decide_eq_false hs,cond_false]
   cases ho:zcz d (nth g i).Station (nth g i).Channel with
   |false=>
    rw [Bool.not_false,cond_true];unfold remN
    have:(g.all fun x=>decide (x.Station=s)||zcz d x.Station x.Channel)=false:=by
     rw [List.all_eq_false];exact ⟨nth g i,zak hi,by simp [hs,ho]⟩
    rw [this,Bool.and_false]
   |true=>
    rw [Bool.not_true,cond_false];refine hn _ ⟨?_,?_⟩
    ·rw [zbS hi,List.any_append,←hb.1];simp [hs]
    ·rw [zbS hi,List.all_append,hb.2];simp [ho]
theorem zia (hS:∀g∈S,okN p g=true){s c:Int}:zbw p S d s c=R21 p S d s c:=by
 unfold zbw R21;simp only [zax,Nat.sub_zero,zg1];rw [zdG (fun i=>remN d (nth S i) s c) (fun i next hi=>by rw [byN_x (okN_iff.1 (hS _ (zak hi))).1];cases remN d (nth S i) s c <;> rfl),zc6 (q:=fun g=>remN d g s c)]
theorem R21.mono (hok:okG p=true):MonoR (R21 p S):=fun a b s c h hr=>by
 unfold R21 at hr ⊢;rw [Bool.or_eq_true,List.any_eq_true] at hr ⊢;rcases hr with ⟨g,hg,hr⟩|hr
 ·refine .inl ⟨g,hg,?_⟩;unfold remN at hr ⊢;rw [Bool.and_eq_true,List.all_eq_true] at hr ⊢;refine ⟨hr.1,fun x hx=>?_⟩;have:=hr.2 x hx;rw [Bool.or_eq_true] at this ⊢;exact this.imp id (zcM h)
 ·exact .inr (zfi (zfj hok).1 h hr)
theorem ClosedN.calmR (h:ClosedN p S d):zj8 (R21 p S) d:=fun x hx c hc=>by
 unfold R21;rw [Bool.or_eq_false_iff,List.any_eq_false];exact ⟨fun g hg=>by rw [h.calm g hg x hx c hc];simp,h.cl.calm x hx c hc⟩
theorem zjH (hf:100000≤fuel)(hok:okG p=true)(hS:∀g∈S,okN p g=true)(hd:SubP p d):∃r,zby fuel p S d=some r∧QN p S d r:=by
 obtain ⟨hw,hbd,htot,hn⟩:=zfj hok;have hb:Bd d:=hbd.ord hd.len hd.ord;have ht:=zdh hd.len hd.ord;unfold zby;simp only [zax,Nat.sub_zero,zia hS];refine zjY (R:=R21 p S) (k2:=fun d=>zai (fun (i:Nat) (next:Unit→Option (List GDomain×Bool)) (_:Unit)=>bif decide ((((nth d i).Channels).length:Int)=0) then some ([],false) else next ()) (fun (_:Unit)=>zai (fun (i:Nat) (next:Unit→Option (List GDomain×Bool)) (_:Unit)=>bif decide (((nth S i).length:Int)=0) then some ([],false) else next ()) (fun (_:Unit)=>some (d,true)) S.length 0 ()) d.length 0 ()) (fun o=>∃r,o=some r∧QN p S d r) (R21.mono hok) hb (by rw [hd.len];omega) (by omega) fun d' hI hA=>?_;refine zaU (σ:=Unit) (I:=fun i _=>∀j,j<i→(nth d' j).Channels≠[]) (post:=fun o=>∃r,o=some r∧QN p S d r) (fun j hj=>absurd hj (Nat.not_lt_zero j)) (fun _ hne=>?_) (fun i _ next hi h hnx=>?_)
 ·refine zaU (σ:=Unit) (I:=fun i _=>∀j,j<i→nth S j≠[]) (post:=fun o=>∃r,o=some r∧QN p S d r) (fun j hj=>absurd hj (Nat.not_lt_zero j)) (fun _ h=>?_) (fun i _ next hi h hnx=>?_)
  ·refine ⟨_,rfl, .inl ⟨rfl,⟨⟨fun x hx=>?_,fun x hx c hc=>?_⟩,fun g hg=>?_,fun g hg x hx c hc=>?_⟩,⟨hI.sub.trans hd.sub,hI.ord.trans hd.ord hd.len⟩,hI.sub,fun e he hs=>hI.sup e he.calmR hs⟩⟩
   ·obtain ⟨j,hj,rfl⟩:=zaK hx;exact hne j hj
   ·have:=hA x hx c hc;unfold R21 at this;exact (Bool.or_eq_false_iff.1 this).2
   ·obtain ⟨j,hj,rfl⟩:=zaK hg;exact h j hj
   ·have:=hA x hx c hc;unfold R21 at this;have:=List.any_eq_false.1 (Bool.or_eq_false_iff.1 this).1 g hg;simpa using this
  ·by_cases he:nth S i=[]
   ·rw [he];exact ⟨_,rfl, .inr ⟨rfl,fun e hc _=>hc.ne _ (zak hi) he⟩⟩
   ·have:¬((nth S i).length:Int)=0:=fun h0=>he (List.eq_nil_of_length_eq_zero (by omega));rw [decide_eq_false this,cond_false];refine hnx () (fun j hj=>?_);rcases Nat.lt_or_ge j i with h1|h1
    ·exact h j h1
    ·rw [show j=i by omega];exact he
 ·by_cases he:(nth d' i).Channels=[]
  ·rw [he];refine ⟨_,rfl, .inr ⟨rfl,fun e hc hs=>?_⟩⟩;have h2:=hI.sup e hc.calmR hs;have h3:=(h2.2 i hi).2;rw [he] at h3;apply hc.cl.ne _ (zak (show i<e.length by rw [h2.1];exact hi))
   cases hch:(nth e i).Channels with
   |nil=>rfl
   |cons c r=>exact absurd (h3 c (by rw [hch];simp)) (by simp)
  ·have:¬((nth d' i).Channels.length:Int)=0:=fun h0=>he (List.eq_nil_of_length_eq_zero (by omega));rw [decide_eq_false this,cond_false];refine hnx () (fun j hj=>?_);rcases Nat.lt_or_ge j i with h1|h1
   ·exact h j h1
   ·rw [show j=i by omega];exact he
theorem zkZ (hf:100000≤fuel)(hok:okG p=true)(hS:∀g∈S,okN p g=true)(hl:ValidL l):∃r,zcQ fuel p S l=some r∧QN p S (dK p l) r:=by
 obtain ⟨hw,hbd,htot,hn⟩:=zfj hok;unfold zcQ;simp only [zax,Nat.sub_zero];refine zaU (σ:=List GDomain) (fun i d=>d=dK p (l.take i)) (fun o=>∃r,o=some r∧QN p S (dK p l) r) rfl (fun d hd=>?_) (fun i d next hi hd hnx=>?_)
 ·rw [List.take_length] at hd;subst hd;obtain ⟨r,h1,h2⟩:=zjH (fuel:=fuel) hf hok hS (zgX l);exact ⟨r,by rw [h1];rfl,h2⟩
 ·subst hd;have hs:=zgX (p:=p) (l.take i);have hb:Bd (dK p (l.take i)):=hbd.ord hs.len hs.ord;rw [zj3 hb.len (fun x hx=>(hb.ch x hx).1),Option.bind_some];refine hnx _ ?_;have hg:=hl.good _ (zak hi); (have hgc:zep (nth l i)=true:=by unfold zep;exact decide_eq_true (by omega));rw [zjE hi]
  congr 1
  unfold actC;rw [hgc];rfl
theorem zl2 (hf:100000≤fuel)(hok:okG p=true)(h:StN p t)(hl:ValidL l)(hs:∀c∈l,zbM p c.Station=true):∃r:List GDomain×Bool,zaf fuel t l=some (r.1,!r.2,0)∧QN p t.list (dK p l) r:=by
 rcases run_x hf hok h hl hs with ⟨m,q1,q2,q3,q4,q5⟩|⟨q1,q2⟩
 ·exact ⟨(m.1,true),q1, .inl ⟨rfl,q2,q3,q4,q5⟩⟩
 ·exact ⟨([],false),q1, .inr ⟨rfl,q2⟩⟩
theorem zjU (hl:(List.range l.length).all (zev l)=false):zaf fuel t l=some ([],false,2):=by
 unfold zaf zag;rw [cond_false,zcX,hl];rfl
theorem ziT (hok:okG p=true)(h:StN p t)(hl:ValidL l)(hs:¬ ∀c∈l,zbM p c.Station=true):zaf fuel t l=some ([],false,9):=by
 unfold zaf zag;rw [cond_false,zcX,validL_iff.2 hl,Bool.not_true,cond_false];simp only [zax,Nat.sub_zero];refine zaU (fun i _=>∀j,j<i→zbM p (nth l j).Station=true) (fun o=>o=some ([],false,9)) (fun j hj=>absurd hj (Nat.not_lt_zero j)) (fun _ h=>?_) (fun i _ next hi hI hn=>?_)
 ·exact absurd (fun c hc=>by obtain ⟨j,hj,rfl⟩:=zaK hc;exact h j hj) hs
 ·have hg:=hl.good _ (zak hi);rw [zaX (by omega),h.tb.zero (zhp hok) (by omega)]
  cases hh:zbM p (nth l i).Station with
  |false=>rfl
  |true=>
   rw [Bool.not_true,cond_false];refine hn () fun j hj=>?_;rcases Nat.lt_or_ge j i with h1|h1
   ·exact hI j h1
   ·rw [show j=i by omega];exact hh
theorem ValidL.take (h:ValidL l)(n:Nat):ValidL (l.take n):=by
 refine ⟨fun x hx=>h.good x (List.mem_of_mem_take hx),fun i j hij hj=>?_⟩;rw [List.length_take] at hj;rw [zat (by rw [List.length_take];omega),zat (by rw [List.length_take];omega),List.getElem_take,List.getElem_take];have:=h.inc i j hij (by omega)
 rwa [zat (by omega),zat (by omega)] at this
end
section
variable {p:GProblem}{fuel:Nat}
theorem zkV (hf:100000≤fuel)(p:GProblem)(l:List (List GChoice)):∃b,zb9 fuel p l=some b∧(b=true→l.length≤12∧∀g∈l,g.length≤20):=by
 unfold zb9;obtain ⟨b,hb⟩:=zl5 (p:=p) (a:=10) (b:=40) (fuel:=fuel) (by omega);obtain ⟨b2,hb2,hb3⟩:=zkH (fuel:=fuel) (l:=l) (most:=12) (by omega) hf;rw [hb];simp only [zax,Option.bind_some,hb2];refine ⟨b&&b2,by cases b <;> rfl,fun h=>?_⟩;rw [Bool.and_eq_true] at h;have:=hb3 h.2;exact ⟨by omega,this.2⟩
theorem zhU (hf:100000≤fuel)(l:List (List GChoice))(a:List GChoice):zbO fuel p l a=some true:=by
 have hkn:=zjW hf;unfold zbO;obtain ⟨b,hb,hsz⟩:=zkV hf p l;rw [hb,Option.bind_some];simp only [zax,hkn,Option.bind_some]
 cases b with
 |false=>rfl
 |true=>
  obtain ⟨z1,z2⟩:=hsz rfl;rw [Bool.not_true,cond_false];by_cases h1:(20:Int)<(a.length:Int)
  ·rw [decide_eq_true h1];rfl
  rw [decide_eq_false h1,cond_false,zky,Option.bind_some]
  cases hok:okG p with
  |false=>rfl
  |true=>
   obtain ⟨t,g1,g2,g3⟩:=zmx (p:=p) (fuel:=fuel) hf hok (l:=l) (by omega) (fun g hg=>by have:=z2 g hg;omega);have hS:∀g∈l.filter (okN p),okN p g=true:=fun g hg=>(List.mem_filter.1 hg).2;simp only [Bool.not_true,cond_false,g1,Option.bind_some,Option.isSome_some,cond_true,Option.getD_some];rw [zeU]
   cases hv:(List.range a.length).all (zev a) with
   |false=>rw [zjU hv];rfl
   |true=>
    have hl:=validL_iff.1 hv;by_cases hs:∀c∈a,zbM p c.Station=true
    ·obtain ⟨r,q1,q2⟩:=zl2 hf hok g2 hl hs;obtain ⟨r',q3,q4⟩:=zkZ hf hok hS hl;rw [g3] at q2;obtain rfl:=q2.eq hok q4;rw [q1,Option.bind_some,Bool.not_true,cond_false,Nat.sub_zero];refine zaU (fun _ _=>True) (fun o=>o=some true) trivial (fun _ _=>?_) (fun i _ next hi _ hn=>?_)
     ·rw [q3,Option.bind_some];dsimp only;rw [zgB,decide_eq_true (show r.1=r.1 from rfl)]
      cases r.2 <;> rfl
     ·rw [zjr,hs _ (zak hi),Bool.not_true,cond_false];exact hn () trivial
    ·rw [ziT hok g2 hl hs,Option.bind_some,Bool.not_true,cond_false,Nat.sub_zero];refine zaU (fun i _=>∀j,j<i→zbM p (nth a j).Station=true) (fun o=>o=some true) (fun j hj=>absurd hj (Nat.not_lt_zero j)) (fun _ h=>?_) (fun i _ next hi hI hn=>?_)
     ·exact absurd (fun c hc=>by obtain ⟨j,hj,rfl⟩:=zaK hc;exact h j hj) hs
     ·rw [zjr]
      cases hh:zbM p (nth a i).Station with
      |false=>rfl
      |true=>
       rw [Bool.not_true,cond_false];refine hn () fun j hj=>?_;rcases Nat.lt_or_ge j i with h2|h2
       ·exact hI j h2
       ·rw [show j=i by omega];exact hh
end
end Go.Proofs.YtbpbhbkcahcdiaaGreatDoor
namespace Go.Proofs.YtbpbhbkcahcdiaaGreatDoor
open Go.RowKit Go.ChangeShapes Go.WideShapes Go.Deep
def Opens {H:Type}(enc:TypeId×Value→H)(w:World)(base:Nat)(spare:Nat→Bool)(held:Bool)(t:TypeId){α:Type}(R:List Value→α→Prop):Prop:=
 ∀fuel cs y,DataW.trod enc Tryz.prog w base spare held fuel t cs=some y→∃x,R cs x
section
variable {H:Type}{enc:TypeId×Value→H}{w:World}{base:Nat}{spare:Nat→Bool}{held:Bool}
theorem Opens.int {t:TypeId}(ht:Tryz.prog.underlying t=some (.int .i64)):Opens enc w base spare held t (fun cs (x:Int)=>cs=[.int .i64 x]):=fun fuel cs y h=>by
 obtain ⟨k,hk,_⟩:=DataW.trod_int ht h;exact ⟨k,hk⟩
theorem zlH {a:Addr}{v:Value}(h:w.cell? a=some v):Cb w a.block:=by
 unfold World.cell? at h
 split at h
 all_goals (first|exact ⟨_,_,_,by assumption⟩|simp at h|skip)
theorem Opens.any {t e : TypeId} {k : Nat} {α : Type} [Inhabited α] {R : List Value → α → Prop} (ht : Tryz.prog.underlying t = some (.slice e)) (hk : Tryz.prog.cellsOf e = k) (hpos : 0 < k) (ho : Opens enc w base spare held e R) :
    Opens enc w base spare held t (fun cs (l : List α) => ∃ v c, cs = [v] ∧ SlC (Frz.all w) v k c ∧ c.length = l.length ∧ ∀ i, i < l.length → R (nth c i) (nth l i)) := fun fuel cs y h => by
  rcases open_slice ht h with ⟨h0, _⟩ | ⟨a, len, cap, m, n, D, Pl, hcs, hb, hl, hm, hmm, _, hx⟩
  · exact ⟨[], _, [], h0, SlC.nil _ _, rfl, fun i hi => absurd hi (Nat.not_lt_zero i)⟩
  · subst hcs; (have hlm : len ≤ m := by rw [hmm]; split <;> omega)
    have each : ∀ i, i < m → ∃ x : List Value × α, x.1.length = k ∧ R x.1 x.2 ∧ ∀ j, j < k → w.cell? (a.add (i * k + j)) = x.1[j]? := fun i hi => by
      obtain ⟨cs', h1, h2⟩ := hx i hi; rw [hk] at h1; obtain ⟨_, hlen, hcell⟩ := World.cells?_some h1; obtain ⟨x, hR⟩ := ho _ _ _ h2; exact ⟨(cs', x), hlen, hR, fun j hj => by rw [← hcell j hj, add_add]⟩
    obtain ⟨X, hX⟩ := choose_lt each
    have hn : ∀ i, i < len → nth ((List.range len).map fun i => (X i).1) i = (X i).1 := fun i hi => by
      rw [zat (by simpa using hi)]; simp
    have hn2 : ∀ i, i < len → nth ((List.range len).map fun i => (X i).2) i = (X i).2 := fun i hi => by
      rw [zat (by simpa using hi)]; simp
    refine ⟨(List.range len).map fun i => (X i).2, _, (List.range len).map fun i => (X i).1, rfl, ⟨some a, cap, by simp, by simpa using hl, by unfold maxLen at hm; omega, fun c hc => ?_, fun hp => ?_⟩, by simp, fun i hi => ?_⟩
    · simp at hc; obtain ⟨i, hi, rfl⟩ := hc; exact (hX i (by omega)).1
    · (have hp' : 0 < len := by simpa using hp); have c0 := (hX 0 (by omega)).2.2 0 hpos; have hx0 := (hX 0 (by omega)).1; rw [List.getElem?_eq_getElem (by omega)] at c0; have hcb := zlH c0; have hs := World.cell?_spot c0; simp [Addr.add] at hs hcb; obtain ⟨b, off, sp⟩ := a; simp at hs hcb; subst hs; refine ⟨b, off, rfl, hcb, fun i hi j hj => ?_⟩; simp at hi; rw [hn i hi] at hj ⊢; have hxi := hX i (by omega); have := hxi.2.2 j (by omega); refine Eq.trans ?_ this
      show w.cell? _ = _
      rw [zc0, Nat.add_assoc]
    · simp at hi; rw [hn i hi, hn2 i hi]; exact (hX i (by omega)).2.1
theorem Opens.slC {t e : TypeId} {k : Nat} {α : Type} [Inhabited α] {en : α → List Value} (ht : Tryz.prog.underlying t = some (.slice e)) (hk : Tryz.prog.cellsOf e = k) (hpos : 0 < k) (ho : Opens enc w base spare held e (fun cs (x : α) => cs = en x)) :
    Opens enc w base spare held t (fun cs (l : List α) => ∃ v, cs = [v] ∧ SlC (Frz.all w) v k (l.map en)) := fun fuel cs y h => by
  obtain ⟨l, v, c, h1, h2, h3, h4⟩ := Opens.any ht hk hpos ho _ _ _ h; refine ⟨l, v, h1, ?_⟩
  have : c = l.map en := by
    apply List.ext_getElem (by simpa using h3); intro i hi hi2; rw [← zat hi, h4 i (by omega), List.getElem_map, zat (by omega)]
  rw [← this]; exact h2
theorem Opens.slD {t e : TypeId} {k : Nat} {α : Type} [Inhabited α] {rep : Frz → List Value → α → Prop} (ht : Tryz.prog.underlying t = some (.slice e)) (hk : Tryz.prog.cellsOf e = k) (hpos : 0 < k) (ho : Opens enc w base spare held e (rep (Frz.all w))) :
    Opens enc w base spare held t (fun cs (l : List α) => ∃ v c, cs = [v] ∧ SlD rep (Frz.all w) v k c l) := fun fuel cs y h => by
  obtain ⟨l, v, c, h1, h2, h3, h4⟩ := Opens.any ht hk hpos ho _ _ _ h; exact ⟨l, v, c, h1, h2, h3, h4⟩
end
end Go.Proofs.YtbpbhbkcahcdiaaGreatDoor
