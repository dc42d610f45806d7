/- Yd Cb Cc M8 Pf Cd Ce Sa: shortened and put together by squeeze.py. -/
import Derived.Test.YtbpbhbkcahcdiaaGreatDoorQ06
set_option maxRecDepth 100000
set_option maxHeartbeats 4000000
set_option linter.unusedVariables false
set_option linter.unusedSectionVars false
set_option linter.unusedSimpArgs false
namespace Go.Proofs.YtbpbhbkcahcdiaaGreatDoor
open Go.RowKit
def zbE (d:List GDomain)(s:Int)(c:Int):Option (List GDomain):=
 zax (fun (out_1:List GDomain)=>
  some out_1)
 (fun k2=>
  zai (fun (i_5:Nat) (next4:List GDomain→Option (List GDomain)) (out_3:List GDomain)=>
   grd (room ([]++(nth d i_5).Channels).length 8) <|
   zax (fun (s9:Int×List Int)=>
    grd (room (out_3++[(GDomain.mk s9.1 s9.2)]).length 32) <|
    next4 (out_3++[(GDomain.mk s9.1 s9.2)]))
   (fun k9=>
    (bif decide ((nth d i_5).Station=s) then
     (bif (zbF ((nth d i_5).Channels) c) then
      k9 ((nth d i_5).Station,[c])
      else
      k9 ((nth d i_5).Station,[]))
     else
     k9 ((nth d i_5).Station,([]++(nth d i_5).Channels)))))
  (fun (out_3:List GDomain)=>
   k2 out_3) (d.length - 0) 0 [])
theorem zgR (F0:Frz)(w:World)(hF0:F0.At w)(d:List GDomain)(vd:Value)(cd:List (List Value))(hd:SlD GDomain.rep F0 vd 2 cd d)(s:Int)(c:Int)(r:List GDomain)(hr:zbE d s c=some r):Calls Tryz.prog 49 #[vd, .int .i64 s, .int .i64 c] w fun e w'=>∃(y:Value×List (List Value)) (G:Frz),(SlD GDomain.rep G y.1 2 y.2 r)∧e= .returned (y.1)∧Fx F0 w G w':=by
 have hk:=hr;unfold zbE at hk;haveI:=hd.1.oneC;obtain ⟨S0,F1,rfl,hS0,hp0⟩:=zan hF0;refine zac Tryz.func49 rfl rfl rfl hp0 ?_;refine T.sr ?_;refine TL.run 1 rfl ?_;refine TL.nx ?_;refine TL.run 1 rfl ?_;refine TL.slNil 48 2 ?_;refine TL.ns (T.seq (T.sr ?_));refine TL.run 1 rfl ?_;refine TL.ns ?_;have hq:=zae hk;clear hk;obtain ⟨k2,hk2,hk⟩:=hq; (try dsimp only at hk);refine T.al (ι:=List GDomain×Value×List (List Value)×FzB w (fun _=>False) S0) (fun z=>[(7,z.2.1)]) (fun z=>[.sl z.2.1 48 2 z.1.length z.2.2.1.flatten, .fr z.2.2.2]) (fun z=>k2 z.1=some r∧OwnD GDomain.rep z.2.2.2.toFrz 2 z.2.2.1 z.1∧OneC z.2.1∧F1.toFrz.Le z.2.2.2.toFrz) ?_ ?_
 ·have hq:=zaj hk;clear hk;obtain ⟨f4,kk4,hf4,hkk4,hk⟩:=hq;refine T.block ?_;refine T.loop (ι:=Nat×List GDomain×Value×List (List Value)×FzB w (fun _=>False) S0) (fun z=>[(0,vd),(1, .int .i64 s),(2, .int .i64 c),(7,z.2.2.1),(8, .int .i64 (z.1:Int))]) (fun z=>[.sl z.2.2.1 48 2 z.2.1.length z.2.2.2.1.flatten, .fr z.2.2.2.2]) (fun z=>zai f4 kk4 (d.length - z.1) z.1 z.2.1=some r∧OwnD GDomain.rep z.2.2.2.2.toFrz 2 z.2.2.2.1 z.2.1∧OneC z.2.2.1∧F1.toFrz.Le z.2.2.2.2.toFrz) (fun z=>d.length - z.1) (0,[],(.slice none 0 0),[],F1) ?_ ?_ ?_ ?_
  ·exact ⟨hk,(OwnD.nil _ _ 2),inferInstance,(Frz.Le.refl _)⟩
  ·exact (.c (.c (.c (.c (.c .nil)))))
  ·exact List.Sublist.refl _
  ·rintro ⟨i_5,out_3,vout_3,cout_3,F3⟩ ⟨hk,hout_3,oout_3,le1_3⟩; (try dsimp only at *);refine T.seq (T.sr ?_);refine TL.run 2 rfl ?_;refine TL.y (Yv.ar rfl rfl (SlD.mono (rep:=GDomain.rep) (fun _ _ _ _=>GDomain.mono) hd le1_3).1 (SlD.mono (rep:=GDomain.rep) (fun _ _ _ _=>GDomain.mono) hd le1_3).2.1) ?_;have hm12:d.length≤9223372036854775807:=(SlD.mono (rep:=GDomain.rep) (fun _ _ _ _=>GDomain.mono) hd le1_3).2.1▸(SlD.mono (rep:=GDomain.rep) (fun _ _ _ _=>GDomain.mono) hd le1_3).1.max;refine TL.run 1 rfl ?_;refine TL.ns ?_;refine T.cond rfl (fun h6=>?_) (fun h6=>?_)
   ·have p6:=of_decide_eq_true h6;rw [zar (by omega)] at hk;generalize hn4:zai f4 kk4 (d.length - (i_5+1)) (i_5+1)=next4 at hk;rw [←hf4] at hk; (try dsimp only at hk);refine T.skip (K.seq (T.seq (T.block (T.seq ?_))));have hq:(room ([]++(nth d i_5).Channels).length 8)∧_:=zaE hk;clear hk;obtain ⟨g26,hk⟩:=hq; (try dsimp only at hk);refine T.al (ι:=Nat×Value) (fun z=>[(0,vd),(1, .int .i64 s),(2, .int .i64 c),(7,vout_3),(8, .int .i64 (i_5:Int)),(9, .pointer (some ⟨z.1,0,none⟩))]) (fun z=>[.row z.1 48 [.int .i64 ((nth d i_5).Station),z.2], .sl z.2 3 1 ([]++(nth d i_5).Channels).length (([]++(nth d i_5).Channels).flatMap eI), .sl vout_3 48 2 out_3.length cout_3.flatten, .fr F3]) (fun z=>OneC z.2) ?_ ?_
    ·refine T.as (.still 0 (.still 1 (.still 2 (.still 3 (.still 4 (.still 5 (.still 6 (.still 7 (.still 8 (.still 9 (.two 10 12 (.still 11 (.eff 12 (.eff 13 .done))) (.eff 10 (.still 11 (.eff 13 .done)))))))))))))) _ (by kernel_rfl) (List.Sublist.refl _) ?_;refine TS.run 2 rfl ?_;refine TS.y rfl (Yv.ao (i:=i_5) rfl rfl rfl (SlD.mono (rep:=GDomain.rep) (fun _ _ _ _=>GDomain.mono) hd le1_3).1 (SlD.mono (rep:=GDomain.rep) (fun _ _ _ _=>GDomain.mono) hd le1_3).2.1 rfl (by omega)) ?_;refine TS.y rfl (Yv.aG rfl rfl (SlD.mono (rep:=GDomain.rep) (fun _ _ _ _=>GDomain.mono) hd le1_3).1 (SlD.mono (rep:=GDomain.rep) (fun _ _ _ _=>GDomain.mono) hd le1_3).2.1 (by omega)) ?_;refine TS.y rfl (Yv.loadR 1 (i:=i_5) (j:=0) rfl rfl rfl (SlD.mono (rep:=GDomain.rep) (fun _ _ _ _=>GDomain.mono) hd le1_3).1 (SlD.mono (rep:=GDomain.rep) (fun _ _ _ _=>GDomain.mono) hd le1_3).2.1 (by omega) rfl (GDomain.c0 ((SlD.mono (rep:=GDomain.rep) (fun _ _ _ _=>GDomain.mono) hd le1_3).2.2 i_5 (by omega)))) ?_;refine TS.run 2 rfl ?_;refine TS.y rfl (Yv.ao (i:=i_5) rfl rfl rfl (SlD.mono (rep:=GDomain.rep) (fun _ _ _ _=>GDomain.mono) hd le1_3).1 (SlD.mono (rep:=GDomain.rep) (fun _ _ _ _=>GDomain.mono) hd le1_3).2.1 rfl (by omega)) ?_;refine TS.y rfl (Yv.aG rfl rfl (SlD.mono (rep:=GDomain.rep) (fun _ _ _ _=>GDomain.mono) hd le1_3).1 (SlD.mono (rep:=GDomain.rep) (fun _ _ _ _=>GDomain.mono) hd le1_3).2.1 (by omega)) ?_;refine TS.y rfl (Yv.loadR 1 (i:=i_5) (j:=1) rfl rfl rfl (SlD.mono (rep:=GDomain.rep) (fun _ _ _ _=>GDomain.mono) hd le1_3).1 (SlD.mono (rep:=GDomain.rep) (fun _ _ _ _=>GDomain.mono) hd le1_3).2.1 (by omega) rfl (GDomain.c1 ((SlD.mono (rep:=GDomain.rep) (fun _ _ _ _=>GDomain.mono) hd le1_3).2.2 i_5 (by omega))).1) ?_;have hd25_1:=(GDomain.c1 ((SlD.mono (rep:=GDomain.rep) (fun _ _ _ _=>GDomain.mono) hd le1_3).2.2 i_5 (by omega))).2;haveI:=hd25_1.oneC;refine TS.two ?_ ?_
     ·refine TSo.slNil 3 1 ?_;refine TSo.aD rfl (Wt.none rfl) rfl rfl (Ew.bj 0 2 (zfw (fun _=>inferInstance)) rfl rfl rfl rfl rfl hd25_1 (zgv (xs:=([]:List Int))) (zfK (xs:=([]:List Int))) g26 (by decide)) ?_;rintro v26 _ ⟨hv26,rfl⟩;refine ⟨(fun w hw=>hw.sub Sx),?_⟩;refine TS.y rfl (Yv.build rfl rfl) ?_;refine TS.eff ?_;refine TSo.aD rfl (Wt.none rfl) rfl rfl (Ew.alloc rfl) ?_;rintro _ _ ⟨g9,rfl,rfl⟩;refine ⟨(fun w hw=>hw.sub Sx),?_⟩;refine TS.eff ?_;refine TSo.aY rfl (Wt.none rfl) rfl (Ew.ak 0 rfl rfl rfl rfl rfl rfl) ?_;rintro _ _ ⟨rfl,rfl⟩;refine ⟨(fun w hw=>hw.sub Sx),?_⟩;refine TS.done ?_;exact K.aj (g9,v26) hv26 (.c (.c (.c (.c (.c (.c .nil)))))) (List.Sublist.refl _)
     ·refine TSo.aD rfl (Wt.none rfl) rfl rfl (Ew.alloc rfl) ?_;rintro _ _ ⟨g9,rfl,rfl⟩;refine ⟨(fun w hw=>hw.sub Sx),?_⟩;refine TS.eff ?_;refine TSo.slNil 3 1 ?_;refine TSo.aD rfl (Wt.none rfl) rfl rfl (Ew.bj 0 3 (zfw (fun _=>inferInstance)) rfl rfl rfl rfl rfl hd25_1 (zgv (xs:=([]:List Int))) (zfK (xs:=([]:List Int))) g26 (by decide)) ?_;rintro v26 _ ⟨hv26,rfl⟩;refine ⟨(fun w hw=>hw.sub Sx),?_⟩;refine TS.y rfl (Yv.build rfl rfl) ?_;refine TS.eff ?_;refine TSo.aY rfl (Wt.none rfl) rfl (Ew.ak 1 rfl rfl rfl rfl rfl rfl) ?_;rintro _ _ ⟨rfl,rfl⟩;refine ⟨(fun w hw=>hw.sub Sx),?_⟩;refine TS.done ?_;refine K.pick [1,0,2,3] rfl (by decide) ?_;exact K.aj (g9,v26) hv26 (.c (.c (.c (.c (.c (.c .nil)))))) (List.Sublist.refl _)
    ·rintro ⟨g9,v26⟩ hv26; (try dsimp only at *);refine T.seq (T.sr ?_);refine TL.y (Yv.fieldAddr rfl rfl) ?_;refine TL.y (Yv.ac 0 rfl rfl rfl rfl) ?_;refine TL.run 2 rfl ?_;refine TL.ns ?_;have hq:=zae hk;clear hk;obtain ⟨k9,hk9,hk⟩:=hq; (try dsimp only at hk);refine T.al (ι:=Int×List Int×Value×FzB w (fun _=>False) S0) (fun z=>[(0,vd),(1, .int .i64 s),(2, .int .i64 c),(7,vout_3),(8, .int .i64 (i_5:Int)),(9, .pointer (some ⟨g9,0,none⟩))]) (fun z=>[.row g9 48 [.int .i64 z.1,z.2.2.1], .sl vout_3 48 2 out_3.length cout_3.flatten, .fr z.2.2.2]) (fun z=>k9 (z.1,z.2.1)=some r∧SlC z.2.2.2.toFrz z.2.2.1 1 (z.2.1.map eI)∧F3.toFrz.Le z.2.2.2.toFrz) ?_ ?_
     ·refine T.cond rfl (fun h10=>?_) (fun h10=>?_)
      ·have p10:=of_decide_eq_true h10;replace hk:=zab hk h10;refine T.sr ?_;refine TL.y (Yv.fieldAddr rfl rfl) ?_;refine TL.e0 (Ew.aE 0 rfl rfl rfl rfl (by simp)) ?_;rintro _ _ ⟨rfl,rfl⟩;refine TL.nx ?_;refine TL.run 2 rfl ?_;refine TL.y (Yv.ao (i:=i_5) rfl rfl rfl (SlD.mono (rep:=GDomain.rep) (fun _ _ _ _=>GDomain.mono) hd le1_3).1 (SlD.mono (rep:=GDomain.rep) (fun _ _ _ _=>GDomain.mono) hd le1_3).2.1 rfl (by omega)) ?_;refine TL.y (Yv.aG rfl rfl (SlD.mono (rep:=GDomain.rep) (fun _ _ _ _=>GDomain.mono) hd le1_3).1 (SlD.mono (rep:=GDomain.rep) (fun _ _ _ _=>GDomain.mono) hd le1_3).2.1 (by omega)) ?_;refine TL.y (Yv.loadR 3 (i:=i_5) (j:=1) rfl rfl rfl (SlD.mono (rep:=GDomain.rep) (fun _ _ _ _=>GDomain.mono) hd le1_3).1 (SlD.mono (rep:=GDomain.rep) (fun _ _ _ _=>GDomain.mono) hd le1_3).2.1 (by omega) rfl (GDomain.c1 ((SlD.mono (rep:=GDomain.rep) (fun _ _ _ _=>GDomain.mono) hd le1_3).2.2 i_5 (by omega))).1) ?_;have hd37_1:=(GDomain.c1 ((SlD.mono (rep:=GDomain.rep) (fun _ _ _ _=>GDomain.mono) hd le1_3).2.2 i_5 (by omega))).2;haveI:=hd37_1.oneC;refine TL.run 1 rfl ?_;refine TL.e (Ew.af rfl rfl rfl (fun w hw=>zfu _ w (hw.fr (i:=3) rfl) ((nth d i_5).Channels) (nth (nth cd i_5) 1) hd37_1 c)) ?_;rintro _ _ ⟨rfl,rfl⟩;refine TL.ns ?_;refine T.cond rfl (fun h11=>?_) (fun h11=>?_)
       ·replace hk:=zab hk h11;refine T.region ?_;refine TL.run 1 rfl ?_;refine TL.e (Ew.buildSlice rfl rfl rfl (by decide)) ?_;rintro _ _ ⟨g41,rfl,rfl⟩;refine TL.y (Yv.fieldAddr rfl rfl) ?_;refine TL.e0 (Ew.aE 1 rfl rfl rfl rfl (by simp)) ?_;rintro _ _ ⟨rfl,rfl⟩;refine TL.nil ?_;refine K.aX (fun w hw=>hw.freezeR (i:=4) (j:=0) (by decide) rfl rfl) ?_;rintro F5 ⟨le3_5,hz5⟩;dsimp only [List.set,List.eraseIdx];have hf5:SlC F5.toFrz (.slice (some ⟨g41,0,none⟩) 1 1) 1 ([c].map eI):=(SlK.lit hz5 rfl (Nat.le_refl _) (by decide)).toF (xs:=[c]) rfl (fun _=>rfl);refine K.pick [0,2,3] rfl (by decide) ?_;exact K.aj ((nth d i_5).Station,[c],(.slice (some ⟨g41,0,none⟩) 1 1),F5) ⟨hk,hf5,le3_5⟩ (.c (.c (.c (.c (.c (.c .nil)))))) (List.Sublist.refl _)
       ·replace hk:=zaa hk h11;refine T.skip ?_;refine K.pick [0,2,3] rfl (by decide) ?_;exact K.aj ((nth d i_5).Station,[],(.slice none 0 0),F3) ⟨hk,(SlC.nil _ 1),(Frz.Le.refl _)⟩ (.c (.c (.c (.c (.c (.c .nil)))))) (List.Sublist.refl _)
      ·have p10:=of_decide_eq_false h10;replace hk:=zaa hk h10;refine T.skip ?_;refine K.aX (fun w hw=>hw.freezeS (i:=3) (j:=1) (by decide) rfl rfl) ?_;rintro F6 ⟨le3_6,hz6⟩;dsimp only [List.set,List.eraseIdx];have hf6:=hz6.toF rfl (fun _=>rfl);haveI:=hf6.oneC;exact K.aj ((nth d i_5).Station,([]++(nth d i_5).Channels),v26,F6) ⟨hk,hf6,le3_6⟩ (.c (.c (.c (.c (.c (.c .nil)))))) (List.Sublist.refl _)
     ·rintro ⟨c_7,c_8,vc_8,F4⟩ ⟨hk,hc_8,le3_4⟩; (try dsimp only at *);rw [←hk9] at hk; (try dsimp only at hk);have le1_4:=le1_3.trans le3_4;haveI:=hc_8.oneC;have hq:(room (out_3++[(GDomain.mk c_7 c_8)]).length 32)∧_:=zaE hk;clear hk;obtain ⟨g46,hk⟩:=hq; (try dsimp only at hk);refine T.region ?_;refine TL.run 1 rfl ?_;refine TL.y (Yv.am 0 rfl rfl rfl rfl) ?_;refine TL.e (Ew.buildSlice rfl rfl rfl (by decide)) ?_;rintro _ _ ⟨g45,rfl,rfl⟩;have hl45:OwnD GDomain.rep F4.toFrz 2 [[.int .i64 c_7,vc_8]] [(GDomain.mk c_7 c_8)]:=(OwnD.snoc (OwnD.nil _ _ 2) ⟨_,rfl,hc_8⟩ rfl);refine TL.e (Ew.aQ 2 0 rfl rfl rfl rfl rfl rfl (zce (ys:=[(GDomain.mk c_7 c_8)]) rfl) (zbI (cs:=cout_3) (ds:=[[.int .i64 c_7,vc_8]])) g46 (by decide)) ?_;rintro v46 _ ⟨hv46,rfl⟩;have ho46:OwnD GDomain.rep F4.toFrz 2 (cout_3++[[.int .i64 c_7,vc_8]]) (out_3++[(GDomain.mk c_7 c_8)]):=(OwnD.snoc (OwnD.mono (rep:=GDomain.rep) (fun _ _ _ _=>GDomain.mono) hout_3 le3_4) ⟨_,rfl,hc_8⟩ rfl);refine TL.run 1 rfl ?_;refine TL.nil (K.ad (K.seq (T.region ?_)));refine TL.run 1 rfl ?_;refine TL.y (Yv.an rfl rfl rfl (by omega)) ?_;refine TL.run 1 rfl ?_;refine TL.nil ?_;rw [←hn4] at hk;refine K.pick [2,3] rfl (by decide) ?_;exact K.next ((i_5+1),(out_3++[(GDomain.mk c_7 c_8)]),v46,(cout_3++[[.int .i64 c_7,vc_8]]),F4) ⟨hk,ho46,inferInstance,le1_4⟩ (by dsimp only;omega) (.c (.c (.c (.c (.c .nil))))) (List.Sublist.refl _)
   ·have p6:=of_decide_eq_false h6;rw [zas (by omega),←hkk4] at hk; (try dsimp only at hk);refine T.exit (K.ab (K.ab (K.ae ?_)));exact K.aj (out_3,vout_3,cout_3,F3) ⟨hk,hout_3,inferInstance,le1_3⟩ (.c .nil) (List.Sublist.refl _)
 ·rintro ⟨out_1,vout_1,cout_1,F2⟩ ⟨hk,hout_1,oout_1,le1_2⟩; (try dsimp only at *);rw [←hk2] at hk; (try dsimp only at hk);refine T.sr ?_;refine TL.run 2 rfl ?_;refine TL.ns (T.ret ?_);refine K.aX (fun w hw=>hw.freezeS (i:=1) (j:=0) (by decide) rfl rfl) ?_;rintro F7 ⟨le2_7,hz7⟩;dsimp only [List.set,List.eraseIdx];have le1_7:=le1_2.trans le2_7;have hf7:=hz7.toD (OwnD.mono (rep:=GDomain.rep) (fun _ _ _ _=>GDomain.mono) hout_1 le2_7) rfl;haveI:=hf7.1.oneC;obtain rfl:=Option.some.inj hk;exact K.ah rfl rfl (fun w' hw=>⟨(vout_1,cout_1),F7.toFrz,hf7,rfl,Fx.of hw (i:=0) rfl hS0 le1_7⟩)
def zba (d:List GDomain)(s:Int)(c:Int):Option (List GDomain):=
 zax (fun (out_1:List GDomain)=>
  some out_1)
 (fun k2=>
  zai (fun (i_5:Nat) (next4:List GDomain→Option (List GDomain)) (out_3:List GDomain)=>
   zax (fun (s9:Int×List Int)=>
    grd (room (out_3++[(GDomain.mk s9.1 s9.2)]).length 32) <|
    next4 (out_3++[(GDomain.mk s9.1 s9.2)]))
   (fun k9=>
    zai (fun (k_13:Nat) (next12:(Int×List Int)→Option (List GDomain)) (s12:Int×List Int)=>
     (bif ((decide (¬(nth d i_5).Station=s))||(decide (¬(nth ((nth d i_5).Channels) k_13)=c))) then
      grd (room (s12.2++[(nth ((nth d i_5).Channels) k_13)]).length 8) <|
      next12 (s12.1,(s12.2++[(nth ((nth d i_5).Channels) k_13)]))
      else
      next12 (s12.1,s12.2)))
    (fun (s12:Int×List Int)=>
     k9 (s12.1,s12.2)) ((((nth d i_5).Channels).length) - 0) 0 ((nth d i_5).Station,[])))
  (fun (out_3:List GDomain)=>
   k2 out_3) (d.length - 0) 0 [])
theorem zg4 (F0:Frz)(w:World)(hF0:F0.At w)(d:List GDomain)(vd:Value)(cd:List (List Value))(hd:SlD GDomain.rep F0 vd 2 cd d)(s:Int)(c:Int)(r:List GDomain)(hr:zba d s c=some r):Calls Tryz.prog 78 #[vd, .int .i64 s, .int .i64 c] w fun e w'=>∃(y:Value×List (List Value)) (G:Frz),(SlD GDomain.rep G y.1 2 y.2 r)∧e= .returned (y.1)∧Fx F0 w G w':=by
 have hk:=hr;unfold zba at hk;haveI:=hd.1.oneC;obtain ⟨S0,F1,rfl,hS0,hp0⟩:=zan hF0;refine zac Tryz.func78 rfl rfl rfl hp0 ?_;refine T.sr ?_;refine TL.run 1 rfl ?_;refine TL.nx ?_;refine TL.run 1 rfl ?_;refine TL.slNil 48 2 ?_;refine TL.ns (T.seq (T.sr ?_));refine TL.run 1 rfl ?_;refine TL.ns ?_;have hq:=zae hk;clear hk;obtain ⟨k2,hk2,hk⟩:=hq; (try dsimp only at hk);refine T.al (ι:=List GDomain×Value×List (List Value)×FzB w (fun _=>False) S0) (fun z=>[(7,z.2.1)]) (fun z=>[.sl z.2.1 48 2 z.1.length z.2.2.1.flatten, .fr z.2.2.2]) (fun z=>k2 z.1=some r∧OwnD GDomain.rep z.2.2.2.toFrz 2 z.2.2.1 z.1∧OneC z.2.1∧F1.toFrz.Le z.2.2.2.toFrz) ?_ ?_
 ·have hq:=zaj hk;clear hk;obtain ⟨f4,kk4,hf4,hkk4,hk⟩:=hq;refine T.block ?_;refine T.loop (ι:=Nat×List GDomain×Value×List (List Value)×FzB w (fun _=>False) S0) (fun z=>[(0,vd),(1, .int .i64 s),(2, .int .i64 c),(7,z.2.2.1),(8, .int .i64 (z.1:Int))]) (fun z=>[.sl z.2.2.1 48 2 z.2.1.length z.2.2.2.1.flatten, .fr z.2.2.2.2]) (fun z=>zai f4 kk4 (d.length - z.1) z.1 z.2.1=some r∧OwnD GDomain.rep z.2.2.2.2.toFrz 2 z.2.2.2.1 z.2.1∧OneC z.2.2.1∧F1.toFrz.Le z.2.2.2.2.toFrz) (fun z=>d.length - z.1) (0,[],(.slice none 0 0),[],F1) ?_ ?_ ?_ ?_
  ·exact ⟨hk,(OwnD.nil _ _ 2),inferInstance,(Frz.Le.refl _)⟩
  ·exact (.c (.c (.c (.c (.c .nil)))))
  ·exact List.Sublist.refl _
  ·rintro ⟨i_5,out_3,vout_3,cout_3,F3⟩ ⟨hk,hout_3,oout_3,le1_3⟩; (try dsimp only at *);refine T.seq (T.sr ?_);refine TL.run 2 rfl ?_;refine TL.y (Yv.ar rfl rfl (SlD.mono (rep:=GDomain.rep) (fun _ _ _ _=>GDomain.mono) hd le1_3).1 (SlD.mono (rep:=GDomain.rep) (fun _ _ _ _=>GDomain.mono) hd le1_3).2.1) ?_;have hm13:d.length≤9223372036854775807:=(SlD.mono (rep:=GDomain.rep) (fun _ _ _ _=>GDomain.mono) hd le1_3).2.1▸(SlD.mono (rep:=GDomain.rep) (fun _ _ _ _=>GDomain.mono) hd le1_3).1.max;refine TL.run 1 rfl ?_;refine TL.ns ?_;refine T.cond rfl (fun h6=>?_) (fun h6=>?_)
   ·have p6:=of_decide_eq_true h6;rw [zar (by omega)] at hk;generalize hn4:zai f4 kk4 (d.length - (i_5+1)) (i_5+1)=next4 at hk;rw [←hf4] at hk; (try dsimp only at hk);refine T.skip (K.seq (T.seq (T.block (T.sr ?_))));refine TL.run 2 rfl ?_;refine TL.y (Yv.ao (i:=i_5) rfl rfl rfl (SlD.mono (rep:=GDomain.rep) (fun _ _ _ _=>GDomain.mono) hd le1_3).1 (SlD.mono (rep:=GDomain.rep) (fun _ _ _ _=>GDomain.mono) hd le1_3).2.1 rfl (by omega)) ?_;refine TL.y (Yv.aG rfl rfl (SlD.mono (rep:=GDomain.rep) (fun _ _ _ _=>GDomain.mono) hd le1_3).1 (SlD.mono (rep:=GDomain.rep) (fun _ _ _ _=>GDomain.mono) hd le1_3).2.1 (by omega)) ?_;refine TL.y (Yv.loadR 1 (i:=i_5) (j:=0) rfl rfl rfl (SlD.mono (rep:=GDomain.rep) (fun _ _ _ _=>GDomain.mono) hd le1_3).1 (SlD.mono (rep:=GDomain.rep) (fun _ _ _ _=>GDomain.mono) hd le1_3).2.1 (by omega) rfl (GDomain.c0 ((SlD.mono (rep:=GDomain.rep) (fun _ _ _ _=>GDomain.mono) hd le1_3).2.2 i_5 (by omega)))) ?_;refine TL.y (Yv.build rfl rfl) ?_;refine TL.e (Ew.alloc rfl) ?_;rintro _ _ ⟨g9,rfl,rfl⟩;refine TL.slNil 3 1 ?_;refine TL.e0 (Ew.ak 1 rfl rfl rfl rfl rfl rfl) ?_;rintro _ _ ⟨rfl,rfl⟩;refine TL.slNil 3 1 ?_;refine TL.ns (T.seq (T.sr ?_));refine TL.run 1 rfl ?_;refine TL.ns ?_;have hq:=zae hk;clear hk;obtain ⟨k9,hk9,hk⟩:=hq; (try dsimp only at hk);refine T.al (ι:=Int×List Int×Value) (fun z=>[(0,vd),(1, .int .i64 s),(2, .int .i64 c),(7,vout_3),(8, .int .i64 (i_5:Int)),(9, .pointer (some ⟨g9,0,none⟩))]) (fun z=>[.sl z.2.2 3 1 z.2.1.length (z.2.1.flatMap eI), .row g9 48 [.int .i64 z.1,z.2.2], .sl vout_3 48 2 out_3.length cout_3.flatten, .fr F3]) (fun z=>k9 (z.1,z.2.1)=some r∧OneC z.2.2) ?_ ?_
    ·have hq:=zaj hk;clear hk;obtain ⟨f12,kk12,hf12,hkk12,hk⟩:=hq;refine T.block ?_;refine T.pick [0,2,3,4] rfl (by decide) ?_;refine T.loop (ι:=Nat×Int×List Int×Value) (fun z=>[(0,vd),(1, .int .i64 s),(2, .int .i64 c),(7,vout_3),(8, .int .i64 (i_5:Int)),(9, .pointer (some ⟨g9,0,none⟩)),(10, .int .i64 (z.1:Int))]) (fun z=>[.sl z.2.2.2 3 1 z.2.2.1.length (z.2.2.1.flatMap eI), .row g9 48 [.int .i64 z.2.1,z.2.2.2], .sl vout_3 48 2 out_3.length cout_3.flatten, .fr F3]) (fun z=>zai f12 kk12 ((((nth d i_5).Channels).length) - z.1) z.1 (z.2.1,z.2.2.1)=some r∧OneC z.2.2.2) (fun z=>(((nth d i_5).Channels).length) - z.1) (0,(nth d i_5).Station,[],(.slice none 0 0)) ?_ ?_ ?_ ?_
     ·exact ⟨hk,inferInstance⟩
     ·exact (.c (.c (.c (.c (.c (.c (.c .nil)))))))
     ·exact List.Sublist.refl _
     ·rintro ⟨k_13,c_10,c_11,vc_11⟩ ⟨hk,oc_11⟩; (try dsimp only at *);refine T.seq (T.sr ?_);refine TL.run 3 rfl ?_;refine TL.y (Yv.ao (i:=i_5) rfl rfl rfl (SlD.mono (rep:=GDomain.rep) (fun _ _ _ _=>GDomain.mono) hd le1_3).1 (SlD.mono (rep:=GDomain.rep) (fun _ _ _ _=>GDomain.mono) hd le1_3).2.1 rfl (by omega)) ?_;refine TL.y (Yv.aG rfl rfl (SlD.mono (rep:=GDomain.rep) (fun _ _ _ _=>GDomain.mono) hd le1_3).1 (SlD.mono (rep:=GDomain.rep) (fun _ _ _ _=>GDomain.mono) hd le1_3).2.1 (by omega)) ?_;refine TL.y (Yv.loadR 3 (i:=i_5) (j:=1) rfl rfl rfl (SlD.mono (rep:=GDomain.rep) (fun _ _ _ _=>GDomain.mono) hd le1_3).1 (SlD.mono (rep:=GDomain.rep) (fun _ _ _ _=>GDomain.mono) hd le1_3).2.1 (by omega) rfl (GDomain.c1 ((SlD.mono (rep:=GDomain.rep) (fun _ _ _ _=>GDomain.mono) hd le1_3).2.2 i_5 (by omega))).1) ?_;have hd28_1:=(GDomain.c1 ((SlD.mono (rep:=GDomain.rep) (fun _ _ _ _=>GDomain.mono) hd le1_3).2.2 i_5 (by omega))).2;haveI:=hd28_1.oneC;refine TL.y (Yv.ar rfl rfl hd28_1 (List.length_map _)) ?_;have hm29:((nth d i_5).Channels).length≤9223372036854775807:=(List.length_map _)▸hd28_1.max;refine TL.run 1 rfl ?_;refine TL.ns ?_;refine T.cond rfl (fun h14=>?_) (fun h14=>?_)
      ·have p14:=of_decide_eq_true h14;rw [zar (by omega)] at hk;generalize hn12:zai f12 kk12 ((((nth d i_5).Channels).length) - (k_13+1)) (k_13+1)=next12 at hk;rw [←hf12] at hk; (try dsimp only at hk);refine T.skip (K.seq (T.seq (T.block (T.seq ?_))));refine T.al (ι:=Unit) (fun z=>[(0,vd),(1, .int .i64 s),(2, .int .i64 c),(7,vout_3),(8, .int .i64 (i_5:Int)),(9, .pointer (some ⟨g9,0,none⟩)),(10, .int .i64 (k_13:Int)),(51, .bool ((decide (¬(nth d i_5).Station=s))||(decide (¬(nth ((nth d i_5).Channels) k_13)=c))))]) (fun z=>[.sl vc_11 3 1 c_11.length (c_11.flatMap eI), .row g9 48 [.int .i64 c_10,vc_11], .sl vout_3 48 2 out_3.length cout_3.flatten, .fr F3]) (fun z=>True) ?_ ?_
       ·refine T.region ?_;refine TL.run 2 rfl ?_;refine TL.y (Yv.ao (i:=i_5) rfl rfl rfl (SlD.mono (rep:=GDomain.rep) (fun _ _ _ _=>GDomain.mono) hd le1_3).1 (SlD.mono (rep:=GDomain.rep) (fun _ _ _ _=>GDomain.mono) hd le1_3).2.1 rfl (by omega)) ?_;refine TL.y (Yv.aG rfl rfl (SlD.mono (rep:=GDomain.rep) (fun _ _ _ _=>GDomain.mono) hd le1_3).1 (SlD.mono (rep:=GDomain.rep) (fun _ _ _ _=>GDomain.mono) hd le1_3).2.1 (by omega)) ?_;refine TL.y (Yv.loadR 3 (i:=i_5) (j:=0) rfl rfl rfl (SlD.mono (rep:=GDomain.rep) (fun _ _ _ _=>GDomain.mono) hd le1_3).1 (SlD.mono (rep:=GDomain.rep) (fun _ _ _ _=>GDomain.mono) hd le1_3).2.1 (by omega) rfl (GDomain.c0 ((SlD.mono (rep:=GDomain.rep) (fun _ _ _ _=>GDomain.mono) hd le1_3).2.2 i_5 (by omega)))) ?_;refine TL.run 3 rfl ?_;refine TL.gs rfl rfl rfl (fun h15=>?_) (fun h15=>?_)
        ·have p15:=of_decide_eq_true h15;refine TL.run 11 rfl ?_;refine TL.nil ?_;exact K.aj () trivial (.c (.c (.c (.c (.c (.c (.c (.b (zbN h15).symm .nil)))))))) (List.Sublist.refl _)
        ·have p15:=of_decide_eq_false h15;refine TL.run 2 rfl ?_;refine TL.y (Yv.ao (i:=i_5) rfl rfl rfl (SlD.mono (rep:=GDomain.rep) (fun _ _ _ _=>GDomain.mono) hd le1_3).1 (SlD.mono (rep:=GDomain.rep) (fun _ _ _ _=>GDomain.mono) hd le1_3).2.1 rfl (by omega)) ?_;refine TL.y (Yv.aG rfl rfl (SlD.mono (rep:=GDomain.rep) (fun _ _ _ _=>GDomain.mono) hd le1_3).1 (SlD.mono (rep:=GDomain.rep) (fun _ _ _ _=>GDomain.mono) hd le1_3).2.1 (by omega)) ?_;refine TL.y (Yv.loadR 3 (i:=i_5) (j:=1) rfl rfl rfl (SlD.mono (rep:=GDomain.rep) (fun _ _ _ _=>GDomain.mono) hd le1_3).1 (SlD.mono (rep:=GDomain.rep) (fun _ _ _ _=>GDomain.mono) hd le1_3).2.1 (by omega) rfl (GDomain.c1 ((SlD.mono (rep:=GDomain.rep) (fun _ _ _ _=>GDomain.mono) hd le1_3).2.2 i_5 (by omega))).1) ?_;refine TL.run 1 rfl ?_;refine TL.y (Yv.ao (i:=k_13) rfl rfl rfl hd28_1 (List.length_map _) rfl (by omega)) ?_;refine TL.y (Yv.az 3 (i:=k_13) (j:=0) rfl rfl rfl hd28_1 (by omega) rfl rfl) ?_;refine TL.run 3 rfl ?_;refine TL.nil ?_;exact K.aj () trivial (.c (.c (.c (.c (.c (.c (.c (.b (or_f h15) .nil)))))))) (List.Sublist.refl _)
       ·rintro _ _;refine T.cond rfl (fun h16=>?_) (fun h16=>?_)
        ·replace hk:=zab hk h16;have hq:(room (c_11++[(nth ((nth d i_5).Channels) k_13)]).length 8)∧_:=zaE hk;clear hk;obtain ⟨g63,hk⟩:=hq; (try dsimp only at hk);refine T.as (.still 0 (.still 2 (.still 3 (.still 4 (.still 5 (.still 6 (.still 7 (.still 8 (.still 9 (.two 1 10 (.eff 10 (.eff 11 (.still 12 (.eff 13 .done)))) (.eff 1 (.eff 11 (.still 12 (.eff 13 .done)))))))))))))) [.sl vout_3 48 2 out_3.length cout_3.flatten, .fr F3] (by kernel_rfl) Sx ?_;refine TS.y rfl (Yv.fieldAddr rfl rfl) ?_;refine TS.run 2 rfl ?_;refine TS.y rfl (Yv.ao (i:=i_5) rfl rfl rfl (SlD.mono (rep:=GDomain.rep) (fun _ _ _ _=>GDomain.mono) hd le1_3).1 (SlD.mono (rep:=GDomain.rep) (fun _ _ _ _=>GDomain.mono) hd le1_3).2.1 rfl (by omega)) ?_;refine TS.y rfl (Yv.aG rfl rfl (SlD.mono (rep:=GDomain.rep) (fun _ _ _ _=>GDomain.mono) hd le1_3).1 (SlD.mono (rep:=GDomain.rep) (fun _ _ _ _=>GDomain.mono) hd le1_3).2.1 (by omega)) ?_;refine TS.y rfl (Yv.loadR 1 (i:=i_5) (j:=1) rfl rfl rfl (SlD.mono (rep:=GDomain.rep) (fun _ _ _ _=>GDomain.mono) hd le1_3).1 (SlD.mono (rep:=GDomain.rep) (fun _ _ _ _=>GDomain.mono) hd le1_3).2.1 (by omega) rfl (GDomain.c1 ((SlD.mono (rep:=GDomain.rep) (fun _ _ _ _=>GDomain.mono) hd le1_3).2.2 i_5 (by omega))).1) ?_;refine TS.run 1 rfl ?_;refine TS.y rfl (Yv.ao (i:=k_13) rfl rfl rfl hd28_1 (List.length_map _) rfl (by omega)) ?_;refine TS.y rfl (Yv.az 1 (i:=k_13) (j:=0) rfl rfl rfl hd28_1 (by omega) rfl rfl) ?_;refine TS.two ?_ ?_
         ·refine TSo.br rfl (Wt.none rfl) rfl rfl (Yv.ac 1 rfl rfl rfl rfl) (fun w hw=>hw.sub Sx) ?_;refine TS.eff ?_;refine TSo.aD rfl (Wt.none rfl) rfl rfl (Ew.buildSlice rfl rfl rfl (by decide)) ?_;rintro _ _ ⟨g62,rfl,rfl⟩;refine ⟨(fun w hw=>hw.sub Sx),?_⟩;refine TS.eff ?_;refine TSo.aD rfl (Wt.none rfl) rfl rfl (Ew.aQ 1 0 rfl rfl rfl rfl rfl rfl (zce (ys:=[(nth ((nth d i_5).Channels) k_13)]) rfl) (ziz (enc:=eI) (xs:=c_11) (ys:=[(nth ((nth d i_5).Channels) k_13)])) g63 (by decide)) ?_;rintro v63 _ ⟨hv63,rfl⟩;refine ⟨(fun w hw=>hw.sub Sx),?_⟩;refine TS.y rfl (Yv.fieldAddr rfl rfl) ?_;refine TS.eff ?_;refine TSo.aY rfl (Wt.none rfl) rfl (Ew.aE 2 rfl rfl rfl rfl (by simp)) ?_;rintro _ _ ⟨rfl,rfl⟩;refine ⟨(fun w hw=>hw.sub Sx),?_⟩;refine TS.done ?_;refine K.ad (K.seq (T.region ?_));refine TL.run 1 rfl ?_;refine TL.y (Yv.an rfl rfl rfl (by omega)) ?_;refine TL.run 1 rfl ?_;refine TL.nil ?_;rw [←hn12] at hk;refine K.pick [1,2,3,4] rfl (by decide) ?_;exact K.next ((k_13+1),c_10,(c_11++[(nth ((nth d i_5).Channels) k_13)]),v63) ⟨hk,inferInstance⟩ (by dsimp only;omega) (.c (.c (.c (.c (.c (.c (.c .nil))))))) (List.Sublist.refl _)
         ·refine TSo.aD rfl (Wt.none rfl) rfl rfl (Ew.buildSlice rfl rfl rfl (by decide)) ?_;rintro _ _ ⟨g62,rfl,rfl⟩;refine ⟨(fun w hw=>hw.sub Sx),?_⟩;refine TS.eff ?_;refine TSo.br rfl (Wt.none rfl) rfl rfl (Yv.ac 2 rfl rfl rfl rfl) (fun w hw=>hw.sub Sx) ?_;refine TS.eff ?_;refine TSo.aD rfl (Wt.none rfl) rfl rfl (Ew.aQ 1 0 rfl rfl rfl rfl rfl rfl (zce (ys:=[(nth ((nth d i_5).Channels) k_13)]) rfl) (ziz (enc:=eI) (xs:=c_11) (ys:=[(nth ((nth d i_5).Channels) k_13)])) g63 (by decide)) ?_;rintro v63 _ ⟨hv63,rfl⟩;refine ⟨(fun w hw=>hw.sub Sx),?_⟩;refine TS.y rfl (Yv.fieldAddr rfl rfl) ?_;refine TS.eff ?_;refine TSo.aY rfl (Wt.none rfl) rfl (Ew.aE 2 rfl rfl rfl rfl (by simp)) ?_;rintro _ _ ⟨rfl,rfl⟩;refine ⟨(fun w hw=>hw.sub Sx),?_⟩;refine TS.done ?_;refine K.ad (K.seq (T.region ?_));refine TL.run 1 rfl ?_;refine TL.y (Yv.an rfl rfl rfl (by omega)) ?_;refine TL.run 1 rfl ?_;refine TL.nil ?_;rw [←hn12] at hk;refine K.pick [1,2,3,4] rfl (by decide) ?_;exact K.next ((k_13+1),c_10,(c_11++[(nth ((nth d i_5).Channels) k_13)]),v63) ⟨hk,inferInstance⟩ (by dsimp only;omega) (.c (.c (.c (.c (.c (.c (.c .nil))))))) (List.Sublist.refl _)
        ·have p16:=h16; (try simp only [nfB] at p16);replace hk:=zaa hk h16;refine T.skip (K.ad (K.seq (T.region ?_)));refine TL.run 1 rfl ?_;refine TL.y (Yv.an rfl rfl rfl (by omega)) ?_;refine TL.run 1 rfl ?_;refine TL.nil ?_;rw [←hn12] at hk;exact K.next ((k_13+1),c_10,c_11,vc_11) ⟨hk,inferInstance⟩ (by dsimp only;omega) (.c (.c (.c (.c (.c (.c (.c .nil))))))) (List.Sublist.refl _)
      ·have p14:=of_decide_eq_false h14;rw [zas (by omega),←hkk12] at hk; (try dsimp only at hk);refine T.exit (K.ab (K.ab (K.ae ?_)));exact K.aj (c_10,c_11,vc_11) ⟨hk,inferInstance⟩ (.c (.c (.c (.c (.c (.c .nil)))))) (List.Sublist.refl _)
    ·rintro ⟨c_7,c_8,vc_8⟩ ⟨hk,oc_8⟩; (try dsimp only at *);rw [←hk9] at hk; (try dsimp only at hk);refine T.aX (fun w hw=>hw.freezeS (i:=3) (j:=0) (by decide) rfl rfl) ?_;rintro F4 ⟨le3_4,hz4⟩;dsimp only [List.set,List.eraseIdx];have le1_4:=le1_3.trans le3_4;have hf4:=hz4.toF rfl (fun _=>rfl);haveI:=hf4.oneC;have hq:(room (out_3++[(GDomain.mk c_7 c_8)]).length 32)∧_:=zaE hk;clear hk;obtain ⟨g68,hk⟩:=hq; (try dsimp only at hk);refine T.region ?_;refine TL.run 1 rfl ?_;refine TL.y (Yv.am 0 rfl rfl rfl rfl) ?_;refine TL.e (Ew.buildSlice rfl rfl rfl (by decide)) ?_;rintro _ _ ⟨g67,rfl,rfl⟩;have hl67:OwnD GDomain.rep F4.toFrz 2 [[.int .i64 c_7,vc_8]] [(GDomain.mk c_7 c_8)]:=(OwnD.snoc (OwnD.nil _ _ 2) ⟨_,rfl,hf4⟩ rfl);refine TL.e (Ew.aQ 2 0 rfl rfl rfl rfl rfl rfl (zce (ys:=[(GDomain.mk c_7 c_8)]) rfl) (zbI (cs:=cout_3) (ds:=[[.int .i64 c_7,vc_8]])) g68 (by decide)) ?_;rintro v68 _ ⟨hv68,rfl⟩;have ho68:OwnD GDomain.rep F4.toFrz 2 (cout_3++[[.int .i64 c_7,vc_8]]) (out_3++[(GDomain.mk c_7 c_8)]):=(OwnD.snoc (OwnD.mono (rep:=GDomain.rep) (fun _ _ _ _=>GDomain.mono) hout_3 le3_4) ⟨_,rfl,hf4⟩ rfl);refine TL.run 1 rfl ?_;refine TL.nil (K.ad (K.seq (T.region ?_)));refine TL.run 1 rfl ?_;refine TL.y (Yv.an rfl rfl rfl (by omega)) ?_;refine TL.run 1 rfl ?_;refine TL.nil ?_;rw [←hn4] at hk;refine K.pick [2,3] rfl (by decide) ?_;exact K.next ((i_5+1),(out_3++[(GDomain.mk c_7 c_8)]),v68,(cout_3++[[.int .i64 c_7,vc_8]]),F4) ⟨hk,ho68,inferInstance,le1_4⟩ (by dsimp only;omega) (.c (.c (.c (.c (.c .nil))))) (List.Sublist.refl _)
   ·have p6:=of_decide_eq_false h6;rw [zas (by omega),←hkk4] at hk; (try dsimp only at hk);refine T.exit (K.ab (K.ab (K.ae ?_)));exact K.aj (out_3,vout_3,cout_3,F3) ⟨hk,hout_3,inferInstance,le1_3⟩ (.c .nil) (List.Sublist.refl _)
 ·rintro ⟨out_1,vout_1,cout_1,F2⟩ ⟨hk,hout_1,oout_1,le1_2⟩; (try dsimp only at *);rw [←hk2] at hk; (try dsimp only at hk);refine T.sr ?_;refine TL.run 2 rfl ?_;refine TL.ns (T.ret ?_);refine K.aX (fun w hw=>hw.freezeS (i:=1) (j:=0) (by decide) rfl rfl) ?_;rintro F5 ⟨le2_5,hz5⟩;dsimp only [List.set,List.eraseIdx];have le1_5:=le1_2.trans le2_5;have hf5:=hz5.toD (OwnD.mono (rep:=GDomain.rep) (fun _ _ _ _=>GDomain.mono) hout_1 le2_5) rfl;haveI:=hf5.1.oneC;obtain rfl:=Option.some.inj hk;exact K.ah rfl rfl (fun w' hw=>⟨(vout_1,cout_1),F5.toFrz,hf5,rfl,Fx.of hw (i:=0) rfl hS0 le1_5⟩)
def zay (low:Int)(c:Int)(high:Int):Bool:=
 ((decide (low≤c))&&(decide (c≤high)))
theorem zbZ (F0:Frz)(w:World)(hF0:F0.At w)(low:Int)(c:Int)(high:Int):Calls Tryz.prog 138 #[.int .i64 low, .int .i64 c, .int .i64 high] w fun e w'=>e= .returned (.bool (zay low c high))∧Below w.heap.size w w':=by
 obtain ⟨r,hk⟩:∃r,zay low c high=r:=⟨_,rfl⟩;rw [hk];unfold zay at hk;obtain ⟨S0,F1,rfl,hS0,hp0⟩:=zan hF0;refine zac Tryz.func138 rfl rfl rfl hp0 ?_;refine T.sr ?_;refine TL.run 1 rfl ?_;refine TL.ns (T.seq ?_);refine T.al (ι:=Unit) (fun z=>[(6, .bool ((decide (low≤c))&&(decide (c≤high))))]) (fun z=>[.fr F1]) (fun z=>True) ?_ ?_
 ·refine T.region ?_;refine TL.run 4 rfl ?_;refine TL.gs rfl rfl rfl (fun h1=>?_) (fun h1=>?_)
  ·have p1:=of_decide_eq_true h1;refine TL.run 5 rfl ?_;refine TL.nil ?_;exact K.aj () trivial (.b (zdi h1) .nil) (List.Sublist.refl _)
  ·have p1:=of_decide_eq_false h1;refine TL.run 5 rfl ?_;refine TL.nil ?_;exact K.aj () trivial (.b (zaJ h1).symm .nil) (List.Sublist.refl _)
 ·rintro _ _;refine T.ret ?_;subst hk;exact K.ah rfl rfl (fun w' hw=>⟨rfl,hw.isBelow⟩)
def zaO (d:List GDomain)(station:Int)(channel:Int):Bool:=
 zax (fun (_:Unit)=>
  true)
 (fun k1=>
  zai (fun (i_3:Nat) (next2:Unit→Bool) (_:Unit)=>
   zax (fun (_:Unit)=>
    next2 ())
   (fun k5=>
    (bif decide (¬(nth d i_3).Station=station) then
     k5 ()
     else
     zai (fun (k_8:Nat) (next7:Unit→Bool) (_:Unit)=>
      (bif decide (¬(nth ((nth d i_3).Channels) k_8)=channel) then
       false
       else
       next7 ()))
     (fun (_:Unit)=>
      k5 ()) ((((nth d i_3).Channels).length) - 0) 0 ())))
  (fun (_:Unit)=>
   k1 ()) (d.length - 0) 0 ())
theorem zcx (F0:Frz)(w:World)(hF0:F0.At w)(d:List GDomain)(vd:Value)(cd:List (List Value))(hd:SlD GDomain.rep F0 vd 2 cd d)(station:Int)(channel:Int):Calls Tryz.prog 127 #[vd, .int .i64 station, .int .i64 channel] w fun e w'=>e= .returned (.bool (zaO d station channel))∧Below w.heap.size w w':=by
 obtain ⟨r,hk⟩:∃r,zaO d station channel=r:=⟨_,rfl⟩;rw [hk];unfold zaO at hk;haveI:=hd.1.oneC;obtain ⟨S0,F1,rfl,hS0,hp0⟩:=zan hF0;refine zac Tryz.func127 rfl rfl rfl hp0 ?_;refine T.sr ?_;refine TL.run 1 rfl ?_;refine TL.ns (T.seq (T.sr ?_));refine TL.run 1 rfl ?_;refine TL.ns ?_;have hq:=zae hk;clear hk;obtain ⟨k1,hk1,hk⟩:=hq; (try dsimp only at hk);refine T.al (ι:=Unit) (fun z=>[]) (fun z=>[.fr F1]) (fun z=>k1 ()=r) ?_ ?_
 ·have hq:=zaj hk;clear hk;obtain ⟨f2,kk2,hf2,hkk2,hk⟩:=hq;refine T.block ?_;refine T.loop (ι:=Nat) (fun z=>[(0,vd),(1, .int .i64 station),(2, .int .i64 channel),(7, .int .i64 (z:Int))]) (fun z=>[.fr F1]) (fun z=>zai f2 kk2 (d.length - z) z ()=r) (fun z=>d.length - z) 0 ?_ ?_ ?_ ?_
  ·exact hk
  ·exact (.c (.c (.c (.c .nil))))
  ·exact List.Sublist.refl _
  ·rintro i_3 hk;refine T.seq (T.sr ?_);refine TL.run 2 rfl ?_;refine TL.y (Yv.ar rfl rfl hd.1 hd.2.1) ?_;have hm11:d.length≤9223372036854775807:=hd.2.1▸hd.1.max;refine TL.run 1 rfl ?_;refine TL.ns ?_;refine T.cond rfl (fun h4=>?_) (fun h4=>?_)
   ·have p4:=of_decide_eq_true h4;rw [zar (by omega)] at hk;generalize hn2:zai f2 kk2 (d.length - (i_3+1)) (i_3+1)=next2 at hk;rw [←hf2] at hk; (try dsimp only at hk);refine T.skip (K.seq (T.seq ?_));have hq:=zae hk;clear hk;obtain ⟨k5,hk5,hk⟩:=hq; (try dsimp only at hk);refine T.al (ι:=Unit) (fun z=>[(0,vd),(1, .int .i64 station),(2, .int .i64 channel),(7, .int .i64 (i_3:Int))]) (fun z=>[.fr F1]) (fun z=>k5 ()=r) ?_ ?_
    ·refine T.block (T.seq (T.sr ?_));refine TL.run 2 rfl ?_;refine TL.y (Yv.ao (i:=i_3) rfl rfl rfl hd.1 hd.2.1 rfl (by omega)) ?_;refine TL.y (Yv.aG rfl rfl hd.1 hd.2.1 (by omega)) ?_;refine TL.y (Yv.loadR 0 (i:=i_3) (j:=0) rfl rfl rfl hd.1 hd.2.1 (by omega) rfl (GDomain.c0 (hd.2.2 i_3 (by omega)))) ?_;refine TL.run 2 rfl ?_;refine TL.ns ?_;refine T.cond rfl (fun h6=>?_) (fun h6=>?_)
     ·have p6:=of_decide_eq_true h6;replace hk:=zab hk h6;refine T.exit (K.ab (K.ae ?_));exact K.aj () hk (.c (.c (.c (.c .nil)))) (List.Sublist.refl _)
     ·have p6:=of_decide_eq_false h6;replace hk:=zaa hk h6;refine T.skip (K.seq (T.sr ?_));refine TL.run 1 rfl ?_;refine TL.ns ?_;have hq:=zaj hk;clear hk;obtain ⟨f7,kk7,hf7,hkk7,hk⟩:=hq;refine T.block ?_;refine T.loop (ι:=Nat) (fun z=>[(0,vd),(1, .int .i64 station),(2, .int .i64 channel),(7, .int .i64 (i_3:Int)),(8, .int .i64 (z:Int))]) (fun z=>[.fr F1]) (fun z=>zai f7 kk7 ((((nth d i_3).Channels).length) - z) z ()=r) (fun z=>(((nth d i_3).Channels).length) - z) 0 ?_ ?_ ?_ ?_
      ·exact hk
      ·exact (.c (.c (.c (.c (.c .nil)))))
      ·exact List.Sublist.refl _
      ·rintro k_8 hk;refine T.seq (T.sr ?_);refine TL.run 3 rfl ?_;refine TL.y (Yv.ao (i:=i_3) rfl rfl rfl hd.1 hd.2.1 rfl (by omega)) ?_;refine TL.y (Yv.aG rfl rfl hd.1 hd.2.1 (by omega)) ?_;refine TL.y (Yv.loadR 0 (i:=i_3) (j:=1) rfl rfl rfl hd.1 hd.2.1 (by omega) rfl (GDomain.c1 (hd.2.2 i_3 (by omega))).1) ?_;have hd27_1:=(GDomain.c1 (hd.2.2 i_3 (by omega))).2;haveI:=hd27_1.oneC;refine TL.y (Yv.ar rfl rfl hd27_1 (List.length_map _)) ?_;have hm28:((nth d i_3).Channels).length≤9223372036854775807:=(List.length_map _)▸hd27_1.max;refine TL.run 1 rfl ?_;refine TL.ns ?_;refine T.cond rfl (fun h9=>?_) (fun h9=>?_)
       ·have p9:=of_decide_eq_true h9;rw [zar (by omega)] at hk;generalize hn7:zai f7 kk7 ((((nth d i_3).Channels).length) - (k_8+1)) (k_8+1)=next7 at hk;rw [←hf7] at hk; (try dsimp only at hk);refine T.skip (K.seq (T.seq (T.block (T.sr ?_))));refine TL.run 2 rfl ?_;refine TL.y (Yv.ao (i:=i_3) rfl rfl rfl hd.1 hd.2.1 rfl (by omega)) ?_;refine TL.y (Yv.aG rfl rfl hd.1 hd.2.1 (by omega)) ?_;refine TL.y (Yv.loadR 0 (i:=i_3) (j:=1) rfl rfl rfl hd.1 hd.2.1 (by omega) rfl (GDomain.c1 (hd.2.2 i_3 (by omega))).1) ?_;refine TL.run 1 rfl ?_;refine TL.y (Yv.ao (i:=k_8) rfl rfl rfl hd27_1 (List.length_map _) rfl (by omega)) ?_;refine TL.y (Yv.az 0 (i:=k_8) (j:=0) rfl rfl rfl hd27_1 (by omega) rfl rfl) ?_;refine TL.run 2 rfl ?_;refine TL.ns ?_;refine T.cond rfl (fun h10=>?_) (fun h10=>?_)
        ·have p10:=of_decide_eq_true h10;replace hk:=zab hk h10;refine T.sr ?_;refine TL.run 1 rfl ?_;refine TL.ns (T.ret (K.ag (K.aa (K.aa (K.ag (K.ag (K.aa (K.aa (K.ag (K.aa ?_))))))))));subst hk;exact K.ah rfl rfl (fun w' hw=>⟨rfl,hw.isBelow⟩)
        ·have p10:=of_decide_eq_false h10;replace hk:=zaa hk h10;refine T.skip (K.ad (K.seq (T.region ?_)));refine TL.run 1 rfl ?_;refine TL.y (Yv.an rfl rfl rfl (by omega)) ?_;refine TL.run 1 rfl ?_;refine TL.nil ?_;rw [←hn7] at hk;exact K.next (k_8+1) hk (by omega) (.c (.c (.c (.c (.c .nil))))) (List.Sublist.refl _)
       ·have p9:=of_decide_eq_false h9;rw [zas (by omega),←hkk7] at hk; (try dsimp only at hk);refine T.exit (K.ab (K.ab (K.ae (K.ad ?_))));exact K.aj () hk (.c (.c (.c (.c .nil)))) (List.Sublist.refl _)
    ·rintro _ hk;rw [←hk5] at hk; (try dsimp only at hk);refine T.region ?_;refine TL.run 1 rfl ?_;refine TL.y (Yv.an rfl rfl rfl (by omega)) ?_;refine TL.run 1 rfl ?_;refine TL.nil ?_;rw [←hn2] at hk;exact K.next (i_3+1) hk (by omega) (.c (.c (.c (.c .nil)))) (List.Sublist.refl _)
   ·have p4:=of_decide_eq_false h4;rw [zas (by omega),←hkk2] at hk; (try dsimp only at hk);refine T.exit (K.ab (K.ab (K.ae ?_)));exact K.aj () hk .nil (List.Sublist.refl _)
 ·rintro _ hk;rw [←hk1] at hk; (try dsimp only at hk);refine T.sr ?_;refine TL.run 1 rfl ?_;refine TL.ns (T.ret ?_);subst hk;exact K.ah rfl rfl (fun w' hw=>⟨rfl,hw.isBelow⟩)
def zbs (p:GProblem)(d:List GDomain)(s:Int)(c:Int):Bool:=
 zax (fun (_:Unit)=>
  false)
 (fun k1=>
  zai (fun (i_3:Nat) (next2:Unit→Bool) (_:Unit)=>
   (bif (((decide ((nth p.Rules.Pairs i_3).A=s))&&(zay ((nth p.Rules.Pairs i_3).Low) c ((nth p.Rules.Pairs i_3).High)))&&(zaO d ((nth p.Rules.Pairs i_3).B) (wI (c+((nth p.Rules.Pairs i_3).Offset))))) then
    true
    else
    (bif (((decide ((nth p.Rules.Pairs i_3).B=s))&&(zay ((nth p.Rules.Pairs i_3).Low) (wI (c - ((nth p.Rules.Pairs i_3).Offset))) ((nth p.Rules.Pairs i_3).High)))&&(zaO d ((nth p.Rules.Pairs i_3).A) (wI (c - ((nth p.Rules.Pairs i_3).Offset))))) then
     true
     else
     next2 ())))
  (fun (_:Unit)=>
   k1 ()) (p.Rules.Pairs.length - 0) 0 ())
theorem zfQ (F0:Frz)(w:World)(hF0:F0.At w)(p:GProblem)(vp_0:Value)(cp_0:List (List Value))(hp_0:SlD GDomain.rep F0 vp_0 2 cp_0 p.Domains)(vp_1:Value)(hp_1:SlC F0 vp_1 5 (p.Rules.Pairs.map GPair.enc))(vp_2:Value)(hp_2:SlC F0 vp_2 5 (p.Rules.Loads.map GLoad.enc))(vp_3:Value)(hp_3:SlC F0 vp_3 4 (p.Rules.Caps.map GCap.enc))(d:List GDomain)(vd:Value)(cd:List (List Value))(hd:SlD GDomain.rep F0 vd 2 cd d)(s:Int)(c:Int):Calls Tryz.prog 128 #[.agg [vp_0,vp_1,vp_2,vp_3].toArray,vd, .int .i64 s, .int .i64 c] w fun e w'=>e= .returned (.bool (zbs p d s c))∧Below w.heap.size w w':=by
 obtain ⟨r,hk⟩:∃r,zbs p d s c=r:=⟨_,rfl⟩;rw [hk];unfold zbs at hk;haveI:=hp_0.1.oneC;haveI:=hp_1.oneC;haveI:=hp_2.oneC;haveI:=hp_3.oneC;haveI:=hd.1.oneC;obtain ⟨S0,F1,rfl,hS0,hp0⟩:=zan hF0;refine zac Tryz.func128 rfl rfl rfl hp0 ?_;refine T.sr ?_;refine TL.e (Ew.aA rfl rfl) ?_;rintro _ _ ⟨g4,rfl,rfl⟩;refine TL.run 1 rfl ?_;refine TL.ns (T.seq (T.sr ?_));refine TL.run 1 rfl ?_;refine TL.ns ?_;have hq:=zae hk;clear hk;obtain ⟨k1,hk1,hk⟩:=hq; (try dsimp only at hk);refine T.al (ι:=Unit) (fun z=>[]) (fun z=>[.fr F1]) (fun z=>k1 ()=r) ?_ ?_
 ·have hq:=zaj hk;clear hk;obtain ⟨f2,kk2,hf2,hkk2,hk⟩:=hq;refine T.block ?_;refine T.loop (ι:=Nat) (fun z=>[(1,vd),(2, .int .i64 s),(3, .int .i64 c),(4, .pointer (some ⟨g4,0,none⟩)),(9, .int .i64 (z:Int))]) (fun z=>[.row g4 29 [vp_0,vp_1,vp_2,vp_3], .fr F1]) (fun z=>zai f2 kk2 (p.Rules.Pairs.length - z) z ()=r) (fun z=>p.Rules.Pairs.length - z) 0 ?_ ?_ ?_ ?_
  ·exact hk
  ·exact (.c (.c (.c (.c (.c .nil)))))
  ·exact List.Sublist.refl _
  ·rintro i_3 hk;refine T.seq (T.sr ?_);refine TL.run 1 rfl ?_;refine TL.y (Yv.fieldAddr rfl rfl) ?_;refine TL.y (Yv.fieldAddr rfl rfl) ?_;refine TL.y (Yv.ac 0 rfl rfl rfl rfl) ?_;refine TL.y (Yv.ar rfl rfl hp_1 (List.length_map _)) ?_;have hm15:p.Rules.Pairs.length≤9223372036854775807:=(List.length_map _)▸hp_1.max;refine TL.run 1 rfl ?_;refine TL.ns ?_;refine T.cond rfl (fun h4=>?_) (fun h4=>?_)
   ·have p4:=of_decide_eq_true h4;rw [zar (by omega)] at hk;generalize hn2:zai f2 kk2 (p.Rules.Pairs.length - (i_3+1)) (i_3+1)=next2 at hk;rw [←hf2] at hk; (try dsimp only at hk);refine T.skip (K.seq (T.seq (T.block (T.sr ?_))));refine TL.y (Yv.fieldAddr rfl rfl) ?_;refine TL.y (Yv.fieldAddr rfl rfl) ?_;refine TL.y (Yv.ac 0 rfl rfl rfl rfl) ?_;refine TL.run 1 rfl ?_;refine TL.y (Yv.ao (i:=i_3) rfl rfl rfl hp_1 (List.length_map _) rfl (by omega)) ?_;refine TL.y (Yv.aI 1 (i:=i_3) rfl rfl rfl hp_1 (by omega) rfl rfl rfl) ?_;refine TL.e (Ew.alloc rfl) ?_;rintro _ _ ⟨g10,rfl,rfl⟩;refine TL.e0 (Ew.ak 0 rfl rfl rfl rfl rfl rfl) ?_;rintro _ _ ⟨rfl,rfl⟩;refine TL.ns (T.seq (T.seq ?_));refine T.al (ι:=Unit) (fun z=>[(1,vd),(2, .int .i64 s),(3, .int .i64 c),(4, .pointer (some ⟨g4,0,none⟩)),(9, .int .i64 (i_3:Int)),(10, .pointer (some ⟨g10,0,none⟩)),(46, .bool (((decide ((nth p.Rules.Pairs i_3).A=s))&&(zay ((nth p.Rules.Pairs i_3).Low) c ((nth p.Rules.Pairs i_3).High)))&&(zaO d ((nth p.Rules.Pairs i_3).B) (wI (c+((nth p.Rules.Pairs i_3).Offset))))))]) (fun z=>[.row g10 77 [.int .i64 ((nth p.Rules.Pairs i_3).A), .int .i64 ((nth p.Rules.Pairs i_3).B), .int .i64 ((nth p.Rules.Pairs i_3).Offset), .int .i64 ((nth p.Rules.Pairs i_3).Low), .int .i64 ((nth p.Rules.Pairs i_3).High)], .row g4 29 [vp_0,vp_1,vp_2,vp_3], .fr F1]) (fun z=>True) ?_ ?_
    ·refine T.region ?_;refine TL.y (Yv.fieldAddr rfl rfl) ?_;refine TL.y (Yv.ac 0 rfl rfl rfl rfl) ?_;refine TL.run 3 rfl ?_;refine TL.gs rfl rfl rfl (fun h5=>?_) (fun h5=>?_)
     ·have p5:=of_decide_eq_true h5;refine TL.y (Yv.fieldAddr rfl rfl) ?_;refine TL.y (Yv.ac 0 rfl rfl rfl rfl) ?_;refine TL.run 1 rfl ?_;refine TL.y (Yv.fieldAddr rfl rfl) ?_;refine TL.y (Yv.ac 0 rfl rfl rfl rfl) ?_;refine TL.e (Ew.af rfl rfl rfl (fun w hw=>zbZ _ w (hw.fr (i:=2) rfl) ((nth p.Rules.Pairs i_3).Low) c ((nth p.Rules.Pairs i_3).High))) ?_;rintro _ _ ⟨rfl,rfl⟩;refine TL.run 2 rfl ?_;refine TL.gs rfl rfl rfl (fun h6=>?_) (fun h6=>?_)
      ·refine TL.run 1 rfl ?_;refine TL.y (Yv.fieldAddr rfl rfl) ?_;refine TL.y (Yv.ac 0 rfl rfl rfl rfl) ?_;refine TL.run 1 rfl ?_;refine TL.y (Yv.fieldAddr rfl rfl) ?_;refine TL.y (Yv.ac 0 rfl rfl rfl rfl) ?_;refine TL.run 1 rfl ?_;refine TL.e (Ew.af rfl rfl rfl (fun w hw=>zcx _ w (hw.fr (i:=2) rfl) d vd cd hd ((nth p.Rules.Pairs i_3).B) (wI (c+((nth p.Rules.Pairs i_3).Offset))))) ?_;rintro _ _ ⟨rfl,rfl⟩;refine TL.run 1 rfl ?_;refine TL.nil ?_;exact K.aj () trivial (.c (.c (.c (.c (.c (.c (.b (zdi (za8 h5 h6)) .nil))))))) (List.Sublist.refl _)
      ·refine TL.run 9 rfl ?_;refine TL.nil ?_;exact K.aj () trivial (.c (.c (.c (.c (.c (.c (.b (zaJ (za8 h5 h6)).symm .nil))))))) (List.Sublist.refl _)
     ·have p5:=of_decide_eq_false h5;refine TL.run 17 rfl ?_;refine TL.nil ?_;exact K.aj () trivial (.c (.c (.c (.c (.c (.c (.b (zaJ (zaJ h5)).symm .nil))))))) (List.Sublist.refl _)
    ·rintro _ _;refine T.cond rfl (fun h7=>?_) (fun h7=>?_)
     ·have p7:=h7; (try simp only [nfB] at p7);replace hk:=zab hk h7;refine T.sr ?_;refine TL.run 1 rfl ?_;refine TL.ns (T.ret (K.aa (K.ag (K.aa (K.aa (K.ag (K.aa ?_)))))));subst hk;exact K.ah rfl rfl (fun w' hw=>⟨rfl,hw.isBelow⟩)
     ·replace hk:=zaa hk h7;refine T.skip (K.seq (T.seq ?_));refine T.al (ι:=Unit) (fun z=>[(1,vd),(2, .int .i64 s),(3, .int .i64 c),(4, .pointer (some ⟨g4,0,none⟩)),(9, .int .i64 (i_3:Int)),(71, .bool (((decide ((nth p.Rules.Pairs i_3).B=s))&&(zay ((nth p.Rules.Pairs i_3).Low) (wI (c - ((nth p.Rules.Pairs i_3).Offset))) ((nth p.Rules.Pairs i_3).High)))&&(zaO d ((nth p.Rules.Pairs i_3).A) (wI (c - ((nth p.Rules.Pairs i_3).Offset))))))]) (fun z=>[.row g10 77 [.int .i64 ((nth p.Rules.Pairs i_3).A), .int .i64 ((nth p.Rules.Pairs i_3).B), .int .i64 ((nth p.Rules.Pairs i_3).Offset), .int .i64 ((nth p.Rules.Pairs i_3).Low), .int .i64 ((nth p.Rules.Pairs i_3).High)], .row g4 29 [vp_0,vp_1,vp_2,vp_3], .fr F1]) (fun z=>True) ?_ ?_
      ·refine T.region ?_;refine TL.y (Yv.fieldAddr rfl rfl) ?_;refine TL.y (Yv.ac 0 rfl rfl rfl rfl) ?_;refine TL.run 3 rfl ?_;refine TL.gs rfl rfl rfl (fun h8=>?_) (fun h8=>?_)
       ·have p8:=of_decide_eq_true h8;refine TL.y (Yv.fieldAddr rfl rfl) ?_;refine TL.y (Yv.ac 0 rfl rfl rfl rfl) ?_;refine TL.run 1 rfl ?_;refine TL.y (Yv.fieldAddr rfl rfl) ?_;refine TL.y (Yv.ac 0 rfl rfl rfl rfl) ?_;refine TL.run 1 rfl ?_;refine TL.y (Yv.fieldAddr rfl rfl) ?_;refine TL.y (Yv.ac 0 rfl rfl rfl rfl) ?_;refine TL.e (Ew.af rfl rfl rfl (fun w hw=>zbZ _ w (hw.fr (i:=2) rfl) ((nth p.Rules.Pairs i_3).Low) (wI (c - ((nth p.Rules.Pairs i_3).Offset))) ((nth p.Rules.Pairs i_3).High))) ?_;rintro _ _ ⟨rfl,rfl⟩;refine TL.run 2 rfl ?_;refine TL.gs rfl rfl rfl (fun h9=>?_) (fun h9=>?_)
        ·refine TL.run 1 rfl ?_;refine TL.y (Yv.fieldAddr rfl rfl) ?_;refine TL.y (Yv.ac 0 rfl rfl rfl rfl) ?_;refine TL.run 1 rfl ?_;refine TL.y (Yv.fieldAddr rfl rfl) ?_;refine TL.y (Yv.ac 0 rfl rfl rfl rfl) ?_;refine TL.run 1 rfl ?_;refine TL.e (Ew.af rfl rfl rfl (fun w hw=>zcx _ w (hw.fr (i:=2) rfl) d vd cd hd ((nth p.Rules.Pairs i_3).A) (wI (c - ((nth p.Rules.Pairs i_3).Offset))))) ?_;rintro _ _ ⟨rfl,rfl⟩;refine TL.run 1 rfl ?_;refine TL.nil ?_;exact K.aj () trivial (.c (.c (.c (.c (.c (.b (zdi (za8 h8 h9)) .nil)))))) (List.Sublist.refl _)
        ·refine TL.run 9 rfl ?_;refine TL.nil ?_;exact K.aj () trivial (.c (.c (.c (.c (.c (.b (zaJ (za8 h8 h9)).symm .nil)))))) (List.Sublist.refl _)
       ·have p8:=of_decide_eq_false h8;refine TL.run 20 rfl ?_;refine TL.nil ?_;exact K.aj () trivial (.c (.c (.c (.c (.c (.b (zaJ (zaJ h8)).symm .nil)))))) (List.Sublist.refl _)
      ·rintro _ _;refine T.cond rfl (fun h10=>?_) (fun h10=>?_)
       ·have p10:=h10; (try simp only [nfB] at p10);replace hk:=zab hk h10;refine T.sr ?_;refine TL.run 1 rfl ?_;refine TL.ns (T.ret (K.ag (K.aa (K.aa (K.ag (K.aa ?_))))));subst hk;exact K.ah rfl rfl (fun w' hw=>⟨rfl,hw.isBelow⟩)
       ·replace hk:=zaa hk h10;refine T.skip (K.ad (K.seq (T.region ?_)));refine TL.run 1 rfl ?_;refine TL.y (Yv.an rfl rfl rfl (by omega)) ?_;refine TL.run 1 rfl ?_;refine TL.nil ?_;rw [←hn2] at hk;refine K.pick [1,2] rfl (by decide) ?_;exact K.next (i_3+1) hk (by omega) (.c (.c (.c (.c (.c .nil))))) (List.Sublist.refl _)
   ·have p4:=of_decide_eq_false h4;rw [zas (by omega),←hkk2] at hk; (try dsimp only at hk);refine T.exit (K.ab (K.ab (K.ae ?_)));refine K.pick [1] rfl (by decide) ?_;exact K.aj () hk .nil (List.Sublist.refl _)
 ·rintro _ hk;rw [←hk1] at hk; (try dsimp only at hk);refine T.sr ?_;refine TL.run 1 rfl ?_;refine TL.ns (T.ret ?_);subst hk;exact K.ah rfl rfl (fun w' hw=>⟨rfl,hw.isBelow⟩)
def zbk (p:GProblem)(d:List GDomain)(to_:Int)(c:Int)(further:Int):Int:=
 zax (fun (n_1:Int)=>
  n_1)
 (fun k2=>
  zai (fun (i_5:Nat) (next4:Int→Int) (n_3:Int)=>
   (bif (((decide ((nth p.Rules.Loads i_5).To=to_))&&(zay ((nth p.Rules.Loads i_5).Low) c ((nth p.Rules.Loads i_5).High)))&&((decide ((nth p.Rules.Loads i_5).From=further))||(zaO d ((nth p.Rules.Loads i_5).From) c))) then
    next4 (wI (n_3+((nth p.Rules.Loads i_5).Weight)))
    else
    next4 n_3))
  (fun (n_3:Int)=>
   k2 n_3) (p.Rules.Loads.length - 0) 0 0)
theorem zfv (F0:Frz)(w:World)(hF0:F0.At w)(p:GProblem)(vp_0:Value)(cp_0:List (List Value))(hp_0:SlD GDomain.rep F0 vp_0 2 cp_0 p.Domains)(vp_1:Value)(hp_1:SlC F0 vp_1 5 (p.Rules.Pairs.map GPair.enc))(vp_2:Value)(hp_2:SlC F0 vp_2 5 (p.Rules.Loads.map GLoad.enc))(vp_3:Value)(hp_3:SlC F0 vp_3 4 (p.Rules.Caps.map GCap.enc))(d:List GDomain)(vd:Value)(cd:List (List Value))(hd:SlD GDomain.rep F0 vd 2 cd d)(to_:Int)(c:Int)(further:Int):Calls Tryz.prog 130 #[.agg [vp_0,vp_1,vp_2,vp_3].toArray,vd, .int .i64 to_, .int .i64 c, .int .i64 further] w fun e w'=>e= .returned (.int .i64 (zbk p d to_ c further))∧Below w.heap.size w w':=by
 obtain ⟨r,hk⟩:∃r,zbk p d to_ c further=r:=⟨_,rfl⟩;rw [hk];unfold zbk at hk;haveI:=hp_0.1.oneC;haveI:=hp_1.oneC;haveI:=hp_2.oneC;haveI:=hp_3.oneC;haveI:=hd.1.oneC;obtain ⟨S0,F1,rfl,hS0,hp0⟩:=zan hF0;refine zac Tryz.func130 rfl rfl rfl hp0 ?_;refine T.sr ?_;refine TL.e (Ew.aA rfl rfl) ?_;rintro _ _ ⟨g5,rfl,rfl⟩;refine TL.run 1 rfl ?_;refine TL.nx ?_;refine TL.run 1 rfl ?_;refine TL.ns (T.seq (T.sr ?_));refine TL.run 1 rfl ?_;refine TL.ns ?_;have hq:=zae hk;clear hk;obtain ⟨k2,hk2,hk⟩:=hq; (try dsimp only at hk);refine T.al (ι:=Int) (fun z=>[(11, .int .i64 z)]) (fun z=>[.fr F1]) (fun z=>k2 z=r) ?_ ?_
 ·have hq:=zaj hk;clear hk;obtain ⟨f4,kk4,hf4,hkk4,hk⟩:=hq;refine T.block ?_;refine T.loop (ι:=Nat×Int) (fun z=>[(1,vd),(2, .int .i64 to_),(3, .int .i64 c),(4, .int .i64 further),(5, .pointer (some ⟨g5,0,none⟩)),(11, .int .i64 z.2),(12, .int .i64 (z.1:Int))]) (fun z=>[.row g5 29 [vp_0,vp_1,vp_2,vp_3], .fr F1]) (fun z=>zai f4 kk4 (p.Rules.Loads.length - z.1) z.1 z.2=r) (fun z=>p.Rules.Loads.length - z.1) (0,0) ?_ ?_ ?_ ?_
  ·exact hk
  ·exact (.c (.c (.c (.c (.c (.c (.c .nil)))))))
  ·exact List.Sublist.refl _
  ·rintro ⟨i_5,n_3⟩ hk; (try dsimp only at *);refine T.seq (T.sr ?_);refine TL.run 1 rfl ?_;refine TL.y (Yv.fieldAddr rfl rfl) ?_;refine TL.y (Yv.fieldAddr rfl rfl) ?_;refine TL.y (Yv.ac 0 rfl rfl rfl rfl) ?_;refine TL.y (Yv.ar rfl rfl hp_2 (List.length_map _)) ?_;have hm18:p.Rules.Loads.length≤9223372036854775807:=(List.length_map _)▸hp_2.max;refine TL.run 1 rfl ?_;refine TL.ns ?_;refine T.cond rfl (fun h6=>?_) (fun h6=>?_)
   ·have p6:=of_decide_eq_true h6;rw [zar (by omega)] at hk;generalize hn4:zai f4 kk4 (p.Rules.Loads.length - (i_5+1)) (i_5+1)=next4 at hk;rw [←hf4] at hk; (try dsimp only at hk);refine T.skip (K.seq (T.seq (T.block (T.sr ?_))));refine TL.y (Yv.fieldAddr rfl rfl) ?_;refine TL.y (Yv.fieldAddr rfl rfl) ?_;refine TL.y (Yv.ac 0 rfl rfl rfl rfl) ?_;refine TL.run 1 rfl ?_;refine TL.y (Yv.ao (i:=i_5) rfl rfl rfl hp_2 (List.length_map _) rfl (by omega)) ?_;refine TL.y (Yv.aI 1 (i:=i_5) rfl rfl rfl hp_2 (by omega) rfl rfl rfl) ?_;refine TL.e (Ew.alloc rfl) ?_;rintro _ _ ⟨g13,rfl,rfl⟩;refine TL.e0 (Ew.ak 0 rfl rfl rfl rfl rfl rfl) ?_;rintro _ _ ⟨rfl,rfl⟩;refine TL.ns (T.seq ?_);refine T.al (ι:=Unit) (fun z=>[(1,vd),(2, .int .i64 to_),(3, .int .i64 c),(4, .int .i64 further),(5, .pointer (some ⟨g5,0,none⟩)),(11, .int .i64 n_3),(12, .int .i64 (i_5:Int)),(13, .pointer (some ⟨g13,0,none⟩)),(52, .bool (((decide ((nth p.Rules.Loads i_5).To=to_))&&(zay ((nth p.Rules.Loads i_5).Low) c ((nth p.Rules.Loads i_5).High)))&&((decide ((nth p.Rules.Loads i_5).From=further))||(zaO d ((nth p.Rules.Loads i_5).From) c))))]) (fun z=>[.row g13 79 [.int .i64 ((nth p.Rules.Loads i_5).To), .int .i64 ((nth p.Rules.Loads i_5).From), .int .i64 ((nth p.Rules.Loads i_5).Weight), .int .i64 ((nth p.Rules.Loads i_5).Low), .int .i64 ((nth p.Rules.Loads i_5).High)], .row g5 29 [vp_0,vp_1,vp_2,vp_3], .fr F1]) (fun z=>True) ?_ ?_
    ·refine T.region ?_;refine TL.y (Yv.fieldAddr rfl rfl) ?_;refine TL.y (Yv.ac 0 rfl rfl rfl rfl) ?_;refine TL.run 3 rfl ?_;refine TL.gs rfl rfl rfl (fun h7=>?_) (fun h7=>?_)
     ·have p7:=of_decide_eq_true h7;refine TL.y (Yv.fieldAddr rfl rfl) ?_;refine TL.y (Yv.ac 0 rfl rfl rfl rfl) ?_;refine TL.run 1 rfl ?_;refine TL.y (Yv.fieldAddr rfl rfl) ?_;refine TL.y (Yv.ac 0 rfl rfl rfl rfl) ?_;refine TL.e (Ew.af rfl rfl rfl (fun w hw=>zbZ _ w (hw.fr (i:=2) rfl) ((nth p.Rules.Loads i_5).Low) c ((nth p.Rules.Loads i_5).High))) ?_;rintro _ _ ⟨rfl,rfl⟩;refine TL.run 2 rfl ?_;refine TL.gs rfl rfl rfl (fun h8=>?_) (fun h8=>?_)
      ·refine TL.y (Yv.fieldAddr rfl rfl) ?_;refine TL.y (Yv.ac 0 rfl rfl rfl rfl) ?_;refine TL.run 3 rfl ?_;refine TL.gs rfl rfl rfl (fun h9=>?_) (fun h9=>?_)
       ·have p9:=of_decide_eq_true h9;refine TL.run 7 rfl ?_;refine TL.nil ?_;exact K.aj () trivial (.c (.c (.c (.c (.c (.c (.c (.c (.b (za8 (za8 h7 h8) (zbN h9)).symm .nil))))))))) (List.Sublist.refl _)
       ·have p9:=of_decide_eq_false h9;refine TL.run 1 rfl ?_;refine TL.y (Yv.fieldAddr rfl rfl) ?_;refine TL.y (Yv.ac 0 rfl rfl rfl rfl) ?_;refine TL.run 1 rfl ?_;refine TL.e (Ew.af rfl rfl rfl (fun w hw=>zcx _ w (hw.fr (i:=2) rfl) d vd cd hd ((nth p.Rules.Loads i_5).From) c)) ?_;rintro _ _ ⟨rfl,rfl⟩;refine TL.run 2 rfl ?_;refine TL.nil ?_;exact K.aj () trivial (.c (.c (.c (.c (.c (.c (.c (.c (.b (Eq.trans (or_f h9) (zdi (za8 h7 h8))) .nil))))))))) (List.Sublist.refl _)
      ·refine TL.run 12 rfl ?_;refine TL.nil ?_;exact K.aj () trivial (.c (.c (.c (.c (.c (.c (.c (.c (.b (zaJ (za8 h7 h8)).symm .nil))))))))) (List.Sublist.refl _)
     ·have p7:=of_decide_eq_false h7;refine TL.run 20 rfl ?_;refine TL.nil ?_;exact K.aj () trivial (.c (.c (.c (.c (.c (.c (.c (.c (.b (zaJ (zaJ h7)).symm .nil))))))))) (List.Sublist.refl _)
    ·rintro _ _;refine T.cond rfl (fun h10=>?_) (fun h10=>?_)
     ·have p10:=h10; (try simp only [nfB] at p10);replace hk:=zab hk h10;refine T.region ?_;refine TL.run 1 rfl ?_;refine TL.y (Yv.fieldAddr rfl rfl) ?_;refine TL.y (Yv.ac 0 rfl rfl rfl rfl) ?_;refine TL.run 2 rfl ?_;refine TL.nil (K.ad (K.seq (T.region ?_)));refine TL.run 1 rfl ?_;refine TL.y (Yv.an rfl rfl rfl (by omega)) ?_;refine TL.run 1 rfl ?_;refine TL.nil ?_;rw [←hn4] at hk;refine K.pick [1,2] rfl (by decide) ?_;exact K.next ((i_5+1),wI (n_3+((nth p.Rules.Loads i_5).Weight))) hk (by dsimp only;omega) (.c (.c (.c (.c (.c (.c (.c .nil))))))) (List.Sublist.refl _)
     ·replace hk:=zaa hk h10;refine T.skip (K.ad (K.seq (T.region ?_)));refine TL.run 1 rfl ?_;refine TL.y (Yv.an rfl rfl rfl (by omega)) ?_;refine TL.run 1 rfl ?_;refine TL.nil ?_;rw [←hn4] at hk;refine K.pick [1,2] rfl (by decide) ?_;exact K.next ((i_5+1),n_3) hk (by dsimp only;omega) (.c (.c (.c (.c (.c (.c (.c .nil))))))) (List.Sublist.refl _)
   ·have p6:=of_decide_eq_false h6;rw [zas (by omega),←hkk4] at hk; (try dsimp only at hk);refine T.exit (K.ab (K.ab (K.ae ?_)));refine K.pick [1] rfl (by decide) ?_;exact K.aj n_3 hk (.c .nil) (List.Sublist.refl _)
 ·rintro n_1 hk;rw [←hk2] at hk; (try dsimp only at hk);refine T.sr ?_;refine TL.run 2 rfl ?_;refine TL.ns (T.ret ?_);subst hk;exact K.ah rfl rfl (fun w' hw=>⟨rfl,hw.isBelow⟩)
def zbq (p:GProblem)(station:Int)(c:Int)(loss:Int):Bool:=
 zax (fun (_:Unit)=>
  false)
 (fun k1=>
  zai (fun (i_3:Nat) (next2:Unit→Bool) (_:Unit)=>
   (bif (((decide ((nth p.Rules.Caps i_3).Station=station))&&(zay ((nth p.Rules.Caps i_3).Low) c ((nth p.Rules.Caps i_3).High)))&&(decide ((nth p.Rules.Caps i_3).Max<loss))) then
    true
    else
    next2 ()))
  (fun (_:Unit)=>
   k1 ()) (p.Rules.Caps.length - 0) 0 ())
theorem zeT (F0:Frz)(w:World)(hF0:F0.At w)(p:GProblem)(vp_0:Value)(cp_0:List (List Value))(hp_0:SlD GDomain.rep F0 vp_0 2 cp_0 p.Domains)(vp_1:Value)(hp_1:SlC F0 vp_1 5 (p.Rules.Pairs.map GPair.enc))(vp_2:Value)(hp_2:SlC F0 vp_2 5 (p.Rules.Loads.map GLoad.enc))(vp_3:Value)(hp_3:SlC F0 vp_3 4 (p.Rules.Caps.map GCap.enc))(station:Int)(c:Int)(loss:Int):Calls Tryz.prog 129 #[.agg [vp_0,vp_1,vp_2,vp_3].toArray, .int .i64 station, .int .i64 c, .int .i64 loss] w fun e w'=>e= .returned (.bool (zbq p station c loss))∧Below w.heap.size w w':=by
 obtain ⟨r,hk⟩:∃r,zbq p station c loss=r:=⟨_,rfl⟩;rw [hk];unfold zbq at hk;haveI:=hp_0.1.oneC;haveI:=hp_1.oneC;haveI:=hp_2.oneC;haveI:=hp_3.oneC;obtain ⟨S0,F1,rfl,hS0,hp0⟩:=zan hF0;refine zac Tryz.func129 rfl rfl rfl hp0 ?_;refine T.sr ?_;refine TL.e (Ew.aA rfl rfl) ?_;rintro _ _ ⟨g4,rfl,rfl⟩;refine TL.run 1 rfl ?_;refine TL.ns (T.seq (T.sr ?_));refine TL.run 1 rfl ?_;refine TL.ns ?_;have hq:=zae hk;clear hk;obtain ⟨k1,hk1,hk⟩:=hq; (try dsimp only at hk);refine T.al (ι:=Unit) (fun z=>[]) (fun z=>[.fr F1]) (fun z=>k1 ()=r) ?_ ?_
 ·have hq:=zaj hk;clear hk;obtain ⟨f2,kk2,hf2,hkk2,hk⟩:=hq;refine T.block ?_;refine T.loop (ι:=Nat) (fun z=>[(1, .int .i64 station),(2, .int .i64 c),(3, .int .i64 loss),(4, .pointer (some ⟨g4,0,none⟩)),(9, .int .i64 (z:Int))]) (fun z=>[.row g4 29 [vp_0,vp_1,vp_2,vp_3], .fr F1]) (fun z=>zai f2 kk2 (p.Rules.Caps.length - z) z ()=r) (fun z=>p.Rules.Caps.length - z) 0 ?_ ?_ ?_ ?_
  ·exact hk
  ·exact (.c (.c (.c (.c (.c .nil)))))
  ·exact List.Sublist.refl _
  ·rintro i_3 hk;refine T.seq (T.sr ?_);refine TL.run 1 rfl ?_;refine TL.y (Yv.fieldAddr rfl rfl) ?_;refine TL.y (Yv.fieldAddr rfl rfl) ?_;refine TL.y (Yv.ac 0 rfl rfl rfl rfl) ?_;refine TL.y (Yv.ar rfl rfl hp_3 (List.length_map _)) ?_;have hm15:p.Rules.Caps.length≤9223372036854775807:=(List.length_map _)▸hp_3.max;refine TL.run 1 rfl ?_;refine TL.ns ?_;refine T.cond rfl (fun h4=>?_) (fun h4=>?_)
   ·have p4:=of_decide_eq_true h4;rw [zar (by omega)] at hk;generalize hn2:zai f2 kk2 (p.Rules.Caps.length - (i_3+1)) (i_3+1)=next2 at hk;rw [←hf2] at hk; (try dsimp only at hk);refine T.skip (K.seq (T.seq (T.block (T.sr ?_))));refine TL.y (Yv.fieldAddr rfl rfl) ?_;refine TL.y (Yv.fieldAddr rfl rfl) ?_;refine TL.y (Yv.ac 0 rfl rfl rfl rfl) ?_;refine TL.run 1 rfl ?_;refine TL.y (Yv.ao (i:=i_3) rfl rfl rfl hp_3 (List.length_map _) rfl (by omega)) ?_;refine TL.y (Yv.aI 1 (i:=i_3) rfl rfl rfl hp_3 (by omega) rfl rfl rfl) ?_;refine TL.e (Ew.alloc rfl) ?_;rintro _ _ ⟨g10,rfl,rfl⟩;refine TL.e0 (Ew.ak 0 rfl rfl rfl rfl rfl rfl) ?_;rintro _ _ ⟨rfl,rfl⟩;refine TL.ns (T.seq ?_);refine T.al (ι:=Unit) (fun z=>[(1, .int .i64 station),(2, .int .i64 c),(3, .int .i64 loss),(4, .pointer (some ⟨g4,0,none⟩)),(9, .int .i64 (i_3:Int)),(42, .bool (((decide ((nth p.Rules.Caps i_3).Station=station))&&(zay ((nth p.Rules.Caps i_3).Low) c ((nth p.Rules.Caps i_3).High)))&&(decide ((nth p.Rules.Caps i_3).Max<loss))))]) (fun z=>[.row g10 81 [.int .i64 ((nth p.Rules.Caps i_3).Station), .int .i64 ((nth p.Rules.Caps i_3).Max), .int .i64 ((nth p.Rules.Caps i_3).Low), .int .i64 ((nth p.Rules.Caps i_3).High)], .row g4 29 [vp_0,vp_1,vp_2,vp_3], .fr F1]) (fun z=>True) ?_ ?_
    ·refine T.region ?_;refine TL.y (Yv.fieldAddr rfl rfl) ?_;refine TL.y (Yv.ac 0 rfl rfl rfl rfl) ?_;refine TL.run 3 rfl ?_;refine TL.gs rfl rfl rfl (fun h5=>?_) (fun h5=>?_)
     ·have p5:=of_decide_eq_true h5;refine TL.y (Yv.fieldAddr rfl rfl) ?_;refine TL.y (Yv.ac 0 rfl rfl rfl rfl) ?_;refine TL.run 1 rfl ?_;refine TL.y (Yv.fieldAddr rfl rfl) ?_;refine TL.y (Yv.ac 0 rfl rfl rfl rfl) ?_;refine TL.e (Ew.af rfl rfl rfl (fun w hw=>zbZ _ w (hw.fr (i:=2) rfl) ((nth p.Rules.Caps i_3).Low) c ((nth p.Rules.Caps i_3).High))) ?_;rintro _ _ ⟨rfl,rfl⟩;refine TL.run 2 rfl ?_;refine TL.gs rfl rfl rfl (fun h6=>?_) (fun h6=>?_)
      ·refine TL.run 1 rfl ?_;refine TL.y (Yv.fieldAddr rfl rfl) ?_;refine TL.y (Yv.ac 0 rfl rfl rfl rfl) ?_;refine TL.run 2 rfl ?_;refine TL.nil ?_;exact K.aj () trivial (.c (.c (.c (.c (.c (.b (zdi (za8 h5 h6)) .nil)))))) (List.Sublist.refl _)
      ·refine TL.run 5 rfl ?_;refine TL.nil ?_;exact K.aj () trivial (.c (.c (.c (.c (.c (.b (zaJ (za8 h5 h6)).symm .nil)))))) (List.Sublist.refl _)
     ·have p5:=of_decide_eq_false h5;refine TL.run 13 rfl ?_;refine TL.nil ?_;exact K.aj () trivial (.c (.c (.c (.c (.c (.b (zaJ (zaJ h5)).symm .nil)))))) (List.Sublist.refl _)
    ·rintro _ _;refine T.cond rfl (fun h7=>?_) (fun h7=>?_)
     ·have p7:=h7; (try simp only [nfB] at p7);replace hk:=zab hk h7;refine T.sr ?_;refine TL.run 1 rfl ?_;refine TL.ns (T.ret (K.ag (K.aa (K.aa (K.ag (K.aa ?_))))));subst hk;exact K.ah rfl rfl (fun w' hw=>⟨rfl,hw.isBelow⟩)
     ·replace hk:=zaa hk h7;refine T.skip (K.ad (K.seq (T.region ?_)));refine TL.run 1 rfl ?_;refine TL.y (Yv.an rfl rfl rfl (by omega)) ?_;refine TL.run 1 rfl ?_;refine TL.nil ?_;rw [←hn2] at hk;refine K.pick [1,2] rfl (by decide) ?_;exact K.next (i_3+1) hk (by omega) (.c (.c (.c (.c (.c .nil))))) (List.Sublist.refl _)
   ·have p4:=of_decide_eq_false h4;rw [zas (by omega),←hkk2] at hk; (try dsimp only at hk);refine T.exit (K.ab (K.ab (K.ae ?_)));refine K.pick [1] rfl (by decide) ?_;exact K.aj () hk .nil (List.Sublist.refl _)
 ·rintro _ hk;rw [←hk1] at hk; (try dsimp only at hk);refine T.sr ?_;refine TL.run 1 rfl ?_;refine TL.ns (T.ret ?_);subst hk;exact K.ah rfl rfl (fun w' hw=>⟨rfl,hw.isBelow⟩)
def zbu (p:GProblem)(d:List GDomain)(s:Int)(c:Int):Bool:=
 zax (fun (_:Unit)=>
  false)
 (fun k1=>
  zai (fun (i_3:Nat) (next2:Unit→Bool) (_:Unit)=>
   (bif ((((decide ((nth p.Rules.Loads i_3).From=s))&&(zay ((nth p.Rules.Loads i_3).Low) c ((nth p.Rules.Loads i_3).High)))&&(zaO d ((nth p.Rules.Loads i_3).To) c))&&(zbq p ((nth p.Rules.Loads i_3).To) c (zbk p d ((nth p.Rules.Loads i_3).To) c s))) then
    true
    else
    next2 ()))
  (fun (_:Unit)=>
   k1 ()) (p.Rules.Loads.length - 0) 0 ())
theorem zfO (F0:Frz)(w:World)(hF0:F0.At w)(p:GProblem)(vp_0:Value)(cp_0:List (List Value))(hp_0:SlD GDomain.rep F0 vp_0 2 cp_0 p.Domains)(vp_1:Value)(hp_1:SlC F0 vp_1 5 (p.Rules.Pairs.map GPair.enc))(vp_2:Value)(hp_2:SlC F0 vp_2 5 (p.Rules.Loads.map GLoad.enc))(vp_3:Value)(hp_3:SlC F0 vp_3 4 (p.Rules.Caps.map GCap.enc))(d:List GDomain)(vd:Value)(cd:List (List Value))(hd:SlD GDomain.rep F0 vd 2 cd d)(s:Int)(c:Int):Calls Tryz.prog 131 #[.agg [vp_0,vp_1,vp_2,vp_3].toArray,vd, .int .i64 s, .int .i64 c] w fun e w'=>e= .returned (.bool (zbu p d s c))∧Below w.heap.size w w':=by
 obtain ⟨r,hk⟩:∃r,zbu p d s c=r:=⟨_,rfl⟩;rw [hk];unfold zbu at hk;haveI:=hp_0.1.oneC;haveI:=hp_1.oneC;haveI:=hp_2.oneC;haveI:=hp_3.oneC;haveI:=hd.1.oneC;obtain ⟨S0,F1,rfl,hS0,hp0⟩:=zan hF0;refine zac Tryz.func131 rfl rfl rfl hp0 ?_;refine T.sr ?_;refine TL.e (Ew.aA rfl rfl) ?_;rintro _ _ ⟨g4,rfl,rfl⟩;refine TL.run 1 rfl ?_;refine TL.ns (T.seq (T.sr ?_));refine TL.run 1 rfl ?_;refine TL.ns ?_;have hq:=zae hk;clear hk;obtain ⟨k1,hk1,hk⟩:=hq; (try dsimp only at hk);refine T.al (ι:=Unit) (fun z=>[]) (fun z=>[.fr F1]) (fun z=>k1 ()=r) ?_ ?_
 ·have hq:=zaj hk;clear hk;obtain ⟨f2,kk2,hf2,hkk2,hk⟩:=hq;refine T.block ?_;refine T.loop (ι:=Nat) (fun z=>[(1,vd),(2, .int .i64 s),(3, .int .i64 c),(4, .pointer (some ⟨g4,0,none⟩)),(9, .int .i64 (z:Int))]) (fun z=>[.row g4 29 [vp_0,vp_1,vp_2,vp_3], .fr F1]) (fun z=>zai f2 kk2 (p.Rules.Loads.length - z) z ()=r) (fun z=>p.Rules.Loads.length - z) 0 ?_ ?_ ?_ ?_
  ·exact hk
  ·exact (.c (.c (.c (.c (.c .nil)))))
  ·exact List.Sublist.refl _
  ·rintro i_3 hk;refine T.seq (T.sr ?_);refine TL.run 1 rfl ?_;refine TL.y (Yv.fieldAddr rfl rfl) ?_;refine TL.y (Yv.fieldAddr rfl rfl) ?_;refine TL.y (Yv.ac 0 rfl rfl rfl rfl) ?_;refine TL.y (Yv.ar rfl rfl hp_2 (List.length_map _)) ?_;have hm15:p.Rules.Loads.length≤9223372036854775807:=(List.length_map _)▸hp_2.max;refine TL.run 1 rfl ?_;refine TL.ns ?_;refine T.cond rfl (fun h4=>?_) (fun h4=>?_)
   ·have p4:=of_decide_eq_true h4;rw [zar (by omega)] at hk;generalize hn2:zai f2 kk2 (p.Rules.Loads.length - (i_3+1)) (i_3+1)=next2 at hk;rw [←hf2] at hk; (try dsimp only at hk);refine T.skip (K.seq (T.seq (T.block (T.sr ?_))));refine TL.y (Yv.fieldAddr rfl rfl) ?_;refine TL.y (Yv.fieldAddr rfl rfl) ?_;refine TL.y (Yv.ac 0 rfl rfl rfl rfl) ?_;refine TL.run 1 rfl ?_;refine TL.y (Yv.ao (i:=i_3) rfl rfl rfl hp_2 (List.length_map _) rfl (by omega)) ?_;refine TL.y (Yv.aI 1 (i:=i_3) rfl rfl rfl hp_2 (by omega) rfl rfl rfl) ?_;refine TL.e (Ew.alloc rfl) ?_;rintro _ _ ⟨g10,rfl,rfl⟩;refine TL.e0 (Ew.ak 0 rfl rfl rfl rfl rfl rfl) ?_;rintro _ _ ⟨rfl,rfl⟩;refine TL.ns (T.seq ?_);refine T.al (ι:=Unit) (fun z=>[(1,vd),(2, .int .i64 s),(3, .int .i64 c),(4, .pointer (some ⟨g4,0,none⟩)),(9, .int .i64 (i_3:Int)),(57, .bool ((((decide ((nth p.Rules.Loads i_3).From=s))&&(zay ((nth p.Rules.Loads i_3).Low) c ((nth p.Rules.Loads i_3).High)))&&(zaO d ((nth p.Rules.Loads i_3).To) c))&&(zbq p ((nth p.Rules.Loads i_3).To) c (zbk p d ((nth p.Rules.Loads i_3).To) c s))))]) (fun z=>[.row g10 79 [.int .i64 ((nth p.Rules.Loads i_3).To), .int .i64 ((nth p.Rules.Loads i_3).From), .int .i64 ((nth p.Rules.Loads i_3).Weight), .int .i64 ((nth p.Rules.Loads i_3).Low), .int .i64 ((nth p.Rules.Loads i_3).High)], .row g4 29 [vp_0,vp_1,vp_2,vp_3], .fr F1]) (fun z=>True) ?_ ?_
    ·refine T.as (.still 0 (.still 1 (.still 2 (.still 3 (.still 4 (.still 5 (.still 6 (.still 7 (.still 8 (.still 9 (.eff 10 (.still 11 (.still 12 (.still 13 (.still 14 (.still 15 (.still 16 (.eff 17 (.still 18 (.still 19 (.still 20 (.still 21 (.still 22 (.still 23 (.still 24 (.still 25 (.still 26 (.still 27 (.still 28 (.still 29 (.eff 30 (.eff 31 (.still 32 .done))))))))))))))))))))))))))))))))) _ (by kernel_rfl) (List.Sublist.refl _) ?_;refine TS.y rfl (Yv.fieldAddr rfl rfl) ?_;refine TS.y rfl (Yv.ac 0 rfl rfl rfl rfl) ?_;refine TS.run 3 rfl ?_;refine TS.gs rfl rfl rfl rfl (fun h5=>?_) (fun h5=>?_)
     ·have p5:=of_decide_eq_true h5;refine TS.y rfl (Yv.fieldAddr rfl rfl) ?_;refine TS.y rfl (Yv.ac 0 rfl rfl rfl rfl) ?_;refine TS.run 1 rfl ?_;refine TS.y rfl (Yv.fieldAddr rfl rfl) ?_;refine TS.y rfl (Yv.ac 0 rfl rfl rfl rfl) ?_;refine TS.eff ?_;refine TSo.aD rfl (Wt.some rfl rfl rfl rfl) rfl rfl (Ew.af rfl rfl rfl (fun w hw=>zbZ _ w (hw.fr (i:=2) rfl) ((nth p.Rules.Loads i_3).Low) c ((nth p.Rules.Loads i_3).High))) ?_;rintro _ _ ⟨rfl,rfl⟩;refine ⟨(fun w hw=>hw.sub Sx),?_⟩;refine TS.run 2 rfl ?_;refine TS.gs rfl rfl rfl rfl (fun h6=>?_) (fun h6=>?_)
      ·refine TS.run 1 rfl ?_;refine TS.y rfl (Yv.fieldAddr rfl rfl) ?_;refine TS.y rfl (Yv.ac 0 rfl rfl rfl rfl) ?_;refine TS.run 1 rfl ?_;refine TS.eff ?_;refine TSo.aD rfl (Wt.some rfl rfl rfl rfl) rfl rfl (Ew.af rfl rfl rfl (fun w hw=>zcx _ w (hw.fr (i:=2) rfl) d vd cd hd ((nth p.Rules.Loads i_3).To) c)) ?_;rintro _ _ ⟨rfl,rfl⟩;refine ⟨(fun w hw=>hw.sub Sx),?_⟩;refine TS.run 2 rfl ?_;refine TS.gs rfl rfl rfl rfl (fun h7=>?_) (fun h7=>?_)
       ·refine TS.y rfl (Yv.am 1 rfl rfl rfl rfl) ?_;refine TS.y rfl (Yv.fieldAddr rfl rfl) ?_;refine TS.y rfl (Yv.ac 0 rfl rfl rfl rfl) ?_;refine TS.run 1 rfl ?_;refine TS.y rfl (Yv.am 1 rfl rfl rfl rfl) ?_;refine TS.run 1 rfl ?_;refine TS.y rfl (Yv.fieldAddr rfl rfl) ?_;refine TS.y rfl (Yv.ac 0 rfl rfl rfl rfl) ?_;refine TS.run 2 rfl ?_;refine TS.eff ?_;refine TSo.aD rfl (Wt.some rfl rfl rfl rfl) rfl rfl (Ew.af rfl rfl rfl (fun w hw=>zfv _ w (hw.fr (i:=2) rfl) p vp_0 cp_0 hp_0 vp_1 hp_1 vp_2 hp_2 vp_3 hp_3 d vd cd hd ((nth p.Rules.Loads i_3).To) c s)) ?_;rintro _ _ ⟨rfl,rfl⟩;refine ⟨(fun w hw=>hw.sub Sx),?_⟩;refine TS.eff ?_;refine TSo.aD rfl (Wt.some rfl rfl rfl rfl) rfl rfl (Ew.af rfl rfl rfl (fun w hw=>zeT _ w (hw.fr (i:=2) rfl) p vp_0 cp_0 hp_0 vp_1 hp_1 vp_2 hp_2 vp_3 hp_3 ((nth p.Rules.Loads i_3).To) c (zbk p d ((nth p.Rules.Loads i_3).To) c s))) ?_;rintro _ _ ⟨rfl,rfl⟩;refine ⟨(fun w hw=>hw.sub Sx),?_⟩;refine TS.run 1 rfl ?_;refine TS.done ?_;exact K.aj () trivial (.c (.c (.c (.c (.c (.b (zdi (za8 (za8 h5 h6) h7)) .nil)))))) (List.Sublist.refl _)
       ·refine TS.run 10 rfl ?_;refine TS.eff ?_;refine TSo.off rfl (Wt.not rfl rfl rfl rfl) rfl rfl ?_;refine TS.eff ?_;refine TSo.off rfl (Wt.not rfl rfl rfl rfl) rfl rfl ?_;refine TS.run 1 rfl ?_;refine TS.done ?_;exact K.aj () trivial (.c (.c (.c (.c (.c (.b (zaJ (za8 (za8 h5 h6) h7)).symm .nil)))))) (List.Sublist.refl _)
      ·refine TS.run 4 rfl ?_;refine TS.eff ?_;refine TSo.off rfl (Wt.not rfl rfl rfl rfl) rfl rfl ?_;refine TS.run 12 rfl ?_;refine TS.eff ?_;refine TSo.off rfl (Wt.not rfl rfl rfl rfl) rfl rfl ?_;refine TS.eff ?_;refine TSo.off rfl (Wt.not rfl rfl rfl rfl) rfl rfl ?_;refine TS.run 1 rfl ?_;refine TS.done ?_;exact K.aj () trivial (.c (.c (.c (.c (.c (.b (zaJ (zaJ (za8 h5 h6))).symm .nil)))))) (List.Sublist.refl _)
     ·have p5:=of_decide_eq_false h5;refine TS.run 5 rfl ?_;refine TS.eff ?_;refine TSo.off rfl (Wt.not rfl rfl rfl rfl) rfl rfl ?_;refine TS.run 6 rfl ?_;refine TS.eff ?_;refine TSo.off rfl (Wt.not rfl rfl rfl rfl) rfl rfl ?_;refine TS.run 12 rfl ?_;refine TS.eff ?_;refine TSo.off rfl (Wt.not rfl rfl rfl rfl) rfl rfl ?_;refine TS.eff ?_;refine TSo.off rfl (Wt.not rfl rfl rfl rfl) rfl rfl ?_;refine TS.run 1 rfl ?_;refine TS.done ?_;exact K.aj () trivial (.c (.c (.c (.c (.c (.b (zaJ (zaJ (zaJ h5))).symm .nil)))))) (List.Sublist.refl _)
    ·rintro _ _;refine T.cond rfl (fun h8=>?_) (fun h8=>?_)
     ·have p8:=h8; (try simp only [nfB] at p8);replace hk:=zab hk h8;refine T.sr ?_;refine TL.run 1 rfl ?_;refine TL.ns (T.ret (K.ag (K.aa (K.aa (K.ag (K.aa ?_))))));subst hk;exact K.ah rfl rfl (fun w' hw=>⟨rfl,hw.isBelow⟩)
     ·replace hk:=zaa hk h8;refine T.skip (K.ad (K.seq (T.region ?_)));refine TL.run 1 rfl ?_;refine TL.y (Yv.an rfl rfl rfl (by omega)) ?_;refine TL.run 1 rfl ?_;refine TL.nil ?_;rw [←hn2] at hk;refine K.pick [1,2] rfl (by decide) ?_;exact K.next (i_3+1) hk (by omega) (.c (.c (.c (.c (.c .nil))))) (List.Sublist.refl _)
   ·have p4:=of_decide_eq_false h4;rw [zas (by omega),←hkk2] at hk; (try dsimp only at hk);refine T.exit (K.ab (K.ab (K.ae ?_)));refine K.pick [1] rfl (by decide) ?_;exact K.aj () hk .nil (List.Sublist.refl _)
 ·rintro _ hk;rw [←hk1] at hk; (try dsimp only at hk);refine T.sr ?_;refine TL.run 1 rfl ?_;refine TL.ns (T.ret ?_);subst hk;exact K.ah rfl rfl (fun w' hw=>⟨rfl,hw.isBelow⟩)
def zbj (p:GProblem)(d:List GDomain)(s:Int)(c:Int):Bool:=
 (((zbs p d s c)||(zbq p s c (zbk p d s c (-1))))||(zbu p d s c))
theorem zfH (F0:Frz)(w:World)(hF0:F0.At w)(p:GProblem)(vp_0:Value)(cp_0:List (List Value))(hp_0:SlD GDomain.rep F0 vp_0 2 cp_0 p.Domains)(vp_1:Value)(hp_1:SlC F0 vp_1 5 (p.Rules.Pairs.map GPair.enc))(vp_2:Value)(hp_2:SlC F0 vp_2 5 (p.Rules.Loads.map GLoad.enc))(vp_3:Value)(hp_3:SlC F0 vp_3 4 (p.Rules.Caps.map GCap.enc))(d:List GDomain)(vd:Value)(cd:List (List Value))(hd:SlD GDomain.rep F0 vd 2 cd d)(s:Int)(c:Int):Calls Tryz.prog 105 #[.agg [vp_0,vp_1,vp_2,vp_3].toArray,vd, .int .i64 s, .int .i64 c] w fun e w'=>e= .returned (.bool (zbj p d s c))∧Below w.heap.size w w':=by
 obtain ⟨r,hk⟩:∃r,zbj p d s c=r:=⟨_,rfl⟩;rw [hk];unfold zbj at hk;haveI:=hp_0.1.oneC;haveI:=hp_1.oneC;haveI:=hp_2.oneC;haveI:=hp_3.oneC;haveI:=hd.1.oneC;obtain ⟨S0,F1,rfl,hS0,hp0⟩:=zan hF0;refine zac Tryz.func105 rfl rfl rfl hp0 ?_;refine T.sr ?_;refine TL.e (Ew.aA rfl rfl) ?_;rintro _ _ ⟨g4,rfl,rfl⟩;refine TL.run 1 rfl ?_;refine TL.ns (T.seq ?_);refine T.al (ι:=Unit) (fun z=>[(8, .bool (((zbs p d s c)||(zbq p s c (zbk p d s c (-1))))||(zbu p d s c)))]) (fun z=>[.row g4 29 [vp_0,vp_1,vp_2,vp_3], .fr F1]) (fun z=>True) ?_ ?_
 ·refine T.as (.still 0 (.still 1 (.still 2 (.still 3 (.eff 4 (.still 5 (.still 6 (.still 7 (.still 8 (.still 9 (.still 10 (.still 11 (.still 12 (.eff 13 (.eff 14 (.still 15 (.still 16 (.still 17 (.still 18 (.still 19 (.still 20 (.eff 21 (.still 22 (.still 23 .done)))))))))))))))))))))))) _ (by kernel_rfl) (List.Sublist.refl _) ?_;refine TS.y rfl (Yv.am 0 rfl rfl rfl rfl) ?_;refine TS.run 3 rfl ?_;refine TS.eff ?_;refine TSo.aD rfl (Wt.none rfl) rfl rfl (Ew.af rfl rfl rfl (fun w hw=>zfQ _ w (hw.fr (i:=1) rfl) p vp_0 cp_0 hp_0 vp_1 hp_1 vp_2 hp_2 vp_3 hp_3 d vd cd hd s c)) ?_;rintro _ _ ⟨rfl,rfl⟩;refine ⟨(fun w hw=>hw.sub Sx),?_⟩;refine TS.run 1 rfl ?_;refine TS.gs rfl rfl rfl rfl (fun h1=>?_) (fun h1=>?_)
  ·refine TS.run 7 rfl ?_;refine TS.eff ?_;refine TSo.off rfl (Wt.not rfl rfl rfl rfl) rfl rfl ?_;refine TS.eff ?_;refine TSo.off rfl (Wt.not rfl rfl rfl rfl) rfl rfl ?_;refine TS.run 6 rfl ?_;refine TS.eff ?_;refine TSo.off rfl (Wt.not rfl rfl rfl rfl) rfl rfl ?_;refine TS.run 2 rfl ?_;refine TS.done ?_;exact K.aj () trivial (.b (zbN (zbN h1)).symm .nil) (List.Sublist.refl _)
  ·refine TS.y rfl (Yv.am 0 rfl rfl rfl rfl) ?_;refine TS.run 2 rfl ?_;refine TS.y rfl (Yv.am 0 rfl rfl rfl rfl) ?_;refine TS.run 3 rfl ?_;refine TS.eff ?_;refine TSo.aD rfl (Wt.some rfl rfl rfl rfl) rfl rfl (Ew.af rfl rfl rfl (fun w hw=>zfv _ w (hw.fr (i:=1) rfl) p vp_0 cp_0 hp_0 vp_1 hp_1 vp_2 hp_2 vp_3 hp_3 d vd cd hd s c (-1))) ?_;rintro _ _ ⟨rfl,rfl⟩;refine ⟨(fun w hw=>hw.sub Sx),?_⟩;refine TS.eff ?_;refine TSo.aD rfl (Wt.some rfl rfl rfl rfl) rfl rfl (Ew.af rfl rfl rfl (fun w hw=>zeT _ w (hw.fr (i:=1) rfl) p vp_0 cp_0 hp_0 vp_1 hp_1 vp_2 hp_2 vp_3 hp_3 s c (zbk p d s c (-1)))) ?_;rintro _ _ ⟨rfl,rfl⟩;refine ⟨(fun w hw=>hw.sub Sx),?_⟩;refine TS.run 2 rfl ?_;refine TS.gs rfl rfl rfl rfl (fun h2=>?_) (fun h2=>?_)
   ·refine TS.run 4 rfl ?_;refine TS.eff ?_;refine TSo.off rfl (Wt.not rfl rfl rfl rfl) rfl rfl ?_;refine TS.run 2 rfl ?_;refine TS.done ?_;exact K.aj () trivial (.b (zbN (zcp h1 h2)).symm .nil) (List.Sublist.refl _)
   ·refine TS.y rfl (Yv.am 0 rfl rfl rfl rfl) ?_;refine TS.run 3 rfl ?_;refine TS.eff ?_;refine TSo.aD rfl (Wt.some rfl rfl rfl rfl) rfl rfl (Ew.af rfl rfl rfl (fun w hw=>zfO _ w (hw.fr (i:=1) rfl) p vp_0 cp_0 hp_0 vp_1 hp_1 vp_2 hp_2 vp_3 hp_3 d vd cd hd s c)) ?_;rintro _ _ ⟨rfl,rfl⟩;refine ⟨(fun w hw=>hw.sub Sx),?_⟩;refine TS.run 2 rfl ?_;refine TS.done ?_;exact K.aj () trivial (.b (or_f (zcp h1 h2)) .nil) (List.Sublist.refl _)
 ·rintro _ _;refine T.ret ?_;subst hk;exact K.ah rfl rfl (fun w' hw=>⟨rfl,hw.isBelow⟩)
theorem zms {l:List Int}{n:Int}:zbF l n=l.any fun k=>decide (k=n):=by
 unfold zbF;simp only [zax,Nat.sub_zero];rw [zdG (fun i=>decide (nth l i=n)) (fun i next _=>?_),zc6 (q:=fun k=>decide (k=n)),Bool.or_false]
 cases decide (nth l i=n) <;> rfl
def zcz (d:List GDomain)(s c:Int):Bool:=d.all fun x=>(decide (¬x.Station=s)||x.Channels.all fun k=>decide (k=c))
theorem ziu {d:List GDomain}{s c:Int}:zaO d s c=zcz d s c:=by
 unfold zaO zcz;simp only [zax,Nat.sub_zero];rw [zcB (fun i=>(decide (¬(nth d i).Station=s)||(nth d i).Channels.all fun k=>decide (k=c))) (fun i next _=>?_),zhs (l:=d) (q:=fun x=>(decide (¬x.Station=s)||x.Channels.all fun k=>decide (k=c))),Bool.and_true];rw [zcB (fun k=>decide (nth (nth d i).Channels k=c)) (fun k nx _=>?_),zhs (q:=fun k=>decide (k=c))]
 ·cases decide (¬(nth d i).Station=s) <;> rfl
 ·by_cases h:nth (nth d i).Channels k=c <;> simp [h]
theorem ze5 {a b c:Int}:zay a b c=decide (a≤b∧b≤c):=by
 unfold zay;by_cases h1:a≤b <;> by_cases h2:b≤c <;> simp [h1,h2]
def zgp (d:List GDomain)(s c:Int)(x:GPair):Bool:=(decide (x.A=s)&&decide (x.Low≤c∧c≤x.High)&&zcz d x.B (wI (c+x.Offset)))||(decide (x.B=s)&&decide (x.Low≤wI (c - x.Offset)∧wI (c - x.Offset)≤x.High)&&zcz d x.A (wI (c - x.Offset)))
theorem zk1 {p:GProblem}{d:List GDomain}{s c:Int}:zbs p d s c=p.Rules.Pairs.any (zgp d s c):=by
 unfold zbs;simp only [zax,Nat.sub_zero,ziu,ze5];rw [zdG (fun i=>zgp d s c (nth p.Rules.Pairs i)) (fun i next _=>?_),zc6 (q:=zgp d s c),Bool.or_false];unfold zgp;generalize (decide ((nth p.Rules.Pairs i).A=s)&&decide ((nth p.Rules.Pairs i).Low≤c∧c≤(nth p.Rules.Pairs i).High)&&zcz d (nth p.Rules.Pairs i).B (wI (c+(nth p.Rules.Pairs i).Offset)))=a
 cases a
 ·rw [cond_false,Bool.false_or];generalize (decide ((nth p.Rules.Pairs i).B=s)&&decide ((nth p.Rules.Pairs i).Low≤wI (c - (nth p.Rules.Pairs i).Offset)∧wI (c - (nth p.Rules.Pairs i).Offset)≤(nth p.Rules.Pairs i).High)&&zcz d (nth p.Rules.Pairs i).A (wI (c - (nth p.Rules.Pairs i).Offset)))=b
  cases b <;> rfl
 ·rfl
def loadC (d:List GDomain)(t c f:Int)(x:GLoad):Bool:=decide (x.To=t)&&decide (x.Low≤c∧c≤x.High)&&(decide (x.From=f)||zcz d x.From c)
def sumP (p:GProblem)(d:List GDomain)(t c f:Int):Int:=p.Rules.Loads.foldl (fun n x=>bif loadC d t c f x then wI (n+x.Weight) else n) 0
theorem zmB {p:GProblem}{d:List GDomain}{t c f:Int}:zbk p d t c f=sumP p d t c f:=by
 unfold zbk sumP;simp only [zax,Nat.sub_zero,ziu,ze5];rw [ziS (fun i n=>bif loadC d t c f (nth p.Rules.Loads i) then wI (n+(nth p.Rules.Loads i).Weight) else n) (fun i next n _=>?_),zdk (g:=fun n x=>bif loadC d t c f x then wI (n+x.Weight) else n)];unfold loadC;generalize (decide ((nth p.Rules.Loads i).To=t)&&decide ((nth p.Rules.Loads i).Low≤c∧c≤(nth p.Rules.Loads i).High)&&(decide ((nth p.Rules.Loads i).From=f)||zcz d (nth p.Rules.Loads i).From c))=a
 cases a <;> rfl
def ze0 (p:GProblem)(s c l:Int):Bool:=p.Rules.Caps.any fun x=>decide (x.Station=s)&&decide (x.Low≤c∧c≤x.High)&&decide (x.Max<l)
theorem zlx {p:GProblem}{s c l:Int}:zbq p s c l=ze0 p s c l:=by
 unfold zbq ze0;simp only [zax,Nat.sub_zero,ze5];rw [zdG (fun i=>decide ((nth p.Rules.Caps i).Station=s)&&decide ((nth p.Rules.Caps i).Low≤c∧c≤(nth p.Rules.Caps i).High)&&decide ((nth p.Rules.Caps i).Max<l)) (fun i next _=>?_),zc6 (l:=p.Rules.Caps) (q:=fun x=>decide (x.Station=s)&&decide (x.Low≤c∧c≤x.High)&&decide (x.Max<l)),Bool.or_false];generalize (decide ((nth p.Rules.Caps i).Station=s)&&decide ((nth p.Rules.Caps i).Low≤c∧c≤(nth p.Rules.Caps i).High)&&decide ((nth p.Rules.Caps i).Max<l))=a
 cases a <;> rfl
def loadR (p:GProblem)(d:List GDomain)(s c:Int)(x:GLoad):Bool:=decide (x.From=s)&&decide (x.Low≤c∧c≤x.High)&&zcz d x.To c&&ze0 p x.To c (sumP p d x.To c s)
theorem zlq {p:GProblem}{d:List GDomain}{s c:Int}:zbu p d s c=p.Rules.Loads.any (loadR p d s c):=by
 unfold zbu;simp only [zax,Nat.sub_zero,ziu,ze5,zlx,zmB];rw [zdG (fun i=>loadR p d s c (nth p.Rules.Loads i)) (fun i next _=>?_),zc6 (q:=loadR p d s c),Bool.or_false];unfold loadR;generalize (decide ((nth p.Rules.Loads i).From=s)&&decide ((nth p.Rules.Loads i).Low≤c∧c≤(nth p.Rules.Loads i).High)&&zcz d (nth p.Rules.Loads i).To c&&ze0 p (nth p.Rules.Loads i).To c (sumP p d (nth p.Rules.Loads i).To c s))=a
 cases a <;> rfl
def remP (p:GProblem)(d:List GDomain)(s c:Int):Bool:=p.Rules.Pairs.any (zgp d s c)||ze0 p s c (sumP p d s c (-1))||p.Rules.Loads.any (loadR p d s c)
theorem zg1 {p:GProblem}{d:List GDomain}{s c:Int}:zbj p d s c=remP p d s c:=by
 unfold zbj remP;rw [zk1,zlx,zmB,zlq]
def zcD (s c:Int)(x:GDomain):GDomain:=⟨x.Station,x.Channels.filter fun k=>decide (¬x.Station=s)||decide (¬k=c)⟩
theorem zj6 {d:List GDomain}{s c:Int}(hd:d.length≤100000)(hc:∀x∈d,x.Channels.length≤100000):zba d s c=some (d.map (zcD s c)):=by
 unfold zba;simp only [zax,Nat.sub_zero];refine (zd6 (fun i out=>out.length=i) (fun i out=>out++[zcD s c (nth d i)]) rfl (fun i out _ h=>by simp [h]) (fun i next out hi hl=>?_)).1.trans ?_
 ·have hci:=hc (nth d i) (by rw [zat hi];exact List.getElem_mem _);refine (zd6 (fun k (t:Int×List Int)=>t.2.length≤k) (fun k t=>(t.1,bif (decide (¬(nth d i).Station=s)||decide (¬nth (nth d i).Channels k=c)) then t.2++[nth (nth d i).Channels k] else t.2)) (by exact Nat.le_refl 0) (fun k t _ h=>?_) (fun k nx t hk ht=>?_)).1.trans ?_
  ·(try dsimp only)
   cases (decide (¬(nth d i).Station=s)||decide (¬nth (nth d i).Channels k=c)) <;> simp <;> omega
  ·(try dsimp only)
   cases (decide (¬(nth d i).Station=s)||decide (¬nth (nth d i).Channels k=c))
   ·rfl
   ·exact zaX (by simp only [room,List.length_append,List.length_singleton];omega)
  ·rw [zj9 (g:=fun t k=>bif (decide (¬(nth d i).Station=s)||decide (¬nth (nth d i).Channels k=c)) then t++[nth (nth d i).Channels k] else t),zdk (l:=(nth d i).Channels) (g:=fun t k=>bif (decide (¬(nth d i).Station=s)||decide (¬k=c)) then t++[k] else t),zje (g:=fun k=>k)];rw [zaX (by simp only [room,List.length_append,List.length_singleton];omega)];simp [zcD]
 ·rw [zdk (l:=d) (g:=fun out x=>out++[zcD s c x]),zgc];rfl
def zcj (s c:Int)(x:GDomain):GDomain:=⟨x.Station,bif decide (x.Station=s) then (bif x.Channels.any (fun k=>decide (k=c)) then [c] else []) else x.Channels⟩
theorem zj3 {d:List GDomain}{s c:Int}(hd:d.length≤100000)(hc:∀x∈d,x.Channels.length≤100000):zbE d s c=some (d.map (zcj s c)):=by
 unfold zbE;simp only [zax,Nat.sub_zero,zms];refine (zd6 (fun i out=>out.length=i) (fun i out=>out++[zcj s c (nth d i)]) rfl (fun i out _ h=>by simp [h]) (fun i next out hi hl=>?_)).1.trans ?_
 ·have hci:=hc (nth d i) (by rw [zat hi];exact List.getElem_mem _);rw [zaX (by simp only [room,List.nil_append];omega)]; (have hr:∀y:GDomain,room (out++[y]).length 32:=fun y=>by simp only [room,List.length_append,List.length_singleton];omega);simp only [zaX (hr _),zcj]
  cases decide ((nth d i).Station=s) <;> cases ((nth d i).Channels.any fun k=>decide (k=c)) <;> rfl
 ·rw [zdk (l:=d) (g:=fun out x=>out++[zcj s c x]),zgc];rfl
def za2 (fuel:Nat)(p:GProblem)(d:List GDomain):Option (List GDomain×Bool):=
 zax (fun (d_1:List GDomain)=>
  zax (fun (_:Unit)=>
   some (d_1,true))
  (fun k20=>
   zai (fun (i_22:Nat) (next21:Unit→Option (List GDomain×Bool)) (_:Unit)=>
    (bif decide ((((nth d_1 i_22).Channels).length:Int)=0) then
     some ([],false)
     else
     next21 ()))
   (fun (_:Unit)=>
    k20 ()) (d_1.length - 0) 0 ()))
 (fun k2=>
  zbd (fun (next5:(List GDomain×Bool)→Option (List GDomain×Bool)) (s5:List GDomain×Bool)=>
   (bif s5.2 then
    zbd (fun (next11:(List GDomain×Bool×Int)→Option (List GDomain×Bool)) (s11:List GDomain×Bool×Int)=>
     (bif decide (s11.2.2<(s11.1.length:Int)) then
      grd (0≤s11.2.2∧s11.2.2<(s11.1.length:Int)) <|
      zfC (fun (k_17:Nat) (next16:(List GDomain×Bool)→Option (List GDomain×Bool)) (s16:List GDomain×Bool)=>
       grd (0≤s11.2.2∧s11.2.2<(s16.1.length:Int)) <|
       grd (0≤(k_17:Int)∧(k_17:Int)<(((nth s16.1 s11.2.2.toNat).Channels).length:Int)) <|
       (bif (zbj p s16.1 ((nth s16.1 s11.2.2.toNat).Station) (nth ((nth s16.1 s11.2.2.toNat).Channels) k_17)) then
        (zba s16.1 ((nth s16.1 s11.2.2.toNat).Station) (nth ((nth s16.1 s11.2.2.toNat).Channels) k_17)).bind fun r51=>
        next16 (r51,true)
        else
        next16 (s16.1,s16.2)))
      (fun (s16:List GDomain×Bool)=>
       next11 (s16.1,s16.2,(s11.2.2+1))) (((nth s11.1 s11.2.2.toNat).Channels).length) (s11.1,s11.2.1)
      else
      next5 (s11.1,s11.2.1))) fuel (s5.1,false,0)
    else
    k2 s5.1)) fuel (d,true))
theorem zak {α:Type}[Inhabited α]{xs:List α}{k:Nat}(h:k<xs.length):nth xs k∈xs:=by rw [zat h];exact List.getElem_mem _
theorem zaK {α:Type}[Inhabited α]{xs:List α}{x:α}(h:x∈xs):∃k,k<xs.length∧nth xs k=x:=by
 obtain ⟨k,hk,rfl⟩:=List.mem_iff_getElem.1 h;exact ⟨k,hk,zat hk⟩
theorem zaL {α β:Type}[Inhabited α][Inhabited β]{f:α→β}{xs:List α}{i:Nat}(h:i<xs.length):nth (xs.map f) i=f (nth xs i):=za0 h
theorem zdg {α:Type}[Inhabited α]{a b:List α}(hl:a.length=b.length)(h:∀i,i<a.length→nth a i=nth b i):a=b:=by
 apply List.ext_getElem hl;intro i h1 h2;have:=h i h1
 rwa [zat h1,zat h2] at this
def SubD (a b:List GDomain):Prop:=a.length=b.length∧∀i,i<b.length→(nth a i).Station=(nth b i).Station∧∀c∈(nth a i).Channels,c∈(nth b i).Channels
theorem SubD.refl (a:List GDomain):SubD a a:=⟨rfl,fun _ _=>⟨rfl,fun _ h=>h⟩⟩
theorem SubD.trans {a b c:List GDomain}(h:SubD a b)(k:SubD b c):SubD a c:=⟨h.1.trans k.1,fun i hi=>⟨((h.2 i (by rw [k.1];exact hi)).1).trans (k.2 i hi).1,fun x hx=>(k.2 i hi).2 x ((h.2 i (by rw [k.1];exact hi)).2 x hx)⟩⟩
def WtP (p:GProblem):Prop:=p.Rules.Loads.length≤1024∧∀x∈p.Rules.Loads,0≤x.Weight∧x.Weight≤1073741824
section
variable {p:GProblem}{a b d:List GDomain}
theorem onlyP_iff {s c:Int}:zcz d s c=true↔∀x∈d,x.Station=s→∀k∈x.Channels,k=c:=by
 unfold zcz;simp only [List.all_eq_true,Bool.or_eq_true,decide_eq_true_eq];constructor
 ·intro h x hx hs k hk;rcases h x hx with h1|h1
  ·exact absurd hs h1
  ·exact h1 k hk
 ·intro h x hx;by_cases hs:x.Station=s
  ·exact .inr (h x hx hs)
  ·exact .inl hs
theorem zcM (h:SubD a b){s c:Int}(ho:zcz b s c=true):zcz a s c=true:=by
 rw [onlyP_iff] at ho ⊢;intro x hx hs k hk;obtain ⟨i,hi,rfl⟩:=zaK hx;have h2:=h.2 i (by rw [←h.1];exact hi);exact ho (nth b i) (zak (by rw [←h.1];exact hi)) (by rw [←h2.1];exact hs) k (h2.2 k hk)
theorem zeQ {t c f : Int} (h : SubD a b) : ∀ (l : List GLoad), (∀ x ∈ l, 0 ≤ x.Weight ∧ x.Weight ≤ 1073741824) → ∀ n n' : Int, 0 ≤ n → n ≤ n' → n' + 1073741824 * (l.length : Int) ≤ 4611686018427387904 →
    l.foldl (fun n x => bif loadC b t c f x then wI (n + x.Weight) else n) n ≤ l.foldl (fun n x => bif loadC a t c f x then wI (n + x.Weight) else n) n'
  | [], _, n, n', _, hn, _ => hn
  | x :: r, hw, n, n', h0, hn, hb => by
    have h1 := hw x (by simp); simp only [List.length_cons] at hb; rw [List.foldl_cons, List.foldl_cons]; have e1 : wI (n + x.Weight) = n + x.Weight := zi6 (by omega); have e2 : wI (n' + x.Weight) = n' + x.Weight := zi6 (by omega); rw [e1, e2]
    have hc : loadC b t c f x = true → loadC a t c f x = true := by
      unfold loadC; simp only [Bool.and_eq_true, Bool.or_eq_true]; rintro ⟨h3, h4⟩; exact ⟨h3, h4.imp id (zcM h)⟩
    refine zeQ h r (fun y hy => hw y (by simp [hy])) _ _ ?_ ?_ ?_
    · cases loadC b t c f x <;> simp <;> omega
    · cases hb' : loadC b t c f x
      · cases loadC a t c f x <;> simp <;> omega
      · rw [hc hb']; simp; omega
    · cases loadC a t c f x <;> simp <;> omega
theorem zhj (hp:WtP p)(h:SubD a b){t c f:Int}:sumP p b t c f≤sumP p a t c f:=by
 unfold sumP;have:=hp.1;exact zeQ h _ hp.2 0 0 (by omega) (by omega) (by omega)
theorem zf7 {s c l l':Int}(hl:l≤l')(h:ze0 p s c l=true):ze0 p s c l'=true:=by
 unfold ze0 at h ⊢;rw [List.any_eq_true] at h ⊢;obtain ⟨x,hx,h⟩:=h;refine ⟨x,hx,?_⟩;simp only [Bool.and_eq_true,decide_eq_true_eq] at h ⊢;exact ⟨h.1,by omega⟩
theorem zfi (hp:WtP p)(h:SubD a b){s c:Int}(hr:remP p b s c=true):remP p a s c=true:=by
 unfold remP at hr ⊢;simp only [Bool.or_eq_true,List.any_eq_true] at hr ⊢;rcases hr with (⟨x,hx,hr⟩|hr)|⟨x,hx,hr⟩
 ·refine .inl (.inl ⟨x,hx,?_⟩);unfold zgp at hr ⊢;simp only [Bool.or_eq_true,Bool.and_eq_true] at hr ⊢;exact hr.imp (fun q=>⟨q.1,zcM h q.2⟩) (fun q=>⟨q.1,zcM h q.2⟩)
 ·exact .inl (.inr (zf7 (zhj hp h) hr))
 ·refine .inr ⟨x,hx,?_⟩;unfold loadR at hr ⊢;simp only [Bool.and_eq_true] at hr ⊢;exact ⟨⟨hr.1.1,zcM h hr.1.2⟩,zf7 (zhj hp h) hr.2⟩
structure ClosedD (p:GProblem) (d:List GDomain):Prop where
 ne:∀x∈d,x.Channels≠[]
 calm:∀x∈d,∀c∈x.Channels,remP p d x.Station c=false
def OrdD (a b:List GDomain):Prop:=∀i,i<b.length→(nth a i).Channels.Sublist (nth b i).Channels
def PropD (p:GProblem)(d:List GDomain)(r:List GDomain×Bool):Prop:=
 (r.2=true∧ClosedD p r.1∧(SubD r.1 d∧OrdD r.1 d)∧∀S,ClosedD p S→SubD S d→SubD S r.1)∨(r=([],false)∧∀S,ClosedD p S→¬SubD S d)
def zj8 (R:List GDomain→Int→Int→Bool)(d:List GDomain):Prop:=∀x∈d,∀c∈x.Channels,R d x.Station c=false
def MonoR (R:List GDomain→Int→Int→Bool):Prop:=∀a b s c,SubD a b→R b s c=true→R a s c=true
theorem zi9 {R:List GDomain→Int→Int→Bool}(hp:MonoR R){S:List GDomain}(hS:zj8 R S)(h:SubD S d){s c:Int}(hr:R d s c=true):SubD S (d.map (zcD s c)):=by
 refine ⟨by rw [h.1,List.length_map],fun i hi=>?_⟩;rw [List.length_map] at hi;rw [zaL hi];have h2:=h.2 i hi;refine ⟨h2.1,fun k hk=>?_⟩;unfold zcD;rw [List.mem_filter];refine ⟨h2.2 k hk,?_⟩;simp only [Bool.or_eq_true,decide_eq_true_eq];by_cases hs:(nth d i).Station=s
 ·refine .inr fun hkc=>?_;subst hkc;have hm:=zak (show i<S.length by rw [h.1];exact hi);have:=hS _ hm k hk;rw [h2.1,hs,hp _ _ _ _ h hr] at this
  cases this
 ·exact .inl hs
theorem drop_sub {s c:Int}:SubD (d.map (zcD s c)) d:=by
 refine ⟨List.length_map _,fun i hi=>?_⟩;rw [zaL hi];exact ⟨rfl,fun k hk=>(List.mem_filter.1 hk).1⟩
def totG (d:List GDomain):Nat:=(d.map fun x=>x.Channels.length).sum
theorem zjo:∀(d:List GDomain) (f:GDomain→GDomain),(∀x∈d,(f x).Channels.length≤x.Channels.length)→totG (d.map f)≤totG d
 | [],_,_=>Nat.le_refl _
 |x :: r,f,h=>by
  have:=zjo r f (fun y hy=>h y (by simp [hy]));have h1:=h x (by simp);simp only [totG,List.map_cons,List.sum_cons] at this ⊢;omega
theorem zkx:∀(d:List GDomain) (f:GDomain→GDomain),(∀x∈d,(f x).Channels.length≤x.Channels.length)→(∃x∈d,(f x).Channels.length<x.Channels.length)→totG (d.map f)<totG d
 |x :: r,f,h,he=>by
  have h1:=h x (by simp);obtain ⟨y,hy,hlt⟩:=he;rcases List.mem_cons.1 hy with rfl|hy
  ·have:=zjo r f (fun z hz=>h z (by simp [hz]));simp only [totG,List.map_cons,List.sum_cons] at this ⊢;omega
  ·have:=zkx r f (fun z hz=>h z (by simp [hz])) ⟨y,hy,hlt⟩;simp only [totG,List.map_cons,List.sum_cons] at this ⊢;omega
theorem zgd {α:Type}{q:α→Bool}:∀ {l:List α} {x:α},x∈l→q x=false→(l.filter q).length<l.length
 |y :: r,x,hx,hq=>by
  rcases List.mem_cons.1 hx with rfl|hx
  ·rw [List.filter_cons,hq];have:=List.length_filter_le q r;simp;omega
  ·have:=zgd hx hq;rw [List.filter_cons];split <;> simp only [List.length_cons] <;> omega
theorem zkG {s c:Int}{i:Nat}(hi:i<d.length)(hs:(nth d i).Station=s)(hc:c∈(nth d i).Channels):totG (d.map (zcD s c))<totG d:=
 zkx d _ (fun x _=>List.length_filter_le _ _) ⟨nth d i,zak hi,zgd hc (by simp [hs])⟩
structure Bd (d:List GDomain):Prop where
 len:d.length≤100000
 ch:∀x∈d,x.Channels.length≤100000∧x.Channels.Nodup
theorem Bd.drop (h:Bd d){s c:Int}:Bd (d.map (zcD s c)):=by
 refine ⟨by rw [List.length_map];exact h.len,fun x hx=>?_⟩;obtain ⟨y,hy,rfl⟩:=List.mem_map.1 hx;exact ⟨Nat.le_trans (List.length_filter_le _ _) (h.ch y hy).1,(h.ch y hy).2.filter _⟩
theorem ziW {s c:Int}{i k:Nat}(hb:Bd d)(hi:i<d.length)(hk:k<(nth d i).Channels.length)(hc:nth (nth d i).Channels k=c):k≤(nth (d.map (zcD s c)) i).Channels.length:=by
 rw [zaL hi];unfold zcD;have hn:=(hb.ch _ (zak hi)).2;have e:(nth d i).Channels=(nth d i).Channels.take k++(nth d i).Channels.drop k:=(List.take_append_drop k _).symm
 have hf:((nth d i).Channels.take k).filter (fun q=>decide (¬(nth d i).Station=s)||decide (¬q=c))=(nth d i).Channels.take k:=by
  rw [List.filter_eq_self];intro q hq;simp only [Bool.or_eq_true,decide_eq_true_eq];refine .inr fun hqc=>?_;obtain ⟨j,hj,rfl⟩:=List.mem_iff_getElem.1 hq;simp only [List.length_take] at hj;rw [List.getElem_take] at hqc;rw [zat hk] at hc;have:=(List.getElem_inj (h₀:=by omega) (h₁:=hk) hn).1 (hqc.trans hc.symm);omega
 show k≤((nth d i).Channels.filter _).length
 rw [e,List.filter_append,hf,List.length_append,List.length_take];omega
structure InvR (R:List GDomain→Int→Int→Bool) (d0 d:List GDomain):Prop where
 bd:Bd d
 sub:SubD d d0
 ord:OrdD d d0
 sup:∀S,zj8 R S→SubD S d0→SubD S d
theorem InvR.step {R:List GDomain→Int→Int→Bool}{d0:List GDomain}(hp:MonoR R)(h:InvR R d0 d){s c:Int}(hr:R d s c=true):InvR R d0 (d.map (zcD s c)):=
 ⟨h.bd.drop,drop_sub.trans h.sub,fun i hi=>by
  rw [zaL (by rw [h.sub.1];exact hi)]
  exact (List.filter_sublist).trans (h.ord i hi),fun S hS hs=>zi9 hp hS (h.sup S hS hs) hr⟩
theorem zjY {R : List GDomain → Int → Int → Bool} {ρ : Type} {fuel : Nat} {d0 : List GDomain} {k2 : List GDomain → Option ρ} (post : Option ρ → Prop) (hp : MonoR R) (hb : Bd d0) (hf1 : d0.length < fuel) (hf2 : totG d0 + 1 < fuel) (hend : ∀ d, InvR R d0 d → zj8 R d → post (k2 d)) :
    post (zbd (fun (next5 : (List GDomain × Bool) → Option ρ) (s5 : List GDomain × Bool) =>
      (bif s5.2 then
        zbd (fun (next11 : (List GDomain × Bool × Int) → Option ρ) (s11 : List GDomain × Bool × Int) =>
          (bif decide (s11.2.2 < (s11.1.length : Int)) then
            grd (0 ≤ s11.2.2 ∧ s11.2.2 < (s11.1.length : Int)) <|
            zfC (fun (k_17 : Nat) (next16 : (List GDomain × Bool) → Option ρ) (s16 : List GDomain × Bool) =>
              grd (0 ≤ s11.2.2 ∧ s11.2.2 < (s16.1.length : Int)) <|
              grd (0 ≤ (k_17 : Int) ∧ (k_17 : Int) < (((nth s16.1 s11.2.2.toNat).Channels).length : Int)) <|
              (bif (R s16.1 ((nth s16.1 s11.2.2.toNat).Station) (nth ((nth s16.1 s11.2.2.toNat).Channels) k_17)) then
                (zba s16.1 ((nth s16.1 s11.2.2.toNat).Station) (nth ((nth s16.1 s11.2.2.toNat).Channels) k_17)).bind fun r51 =>
                next16 (r51, true)
                else
                next16 (s16.1, s16.2)))
            (fun (s16 : List GDomain × Bool) =>
              next11 (s16.1, s16.2, (s11.2.2 + 1))) (((nth s11.1 s11.2.2.toNat).Channels).length) (s11.1, s11.2.1)
            else
            next5 (s11.1, s11.2.1))) fuel (s5.1, false, 0)
        else
        k2 s5.1)) fuel (d0, true)) := by
  refine zck (σ := List GDomain × Bool) (I := fun s => InvR R d0 s.1 ∧ (s.2 = false → zj8 R s.1)) (μ := fun s => totG s.1 + (bif s.2 then 1 else 0)) (post := post) ⟨⟨hb, .refl _, fun _ _ => List.Sublist.refl _, fun S _ h => h⟩, fun h => by cases h⟩ hf2 ?_; rintro ⟨d, again⟩ next ⟨hI, hA⟩ hn; dsimp only at hI hA hn ⊢
  cases again with
  | false =>
    rw [cond_false]; exact hend d hI (hA rfl)
  | true =>
    rw [cond_true]
    -- one sweep over the stations
    refine zck (σ := List GDomain × Bool × Int) (I := fun s => InvR R d0 s.1 ∧ 0 ≤ s.2.2 ∧ s.2.2 ≤ s.1.length ∧ s.1.length = d.length ∧ (s.2.1 = false → s.1 = d ∧ ∀ j : Nat, (j : Int) < s.2.2 → ∀ c ∈ (nth d j).Channels, R d (nth d j).Station c = false) ∧ (s.2.1 = true → totG s.1 < totG d)) (μ := fun s => (s.1.length - s.2.2).toNat) (post := post) ⟨hI, by simp, by simp, rfl, fun _ => ⟨rfl, fun j hj => absurd hj (by simp)⟩, fun h => by cases h⟩ (by simp only [Int.sub_zero, Int.toNat_natCast]; rw [hI.sub.1]; exact hf1) ?_; rintro ⟨d1, ag, i⟩ next1 ⟨hI1, h0, h1, hl, hF, hT⟩ hn1; dsimp only at hI1 h0 h1 hl hF hT hn1 ⊢; by_cases hi : i < (d1.length : Int)
    · rw [decide_eq_true hi, cond_true, zaX ⟨h0, hi⟩]; (have hin : i.toNat < d1.length := by omega); refine zkd (σ := List GDomain × Bool) (I := fun m s => InvR R d0 s.1 ∧ s.1.length = d.length ∧ m ≤ (nth s.1 i.toNat).Channels.length ∧ (s.2 = false → s.1 = d ∧ (∀ j : Nat, (j : Int) < i → ∀ c ∈ (nth d j).Channels, R d (nth d j).Station c = false) ∧ ∀ k, m ≤ k → k < (nth d i.toNat).Channels.length → R d (nth d i.toNat).Station (nth (nth d i.toNat).Channels k) = false) ∧ (s.2 = true → totG s.1 < totG d)) (post := post) ?_ ?_ ?_
      · dsimp only; refine ⟨hI1, hl, Nat.le_refl _, fun h => ?_, hT⟩; obtain ⟨h2, h3⟩ := hF h; subst h2; exact ⟨rfl, h3, fun k h4 h5 => absurd h5 (by omega)⟩
      · rintro ⟨d2, ag2⟩ ⟨g1, g2, _, g4, g5⟩; dsimp only at g1 g2 g4 g5 ⊢; refine hn1 _ ⟨g1, by dsimp only; omega, by dsimp only; omega, g2, fun h => ?_, g5⟩ (by dsimp only; omega); dsimp only at h; obtain ⟨h2, h3, h4⟩ := g4 h; refine ⟨h2, fun j hj c hc => ?_⟩; dsimp only at hj; by_cases hji : (j : Int) < i
        · exact h3 j hji c hc
        · (obtain rfl : j = i.toNat := by omega); obtain ⟨k, hk, rfl⟩ := zaK hc; exact h4 k (Nat.zero_le _) hk
      · rintro k ⟨d2, ag2⟩ nx hk ⟨g1, g2, g3, g4, g5⟩ hnx; dsimp only at g1 g2 g3 g4 g5 hnx ⊢; (have hid : i.toNat < d2.length := by omega); rw [zaX ⟨h0, by omega⟩, zaX ⟨by omega, by omega⟩]
        cases hr : R d2 (nth d2 i.toNat).Station (nth (nth d2 i.toNat).Channels k) with
        | true =>
          rw [cond_true, zj6 g1.bd.len (fun x hx => (g1.bd.ch x hx).1), Option.bind_some]; refine hnx _ ⟨g1.step hp hr, by dsimp only; rw [List.length_map]; exact g2, ziW g1.bd hid (by omega) rfl, (fun h => by cases h), fun _ => ?_⟩; dsimp only; have h6 := zkG hid rfl (zak (show k < (nth d2 i.toNat).Channels.length by omega))
          cases ag2 with
          | true => have := g5 rfl; omega
          | false => obtain ⟨h7, _⟩ := g4 rfl; subst h7; exact h6
        | false =>
          rw [cond_false]; refine hnx _ ⟨g1, g2, by dsimp only; omega, fun h => ?_, g5⟩; dsimp only at h ⊢; obtain ⟨h7, h8, h9⟩ := g4 h; refine ⟨h7, h8, fun q h10 h11 => ?_⟩; rcases Nat.lt_or_ge k q with h12 | h12
          · exact h9 q h12 h11
          · (obtain rfl : q = k := by omega); subst h7; exact hr
    · rw [decide_eq_false hi, cond_false]; (have hil : i = d1.length := by omega); refine hn (d1, ag) ⟨hI1, fun h => ?_⟩ ?_
      · dsimp only at h ⊢; obtain ⟨h2, h3⟩ := hF h; subst h2; intro x hx c hc; obtain ⟨j, hj, rfl⟩ := zaK hx; exact h3 j (by omega) c hc
      · dsimp only
        cases ag with
        | true => have := hT rfl; simp only [cond_true]; omega
        | false => obtain ⟨h2, _⟩ := hF rfl; subst h2; simp only [cond_true, cond_false]; omega
theorem MonoR.rem (hp:WtP p):MonoR (remP p):=fun _ _ _ _ h hr=>zfi hp h hr
theorem zdY {fuel : Nat} {d0 : List GDomain} (hp : WtP p) (hb : Bd d0) (hf1 : d0.length < fuel) (hf2 : totG d0 + 1 < fuel) : ∃ r, za2 fuel p d0 = some r ∧ PropD p d0 r := by
  unfold za2; simp only [zax, Nat.sub_zero, zg1]; refine zjY (R := remP p) (k2 := fun d => zai (fun (i : Nat) (next : Unit → Option (List GDomain × Bool)) (_ : Unit) => bif decide ((((nth d i).Channels).length : Int) = 0) then some ([], false) else next ()) (fun (_ : Unit) => some (d, true)) d.length 0 ()) (fun o => ∃ r, o = some r ∧ PropD p d0 r) (.rem hp) hb hf1 hf2 fun d hI hA => ?_
  -- the end: is a domain empty?
  refine zaU (σ := Unit) (I := fun i _ => ∀ j, j < i → (nth d j).Channels ≠ []) (post := fun o => ∃ r, o = some r ∧ PropD p d0 r) (fun j hj => absurd hj (Nat.not_lt_zero j)) ?_ ?_
  · intro _ h; refine ⟨_, rfl, .inl ⟨rfl, ⟨fun x hx => ?_, hA⟩, ⟨hI.sub, hI.ord⟩, fun S hS => hI.sup S hS.calm⟩⟩; obtain ⟨i, hi, rfl⟩ := zaK hx; exact h i hi
  · intro i _ nx hi h hnx; by_cases he : (nth d i).Channels = []
    · rw [he]; refine ⟨_, rfl, .inr ⟨rfl, fun S hS hs => ?_⟩⟩; have h2 := hI.sup S hS.calm hs; have h3 := (h2.2 i hi).2; rw [he] at h3; have hm := zak (show i < S.length by rw [h2.1]; exact hi); apply hS.ne _ hm
      cases hc : (nth S i).Channels with
      | nil => rfl
      | cons c r => exact absurd (h3 c (by rw [hc]; simp)) (by simp)
    · have : ¬ ((nth d i).Channels.length : Int) = 0 := fun h0 => he (List.eq_nil_of_length_eq_zero (by omega)); rw [decide_eq_false this, cond_false]; refine hnx () (fun j hj => ?_); rcases Nat.lt_or_ge j i with h1 | h1
      · exact h j h1
      · rw [show j = i by omega]; exact he
end
theorem zmo (ds:List Dx):∀k j,0≤ixAt ds k j∧ixAt ds k j≤(k:Int)
 |0,j=>by simp [ixAt]
 |k+1,j=>by
  have:=zmo ds k j
  show 0≤(if j=(nth ds k).st.toNat then (k:Int)+1 else ixAt ds k j)∧(if j=(nth ds k).st.toNat then (k:Int)+1 else ixAt ds k j)≤((k+1:Nat):Int)
  split <;> omega
theorem TbOf.n {P:Pb}{Y:Tb}(h:TbOf P Y):Y.n=P.ds.length:=by unfold Tb.n;rw [h.st];simp
theorem TbOf.ixn {P:Pb}{Y:Tb}(h:TbOf P Y):∀j,0≤Y.ix j∧Y.ix j≤Y.n:=fun j=>by rw [h.ix,h.n];exact zmo _ _ _
theorem NewIs.is {P:Pb}{Y:Tb}{L:Ws}{c:Bool}{tp:Nat}{w0:World}(hG:P.Good)(h:NewIs P Y L c tp w0):Is Y P.left L c:=Is.of (h.tb.ok hG) (by rw [h.tb.n];simp [Pb.left]) h.post
theorem zjB {Y:Tb}{T L L':Ws}{c:Bool}{i:Nat}{g:BitVec 64}(hok:Y.Ok)(hi:i<Y.n)(h:Is Y T L false)(k:SPost Y (cutL L i g) L' c):Is Y (cutL T i g) L' c:=
 h.cut hok hi (Is.of hok (by unfold cutL;rw [List.length_set,h.len]) k)
structure Ac where
 kind:Int
 ch:Ch
deriving DecidableEq,Inhabited
def Ac.cells (a:Ac):List Value:=[.int .i64 a.kind, .int .i64 a.ch.st, .int .i64 a.ch.ch]
def Ac.bits (a:Ac):BitVec 64:=if a.kind=0 then ~~~(1#64 <<< a.ch.ch.toNat) else 1#64 <<< a.ch.ch.toNat
def actT (Y:Tb)(T:Ws)(a:Ac):Ws:=if (zaW Y false a.ch).2=0 then cutL T (zaW Y false a.ch).1.toNat a.bits else T
structure Fin (Y:Tb) (T L:Ws) (c:Bool):Prop where
 tlen:T.length=Y.n
 len:L.length=Y.n
 good:c=false→Is Y T L false
 bad:c=true→∀S,Closed Y S→¬Le' S T
section
variable {Y:Tb}{T L L':Ws}{c c':Bool}
theorem Is.fin (h:Is Y T L c):Fin Y T L c where
 tlen:=h.tlen
 len:=h.len
 good hc:=hc▸h
 bad hc S hS hle:=by
  obtain ⟨i,hi,h0⟩:=h.bad hc;apply hS.ne i hi;apply BitVec.eq_of_getLsbD_eq;intro j _
  cases hh:(nth S i).getLsbD j with
  |false=>rw [BitVec.getLsbD_zero]
  |true=>have:=h.best S hS hle i j hh;rw [h0,BitVec.getLsbD_zero] at this;cases this
theorem zkD {i:Nat}{g:BitVec 64}:Le' (cutL T i g) T:=fun a j hj=>by
 unfold cutL at hj;by_cases hi:i<T.length
 ·rw [zbY hi] at hj
  split at hj
  ·rename_i e;subst e;rw [BitVec.getLsbD_and,Bool.and_eq_true] at hj;exact hj.1
  ·exact hj
 ·rw [List.set_eq_of_length_le (by omega)] at hj;exact hj
theorem zlY {a:Ac}:Le' (actT Y T a) T:=by
 unfold actT;split
 ·exact zkD
 ·exact fun _ _ h=>h
theorem zk7 {a:Ac}:(actT Y T a).length=T.length:=by
 unfold actT cutL;split <;> simp
theorem Fin.skip {a:Ac}(h:Fin Y T L true):Fin Y (actT Y T a) L true:=
 ⟨by rw [zk7,h.tlen],h.len,(fun hh=>by cases hh),fun _ S hS hle=>h.bad rfl S hS (fun i j hj=>zlY i j (hle i j hj))⟩
theorem Fin.step {a:Ac}(hok:Y.Ok)(hix:∀j,0≤Y.ix j∧Y.ix j≤Y.n)(h:Fin Y T L false)(he:(zaW Y false a.ch).2=0)(hp:SPost Y (cutL L (zaW Y false a.ch).1.toNat a.bits) L' c'):Fin Y (actT Y T a) L' c':=by
 unfold actT;rw [if_pos he];have:=zcT hix he;exact (zjB hok (by omega) (h.good rfl) hp).fin
theorem Fin.same (h:Fin Y T L c)(h':Fin Y T L' c'):c=c'∧(c=false→L=L'):=by
 have hc:c=c':=by
  cases c with
  |true=>
   cases c' with
   |true=>rfl
   |false=>exact absurd (h'.good rfl).sub (h.bad rfl L' ((h'.good rfl).good rfl))
  |false=>
   cases c' with
   |false=>rfl
   |true=>exact absurd (h.good rfl).sub (h'.bad rfl L ((h.good rfl).good rfl))
 subst hc;refine ⟨rfl,fun hf=>?_⟩;have a:=h.good hf;have b:=h'.good hf;exact Le'.antisymm (b.best L (a.good rfl) a.sub) (a.best L' (b.good rfl) b.sub) (by rw [h.len,h'.len])
end
def Pr.er (x:Pr):GPair:=⟨x.a,x.b,x.off,x.lo,x.hi⟩
def Ld.er (x:Ld):GLoad:=⟨x.to,x.fr,x.wt,x.lo,x.hi⟩
def Cp.er (x:Cp):GCap:=⟨x.st,x.mx,x.lo,x.hi⟩
def Dx.er (x:Dx):GDomain:=⟨x.st,x.chs⟩
def Pb.er (P:Pb):GProblem:=⟨P.ds.map Dx.er,⟨P.ps.map Pr.er,P.ls.map Ld.er,P.cs.map Cp.er⟩⟩
def gd (Y:Tb)(L:Ws):List GDomain:=(List.range Y.n).map fun i=>⟨nth Y.st i,(chansN (nth L i)).map fun j:Nat=>(j:Int)⟩
theorem zbf {Y:Tb}{L:Ws}:(gd Y L).length=Y.n:=by simp [gd]
theorem zbK {Y:Tb}{L:Ws}{i:Nat}(h:i<Y.n):nth (gd Y L) i=⟨nth Y.st i,(chansN (nth L i)).map fun j:Nat=>(j:Int)⟩:=by
 rw [zat (by rw [zbf];exact h)];simp [gd]
theorem zgE {b:BitVec 64}(hb:b≠0#64){c:Int}(hc:c≠0):(∀j∈chansN b,(j:Int)=c)↔((zch b:Nat):Int)=c:=by
 have hz:=(zdC hb 0).1;constructor
 ·intro h;have h1:=h (ctz b) (chansN_mem.2 hz)
  have h2:b &&& (b - 1#64)=0#64:=by
   apply BitVec.eq_of_getLsbD_eq;intro j _;rw [zeO hb,BitVec.getLsbD_zero]
   cases hj:b.getLsbD j with
   |false=>rfl
   |true=>have:=h j (chansN_mem.2 hj);simp;omega
  unfold zch;rw [if_pos ⟨hb,h2⟩];exact h1
 ·intro h j hj;unfold zch at h
  split at h
  ·rename_i h2;have h3:=congrArg (fun v=>BitVec.getLsbD v j) h2.2;simp only [zeO hb,BitVec.getLsbD_zero,chansN_mem.1 hj,Bool.true_and,Bool.not_eq_false',decide_eq_true_eq] at h3;rw [h3];exact h
  ·exact absurd h.symm hc
theorem zeJ {α:Type}{p q:α→Bool}:∀ {l:List α},(∀x∈l,p x=q x)→l.any p=l.any q
 | [],_=>rfl
 |x :: r,h=>by rw [List.any_cons,List.any_cons,h x (by simp),zeJ (l:=r) (fun y hy=>h y (by simp [hy]))]
theorem zlG {P:Pb}(h:P.ok=true):P.ls.length≤1024:=by
 simp only [Pb.ok,Pb.rulesOk,Bool.and_eq_true,decide_eq_true_eq] at h;omega
section
variable {P:Pb}{Y:Tb}{L:Ws}
theorem TbOf.nth_st (hY:TbOf P Y){i:Nat}(hi:i<Y.n):nth Y.st i=(nth P.ds i).st:=by
 rw [hY.st];exact za0 (by rw [←hY.n];exact hi)
theorem zet (hG:P.Good)(hY:TbOf P Y){i j:Nat}(hi:i<Y.n)(hj:j<Y.n)(h:nth Y.st i=nth Y.st j):i=j:=by
 rw [hY.nth_st hi,hY.nth_st hj] at h;have hn:=hY.n;rcases Nat.lt_trichotomy i j with h1|h1|h1
 ·have:=hG.inc i j h1 (by omega);omega
 ·exact h1
 ·have:=hG.inc j i h1 (by omega);omega
theorem zd4 (hG:P.Good)(hY:TbOf P Y)(hne:∀i,i<Y.n→nth L i≠0#64){k:Nat}(hk:k<Y.n){c:Int}(hc:c≠0):zcz (gd Y L) (nth Y.st k) c=true↔((only L k:Nat):Int)=c:=by
 rw [onlyP_iff];unfold only;rw [←zgE (hne k hk) hc];constructor
 ·intro h j hj;exact h (nth (gd Y L) k) (zak (by rw [zbf];exact hk)) (by rw [zbK hk]) j (by rw [zbK hk];exact List.mem_map.2 ⟨j,hj,rfl⟩)
 ·intro h x hx hs q hq;obtain ⟨i,hi,rfl⟩:=zaK hx;rw [zbf] at hi;rw [zbK hi] at hs hq;obtain rfl:=zet hG hY hi hk hs;obtain ⟨j,hj,rfl⟩:=List.mem_map.1 hq;exact h j hj
theorem zhM (hG:P.Good)(hY:TbOf P Y){i:Nat}(hi:i<Y.n):P.ix (nth Y.st i)=(i:Int):=by
 rw [hY.nth_st hi];exact Pb.ix_of hG (by rw [←hY.n];exact hi)
theorem zk3 (hG:P.Good)(hY:TbOf P Y)(hne:∀i,i<Y.n→nth L i≠0#64){i j:Nat}(hi:i<Y.n)(hj:j<64):P.er.Rules.Pairs.any (zgp (gd Y L) (nth Y.st i) j)=(Y.ps i).any (zd7 L i j):=by
 have hn:=hY.n
 have key:∀x∈P.ps,((decide ((P.rp x).a=(i:Int))||decide ((P.rp x).b=(i:Int)))&&zd7 L i j (P.rp x))=zgp (gd Y L) (nth Y.st i) j x.er:=by
  intro x hx;obtain ⟨hok,⟨ia,hia,ha⟩,⟨ib,hib,hb⟩⟩:=hG.ps x hx;simp only [Pr.ok,rngB,inB,Bool.and_eq_true,decide_eq_true_eq] at hok; (have hsa:x.a=nth Y.st ia:=by rw [hY.nth_st (by omega)];exact ha); (have hsb:x.b=nth Y.st ib:=by rw [hY.nth_st (by omega)];exact hb); (have e1:(P.rp x).a=(ia:Int):=by unfold Pb.rp;dsimp only;rw [hsa,zhM hG hY (by omega)]); (have e2:(P.rp x).b=(ib:Int):=by unfold Pb.rp;dsimp only;rw [hsb,zhM hG hY (by omega)]);have e3:(P.rp x).off=x.off:=rfl;have e4:(P.rp x).lo=x.lo:=rfl;have e5:(P.rp x).hi=x.hi:=rfl;have ea:x.a=nth Y.st i↔ia=i:=⟨fun h=>zet hG hY (by omega) hi (hsa.symm.trans h),fun h=>by rw [hsa,h]⟩;have eb:x.b=nth Y.st i↔ib=i:=⟨fun h=>zet hG hY (by omega) hi (hsb.symm.trans h),fun h=>by rw [hsb,h]⟩;have w1:wI ((j:Int)+x.off)=(j:Int)+x.off:=zi6 (by omega);have w2:wI ((j:Int) - x.off)=(j:Int) - x.off:=zi6 (by omega);rw [Bool.eq_iff_iff];unfold zd7 zgp Pr.er;simp only [e1,e2,e3,e4,e5,w1,w2,Bool.and_eq_true,Bool.or_eq_true,decide_eq_true_eq,ea,eb,Int.toNat_natCast]; (have hab:ia≠ib:=fun h=>by subst h;omega);by_cases h1:ia=i
  ·subst h1;rw [if_pos rfl];simp only [decide_eq_true_eq];rw [hsb];constructor
   ·rintro ⟨_,h2,h3,h4,h5⟩;exact .inl ⟨⟨trivial,by omega,by omega⟩,(zd4 hG hY hne (by omega) (by omega)).2 (by omega)⟩
   ·rintro (⟨⟨_,h2⟩,h3⟩|⟨⟨h2,_⟩,_⟩)
    ·have:=(zd4 hG hY hne (k:=ib) (by omega) (by omega)).1 h3;exact ⟨.inl trivial,by omega,by omega,by omega,by omega⟩
    ·exact absurd h2.symm hab
  ·rw [if_neg (by omega)];simp only [decide_eq_true_eq];rw [hsa];constructor
   ·rintro ⟨h2,h3,h4,h5⟩;exact .inr ⟨⟨by omega,by omega,by omega⟩,(zd4 hG hY hne (by omega) (by omega)).2 (by omega)⟩
   ·rintro (⟨⟨h2,_⟩,_⟩|⟨⟨h2,h3⟩,h4⟩)
    ·exact absurd h2 h1
    ·have:=(zd4 hG hY hne (k:=ia) (by omega) (by omega)).1 h4;exact ⟨.inr (by omega),by omega,by omega,by omega⟩
 show (P.ps.map Pr.er).any _=_
 rw [hY.ps];unfold Pb.psA;rw [List.take_length,List.any_map,List.any_filter,List.any_map];exact zeJ fun x hx=>(key x hx).symm
theorem zhT (hG:P.Good)(hY:TbOf P Y){x:Ld}(hx:x∈P.ls):∃a b,a<Y.n∧b<Y.n∧x.to=nth Y.st a∧x.fr=nth Y.st b∧(P.rl x).to=(a:Int)∧(P.rl x).fr=(b:Int)∧0≤x.fr∧1≤x.wt∧x.wt≤1073741824∧2≤x.lo:=by
 have hn:=hY.n;obtain ⟨hok,⟨ia,hia,ha⟩,⟨ib,hib,hb⟩⟩:=hG.ls x hx;simp only [Ld.ok,rngB,inB,Bool.and_eq_true,decide_eq_true_eq] at hok; (have hsa:x.to=nth Y.st ia:=by rw [hY.nth_st (by omega)];exact ha); (have hsb:x.fr=nth Y.st ib:=by rw [hY.nth_st (by omega)];exact hb);refine ⟨ia,ib,by omega,by omega,hsa,hsb,?_,?_,by omega,by omega,by omega,by omega⟩
 ·unfold Pb.rl;dsimp only;rw [hsa,zhM hG hY (by omega)]
 ·unfold Pb.rl;dsimp only;rw [hsb,zhM hG hY (by omega)]
theorem zh3 (hG : P.Good) (hY : TbOf P Y) (hne : ∀ i, i < Y.n → nth L i ≠ 0#64) {t j : Nat} (ht : t < Y.n) (hj0 : j ≠ 0) : ∀ (l : List Ld), (∀ x ∈ l, x ∈ P.ls) → ∀ (f : Nat → Int), 0 ≤ f j → f j + 1073741824 * (l.length : Int) ≤ 4611686018427387904 →
    (l.map Ld.er).foldl (fun n x => bif loadC (gd Y L) (nth Y.st t) j (-1) x then wI (n + x.Weight) else n) (f j) = ((l.map P.rl).filter fun x => decide (x.to = (t : Int))).foldl (za6 L) f j
  | [], _, f, _, _ => rfl
  | x :: r, hl, f, h0, hb => by
    obtain ⟨a, b, ha, hbn, hsa, hsb, e1, e2, h1, h2, h3, h4⟩ := zhT hG hY (hl x (by simp)); simp only [List.length_cons] at hb; have hw : wI (f j + x.wt) = f j + x.wt := zi6 (by omega); have hto : x.to = nth Y.st t ↔ a = t := ⟨fun h => zet hG hY ha ht (hsa.symm.trans h), fun h => by rw [hsa, h]⟩
    have hon : zcz (gd Y L) x.fr j = true ↔ only L b = j := by
      rw [hsb, zd4 hG hY hne hbn (by omega)]; omega
    rw [List.map_cons, List.map_cons, List.foldl_cons, List.filter_cons]
    have hc : loadC (gd Y L) (nth Y.st t) j (-1) x.er = decide (a = t ∧ (x.lo ≤ (j : Int) ∧ (j : Int) ≤ x.hi) ∧ only L b = j) := by
      rw [Bool.eq_iff_iff]; unfold loadC Ld.er; simp only [Bool.and_eq_true, Bool.or_eq_true, decide_eq_true_eq, hto, hon]; constructor
      · rintro ⟨⟨h5, h6⟩, h7 | h7⟩
        · omega
        · exact ⟨h5, h6, h7⟩
      · rintro ⟨h5, h6, h7⟩; exact ⟨⟨h5, h6⟩, .inr h7⟩
    rw [hc]; by_cases hat : a = t
    · subst hat; rw [if_pos (by rw [e1]; simp), List.foldl_cons]
      have hs : za6 L f (P.rl x) j = bif decide (a = a ∧ (x.lo ≤ (j : Int) ∧ (j : Int) ≤ x.hi) ∧ only L b = j) then wI (f j + x.er.Weight) else f j := by
        show (if x.lo ≤ (only L (P.rl x).fr.toNat : Int) ∧ (only L (P.rl x).fr.toNat : Int) ≤ x.hi ∧ only L (P.rl x).fr.toNat = j then f j + x.wt else f j) = _
        rw [e2, Int.toNat_natCast]; by_cases h5 : (x.lo ≤ (j : Int) ∧ (j : Int) ≤ x.hi) ∧ only L b = j
        · rw [if_pos ⟨by rw [h5.2]; omega, by rw [h5.2]; omega, h5.2⟩, decide_eq_true ⟨rfl, h5⟩, cond_true]; exact hw.symm
        · rw [if_neg (fun h6 => h5 ⟨by rw [← h6.2.2]; omega, h6.2.2⟩), decide_eq_false (fun h6 => h5 h6.2), cond_false]
      rw [← hs]; refine zh3 hG hY hne ht hj0 r (fun y hy => hl y (by simp [hy])) (za6 L f (P.rl x)) ?_ ?_
      · rw [hs]; cases decide (a = a ∧ (x.lo ≤ (j : Int) ∧ (j : Int) ≤ x.hi) ∧ only L b = j)
        · exact h0
        · show 0 ≤ wI (f j + x.wt); rw [hw]; omega
      · rw [hs]; cases decide (a = a ∧ (x.lo ≤ (j : Int) ∧ (j : Int) ≤ x.hi) ∧ only L b = j)
        · rw [cond_false]; omega
        · show wI (f j + x.wt) + _ ≤ _; rw [hw]; omega
    · rw [if_neg (by rw [e1]; simp; omega), decide_eq_false (fun h => hat h.1), cond_false]; exact zh3 hG hY hne ht hj0 r (fun y hy => hl y (by simp [hy])) f h0 (by omega)
theorem zjD (hG : P.Good) (hY : TbOf P Y) (hne : ∀ i, i < Y.n → nth L i ≠ 0#64) {t i j : Nat} (ht : t < Y.n) (hi : i < Y.n) (hj0 : j ≠ 0) : ∀ (l : List Ld), (∀ x ∈ l, x ∈ P.ls) → ∀ (n : Int), 0 ≤ n → n + 1073741824 * (l.length : Int) ≤ 4611686018427387904 →
    (l.map Ld.er).foldl (fun n x => bif loadC (gd Y L) (nth Y.st t) j (nth Y.st i) x then wI (n + x.Weight) else n) n = ((l.map P.rl).filter fun x => decide (x.to = (t : Int))).foldl (zbx L i j) n
  | [], _, n, _, _ => rfl
  | x :: r, hl, n, h0, hb => by
    obtain ⟨a, b, ha, hbn, hsa, hsb, e1, e2, h1, h2, h3, h4⟩ := zhT hG hY (hl x (by simp)); simp only [List.length_cons] at hb; have hw : wI (n + x.wt) = n + x.wt := zi6 (by omega); have hto : x.to = nth Y.st t ↔ a = t := ⟨fun h => zet hG hY ha ht (hsa.symm.trans h), fun h => by rw [hsa, h]⟩; have hfr : x.fr = nth Y.st i ↔ b = i := ⟨fun h => zet hG hY hbn hi (hsb.symm.trans h), fun h => by rw [hsb, h]⟩
    have hon : zcz (gd Y L) x.fr j = true ↔ only L b = j := by
      rw [hsb, zd4 hG hY hne hbn (by omega)]; omega
    rw [List.map_cons, List.map_cons, List.foldl_cons, List.filter_cons]
    have hc : loadC (gd Y L) (nth Y.st t) j (nth Y.st i) x.er = decide (a = t ∧ (x.lo ≤ (j : Int) ∧ (j : Int) ≤ x.hi) ∧ (b = i ∨ only L b = j)) := by
      rw [Bool.eq_iff_iff]; unfold loadC Ld.er; simp only [Bool.and_eq_true, Bool.or_eq_true, decide_eq_true_eq, hto, hon, hfr, and_assoc]
    rw [hc]; by_cases hat : a = t
    · subst hat; rw [if_pos (by rw [e1]; simp), List.foldl_cons]
      have hs : zbx L i j n (P.rl x) = bif decide (a = a ∧ (x.lo ≤ (j : Int) ∧ (j : Int) ≤ x.hi) ∧ (b = i ∨ only L b = j)) then wI (n + x.er.Weight) else n := by
        show (if (x.lo ≤ (j : Int) ∧ (j : Int) ≤ x.hi) ∧ ((P.rl x).fr = (i : Int) ∨ only L (P.rl x).fr.toNat = j) then n + x.wt else n) = _
        rw [e2, Int.toNat_natCast]; by_cases h5 : (x.lo ≤ (j : Int) ∧ (j : Int) ≤ x.hi) ∧ (b = i ∨ only L b = j)
        · rw [if_pos ⟨h5.1, h5.2.imp (fun h => by omega) id⟩, decide_eq_true ⟨rfl, h5⟩, cond_true]; exact hw.symm
        · rw [if_neg (fun h6 => h5 ⟨h6.1, h6.2.imp (fun h => by omega) id⟩), decide_eq_false (fun h6 => h5 h6.2), cond_false]
      rw [← hs]; refine zjD hG hY hne ht hi hj0 r (fun y hy => hl y (by simp [hy])) _ ?_ ?_
      · rw [hs]; cases decide (a = a ∧ (x.lo ≤ (j : Int) ∧ (j : Int) ≤ x.hi) ∧ (b = i ∨ only L b = j))
        · exact h0
        · show 0 ≤ wI (n + x.wt); rw [hw]; omega
      · rw [hs]; cases decide (a = a ∧ (x.lo ≤ (j : Int) ∧ (j : Int) ≤ x.hi) ∧ (b = i ∨ only L b = j))
        · rw [cond_false]; omega
        · show wI (n + x.wt) + _ ≤ _; rw [hw]; omega
    · rw [if_neg (by rw [e1]; simp; omega), decide_eq_false (fun h => hat h.1), cond_false]; exact zjD hG hY hne ht hi hj0 r (fun y hy => hl y (by simp [hy])) n h0 (by omega)
theorem zjF (hG:P.Good)(hY:TbOf P Y){t j:Nat}(ht:t<Y.n){l:Int}:ze0 P.er (nth Y.st t) j l=true↔∃x∈Y.cs t,(x.lo≤(j:Int)∧(j:Int)≤x.hi)∧x.mx<l:=by
 have hn:=hY.n;unfold ze0
 show (P.cs.map Cp.er).any _=true↔_
 rw [hY.cs,List.any_eq_true];unfold Pb.csA;rw [List.take_length];constructor
 ·rintro ⟨y,hy,h⟩;obtain ⟨x,hx,rfl⟩:=List.mem_map.1 hy;rw [Bool.and_eq_true,Bool.and_eq_true] at h;have h1:x.st=nth Y.st t:=of_decide_eq_true h.1.1;refine ⟨P.rc x,List.mem_filter.2 ⟨List.mem_map.2 ⟨x,hx,rfl⟩,?_⟩,of_decide_eq_true h.1.2,of_decide_eq_true h.2⟩;unfold Pb.rc;dsimp only;rw [h1,zhM hG hY ht];simp
 ·rintro ⟨y,hy,h⟩;obtain ⟨h1,h2⟩:=List.mem_filter.1 hy;obtain ⟨x,hx,rfl⟩:=List.mem_map.1 h1;refine ⟨x.er,List.mem_map.2 ⟨x,hx,rfl⟩,?_⟩;obtain ⟨_,k,hk,hs⟩:=hG.cs x hx; (have hs':x.st=nth Y.st k:=by rw [hY.nth_st (by omega)];exact hs);have h3:P.ix x.st=(t:Int):=of_decide_eq_true h2;rw [hs',zhM hG hY (by omega)] at h3; (have:k=t:=by omega);subst this;rw [Bool.and_eq_true,Bool.and_eq_true];exact ⟨⟨decide_eq_true hs',decide_eq_true h.1⟩,decide_eq_true h.2⟩
theorem zkg (hG:P.Good)(hok:P.ok=true)(hY:TbOf P Y)(hne:∀i,i<Y.n→nth L i≠0#64){t j:Nat}(ht:t<Y.n)(hj0:j≠0):sumP P.er (gd Y L) (nth Y.st t) j (-1)=zbb L (Y.inn t) j:=by
 have hl:=zlG hok;unfold sumP zbb;rw [hY.inn];unfold Pb.inA;rw [List.take_length];exact zh3 hG hY hne ht hj0 P.ls (fun _ h=>h) (fun _=>0) (Int.le_refl _) (by omega)
theorem zk6 (hG:P.Good)(hok:P.ok=true)(hY:TbOf P Y)(hne:∀i,i<Y.n→nth L i≠0#64){t i j:Nat}(ht:t<Y.n)(hi:i<Y.n)(hj0:j≠0):sumP P.er (gd Y L) (nth Y.st t) j (nth Y.st i)=zc7 L i j (Y.inn t):=by
 have hl:=zlG hok;unfold sumP zc7;rw [hY.inn];unfold Pb.inA;rw [List.take_length];exact zjD hG hY hne ht hi hj0 P.ls (fun _ h=>h) 0 (Int.le_refl _) (by omega)
theorem ziM (hok:P.ok=true)(hY:TbOf P Y)(hne:∀i,i<Y.n→nth L i≠0#64){i j:Nat}(hi:i<Y.n)(hj0:j≠0)(hj:j<64):remP P.er (gd Y L) (nth Y.st i) j=(zcN Y L i).getLsbD j:=by
 have hG:=Pb.good hok;have hYo:=hY.ok hG;unfold remP zcN;rw [BitVec.getLsbD_or,BitVec.getLsbD_or,zhE hj,zit hYo hi hj,zg3 hj,zk3 hG hY hne hi hj]
 congr 1
 ·congr 1
  rw [Bool.eq_iff_iff,zkg hG hok hY hne hi hj0,zjF hG hY hi,List.any_eq_true];simp only [decide_eq_true_eq,and_assoc]
 ·have key:∀x∈P.ls,(decide ((P.rl x).fr=(i:Int))&&zd5 Y L i j (P.rl x))=loadR P.er (gd Y L) (nth Y.st i) j x.er:=by
   intro x hx;obtain ⟨a,b,ha,hbn,hsa,hsb,e1,e2,h1,h2,h3,h4⟩:=zhT hG hY hx;have hfr:x.fr=nth Y.st i↔b=i:=⟨fun h=>zet hG hY hbn hi (hsb.symm.trans h),fun h=>by rw [hsb,h]⟩
   have hon:zcz (gd Y L) x.to j=true↔only L a=j:=by
    rw [hsa,zd4 hG hY hne ha (by omega)];omega
   have hov:ze0 P.er x.to j (sumP P.er (gd Y L) x.to j (nth Y.st i))=true↔∃c∈Y.cs a,(c.lo≤(j:Int)∧(j:Int)≤c.hi)∧c.mx<zc7 L i j (Y.inn a):=by
    rw [hsa,zk6 hG hok hY hne ha hi hj0,zjF hG hY ha]
   rw [Bool.eq_iff_iff];unfold loadR;simp only [Bool.and_eq_true,decide_eq_true_eq]
   show _↔((x.fr=nth Y.st i∧x.lo≤(j:Int)∧(j:Int)≤x.hi)∧zcz (gd Y L) x.to j=true)∧ze0 P.er x.to j (sumP P.er (gd Y L) x.to j (nth Y.st i))=true
   rw [hfr,hon,hov];unfold zd5;rw [decide_eq_true_eq,e1,e2,Int.toNat_natCast]
   show _∧x.lo≤(only L a:Int)∧(only L a:Int)≤x.hi∧_↔_
   constructor
   ·rintro ⟨h5,h6,h7,h8,h9⟩;exact ⟨⟨⟨by omega,by omega,by omega⟩,h8⟩,h9⟩
   ·rintro ⟨⟨⟨h5,h6,h7⟩,h8⟩,h9⟩;exact ⟨by omega,by omega,by omega,h8,h9⟩
  show (P.ls.map Ld.er).any _=_
  rw [hY.out];unfold Pb.ouA;rw [List.take_length,List.any_map,List.any_filter,List.any_map];exact zeJ fun x hx=>(key x hx).symm
end
theorem chansN_sub {b:BitVec 64}:(chansN b).Sublist (List.range' 0 64):=by unfold chansN;exact List.filter_sublist
theorem zdw (b:BitVec 64):(chansN b).Nodup:=List.Nodup.sublist chansN_sub List.nodup_range'
theorem zhc (b:BitVec 64):(chansN b).length≤64:=by have:=(chansN_sub (b:=b)).length_le;simpa using this
theorem zhi {b:BitVec 64}(h:b≠0#64):chansN b≠[]:=fun e=>by
 have:=chansN_mem.2 (zdC h 0).1;rw [e] at this;cases this
theorem zea {b c:BitVec 64}(h:∀j,c.getLsbD j=true→b.getLsbD j=true):chansN c=(chansN b).filter c.getLsbD:=by
 unfold chansN;rw [List.filter_filter];apply List.filter_congr;intro j _
 cases hc:c.getLsbD j with
 |false=>rfl
 |true=>rw [h j hc];rfl
theorem zct {α:Type}[DecidableEq α]:∀ {a l:List α},a.Sublist l→l.Nodup→a=l.filter fun x=>decide (x∈a)
 |a,[],h,_=>by cases h;rfl
 |a,y :: l,h,hn=>by
  rw [List.nodup_cons] at hn
  cases h with
  |cons _ h=>
   have:y∉a:=fun hy=>hn.1 (h.subset hy);rw [List.filter_cons,if_neg (by simpa using this)];exact zct h hn.2
  |cons_cons _ h=>
   rename_i a';rw [List.filter_cons,if_pos (by simp)]
   congr 1
   conv=>lhs;rw [zct h hn.2]
   apply List.filter_congr;intro x hx;have:x≠y:=fun e=>hn.1 (e▸hx);simp [this]
theorem zcO {α:Type}[DecidableEq α]{a b l:List α}(ha:a.Sublist l)(hb:b.Sublist l)(hn:l.Nodup)(h:∀x,x∈a↔x∈b):a=b:=by
 rw [zct ha hn,zct hb hn];apply List.filter_congr;intro x _;exact decide_eq_decide.2 (h x)
theorem mapI_mem {l:List Nat}{c:Int}:c∈l.map (fun j:Nat=>(j:Int))↔∃j∈l,c=(j:Int):=by
 rw [List.mem_map];exact ⟨fun ⟨j,h,e⟩=>⟨j,h,e.symm⟩,fun ⟨j,h,e⟩=>⟨j,h,e.symm⟩⟩
theorem zdJ {l:List Nat}(h:l.Nodup):(l.map fun j:Nat=>(j:Int)).Nodup:=List.Pairwise.map _ (fun a b h e=>h (by omega)) h
theorem zfm (j:Nat)(hj:j<64):∀(l:List Int) (m:BitVec 64),(l.foldl (fun m c=>m ||| 1#64 <<< c.toNat) m).getLsbD j=(m.getLsbD j||l.any fun c=>decide (c.toNat=j))
 | [],m=>by simp
 |x :: r,m=>by rw [List.foldl_cons,zfm j hj r,zgL hj,List.any_cons,Bool.or_assoc]
theorem zdL {l:List Int}{j:Nat}(hl:∀c∈l,0≤c∧c<64):(zb5 l).getLsbD j=true↔(j:Int)∈l:=by
 constructor
 ·intro h;have hj:=BitVec.lt_of_getLsbD h;unfold zb5 at h;rw [zfm j hj,BitVec.getLsbD_zero,Bool.false_or,List.any_eq_true] at h;obtain ⟨c,hc,h⟩:=h;have:=hl c hc;have h2:=of_decide_eq_true h;rw [show (j:Int)=c by omega];exact hc
 ·intro h;have:=hl _ h;unfold zb5;rw [zfm j (by omega),BitVec.getLsbD_zero,Bool.false_or,List.any_eq_true];exact ⟨_,h,by simp⟩
section
variable {P:Pb}{Y:Tb}{L T:Ws}{c:Bool}
def In51 (T:Ws):Prop:=∀i j,(nth T i).getLsbD j=true→2≤j∧j≤51
theorem In51.le {S:Ws}(h:In51 T)(k:Le' S T):In51 S:=fun i j hj=>h i j (k i j hj)
theorem zfx {i:Nat}(hi:i<Y.n){q:Int}:q∈(nth (gd Y L) i).Channels↔∃j:Nat,(nth L i).getLsbD j=true∧q=(j:Int):=by
 rw [zbK hi]
 show q∈(chansN (nth L i)).map (fun j:Nat=>(j:Int))↔_
 rw [mapI_mem];exact ⟨fun ⟨j,h,e⟩=>⟨j,chansN_mem.1 h,e⟩,fun ⟨j,h,e⟩=>⟨j,chansN_mem.2 h,e⟩⟩
theorem zkz {S:Ws}(h:Le' S T):SubD (gd Y S) (gd Y T):=by
 refine ⟨by rw [zbf,zbf],fun i hi=>?_⟩;rw [zbf] at hi;refine ⟨by rw [zbK hi,zbK hi],fun q hq=>?_⟩;obtain ⟨j,hj,rfl⟩:=(zfx hi).1 hq;exact (zfx hi).2 ⟨j,h i j hj,rfl⟩
theorem zmG (hn:Y.n≤512):Bd (gd Y L):=by
 refine ⟨by rw [zbf];omega,fun x hx=>?_⟩;obtain ⟨i,hi,rfl⟩:=zaK hx;rw [zbf] at hi;rw [zbK hi];refine ⟨?_,zdJ (zdw _)⟩;have:=zhc (nth L i);simp;omega
theorem zmc (hok:P.ok=true):WtP P.er:=by
 refine ⟨?_,fun x hx=>?_⟩
 ·show (P.ls.map Ld.er).length≤1024
  rw [List.length_map];exact zlG hok
 ·obtain ⟨y,hy,rfl⟩:=List.mem_map.1 hx;have hok':=((Pb.good hok).ls y hy).1;simp only [Ld.ok,rngB,inB,Bool.and_eq_true,decide_eq_true_eq] at hok'
  show 0≤y.wt∧y.wt≤1073741824
  omega
theorem zgW (hok:P.ok=true)(hY:TbOf P Y)(h:Closed Y L)(hb:In51 L):ClosedD P.er (gd Y L):=by
 refine ⟨fun x hx=>?_,fun x hx q hq=>?_⟩
 ·obtain ⟨i,hi,rfl⟩:=zaK hx;rw [zbf] at hi;rw [zbK hi];have:=zhi (h.ne i hi);simpa using this
 ·obtain ⟨i,hi,rfl⟩:=zaK hx;rw [zbf] at hi;obtain ⟨j,hj,rfl⟩:=(zfx hi).1 hq;have h2:=hb i j hj;rw [zbK hi]
  show remP P.er (gd Y L) (nth Y.st i) j=false
  rw [ziM hok hY h.ne hi (by omega) (by omega)];have h3:=congrArg (fun v=>BitVec.getLsbD v j) (h.calm i hi).2;simp only [BitVec.getLsbD_and,BitVec.getLsbD_zero,hj,Bool.true_and] at h3;exact h3
theorem zhI (hok:P.ok=true)(hY:TbOf P Y)(hb:In51 T){S:List GDomain}(hS:ClosedD P.er S)(hs:SubD S (gd Y T)):∃S':Ws,Closed Y S'∧Le' S' T∧SubD S (gd Y S'):=by
 (have hl:S.length=Y.n:=by rw [hs.1,zbf]);have hch:∀i,i<Y.n→∀q∈(nth S i).Channels,∃j:Nat,(nth T i).getLsbD j=true∧q=(j:Int):=fun i hi q hq=>(zfx hi).1 ((hs.2 i (by rw [zbf];exact hi)).2 q hq)
 have hbit:∀i j,i<Y.n→((nth (S.map fun x=>zb5 x.Channels) i).getLsbD j=true↔(j:Int)∈(nth S i).Channels):=fun i j hi=>by
  rw [zaL (by rw [hl];exact hi)];refine zdL fun q hq=>?_;obtain ⟨k,hk,rfl⟩:=hch i hi q hq;have:=hb i k hk;omega
 (have hlen:(S.map fun x=>zb5 x.Channels).length=Y.n:=by rw [List.length_map,hl])
 have hle:Le' (S.map fun x=>zb5 x.Channels) T:=fun i j hj=>by
  rcases Nat.lt_or_ge i Y.n with hi|hi
  ·obtain ⟨k,hk,e⟩:=hch i hi _ ((hbit i j hi).1 hj);rw [show j=k by omega];exact hk
  ·unfold nth at hj;rw [List.getD_eq_getElem?_getD,List.getElem?_eq_none (by rw [hlen];exact hi)] at hj;have hj':(0#64).getLsbD j=true:=hj;rw [BitVec.getLsbD_zero] at hj'
   cases hj'
 have hsub:SubD S (gd Y (S.map fun x=>zb5 x.Channels)):=by
  refine ⟨by rw [hl,zbf],fun i hi=>?_⟩;rw [zbf] at hi;refine ⟨?_,fun q hq=>?_⟩
  ·rw [(hs.2 i (by rw [zbf];exact hi)).1,zbK hi,zbK hi]
  ·obtain ⟨j,hj,rfl⟩:=hch i hi q hq;exact (zfx hi).2 ⟨j,(hbit i j hi).2 hq,rfl⟩
 have hne:∀i,i<Y.n→nth (S.map fun x=>zb5 x.Channels) i≠0#64:=fun i hi e=>by
  have h1:=hS.ne _ (zak (show i<S.length by rw [hl];exact hi))
  cases hc:(nth S i).Channels with
  |nil=>exact h1 hc
  |cons q r=>
   (have hq:q∈(nth S i).Channels:=by rw [hc];simp);obtain ⟨j,hj,rfl⟩:=hch i hi q hq;have:=(hbit i j hi).2 hq;rw [e,BitVec.getLsbD_zero] at this
   cases this
 refine ⟨_,⟨hlen,fun i hi=>⟨hne i hi,?_⟩⟩,hle,hsub⟩;apply BitVec.eq_of_getLsbD_eq;intro j hj;rw [BitVec.getLsbD_and,BitVec.getLsbD_zero]
 cases h1:(nth (S.map fun x=>zb5 x.Channels) i).getLsbD j with
 |false=>rfl
 |true=>
  have h2:=(hb.le hle) i j h1
  cases h3:(zcN Y (S.map fun x=>zb5 x.Channels) i).getLsbD j with
  |false=>rfl
  |true=>
   rw [←ziM hok hY hne hi (by omega) (by omega)] at h3;have h4:=zfi (zmc hok) hsub h3;have h5:=hS.calm _ (zak (show i<S.length by rw [hl];exact hi)) _ ((hbit i j hi).1 h1);rw [(hs.2 i (by rw [zbf];exact hi)).1,zbK hi] at h5;rw [h4] at h5
   cases h5
theorem zlb (hok:P.ok=true)(hY:TbOf P Y)(hb:In51 T)(hF:Fin Y T L c){r:List GDomain×Bool}(hr:PropD P.er (gd Y T) r):r=if c then ([],false) else (gd Y L,true):=by
 cases c with
 |true=>
  rcases hr with ⟨_,h2,h3,_⟩|⟨h,_⟩
  ·obtain ⟨S',h4,h5,_⟩:=zhI hok hY hb h2 h3.1;exact absurd h5 (hF.bad rfl S' h4)
  ·exact h
 |false=>
  have hI:=hF.good rfl;have hC:=hI.good rfl;have hbL:=hb.le hI.sub;rcases hr with ⟨h1,h2,h3,h4⟩|⟨_,h⟩
  ·have h5:=h4 _ (zgW hok hY hC hbL) (zkz hI.sub);obtain ⟨S',h6,h7,h8⟩:=zhI hok hY hb h2 h3.1;have h9:SubD r.1 (gd Y L):=h8.trans (zkz (hI.best S' h6 h7))
   have e:r.1=gd Y L:=by
    refine zdg (by rw [h9.1]) fun i hi=>?_; (have hi':i<Y.n:=by rw [h9.1,zbf] at hi;exact hi);have a1:=h9.2 i (by rw [zbf];exact hi');have a2:=h5.2 i hi
    have hsub:(nth (gd Y L) i).Channels.Sublist (nth (gd Y T) i).Channels:=by
     rw [zbK hi',zbK hi']
     show ((chansN (nth L i)).map _).Sublist ((chansN (nth T i)).map _)
     rw [zea (hI.sub i)];exact List.filter_sublist.map _
    have hch:(nth r.1 i).Channels=(nth (gd Y L) i).Channels:=by
     refine zcO (h3.2 i (by rw [zbf];exact hi')) hsub ?_ (fun x=>⟨a1.2 x,a2.2 x⟩);rw [zbK hi'];exact zdJ (zdw _)
    cases hx:nth r.1 i with
    |mk s1 c1=>
     cases hy:nth (gd Y L) i with
     |mk s2 c2=>
      have b1:=a1.1;rw [hx,hy] at b1 hch;simp only at b1 hch;rw [b1,hch]
   rw [if_neg (by simp),←e,←h1]
  ·exact absurd (zkz hI.sub) (h _ (zgW hok hY hC hbL))
end
theorem SlC.slof {α:Type}[Inhabited α]{F:Frz}{w:World}{v:Value}{size:Nat}{enc:α→List Value}{xs:List α}(h:SlC F v size (xs.map enc))(hF:F.At w):SlOf w v enc size xs:=by
 obtain ⟨A,cap,h1,h2,h3,h4,h5⟩:=h;rw [List.length_map] at h1 h5;refine ⟨A,cap,h1,fun hl=>?_⟩;obtain ⟨g,off,rfl,hg,hc⟩:=h5 hl;refine ⟨g,off,rfl,fun i hi=>?_⟩;have:=Cs.at hF hg (hc i hi)
 rwa [za0 hi,zat hi] at this
def GPair.b (x:GPair):Pr:=⟨x.A,x.B,x.Offset,x.Low,x.High⟩
def GLoad.b (x:GLoad):Ld:=⟨x.To,x.From,x.Weight,x.Low,x.High⟩
def GCap.b (x:GCap):Cp:=⟨x.Station,x.Max,x.Low,x.High⟩
def GChoice.b (x:GChoice):Ch:=⟨x.Station,x.Channel⟩
def Ch.er (x:Ch):GChoice:=⟨x.st,x.ch⟩
theorem zdU {α β:Type}{f:α→β}{g:β→α}(h:∀x,g (f x)=x)(l:List α):(l.map f).map g=l:=by
 rw [List.map_map]
 conv=>rhs;rw [←List.map_id l]
 congr 1
 funext x
 exact h x
theorem SlOf.ofMap {α β:Type}{w:World}{v:Value}{size:Nat}{enc:α→List Value}{enc':β→List Value}{f:α→β}(he:∀x,enc' (f x)=enc x){xs:List α}(h:SlOf w v enc size xs):SlOf w v enc' size (xs.map f):=by
 obtain ⟨A,cap,h1,h2⟩:=h;refine ⟨A,cap,by rw [List.length_map];exact h1,fun hl=>?_⟩;rw [List.length_map] at hl;obtain ⟨g,off,hA,hc⟩:=h2 hl;refine ⟨g,off,hA,fun i hi=>?_⟩;rw [List.length_map] at hi;rw [List.getElem_map,he];exact hc i hi
structure PbF (F:Frz) (vd:Value) (cd:List (List Value)) (vp vl vc:Value) (p:GProblem):Prop where
 ds:SlD GDomain.rep F vd 2 cd p.Domains
 ps:SlC F vp 5 (p.Rules.Pairs.map GPair.enc)
 ls:SlC F vl 5 (p.Rules.Loads.map GLoad.enc)
 cs:SlC F vc 4 (p.Rules.Caps.map GCap.enc)
theorem zka {F:Frz}{w:World}{vd vp vl vc:Value}{cd:List (List Value)}{p:GProblem}(h:PbF F vd cd vp vl vc p)(hF:F.At w):∃P:Pb,P.er=p∧ProbAt w vd vp vl vc P:=by
 obtain ⟨hd,hp,hl,hc⟩:=h;have hlen:=hd.2.1
 have hrow:∀i,i<p.Domains.length→nth cd i=[.int .i64 (nth p.Domains i).Station,nth (nth cd i) 1]∧SlC F (nth (nth cd i) 1) 1 ((nth p.Domains i).Channels.map eI):=fun i hi=>by
  obtain ⟨v1,h0,h1⟩:=hd.2.2 i hi;rw [h0];exact ⟨rfl,h1⟩
 have eds:((List.range p.Domains.length).map fun i=>(⟨(nth p.Domains i).Station,nth (nth cd i) 1,(nth p.Domains i).Channels⟩:Dx)).map Dx.er=p.Domains:=by
  refine zdg (by simp) fun i hi=>?_;simp at hi;rw [zaL (by simpa using hi),zat (by simpa using hi)];simp [Dx.er]
 refine ⟨⟨(List.range p.Domains.length).map fun i=>⟨(nth p.Domains i).Station,nth (nth cd i) 1,(nth p.Domains i).Channels⟩,p.Rules.Pairs.map GPair.b,p.Rules.Loads.map GLoad.b,p.Rules.Caps.map GCap.b⟩,?_,?_⟩
 ·unfold Pb.er;dsimp only;rw [eds,zdU (g:=Pr.er) (fun _=>rfl),zdU (g:=Ld.er) (fun _=>rfl),zdU (g:=Cp.er) (fun _=>rfl)]
 ·refine ⟨⟨?_,?_⟩,⟨(hp.slof hF).ofMap (f:=GPair.b) (enc':=Pr.cells) (fun _=>rfl),(hl.slof hF).ofMap (f:=GLoad.b) (enc':=Ld.cells) (fun _=>rfl),(hc.slof hF).ofMap (f:=GCap.b) (enc':=Cp.cells) (fun _=>rfl),?_,?_,?_⟩,?_,?_⟩
  ·obtain ⟨A,cap,h1,h2,h3,h4,h5⟩:=hd.1;dsimp only;refine ⟨A,cap,by rw [h1,hlen];simp,fun hl0=>?_⟩;simp at hl0;obtain ⟨g,off,rfl,hg,hcs⟩:=h5 (by omega);refine ⟨g,off,rfl,fun i hi=>?_⟩;simp at hi;have:=Cs.at hF hg (hcs i (by omega));rw [(hrow i hi).1] at this;simpa [Dx.cells] using this
  ·intro d hd';obtain ⟨i,hi,rfl⟩:=List.mem_map.1 hd';have hi':=List.mem_range.1 hi; (exact ((hrow i hi').2.slof hF).ofMap (f:=fun x=>x) (enc':=Ie) (fun _=>rfl) |> fun q=>by simpa using q)
  ·have:=hp.max;simpa using this
  ·have:=hl.max;simpa using this
  ·have:=hc.max;simpa using this
  ·have:=hd.1.max;simp;omega
  ·intro d hd';obtain ⟨i,hi,rfl⟩:=List.mem_map.1 hd';have:=(hrow i (List.mem_range.1 hi)).2.max;simpa using this
theorem Fx.hp {F:Frz}{w w':World}{es:HS}(hF:F.At w)(h:Hp w (fun _=>False) es w'):∃G:Frz,Fx F w G w'∧G.w=w'∧∀e∈es,∀g,e.fp g→Cb w' g→G.S g:=by
 have hb:=h.isBelow;have hF':=hF.below hb;refine ⟨⟨fun g=>F.S g∨((∃ e∈es,e.fp g)∧Cb w' g),w',fun g hg=>hg.elim (fun h=>hF'.cb h) (fun h=>h.2)⟩,⟨fun g hg=>⟨.inl hg,hF' g hg⟩,fun g _=>rfl,fun g hg=>?_,hb⟩,rfl,fun e he g hg hc=> .inr ⟨⟨e,he,hg⟩,hc⟩⟩;rcases hg with h1|⟨⟨e,he,hg⟩,_⟩
 ·exact .inl h1
 ·exact .inr ((h.new e he g hg).elim (fun h=>h.elim) id)
theorem SlK.ent {G:Frz}{w':World}{v:Value}{e:TypeId}{size k:Nat}{l:List Value}(hok:(Ent.sl v e size k l).ok w')(hw:G.w=w')(hS:∀g,(Ent.sl v e size k l).fp g→Cb w' g→G.S g):SlK G v size k l:=by
 have ho:=Ent.sl_ok.1 hok;rcases ho.2 with ⟨rfl,h0⟩|⟨g,cap,cur,rfl,hb,hg,hnc,hcm,hcs,htake⟩
 ·subst h0;exact ⟨ho.1,none,0,rfl,Nat.le_refl _,by omega,fun h=>by omega⟩
 ·refine ⟨ho.1,_,cap,rfl,hnc,by unfold maxLen at hcm;omega,fun _=>⟨g,rfl,hS g (Ent.sl_fp.2 rfl) ⟨_,_,_,hg⟩,fun q hq=>?_⟩⟩;rw [hw,Nat.zero_add,World.ownsRow.cellAt ho q (by rw [←ho.1];exact hq)]
theorem zle {F:Frz}{w w':World}{v:Value}{xs:List Dx}(hF:F.At w)(h:Hp w (fun _=>False) [.sl v 48 2 xs.length (xs.flatMap Dx.cells), .bag (xs.map dE)] w'):∃G:Frz,Fx F w G w'∧∃cs,SlD GDomain.rep G v 2 cs (xs.map Dx.er):=by
 obtain ⟨G,h1,h2,h3⟩:=Fx.hp hF h;refine ⟨G,h1,xs.map Dx.cells,?_⟩;have h4:=SlK.ent (G:=G) (h.own (.sl v 48 2 xs.length (xs.flatMap Dx.cells)) (by simp)) h2 (h3 _ (by simp));have hb:=Ent.bag_ok.1 (h.own (.bag (xs.map dE)) (by simp));have h5:=h4.toC (cs:=xs.map Dx.cells) (List.flatMap_def ..) (by simp) (fun c hc=>by obtain ⟨x,_,rfl⟩:=List.mem_map.1 hc;rfl);refine ⟨h5,by simp,fun i hi=>?_⟩;simp at hi;rw [za0 hi,za0 hi];have hm:nth xs i∈xs:=zak hi;have h6:=hb.1 (dE (nth xs i)) (List.mem_map.2 ⟨_,hm,rfl⟩);have h7:=SlK.ent (G:=G) h6 h2 (fun g hg hc=>h3 (.bag (xs.map dE)) (by simp) g (Ent.bag_fp.2 ⟨_,List.mem_map.2 ⟨_,hm,rfl⟩,hg⟩) hc);exact ⟨(nth xs i).v,rfl,h7.toF rfl (fun _=>rfl)⟩
theorem zl9 {F:Frz}{w w':World}{v:Value}{xs:List Ch}(hF:F.At w)(h:Hp w (fun _=>False) [.sl v 50 2 xs.length (xs.flatMap Ch.cells)] w'):∃G:Frz,Fx F w G w'∧SlC G v 2 ((xs.map Ch.er).map GChoice.enc):=by
 obtain ⟨G,h1,h2,h3⟩:=Fx.hp hF h;refine ⟨G,h1,?_⟩;have h4:=SlK.ent (G:=G) (h.own (.sl v 50 2 xs.length (xs.flatMap Ch.cells)) (by simp)) h2 (h3 _ (by simp))
 have e:xs.flatMap Ch.cells=(xs.map Ch.er).flatMap GChoice.enc:=by
  rw [List.flatMap_map];rfl
 rw [e] at h4;exact h4.toF (by simp) GChoice.len
end Go.Proofs.YtbpbhbkcahcdiaaGreatDoor
