/- Yt Ye Wa Wn Wb Wc: shortened and put together by squeeze.py. -/
import Derived.Test.YtogbggmckmnlfaaGreatDoorQ09
set_option maxRecDepth 100000
set_option maxHeartbeats 4000000
set_option linter.unusedVariables false
set_option linter.unusedSectionVars false
set_option linter.unusedSimpArgs false
namespace Go.Proofs.YtogbggmckmnlfaaGreatDoor
open Go.RowKit
structure GProof where
 Stations:List Int
 Lemmas:List (List GChoice)
deriving DecidableEq,Inhabited
def eE (F:Frz)(c:List Value)(x:GProof):Prop:=∃(v0:Value) (v1:Value) (cs1:List (List Value)),c=[v0,v1]∧SlC F v0 1 (x.Stations.map eI)∧SlD cG F v1 1 cs1 x.Lemmas
theorem GProof.mono {F G:Frz}{c:List Value}{x:GProof}(hle:F.Le G)(h:eE F c x):eE G c x:=by
 obtain ⟨v0,v1,cs1,h0,h1,h2⟩:=h;exact ⟨v0,v1,cs1,h0,h1.mono hle,SlD.mono (rep:=cG) (fun _ _ _ _=>R_List_GChoice.mono) h2 hle⟩
theorem GProof.len {F:Frz}{c:List Value}{x:GProof}(h:eE F c x):c.length=2:=by
 obtain ⟨v0,v1,cs1,h0,h1,h2⟩:=h;subst h0;rfl
theorem GProof.one {F:Frz}{c:List Value}{x:GProof}(h:eE F c x):OneCs c:=by
 obtain ⟨v0,v1,cs1,h0,h1,h2⟩:=h;subst h0;haveI:=h1.oneC;haveI:=h2.1.oneC
 infer_instance
theorem GProof.c0 {F:Frz}{c:List Value}{x:GProof}(h:eE F c x):c[0]?=some (cH c 0)∧SlC F (cH c 0) 1 (x.Stations.map eI):=by
 obtain ⟨v0,v1,cs1,h0,h1,h2⟩:=h;subst h0;exact ⟨rfl,h1⟩
theorem GProof.c1 {F:Frz}{c:List Value}{x:GProof}(h:eE F c x):c[1]?=some (cH c 1)∧∃cs,SlD cG F (cH c 1) 1 cs x.Lemmas:=by
 obtain ⟨v0,v1,cs1,h0,h1,h2⟩:=h;subst h0;exact ⟨rfl,cs1,h2⟩
theorem GProof.form {F:Frz}{c:List Value}{x:GProof}(h:eE F c x):(c.drop 0).take 2=[cH c 0,cH c 1]:=by
 obtain ⟨v0,v1,cs1,h0,h1,h2⟩:=h;subst h0;rfl
def l8 (x_:GProof):Option Bool:=
 (zbV [] x_.Stations).bind fun r14=>
 (bif decide (¬r14.2=0) then
  some false
  else
  (bif ((decide ((x_.Lemmas.length:Int)<1))||(decide (4096<(x_.Lemmas.length:Int)))) then
   some false
   else
   (zbW x_.Stations).bind fun r32=>
   dS (fun (_:Unit)=>
    some true)
   (fun k4=>
    di (fun (i_6:Nat) (next5:Unit→Option Bool) (_:Unit)=>
     (bif ((!(kc (cH x_.Lemmas i_6)))||(!((decide (((cH x_.Lemmas i_6).length:Int)=0)) == (decide ((i_6:Int)=((x_.Lemmas.length:Int) - 1)))))) then
      some false
      else
      di (fun (i_11:Nat) (next10:Unit→Option Bool) (_:Unit)=>
       (kN r32.1 ((cH (cH x_.Lemmas i_6) i_11).Station)).bind fun r67=>
       (bif !r67 then
        some false
        else
        next10 ()))
      (fun (_:Unit)=>
       next5 ()) (((cH x_.Lemmas i_6).length) - 0) 0 ()))
    (fun (_:Unit)=>
     k4 ()) (x_.Lemmas.length - 0) 0 ())))
theorem zbQ (F0:Frz)(w:World)(hF0:F0.At w)(x_:GProof)(vx__0:Value)(hx__0:SlC F0 vx__0 1 (x_.Stations.map eI))(vx__1:Value)(cx__1:List (List Value))(hx__1:SlD cG F0 vx__1 1 cx__1 x_.Lemmas)(r:Bool)(hr:l8 x_=some r):Calls Tryz.prog 13 #[.agg [vx__0,vx__1].toArray] w fun e w'=>e= .returned (.bool r)∧Below w.heap.size w w':=by
 have hk:=hr;unfold l8 at hk;haveI:=hx__0.oneC;haveI:=hx__1.1.oneC;obtain ⟨S0,F1,rfl,hS0,hp0⟩:=fK hF0;refine dq Tryz.func13 rfl rfl rfl hp0 ?_;refine kA ?_;rintro _ _ ⟨g1,rfl,rfl⟩;refine dd ?_;refine jB ?_;have hq:=dM hk;clear hk;obtain ⟨r14,hr14,hk⟩:=hq; (try dsimp only at hk);refine ed ?_;refine eu ?_;refine cN (eh 1 rfl rfl rfl rfl (fun w hw hF=>zgc _ w hF [] (.slice none 0 0) (SlC.nil _ 2) x_.Stations vx__0 hx__0 r14 hr14)) ?_;rintro _ _ ⟨v14_0_0,F2,le1_2,hf14_0_0,rfl,rfl⟩;haveI:=hf14_0_0.oneC;refine TL.run 5 rfl ?_;refine dG ?_;refine iK ?_;refine T.cond rfl (fun h1=>?_) (fun h1=>?_)
 ·have p1:=of_decide_eq_true h1;replace hk:=dy hk h1;refine gF ?_;obtain rfl:=Option.some.inj hk;exact fw
 ·have p1:=of_decide_eq_false h1;replace hk:=dz hk h1;refine q3h ?_;refine dj (ι:=Unit) (fun z=>[(1, .pointer (some ⟨g1,0,none⟩)),(28, .bool ((decide ((x_.Lemmas.length:Int)<1))||(decide (4096<(x_.Lemmas.length:Int)))))]) (fun z=>[.row g1 33 [vx__0,vx__1], .fr F2]) (fun z=>True) ?_ ?_
  ·refine ed ?_;refine eu ?_;refine q1b ?_;have hm21:x_.Lemmas.length≤9223372036854775807:=(SlD.mono (rep:=cG) (fun _ _ _ _=>R_List_GChoice.mono) hx__1 le1_2).2.1▸(SlD.mono (rep:=cG) (fun _ _ _ _=>R_List_GChoice.mono) hx__1 le1_2).1.max;refine d5 ?_;refine dQ rfl rfl rfl (fun h2=>?_) (fun h2=>?_)
   ·have p2:=of_decide_eq_true h2;refine q2j ?_;exact c4 () trivial (.c (.b (zkm h2).symm .nil)) (List.Sublist.refl _)
   ·have p2:=of_decide_eq_false h2;refine eu ?_;refine q1b ?_;refine d5 ?_;refine TL.nil ?_;exact c4 () trivial (.c (.b (mi h2) .nil)) (List.Sublist.refl _)
  ·rintro _ _;refine T.cond rfl (fun h3=>?_) (fun h3=>?_)
   ·replace hk:=dy hk h3;refine gF ?_;obtain rfl:=Option.some.inj hk;exact fw
   ·have p3:=h3; (try simp only [cV] at p3);replace hk:=dz hk h3;refine iR ?_;have hq:=dM hk;clear hk;obtain ⟨r32,hr32,hk⟩:=hq; (try dsimp only at hk);refine ed ?_;refine eu ?_;refine cN (cL rfl rfl rfl (fun w hw=>zdE _ w (hw.fr (i:=1) rfl) x_.Stations vx__0 (SlC.mono hx__0 le1_2) r32 hr32)) ?_;refine ex ?_;refine eM ?_;refine q1G ?_;rintro _ _ ⟨g5,rfl,rfl⟩;refine q1n ?_;refine jd ?_;refine kX ?_;refine q1b ?_;have hm37:x_.Lemmas.length≤9223372036854775807:=(SlD.mono (rep:=cG) (fun _ _ _ _=>R_List_GChoice.mono) hx__1 le1_2).2.1▸(SlD.mono (rep:=cG) (fun _ _ _ _=>R_List_GChoice.mono) hx__1 le1_2).1.max;refine dP ?_;have hq:=eP hk;clear hk;obtain ⟨k4,hk4,hk⟩:=hq; (try dsimp only at hk);refine dj (ι:=Unit) (fun z=>[]) (fun z=>[.fr F2]) (fun z=>k4 ()=some r) ?_ ?_
    ·have hq:=fS hk;clear hk;obtain ⟨f5,kk5,hf5,hkk5,hk⟩:=hq;refine gg ?_;refine T.loop (ι:=Nat) (fun z=>[(1, .pointer (some ⟨g1,0,none⟩)),(5, .pointer (some ⟨g5,0,none⟩)),(36,vx__1),(37, .int .i64 (x_.Lemmas.length:Int)),(38, .int .i64 (z:Int))]) (fun z=>[.row g5 83 (r32.1.words.1.map U), .row g1 33 [vx__0,vx__1], .fr F2]) (fun z=>di f5 kk5 (x_.Lemmas.length - z) z ()=some r) (fun z=>x_.Lemmas.length - z) 0 ?_ ?_ ?_ ?_
     ·exact hk
     ·exact ld
     ·exact fv
     ·rintro i_6 hk;refine ei ?_;refine T.cond rfl (fun h7=>?_) (fun h7=>?_)
      ·have p7:=of_decide_eq_true h7;rw [fT a5] at hk;generalize hn5:di f5 kk5 (x_.Lemmas.length - (i_6+1)) (i_6+1)=next5 at hk;rw [←hf5] at hk; (try dsimp only at hk);refine fq ?_;refine dd ?_;refine cI (dL (i:=i_6) rfl rfl rfl (SlD.mono (rep:=cG) (fun _ _ _ _=>R_List_GChoice.mono) hx__1 le1_2).1 (SlD.mono (rep:=cG) (fun _ _ _ _=>R_List_GChoice.mono) hx__1 le1_2).2.1 rfl a5) ?_;refine cI (eN 2 (i:=i_6) (j:=0) rfl rfl rfl (SlD.mono (rep:=cG) (fun _ _ _ _=>R_List_GChoice.mono) hx__1 le1_2).1 (SlD.mono (rep:=cG) (fun _ _ _ _=>R_List_GChoice.mono) hx__1 le1_2).2.1 a5 rfl (R_List_GChoice.c0 ((SlD.mono (rep:=cG) (fun _ _ _ _=>R_List_GChoice.mono) hx__1 le1_2).2.2 i_6 a5)).1) ?_;have hd42_0:=(R_List_GChoice.c0 ((SlD.mono (rep:=cG) (fun _ _ _ _=>R_List_GChoice.mono) hx__1 le1_2).2.2 i_6 a5)).2;haveI:=hd42_0.oneC;refine d5 ?_;refine jB ?_;refine dj (ι:=Unit) (fun z=>[(1, .pointer (some ⟨g1,0,none⟩)),(5, .pointer (some ⟨g5,0,none⟩)),(8,(cH (cH cx__1 i_6) 0)),(36,vx__1),(37, .int .i64 (x_.Lemmas.length:Int)),(38, .int .i64 (i_6:Int)),(57, .bool ((!(kc (cH x_.Lemmas i_6)))||(!((decide (((cH x_.Lemmas i_6).length:Int)=0)) == (decide ((i_6:Int)=((x_.Lemmas.length:Int) - 1)))))))]) (fun z=>[.row g5 83 (r32.1.words.1.map U), .row g1 33 [vx__0,vx__1], .fr F2]) (fun z=>True) ?_ ?_
       ·refine fo ?_;refine cN (cL rfl rfl rfl (fun w hw=>zb7 _ w (hw.fr (i:=2) rfl) (cH x_.Lemmas i_6) (cH (cH cx__1 i_6) 0) hd42_0)) ?_;refine ex ?_;refine d5 ?_;refine dQ rfl rfl rfl (fun h8=>?_) (fun h8=>?_)
        ·refine TL.run 11 rfl ?_;refine TL.nil ?_;exact c4 () trivial (.c (.c (.c (.c (.c (.c (.b (zkm h8).symm .nil))))))) (List.Sublist.refl _)
        ·refine dd ?_;refine cI (dA rfl rfl hd42_0 (List.length_map _)) ?_;have hm48:(cH x_.Lemmas i_6).length≤9223372036854775807:=(List.length_map _)▸hd42_0.max;refine d5 ?_;refine kX ?_;refine q1b ?_;refine q2c ?_;refine dd ?_;refine cI (Yv.cD a8 rfl rfl rfl) ?_;refine dd ?_;refine TL.nil ?_;exact c4 () trivial (.c (.c (.c (.c (.c (.c (.b (mi h8) .nil))))))) (List.Sublist.refl _)
       ·rintro _ _;have hm48:(cH x_.Lemmas i_6).length≤9223372036854775807:=(List.length_map _)▸hd42_0.max;refine T.cond rfl (fun h9=>?_) (fun h9=>?_)
        ·replace hk:=dy hk h9;refine gy ?_;refine q1h ?_;obtain rfl:=Option.some.inj hk;exact fw
        ·replace hk:=dz hk h9;refine gV ?_;refine dd ?_;refine cI (dA rfl rfl hd42_0 (List.length_map _)) ?_;refine dP ?_;have hq:=fS hk;clear hk;obtain ⟨f10,kk10,hf10,hkk10,hk⟩:=hq;refine gg ?_;refine T.loop (ι:=Nat) (fun z=>[(1, .pointer (some ⟨g1,0,none⟩)),(5, .pointer (some ⟨g5,0,none⟩)),(36,vx__1),(37, .int .i64 (x_.Lemmas.length:Int)),(38, .int .i64 (i_6:Int)),(58,(cH (cH cx__1 i_6) 0)),(59, .int .i64 ((cH x_.Lemmas i_6).length:Int)),(60, .int .i64 (z:Int))]) (fun z=>[.row g5 83 (r32.1.words.1.map U), .row g1 33 [vx__0,vx__1], .fr F2]) (fun z=>di f10 kk10 (((cH x_.Lemmas i_6).length) - z) z ()=some r) (fun z=>((cH x_.Lemmas i_6).length) - z) 0 ?_ ?_ ?_ ?_
         ·exact hk
         ·exact (.c (.c (.c (.c (.c (.c (.c (.c .nil))))))))
         ·exact fv
         ·rintro i_11 hk;refine ei ?_;refine T.cond rfl (fun h12=>?_) (fun h12=>?_)
          ·have p12:=of_decide_eq_true h12;rw [fT a5] at hk;generalize hn10:di f10 kk10 (((cH x_.Lemmas i_6).length) - (i_11+1)) (i_11+1)=next10 at hk;rw [←hf10] at hk; (try dsimp only at hk);refine fq ?_;refine cI (dL (i:=i_11) rfl rfl rfl hd42_0 (List.length_map _) rfl a5) ?_;refine cI (fE 2 (i:=i_11) rfl rfl rfl hd42_0 a5) ?_;refine fQ ?_;rintro _ _ ⟨g10,rfl,rfl⟩;refine q3P ?_;have hq:=dM hk;clear hk;obtain ⟨r67,hr67,hk⟩:=hq; (try dsimp only at hk);refine ed ?_;refine cI (dJ 1 rfl rfl rfl Vec.len) ?_;refine eu ?_;refine cN (cL rfl rfl rfl (fun w hw=>zaB _ w (hw.fr (i:=3) rfl) r32.1 ((cH (cH x_.Lemmas i_6) i_11).Station) r67 hr67)) ?_;refine ex ?_;refine dP ?_;refine T.cond rfl (fun h13=>?_) (fun h13=>?_)
           ·replace hk:=dy hk h13;refine gy ?_;refine TL.ns (T.ret (fy (cQ (cQ (fy (fy (cQ (cQ (fy (cQ ?_))))))))));obtain rfl:=Option.some.inj hk;exact fw
           ·replace hk:=dz hk h13;refine gB ?_;rw [←hn10] at hk;refine q3g ?_;exact K.next (i_11+1) hk a5 (.c (.c (.c (.c (.c (.c (.c (.c .nil)))))))) (List.Sublist.refl _)
          ·have p12:=of_decide_eq_false h12;rw [fR a5,←hkk10] at hk; (try dsimp only at hk);refine q2K ?_;rw [←hn5] at hk;exact K.next (i_6+1) hk a5 (.c (.c (.c (.c (.c .nil))))) (List.Sublist.refl _)
      ·have p7:=of_decide_eq_false h7;rw [fR a5,←hkk5] at hk; (try dsimp only at hk);refine ff ?_;refine K.pick [2] rfl a6 ?_;exact q34
    ·rintro _ hk;rw [←hk4] at hk; (try dsimp only at hk);refine q3M ?_;obtain rfl:=Option.some.inj hk;exact fw
def zcI (fuel:Nat)(p:GProblem)(x_:GProof):Option (Option GStore×Int):=
 dS (fun (x_1:Bool)=>
  (bif x_1 then
   some (none,2)
   else
   (zcf p x_.Stations).bind fun r20=>
   (bif decide (¬r20.2=0) then
    some (none,r20.2)
    else
    (zdR fuel r20.1).bind fun r27=>
    (bif (r27.1).isSome then
     some (some (r27.1.getD default),r27.2)
     else
     some (none,r27.2)))))
 (fun k2=>
  (bif !(kK p) then
   k2 true
   else
   (l8 x_).bind fun r13=>
   k2 (!r13)))
theorem zcN (F0:Frz)(w:World)(hF0:F0.At w)(p:GProblem)(vp_0:Value)(cp_0:List (List Value))(hp_0:SlD cJ F0 vp_0 2 cp_0 p.Domains)(vp_1:Value)(hp_1:SlC F0 vp_1 5 (p.Rules.Pairs.map c8))(vp_2:Value)(hp_2:SlC F0 vp_2 5 (p.Rules.Loads.map da))(vp_3:Value)(hp_3:SlC F0 vp_3 4 (p.Rules.Caps.map dh))(x_:GProof)(vx__0:Value)(hx__0:SlC F0 vx__0 1 (x_.Stations.map eI))(vx__1:Value)(cx__1:List (List Value))(hx__1:SlD cG F0 vx__1 1 cx__1 x_.Lemmas)(htab:Tab w)(fuel:Nat)(hfu:100000≤fuel)(r:Option GStore×Int)(hr:zcI fuel p x_=some r):Calls Tryz.prog 36 #[.agg [vp_0,vp_1,vp_2,vp_3].toArray, .agg [vx__0,vx__1].toArray] w fun e w'=>((r.1).isSome=true→∃(y:Nat×SK×Value×Ws×Value×List (List Value)) (G:Frz),(SI ((r.1.getD default).start).1 ((r.1.getD default).start).2 y.2.1 y.2.2.2.1∧TbF G y.2.1∧SzF G y.2.1 y.2.2.1 y.2.2.2.1 (!((r.1.getD default).start).2.2)∧OwnD cG G 1 y.2.2.2.2.2 ((r.1.getD default).list))∧e= .returned (.tuple #[.pointer (some ⟨y.1,0,none⟩), .int .i64 r.2])∧FxM F0 w (cZ []) G [.row y.1 144 ((((r.1.getD default).domains).1.map U)++[.pointer (some ⟨y.2.1.sp,0,none⟩),y.2.2.2.2.1]), .sl y.2.2.2.2.1 50 1 ((r.1.getD default).list).length y.2.2.2.2.2.flatten] w')∧((r.1).isSome=false→∃(y:Unit) (G:Frz),(True)∧e= .returned (.tuple #[.pointer none, .int .i64 r.2])∧FxM F0 w (cZ []) G [] w'):=by
 have hk:=hr;unfold zcI at hk;haveI:=hp_0.1.oneC;haveI:=hp_1.oneC;haveI:=hp_2.oneC;haveI:=hp_3.oneC;haveI:=hx__0.oneC;haveI:=hx__1.1.oneC;obtain ⟨S0,F1,rfl,hS0,hp0⟩:=fK hF0;rw [zem];have hM0:¬(fun _:Nat=>False) 0:=fun h=>h;have htk:∀ {hs:HS} {w':World},Hp w (fun _=>False) hs w'→Tab w':=fun hw=>htab.keptF hw;refine dq Tryz.func36 rfl rfl rfl hp0 ?_;refine kA ?_;rintro _ _ ⟨g2,rfl,rfl⟩;refine q3Z ?_;rintro _ _ ⟨g3,rfl,rfl⟩;refine d5 ?_;refine jB ?_; (try dsimp only at hk);have hq:=eP hk;clear hk;obtain ⟨k2,hk2,hk⟩:=hq; (try dsimp only at hk);refine dj (ι:=Bool) (fun z=>[(2, .pointer (some ⟨g2,0,none⟩)),(3, .pointer (some ⟨g3,0,none⟩)),(15, .bool z)]) (fun z=>[.row g3 33 [vx__0,vx__1], .row g2 29 [vp_0,vp_1,vp_2,vp_3], .fr F1]) (fun z=>k2 z=some r) ?_ ?_
 ·refine q3J ?_;refine dQ rfl rfl rfl (fun h3=>?_) (fun h3=>?_)
  ·replace hk:=dy hk h3;refine q2R ?_;exact q36
  ·replace hk:=dz hk h3;refine gY ?_;have hq:=dM hk;clear hk;obtain ⟨r13,hr13,hk⟩:=hq;refine cN (cL rfl rfl rfl (fun w hw=>zbQ _ w (hw.fr (i:=2) rfl) x_ vx__0 hx__0 vx__1 cx__1 hx__1 r13 hr13)) ?_;refine lO ?_;exact c4 (!r13) hk (.c (.c (.c .nil))) (List.Sublist.refl _)
 ·rintro x_1 hk;rw [←hk2] at hk; (try dsimp only at hk);refine T.cond rfl (fun h4=>?_) (fun h4=>?_)
  ·replace hk:=dy hk h4;refine ko ?_;obtain rfl:=Option.some.inj hk;exact en rfl rfl rfl (fun w' hw=>⟨fun h=>(by cases h),fun _=>⟨⟨⟩,F1.toFrz,trivial,rfl,cX (hw.pick (idx:=[2]) rfl a6) hS0 (Frz.Le.refl _)⟩⟩)
  ·replace hk:=dz hk h4;refine iR ?_;have hq:=dM hk;clear hk;obtain ⟨r20,hr20,hk⟩:=hq; (try dsimp only at hk);refine q2e ?_;refine eu ?_;refine cN (eh 2 rfl rfl rfl rfl (fun w hw hF=>zez _ w hF p vp_0 cp_0 hp_0 vp_1 hp_1 vp_2 hp_2 vp_3 hp_3 x_.Stations vx__0 hx__0 r20 hr20)) ?_;rintro _ _ ⟨⟨v20_0_0,cs20_0_0,v20_0_1,v20_0_2,v20_0_3⟩,F2,le1_2,⟨hf20_0_0,hf20_0_1,hf20_0_2,hf20_0_3⟩,rfl,rfl⟩;dsimp only at hf20_0_0 hf20_0_1 hf20_0_2 hf20_0_3 ⊢;haveI:=hf20_0_0.1.oneC;haveI:=hf20_0_1.oneC;haveI:=hf20_0_2.oneC;haveI:=hf20_0_3.oneC;refine eM ?_;refine fQ ?_;rintro _ _ ⟨g6,rfl,rfl⟩;refine kr ?_;refine jd ?_;refine iK ?_;refine T.cond rfl (fun h5=>?_) (fun h5=>?_)
   ·have p5:=of_decide_eq_true h5;replace hk:=dy hk h5;refine de ?_;refine eM ?_;refine jK ?_;obtain rfl:=Option.some.inj hk;exact en rfl rfl rfl (fun w' hw=>⟨fun h=>(by cases h),fun _=>⟨⟨⟩,F2.toFrz,trivial,rfl,cX (hw.pick (idx:=[3]) rfl a6) hS0 le1_2⟩⟩)
   ·have p5:=of_decide_eq_false h5;replace hk:=dz hk h5;refine iR ?_;have hq:=dM hk;clear hk;obtain ⟨r27,hr27,hk⟩:=hq; (try dsimp only at hk);refine iH ((r27.1).isSome) (fun h6=>?_) (fun h6=>?_)
    ·replace hk:=dy hk h6;refine ed ?_;refine gY ?_;refine cN (d3 [3,0,1,2] [] [.row g6 29 [v20_0_0,v20_0_1,v20_0_2,v20_0_3], .row g3 33 [vx__0,vx__1], .row g2 29 [vp_0,vp_1,vp_2,vp_3]] rfl rfl rfl rfl a6 (fun w hw hw2 hF=>(zfe _ w hF r20.1 v20_0_0 cs20_0_0 hf20_0_0 v20_0_1 hf20_0_1 v20_0_2 hf20_0_2 v20_0_3 hf20_0_3 (htk hw) fuel hfu r27 hr27).mono (fun e w' hp=>hp.1 h6))) ?_;rintro _ _ ⟨⟨g27_n,k27_n_512,v27_n_512,L27_n_512,v27_n_513,c27_n_513⟩,F3,le2_3,⟨hs27_n_512,tf27_n_512,zf27_n_512,ho27_n_513⟩,rfl,rfl⟩;refine em ?_; (try dsimp only at hs27_n_512 tf27_n_512 zf27_n_512 ho27_n_513);have le1_3:=le1_2.trans le2_3;refine fB 1 rfl ?_;intro iv27_n_513 hmv27_n_513;refine TL.run 4 rfl ?_;refine fJ ?_;obtain rfl:=Option.some.inj hk;exact en rfl rfl rfl (fun w' hw=>⟨fun _=>⟨(g27_n,k27_n_512,v27_n_512,L27_n_512,v27_n_513,c27_n_513),F3.toFrz,⟨hs27_n_512,tf27_n_512,zf27_n_512,ho27_n_513⟩,rfl,cX (hw.pick (idx:=[0,1,2]) rfl a6) hS0 le1_3⟩,fun h=>(by cases h)⟩)
    ·replace hk:=dz hk h6;refine ed ?_;refine gY ?_;refine cN (d3 [3,0,1,2] [] [.row g6 29 [v20_0_0,v20_0_1,v20_0_2,v20_0_3], .row g3 33 [vx__0,vx__1], .row g2 29 [vp_0,vp_1,vp_2,vp_3]] rfl rfl rfl rfl a6 (fun w hw hw2 hF=>(zfe _ w hF r20.1 v20_0_0 cs20_0_0 hf20_0_0 v20_0_1 hf20_0_1 v20_0_2 hf20_0_2 v20_0_3 hf20_0_3 (htk hw) fuel hfu r27 hr27).mono (fun e w' hp=>hp.2 h6))) ?_;rintro _ _ ⟨⟨⟩,F4,le2_4, -,rfl,rfl⟩;refine em ?_;have le1_4:=le1_2.trans le2_4;refine TL.run 4 rfl ?_;refine fJ ?_;obtain rfl:=Option.some.inj hk;exact en rfl rfl rfl (fun w' hw=>⟨fun h=>(by cases h),fun _=>⟨⟨⟩,F4.toFrz,trivial,rfl,cX (hw.pick (idx:=[0]) rfl a6) hS0 le1_4⟩⟩)
def zbX (fuel:Nat)(x0_:GStore)(lemmas:List (List GChoice)):Option (Int×List (List GChoice)):=
 dS (fun (c_1:List (List GChoice))=>
  some ((lemmas.length:Int),c_1))
 (fun k2=>
  di (fun (i_5:Nat) (next4:List (List GChoice)→Option (Int×List (List GChoice))) (c_3:List (List GChoice))=>
   (za6 fuel (GStore.mk x0_.domains (x0_.start.1,x0_.start.2) c_3) (cH lemmas i_5)).bind fun r19=>
   (bif ((decide (¬r19.2=0))||(!r19.1)) then
    some ((i_5:Int),c_3)
    else
    dS (fun (s11:Bool×List (List GChoice))=>
     (bif s11.1 then
      some (((i_5:Int)+1),s11.2)
      else
      next4 s11.2))
    (fun k11=>
     (bif decide ((i_5:Int)<((lemmas.length:Int) - 1)) then
      (zaZ (GStore.mk x0_.domains (x0_.start.1,x0_.start.2) c_3) (cH lemmas i_5)).bind fun r37=>
      k11 (decide (¬r37.1=0),r37.2)
      else
      k11 (false,c_3)))))
  (fun (c_3:List (List GChoice))=>
   k2 c_3) (lemmas.length - 0) 0 x0_.list)
theorem zcW (F0:Frz)(w:World)(hF0:F0.At w)(x0_:GStore)(g0_:Nat)(k0_512:SK)(v0_512:Value)(L0_512:Ws)(hs0_512:SI x0_.start.1 x0_.start.2 k0_512 L0_512)(tf0_512:TbF F0 k0_512)(zf0_512:SzF F0 k0_512 v0_512 L0_512 (!x0_.start.2.2))(v0_513:Value)(c0_513:List (List Value))(h0_513:OwnD cG F0 1 c0_513 x0_.list)(lemmas:List (List GChoice))(vlemmas:Value)(clemmas:List (List Value))(hlemmas:SlD cG F0 vlemmas 1 clemmas lemmas)(htab:Tab w)(hO:Hp w (cZ [.row g0_ 144 ((x0_.domains.1.map U)++[.pointer (some ⟨k0_512.sp,0,none⟩),v0_513]), .sl v0_513 50 1 x0_.list.length c0_513.flatten]) [.row g0_ 144 ((x0_.domains.1.map U)++[.pointer (some ⟨k0_512.sp,0,none⟩),v0_513]), .sl v0_513 50 1 x0_.list.length c0_513.flatten] w)(hA:∀g,cZ [.row g0_ 144 ((x0_.domains.1.map U)++[.pointer (some ⟨k0_512.sp,0,none⟩),v0_513]), .sl v0_513 50 1 x0_.list.length c0_513.flatten] g→¬F0.S g)(hZ:¬cZ [.row g0_ 144 ((x0_.domains.1.map U)++[.pointer (some ⟨k0_512.sp,0,none⟩),v0_513]), .sl v0_513 50 1 x0_.list.length c0_513.flatten] 0)(fuel:Nat)(hfu:100000≤fuel)(r:Int×List (List GChoice))(hr:zbX fuel x0_ lemmas=some r):Calls Tryz.prog 37 #[.pointer (some ⟨g0_,0,none⟩),vlemmas] w fun e w'=>∃(y:Value×List (List Value)) (G:Frz),(OwnD cG G 1 y.2 r.2)∧e= .returned (.int .i64 r.1)∧FxM F0 w (cZ [.row g0_ 144 ((x0_.domains.1.map U)++[.pointer (some ⟨k0_512.sp,0,none⟩),v0_513]), .sl v0_513 50 1 x0_.list.length c0_513.flatten]) G [.row g0_ 144 ((x0_.domains.1.map U)++[.pointer (some ⟨k0_512.sp,0,none⟩),y.1]), .sl y.1 50 1 r.2.length y.2.flatten] w':=by
 have hk:=hr;unfold zbX at hk;haveI:=hlemmas.1.oneC;haveI:=gN (hO.own (.sl v0_513 50 1 x0_.list.length c0_513.flatten) a7);have hmx0_513:=gW (hO.own (.sl v0_513 50 1 x0_.list.length c0_513.flatten) a7);obtain ⟨S0,F1,rfl,hS0,hp0⟩:=ga hF0 hO hA;have hM0:=hZ;have htk:∀ {hs:HS} {w':World},Hp w (cZ [.row g0_ 144 ((x0_.domains.1.map U)++[.pointer (some ⟨k0_512.sp,0,none⟩),v0_513]), .sl v0_513 50 1 x0_.list.length c0_513.flatten]) hs w'→Tab w':=fun hw=>htab.kept hw hZ;refine dq (hs:=[.row g0_ 144 ((x0_.domains.1.map U)++[.pointer (some ⟨k0_512.sp,0,none⟩),v0_513]), .sl v0_513 50 1 x0_.list.length c0_513.flatten, .fr F1]) Tryz.func37 rfl rfl rfl hp0 ?_;refine iE ?_;refine cI (dA rfl rfl hlemmas.1 hlemmas.2.1) ?_;have hm10:lemmas.length≤9223372036854775807:=hlemmas.2.1▸hlemmas.1.max;refine dP ?_;have hq:=eP hk;clear hk;obtain ⟨k2,hk2,hk⟩:=hq; (try dsimp only at hk);refine dj (ι:=List (List GChoice)×Value×List (List Value)×FzB w (cZ [.row g0_ 144 ((x0_.domains.1.map U)++[.pointer (some ⟨k0_512.sp,0,none⟩),v0_513]), .sl v0_513 50 1 x0_.list.length c0_513.flatten]) S0) (fun z=>[(1,vlemmas)]) (fun z=>[.sl z.2.1 50 1 z.1.length z.2.2.1.flatten, .row g0_ 144 ((x0_.domains.1.map U)++[.pointer (some ⟨k0_512.sp,0,none⟩),z.2.1]), .fr z.2.2.2]) (fun z=>k2 z.1=some r∧OwnD cG z.2.2.2.toFrz 1 z.2.2.1 z.1∧OneC z.2.1∧F1.toFrz.Le z.2.2.2.toFrz) ?_ ?_
 ·have hq:=fS hk;clear hk;obtain ⟨f4,kk4,hf4,hkk4,hk⟩:=hq;refine q2l ?_;refine T.loop (ι:=Nat×List (List GChoice)×Value×List (List Value)×FzB w (cZ [.row g0_ 144 ((x0_.domains.1.map U)++[.pointer (some ⟨k0_512.sp,0,none⟩),v0_513]), .sl v0_513 50 1 x0_.list.length c0_513.flatten]) S0) (fun z=>[(0, .pointer (some ⟨g0_,0,none⟩)),(1,vlemmas),(9,vlemmas),(10, .int .i64 (lemmas.length:Int)),(11, .int .i64 (z.1:Int))]) (fun z=>[.sl z.2.2.1 50 1 z.2.1.length z.2.2.2.1.flatten, .row g0_ 144 ((x0_.domains.1.map U)++[.pointer (some ⟨k0_512.sp,0,none⟩),z.2.2.1]), .fr z.2.2.2.2]) (fun z=>di f4 kk4 (lemmas.length - z.1) z.1 z.2.1=some r∧OwnD cG z.2.2.2.2.toFrz 1 z.2.2.2.1 z.2.1∧OneC z.2.2.1∧F1.toFrz.Le z.2.2.2.2.toFrz) (fun z=>lemmas.length - z.1) (0,x0_.list,v0_513,c0_513,F1) ?_ ?_ ?_ ?_
  ·exact ⟨hk,h0_513,inferInstance,(Frz.Le.refl _)⟩
  ·exact ld
  ·exact fv
  ·rintro ⟨i_5,c_3,vc_3,cc_3,F3⟩ ⟨hk,hc_3,oc_3,le1_3⟩; (try dsimp only at *);refine ei ?_;refine T.cond rfl (fun h6=>?_) (fun h6=>?_)
   ·have p6:=of_decide_eq_true h6;rw [fT a5] at hk;generalize hn4:di f4 kk4 (lemmas.length - (i_5+1)) (i_5+1)=next4 at hk;rw [←hf4] at hk; (try dsimp only at hk);refine fq ?_;refine dd ?_;refine cI (dL (i:=i_5) rfl rfl rfl (SlD.mono (rep:=cG) (fun _ _ _ _=>R_List_GChoice.mono) hlemmas le1_3).1 (SlD.mono (rep:=cG) (fun _ _ _ _=>R_List_GChoice.mono) hlemmas le1_3).2.1 rfl a5) ?_;refine cI (eN 2 (i:=i_5) (j:=0) rfl rfl rfl (SlD.mono (rep:=cG) (fun _ _ _ _=>R_List_GChoice.mono) hlemmas le1_3).1 (SlD.mono (rep:=cG) (fun _ _ _ _=>R_List_GChoice.mono) hlemmas le1_3).2.1 a5 rfl (R_List_GChoice.c0 ((SlD.mono (rep:=cG) (fun _ _ _ _=>R_List_GChoice.mono) hlemmas le1_3).2.2 i_5 a5)).1) ?_;have hd15_0:=(R_List_GChoice.c0 ((SlD.mono (rep:=cG) (fun _ _ _ _=>R_List_GChoice.mono) hlemmas le1_3).2.2 i_5 a5)).2;haveI:=hd15_0.oneC;refine d5 ?_;refine jB ?_;have hq:=dM hk;clear hk;obtain ⟨r19,hr19,hk⟩:=hq; (try dsimp only at hk);refine gQ ?_;refine cN (d3 [1,0,2] [.row g0_ 144 ((x0_.domains.1.map U)++([.pointer (some ⟨k0_512.sp,0,none⟩),vc_3]:List Value)), .sl vc_3 50 1 c_3.length cc_3.flatten] [] rfl rfl rfl rfl a6 (fun w hw hw2 hF=>zcb _ w hF (GStore.mk x0_.domains (x0_.start.1,x0_.start.2) c_3) g0_ k0_512 v0_512 L0_512 hs0_512 (tf0_512.mono le1_3) (zf0_512.mono le1_3) vc_3 cc_3 hc_3 (cH lemmas i_5) (cH (cH clemmas i_5) 0) hd15_0 (htk hw) hw2.takes.1 hw2.takes.2 (hw2.takes0 hM0 htab.pos) fuel hfu r19 hr19)) ?_;rintro _ _ ⟨⟨⟩,F4,le3_4, -,rfl,rfl⟩;refine em ?_;have le1_4:=le1_3.trans le3_4;refine TL.run 5 rfl ?_;refine i3 ?_;refine dj (ι:=Unit) (fun z=>[(0, .pointer (some ⟨g0_,0,none⟩)),(1,vlemmas),(5, .int .i64 (i_5:Int)),(6,(cH (cH clemmas i_5) 0)),(9,vlemmas),(10, .int .i64 (lemmas.length:Int)),(11, .int .i64 (i_5:Int)),(27, .bool ((decide (¬r19.2=0))||(!r19.1)))]) (fun z=>[.row g0_ 144 ((x0_.domains.1.map U)++[.pointer (some ⟨k0_512.sp,0,none⟩),vc_3]), .sl vc_3 50 1 c_3.length cc_3.flatten, .fr F4]) (fun z=>True) ?_ ?_
    ·refine ed ?_;refine eM ?_;refine dQ rfl rfl rfl (fun h7=>?_) (fun h7=>?_)
     ·have p7:=of_decide_eq_true h7;refine lZ ?_;exact c4 () trivial (.c (.c (.c (.c (.c (.c (.c (.b (zkm h7).symm .nil)))))))) (List.Sublist.refl _)
     ·have p7:=of_decide_eq_false h7;refine lZ ?_;exact c4 () trivial (.c (.c (.c (.c (.c (.c (.c (.b (mi h7) .nil)))))))) (List.Sublist.refl _)
    ·rintro _ _;refine T.cond rfl (fun h8=>?_) (fun h8=>?_)
     ·replace hk:=dy hk h8;refine iA ?_;refine q1h ?_;obtain rfl:=Option.some.inj hk;exact cU rfl rfl (fun w' hw=>⟨(vc_3,cc_3),F4.toFrz,(OwnD.mono (rep:=cG) (fun _ _ _ _=>R_List_GChoice.mono) hc_3 le3_4),rfl,cX (hw.pick (idx:=[0,1,2]) rfl a6) hS0 le1_4⟩)
     ·have p8:=h8; (try simp only [cV] at p8);replace hk:=dz hk h8;refine iR ?_; (try dsimp only at hk);have hq:=eP hk;clear hk;obtain ⟨k11,hk11,hk⟩:=hq; (try dsimp only at hk);refine dj (ι:=Bool×List (List GChoice)×Value×List (List Value)×FzB w (cZ [.row g0_ 144 ((x0_.domains.1.map U)++[.pointer (some ⟨k0_512.sp,0,none⟩),v0_513]), .sl v0_513 50 1 x0_.list.length c0_513.flatten]) S0) (fun z=>[(0, .pointer (some ⟨g0_,0,none⟩)),(1,vlemmas),(5, .int .i64 (i_5:Int)),(9,vlemmas),(10, .int .i64 (lemmas.length:Int)),(11, .int .i64 (i_5:Int)),(39, .bool z.1)]) (fun z=>[.sl z.2.2.1 50 1 z.2.1.length z.2.2.2.1.flatten, .row g0_ 144 ((x0_.domains.1.map U)++[.pointer (some ⟨k0_512.sp,0,none⟩),z.2.2.1]), .fr z.2.2.2.2]) (fun z=>k11 (z.1,z.2.1)=some r∧OwnD cG z.2.2.2.2.toFrz 1 z.2.2.2.1 z.2.1∧OneC z.2.2.1∧F4.toFrz.Le z.2.2.2.2.toFrz) ?_ ?_
      ·refine gQ ?_;refine cI (dA rfl rfl (SlD.mono (rep:=cG) (fun _ _ _ _=>R_List_GChoice.mono) hlemmas le1_4).1 (SlD.mono (rep:=cG) (fun _ _ _ _=>R_List_GChoice.mono) hlemmas le1_4).2.1) ?_;refine q2c ?_;refine d5 ?_;refine dQ rfl rfl rfl (fun h12=>?_) (fun h12=>?_)
       ·have p12:=of_decide_eq_true h12;replace hk:=dy hk h12;refine d5 ?_;have hq:=dM hk;clear hk;obtain ⟨r37,hr37,hk⟩:=hq;refine cN (d3 [0,1,2] [.row g0_ 144 ((x0_.domains.1.map U)++([.pointer (some ⟨k0_512.sp,0,none⟩),vc_3]:List Value)), .sl vc_3 50 1 c_3.length cc_3.flatten] [] rfl rfl rfl rfl a6 (fun w hw hw2 hF=>zbL _ w hF (GStore.mk x0_.domains (x0_.start.1,x0_.start.2) c_3) g0_ k0_512 v0_512 L0_512 hs0_512 (tf0_512.mono le1_4) (zf0_512.mono le1_4) vc_3 cc_3 (OwnD.mono (rep:=cG) (fun _ _ _ _=>R_List_GChoice.mono) hc_3 le3_4) (cH lemmas i_5) (cH (cH clemmas i_5) 0) (SlC.mono hd15_0 le3_4) hw2.takes.1 hw2.takes.2 r37 hr37)) ?_;rintro _ _ ⟨⟨v37_1_513,c37_1_513⟩,F6,le4_6,ho37_1_513,rfl,rfl⟩;refine em ?_; (try dsimp only at ho37_1_513);refine fB 1 rfl ?_;intro iv37_1_513 hmv37_1_513;refine d5 ?_;refine TL.nil ?_;refine K.pick [1,0,2] rfl a6 ?_;exact c4 (decide (¬r37.1=0),r37.2,v37_1_513,c37_1_513,F6) ⟨hk,ho37_1_513,inferInstance,le4_6⟩ (.c (.c (.c (.c (.c (.c (.c .nil))))))) (List.Sublist.refl _)
       ·have p12:=of_decide_eq_false h12;replace hk:=dz hk h12;refine q2j ?_;refine K.pick [1,0,2] rfl a6 ?_;exact c4 (false,c_3,vc_3,cc_3,F4) ⟨hk,(OwnD.mono (rep:=cG) (fun _ _ _ _=>R_List_GChoice.mono) hc_3 le3_4),inferInstance,(Frz.Le.refl _)⟩ (.c (.c (.c (.c (.c (.c (.c .nil))))))) (List.Sublist.refl _)
      ·rintro ⟨x_9,c_10,vc_10,cc_10,F5⟩ ⟨hk,hc_10,oc_10,le4_5⟩; (try dsimp only at *);rw [←hk11] at hk; (try dsimp only at hk);have le1_5:=le1_4.trans le4_5;refine T.cond rfl (fun h13=>?_) (fun h13=>?_)
       ·replace hk:=dy hk h13;refine gy ?_;refine ly ?_;refine dd ?_;refine q0B ?_;obtain rfl:=Option.some.inj hk;exact cU rfl rfl (fun w' hw=>⟨(vc_10,cc_10),F5.toFrz,hc_10,rfl,cX (hw.pick (idx:=[1,0,2]) rfl a6) hS0 le1_5⟩)
       ·replace hk:=dz hk h13;refine gB ?_;rw [←hn4] at hk;exact K.next ((i_5+1),c_10,vc_10,cc_10,F5) ⟨hk,hc_10,inferInstance,le1_5⟩ a9 (.c (.c (.c (.c (.c .nil))))) (List.Sublist.refl _)
   ·have p6:=of_decide_eq_false h6;rw [fR a5,←hkk4] at hk; (try dsimp only at hk);refine ff ?_;exact c4 (c_3,vc_3,cc_3,F3) ⟨hk,hc_3,inferInstance,le1_3⟩ (.c .nil) (List.Sublist.refl _)
 ·rintro ⟨c_1,vc_1,cc_1,F2⟩ ⟨hk,hc_1,oc_1,le1_2⟩; (try dsimp only at *);rw [←hk2] at hk; (try dsimp only at hk);refine gy ?_;refine cI (dA rfl rfl (SlD.mono (rep:=cG) (fun _ _ _ _=>R_List_GChoice.mono) hlemmas le1_2).1 (SlD.mono (rep:=cG) (fun _ _ _ _=>R_List_GChoice.mono) hlemmas le1_2).2.1) ?_;refine eU ?_;obtain rfl:=Option.some.inj hk;exact cU rfl rfl (fun w' hw=>⟨(vc_1,cc_1),F2.toFrz,hc_1,rfl,cX (hw.pick (idx:=[1,0,2]) rfl a6) hS0 le1_2⟩)
def zcL (fuel:Nat)(p:GProblem)(x_:GProof):Option (Int×Int):=
 (zcI fuel p x_).bind fun r11=>
 (bif (r11.1).isSome then
  (bif decide (¬r11.2=0) then
   some (0,r11.2)
   else
   (zbX fuel (r11.1.getD default) x_.Lemmas).bind fun r20=>
   some (r20.1,0))
  else
  (bif decide (¬r11.2=0) then
   some (0,r11.2)
   else
   none))
theorem zeI (F0:Frz)(w:World)(hF0:F0.At w)(p:GProblem)(vp_0:Value)(cp_0:List (List Value))(hp_0:SlD cJ F0 vp_0 2 cp_0 p.Domains)(vp_1:Value)(hp_1:SlC F0 vp_1 5 (p.Rules.Pairs.map c8))(vp_2:Value)(hp_2:SlC F0 vp_2 5 (p.Rules.Loads.map da))(vp_3:Value)(hp_3:SlC F0 vp_3 4 (p.Rules.Caps.map dh))(x_:GProof)(vx__0:Value)(hx__0:SlC F0 vx__0 1 (x_.Stations.map eI))(vx__1:Value)(cx__1:List (List Value))(hx__1:SlD cG F0 vx__1 1 cx__1 x_.Lemmas)(htab:Tab w)(fuel:Nat)(hfu:100000≤fuel)(r:Int×Int)(hr:zcL fuel p x_=some r):Calls Tryz.prog 11 #[.agg [vp_0,vp_1,vp_2,vp_3].toArray, .agg [vx__0,vx__1].toArray] w fun e w'=>e= .returned (.tuple #[.int .i64 r.1, .int .i64 r.2])∧Below w.heap.size w w':=by
 have hk:=hr;unfold zcL at hk;haveI:=hp_0.1.oneC;haveI:=hp_1.oneC;haveI:=hp_2.oneC;haveI:=hp_3.oneC;haveI:=hx__0.oneC;haveI:=hx__1.1.oneC;obtain ⟨S0,F1,rfl,hS0,hp0⟩:=fK hF0;have hM0:¬(fun _:Nat=>False) 0:=fun h=>h;have htk:∀ {hs:HS} {w':World},Hp w (fun _=>False) hs w'→Tab w':=fun hw=>htab.keptF hw;refine dq Tryz.func11 rfl rfl rfl hp0 ?_;refine kA ?_;rintro _ _ ⟨g2,rfl,rfl⟩;refine q3Z ?_;rintro _ _ ⟨g3,rfl,rfl⟩;refine d5 ?_;refine i3 ?_;have hq:=dM hk;clear hk;obtain ⟨r11,hr11,hk⟩:=hq; (try dsimp only at hk);refine iH ((r11.1).isSome) (fun h1=>?_) (fun h1=>?_)
 ·replace hk:=dy hk h1;refine q2e ?_;refine gY ?_;refine cN (d3 [2,0,1] [] [.row g3 33 [vx__0,vx__1], .row g2 29 [vp_0,vp_1,vp_2,vp_3]] rfl rfl rfl rfl a6 (fun w hw hw2 hF=>(zcN _ w hF p vp_0 cp_0 hp_0 vp_1 hp_1 vp_2 hp_2 vp_3 hp_3 x_ vx__0 hx__0 vx__1 cx__1 hx__1 (htk hw) fuel hfu r11 hr11).mono (fun e w' hp=>hp.1 h1))) ?_;rintro _ _ ⟨⟨g11_n,k11_n_512,v11_n_512,L11_n_512,v11_n_513,c11_n_513⟩,F2,le1_2,⟨hs11_n_512,tf11_n_512,zf11_n_512,ho11_n_513⟩,rfl,rfl⟩;refine em ?_; (try dsimp only at hs11_n_512 tf11_n_512 zf11_n_512 ho11_n_513);refine fB 1 rfl ?_;intro iv11_n_513 hmv11_n_513;refine q1T ?_;refine T.cond rfl (fun h2=>?_) (fun h2=>?_)
  ·have p2:=of_decide_eq_true h2;replace hk:=dy hk h2;refine de ?_;refine eM ?_;refine jK ?_;obtain rfl:=Option.some.inj hk;exact q4z
  ·have p2:=of_decide_eq_false h2;replace hk:=dz hk h2;refine iR ?_;have hq:=dM hk;clear hk;obtain ⟨r20,hr20,hk⟩:=hq; (try dsimp only at hk);refine fo ?_;refine q1O ?_;refine cN (d3 [0,1,2,3,4] [.row g11_n 144 ((((r11.1.getD default).domains).1.map U)++([.pointer (some ⟨k11_n_512.sp,0,none⟩),v11_n_513]:List Value)), .sl v11_n_513 50 1 ((r11.1.getD default).list).length c11_n_513.flatten] [.row g3 33 [vx__0,vx__1], .row g2 29 [vp_0,vp_1,vp_2,vp_3]] rfl rfl rfl rfl a6 (fun w hw hw2 hF=>zcW _ w hF (r11.1.getD default) g11_n k11_n_512 v11_n_512 L11_n_512 hs11_n_512 tf11_n_512 zf11_n_512 v11_n_513 c11_n_513 ho11_n_513 x_.Lemmas vx__1 cx__1 (SlD.mono (rep:=cG) (fun _ _ _ _=>R_List_GChoice.mono) hx__1 le1_2) (htk hw) hw2.takes.1 hw2.takes.2 (hw2.takes0 hM0 htab.pos) fuel hfu r20 hr20)) ?_;rintro _ _ ⟨⟨v20_1_513,c20_1_513⟩,F3,le2_3,ho20_1_513,rfl,rfl⟩;refine em ?_; (try dsimp only at ho20_1_513);refine fB 1 rfl ?_;intro iv20_1_513 hmv20_1_513;refine ji ?_;obtain rfl:=Option.some.inj hk;exact q4z
 ·replace hk:=dz hk h1;refine q2e ?_;refine gY ?_;refine cN (d3 [2,0,1] [] [.row g3 33 [vx__0,vx__1], .row g2 29 [vp_0,vp_1,vp_2,vp_3]] rfl rfl rfl rfl a6 (fun w hw hw2 hF=>(zcN _ w hF p vp_0 cp_0 hp_0 vp_1 hp_1 vp_2 hp_2 vp_3 hp_3 x_ vx__0 hx__0 vx__1 cx__1 hx__1 (htk hw) fuel hfu r11 hr11).mono (fun e w' hp=>hp.2 h1))) ?_;rintro _ _ ⟨⟨⟩,F4,le1_4, -,rfl,rfl⟩;refine em ?_;refine q1T ?_;refine T.cond rfl (fun h3=>?_) (fun h3=>?_)
  ·have p3:=of_decide_eq_true h3;replace hk:=dy hk h3;refine de ?_;refine eM ?_;refine jK ?_;obtain rfl:=Option.some.inj hk;exact q4z
  ·have p3:=of_decide_eq_false h3;replace hk:=dz hk h3;refine iR ?_;cases hk
def zcK (fuel:Nat)(p:GProblem)(x_:GProof):Option Int:=
 (zcL fuel p x_).bind fun r10=>
 (bif ((decide (r10.2=0))&&(decide (r10.1<(x_.Lemmas.length:Int)))) then
  some 10
  else
  some r10.2)
theorem zeG (F0:Frz)(w:World)(hF0:F0.At w)(p:GProblem)(vp_0:Value)(cp_0:List (List Value))(hp_0:SlD cJ F0 vp_0 2 cp_0 p.Domains)(vp_1:Value)(hp_1:SlC F0 vp_1 5 (p.Rules.Pairs.map c8))(vp_2:Value)(hp_2:SlC F0 vp_2 5 (p.Rules.Loads.map da))(vp_3:Value)(hp_3:SlC F0 vp_3 4 (p.Rules.Caps.map dh))(x_:GProof)(vx__0:Value)(hx__0:SlC F0 vx__0 1 (x_.Stations.map eI))(vx__1:Value)(cx__1:List (List Value))(hx__1:SlD cG F0 vx__1 1 cx__1 x_.Lemmas)(htab:Tab w)(fuel:Nat)(hfu:100000≤fuel)(r:Int)(hr:zcK fuel p x_=some r):Calls Tryz.prog 15 #[.agg [vp_0,vp_1,vp_2,vp_3].toArray, .agg [vx__0,vx__1].toArray] w fun e w'=>e= .returned (.int .i64 r)∧Below w.heap.size w w':=by
 have hk:=hr;unfold zcK at hk;haveI:=hp_0.1.oneC;haveI:=hp_1.oneC;haveI:=hp_2.oneC;haveI:=hp_3.oneC;haveI:=hx__0.oneC;haveI:=hx__1.1.oneC;obtain ⟨S0,F1,rfl,hS0,hp0⟩:=fK hF0;have hM0:¬(fun _:Nat=>False) 0:=fun h=>h;have htk:∀ {hs:HS} {w':World},Hp w (fun _=>False) hs w'→Tab w':=fun hw=>htab.keptF hw;refine dq Tryz.func15 rfl rfl rfl hp0 ?_;refine kA ?_;rintro _ _ ⟨g2,rfl,rfl⟩;refine q3Z ?_;rintro _ _ ⟨g3,rfl,rfl⟩;refine kx ?_;have hq:=dM hk;clear hk;obtain ⟨r10,hr10,hk⟩:=hq; (try dsimp only at hk);refine q2e ?_;refine gY ?_;refine cN (cL rfl rfl rfl (fun w hw=>zeI _ w (hw.fr (i:=2) rfl) p vp_0 cp_0 hp_0 vp_1 hp_1 vp_2 hp_2 vp_3 hp_3 x_ vx__0 hx__0 vx__1 cx__1 hx__1 (htab.keptF hw) fuel hfu r10 hr10)) ?_;refine ex ?_;refine TL.run 5 rfl ?_;refine jB ?_;refine dj (ι:=Unit) (fun z=>[(6, .int .i64 r10.2),(21, .bool ((decide (r10.2=0))&&(decide (r10.1<(x_.Lemmas.length:Int)))))]) (fun z=>[.row g3 33 [vx__0,vx__1], .row g2 29 [vp_0,vp_1,vp_2,vp_3], .fr F1]) (fun z=>True) ?_ ?_
 ·refine ed ?_;refine eM ?_;refine dQ rfl rfl rfl (fun h1=>?_) (fun h1=>?_)
  ·have p1:=of_decide_eq_true h1;refine dd ?_;refine eu ?_;refine q3B ?_;have hm19:x_.Lemmas.length≤9223372036854775807:=hx__1.2.1▸hx__1.1.max;refine d5 ?_;refine TL.nil ?_;exact c4 () trivial (.c (.b (zgb h1) .nil)) (List.Sublist.refl _)
  ·have p1:=of_decide_eq_false h1;refine TL.run 6 rfl ?_;refine TL.nil ?_;exact c4 () trivial (.c (.b (zef h1).symm .nil)) (List.Sublist.refl _)
 ·rintro _ _;have hm19:x_.Lemmas.length≤9223372036854775807:=hx__1.2.1▸hx__1.1.max;refine T.cond rfl (fun h2=>?_) (fun h2=>?_)
  ·have p2:=h2; (try simp only [cV] at p2);replace hk:=dy hk h2;refine gF ?_;obtain rfl:=Option.some.inj hk;exact fw
  ·replace hk:=dz hk h2;refine gV ?_;refine ji ?_;obtain rfl:=Option.some.inj hk;exact fw
def zdP (fuel:Nat)(p:GProblem)(x_:GProof):Option (GProof×Int):=
 (zcI fuel p x_).bind fun r18=>
 (bif (r18.1).isSome then
  (bif decide (¬r18.2=0) then
   some ((GProof.mk [] []),r18.2)
   else
   (zaV (r18.1.getD default)).bind fun r26=>
   (bif (r26).isSome then
    (zbX fuel (r26.getD default) x_.Lemmas).bind fun r29=>
    (bif decide (r29.1<(x_.Lemmas.length:Int)) then
     some ((GProof.mk [] []),10)
     else
     dS (fun (later_5:List (List GChoice))=>
      d4 (db x_.Stations.length 8) <|
      some ((GProof.mk x_.Stations (zc8 later_5)),0))
     (fun k6=>
      d4 (-1≤(((x_.Lemmas.length:Int) - 1) - 1)) <|
      lY (fun (i_9:Nat) (next8:List (List GChoice)→Option (GProof×Int)) (later_7:List (List GChoice))=>
       (zaV (r18.1.getD default)).bind fun r47=>
       (bif (r47).isSome then
        dS (fun (c_12:List (List GChoice))=>
         d4 (db later_7.length 24) <|
         (zbX fuel (GStore.mk ((r47.getD default).domains) (((r47.getD default).start).1,((r47.getD default).start).2) c_12) (zc8 later_7)).bind fun r67=>
         (bif decide (r67.1<((zc8 later_7).length:Int)) then
          d4 (db ((cH x_.Lemmas i_9).length) 16) <|
          d4 (db (later_7++[(cH x_.Lemmas i_9)]).length 24) <|
          next8 (later_7++[(cH x_.Lemmas i_9)])
          else
          next8 later_7))
        (fun k13=>
         di (fun (i_16:Nat) (next15:List (List GChoice)→Option (GProof×Int)) (c_14:List (List GChoice))=>
          (zaZ (GStore.mk ((r47.getD default).domains) (((r47.getD default).start).1,((r47.getD default).start).2) c_14) (cH (x_.Lemmas.take i_9) i_16)).bind fun r59=>
          next15 r59.2)
         (fun (c_14:List (List GChoice))=>
          k13 c_14) (((x_.Lemmas.take i_9).length) - 0) 0 ((r47.getD default).list))
        else
        dS (fun (_:Unit)=>
         d4 (db later_7.length 24) <|
         none)
        (fun k19=>
         di (fun (i_21:Nat) (next20:Unit→Option (GProof×Int)) (_:Unit)=>
          none)
         (fun (_:Unit)=>
          k19 ()) (((x_.Lemmas.take i_9).length) - 0) 0 ())))
      (fun (later_7:List (List GChoice))=>
       k6 later_7) (((((x_.Lemmas.length:Int) - 1) - 1)+1).toNat) ([[]]:List (List GChoice))))
    else
    none))
  else
  (bif decide (¬r18.2=0) then
   some ((GProof.mk [] []),r18.2)
   else
   none))
theorem zhK (F0:Frz)(w:World)(hF0:F0.At w)(p:GProblem)(vp_0:Value)(cp_0:List (List Value))(hp_0:SlD cJ F0 vp_0 2 cp_0 p.Domains)(vp_1:Value)(hp_1:SlC F0 vp_1 5 (p.Rules.Pairs.map c8))(vp_2:Value)(hp_2:SlC F0 vp_2 5 (p.Rules.Loads.map da))(vp_3:Value)(hp_3:SlC F0 vp_3 4 (p.Rules.Caps.map dh))(x_:GProof)(vx__0:Value)(hx__0:SlC F0 vx__0 1 (x_.Stations.map eI))(vx__1:Value)(cx__1:List (List Value))(hx__1:SlD cG F0 vx__1 1 cx__1 x_.Lemmas)(htab:Tab w)(fuel:Nat)(hfu:100000≤fuel)(r:GProof×Int)(hr:zdP fuel p x_=some r):Calls Tryz.prog 18 #[.agg [vp_0,vp_1,vp_2,vp_3].toArray, .agg [vx__0,vx__1].toArray] w fun e w'=>∃(y:Value×Value×List (List Value)) (G:Frz),(SlC G y.1 1 (r.1.Stations.map eI)∧SlD cG G y.2.1 1 y.2.2 r.1.Lemmas)∧e= .returned (.tuple #[.agg [y.1,y.2.1].toArray, .int .i64 r.2])∧Fx F0 w G w':=by
 have hk:=hr;unfold zdP at hk;haveI:=hp_0.1.oneC;haveI:=hp_1.oneC;haveI:=hp_2.oneC;haveI:=hp_3.oneC;haveI:=hx__0.oneC;haveI:=hx__1.1.oneC;obtain ⟨S0,F1,rfl,hS0,hp0⟩:=fK hF0;have hM0:¬(fun _:Nat=>False) 0:=fun h=>h;have htk:∀ {hs:HS} {w':World},Hp w (fun _=>False) hs w'→Tab w':=fun hw=>htab.keptF hw;refine dq Tryz.func18 rfl rfl rfl hp0 ?_;refine kA ?_;rintro _ _ ⟨g2,rfl,rfl⟩;refine q3Z ?_;rintro _ _ ⟨g3,rfl,rfl⟩;refine fQ ?_;rintro _ _ ⟨g4,rfl,rfl⟩;refine kx ?_;have hq:=dM hk;clear hk;obtain ⟨r18,hr18,hk⟩:=hq; (try dsimp only at hk);refine iH ((r18.1).isSome) (fun h1=>?_) (fun h1=>?_)
 ·replace hk:=dy hk h1;refine ed ?_;refine cI (dJ 2) ?_;refine cI (dJ 1) ?_;refine cN (d3 [3,0,1,2] [] [.row g4 33 [(.slice none 0 0),(.slice none 0 0)], .row g3 33 [vx__0,vx__1], .row g2 29 [vp_0,vp_1,vp_2,vp_3]] rfl rfl rfl rfl a6 (fun w hw hw2 hF=>(zcN _ w hF p vp_0 cp_0 hp_0 vp_1 hp_1 vp_2 hp_2 vp_3 hp_3 x_ vx__0 hx__0 vx__1 cx__1 hx__1 (htk hw) fuel hfu r18 hr18).mono (fun e w' hp=>hp.1 h1))) ?_;rintro _ _ ⟨⟨g18_n,k18_n_512,v18_n_512,L18_n_512,v18_n_513,c18_n_513⟩,F2,le1_2,⟨hs18_n_512,tf18_n_512,zf18_n_512,ho18_n_513⟩,rfl,rfl⟩;refine em ?_; (try dsimp only at hs18_n_512 tf18_n_512 zf18_n_512 ho18_n_513);refine fB 1 rfl ?_;intro iv18_n_513 hmv18_n_513;refine q1T ?_;refine T.cond rfl (fun h2=>?_) (fun h2=>?_)
  ·have p2:=of_decide_eq_true h2;replace hk:=dy hk h2;refine de ?_;refine iX ?_;refine dd ?_;refine d7 (dr 3) ?_;refine lJ ?_;refine jK ?_;obtain rfl:=Option.some.inj hk;exact gz 3 rfl rfl rfl rfl rfl (fun w' hw=>⟨((.slice none 0 0),(.slice none 0 0),[]),F2.toFrz,⟨(SlC.nil _ 1),(SlD.nil _ _ 1)⟩,rfl,fC hw (i:=2) rfl hS0 le1_2⟩)
  ·have p2:=of_decide_eq_false h2;replace hk:=dz hk h2;refine q3h ?_;have hq:=dM hk;clear hk;obtain ⟨r26,hr26,hk⟩:=hq; (try dsimp only at hk);refine iH ((r26).isSome) (fun h3=>?_) (fun h3=>?_)
   ·replace hk:=dy hk h3;have hq:=dM hk;clear hk;obtain ⟨r29,hr29,hk⟩:=hq; (try dsimp only at hk);refine dT (.still 0 (sN 2 2 (sN 5 3 (.eff 1 (.eff 4 (.still 8 .done)))))) _ a8 (List.Sublist.refl _) ?_;refine q3O ?_;refine cR rfl (cS 4) ?_;refine iq ?_;refine cR rfl (cS 4) ?_;refine cR rfl (dA rfl rfl (SlD.mono (rep:=cG) (fun _ _ _ _=>R_List_GChoice.mono) hx__1 le1_2).1 (SlD.mono (rep:=cG) (fun _ _ _ _=>R_List_GChoice.mono) hx__1 le1_2).2.1) ?_;have hm32:x_.Lemmas.length≤9223372036854775807:=(SlD.mono (rep:=cG) (fun _ _ _ _=>R_List_GChoice.mono) hx__1 le1_2).2.1▸(SlD.mono (rep:=cG) (fun _ _ _ _=>R_List_GChoice.mono) hx__1 le1_2).1.max;refine dF ?_;refine dn rfl (Wt.none) rfl rfl (d3 [0,1,2,3,4,5] [.row g18_n 144 ((((r18.1.getD default).domains).1.map U)++([.pointer (some ⟨k18_n_512.sp,0,none⟩),v18_n_513]:List Value)), .sl v18_n_513 50 1 ((r18.1.getD default).list).length c18_n_513.flatten] [.row g4 33 [(.slice none 0 0),(.slice none 0 0)], .row g3 33 [vx__0,vx__1], .row g2 29 [vp_0,vp_1,vp_2,vp_3]] rfl rfl rfl rfl a6 (fun w hw hw2 hF=>(zbg _ w hF (r18.1.getD default) g18_n k18_n_512 v18_n_512 L18_n_512 hs18_n_512 tf18_n_512 zf18_n_512 v18_n_513 c18_n_513 ho18_n_513 (htk hw) hw2.takes.1 hw2.takes.2 (hw2.takes0 hM0 htab.pos) r26 hr26).mono (fun e w' hp=>hp.1 h3))) ?_;rintro _ _ ⟨⟨g26_n,k26_n_512,v26_n_512,L26_n_512,v26_n_513,c26_n_513⟩,F3,le2_3,⟨hs26_n_512,tf26_n_512,zf26_n_512,ho26_n_513⟩,rfl,rfl⟩;refine em ?_; (try dsimp only at hs26_n_512 tf26_n_512 zf26_n_512 ho26_n_513);have le1_3:=le1_2.trans le2_3;refine ⟨(fun w hw=>(hw.frLe (i:=4) rfl le2_3).sub Sx),?_⟩;refine lX 3 rfl ?_;intro iv26_n_513 hmv26_n_513;refine dF ?_;refine dn rfl (Wt.none) rfl rfl (d3 [2,3,4,0,1,5,6,7] [.row g26_n 144 ((((r26.getD default).domains).1.map U)++([.pointer (some ⟨k26_n_512.sp,0,none⟩),v26_n_513]:List Value)), .sl v26_n_513 50 1 ((r26.getD default).list).length c26_n_513.flatten] [.row g18_n 144 ((((r18.1.getD default).domains).1.map U)++([.pointer (some ⟨k18_n_512.sp,0,none⟩),v18_n_513]:List Value)), .sl v18_n_513 50 1 ((r18.1.getD default).list).length c18_n_513.flatten, .row g4 33 [(.slice none 0 0),(.slice none 0 0)], .row g3 33 [vx__0,vx__1], .row g2 29 [vp_0,vp_1,vp_2,vp_3]] rfl rfl rfl rfl a6 (fun w hw hw2 hF=>zcW _ w hF (r26.getD default) g26_n k26_n_512 v26_n_512 L26_n_512 hs26_n_512 tf26_n_512 zf26_n_512 v26_n_513 c26_n_513 ho26_n_513 x_.Lemmas vx__1 cx__1 (SlD.mono (rep:=cG) (fun _ _ _ _=>R_List_GChoice.mono) hx__1 le1_3) (htk hw) hw2.takes.1 hw2.takes.2 (hw2.takes0 hM0 htab.pos) fuel hfu r29 hr29)) ?_;rintro _ _ ⟨⟨v29_1_513,c29_1_513⟩,F4,le3_4,ho29_1_513,rfl,rfl⟩;refine em ?_; (try dsimp only at ho29_1_513);have le1_4:=le1_3.trans le3_4;have le2_4:=le2_3.trans le3_4;refine ⟨(fun w hw=>(hw.frLe (i:=2) rfl le2_4).pick (idx:=[3,4,2,5,6,7]) rfl a6),?_⟩;refine lX 1 rfl ?_;intro iv29_1_513 hmv29_1_513;refine ky ?_;refine T.cond rfl (fun h4=>?_) (fun h4=>?_)
    ·have p4:=of_decide_eq_true h4;replace hk:=dy hk h4;refine de ?_;refine iX ?_;refine d7 (dr 5) ?_;refine lJ ?_;refine jK ?_;obtain rfl:=Option.some.inj hk;exact gz 5 rfl rfl rfl rfl rfl (fun w' hw=>⟨((.slice none 0 0),(.slice none 0 0),[]),F4.toFrz,⟨(SlC.nil _ 1),(SlD.nil _ _ 1)⟩,rfl,fC hw (i:=2) rfl hS0 le1_4⟩)
    ·have p4:=of_decide_eq_false h4;replace hk:=dz hk h4;refine gV ?_;refine eZ ?_;refine cI (cS 6) ?_;refine cI (dA rfl rfl (SlD.mono (rep:=cG) (fun _ _ _ _=>R_List_GChoice.mono) hx__1 le1_4).1 (SlD.mono (rep:=cG) (fun _ _ _ _=>R_List_GChoice.mono) hx__1 le1_4).2.1) ?_;refine q2c ?_;refine f9 ?_;refine jg ?_;rintro _ _ ⟨g39,rfl,rfl⟩;have hl39:OwnD cG F4.toFrz 1 [[(.slice none 0 0)]] ([[]]:List (List GChoice)):=(cP (OwnD.nil _ _ 1) ⟨_,rfl,(SlC.nil _ 2)⟩);refine TL.litO 0 (m:=1) (size:=1) (k:=([[]]:List (List GChoice)).length) (l2:=[[(.slice none 0 0)]].flatten) rfl rfl rfl rfl a6 ?_;dsimp only [List.set];refine kL ?_;refine q2c ?_;refine dP ?_;have hq:=eP hk;clear hk;obtain ⟨k6,hk6,hk⟩:=hq; (try dsimp only at hk);refine dj (ι:=List (List GChoice)×Value×List (List Value)×FzB w (fun _=>False) S0) (fun z=>[(3, .pointer (some ⟨g3,0,none⟩)),(4, .pointer (some ⟨g4,0,none⟩)),(9,z.2.1)]) (fun z=>[.sl z.2.1 50 1 z.1.length z.2.2.1.flatten, .row g4 33 [(.slice none 0 0),(.slice none 0 0)], .row g3 33 [vx__0,vx__1], .fr z.2.2.2]) (fun z=>k6 z.1=some r∧OwnD cG z.2.2.2.toFrz 1 z.2.2.1 z.1∧OneC z.2.1∧F4.toFrz.Le z.2.2.2.toFrz) ?_ ?_
     ·have hq:(-1≤(((x_.Lemmas.length:Int) - 1) - 1))∧_:=eQ hk;clear hk;obtain ⟨gl8,hk⟩:=hq; (try dsimp only at hk);have hq:=zjy hk;clear hk;obtain ⟨f8,kk8,hf8,hkk8,hk⟩:=hq;refine gg ?_;refine T.pick [0,4,5,6,7,3] rfl a6 ?_;refine T.loop (ι:=Nat×List (List GChoice)×Value×List (List Value)×FzB w (fun _=>False) S0) (fun z=>[(3, .pointer (some ⟨g3,0,none⟩)),(4, .pointer (some ⟨g4,0,none⟩)),(6, .pointer (some ⟨g18_n,0,none⟩)),(9,z.2.2.1),(10, .int .i64 ((z.1:Int) - 1))]) (fun z=>[.sl z.2.2.1 50 1 z.2.1.length z.2.2.2.1.flatten, .row g18_n 144 ((((r18.1.getD default).domains).1.map U)++[.pointer (some ⟨k18_n_512.sp,0,none⟩),v18_n_513]), .sl v18_n_513 50 1 ((r18.1.getD default).list).length c18_n_513.flatten, .row g4 33 [(.slice none 0 0),(.slice none 0 0)], .row g3 33 [vx__0,vx__1], .fr z.2.2.2.2]) (fun z=>lY f8 kk8 z.1 z.2.1=some r∧z.1≤((((x_.Lemmas.length:Int) - 1) - 1)+1).toNat∧OwnD cG z.2.2.2.2.toFrz 1 z.2.2.2.1 z.2.1∧OneC z.2.2.1∧F4.toFrz.Le z.2.2.2.2.toFrz) (fun z=>z.1) (((((x_.Lemmas.length:Int) - 1) - 1)+1).toNat,([[]]:List (List GChoice)),(.slice (some ⟨g39,0,none⟩) 1 1),[[(.slice none 0 0)]],F4) ?_ ?_ ?_ ?_
      ·exact ⟨hk,(Nat.le_refl _),hl39,inferInstance,(Frz.Le.refl _)⟩
      ·exact (.c (.c (.c (.c (.i (a:=(((x_.Lemmas.length:Int) - 1) - 1)) (by first|omega|(dsimp only;omega)) .nil)))))
      ·exact fv
      ·rintro ⟨i_9,later_7,vlater_7,clater_7,F6⟩ ⟨hk,hle8,hlater_7,olater_7,le4_6⟩; (try dsimp only at *);have le1_6:=le1_4.trans le4_6;have le2_6:=le2_4.trans le4_6;have le3_6:=le3_4.trans le4_6;refine iJ ?_;refine iK ?_;refine T.cond rfl (fun h10=>?_) (fun h10=>?_)
       ·have p10:=of_decide_eq_true h10;obtain ⟨i_9',rfl⟩:∃q,i_9=q+1:=⟨i_9 - 1,by omega⟩;replace hk:f8 i_9' (lY f8 kk8 i_9') later_7=some r:=hk;generalize hn8:lY f8 kk8 i_9'=next8 at hk;rw [←hf8] at hk; (try dsimp only at hk);refine mc (gs:=[(3, .pointer (some ⟨g3,0,none⟩)),(4, .pointer (some ⟨g4,0,none⟩)),(6, .pointer (some ⟨g18_n,0,none⟩)),(9,vlater_7),(10, .int .i64 (i_9':Int))]) (by repeat (first|exact Sub.nil|refine Sub.cons rfl ?_|refine eH rfl a5 ?_|refine jp rfl b6 ?_)) (List.Sublist.refl _) ?_;refine q1S ?_;have hq:=dM hk;clear hk;obtain ⟨r47,hr47,hk⟩:=hq; (try dsimp only at hk);refine iH ((r47).isSome) (fun h11=>?_) (fun h11=>?_)
        ·replace hk:=dy hk h11;refine fo ?_;refine cN (d3 [1,2,5,0,3,4] [.row g18_n 144 ((((r18.1.getD default).domains).1.map U)++([.pointer (some ⟨k18_n_512.sp,0,none⟩),v18_n_513]:List Value)), .sl v18_n_513 50 1 ((r18.1.getD default).list).length c18_n_513.flatten] [.sl vlater_7 50 1 later_7.length clater_7.flatten, .row g4 33 [(.slice none 0 0),(.slice none 0 0)], .row g3 33 [vx__0,vx__1]] rfl rfl rfl rfl a6 (fun w hw hw2 hF=>(zbg _ w hF (r18.1.getD default) g18_n k18_n_512 v18_n_512 L18_n_512 hs18_n_512 (tf18_n_512.mono le2_6) (zf18_n_512.mono le2_6) v18_n_513 c18_n_513 (OwnD.mono (rep:=cG) (fun _ _ _ _=>R_List_GChoice.mono) ho18_n_513 le2_6) (htk hw) hw2.takes.1 hw2.takes.2 (hw2.takes0 hM0 htab.pos) r47 hr47).mono (fun e w' hp=>hp.1 h11))) ?_;rintro _ _ ⟨⟨g47_n,k47_n_512,v47_n_512,L47_n_512,v47_n_513,c47_n_513⟩,F7,le6_7,⟨hs47_n_512,tf47_n_512,zf47_n_512,ho47_n_513⟩,rfl,rfl⟩;refine em ?_; (try dsimp only at hs47_n_512 tf47_n_512 zf47_n_512 ho47_n_513);have le1_7:=le1_6.trans le6_7;have le2_7:=le2_6.trans le6_7;have le3_7:=le3_6.trans le6_7;have le4_7:=le4_6.trans le6_7;refine fB 3 rfl ?_;intro iv47_n_513 hmv47_n_513;refine jd ?_;refine q2C ?_;refine dd ?_;refine cI (k7 (i:=i_9') rfl rfl rfl (SlD.mono (rep:=cG) (fun _ _ _ _=>R_List_GChoice.mono) hx__1 le1_7).1 (SlD.mono (rep:=cG) (fun _ _ _ _=>R_List_GChoice.mono) hx__1 le1_7).2.1 rfl a5) ?_;have hs51_:SlD cG F1.toFrz (gh vx__1 0 i_9' 1) 1 (cx__1.take i_9') (x_.Lemmas.take i_9'):=hx__1.sliceh (i:=i_9') a5;haveI:=hs51_.1.oneC;refine cI (dA rfl rfl (SlD.mono (rep:=cG) (fun _ _ _ _=>R_List_GChoice.mono) hs51_ le1_7).1 (SlD.mono (rep:=cG) (fun _ _ _ _=>R_List_GChoice.mono) hs51_ le1_7).2.1) ?_;have hm52:(x_.Lemmas.take i_9').length≤9223372036854775807:=(SlD.mono (rep:=cG) (fun _ _ _ _=>R_List_GChoice.mono) hs51_ le1_7).2.1▸(SlD.mono (rep:=cG) (fun _ _ _ _=>R_List_GChoice.mono) hs51_ le1_7).1.max;refine dP ?_;have hq:=eP hk;clear hk;obtain ⟨k13,hk13,hk⟩:=hq; (try dsimp only at hk);refine dj (ι:=List (List GChoice)×Value×List (List Value)×FzB w (fun _=>False) S0) (fun z=>[(3, .pointer (some ⟨g3,0,none⟩)),(4, .pointer (some ⟨g4,0,none⟩)),(6, .pointer (some ⟨g18_n,0,none⟩)),(9,vlater_7),(10, .int .i64 (i_9':Int)),(11, .pointer (some ⟨g47_n,0,none⟩))]) (fun z=>[.sl z.2.1 50 1 z.1.length z.2.2.1.flatten, .row g47_n 144 ((((r47.getD default).domains).1.map U)++[.pointer (some ⟨k47_n_512.sp,0,none⟩),z.2.1]), .row g18_n 144 ((((r18.1.getD default).domains).1.map U)++[.pointer (some ⟨k18_n_512.sp,0,none⟩),v18_n_513]), .sl v18_n_513 50 1 ((r18.1.getD default).list).length c18_n_513.flatten, .sl vlater_7 50 1 later_7.length clater_7.flatten, .row g4 33 [(.slice none 0 0),(.slice none 0 0)], .row g3 33 [vx__0,vx__1], .fr z.2.2.2]) (fun z=>k13 z.1=some r∧OwnD cG z.2.2.2.toFrz 1 z.2.2.1 z.1∧OneC z.2.1∧F7.toFrz.Le z.2.2.2.toFrz) ?_ ?_
         ·have hq:=fS hk;clear hk;obtain ⟨f15,kk15,hf15,hkk15,hk⟩:=hq;refine gg ?_;refine T.pick [3,2,0,1,5,6,7,4] rfl a6 ?_;refine T.loop (ι:=Nat×List (List GChoice)×Value×List (List Value)×FzB w (fun _=>False) S0) (fun z=>[(3, .pointer (some ⟨g3,0,none⟩)),(4, .pointer (some ⟨g4,0,none⟩)),(6, .pointer (some ⟨g18_n,0,none⟩)),(9,vlater_7),(10, .int .i64 (i_9':Int)),(11, .pointer (some ⟨g47_n,0,none⟩)),(51,(gh vx__1 0 i_9' 1)),(52, .int .i64 ((x_.Lemmas.take i_9').length:Int)),(53, .int .i64 (z.1:Int))]) (fun z=>[.sl z.2.2.1 50 1 z.2.1.length z.2.2.2.1.flatten, .row g47_n 144 ((((r47.getD default).domains).1.map U)++[.pointer (some ⟨k47_n_512.sp,0,none⟩),z.2.2.1]), .row g18_n 144 ((((r18.1.getD default).domains).1.map U)++[.pointer (some ⟨k18_n_512.sp,0,none⟩),v18_n_513]), .sl v18_n_513 50 1 ((r18.1.getD default).list).length c18_n_513.flatten, .sl vlater_7 50 1 later_7.length clater_7.flatten, .row g4 33 [(.slice none 0 0),(.slice none 0 0)], .row g3 33 [vx__0,vx__1], .fr z.2.2.2.2]) (fun z=>di f15 kk15 (((x_.Lemmas.take i_9').length) - z.1) z.1 z.2.1=some r∧OwnD cG z.2.2.2.2.toFrz 1 z.2.2.2.1 z.2.1∧OneC z.2.2.1∧F7.toFrz.Le z.2.2.2.2.toFrz) (fun z=>((x_.Lemmas.take i_9').length) - z.1) (0,(r47.getD default).list,v47_n_513,c47_n_513,F7) ?_ ?_ ?_ ?_
          ·exact ⟨hk,ho47_n_513,inferInstance,(Frz.Le.refl _)⟩
          ·exact q4p
          ·exact fv
          ·rintro ⟨i_16,c_14,vc_14,cc_14,F9⟩ ⟨hk,hc_14,oc_14,le7_9⟩; (try dsimp only at *);have le1_9:=le1_7.trans le7_9;refine ei ?_;refine T.cond rfl (fun h17=>?_) (fun h17=>?_)
           ·have p17:=of_decide_eq_true h17;rw [fT a5] at hk;generalize hn15:di f15 kk15 (((x_.Lemmas.take i_9').length) - (i_16+1)) (i_16+1)=next15 at hk;rw [←hf15] at hk; (try dsimp only at hk);refine fq ?_;refine cI (dL (i:=i_16) rfl rfl rfl (SlD.mono (rep:=cG) (fun _ _ _ _=>R_List_GChoice.mono) hs51_ le1_9).1 (SlD.mono (rep:=cG) (fun _ _ _ _=>R_List_GChoice.mono) hs51_ le1_9).2.1 rfl a5) ?_;refine cI (eN 7 (i:=i_16) (j:=0) rfl rfl rfl (SlD.mono (rep:=cG) (fun _ _ _ _=>R_List_GChoice.mono) hs51_ le1_9).1 (SlD.mono (rep:=cG) (fun _ _ _ _=>R_List_GChoice.mono) hs51_ le1_9).2.1 a5 rfl (R_List_GChoice.c0 ((SlD.mono (rep:=cG) (fun _ _ _ _=>R_List_GChoice.mono) hs51_ le1_9).2.2 i_16 a5)).1) ?_;have hd56_0:=(R_List_GChoice.c0 ((SlD.mono (rep:=cG) (fun _ _ _ _=>R_List_GChoice.mono) hs51_ le1_9).2.2 i_16 a5)).2;haveI:=hd56_0.oneC;refine dP ?_;have hq:=dM hk;clear hk;obtain ⟨r59,hr59,hk⟩:=hq; (try dsimp only at hk);refine gQ ?_;refine cN (d3 [1,0,7,2,3,4,5,6] [.row g47_n 144 ((((r47.getD default).domains).1.map U)++([.pointer (some ⟨k47_n_512.sp,0,none⟩),vc_14]:List Value)), .sl vc_14 50 1 c_14.length cc_14.flatten] [.row g18_n 144 ((((r18.1.getD default).domains).1.map U)++([.pointer (some ⟨k18_n_512.sp,0,none⟩),v18_n_513]:List Value)), .sl v18_n_513 50 1 ((r18.1.getD default).list).length c18_n_513.flatten, .sl vlater_7 50 1 later_7.length clater_7.flatten, .row g4 33 [(.slice none 0 0),(.slice none 0 0)], .row g3 33 [vx__0,vx__1]] rfl rfl rfl rfl a6 (fun w hw hw2 hF=>zbL _ w hF (GStore.mk ((r47.getD default).domains) (((r47.getD default).start).1,((r47.getD default).start).2) c_14) g47_n k47_n_512 v47_n_512 L47_n_512 hs47_n_512 (tf47_n_512.mono le7_9) (zf47_n_512.mono le7_9) vc_14 cc_14 hc_14 (cH (x_.Lemmas.take i_9') i_16) (cH (cH (cx__1.take i_9') i_16) 0) hd56_0 hw2.takes.1 hw2.takes.2 r59 hr59)) ?_;rintro _ _ ⟨⟨v59_1_513,c59_1_513⟩,F10,le9_10,ho59_1_513,rfl,rfl⟩;refine em ?_; (try dsimp only at ho59_1_513);have le7_10:=le7_9.trans le9_10;refine fB 1 rfl ?_;intro iv59_1_513 hmv59_1_513;refine kC ?_;rw [←hn15] at hk;refine K.pick [1,0,3,4,5,6,7,2] rfl a6 ?_;exact K.next ((i_16+1),r59.2,v59_1_513,c59_1_513,F10) ⟨hk,ho59_1_513,inferInstance,le7_10⟩ a9 (.c (.c (.c (.c (.c (.c (.c (.c (.c .nil))))))))) (List.Sublist.refl _)
           ·have p17:=of_decide_eq_false h17;rw [fR a5,←hkk15] at hk; (try dsimp only at hk);refine ff ?_;exact c4 (c_14,vc_14,cc_14,F9) ⟨hk,hc_14,inferInstance,le7_9⟩ (.c (.c (.c (.c (.c (.c .nil)))))) (List.Sublist.refl _)
         ·rintro ⟨c_12,vc_12,cc_12,F8⟩ ⟨hk,hc_12,oc_12,le7_8⟩; (try dsimp only at *);rw [←hk13] at hk; (try dsimp only at hk);have le1_8:=le1_7.trans le7_8;have le2_8:=le2_7.trans le7_8;have le3_8:=le3_7.trans le7_8;have le4_8:=le4_7.trans le7_8;have le6_8:=le6_7.trans le7_8;refine T.seq ?_;have hq:(db later_7.length 24)∧_:=eQ hk;clear hk;obtain ⟨g62,hk⟩:=hq; (try dsimp only at hk);refine fo ?_;refine cN (iT rfl rfl rfl (fun w hw=>(hw.bor (i:=7) (j:=4) rfl rfl).elim fun F9 b=>have le8_11:=b.1.le;have le1_11:=le1_8.trans le8_11;have le2_11:=le2_8.trans le8_11;have le3_11:=le3_8.trans le8_11;have le4_11:=le4_8.trans le8_11;have le6_11:=le6_8.trans le8_11;have le7_11:=le7_8.trans le8_11;zeU F9 w b.1.at_ later_7 vlater_7 clater_7 (b.2.toD (OwnD.mono (rep:=cG) (fun _ _ _ _=>R_List_GChoice.mono) hlater_7 le6_11) rfl) g62)) ?_;rintro v62_ _ ⟨_,_,rfl,rfl⟩;refine q3H ?_;intro iv62_ hmv62_;refine kn ?_;refine cN (dl [0,8,1,2,3,4,5,6,7] [.sl v62_ 50 1 later_7.length clater_7.flatten] [.sl vc_12 50 1 c_12.length cc_12.flatten, .row g47_n 144 ((((r47.getD default).domains).1.map U)++([.pointer (some ⟨k47_n_512.sp,0,none⟩),vc_12]:List Value)), .row g18_n 144 ((((r18.1.getD default).domains).1.map U)++([.pointer (some ⟨k18_n_512.sp,0,none⟩),v18_n_513]:List Value)), .sl v18_n_513 50 1 ((r18.1.getD default).list).length c18_n_513.flatten, .sl vlater_7 50 1 later_7.length clater_7.flatten, .row g4 33 [(.slice none 0 0),(.slice none 0 0)], .row g3 33 [vx__0,vx__1]] rfl rfl rfl rfl a6 (fun w hw hw2 hF=>zgH _ w hF later_7 v62_ clater_7 (OwnD.mono (rep:=cG) (fun _ _ _ _=>R_List_GChoice.mono) hlater_7 le6_8) hw2.takes.1 hw2.takes.2)) ?_;rintro _ _ ⟨c64_0_l,ho64_0_l,rfl,rfl⟩;refine em ?_;refine q3v ?_;rintro F12 ⟨le8_12,hz12⟩;refine gU ?_;have le1_12:=le1_8.trans le8_12;have le4_12:=le4_8.trans le8_12;have le6_12:=le6_8.trans le8_12;have le7_12:=le7_8.trans le8_12;have hf12:=hz12.toD (OwnD.mono (rep:=cG) (fun _ _ _ _=>R_List_GChoice.mono) ho64_0_l le8_12) rfl;haveI:=hf12.1.oneC;have hq:=dM hk;clear hk;obtain ⟨r67,hr67,hk⟩:=hq; (try dsimp only at hk);refine gQ ?_;refine cN (d3 [2,1,0,3,4,5,6,7] [.row g47_n 144 ((((r47.getD default).domains).1.map U)++([.pointer (some ⟨k47_n_512.sp,0,none⟩),vc_12]:List Value)), .sl vc_12 50 1 c_12.length cc_12.flatten] [.row g18_n 144 ((((r18.1.getD default).domains).1.map U)++([.pointer (some ⟨k18_n_512.sp,0,none⟩),v18_n_513]:List Value)), .sl v18_n_513 50 1 ((r18.1.getD default).list).length c18_n_513.flatten, .sl vlater_7 50 1 later_7.length clater_7.flatten, .row g4 33 [(.slice none 0 0),(.slice none 0 0)], .row g3 33 [vx__0,vx__1]] rfl rfl rfl rfl a6 (fun w hw hw2 hF=>zcW _ w hF (GStore.mk ((r47.getD default).domains) (((r47.getD default).start).1,((r47.getD default).start).2) c_12) g47_n k47_n_512 v47_n_512 L47_n_512 hs47_n_512 (tf47_n_512.mono le7_12) (zf47_n_512.mono le7_12) vc_12 cc_12 (OwnD.mono (rep:=cG) (fun _ _ _ _=>R_List_GChoice.mono) hc_12 le8_12) (zc8 later_7) v62_ c64_0_l hf12 (htk hw) hw2.takes.1 hw2.takes.2 (hw2.takes0 hM0 htab.pos) fuel hfu r67 hr67)) ?_;rintro _ _ ⟨⟨v67_1_513,c67_1_513⟩,F13,le12_13,ho67_1_513,rfl,rfl⟩;refine em ?_; (try dsimp only at ho67_1_513);have le1_13:=le1_12.trans le12_13;have le4_13:=le4_12.trans le12_13;have le6_13:=le6_12.trans le12_13;refine fB 1 rfl ?_;intro iv67_1_513 hmv67_1_513;refine dd ?_;refine cI (dA rfl rfl (SlD.mono (rep:=cG) (fun _ _ _ _=>R_List_GChoice.mono) hf12 le12_13).1 (SlD.mono (rep:=cG) (fun _ _ _ _=>R_List_GChoice.mono) hf12 le12_13).2.1) ?_;have hm69:(zc8 later_7).length≤9223372036854775807:=(SlD.mono (rep:=cG) (fun _ _ _ _=>R_List_GChoice.mono) hf12 le12_13).2.1▸(SlD.mono (rep:=cG) (fun _ _ _ _=>R_List_GChoice.mono) hf12 le12_13).1.max;refine dP ?_;refine T.cond rfl (fun h18=>?_) (fun h18=>?_)
          ·have p18:=of_decide_eq_true h18;replace hk:=dy hk h18;have hq:(db ((cH x_.Lemmas i_9').length) 16)∧_:=eQ hk;clear hk;obtain ⟨g77,hk⟩:=hq;have hq:(db (later_7++[(cH x_.Lemmas i_9')]).length 24)∧_:=eQ hk;clear hk;obtain ⟨g79,hk⟩:=hq; (try dsimp only at hk);refine fo ?_;refine q2C ?_;refine dd ?_;refine cI (dL (i:=i_9') rfl rfl rfl (SlD.mono (rep:=cG) (fun _ _ _ _=>R_List_GChoice.mono) hx__1 le1_13).1 (SlD.mono (rep:=cG) (fun _ _ _ _=>R_List_GChoice.mono) hx__1 le1_13).2.1 rfl a5) ?_;refine cI (eN 2 (i:=i_9') (j:=0) rfl rfl rfl (SlD.mono (rep:=cG) (fun _ _ _ _=>R_List_GChoice.mono) hx__1 le1_13).1 (SlD.mono (rep:=cG) (fun _ _ _ _=>R_List_GChoice.mono) hx__1 le1_13).2.1 a5 rfl (R_List_GChoice.c0 ((SlD.mono (rep:=cG) (fun _ _ _ _=>R_List_GChoice.mono) hx__1 le1_13).2.2 i_9' a5)).1) ?_;have hd76_0:=(R_List_GChoice.c0 ((SlD.mono (rep:=cG) (fun _ _ _ _=>R_List_GChoice.mono) hx__1 le1_13).2.2 i_9' a5)).2;haveI:=hd76_0.oneC;refine cN (eh 2 rfl rfl rfl rfl (fun w hw hF=>zfz _ w hF (cH x_.Lemmas i_9') (cH (cH cx__1 i_9') 0) hd76_0 g77)) ?_;rintro _ _ ⟨v77_,F14,le13_14,hf77,hq,rfl⟩;obtain rfl:=hq.symm;have le4_14:=le4_13.trans le13_14;have le6_14:=le6_13.trans le13_14;haveI:=hf77.oneC;refine jg ?_;rintro _ _ ⟨g78,rfl,rfl⟩;have hl78:OwnD cG F14.toFrz 1 [[v77_]] [(cH x_.Lemmas i_9')]:=(cP (OwnD.nil _ _ 1) ⟨_,rfl,hf77⟩);refine cN (d8 6 0 rfl rfl rfl rfl rfl rfl (iC (ys:=[(cH x_.Lemmas i_9')])) (j4 (cs:=clater_7) (ds:=[[v77_]])) g79 a6) ?_;rintro v79 _ ⟨hv79,rfl⟩;have ho79:OwnD cG F14.toFrz 1 (clater_7++[[v77_]]) (later_7++[(cH x_.Lemmas i_9')]):=(cP (OwnD.mono (rep:=cG) (fun _ _ _ _=>R_List_GChoice.mono) hlater_7 le6_14) ⟨_,rfl,hf77⟩);refine dd ?_;refine q3K ?_;refine q2c ?_;refine dd ?_;refine TL.nil ?_;rw [←hn8] at hk;refine K.pick [6,4,5,7,8,3] rfl a6 ?_;exact K.next (i_9',(later_7++[(cH x_.Lemmas i_9')]),v79,(clater_7++[[v77_]]),F14) ⟨hk,a9,ho79,inferInstance,le4_14⟩ a9 (.c (.c (.c (.c (.c .nil))))) (List.Sublist.refl _)
          ·have p18:=of_decide_eq_false h18;replace hk:=dz hk h18;refine T.skip (fh (K.seq (T.region ?_)));refine dd ?_;refine q2c ?_;refine dd ?_;refine TL.nil ?_;rw [←hn8] at hk;refine K.pick [5,3,4,6,7,2] rfl a6 ?_;exact K.next (i_9',later_7,vlater_7,clater_7,F13) ⟨hk,a9,(OwnD.mono (rep:=cG) (fun _ _ _ _=>R_List_GChoice.mono) hlater_7 le6_13),inferInstance,le4_13⟩ a9 (.c (.c (.c (.c (.c .nil))))) (List.Sublist.refl _)
        ·replace hk:=dz hk h11;refine fo ?_;refine cN (d3 [1,2,5,0,3,4] [.row g18_n 144 ((((r18.1.getD default).domains).1.map U)++([.pointer (some ⟨k18_n_512.sp,0,none⟩),v18_n_513]:List Value)), .sl v18_n_513 50 1 ((r18.1.getD default).list).length c18_n_513.flatten] [.sl vlater_7 50 1 later_7.length clater_7.flatten, .row g4 33 [(.slice none 0 0),(.slice none 0 0)], .row g3 33 [vx__0,vx__1]] rfl rfl rfl rfl a6 (fun w hw hw2 hF=>(zbg _ w hF (r18.1.getD default) g18_n k18_n_512 v18_n_512 L18_n_512 hs18_n_512 (tf18_n_512.mono le2_6) (zf18_n_512.mono le2_6) v18_n_513 c18_n_513 (OwnD.mono (rep:=cG) (fun _ _ _ _=>R_List_GChoice.mono) ho18_n_513 le2_6) (htk hw) hw2.takes.1 hw2.takes.2 (hw2.takes0 hM0 htab.pos) r47 hr47).mono (fun e w' hp=>hp.2 h11))) ?_;rintro _ _ ⟨⟨⟩,F15,le6_15, -,rfl,rfl⟩;refine em ?_;have le1_15:=le1_6.trans le6_15;have le2_15:=le2_6.trans le6_15;have le3_15:=le3_6.trans le6_15;have le4_15:=le4_6.trans le6_15;refine jd ?_;refine eZ ?_;refine cI (cS 5) ?_;refine dd ?_;refine cI (k7 (i:=i_9') rfl rfl rfl (SlD.mono (rep:=cG) (fun _ _ _ _=>R_List_GChoice.mono) hx__1 le1_15).1 (SlD.mono (rep:=cG) (fun _ _ _ _=>R_List_GChoice.mono) hx__1 le1_15).2.1 rfl a5) ?_;have hs51_:SlD cG F1.toFrz (gh vx__1 0 i_9' 1) 1 (cx__1.take i_9') (x_.Lemmas.take i_9'):=hx__1.sliceh (i:=i_9') a5;haveI:=hs51_.1.oneC;refine cI (dA rfl rfl (SlD.mono (rep:=cG) (fun _ _ _ _=>R_List_GChoice.mono) hs51_ le1_15).1 (SlD.mono (rep:=cG) (fun _ _ _ _=>R_List_GChoice.mono) hs51_ le1_15).2.1) ?_;have hm52:(x_.Lemmas.take i_9').length≤9223372036854775807:=(SlD.mono (rep:=cG) (fun _ _ _ _=>R_List_GChoice.mono) hs51_ le1_15).2.1▸(SlD.mono (rep:=cG) (fun _ _ _ _=>R_List_GChoice.mono) hs51_ le1_15).1.max;refine dP ?_;have hq:=eP hk;clear hk;obtain ⟨k19,hk19,hk⟩:=hq; (try dsimp only at hk);refine dj (ι:=FzB w (fun _=>False) S0) (fun z=>[(3, .pointer (some ⟨g3,0,none⟩)),(4, .pointer (some ⟨g4,0,none⟩)),(6, .pointer (some ⟨g18_n,0,none⟩)),(9,vlater_7),(10, .int .i64 (i_9':Int)),(11, .pointer none)]) (fun z=>[.row g18_n 144 ((((r18.1.getD default).domains).1.map U)++[.pointer (some ⟨k18_n_512.sp,0,none⟩),v18_n_513]), .sl v18_n_513 50 1 ((r18.1.getD default).list).length c18_n_513.flatten, .sl vlater_7 50 1 later_7.length clater_7.flatten, .row g4 33 [(.slice none 0 0),(.slice none 0 0)], .row g3 33 [vx__0,vx__1], .fr z]) (fun z=>k19 ()=some r∧F15.toFrz.Le z.toFrz) ?_ ?_
         ·have hq:=fS hk;clear hk;obtain ⟨f20,kk20,hf20,hkk20,hk⟩:=hq;refine gg ?_;refine T.pick [0,1,3,4,5,2] rfl a6 ?_;refine T.loop (ι:=Nat×FzB w (fun _=>False) S0) (fun z=>[(3, .pointer (some ⟨g3,0,none⟩)),(4, .pointer (some ⟨g4,0,none⟩)),(6, .pointer (some ⟨g18_n,0,none⟩)),(9,vlater_7),(10, .int .i64 (i_9':Int)),(11, .pointer none),(51,(gh vx__1 0 i_9' 1)),(52, .int .i64 ((x_.Lemmas.take i_9').length:Int)),(53, .int .i64 (z.1:Int))]) (fun z=>[.row g18_n 144 ((((r18.1.getD default).domains).1.map U)++[.pointer (some ⟨k18_n_512.sp,0,none⟩),v18_n_513]), .sl v18_n_513 50 1 ((r18.1.getD default).list).length c18_n_513.flatten, .sl vlater_7 50 1 later_7.length clater_7.flatten, .row g4 33 [(.slice none 0 0),(.slice none 0 0)], .row g3 33 [vx__0,vx__1], .fr z.2]) (fun z=>di f20 kk20 (((x_.Lemmas.take i_9').length) - z.1) z.1 ()=some r∧F15.toFrz.Le z.2.toFrz) (fun z=>((x_.Lemmas.take i_9').length) - z.1) (0,F15) ?_ ?_ ?_ ?_
          ·exact ⟨hk,(Frz.Le.refl _)⟩
          ·exact q4p
          ·exact fv
          ·rintro ⟨i_21,F17⟩ ⟨hk,le15_17⟩; (try dsimp only at *);have le1_17:=le1_15.trans le15_17;refine ei ?_;refine T.cond rfl (fun h22=>?_) (fun h22=>?_)
           ·have p22:=of_decide_eq_true h22;rw [fT a5] at hk;generalize hn20:di f20 kk20 (((x_.Lemmas.take i_9').length) - (i_21+1)) (i_21+1)=next20 at hk;rw [←hf20] at hk; (try dsimp only at hk);refine fq ?_;refine cI (dL (i:=i_21) rfl rfl rfl (SlD.mono (rep:=cG) (fun _ _ _ _=>R_List_GChoice.mono) hs51_ le1_17).1 (SlD.mono (rep:=cG) (fun _ _ _ _=>R_List_GChoice.mono) hs51_ le1_17).2.1 rfl a5) ?_;refine cI (eN 5 (i:=i_21) (j:=0) rfl rfl rfl (SlD.mono (rep:=cG) (fun _ _ _ _=>R_List_GChoice.mono) hs51_ le1_17).1 (SlD.mono (rep:=cG) (fun _ _ _ _=>R_List_GChoice.mono) hs51_ le1_17).2.1 a5 rfl (R_List_GChoice.c0 ((SlD.mono (rep:=cG) (fun _ _ _ _=>R_List_GChoice.mono) hs51_ le1_17).2.2 i_21 a5)).1) ?_;have hd56_0:=(R_List_GChoice.c0 ((SlD.mono (rep:=cG) (fun _ _ _ _=>R_List_GChoice.mono) hs51_ le1_17).2.2 i_21 a5)).2;haveI:=hd56_0.oneC;refine dP ?_;cases hk
           ·have p22:=of_decide_eq_false h22;rw [fR a5,←hkk20] at hk; (try dsimp only at hk);refine ff ?_;exact c4 F17 ⟨hk,le15_17⟩ (.c (.c (.c (.c (.c (.c .nil)))))) (List.Sublist.refl _)
         ·rintro F16 ⟨hk,le15_16⟩;rw [←hk19] at hk; (try dsimp only at hk);have le1_16:=le1_15.trans le15_16;have le2_16:=le2_15.trans le15_16;have le3_16:=le3_15.trans le15_16;have le4_16:=le4_15.trans le15_16;have le6_16:=le6_15.trans le15_16;refine T.seq ?_;have hq:(db later_7.length 24)∧_:=eQ hk;clear hk;obtain ⟨g62,hk⟩:=hq; (try dsimp only at hk);refine fo ?_;refine cN (iT rfl rfl rfl (fun w hw=>(hw.bor (i:=5) (j:=2) rfl rfl).elim fun F9 b=>have le16_18:=b.1.le;have le1_18:=le1_16.trans le16_18;have le2_18:=le2_16.trans le16_18;have le3_18:=le3_16.trans le16_18;have le4_18:=le4_16.trans le16_18;have le6_18:=le6_16.trans le16_18;have le15_18:=le15_16.trans le16_18;zeU F9 w b.1.at_ later_7 vlater_7 clater_7 (b.2.toD (OwnD.mono (rep:=cG) (fun _ _ _ _=>R_List_GChoice.mono) hlater_7 le6_18) rfl) g62)) ?_;rintro v62_ _ ⟨_,_,rfl,rfl⟩;refine q3H ?_;intro iv62_ hmv62_;refine kn ?_;refine cN (dl [0,6,1,2,3,4,5] [.sl v62_ 50 1 later_7.length clater_7.flatten] [.row g18_n 144 ((((r18.1.getD default).domains).1.map U)++([.pointer (some ⟨k18_n_512.sp,0,none⟩),v18_n_513]:List Value)), .sl v18_n_513 50 1 ((r18.1.getD default).list).length c18_n_513.flatten, .sl vlater_7 50 1 later_7.length clater_7.flatten, .row g4 33 [(.slice none 0 0),(.slice none 0 0)], .row g3 33 [vx__0,vx__1]] rfl rfl rfl rfl a6 (fun w hw hw2 hF=>zgH _ w hF later_7 v62_ clater_7 (OwnD.mono (rep:=cG) (fun _ _ _ _=>R_List_GChoice.mono) hlater_7 le6_16) hw2.takes.1 hw2.takes.2)) ?_;rintro _ _ ⟨c64_0_l,ho64_0_l,rfl,rfl⟩;refine em ?_;refine q3v ?_;rintro F19 ⟨le16_19,hz19⟩;refine gU ?_;have hf19:=hz19.toD (OwnD.mono (rep:=cG) (fun _ _ _ _=>R_List_GChoice.mono) ho64_0_l le16_19) rfl;haveI:=hf19.1.oneC;cases hk
       ·have p10:=of_decide_eq_false h10;obtain rfl:i_9=0:=a5;replace hk:kk8 later_7=some r:=hk;rw [←hkk8] at hk; (try dsimp only at hk);refine ff ?_;refine K.pick [0,3,4,5] rfl a6 ?_;exact c4 (later_7,vlater_7,clater_7,F6) ⟨hk,hlater_7,inferInstance,le4_6⟩ (.c (.c (.c .nil))) (List.Sublist.refl _)
     ·rintro ⟨later_5,vlater_5,clater_5,F5⟩ ⟨hk,hlater_5,olater_5,le4_5⟩; (try dsimp only at *);rw [←hk6] at hk; (try dsimp only at hk);have le1_5:=le1_4.trans le4_5;refine gy ?_;refine cN (dl [0,3,1,2] [.sl vlater_5 50 1 later_5.length clater_5.flatten] [.row g4 33 [(.slice none 0 0),(.slice none 0 0)], .row g3 33 [vx__0,vx__1]] rfl rfl rfl rfl a6 (fun w hw hw2 hF=>zgH _ w hF later_5 vlater_5 clater_5 hlater_5 hw2.takes.1 hw2.takes.2)) ?_;rintro _ _ ⟨c81_0_l,ho81_0_l,rfl,rfl⟩;refine em ?_;refine i3 ?_;have hq:(db x_.Stations.length 8)∧_:=eQ hk;clear hk;obtain ⟨g84,hk⟩:=hq; (try dsimp only at hk);refine ed ?_;refine q1O ?_;refine cN (eh 1 rfl rfl rfl rfl (fun w hw hF=>zfb _ w hF x_.Stations vx__0 (SlC.mono hx__0 le1_5) g84)) ?_;rintro _ _ ⟨v84_,F20,le5_20,hf84,hq,rfl⟩;obtain rfl:=hq.symm;have le1_20:=le1_5.trans le5_20;haveI:=hf84.oneC;refine dd ?_;refine iX ?_;refine d7 (dr 2) ?_;refine ex ?_;refine eU ?_;refine jP (fun w hw=>hw.freezeS (i:=1) (j:=0) a6 rfl rfl) ?_;rintro F21 ⟨le20_21,hz21⟩;refine gU ?_;have le1_21:=le1_20.trans le20_21;have le5_21:=le5_20.trans le20_21;have hf21:=hz21.toD (OwnD.mono (rep:=cG) (fun _ _ _ _=>R_List_GChoice.mono) ho81_0_l le5_21) rfl;haveI:=hf21.1.oneC;obtain rfl:=Option.some.inj hk;exact gz 1 rfl rfl rfl rfl rfl (fun w' hw=>⟨(v84_,vlater_5,c81_0_l),F21.toFrz,⟨(SlC.mono hf84 le20_21),hf21⟩,rfl,fC hw (i:=0) rfl hS0 le1_21⟩)
   ·replace hk:=dz hk h3;cases hk
 ·replace hk:=dz hk h1;refine ed ?_;refine cI (dJ 2) ?_;refine cI (dJ 1) ?_;refine cN (d3 [3,0,1,2] [] [.row g4 33 [(.slice none 0 0),(.slice none 0 0)], .row g3 33 [vx__0,vx__1], .row g2 29 [vp_0,vp_1,vp_2,vp_3]] rfl rfl rfl rfl a6 (fun w hw hw2 hF=>(zcN _ w hF p vp_0 cp_0 hp_0 vp_1 hp_1 vp_2 hp_2 vp_3 hp_3 x_ vx__0 hx__0 vx__1 cx__1 hx__1 (htk hw) fuel hfu r18 hr18).mono (fun e w' hp=>hp.2 h1))) ?_;rintro _ _ ⟨⟨⟩,F22,le1_22, -,rfl,rfl⟩;refine em ?_;refine q1T ?_;refine T.cond rfl (fun h23=>?_) (fun h23=>?_)
  ·have p23:=of_decide_eq_true h23;replace hk:=dy hk h23;refine de ?_;refine iX ?_;refine dd ?_;refine q2d ?_;refine dd ?_;refine jK ?_;obtain rfl:=Option.some.inj hk;exact gz 1 rfl rfl rfl rfl rfl (fun w' hw=>⟨((.slice none 0 0),(.slice none 0 0),[]),F22.toFrz,⟨(SlC.nil _ 1),(SlD.nil _ _ 1)⟩,rfl,fC hw (i:=0) rfl hS0 le1_22⟩)
  ·have p23:=of_decide_eq_false h23;replace hk:=dz hk h23;refine q3h ?_;cases hk
def zdg (fuel:Nat)(x_:GProof):Option (List Int×Int):=
 (l8 x_).bind fun r12=>
 (bif !r12 then
  some ([],2)
  else
  (zat fuel (GWriter.mk (Gfault.mk 0) []) (x_.Stations.length:Int)).bind fun r17=>
  dS (fun (c_2:List Int)=>
   (zat fuel (GWriter.mk (Gfault.mk 0) c_2) (x_.Lemmas.length:Int)).bind fun r31=>
   dS (fun (c_8:List Int)=>
    (zav (GWriter.mk (Gfault.mk 0) c_8)).bind fun r56=>
    some (r56.1,r56.2))
   (fun k9=>
    di (fun (i_12:Nat) (next11:List Int→Option (List Int×Int)) (c_10:List Int)=>
     (zat fuel (GWriter.mk (Gfault.mk 0) c_10) ((cH x_.Lemmas i_12).length:Int)).bind fun r41=>
     di (fun (i_16:Nat) (next15:List Int→Option (List Int×Int)) (c_14:List Int)=>
      (zat fuel (GWriter.mk (Gfault.mk 0) c_14) ((cH (cH x_.Lemmas i_12) i_16).Station)).bind fun r50=>
      (zat fuel (GWriter.mk (Gfault.mk 0) r50) ((cH (cH x_.Lemmas i_12) i_16).Channel)).bind fun r53=>
      next15 r53)
     (fun (c_14:List Int)=>
      next11 c_14) (((cH x_.Lemmas i_12).length) - 0) 0 r41)
    (fun (c_10:List Int)=>
     k9 c_10) (x_.Lemmas.length - 0) 0 r31))
  (fun k3=>
   di (fun (i_6:Nat) (next5:List Int→Option (List Int×Int)) (c_4:List Int)=>
    (zat fuel (GWriter.mk (Gfault.mk 0) c_4) (cH x_.Stations i_6)).bind fun r26=>
    next5 r26)
   (fun (c_4:List Int)=>
    k3 c_4) (x_.Stations.length - 0) 0 r17))
theorem zga (F0:Frz)(w:World)(hF0:F0.At w)(x_:GProof)(vx__0:Value)(hx__0:SlC F0 vx__0 1 (x_.Stations.map eI))(vx__1:Value)(cx__1:List (List Value))(hx__1:SlD cG F0 vx__1 1 cx__1 x_.Lemmas)(fuel:Nat)(r:List Int×Int)(hr:zdg fuel x_=some r):Calls Tryz.prog 30 #[.agg [vx__0,vx__1].toArray] w fun e w'=>∃(y:Value),(True)∧e= .returned (.tuple #[y, .int .i64 r.2])∧FxM F0 w (cZ []) F0 [.sl y 5 1 r.1.length (r.1.flatMap (eK .u8))] w':=by
 have hk:=hr;unfold zdg at hk;haveI:=hx__0.oneC;haveI:=hx__1.1.oneC;obtain ⟨S0,F1,rfl,hS0,hp0⟩:=fK hF0;rw [zem];refine dq Tryz.func30 rfl rfl rfl hp0 ?_;refine kA ?_;rintro _ _ ⟨g1,rfl,rfl⟩;refine d5 ?_;refine jB ?_;have hq:=dM hk;clear hk;obtain ⟨r12,hr12,hk⟩:=hq; (try dsimp only at hk);refine q3k ?_;refine T.cond rfl (fun h1=>?_) (fun h1=>?_)
 ·replace hk:=dy hk h1;refine ko ?_;refine K.slNil 5 1 ?_;obtain rfl:=Option.some.inj hk;exact q4R
 ·replace hk:=dz hk h1;refine gV ?_;refine fQ ?_;rintro _ _ ⟨g4,rfl,rfl⟩;refine TL.slNil 5 1 ?_;refine i3 ?_;have hq:=dM hk;clear hk;obtain ⟨r17,hr17,hk⟩:=hq; (try dsimp only at hk);refine ed ?_;refine kO ?_;refine q3L ?_;have hm16:x_.Stations.length≤9223372036854775807:=(List.length_map _)▸hx__0.max;refine cN (dl [1,0,3,2] [.row g4 128 [.int .i64 0,(.slice none 0 0)], .sl (.slice none 0 0) 5 1 ([]:List Int).length ([].flatMap (eK .u8))] [.row g1 33 [vx__0,vx__1]] rfl rfl rfl rfl a6 (fun w hw hw2 hF=>zaG _ w hF (GWriter.mk (Gfault.mk 0) []) g4 (.slice none 0 0) (x_.Stations.length:Int) hw2.takes.1 hw2.takes.2 fuel r17 hr17)) ?_;rintro _ _ ⟨v17_0_1, -,rfl,rfl⟩;refine q3s ?_;intro iv17_0_1 hmv17_0_1;refine gX ?_;refine q1O ?_;refine q3L ?_;refine dP ?_;have hq:=eP hk;clear hk;obtain ⟨k3,hk3,hk⟩:=hq; (try dsimp only at hk);refine dj (ι:=List Int×Value) (fun z=>[(1, .pointer (some ⟨g1,0,none⟩)),(4, .pointer (some ⟨g4,0,none⟩))]) (fun z=>[.sl z.2 5 1 z.1.length (z.1.flatMap (eK .u8)), .row g4 128 [.int .i64 0,z.2], .row g1 33 [vx__0,vx__1], .fr F1]) (fun z=>k3 z.1=some r∧OneC z.2) ?_ ?_
  ·have hq:=fS hk;clear hk;obtain ⟨f5,kk5,hf5,hkk5,hk⟩:=hq;refine gg ?_;refine T.pick [1,0,3,2] rfl a6 ?_;refine T.loop (ι:=Nat×List Int×Value) (fun z=>[(1, .pointer (some ⟨g1,0,none⟩)),(4, .pointer (some ⟨g4,0,none⟩)),(19,vx__0),(20, .int .i64 (x_.Stations.length:Int)),(21, .int .i64 (z.1:Int))]) (fun z=>[.sl z.2.2 5 1 z.2.1.length (z.2.1.flatMap (eK .u8)), .row g4 128 [.int .i64 0,z.2.2], .row g1 33 [vx__0,vx__1], .fr F1]) (fun z=>di f5 kk5 (x_.Stations.length - z.1) z.1 z.2.1=some r∧OneC z.2.2) (fun z=>x_.Stations.length - z.1) (0,r17,v17_0_1) ?_ ?_ ?_ ?_
   ·exact q39
   ·exact ld
   ·exact fv
   ·rintro ⟨i_6,c_4,vc_4⟩ ⟨hk,oc_4⟩; (try dsimp only at *);refine ei ?_;refine T.cond rfl (fun h7=>?_) (fun h7=>?_)
    ·have p7:=of_decide_eq_true h7;rw [fT a5] at hk;generalize hn5:di f5 kk5 (x_.Stations.length - (i_6+1)) (i_6+1)=next5 at hk;rw [←hf5] at hk; (try dsimp only at hk);refine q26 ?_;have hq:=dM hk;clear hk;obtain ⟨r26,hr26,hk⟩:=hq; (try dsimp only at hk);refine fo ?_;refine cN (dl [1,0,3,2] [.row g4 128 [.int .i64 0,vc_4], .sl vc_4 5 1 c_4.length (c_4.flatMap (eK .u8))] [.row g1 33 [vx__0,vx__1]] rfl rfl rfl rfl a6 (fun w hw hw2 hF=>zaG _ w hF (GWriter.mk (Gfault.mk 0) c_4) g4 vc_4 (cH x_.Stations i_6) hw2.takes.1 hw2.takes.2 fuel r26 hr26)) ?_;rintro _ _ ⟨v26_0_1, -,rfl,rfl⟩;refine q3s ?_;intro iv26_0_1 hmv26_0_1;refine kC ?_;rw [←hn5] at hk;refine K.pick [1,0,3,2] rfl a6 ?_;exact K.next ((i_6+1),r26,v26_0_1) ⟨hk,inferInstance⟩ a9 (.c (.c (.c (.c (.c .nil))))) (List.Sublist.refl _)
    ·have p7:=of_decide_eq_false h7;rw [fR a5,←hkk5] at hk; (try dsimp only at hk);refine ff ?_;exact c4 (c_4,vc_4) ⟨hk,inferInstance⟩ (.c (.c .nil)) (List.Sublist.refl _)
  ·rintro ⟨c_2,vc_2⟩ ⟨hk,oc_2⟩; (try dsimp only at *);rw [←hk3] at hk; (try dsimp only at hk);refine T.seq ?_;have hq:=dM hk;clear hk;obtain ⟨r31,hr31,hk⟩:=hq; (try dsimp only at hk);refine ed ?_;refine kO ?_;refine q3B ?_;have hm30:x_.Lemmas.length≤9223372036854775807:=hx__1.2.1▸hx__1.1.max;refine cN (dl [1,0,3,2] [.row g4 128 [.int .i64 0,vc_2], .sl vc_2 5 1 c_2.length (c_2.flatMap (eK .u8))] [.row g1 33 [vx__0,vx__1]] rfl rfl rfl rfl a6 (fun w hw hw2 hF=>zaG _ w hF (GWriter.mk (Gfault.mk 0) c_2) g4 vc_2 (x_.Lemmas.length:Int) hw2.takes.1 hw2.takes.2 fuel r31 hr31)) ?_;rintro _ _ ⟨v31_0_1, -,rfl,rfl⟩;refine q3s ?_;intro iv31_0_1 hmv31_0_1;refine gX ?_;refine q1O ?_;refine q3B ?_;refine dP ?_;have hq:=eP hk;clear hk;obtain ⟨k9,hk9,hk⟩:=hq; (try dsimp only at hk);refine dj (ι:=List Int×Value) (fun z=>[(4, .pointer (some ⟨g4,0,none⟩))]) (fun z=>[.sl z.2 5 1 z.1.length (z.1.flatMap (eK .u8)), .row g4 128 [.int .i64 0,z.2], .fr F1]) (fun z=>k9 z.1=some r∧OneC z.2) ?_ ?_
   ·have hq:=fS hk;clear hk;obtain ⟨f11,kk11,hf11,hkk11,hk⟩:=hq;refine q2l ?_;refine T.loop (ι:=Nat×List Int×Value) (fun z=>[(4, .pointer (some ⟨g4,0,none⟩)),(33,vx__1),(34, .int .i64 (x_.Lemmas.length:Int)),(35, .int .i64 (z.1:Int))]) (fun z=>[.sl z.2.2 5 1 z.2.1.length (z.2.1.flatMap (eK .u8)), .row g4 128 [.int .i64 0,z.2.2], .fr F1]) (fun z=>di f11 kk11 (x_.Lemmas.length - z.1) z.1 z.2.1=some r∧OneC z.2.2) (fun z=>x_.Lemmas.length - z.1) (0,r31,v31_0_1) ?_ ?_ ?_ ?_
    ·exact q39
    ·exact q37
    ·exact fv
    ·rintro ⟨i_12,c_10,vc_10⟩ ⟨hk,oc_10⟩; (try dsimp only at *);refine ei ?_;refine T.cond rfl (fun h13=>?_) (fun h13=>?_)
     ·have p13:=of_decide_eq_true h13;rw [fT a5] at hk;generalize hn11:di f11 kk11 (x_.Lemmas.length - (i_12+1)) (i_12+1)=next11 at hk;rw [←hf11] at hk; (try dsimp only at hk);refine q2q ?_;have hd38_0:=(R_List_GChoice.c0 (hx__1.2.2 i_12 a5)).2;haveI:=hd38_0.oneC;refine kx ?_;have hq:=dM hk;clear hk;obtain ⟨r41,hr41,hk⟩:=hq; (try dsimp only at hk);refine fo ?_;refine q3I ?_;have hm40:(cH x_.Lemmas i_12).length≤9223372036854775807:=(List.length_map _)▸hd38_0.max;refine cN (dl [1,0,2] [.row g4 128 [.int .i64 0,vc_10], .sl vc_10 5 1 c_10.length (c_10.flatMap (eK .u8))] [] rfl rfl rfl rfl a6 (fun w hw hw2 hF=>zaG _ w hF (GWriter.mk (Gfault.mk 0) c_10) g4 vc_10 ((cH x_.Lemmas i_12).length:Int) hw2.takes.1 hw2.takes.2 fuel r41 hr41)) ?_;rintro _ _ ⟨v41_0_1, -,rfl,rfl⟩;refine q3s ?_;intro iv41_0_1 hmv41_0_1;refine lm ?_;refine q3I ?_;refine dP ?_;have hq:=fS hk;clear hk;obtain ⟨f15,kk15,hf15,hkk15,hk⟩:=hq;refine q2l ?_;refine T.loop (ι:=Nat×List Int×Value) (fun z=>[(4, .pointer (some ⟨g4,0,none⟩)),(33,vx__1),(34, .int .i64 (x_.Lemmas.length:Int)),(35, .int .i64 (i_12:Int)),(42,(cH (cH cx__1 i_12) 0)),(43, .int .i64 ((cH x_.Lemmas i_12).length:Int)),(44, .int .i64 (z.1:Int))]) (fun z=>[.sl z.2.2 5 1 z.2.1.length (z.2.1.flatMap (eK .u8)), .row g4 128 [.int .i64 0,z.2.2], .fr F1]) (fun z=>di f15 kk15 (((cH x_.Lemmas i_12).length) - z.1) z.1 z.2.1=some r∧OneC z.2.2) (fun z=>((cH x_.Lemmas i_12).length) - z.1) (0,r41,v41_0_1) ?_ ?_ ?_ ?_
      ·exact q39
      ·exact q4c
      ·exact fv
      ·rintro ⟨i_16,c_14,vc_14⟩ ⟨hk,oc_14⟩; (try dsimp only at *);refine ei ?_;refine T.cond rfl (fun h17=>?_) (fun h17=>?_)
       ·have p17:=of_decide_eq_true h17;rw [fT a5] at hk;generalize hn15:di f15 kk15 (((cH x_.Lemmas i_12).length) - (i_16+1)) (i_16+1)=next15 at hk;rw [←hf15] at hk; (try dsimp only at hk);refine q2X ?_;rintro _ _ ⟨g10,rfl,rfl⟩;refine q3P ?_;have hq:=dM hk;clear hk;obtain ⟨r50,hr50,hk⟩:=hq; (try dsimp only at hk);refine ed ?_;refine eu ?_;refine cN (dl [2,1,3,0] [.row g4 128 [.int .i64 0,vc_14], .sl vc_14 5 1 c_14.length (c_14.flatMap (eK .u8))] [.row g10 68 [.int .i64 ((cH (cH x_.Lemmas i_12) i_16).Station), .int .i64 ((cH (cH x_.Lemmas i_12) i_16).Channel)]] rfl rfl rfl rfl a6 (fun w hw hw2 hF=>zaG _ w hF (GWriter.mk (Gfault.mk 0) c_14) g4 vc_14 ((cH (cH x_.Lemmas i_12) i_16).Station) hw2.takes.1 hw2.takes.2 fuel r50 hr50)) ?_;rintro _ _ ⟨v50_0_1, -,rfl,rfl⟩;refine q3s ?_;intro iv50_0_1 hmv50_0_1;refine TL.ns ?_;have hq:=dM hk;clear hk;obtain ⟨r53,hr53,hk⟩:=hq; (try dsimp only at hk);refine ed ?_;refine q1O ?_;refine cN (dl [0,1,2,3] [.row g4 128 [.int .i64 0,v50_0_1], .sl v50_0_1 5 1 r50.length (r50.flatMap (eK .u8))] [.row g10 68 [.int .i64 ((cH (cH x_.Lemmas i_12) i_16).Station), .int .i64 ((cH (cH x_.Lemmas i_12) i_16).Channel)]] rfl rfl rfl rfl a6 (fun w hw hw2 hF=>zaG _ w hF (GWriter.mk (Gfault.mk 0) r50) g4 v50_0_1 ((cH (cH x_.Lemmas i_12) i_16).Channel) hw2.takes.1 hw2.takes.2 fuel r53 hr53)) ?_;rintro _ _ ⟨v53_0_1, -,rfl,rfl⟩;refine q3s ?_;intro iv53_0_1 hmv53_0_1;refine kC ?_;rw [←hn15] at hk;refine K.pick [1,0,2] rfl a6 ?_;exact K.next ((i_16+1),r53,v53_0_1) ⟨hk,inferInstance⟩ a9 (.c (.c (.c (.c (.c (.c (.c .nil))))))) (List.Sublist.refl _)
       ·have p17:=of_decide_eq_false h17;rw [fR a5,←hkk15] at hk; (try dsimp only at hk);refine q2K ?_;rw [←hn11] at hk;exact K.next ((i_12+1),c_14,vc_14) ⟨hk,inferInstance⟩ a9 (.c (.c (.c (.c .nil)))) (List.Sublist.refl _)
     ·have p13:=of_decide_eq_false h13;rw [fR a5,←hkk11] at hk; (try dsimp only at hk);refine ff ?_;exact c4 (c_10,vc_10) ⟨hk,inferInstance⟩ (.c .nil) (List.Sublist.refl _)
   ·rintro ⟨c_8,vc_8⟩ ⟨hk,oc_8⟩; (try dsimp only at *);rw [←hk9] at hk; (try dsimp only at hk);refine T.seq ?_;have hq:=dM hk;clear hk;obtain ⟨r56,hr56,hk⟩:=hq; (try dsimp only at hk);refine ed ?_;refine cN (dl [1,0,2] [.row g4 128 [.int .i64 0,vc_8], .sl vc_8 5 1 c_8.length (c_8.flatMap (eK .u8))] [] rfl rfl rfl rfl a6 (fun w hw hw2 hF=>zcB _ w hF (GWriter.mk (Gfault.mk 0) c_8) g4 vc_8 hw2.takes.1 hw2.takes.2 r56 hr56)) ?_;rintro _ _ ⟨v56_0_0, -,rfl,rfl⟩;refine em ?_;refine fB 2 rfl ?_;intro iv56_0_0 hmv56_0_0;refine TL.run 4 rfl ?_;refine fJ ?_;obtain rfl:=Option.some.inj hk;exact q4S
def zc7 (a:GProof)(b:GProof):Bool:=
 ((zbS a.Stations b.Stations)&&(zcA a.Lemmas b.Lemmas))
theorem zhk (F0:Frz)(w:World)(hF0:F0.At w)(a:GProof)(va_0:Value)(ha_0:SlC F0 va_0 1 (a.Stations.map eI))(va_1:Value)(ca_1:List (List Value))(ha_1:SlD cG F0 va_1 1 ca_1 a.Lemmas)(b:GProof)(vb_0:Value)(hb_0:SlC F0 vb_0 1 (b.Stations.map eI))(vb_1:Value)(cb_1:List (List Value))(hb_1:SlD cG F0 vb_1 1 cb_1 b.Lemmas):Calls Tryz.prog 20 #[.agg [va_0,va_1].toArray, .agg [vb_0,vb_1].toArray] w fun e w'=>e= .returned (.bool (zc7 a b))∧Below w.heap.size w w':=by
 obtain ⟨r,hk⟩:∃r,zc7 a b=r:=⟨_,rfl⟩;rw [hk];unfold zc7 at hk;haveI:=ha_0.oneC;haveI:=ha_1.1.oneC;haveI:=hb_0.oneC;haveI:=hb_1.1.oneC;obtain ⟨S0,F1,rfl,hS0,hp0⟩:=fK hF0;refine dq Tryz.func20 rfl rfl rfl hp0 ?_;refine kA ?_;rintro _ _ ⟨g2,rfl,rfl⟩;refine q3Z ?_;rintro _ _ ⟨g3,rfl,rfl⟩;refine kx ?_;refine dj (ι:=Unit) (fun z=>[(4, .bool ((zbS a.Stations b.Stations)&&(zcA a.Lemmas b.Lemmas)))]) (fun z=>[.row g3 33 [vb_0,vb_1], .row g2 33 [va_0,va_1], .fr F1]) (fun z=>True) ?_ ?_
 ·refine ed ?_;refine kX ?_;refine eu ?_;refine cN (cL rfl rfl rfl (fun w hw=>zfo _ w (hw.fr (i:=2) rfl) a.Stations va_0 ha_0 b.Stations vb_0 hb_0)) ?_;refine lJ ?_;refine dQ rfl rfl rfl (fun h1=>?_) (fun h1=>?_)
  ·refine kX ?_;refine eu ?_;refine cN (cL rfl rfl rfl (fun w hw=>zhQ _ w (hw.fr (i:=2) rfl) a.Lemmas va_1 ca_1 ha_1 b.Lemmas vb_1 cb_1 hb_1)) ?_;refine lO ?_;exact q4n
  ·refine TL.run 7 rfl ?_;refine TL.nil ?_;exact q4o
 ·rintro _ _;refine T.ret ?_;subst hk;exact fw
def okL (x:GProof)(i:Nat):Bool:=(kc (cH x.Lemmas i)&&((decide (((cH x.Lemmas i).length:Int)=0)) == (decide ((i:Int)=((x.Lemmas.length:Int) - 1)))))&&(cH x.Lemmas i).all fun c=>jb x.Stations c.Station
def jV (x:GProof):Bool:=kT x.Stations&&(!((decide ((x.Lemmas.length:Int)<1))||(decide (4096<(x.Lemmas.length:Int))))&&(List.range x.Lemmas.length).all (okL x))
theorem zeQ (x:GProof):l8 x=some (jV x):=by
 unfold l8 jV
 have e:zbV [] x.Stations=some (bif kT x.Stations then ([],0) else ([],2)):=by
  rw [zml (l:=[]) (st:=x.Stations) a7]
  cases kT x.Stations <;> rfl
 rw [e,Option.bind_some]
 cases h2:kT x.Stations
 ·rfl
 rw [cond_true]
 show (bif decide (¬(0:Int)=0) then _ else _)=_
 rw [decide_eq_false a5,cond_false]
 cases h3:(decide ((x.Lemmas.length:Int)<1))||(decide (4096<(x.Lemmas.length:Int)))
 ·obtain ⟨s,h4,h5⟩:=of_x (l:=x.Stations) (zhX h2);rw [cond_false,h4,Option.bind_some];simp only [dS,Nat.sub_zero];refine (zgC (z:=some false) (fun i=>okL x i) (fun i next hi=>?_)).trans ?_
  ·have inner:di (fun (k:Nat) (nx:Unit→Option Bool) (_:Unit)=>(kN s ((cH (cH x.Lemmas i) k).Station)).bind fun r=>bif !r then some false else nx ()) (fun (_:Unit)=>next ()) (cH x.Lemmas i).length 0 ()=bif ((cH x.Lemmas i).all fun c=>jb x.Stations c.Station) then next () else some false:=
    (zgC (z:=some false) (fun k=>jb x.Stations (cH (cH x.Lemmas i) k).Station) (fun k nx hk=>by rw [zlF,zky h5 h2,Option.bind_some];cases jb x.Stations (cH (cH x.Lemmas i) k).Station <;> rfl)).trans (by rw [zeH (q:=fun c:GChoice=>jb x.Stations c.Station)])
   rw [inner];unfold okL
   cases kc (cH x.Lemmas i) <;> cases ((decide (((cH x.Lemmas i).length:Int)=0)) == (decide ((i:Int)=((x.Lemmas.length:Int) - 1)))) <;> rfl
  ·cases (List.range x.Lemmas.length).all fun i=>okL x i <;> rfl
 ·rfl
structure OkM (st:List Int) (M:List (List GChoice)):Prop where
 hS:kT st=true
 n:M.length<4096
 g:∀g∈M,kc g=true∧g≠[]∧(g.all fun c=>jb st c.Station)=true
theorem nthA {M:List (List GChoice)}{i:Nat}(hi:i<M.length):cH (M++[[]]) i=cH M i:=by rw [dW (show i<(M++[[]]).length by simp;omega),dW hi,List.getElem_append_left hi]
theorem OkM.sub {st:List Int}{M M':List (List GChoice)}(h:OkM st M)(hs:M'.Sublist M):OkM st M':=⟨h.hS,Nat.lt_of_le_of_lt hs.length_le h.n,fun g hg=>h.g g (hs.subset hg)⟩
theorem znf {x:GProof}(h:jV x=true):∃M,x.Lemmas=M++[[]]∧OkM x.Stations M:=by
 unfold jV at h;have h1:=zgf h;have h2:=zgf (zgJ h);have h3:=List.all_eq_true.1 (zgJ (zgJ h));rw [Bool.not_eq_true',Bool.or_eq_false_iff,decide_eq_false_iff_not,decide_eq_false_iff_not] at h2; (have hne:x.Lemmas≠[]:=fun e=>by rw [e] at h2;simp at h2);have hlast:=h3 (x.Lemmas.length - 1) (List.mem_range.2 a5)
 have hz:cH x.Lemmas (x.Lemmas.length - 1)=[]:=by
  unfold okL at hlast;have:=zgJ (zgf hlast);rw [decide_eq_true (show ((x.Lemmas.length - 1:Nat):Int)=(x.Lemmas.length:Int) - 1 by omega),beq_iff_eq,decide_eq_true_eq] at this;exact List.eq_nil_of_length_eq_zero a5
 have he:x.Lemmas=x.Lemmas.dropLast++[[]]:=by
  have h4:=List.dropLast_concat_getLast hne;rw [List.getLast_eq_getElem,←dW (show x.Lemmas.length - 1<x.Lemmas.length by omega),hz] at h4;exact h4.symm
 refine ⟨x.Lemmas.dropLast,he,h1,by rw [List.length_dropLast];omega,fun g hg=>?_⟩;obtain ⟨i,hi,e⟩:=iS hg;rw [List.length_dropLast] at hi;have h5:=h3 i (List.mem_range.2 a5)
 have e2:cH x.Lemmas i=g:=by
  rw [←e];have:=nthA (M:=x.Lemmas.dropLast) (i:=i) (by rw [List.length_dropLast];omega);rw [←he] at this;exact this
 unfold okL at h5;rw [e2,decide_eq_false (show ¬(i:Int)=(x.Lemmas.length:Int) - 1 by omega)] at h5;refine ⟨zgf (zgf h5),fun h0=>?_,zgJ h5⟩;have:=zgJ (zgf h5);rw [h0] at this;cases this
structure SubP (p:GProblem) (d:List GDomain):Prop where
 sub:SubD d p.Domains
 ord:OrdD d p.Domains
section
variable {p:GProblem}{d:List GDomain}
theorem SubP.len (h:SubP p d):d.length=p.Domains.length:=h.sub.1
theorem SubP.inc (hG:GG p)(h:SubP p d){i j:Nat}(hi:i<d.length)(hj:j<d.length)(e:(cH d i).Station=(cH d j).Station):i=j:=by
 (have hi':i<p.Domains.length:=by rw [←h.len];exact hi); (have hj':j<p.Domains.length:=by rw [←h.len];exact hj);rw [(h.sub.2 i hi').1,(h.sub.2 j hj').1] at e;rcases Nat.lt_trichotomy i j with h1|h1|h1
 ·have:=hG.inc i j h1 hj';omega
 ·exact h1
 ·have:=hG.inc j i h1 hi';omega
theorem SubP.inj (hG:GG p)(h:SubP p d){x y:GDomain}(hx:x∈d)(hy:y∈d)(e:x.Station=y.Station):x=y:=by
 obtain ⟨i,hi,rfl⟩:=iS hx;obtain ⟨j,hj,rfl⟩:=iS hy;rw [h.inc hG hi hj e]
theorem SubP.st (hG:GG p)(h:SubP p d){x:GDomain}(hx:x∈d):0≤x.Station∧x.Station≤511:=by
 obtain ⟨i,hi,rfl⟩:=iS hx; (have hi':i<p.Domains.length:=by rw [←h.len];exact hi);rw [(h.sub.2 i hi').1];exact hG.st _ (gp hi')
theorem SubP.ch (hG:GG p)(h:SubP p d){x:GDomain}(hx:x∈d){c:Int}(hc:c∈x.Channels):2≤c∧c≤51:=by
 obtain ⟨i,hi,rfl⟩:=iS hx; (have hi':i<p.Domains.length:=by rw [←h.len];exact hi);exact (hG.chs _ (gp hi')).2 _ ((h.sub.2 i hi').2 c hc)
theorem SubP.has (h:SubP p d){s:Int}(hs:jh p s=true):∃x∈d,x.Station=s:=by
 obtain ⟨x,hx,rfl⟩:=i5.1 hs;obtain ⟨i,hi,rfl⟩:=iS hx;exact ⟨_,gp (by rw [h.len];exact hi),(h.sub.2 i hi).1⟩
theorem zjJ {α:Type}[Inhabited α]{l:List α}{i:Nat}(hi:i<l.length):l.take (i+1)=l.take i++[cH l i]:=by
 rw [List.take_succ_eq_append_getElem hi,dW hi]
end
def remN (d:List GDomain)(g:List GChoice)(s c:Int):Bool:=(g.any fun x=>decide (x.Station=s)&&decide (x.Channel=c))&&g.all fun x=>decide (x.Station=s)||jo d x.Station x.Channel
structure ClosedN (p:GProblem) (S:List (List GChoice)) (d:List GDomain):Prop where
 cl:ClosedD p d
 ne:∀g∈S,g≠[]
 calm:∀g∈S,∀x∈d,∀c∈x.Channels,remN d g x.Station c=false
section
variable {p:GProblem}{S:List (List GChoice)}{d e:List GDomain}{m:List GDomain×Bool}{v:Vec 512 Int}{g:List GChoice}
end
def dK (p:GProblem)(l:List GChoice):List GDomain:=l.foldl (fun d c=>d.map (actC true c)) p.Domains
section
variable {p:GProblem}{S:List (List GChoice)}{d e:List GDomain}{m:List GDomain×Bool}
end
structure StN (p:GProblem) (t:GStore):Prop where
 pr:t.start.1=p
 st:PropD p p.Domains t.start.2
 tb:TabN p t.domains
 ok:∀g∈t.list,okN p g=true
section
variable {p:GProblem}{t:GStore}{fuel:Nat}
theorem StN.add (h:StN p t){g:List GChoice}(hg:okN p g=true):StN p ⟨t.domains,(t.start.1,t.start.2),t.list++[g]⟩:=⟨h.pr,h.st,h.tb,fun x hx=>by
 rcases List.mem_append.1 hx with hx|hx
 ·exact h.ok x hx
 ·simp at hx;rw [hx];exact hg⟩
end
section
variable {p:GProblem}{a:List GChoice}
end
section
variable {p:GProblem}{t:GStore}{fuel:Nat}{l S:List (List GChoice)}
end
def QN (p:GProblem)(S:List (List GChoice))(d:List GDomain)(r:List GDomain×Bool):Prop:=
 (r.2=true∧ClosedN p S r.1∧SubP p r.1∧SubD r.1 d∧∀e,ClosedN p S e→SubD e d→SubD e r.1)∨(r=([],false)∧∀e,ClosedN p S e→¬SubD e d)
def R21 (p:GProblem)(S:List (List GChoice))(d:List GDomain)(s c:Int):Bool:=(S.any fun g=>remN d g s c)||iF p d s c
section
variable {p:GProblem}{S S':List (List GChoice)}{d a b:List GDomain}{t:GStore}{fuel:Nat}{l:List GChoice}
theorem zma (hok:kK p=true)(ha:SubP p a)(hb:SubP p b)(h1:SubD a b)(h2:SubD b a):a=b:=by
 obtain ⟨_,hbd,_,_⟩:=zlX hok;refine ze8 h1.1 fun i hi=>?_; (have hi':i<b.length:=by rw [←h1.1];exact hi); (have hp:i<p.Domains.length:=by rw [←ha.len];exact hi);have hch:(cH a i).Channels=(cH b i).Channels:=zcZ (ha.ord i hp) (hb.ord i hp) (hbd.ch _ (gp hp)).2 (fun x=>⟨(h1.2 i hi').2 x,(h2.2 i hi).2 x⟩);have hst:=(h1.2 i hi').1
 cases hx:cH a i;cases hy:cH b i
 rw [hx,hy] at hch hst;simp only at hch hst;rw [hch,hst]
theorem QN.eq {r r':List GDomain×Bool}(hok:kK p=true)(h:QN p S d r)(h':QN p S d r'):r=r':=by
 rcases h with ⟨h1,h2,h3,h4,h5⟩|⟨h1,h2⟩
 ·rcases h' with ⟨g1,g2,g3,g4,g5⟩|⟨g1,g2⟩
  ·exact Prod.ext (zma hok h3 g3 (g5 _ h2 h4) (h5 _ g2 g4)) (h1.trans g1.symm)
  ·exact absurd h4 (g2 _ h2)
 ·rcases h' with ⟨g1,g2,g3,g4,g5⟩|⟨g1,g2⟩
  ·exact absurd g4 (h2 _ g2)
  ·rw [h1,g1]
theorem ClosedN.mono (h:ClosedN p S d)(hs:∀g∈S',g∈S):ClosedN p S' d:=⟨h.cl,fun g hg=>h.ne g (hs g hg),fun g hg=>h.calm g (hs g hg)⟩
theorem QN.congr {r:List GDomain×Bool}(h:QN p S d r)(hs:∀g,g∈S↔g∈S'):QN p S' d r:=by
 have f:∀ {e},ClosedN p S' e→ClosedN p S e:=fun he=>he.mono fun g hg=>(hs g).1 hg;rcases h with ⟨h1,h2,h3,h4,h5⟩|⟨h1,h2⟩
 ·exact .inl ⟨h1,h2.mono fun g hg=>(hs g).2 hg,h3,h4,fun e he=>h5 e (f he)⟩
 ·exact .inr ⟨h1,fun e he=>h2 e (f he)⟩
theorem R21.mono (hok:kK p=true):MonoR (R21 p S):=fun a b s c h hr=>by
 unfold R21 at hr ⊢;rw [Bool.or_eq_true,List.any_eq_true] at hr ⊢;rcases hr with ⟨g,hg,hr⟩|hr
 ·refine .inl ⟨g,hg,?_⟩;unfold remN at hr ⊢;rw [Bool.and_eq_true,List.all_eq_true] at hr ⊢;refine ⟨hr.1,fun x hx=>?_⟩;have:=hr.2 x hx;rw [Bool.or_eq_true] at this ⊢;exact this.imp id (zdp h)
 ·exact .inr (zfT (zlX hok).1 h hr)
theorem ValidL.take (h:ValidL l)(n:Nat):ValidL (l.take n):=by
 refine ⟨fun x hx=>h.good x (List.mem_of_mem_take hx),fun i j hij hj=>?_⟩;rw [List.length_take] at hj;rw [dW (by rw [List.length_take];omega),dW (by rw [List.length_take];omega),List.getElem_take,List.getElem_take];have:=h.inc i j hij a5
 rwa [dW a5,dW a5] at this
end
section
variable {p:GProblem}{fuel:Nat}
end
def HoldN (q:GProblem)(S:List (List GChoice))(g:List GChoice):Prop:=okN q g=true∧∀e,ClosedN q S e→¬SubD e (dK q g)
def AllN (q:GProblem):List (List GChoice)→List (List GChoice)→Prop
 |_,[]=>True
 |S,g :: l=>HoldN q S g∧AllN q (S++[g]) l
open Classical in
section
variable {q:GProblem}{fuel:Nat}{S S':List (List GChoice)}{g:List GChoice}
theorem ClosedN.less {d:List GDomain}(h:ClosedN q S d)(hs:∀g∈S',g∈S):ClosedN q S' d:=⟨h.cl,fun g hg=>h.ne g (hs g hg),fun g hg=>h.calm g (hs g hg)⟩
theorem HoldN.mono (h:HoldN q S g)(hs:∀x∈S,x∈S'):HoldN q S' g:=⟨h.1,fun e he=>h.2 e (he.less hs)⟩
theorem AllN.mono:∀ {l:List (List GChoice)} {S S':List (List GChoice)},(∀x∈S,x∈S')→AllN q S l→AllN q S' l
 | [],_,_,_,_=>trivial
 |g :: l,S,S',hs,h=>⟨h.1.mono hs,AllN.mono (fun x hx=>by
  rcases List.mem_append.1 hx with hx|hx
  ·exact List.mem_append_left _ (hs x hx)
  ·exact List.mem_append_right _ hx) h.2⟩
theorem AllN.ok:∀ {l:List (List GChoice)} {S:List (List GChoice)},AllN q S l→∀g∈l,okN q g=true
 | [],_,_,_,hg=>by cases hg
 |g :: l,S,h,x,hx=>by
  rcases List.mem_cons.1 hx with rfl|hx
  ·exact h.1.1
  ·exact AllN.ok h.2 x hx
end
section
variable {p:GProblem}{x:GProof}{fuel:Nat}
theorem okX_S (h:jV x=true):kT x.Stations=true:=by unfold jV at h;exact zgf h
theorem okX_n (h:jV x=true):x.Lemmas.length≤4096:=by
 obtain ⟨M,e,hM⟩:=znf h;have:=hM.n;rw [e,List.length_append,List.length_singleton];omega
end
end Go.Proofs.YtogbggmckmnlfaaGreatDoor
