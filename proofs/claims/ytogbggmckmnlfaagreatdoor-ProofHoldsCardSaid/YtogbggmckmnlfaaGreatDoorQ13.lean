/- Yt Ye Wa: shortened and put together by squeeze.py. -/
import Derived.Test.YtogbggmckmnlfaaGreatDoorQ12
set_option maxRecDepth 100000
set_option maxHeartbeats 4000000
set_option linter.unusedVariables false
set_option linter.unusedSectionVars false
set_option linter.unusedSimpArgs false
namespace Go.Proofs.YtogbggmckmnlfaaGreatDoor
open Go.RowKit
structure GProof where
 Stations:List Int
 Lemmas:List (List GChoice)
deriving DecidableEq,Inhabited
def ez (F:Frz)(c:List Value)(x:GProof):Prop:=∃(v0:Value) (v1:Value) (cs1:List (List Value)),c=[v0,v1]∧SlC F v0 1 (x.Stations.map eI)∧SlD cJ F v1 1 cs1 x.Lemmas
theorem GProof.mono {F G:Frz}{c:List Value}{x:GProof}(hle:F.Le G)(h:ez F c x):ez G c x:=by
 obtain ⟨v0,v1,cs1,h0,h1,h2⟩:=h;exact ⟨v0,v1,cs1,h0,h1.mono hle,SlD.mono (rep:=cJ) (fun _ _ _ _=>R_List_GChoice.mono) h2 hle⟩
theorem GProof.len {F:Frz}{c:List Value}{x:GProof}(h:ez F c x):c.length=2:=by
 obtain ⟨v0,v1,cs1,h0,h1,h2⟩:=h;subst h0;rfl
theorem GProof.one {F:Frz}{c:List Value}{x:GProof}(h:ez F c x):OneCs c:=by
 obtain ⟨v0,v1,cs1,h0,h1,h2⟩:=h;subst h0;haveI:=h1.oneC;haveI:=h2.1.oneC
 infer_instance
theorem GProof.c0 {F:Frz}{c:List Value}{x:GProof}(h:ez F c x):c[0]?=some (cK c 0)∧SlC F (cK c 0) 1 (x.Stations.map eI):=by
 obtain ⟨v0,v1,cs1,h0,h1,h2⟩:=h;subst h0;exact ⟨rfl,h1⟩
theorem GProof.c1 {F:Frz}{c:List Value}{x:GProof}(h:ez F c x):c[1]?=some (cK c 1)∧∃cs,SlD cJ F (cK c 1) 1 cs x.Lemmas:=by
 obtain ⟨v0,v1,cs1,h0,h1,h2⟩:=h;subst h0;exact ⟨rfl,cs1,h2⟩
theorem GProof.form {F:Frz}{c:List Value}{x:GProof}(h:ez F c x):(c.drop 0).take 2=[cK c 0,cK c 1]:=by
 obtain ⟨v0,v1,cs1,h0,h1,h2⟩:=h;subst h0;rfl
def zcl (x_:GProof):Option Bool:=
 (zb8 [] x_.Stations).bind fun r14=>
 (bif decide (¬r14.2=0) then
  some false
  else
  (bif ((decide ((x_.Lemmas.length:Int)<1))||(decide (4096<(x_.Lemmas.length:Int)))) then
   some false
   else
   (zbT x_.Stations).bind fun r32=>
   dJ (fun (_:Unit)=>
    some true)
   (fun k4=>
    c8 (fun (i_6:Nat) (next5:Unit→Option Bool) (_:Unit)=>
     (bif ((!(kx (cK x_.Lemmas i_6)))||(!((decide (((cK x_.Lemmas i_6).length:Int)=0)) == (decide ((i_6:Int)=((x_.Lemmas.length:Int) - 1)))))) then
      some false
      else
      c8 (fun (i_11:Nat) (next10:Unit→Option Bool) (_:Unit)=>
       (l5 r32.1 ((cK (cK x_.Lemmas i_6) i_11).Station)).bind fun r67=>
       (bif !r67 then
        some false
        else
        next10 ()))
      (fun (_:Unit)=>
       next5 ()) (((cK x_.Lemmas i_6).length) - 0) 0 ()))
    (fun (_:Unit)=>
     k4 ()) (x_.Lemmas.length - 0) 0 ())))
theorem zfI (F0:Frz)(w:World)(hF0:F0.At w)(x_:GProof)(vx__0:Value)(hx__0:SlC F0 vx__0 1 (x_.Stations.map eI))(vx__1:Value)(cx__1:List (List Value))(hx__1:SlD cJ F0 vx__1 1 cx__1 x_.Lemmas)(r:Bool)(hr:zcl x_=some r):Calls Tryz.prog 13 #[.agg [vx__0,vx__1].toArray] w fun e w'=>e= .returned (.bool r)∧Below w.heap.size w w':=by
 have hk:=hr;unfold zcl at hk;haveI:=hx__0.oneC;haveI:=hx__1.1.oneC;obtain ⟨S0,F1,rfl,hS0,hp0⟩:=eY hF0;refine dv Tryz.func13 rfl rfl rfl hp0 ?_;refine iW ?_;rintro _ _ ⟨g1,rfl,rfl⟩;refine df ?_;refine kF ?_;have hq:=ee hk;clear hk;obtain ⟨r14,hr14,hk⟩:=hq; (try dsimp only at hk);refine mw ?_;refine cW (d4 1 rfl rfl rfl rfl (fun w hw hF=>zhs _ w hF [] (.slice none 0 0) (SlC.nil _ 2) x_.Stations vx__0 hx__0 r14 hr14)) ?_;rintro _ _ ⟨v14_0_0,F2,le1_2,hf14_0_0,rfl,rfl⟩;haveI:=hf14_0_0.oneC;refine TL.run 5 rfl ?_;refine d8 ?_;refine jB ?_;refine T.cond rfl (fun h1=>?_) (fun h1=>?_)
 ·have p1:=of_decide_eq_true h1;replace hk:=dt hk h1;refine iN ?_;obtain rfl:=Option.some.inj hk;exact eh
 ·have p1:=of_decide_eq_false h1;replace hk:=dr hk h1;refine q34 ?_;refine da (ι:=Unit) (fun z=>[(1, .pointer (some ⟨g1,0,none⟩)),(28, .bool ((decide ((x_.Lemmas.length:Int)<1))||(decide (4096<(x_.Lemmas.length:Int)))))]) (fun z=>[.row g1 33 [vx__0,vx__1], .fr F2]) (fun z=>True) ?_ ?_
  ·refine mw ?_;refine q1g ?_;have hm21:x_.Lemmas.length≤9223372036854775807:=(SlD.mono (rep:=cJ) (fun _ _ _ _=>R_List_GChoice.mono) hx__1 le1_2).2.1▸(SlD.mono (rep:=cJ) (fun _ _ _ _=>R_List_GChoice.mono) hx__1 le1_2).1.max;refine eg ?_;refine dl rfl rfl rfl (fun h2=>?_) (fun h2=>?_)
   ·have p2:=of_decide_eq_true h2;refine mm ?_;exact cS () trivial (.c (.b (jl h2).symm .nil)) (List.Sublist.refl _)
   ·have p2:=of_decide_eq_false h2;refine ei ?_;refine q1g ?_;refine eg ?_;refine ff ?_;exact cS () trivial (.c (.b (io h2) .nil)) (List.Sublist.refl _)
  ·rintro _ _;refine T.cond rfl (fun h3=>?_) (fun h3=>?_)
   ·replace hk:=dt hk h3;refine iN ?_;obtain rfl:=Option.some.inj hk;exact eh
   ·have p3:=h3; (try simp only [cY] at p3);replace hk:=dr hk h3;refine jM ?_;have hq:=ee hk;clear hk;obtain ⟨r32,hr32,hk⟩:=hq; (try dsimp only at hk);refine mw ?_;refine cW (cN rfl rfl rfl (fun w hw=>zd2 _ w (hw.fr (i:=1) rfl) x_.Stations vx__0 (SlC.mono hx__0 le1_2) r32 hr32)) ?_;refine eX ?_;refine eR ?_;refine q1S ?_;rintro _ _ ⟨g5,rfl,rfl⟩;refine q1x ?_;refine jN ?_;refine jZ ?_;refine q1g ?_;have hm37:x_.Lemmas.length≤9223372036854775807:=(SlD.mono (rep:=cJ) (fun _ _ _ _=>R_List_GChoice.mono) hx__1 le1_2).2.1▸(SlD.mono (rep:=cJ) (fun _ _ _ _=>R_List_GChoice.mono) hx__1 le1_2).1.max;refine dB ?_;have hq:=ek hk;clear hk;obtain ⟨k4,hk4,hk⟩:=hq; (try dsimp only at hk);refine da (ι:=Unit) (fun z=>[]) (fun z=>[.fr F2]) (fun z=>k4 ()=some r) ?_ ?_
    ·have hq:=fB hk;clear hk;obtain ⟨f5,kk5,hf5,hkk5,hk⟩:=hq;refine fj ?_;refine T.loop (ι:=Nat) (fun z=>[(1, .pointer (some ⟨g1,0,none⟩)),(5, .pointer (some ⟨g5,0,none⟩)),(36,vx__1),(37, .int .i64 (x_.Lemmas.length:Int)),(38, .int .i64 (z:Int))]) (fun z=>[.row g5 83 (r32.1.words.1.map U), .row g1 33 [vx__0,vx__1], .fr F2]) (fun z=>c8 f5 kk5 (x_.Lemmas.length - z) z ()=some r) (fun z=>x_.Lemmas.length - z) 0 ?_ ?_ ?_ ?_
     ·exact hk
     ·exact mh
     ·exact eW
     ·rintro i_6 hk;refine fh ?_;refine T.cond rfl (fun h7=>?_) (fun h7=>?_)
      ·have p7:=of_decide_eq_true h7;rw [fx a5] at hk;generalize hn5:c8 f5 kk5 (x_.Lemmas.length - (i_6+1)) (i_6+1)=next5 at hk;rw [←hf5] at hk; (try dsimp only at hk);refine q4k ?_;refine cM (dh (i:=i_6) rfl rfl rfl (SlD.mono (rep:=cJ) (fun _ _ _ _=>R_List_GChoice.mono) hx__1 le1_2).1 (SlD.mono (rep:=cJ) (fun _ _ _ _=>R_List_GChoice.mono) hx__1 le1_2).2.1 rfl a5) ?_;refine cM (dU 2 (i:=i_6) (j:=0) rfl rfl rfl (SlD.mono (rep:=cJ) (fun _ _ _ _=>R_List_GChoice.mono) hx__1 le1_2).1 (SlD.mono (rep:=cJ) (fun _ _ _ _=>R_List_GChoice.mono) hx__1 le1_2).2.1 a5 rfl (R_List_GChoice.c0 ((SlD.mono (rep:=cJ) (fun _ _ _ _=>R_List_GChoice.mono) hx__1 le1_2).2.2 i_6 a5)).1) ?_;have hd42_0:=(R_List_GChoice.c0 ((SlD.mono (rep:=cJ) (fun _ _ _ _=>R_List_GChoice.mono) hx__1 le1_2).2.2 i_6 a5)).2;haveI:=hd42_0.oneC;refine eg ?_;refine kF ?_;refine da (ι:=Unit) (fun z=>[(1, .pointer (some ⟨g1,0,none⟩)),(5, .pointer (some ⟨g5,0,none⟩)),(8,(cK (cK cx__1 i_6) 0)),(36,vx__1),(37, .int .i64 (x_.Lemmas.length:Int)),(38, .int .i64 (i_6:Int)),(57, .bool ((!(kx (cK x_.Lemmas i_6)))||(!((decide (((cK x_.Lemmas i_6).length:Int)=0)) == (decide ((i_6:Int)=((x_.Lemmas.length:Int) - 1)))))))]) (fun z=>[.row g5 83 (r32.1.words.1.map U), .row g1 33 [vx__0,vx__1], .fr F2]) (fun z=>True) ?_ ?_
       ·refine iV ?_;refine cW (cN rfl rfl rfl (fun w hw=>zcv _ w (hw.fr (i:=2) rfl) (cK x_.Lemmas i_6) (cK (cK cx__1 i_6) 0) hd42_0)) ?_;refine eX ?_;refine eg ?_;refine dl rfl rfl rfl (fun h8=>?_) (fun h8=>?_)
        ·refine TL.run 11 rfl ?_;refine ff ?_;exact cS () trivial (.c (.c (.c (.c (.c (.c (.b (jl h8).symm .nil))))))) (List.Sublist.refl _)
        ·refine df ?_;refine cM (dg rfl rfl hd42_0 (List.length_map _)) ?_;have hm48:(cK x_.Lemmas i_6).length≤9223372036854775807:=(List.length_map _)▸hd42_0.max;refine eg ?_;refine jZ ?_;refine q1g ?_;refine q2x ?_;refine df ?_;refine cM (Yv.cE a7 rfl rfl rfl) ?_;refine df ?_;refine ff ?_;exact cS () trivial (.c (.c (.c (.c (.c (.c (.b (io h8) .nil))))))) (List.Sublist.refl _)
       ·rintro _ _;have hm48:(cK x_.Lemmas i_6).length≤9223372036854775807:=(List.length_map _)▸hd42_0.max;refine T.cond rfl (fun h9=>?_) (fun h9=>?_)
        ·replace hk:=dt hk h9;refine gu ?_;refine q2w ?_;obtain rfl:=Option.some.inj hk;exact eh
        ·replace hk:=dr hk h9;refine i7 ?_;refine df ?_;refine cM (dg rfl rfl hd42_0 (List.length_map _)) ?_;refine dB ?_;have hq:=fB hk;clear hk;obtain ⟨f10,kk10,hf10,hkk10,hk⟩:=hq;refine fj ?_;refine T.loop (ι:=Nat) (fun z=>[(1, .pointer (some ⟨g1,0,none⟩)),(5, .pointer (some ⟨g5,0,none⟩)),(36,vx__1),(37, .int .i64 (x_.Lemmas.length:Int)),(38, .int .i64 (i_6:Int)),(58,(cK (cK cx__1 i_6) 0)),(59, .int .i64 ((cK x_.Lemmas i_6).length:Int)),(60, .int .i64 (z:Int))]) (fun z=>[.row g5 83 (r32.1.words.1.map U), .row g1 33 [vx__0,vx__1], .fr F2]) (fun z=>c8 f10 kk10 (((cK x_.Lemmas i_6).length) - z) z ()=some r) (fun z=>((cK x_.Lemmas i_6).length) - z) 0 ?_ ?_ ?_ ?_
         ·exact hk
         ·exact (.c (.c (.c (.c (.c (.c (.c (.c .nil))))))))
         ·exact eW
         ·rintro i_11 hk;refine fh ?_;refine T.cond rfl (fun h12=>?_) (fun h12=>?_)
          ·have p12:=of_decide_eq_true h12;rw [fx a5] at hk;generalize hn10:c8 f10 kk10 (((cK x_.Lemmas i_6).length) - (i_11+1)) (i_11+1)=next10 at hk;rw [←hf10] at hk; (try dsimp only at hk);refine fS ?_;refine cM (dh (i:=i_11) rfl rfl rfl hd42_0 (List.length_map _) rfl a5) ?_;refine cM (ef 2 (i:=i_11) rfl rfl rfl hd42_0 a5) ?_;refine gV ?_;rintro _ _ ⟨g10,rfl,rfl⟩;refine mL ?_;have hq:=ee hk;clear hk;obtain ⟨r67,hr67,hk⟩:=hq; (try dsimp only at hk);refine fN ?_;refine cM (d7 1 rfl rfl rfl Vec.len) ?_;refine ei ?_;refine cW (cN rfl rfl rfl (fun w hw=>zaD _ w (hw.fr (i:=3) rfl) r32.1 ((cK (cK x_.Lemmas i_6) i_11).Station) r67 hr67)) ?_;refine eX ?_;refine dB ?_;refine T.cond rfl (fun h13=>?_) (fun h13=>?_)
           ·replace hk:=dt hk h13;refine gu ?_;refine db (T.ret (fm (d6 (d6 (fm (fm (d6 (d6 (fm (d6 ?_))))))))));obtain rfl:=Option.some.inj hk;exact eh
           ·replace hk:=dr hk h13;refine iE ?_;rw [←hn10] at hk;refine q2h ?_;exact K.next (i_11+1) hk a5 (.c (.c (.c (.c (.c (.c (.c (.c .nil)))))))) (List.Sublist.refl _)
          ·have p12:=of_decide_eq_false h12;rw [fw a5,←hkk10] at hk; (try dsimp only at hk);refine q3N ?_;refine kL ?_;rw [←hn5] at hk;exact K.next (i_6+1) hk a5 (.c (.c (.c (.c (.c .nil))))) (List.Sublist.refl _)
      ·have p7:=of_decide_eq_false h7;rw [fw a5,←hkk5] at hk; (try dsimp only at hk);refine eE ?_;refine K.pick [2] rfl a6 ?_;exact lv
    ·rintro _ hk;rw [←hk4] at hk; (try dsimp only at hk);refine kE ?_;obtain rfl:=Option.some.inj hk;exact eh
def zbo (fuel:Nat)(p:GProblem)(x_:GProof):Option (Option GStore×Int):=
 dJ (fun (x_1:Bool)=>
  (bif x_1 then
   some (none,2)
   else
   (zbN p x_.Stations).bind fun r20=>
   (bif decide (¬r20.2=0) then
    some (none,r20.2)
    else
    (zc8 fuel r20.1).bind fun r27=>
    (bif (r27.1).isSome then
     some (some (r27.1.getD default),r27.2)
     else
     some (none,r27.2)))))
 (fun k2=>
  (bif !(gW p) then
   k2 true
   else
   (zcl x_).bind fun r13=>
   k2 (!r13)))
theorem zdc (F0:Frz)(w:World)(hF0:F0.At w)(p:GProblem)(vp_0:Value)(cp_0:List (List Value))(hp_0:SlD cL F0 vp_0 2 cp_0 p.Domains)(vp_1:Value)(hp_1:SlC F0 vp_1 5 (p.Rules.Pairs.map cP))(vp_2:Value)(hp_2:SlC F0 vp_2 5 (p.Rules.Loads.map cR))(vp_3:Value)(hp_3:SlC F0 vp_3 4 (p.Rules.Caps.map cV))(x_:GProof)(vx__0:Value)(hx__0:SlC F0 vx__0 1 (x_.Stations.map eI))(vx__1:Value)(cx__1:List (List Value))(hx__1:SlD cJ F0 vx__1 1 cx__1 x_.Lemmas)(htab:Tab w)(fuel:Nat)(hfu:100000≤fuel)(r:Option GStore×Int)(hr:zbo fuel p x_=some r):Calls Tryz.prog 36 #[.agg [vp_0,vp_1,vp_2,vp_3].toArray, .agg [vx__0,vx__1].toArray] w fun e w'=>((r.1).isSome=true→∃(y:Nat×SK×Value×Ws×Value×List (List Value)) (G:Frz),(SI ((r.1.getD default).start).1 ((r.1.getD default).start).2 y.2.1 y.2.2.2.1∧TbF G y.2.1∧SzF G y.2.1 y.2.2.1 y.2.2.2.1 (!((r.1.getD default).start).2.2)∧OwnD cJ G 1 y.2.2.2.2.2 ((r.1.getD default).list))∧e= .returned (.tuple #[.pointer (some ⟨y.1,0,none⟩), .int .i64 r.2])∧FxM F0 w (dF []) G [.row y.1 144 ((((r.1.getD default).domains).1.map U)++[.pointer (some ⟨y.2.1.sp,0,none⟩),y.2.2.2.2.1]), .sl y.2.2.2.2.1 50 1 ((r.1.getD default).list).length y.2.2.2.2.2.flatten] w')∧((r.1).isSome=false→∃(y:Unit) (G:Frz),(True)∧e= .returned (.tuple #[.pointer none, .int .i64 r.2])∧FxM F0 w (dF []) G [] w'):=by
 have hk:=hr;unfold zbo at hk;haveI:=hp_0.1.oneC;haveI:=hp_1.oneC;haveI:=hp_2.oneC;haveI:=hp_3.oneC;haveI:=hx__0.oneC;haveI:=hx__1.1.oneC;obtain ⟨S0,F1,rfl,hS0,hp0⟩:=eY hF0;rw [zg5];have hM0:¬(fun _:Nat=>False) 0:=fun h=>h;have htk:∀ {hs:HS} {w':World},Hp w (fun _=>False) hs w'→Tab w':=fun hw=>htab.keptF hw;refine dv Tryz.func36 rfl rfl rfl hp0 ?_;refine iW ?_;rintro _ _ ⟨g2,rfl,rfl⟩;refine q3J ?_;rintro _ _ ⟨g3,rfl,rfl⟩;refine eg ?_;refine kF ?_; (try dsimp only at hk);have hq:=ek hk;clear hk;obtain ⟨k2,hk2,hk⟩:=hq; (try dsimp only at hk);refine da (ι:=Bool) (fun z=>[(2, .pointer (some ⟨g2,0,none⟩)),(3, .pointer (some ⟨g3,0,none⟩)),(15, .bool z)]) (fun z=>[.row g3 33 [vx__0,vx__1], .row g2 29 [vp_0,vp_1,vp_2,vp_3], .fr F1]) (fun z=>k2 z=some r) ?_ ?_
 ·refine q4a ?_;refine dl rfl rfl rfl (fun h3=>?_) (fun h3=>?_)
  ·replace hk:=dt hk h3;refine kX ?_;exact cS true hk (.c (.c (.c .nil))) (List.Sublist.refl _)
  ·replace hk:=dr hk h3;refine iv ?_;have hq:=ee hk;clear hk;obtain ⟨r13,hr13,hk⟩:=hq;refine cW (cN rfl rfl rfl (fun w hw=>zfI _ w (hw.fr (i:=2) rfl) x_ vx__0 hx__0 vx__1 cx__1 hx__1 r13 hr13)) ?_;refine mi ?_;exact cS (!r13) hk (.c (.c (.c .nil))) (List.Sublist.refl _)
 ·rintro x_1 hk;rw [←hk2] at hk; (try dsimp only at hk);refine T.cond rfl (fun h4=>?_) (fun h4=>?_)
  ·replace hk:=dt hk h4;refine lO ?_;obtain rfl:=Option.some.inj hk;exact eP rfl rfl rfl (fun w' hw=>⟨fun h=>(by cases h),fun _=>⟨⟨⟩,F1.toFrz,trivial,rfl,dy (hw.pick (idx:=[2]) rfl a6) hS0 (Frz.Le.refl _)⟩⟩)
  ·replace hk:=dr hk h4;refine jM ?_;have hq:=ee hk;clear hk;obtain ⟨r20,hr20,hk⟩:=hq; (try dsimp only at hk);refine nb ?_;refine ei ?_;refine cW (d4 2 rfl rfl rfl rfl (fun w hw hF=>zfB _ w hF p vp_0 cp_0 hp_0 vp_1 hp_1 vp_2 hp_2 vp_3 hp_3 x_.Stations vx__0 hx__0 r20 hr20)) ?_;rintro _ _ ⟨⟨v20_0_0,cs20_0_0,v20_0_1,v20_0_2,v20_0_3⟩,F2,le1_2,⟨hf20_0_0,hf20_0_1,hf20_0_2,hf20_0_3⟩,rfl,rfl⟩;dsimp only at hf20_0_0 hf20_0_1 hf20_0_2 hf20_0_3 ⊢;haveI:=hf20_0_0.1.oneC;haveI:=hf20_0_1.oneC;haveI:=hf20_0_2.oneC;haveI:=hf20_0_3.oneC;refine eR ?_;refine gV ?_;rintro _ _ ⟨g6,rfl,rfl⟩;refine j5 ?_;refine jN ?_;refine jB ?_;refine T.cond rfl (fun h5=>?_) (fun h5=>?_)
   ·have p5:=of_decide_eq_true h5;replace hk:=dt hk h5;refine dq ?_;refine eR ?_;refine kB ?_;obtain rfl:=Option.some.inj hk;exact eP rfl rfl rfl (fun w' hw=>⟨fun h=>(by cases h),fun _=>⟨⟨⟩,F2.toFrz,trivial,rfl,dy (hw.pick (idx:=[3]) rfl a6) hS0 le1_2⟩⟩)
   ·have p5:=of_decide_eq_false h5;replace hk:=dr hk h5;refine jM ?_;have hq:=ee hk;clear hk;obtain ⟨r27,hr27,hk⟩:=hq; (try dsimp only at hk);refine lQ ((r27.1).isSome) (fun h6=>?_) (fun h6=>?_)
    ·replace hk:=dt hk h6;refine fN ?_;refine iv ?_;refine cW (eM [3,0,1,2] [] [.row g6 29 [v20_0_0,v20_0_1,v20_0_2,v20_0_3], .row g3 33 [vx__0,vx__1], .row g2 29 [vp_0,vp_1,vp_2,vp_3]] rfl rfl rfl rfl a6 (fun w hw hw2 hF=>(zgd _ w hF r20.1 v20_0_0 cs20_0_0 hf20_0_0 v20_0_1 hf20_0_1 v20_0_2 hf20_0_2 v20_0_3 hf20_0_3 (htk hw) fuel hfu r27 hr27).mono (fun e w' hp=>hp.1 h6))) ?_;rintro _ _ ⟨⟨g27_n,k27_n_512,v27_n_512,L27_n_512,v27_n_513,c27_n_513⟩,F3,le2_3,⟨hs27_n_512,tf27_n_512,zf27_n_512,ho27_n_513⟩,rfl,rfl⟩;refine fX ?_; (try dsimp only at hs27_n_512 tf27_n_512 zf27_n_512 ho27_n_513);have le1_3:=le1_2.trans le2_3;refine gb 1 rfl ?_;intro iv27_n_513 hmv27_n_513;refine lC ?_;refine gH ?_;obtain rfl:=Option.some.inj hk;exact eP rfl rfl rfl (fun w' hw=>⟨fun _=>⟨(g27_n,k27_n_512,v27_n_512,L27_n_512,v27_n_513,c27_n_513),F3.toFrz,⟨hs27_n_512,tf27_n_512,zf27_n_512,ho27_n_513⟩,rfl,dy (hw.pick (idx:=[0,1,2]) rfl a6) hS0 le1_3⟩,fun h=>(by cases h)⟩)
    ·replace hk:=dr hk h6;refine fN ?_;refine iv ?_;refine cW (eM [3,0,1,2] [] [.row g6 29 [v20_0_0,v20_0_1,v20_0_2,v20_0_3], .row g3 33 [vx__0,vx__1], .row g2 29 [vp_0,vp_1,vp_2,vp_3]] rfl rfl rfl rfl a6 (fun w hw hw2 hF=>(zgd _ w hF r20.1 v20_0_0 cs20_0_0 hf20_0_0 v20_0_1 hf20_0_1 v20_0_2 hf20_0_2 v20_0_3 hf20_0_3 (htk hw) fuel hfu r27 hr27).mono (fun e w' hp=>hp.2 h6))) ?_;rintro _ _ ⟨⟨⟩,F4,le2_4, -,rfl,rfl⟩;refine fX ?_;have le1_4:=le1_2.trans le2_4;refine lC ?_;refine gH ?_;obtain rfl:=Option.some.inj hk;exact eP rfl rfl rfl (fun w' hw=>⟨fun h=>(by cases h),fun _=>⟨⟨⟩,F4.toFrz,trivial,rfl,dy (hw.pick (idx:=[0]) rfl a6) hS0 le1_4⟩⟩)
def zbb (fuel:Nat)(x0_:GStore)(lemmas:List (List GChoice)):Option (Int×List (List GChoice)):=
 dJ (fun (c_1:List (List GChoice))=>
  some ((lemmas.length:Int),c_1))
 (fun k2=>
  c8 (fun (i_5:Nat) (next4:List (List GChoice)→Option (Int×List (List GChoice))) (c_3:List (List GChoice))=>
   (zaM fuel (GStore.mk x0_.domains (x0_.start.1,x0_.start.2) c_3) (cK lemmas i_5)).bind fun r19=>
   (bif ((decide (¬r19.2=0))||(!r19.1)) then
    some ((i_5:Int),c_3)
    else
    dJ (fun (s11:Bool×List (List GChoice))=>
     (bif s11.1 then
      some (((i_5:Int)+1),s11.2)
      else
      next4 s11.2))
    (fun k11=>
     (bif decide ((i_5:Int)<((lemmas.length:Int) - 1)) then
      (zaF (GStore.mk x0_.domains (x0_.start.1,x0_.start.2) c_3) (cK lemmas i_5)).bind fun r37=>
      k11 (decide (¬r37.1=0),r37.2)
      else
      k11 (false,c_3)))))
  (fun (c_3:List (List GChoice))=>
   k2 c_3) (lemmas.length - 0) 0 x0_.list)
theorem zdo (F0:Frz)(w:World)(hF0:F0.At w)(x0_:GStore)(g0_:Nat)(k0_512:SK)(v0_512:Value)(L0_512:Ws)(hs0_512:SI x0_.start.1 x0_.start.2 k0_512 L0_512)(tf0_512:TbF F0 k0_512)(zf0_512:SzF F0 k0_512 v0_512 L0_512 (!x0_.start.2.2))(v0_513:Value)(c0_513:List (List Value))(h0_513:OwnD cJ F0 1 c0_513 x0_.list)(lemmas:List (List GChoice))(vlemmas:Value)(clemmas:List (List Value))(hlemmas:SlD cJ F0 vlemmas 1 clemmas lemmas)(htab:Tab w)(hO:Hp w (dF [.row g0_ 144 ((x0_.domains.1.map U)++[.pointer (some ⟨k0_512.sp,0,none⟩),v0_513]), .sl v0_513 50 1 x0_.list.length c0_513.flatten]) [.row g0_ 144 ((x0_.domains.1.map U)++[.pointer (some ⟨k0_512.sp,0,none⟩),v0_513]), .sl v0_513 50 1 x0_.list.length c0_513.flatten] w)(hA:∀g,dF [.row g0_ 144 ((x0_.domains.1.map U)++[.pointer (some ⟨k0_512.sp,0,none⟩),v0_513]), .sl v0_513 50 1 x0_.list.length c0_513.flatten] g→¬F0.S g)(hZ:¬dF [.row g0_ 144 ((x0_.domains.1.map U)++[.pointer (some ⟨k0_512.sp,0,none⟩),v0_513]), .sl v0_513 50 1 x0_.list.length c0_513.flatten] 0)(fuel:Nat)(hfu:100000≤fuel)(r:Int×List (List GChoice))(hr:zbb fuel x0_ lemmas=some r):Calls Tryz.prog 37 #[.pointer (some ⟨g0_,0,none⟩),vlemmas] w fun e w'=>∃(y:Value×List (List Value)) (G:Frz),(OwnD cJ G 1 y.2 r.2)∧e= .returned (.int .i64 r.1)∧FxM F0 w (dF [.row g0_ 144 ((x0_.domains.1.map U)++[.pointer (some ⟨k0_512.sp,0,none⟩),v0_513]), .sl v0_513 50 1 x0_.list.length c0_513.flatten]) G [.row g0_ 144 ((x0_.domains.1.map U)++[.pointer (some ⟨k0_512.sp,0,none⟩),y.1]), .sl y.1 50 1 r.2.length y.2.flatten] w':=by
 have hk:=hr;unfold zbb at hk;haveI:=hlemmas.1.oneC;haveI:=lA (hO.own (.sl v0_513 50 1 x0_.list.length c0_513.flatten) a8);have hmx0_513:=lz (hO.own (.sl v0_513 50 1 x0_.list.length c0_513.flatten) a8);obtain ⟨S0,F1,rfl,hS0,hp0⟩:=lV hF0 hO hA;have hM0:=hZ;have htk:∀ {hs:HS} {w':World},Hp w (dF [.row g0_ 144 ((x0_.domains.1.map U)++[.pointer (some ⟨k0_512.sp,0,none⟩),v0_513]), .sl v0_513 50 1 x0_.list.length c0_513.flatten]) hs w'→Tab w':=fun hw=>htab.kept hw hZ;refine dv (hs:=[.row g0_ 144 ((x0_.domains.1.map U)++[.pointer (some ⟨k0_512.sp,0,none⟩),v0_513]), .sl v0_513 50 1 x0_.list.length c0_513.flatten, .fr F1]) Tryz.func37 rfl rfl rfl hp0 ?_;refine ju ?_;refine cM (dg rfl rfl hlemmas.1 hlemmas.2.1) ?_;have hm10:lemmas.length≤9223372036854775807:=hlemmas.2.1▸hlemmas.1.max;refine dB ?_;have hq:=ek hk;clear hk;obtain ⟨k2,hk2,hk⟩:=hq; (try dsimp only at hk);refine da (ι:=List (List GChoice)×Value×List (List Value)×FzB w (dF [.row g0_ 144 ((x0_.domains.1.map U)++[.pointer (some ⟨k0_512.sp,0,none⟩),v0_513]), .sl v0_513 50 1 x0_.list.length c0_513.flatten]) S0) (fun z=>[(1,vlemmas)]) (fun z=>[.sl z.2.1 50 1 z.1.length z.2.2.1.flatten, .row g0_ 144 ((x0_.domains.1.map U)++[.pointer (some ⟨k0_512.sp,0,none⟩),z.2.1]), .fr z.2.2.2]) (fun z=>k2 z.1=some r∧OwnD cJ z.2.2.2.toFrz 1 z.2.2.1 z.1∧OneC z.2.1∧F1.toFrz.Le z.2.2.2.toFrz) ?_ ?_
 ·have hq:=fB hk;clear hk;obtain ⟨f4,kk4,hf4,hkk4,hk⟩:=hq;refine q4j ?_;refine T.loop (ι:=Nat×List (List GChoice)×Value×List (List Value)×FzB w (dF [.row g0_ 144 ((x0_.domains.1.map U)++[.pointer (some ⟨k0_512.sp,0,none⟩),v0_513]), .sl v0_513 50 1 x0_.list.length c0_513.flatten]) S0) (fun z=>[(0, .pointer (some ⟨g0_,0,none⟩)),(1,vlemmas),(9,vlemmas),(10, .int .i64 (lemmas.length:Int)),(11, .int .i64 (z.1:Int))]) (fun z=>[.sl z.2.2.1 50 1 z.2.1.length z.2.2.2.1.flatten, .row g0_ 144 ((x0_.domains.1.map U)++[.pointer (some ⟨k0_512.sp,0,none⟩),z.2.2.1]), .fr z.2.2.2.2]) (fun z=>c8 f4 kk4 (lemmas.length - z.1) z.1 z.2.1=some r∧OwnD cJ z.2.2.2.2.toFrz 1 z.2.2.2.1 z.2.1∧OneC z.2.2.1∧F1.toFrz.Le z.2.2.2.2.toFrz) (fun z=>lemmas.length - z.1) (0,x0_.list,v0_513,c0_513,F1) ?_ ?_ ?_ ?_
  ·exact ⟨hk,h0_513,inferInstance,(Frz.Le.refl _)⟩
  ·exact mh
  ·exact eW
  ·rintro ⟨i_5,c_3,vc_3,cc_3,F3⟩ ⟨hk,hc_3,oc_3,le1_3⟩; (try dsimp only at *);refine fh ?_;refine T.cond rfl (fun h6=>?_) (fun h6=>?_)
   ·have p6:=of_decide_eq_true h6;rw [fx a5] at hk;generalize hn4:c8 f4 kk4 (lemmas.length - (i_5+1)) (i_5+1)=next4 at hk;rw [←hf4] at hk; (try dsimp only at hk);refine q4k ?_;refine cM (dh (i:=i_5) rfl rfl rfl (SlD.mono (rep:=cJ) (fun _ _ _ _=>R_List_GChoice.mono) hlemmas le1_3).1 (SlD.mono (rep:=cJ) (fun _ _ _ _=>R_List_GChoice.mono) hlemmas le1_3).2.1 rfl a5) ?_;refine cM (dU 2 (i:=i_5) (j:=0) rfl rfl rfl (SlD.mono (rep:=cJ) (fun _ _ _ _=>R_List_GChoice.mono) hlemmas le1_3).1 (SlD.mono (rep:=cJ) (fun _ _ _ _=>R_List_GChoice.mono) hlemmas le1_3).2.1 a5 rfl (R_List_GChoice.c0 ((SlD.mono (rep:=cJ) (fun _ _ _ _=>R_List_GChoice.mono) hlemmas le1_3).2.2 i_5 a5)).1) ?_;have hd15_0:=(R_List_GChoice.c0 ((SlD.mono (rep:=cJ) (fun _ _ _ _=>R_List_GChoice.mono) hlemmas le1_3).2.2 i_5 a5)).2;haveI:=hd15_0.oneC;refine eg ?_;refine kF ?_;have hq:=ee hk;clear hk;obtain ⟨r19,hr19,hk⟩:=hq; (try dsimp only at hk);refine ji ?_;refine cW (eM [1,0,2] [.row g0_ 144 ((x0_.domains.1.map U)++([.pointer (some ⟨k0_512.sp,0,none⟩),vc_3]:List Value)), .sl vc_3 50 1 c_3.length cc_3.flatten] [] rfl rfl rfl rfl a6 (fun w hw hw2 hF=>zcA _ w hF (GStore.mk x0_.domains (x0_.start.1,x0_.start.2) c_3) g0_ k0_512 v0_512 L0_512 hs0_512 (tf0_512.mono le1_3) (zf0_512.mono le1_3) vc_3 cc_3 hc_3 (cK lemmas i_5) (cK (cK clemmas i_5) 0) hd15_0 (htk hw) hw2.takes.1 hw2.takes.2 (hw2.takes0 hM0 htab.pos) fuel hfu r19 hr19)) ?_;rintro _ _ ⟨⟨⟩,F4,le3_4, -,rfl,rfl⟩;refine fX ?_;have le1_4:=le1_3.trans le3_4;refine TL.run 5 rfl ?_;refine ly ?_;refine da (ι:=Unit) (fun z=>[(0, .pointer (some ⟨g0_,0,none⟩)),(1,vlemmas),(5, .int .i64 (i_5:Int)),(6,(cK (cK clemmas i_5) 0)),(9,vlemmas),(10, .int .i64 (lemmas.length:Int)),(11, .int .i64 (i_5:Int)),(27, .bool ((decide (¬r19.2=0))||(!r19.1)))]) (fun z=>[.row g0_ 144 ((x0_.domains.1.map U)++[.pointer (some ⟨k0_512.sp,0,none⟩),vc_3]), .sl vc_3 50 1 c_3.length cc_3.flatten, .fr F4]) (fun z=>True) ?_ ?_
    ·refine m7 ?_;refine dl rfl rfl rfl (fun h7=>?_) (fun h7=>?_)
     ·have p7:=of_decide_eq_true h7;refine eR ?_;refine ff ?_;exact cS () trivial (.c (.c (.c (.c (.c (.c (.c (.b (jl h7).symm .nil)))))))) (List.Sublist.refl _)
     ·have p7:=of_decide_eq_false h7;refine eR ?_;refine ff ?_;exact cS () trivial (.c (.c (.c (.c (.c (.c (.c (.b (io h7) .nil)))))))) (List.Sublist.refl _)
    ·rintro _ _;refine T.cond rfl (fun h8=>?_) (fun h8=>?_)
     ·replace hk:=dt hk h8;refine jO ?_;refine q2w ?_;obtain rfl:=Option.some.inj hk;exact cZ rfl rfl (fun w' hw=>⟨(vc_3,cc_3),F4.toFrz,(OwnD.mono (rep:=cJ) (fun _ _ _ _=>R_List_GChoice.mono) hc_3 le3_4),rfl,dy (hw.pick (idx:=[0,1,2]) rfl a6) hS0 le1_4⟩)
     ·have p8:=h8; (try simp only [cY] at p8);replace hk:=dr hk h8;refine jM ?_; (try dsimp only at hk);have hq:=ek hk;clear hk;obtain ⟨k11,hk11,hk⟩:=hq; (try dsimp only at hk);refine da (ι:=Bool×List (List GChoice)×Value×List (List Value)×FzB w (dF [.row g0_ 144 ((x0_.domains.1.map U)++[.pointer (some ⟨k0_512.sp,0,none⟩),v0_513]), .sl v0_513 50 1 x0_.list.length c0_513.flatten]) S0) (fun z=>[(0, .pointer (some ⟨g0_,0,none⟩)),(1,vlemmas),(5, .int .i64 (i_5:Int)),(9,vlemmas),(10, .int .i64 (lemmas.length:Int)),(11, .int .i64 (i_5:Int)),(39, .bool z.1)]) (fun z=>[.sl z.2.2.1 50 1 z.2.1.length z.2.2.2.1.flatten, .row g0_ 144 ((x0_.domains.1.map U)++[.pointer (some ⟨k0_512.sp,0,none⟩),z.2.2.1]), .fr z.2.2.2.2]) (fun z=>k11 (z.1,z.2.1)=some r∧OwnD cJ z.2.2.2.2.toFrz 1 z.2.2.2.1 z.2.1∧OneC z.2.2.1∧F4.toFrz.Le z.2.2.2.2.toFrz) ?_ ?_
      ·refine ji ?_;refine cM (dg rfl rfl (SlD.mono (rep:=cJ) (fun _ _ _ _=>R_List_GChoice.mono) hlemmas le1_4).1 (SlD.mono (rep:=cJ) (fun _ _ _ _=>R_List_GChoice.mono) hlemmas le1_4).2.1) ?_;refine q2x ?_;refine eg ?_;refine dl rfl rfl rfl (fun h12=>?_) (fun h12=>?_)
       ·have p12:=of_decide_eq_true h12;replace hk:=dt hk h12;refine eg ?_;have hq:=ee hk;clear hk;obtain ⟨r37,hr37,hk⟩:=hq;refine cW (eM [0,1,2] [.row g0_ 144 ((x0_.domains.1.map U)++([.pointer (some ⟨k0_512.sp,0,none⟩),vc_3]:List Value)), .sl vc_3 50 1 c_3.length cc_3.flatten] [] rfl rfl rfl rfl a6 (fun w hw hw2 hF=>zbY _ w hF (GStore.mk x0_.domains (x0_.start.1,x0_.start.2) c_3) g0_ k0_512 v0_512 L0_512 hs0_512 (tf0_512.mono le1_4) (zf0_512.mono le1_4) vc_3 cc_3 (OwnD.mono (rep:=cJ) (fun _ _ _ _=>R_List_GChoice.mono) hc_3 le3_4) (cK lemmas i_5) (cK (cK clemmas i_5) 0) (SlC.mono hd15_0 le3_4) hw2.takes.1 hw2.takes.2 r37 hr37)) ?_;rintro _ _ ⟨⟨v37_1_513,c37_1_513⟩,F6,le4_6,ho37_1_513,rfl,rfl⟩;refine fX ?_; (try dsimp only at ho37_1_513);refine gb 1 rfl ?_;intro iv37_1_513 hmv37_1_513;refine eg ?_;refine ff ?_;refine K.pick [1,0,2] rfl a6 ?_;exact cS (decide (¬r37.1=0),r37.2,v37_1_513,c37_1_513,F6) ⟨hk,ho37_1_513,inferInstance,le4_6⟩ (.c (.c (.c (.c (.c (.c (.c .nil))))))) (List.Sublist.refl _)
       ·have p12:=of_decide_eq_false h12;replace hk:=dr hk h12;refine mm ?_;refine K.pick [1,0,2] rfl a6 ?_;exact cS (false,c_3,vc_3,cc_3,F4) ⟨hk,(OwnD.mono (rep:=cJ) (fun _ _ _ _=>R_List_GChoice.mono) hc_3 le3_4),inferInstance,(Frz.Le.refl _)⟩ (.c (.c (.c (.c (.c (.c (.c .nil))))))) (List.Sublist.refl _)
      ·rintro ⟨x_9,c_10,vc_10,cc_10,F5⟩ ⟨hk,hc_10,oc_10,le4_5⟩; (try dsimp only at *);rw [←hk11] at hk; (try dsimp only at hk);have le1_5:=le1_4.trans le4_5;refine T.cond rfl (fun h13=>?_) (fun h13=>?_)
       ·replace hk:=dt hk h13;refine gu ?_;refine q0d ?_;refine df ?_;refine q0x ?_;obtain rfl:=Option.some.inj hk;exact cZ rfl rfl (fun w' hw=>⟨(vc_10,cc_10),F5.toFrz,hc_10,rfl,dy (hw.pick (idx:=[1,0,2]) rfl a6) hS0 le1_5⟩)
       ·replace hk:=dr hk h13;refine iE ?_;rw [←hn4] at hk;exact K.next ((i_5+1),c_10,vc_10,cc_10,F5) ⟨hk,hc_10,inferInstance,le1_5⟩ a9 (.c (.c (.c (.c (.c .nil))))) (List.Sublist.refl _)
   ·have p6:=of_decide_eq_false h6;rw [fw a5,←hkk4] at hk; (try dsimp only at hk);refine eE ?_;exact cS (c_3,vc_3,cc_3,F3) ⟨hk,hc_3,inferInstance,le1_3⟩ (.c .nil) (List.Sublist.refl _)
 ·rintro ⟨c_1,vc_1,cc_1,F2⟩ ⟨hk,hc_1,oc_1,le1_2⟩; (try dsimp only at *);rw [←hk2] at hk; (try dsimp only at hk);refine gu ?_;refine cM (dg rfl rfl (SlD.mono (rep:=cJ) (fun _ _ _ _=>R_List_GChoice.mono) hlemmas le1_2).1 (SlD.mono (rep:=cJ) (fun _ _ _ _=>R_List_GChoice.mono) hlemmas le1_2).2.1) ?_;refine fO ?_;obtain rfl:=Option.some.inj hk;exact cZ rfl rfl (fun w' hw=>⟨(vc_1,cc_1),F2.toFrz,hc_1,rfl,dy (hw.pick (idx:=[1,0,2]) rfl a6) hS0 le1_2⟩)
def zcq (fuel:Nat)(p:GProblem)(x_:GProof):Option (Int×Int):=
 (zbo fuel p x_).bind fun r11=>
 (bif (r11.1).isSome then
  (bif decide (¬r11.2=0) then
   some (0,r11.2)
   else
   (zbb fuel (r11.1.getD default) x_.Lemmas).bind fun r20=>
   some (r20.1,0))
  else
  (bif decide (¬r11.2=0) then
   some (0,r11.2)
   else
   none))
theorem zft (F0:Frz)(w:World)(hF0:F0.At w)(p:GProblem)(vp_0:Value)(cp_0:List (List Value))(hp_0:SlD cL F0 vp_0 2 cp_0 p.Domains)(vp_1:Value)(hp_1:SlC F0 vp_1 5 (p.Rules.Pairs.map cP))(vp_2:Value)(hp_2:SlC F0 vp_2 5 (p.Rules.Loads.map cR))(vp_3:Value)(hp_3:SlC F0 vp_3 4 (p.Rules.Caps.map cV))(x_:GProof)(vx__0:Value)(hx__0:SlC F0 vx__0 1 (x_.Stations.map eI))(vx__1:Value)(cx__1:List (List Value))(hx__1:SlD cJ F0 vx__1 1 cx__1 x_.Lemmas)(htab:Tab w)(fuel:Nat)(hfu:100000≤fuel)(r:Int×Int)(hr:zcq fuel p x_=some r):Calls Tryz.prog 11 #[.agg [vp_0,vp_1,vp_2,vp_3].toArray, .agg [vx__0,vx__1].toArray] w fun e w'=>e= .returned (.tuple #[.int .i64 r.1, .int .i64 r.2])∧Below w.heap.size w w':=by
 have hk:=hr;unfold zcq at hk;haveI:=hp_0.1.oneC;haveI:=hp_1.oneC;haveI:=hp_2.oneC;haveI:=hp_3.oneC;haveI:=hx__0.oneC;haveI:=hx__1.1.oneC;obtain ⟨S0,F1,rfl,hS0,hp0⟩:=eY hF0;have hM0:¬(fun _:Nat=>False) 0:=fun h=>h;have htk:∀ {hs:HS} {w':World},Hp w (fun _=>False) hs w'→Tab w':=fun hw=>htab.keptF hw;refine dv Tryz.func11 rfl rfl rfl hp0 ?_;refine iW ?_;rintro _ _ ⟨g2,rfl,rfl⟩;refine q3J ?_;rintro _ _ ⟨g3,rfl,rfl⟩;refine eg ?_;refine ly ?_;have hq:=ee hk;clear hk;obtain ⟨r11,hr11,hk⟩:=hq; (try dsimp only at hk);refine lQ ((r11.1).isSome) (fun h1=>?_) (fun h1=>?_)
 ·replace hk:=dt hk h1;refine nb ?_;refine iv ?_;refine cW (eM [2,0,1] [] [.row g3 33 [vx__0,vx__1], .row g2 29 [vp_0,vp_1,vp_2,vp_3]] rfl rfl rfl rfl a6 (fun w hw hw2 hF=>(zdc _ w hF p vp_0 cp_0 hp_0 vp_1 hp_1 vp_2 hp_2 vp_3 hp_3 x_ vx__0 hx__0 vx__1 cx__1 hx__1 (htk hw) fuel hfu r11 hr11).mono (fun e w' hp=>hp.1 h1))) ?_;rintro _ _ ⟨⟨g11_n,k11_n_512,v11_n_512,L11_n_512,v11_n_513,c11_n_513⟩,F2,le1_2,⟨hs11_n_512,tf11_n_512,zf11_n_512,ho11_n_513⟩,rfl,rfl⟩;refine fX ?_; (try dsimp only at hs11_n_512 tf11_n_512 zf11_n_512 ho11_n_513);refine gb 1 rfl ?_;intro iv11_n_513 hmv11_n_513;refine q18 ?_;refine T.cond rfl (fun h2=>?_) (fun h2=>?_)
  ·have p2:=of_decide_eq_true h2;replace hk:=dt hk h2;refine dq ?_;refine eR ?_;refine kB ?_;obtain rfl:=Option.some.inj hk;exact q43
  ·have p2:=of_decide_eq_false h2;replace hk:=dr hk h2;refine jM ?_;have hq:=ee hk;clear hk;obtain ⟨r20,hr20,hk⟩:=hq; (try dsimp only at hk);refine iV ?_;refine q2Z ?_;refine cW (eM [0,1,2,3,4] [.row g11_n 144 ((((r11.1.getD default).domains).1.map U)++([.pointer (some ⟨k11_n_512.sp,0,none⟩),v11_n_513]:List Value)), .sl v11_n_513 50 1 ((r11.1.getD default).list).length c11_n_513.flatten] [.row g3 33 [vx__0,vx__1], .row g2 29 [vp_0,vp_1,vp_2,vp_3]] rfl rfl rfl rfl a6 (fun w hw hw2 hF=>zdo _ w hF (r11.1.getD default) g11_n k11_n_512 v11_n_512 L11_n_512 hs11_n_512 tf11_n_512 zf11_n_512 v11_n_513 c11_n_513 ho11_n_513 x_.Lemmas vx__1 cx__1 (SlD.mono (rep:=cJ) (fun _ _ _ _=>R_List_GChoice.mono) hx__1 le1_2) (htk hw) hw2.takes.1 hw2.takes.2 (hw2.takes0 hM0 htab.pos) fuel hfu r20 hr20)) ?_;rintro _ _ ⟨⟨v20_1_513,c20_1_513⟩,F3,le2_3,ho20_1_513,rfl,rfl⟩;refine fX ?_; (try dsimp only at ho20_1_513);refine gb 1 rfl ?_;intro iv20_1_513 hmv20_1_513;refine kv ?_;obtain rfl:=Option.some.inj hk;exact q43
 ·replace hk:=dr hk h1;refine nb ?_;refine iv ?_;refine cW (eM [2,0,1] [] [.row g3 33 [vx__0,vx__1], .row g2 29 [vp_0,vp_1,vp_2,vp_3]] rfl rfl rfl rfl a6 (fun w hw hw2 hF=>(zdc _ w hF p vp_0 cp_0 hp_0 vp_1 hp_1 vp_2 hp_2 vp_3 hp_3 x_ vx__0 hx__0 vx__1 cx__1 hx__1 (htk hw) fuel hfu r11 hr11).mono (fun e w' hp=>hp.2 h1))) ?_;rintro _ _ ⟨⟨⟩,F4,le1_4, -,rfl,rfl⟩;refine fX ?_;refine q18 ?_;refine T.cond rfl (fun h3=>?_) (fun h3=>?_)
  ·have p3:=of_decide_eq_true h3;replace hk:=dt hk h3;refine dq ?_;refine eR ?_;refine kB ?_;obtain rfl:=Option.some.inj hk;exact q43
  ·have p3:=of_decide_eq_false h3;replace hk:=dr hk h3;refine jM ?_;cases hk
def zbz (fuel:Nat)(p:GProblem)(x_:GProof):Option Int:=
 (zcq fuel p x_).bind fun r10=>
 (bif ((decide (r10.2=0))&&(decide (r10.1<(x_.Lemmas.length:Int)))) then
  some 10
  else
  some r10.2)
theorem zcE (F0:Frz)(w:World)(hF0:F0.At w)(p:GProblem)(vp_0:Value)(cp_0:List (List Value))(hp_0:SlD cL F0 vp_0 2 cp_0 p.Domains)(vp_1:Value)(hp_1:SlC F0 vp_1 5 (p.Rules.Pairs.map cP))(vp_2:Value)(hp_2:SlC F0 vp_2 5 (p.Rules.Loads.map cR))(vp_3:Value)(hp_3:SlC F0 vp_3 4 (p.Rules.Caps.map cV))(x_:GProof)(vx__0:Value)(hx__0:SlC F0 vx__0 1 (x_.Stations.map eI))(vx__1:Value)(cx__1:List (List Value))(hx__1:SlD cJ F0 vx__1 1 cx__1 x_.Lemmas)(htab:Tab w)(fuel:Nat)(hfu:100000≤fuel)(r:Int)(hr:zbz fuel p x_=some r):Calls Tryz.prog 15 #[.agg [vp_0,vp_1,vp_2,vp_3].toArray, .agg [vx__0,vx__1].toArray] w fun e w'=>e= .returned (.int .i64 r)∧Below w.heap.size w w':=by
 have hk:=hr;unfold zbz at hk;haveI:=hp_0.1.oneC;haveI:=hp_1.oneC;haveI:=hp_2.oneC;haveI:=hp_3.oneC;haveI:=hx__0.oneC;haveI:=hx__1.1.oneC;obtain ⟨S0,F1,rfl,hS0,hp0⟩:=eY hF0;have hM0:¬(fun _:Nat=>False) 0:=fun h=>h;have htk:∀ {hs:HS} {w':World},Hp w (fun _=>False) hs w'→Tab w':=fun hw=>htab.keptF hw;refine dv Tryz.func15 rfl rfl rfl hp0 ?_;refine iW ?_;rintro _ _ ⟨g2,rfl,rfl⟩;refine q3J ?_;rintro _ _ ⟨g3,rfl,rfl⟩;refine kq ?_;have hq:=ee hk;clear hk;obtain ⟨r10,hr10,hk⟩:=hq; (try dsimp only at hk);refine nb ?_;refine iv ?_;refine cW (cN rfl rfl rfl (fun w hw=>zft _ w (hw.fr (i:=2) rfl) p vp_0 cp_0 hp_0 vp_1 hp_1 vp_2 hp_2 vp_3 hp_3 x_ vx__0 hx__0 vx__1 cx__1 hx__1 (htab.keptF hw) fuel hfu r10 hr10)) ?_;refine eX ?_;refine TL.run 5 rfl ?_;refine kF ?_;refine da (ι:=Unit) (fun z=>[(6, .int .i64 r10.2),(21, .bool ((decide (r10.2=0))&&(decide (r10.1<(x_.Lemmas.length:Int)))))]) (fun z=>[.row g3 33 [vx__0,vx__1], .row g2 29 [vp_0,vp_1,vp_2,vp_3], .fr F1]) (fun z=>True) ?_ ?_
 ·refine m7 ?_;refine dl rfl rfl rfl (fun h1=>?_) (fun h1=>?_)
  ·have p1:=of_decide_eq_true h1;refine df ?_;refine ei ?_;refine cM (dg rfl rfl hx__1.1 hx__1.2.1) ?_;have hm19:x_.Lemmas.length≤9223372036854775807:=hx__1.2.1▸hx__1.1.max;refine eg ?_;refine ff ?_;exact cS () trivial (.c (.b (kw h1) .nil)) (List.Sublist.refl _)
  ·have p1:=of_decide_eq_false h1;refine TL.run 6 rfl ?_;refine ff ?_;exact cS () trivial (.c (.b (fY h1).symm .nil)) (List.Sublist.refl _)
 ·rintro _ _;have hm19:x_.Lemmas.length≤9223372036854775807:=hx__1.2.1▸hx__1.1.max;refine T.cond rfl (fun h2=>?_) (fun h2=>?_)
  ·have p2:=h2; (try simp only [cY] at p2);replace hk:=dt hk h2;refine iN ?_;obtain rfl:=Option.some.inj hk;exact eh
  ·replace hk:=dr hk h2;refine i7 ?_;refine kv ?_;obtain rfl:=Option.some.inj hk;exact eh
def zcd (fuel:Nat)(p:GProblem)(x_:GProof):Option (GProof×Int):=
 (zbo fuel p x_).bind fun r18=>
 (bif (r18.1).isSome then
  (bif decide (¬r18.2=0) then
   some ((GProof.mk [] []),r18.2)
   else
   (zaH (r18.1.getD default)).bind fun r26=>
   (bif (r26).isSome then
    (zbb fuel (r26.getD default) x_.Lemmas).bind fun r29=>
    (bif decide (r29.1<(x_.Lemmas.length:Int)) then
     some ((GProof.mk [] []),10)
     else
     dJ (fun (later_5:List (List GChoice))=>
      ey (dn x_.Stations.length 8) <|
      some ((GProof.mk x_.Stations (nN later_5)),0))
     (fun k6=>
      ey (-1≤(((x_.Lemmas.length:Int) - 1) - 1)) <|
      nD (fun (i_9:Nat) (next8:List (List GChoice)→Option (GProof×Int)) (later_7:List (List GChoice))=>
       (zaH (r18.1.getD default)).bind fun r47=>
       (bif (r47).isSome then
        dJ (fun (c_12:List (List GChoice))=>
         ey (dn later_7.length 24) <|
         (zbb fuel (GStore.mk ((r47.getD default).domains) (((r47.getD default).start).1,((r47.getD default).start).2) c_12) (nN later_7)).bind fun r67=>
         (bif decide (r67.1<((nN later_7).length:Int)) then
          ey (dn ((cK x_.Lemmas i_9).length) 16) <|
          ey (dn (later_7++[(cK x_.Lemmas i_9)]).length 24) <|
          next8 (later_7++[(cK x_.Lemmas i_9)])
          else
          next8 later_7))
        (fun k13=>
         c8 (fun (i_16:Nat) (next15:List (List GChoice)→Option (GProof×Int)) (c_14:List (List GChoice))=>
          (zaF (GStore.mk ((r47.getD default).domains) (((r47.getD default).start).1,((r47.getD default).start).2) c_14) (cK (x_.Lemmas.take i_9) i_16)).bind fun r59=>
          next15 r59.2)
         (fun (c_14:List (List GChoice))=>
          k13 c_14) (((x_.Lemmas.take i_9).length) - 0) 0 ((r47.getD default).list))
        else
        dJ (fun (_:Unit)=>
         ey (dn later_7.length 24) <|
         none)
        (fun k19=>
         c8 (fun (i_21:Nat) (next20:Unit→Option (GProof×Int)) (_:Unit)=>
          none)
         (fun (_:Unit)=>
          k19 ()) (((x_.Lemmas.take i_9).length) - 0) 0 ())))
      (fun (later_7:List (List GChoice))=>
       k6 later_7) (((((x_.Lemmas.length:Int) - 1) - 1)+1).toNat) ([[]]:List (List GChoice))))
    else
    none))
  else
  (bif decide (¬r18.2=0) then
   some ((GProof.mk [] []),r18.2)
   else
   none))
theorem zep (F0:Frz)(w:World)(hF0:F0.At w)(p:GProblem)(vp_0:Value)(cp_0:List (List Value))(hp_0:SlD cL F0 vp_0 2 cp_0 p.Domains)(vp_1:Value)(hp_1:SlC F0 vp_1 5 (p.Rules.Pairs.map cP))(vp_2:Value)(hp_2:SlC F0 vp_2 5 (p.Rules.Loads.map cR))(vp_3:Value)(hp_3:SlC F0 vp_3 4 (p.Rules.Caps.map cV))(x_:GProof)(vx__0:Value)(hx__0:SlC F0 vx__0 1 (x_.Stations.map eI))(vx__1:Value)(cx__1:List (List Value))(hx__1:SlD cJ F0 vx__1 1 cx__1 x_.Lemmas)(htab:Tab w)(fuel:Nat)(hfu:100000≤fuel)(r:GProof×Int)(hr:zcd fuel p x_=some r):Calls Tryz.prog 18 #[.agg [vp_0,vp_1,vp_2,vp_3].toArray, .agg [vx__0,vx__1].toArray] w fun e w'=>∃(y:Value×Value×List (List Value)) (G:Frz),(SlC G y.1 1 (r.1.Stations.map eI)∧SlD cJ G y.2.1 1 y.2.2 r.1.Lemmas)∧e= .returned (.tuple #[.agg [y.1,y.2.1].toArray, .int .i64 r.2])∧Fx F0 w G w':=by
 have hk:=hr;unfold zcd at hk;haveI:=hp_0.1.oneC;haveI:=hp_1.oneC;haveI:=hp_2.oneC;haveI:=hp_3.oneC;haveI:=hx__0.oneC;haveI:=hx__1.1.oneC;obtain ⟨S0,F1,rfl,hS0,hp0⟩:=eY hF0;have hM0:¬(fun _:Nat=>False) 0:=fun h=>h;have htk:∀ {hs:HS} {w':World},Hp w (fun _=>False) hs w'→Tab w':=fun hw=>htab.keptF hw;refine dv Tryz.func18 rfl rfl rfl hp0 ?_;refine iW ?_;rintro _ _ ⟨g2,rfl,rfl⟩;refine q3J ?_;rintro _ _ ⟨g3,rfl,rfl⟩;refine gV ?_;rintro _ _ ⟨g4,rfl,rfl⟩;refine kq ?_;have hq:=ee hk;clear hk;obtain ⟨r18,hr18,hk⟩:=hq; (try dsimp only at hk);refine lQ ((r18.1).isSome) (fun h1=>?_) (fun h1=>?_)
 ·replace hk:=dt hk h1;refine fN ?_;refine cM (d7 2) ?_;refine q1B ?_;refine cW (eM [3,0,1,2] [] [.row g4 33 [(.slice none 0 0),(.slice none 0 0)], .row g3 33 [vx__0,vx__1], .row g2 29 [vp_0,vp_1,vp_2,vp_3]] rfl rfl rfl rfl a6 (fun w hw hw2 hF=>(zdc _ w hF p vp_0 cp_0 hp_0 vp_1 hp_1 vp_2 hp_2 vp_3 hp_3 x_ vx__0 hx__0 vx__1 cx__1 hx__1 (htk hw) fuel hfu r18 hr18).mono (fun e w' hp=>hp.1 h1))) ?_;rintro _ _ ⟨⟨g18_n,k18_n_512,v18_n_512,L18_n_512,v18_n_513,c18_n_513⟩,F2,le1_2,⟨hs18_n_512,tf18_n_512,zf18_n_512,ho18_n_513⟩,rfl,rfl⟩;refine fX ?_; (try dsimp only at hs18_n_512 tf18_n_512 zf18_n_512 ho18_n_513);refine gb 1 rfl ?_;intro iv18_n_513 hmv18_n_513;refine q18 ?_;refine T.cond rfl (fun h2=>?_) (fun h2=>?_)
  ·have p2:=of_decide_eq_true h2;replace hk:=dt hk h2;refine q4p ?_;refine df ?_;refine eD (dx 3) ?_;refine jn ?_;refine kB ?_;obtain rfl:=Option.some.inj hk;exact iT 3 rfl rfl rfl rfl rfl (fun w' hw=>⟨((.slice none 0 0),(.slice none 0 0),[]),F2.toFrz,⟨(SlC.nil _ 1),(SlD.nil _ _ 1)⟩,rfl,fT hw (i:=2) rfl hS0 le1_2⟩)
  ·have p2:=of_decide_eq_false h2;replace hk:=dr hk h2;refine q34 ?_;have hq:=ee hk;clear hk;obtain ⟨r26,hr26,hk⟩:=hq; (try dsimp only at hk);refine lQ ((r26).isSome) (fun h3=>?_) (fun h3=>?_)
   ·replace hk:=dt hk h3;have hq:=ee hk;clear hk;obtain ⟨r29,hr29,hk⟩:=hq; (try dsimp only at hk);refine dM (.still 0 (sN 2 2 (sN 5 3 (.eff 1 (.eff 4 (.still 8 .done)))))) _ a7 (List.Sublist.refl _) ?_;refine fF ?_;refine q2J ?_;refine q2J ?_;refine cT rfl (dg rfl rfl (SlD.mono (rep:=cJ) (fun _ _ _ _=>R_List_GChoice.mono) hx__1 le1_2).1 (SlD.mono (rep:=cJ) (fun _ _ _ _=>R_List_GChoice.mono) hx__1 le1_2).2.1) ?_;have hm32:x_.Lemmas.length≤9223372036854775807:=(SlD.mono (rep:=cJ) (fun _ _ _ _=>R_List_GChoice.mono) hx__1 le1_2).2.1▸(SlD.mono (rep:=cJ) (fun _ _ _ _=>R_List_GChoice.mono) hx__1 le1_2).1.max;refine dD ?_;refine c6 rfl (Wt.none) rfl rfl (eM [0,1,2,3,4,5] [.row g18_n 144 ((((r18.1.getD default).domains).1.map U)++([.pointer (some ⟨k18_n_512.sp,0,none⟩),v18_n_513]:List Value)), .sl v18_n_513 50 1 ((r18.1.getD default).list).length c18_n_513.flatten] [.row g4 33 [(.slice none 0 0),(.slice none 0 0)], .row g3 33 [vx__0,vx__1], .row g2 29 [vp_0,vp_1,vp_2,vp_3]] rfl rfl rfl rfl a6 (fun w hw hw2 hF=>(zbi _ w hF (r18.1.getD default) g18_n k18_n_512 v18_n_512 L18_n_512 hs18_n_512 tf18_n_512 zf18_n_512 v18_n_513 c18_n_513 ho18_n_513 (htk hw) hw2.takes.1 hw2.takes.2 (hw2.takes0 hM0 htab.pos) r26 hr26).mono (fun e w' hp=>hp.1 h3))) ?_;rintro _ _ ⟨⟨g26_n,k26_n_512,v26_n_512,L26_n_512,v26_n_513,c26_n_513⟩,F3,le2_3,⟨hs26_n_512,tf26_n_512,zf26_n_512,ho26_n_513⟩,rfl,rfl⟩;refine fX ?_; (try dsimp only at hs26_n_512 tf26_n_512 zf26_n_512 ho26_n_513);have le1_3:=le1_2.trans le2_3;refine ⟨(fun w hw=>(hw.frLe (i:=4) rfl le2_3).sub Sx),?_⟩;refine nM 3 rfl ?_;intro iv26_n_513 hmv26_n_513;refine dD ?_;refine c6 rfl (Wt.none) rfl rfl (eM [2,3,4,0,1,5,6,7] [.row g26_n 144 ((((r26.getD default).domains).1.map U)++([.pointer (some ⟨k26_n_512.sp,0,none⟩),v26_n_513]:List Value)), .sl v26_n_513 50 1 ((r26.getD default).list).length c26_n_513.flatten] [.row g18_n 144 ((((r18.1.getD default).domains).1.map U)++([.pointer (some ⟨k18_n_512.sp,0,none⟩),v18_n_513]:List Value)), .sl v18_n_513 50 1 ((r18.1.getD default).list).length c18_n_513.flatten, .row g4 33 [(.slice none 0 0),(.slice none 0 0)], .row g3 33 [vx__0,vx__1], .row g2 29 [vp_0,vp_1,vp_2,vp_3]] rfl rfl rfl rfl a6 (fun w hw hw2 hF=>zdo _ w hF (r26.getD default) g26_n k26_n_512 v26_n_512 L26_n_512 hs26_n_512 tf26_n_512 zf26_n_512 v26_n_513 c26_n_513 ho26_n_513 x_.Lemmas vx__1 cx__1 (SlD.mono (rep:=cJ) (fun _ _ _ _=>R_List_GChoice.mono) hx__1 le1_3) (htk hw) hw2.takes.1 hw2.takes.2 (hw2.takes0 hM0 htab.pos) fuel hfu r29 hr29)) ?_;rintro _ _ ⟨⟨v29_1_513,c29_1_513⟩,F4,le3_4,ho29_1_513,rfl,rfl⟩;refine fX ?_; (try dsimp only at ho29_1_513);have le1_4:=le1_3.trans le3_4;have le2_4:=le2_3.trans le3_4;refine ⟨(fun w hw=>(hw.frLe (i:=2) rfl le2_4).pick (idx:=[3,4,2,5,6,7]) rfl a6),?_⟩;refine nM 1 rfl ?_;intro iv29_1_513 hmv29_1_513;refine kG ?_;refine T.cond rfl (fun h4=>?_) (fun h4=>?_)
    ·have p4:=of_decide_eq_true h4;replace hk:=dt hk h4;refine q4p ?_;refine eD (dx 5) ?_;refine jn ?_;refine kB ?_;obtain rfl:=Option.some.inj hk;exact iT 5 rfl rfl rfl rfl rfl (fun w' hw=>⟨((.slice none 0 0),(.slice none 0 0),[]),F4.toFrz,⟨(SlC.nil _ 1),(SlD.nil _ _ 1)⟩,rfl,fT hw (i:=2) rfl hS0 le1_4⟩)
    ·have p4:=of_decide_eq_false h4;replace hk:=dr hk h4;refine i7 ?_;refine q4i ?_;refine cM (dg rfl rfl (SlD.mono (rep:=cJ) (fun _ _ _ _=>R_List_GChoice.mono) hx__1 le1_4).1 (SlD.mono (rep:=cJ) (fun _ _ _ _=>R_List_GChoice.mono) hx__1 le1_4).2.1) ?_;refine q2x ?_;refine ig ?_;refine jW ?_;rintro _ _ ⟨g39,rfl,rfl⟩;have hl39:OwnD cJ F4.toFrz 1 [[(.slice none 0 0)]] ([[]]:List (List GChoice)):=(di (OwnD.nil _ _ 1) ⟨_,rfl,(SlC.nil _ 2)⟩);refine TL.litO 0 (m:=1) (size:=1) (k:=([[]]:List (List GChoice)).length) (l2:=[[(.slice none 0 0)]].flatten) rfl rfl rfl rfl a6 ?_;dsimp only [List.set];refine no ?_;refine q2x ?_;refine dB ?_;have hq:=ek hk;clear hk;obtain ⟨k6,hk6,hk⟩:=hq; (try dsimp only at hk);refine da (ι:=List (List GChoice)×Value×List (List Value)×FzB w (fun _=>False) S0) (fun z=>[(3, .pointer (some ⟨g3,0,none⟩)),(4, .pointer (some ⟨g4,0,none⟩)),(9,z.2.1)]) (fun z=>[.sl z.2.1 50 1 z.1.length z.2.2.1.flatten, .row g4 33 [(.slice none 0 0),(.slice none 0 0)], .row g3 33 [vx__0,vx__1], .fr z.2.2.2]) (fun z=>k6 z.1=some r∧OwnD cJ z.2.2.2.toFrz 1 z.2.2.1 z.1∧OneC z.2.1∧F4.toFrz.Le z.2.2.2.toFrz) ?_ ?_
     ·have hq:(-1≤(((x_.Lemmas.length:Int) - 1) - 1))∧_:=gg hk;clear hk;obtain ⟨gl8,hk⟩:=hq; (try dsimp only at hk);have hq:=zk1 hk;clear hk;obtain ⟨f8,kk8,hf8,hkk8,hk⟩:=hq;refine fj ?_;refine T.pick [0,4,5,6,7,3] rfl a6 ?_;refine T.loop (ι:=Nat×List (List GChoice)×Value×List (List Value)×FzB w (fun _=>False) S0) (fun z=>[(3, .pointer (some ⟨g3,0,none⟩)),(4, .pointer (some ⟨g4,0,none⟩)),(6, .pointer (some ⟨g18_n,0,none⟩)),(9,z.2.2.1),(10, .int .i64 ((z.1:Int) - 1))]) (fun z=>[.sl z.2.2.1 50 1 z.2.1.length z.2.2.2.1.flatten, .row g18_n 144 ((((r18.1.getD default).domains).1.map U)++[.pointer (some ⟨k18_n_512.sp,0,none⟩),v18_n_513]), .sl v18_n_513 50 1 ((r18.1.getD default).list).length c18_n_513.flatten, .row g4 33 [(.slice none 0 0),(.slice none 0 0)], .row g3 33 [vx__0,vx__1], .fr z.2.2.2.2]) (fun z=>nD f8 kk8 z.1 z.2.1=some r∧z.1≤((((x_.Lemmas.length:Int) - 1) - 1)+1).toNat∧OwnD cJ z.2.2.2.2.toFrz 1 z.2.2.2.1 z.2.1∧OneC z.2.2.1∧F4.toFrz.Le z.2.2.2.2.toFrz) (fun z=>z.1) (((((x_.Lemmas.length:Int) - 1) - 1)+1).toNat,([[]]:List (List GChoice)),(.slice (some ⟨g39,0,none⟩) 1 1),[[(.slice none 0 0)]],F4) ?_ ?_ ?_ ?_
      ·exact ⟨hk,(Nat.le_refl _),hl39,inferInstance,(Frz.Le.refl _)⟩
      ·exact (.c (.c (.c (.c (.i (a:=(((x_.Lemmas.length:Int) - 1) - 1)) (by first|omega|(dsimp only;omega)) .nil)))))
      ·exact eW
      ·rintro ⟨i_9,later_7,vlater_7,clater_7,F6⟩ ⟨hk,hle8,hlater_7,olater_7,le4_6⟩; (try dsimp only at *);have le1_6:=le1_4.trans le4_6;have le2_6:=le2_4.trans le4_6;have le3_6:=le3_4.trans le4_6;refine lE ?_;refine jB ?_;refine T.cond rfl (fun h10=>?_) (fun h10=>?_)
       ·have p10:=of_decide_eq_true h10;obtain ⟨i_9',rfl⟩:∃q,i_9=q+1:=⟨i_9 - 1,by omega⟩;replace hk:f8 i_9' (nD f8 kk8 i_9') later_7=some r:=hk;generalize hn8:nD f8 kk8 i_9'=next8 at hk;rw [←hf8] at hk; (try dsimp only at hk);refine T.aO (gs:=[(3, .pointer (some ⟨g3,0,none⟩)),(4, .pointer (some ⟨g4,0,none⟩)),(6, .pointer (some ⟨g18_n,0,none⟩)),(9,vlater_7),(10, .int .i64 (i_9':Int))]) (by repeat (first|exact Sub.nil|refine Sub.cons rfl ?_|refine fb rfl a5 ?_|refine j7 rfl b8 ?_)) (List.Sublist.refl _) ?_;refine jQ ?_;have hq:=ee hk;clear hk;obtain ⟨r47,hr47,hk⟩:=hq; (try dsimp only at hk);refine lQ ((r47).isSome) (fun h11=>?_) (fun h11=>?_)
        ·replace hk:=dt hk h11;refine iV ?_;refine cW (eM [1,2,5,0,3,4] [.row g18_n 144 ((((r18.1.getD default).domains).1.map U)++([.pointer (some ⟨k18_n_512.sp,0,none⟩),v18_n_513]:List Value)), .sl v18_n_513 50 1 ((r18.1.getD default).list).length c18_n_513.flatten] [.sl vlater_7 50 1 later_7.length clater_7.flatten, .row g4 33 [(.slice none 0 0),(.slice none 0 0)], .row g3 33 [vx__0,vx__1]] rfl rfl rfl rfl a6 (fun w hw hw2 hF=>(zbi _ w hF (r18.1.getD default) g18_n k18_n_512 v18_n_512 L18_n_512 hs18_n_512 (tf18_n_512.mono le2_6) (zf18_n_512.mono le2_6) v18_n_513 c18_n_513 (OwnD.mono (rep:=cJ) (fun _ _ _ _=>R_List_GChoice.mono) ho18_n_513 le2_6) (htk hw) hw2.takes.1 hw2.takes.2 (hw2.takes0 hM0 htab.pos) r47 hr47).mono (fun e w' hp=>hp.1 h11))) ?_;rintro _ _ ⟨⟨g47_n,k47_n_512,v47_n_512,L47_n_512,v47_n_513,c47_n_513⟩,F7,le6_7,⟨hs47_n_512,tf47_n_512,zf47_n_512,ho47_n_513⟩,rfl,rfl⟩;refine fX ?_; (try dsimp only at hs47_n_512 tf47_n_512 zf47_n_512 ho47_n_513);have le1_7:=le1_6.trans le6_7;have le2_7:=le2_6.trans le6_7;have le3_7:=le3_6.trans le6_7;have le4_7:=le4_6.trans le6_7;refine gb 3 rfl ?_;intro iv47_n_513 hmv47_n_513;refine jN ?_;refine q24 ?_;refine df ?_;refine cM (Yv.ci (i:=i_9') rfl rfl rfl (SlD.mono (rep:=cJ) (fun _ _ _ _=>R_List_GChoice.mono) hx__1 le1_7).1 (SlD.mono (rep:=cJ) (fun _ _ _ _=>R_List_GChoice.mono) hx__1 le1_7).2.1 rfl a5) ?_;have hs51_:SlD cJ F1.toFrz (ze4 vx__1 0 i_9' 1) 1 (cx__1.take i_9') (x_.Lemmas.take i_9'):=hx__1.sliceh (i:=i_9') a5;haveI:=hs51_.1.oneC;refine cM (dg rfl rfl (SlD.mono (rep:=cJ) (fun _ _ _ _=>R_List_GChoice.mono) hs51_ le1_7).1 (SlD.mono (rep:=cJ) (fun _ _ _ _=>R_List_GChoice.mono) hs51_ le1_7).2.1) ?_;have hm52:(x_.Lemmas.take i_9').length≤9223372036854775807:=(SlD.mono (rep:=cJ) (fun _ _ _ _=>R_List_GChoice.mono) hs51_ le1_7).2.1▸(SlD.mono (rep:=cJ) (fun _ _ _ _=>R_List_GChoice.mono) hs51_ le1_7).1.max;refine dB ?_;have hq:=ek hk;clear hk;obtain ⟨k13,hk13,hk⟩:=hq; (try dsimp only at hk);refine da (ι:=List (List GChoice)×Value×List (List Value)×FzB w (fun _=>False) S0) (fun z=>[(3, .pointer (some ⟨g3,0,none⟩)),(4, .pointer (some ⟨g4,0,none⟩)),(6, .pointer (some ⟨g18_n,0,none⟩)),(9,vlater_7),(10, .int .i64 (i_9':Int)),(11, .pointer (some ⟨g47_n,0,none⟩))]) (fun z=>[.sl z.2.1 50 1 z.1.length z.2.2.1.flatten, .row g47_n 144 ((((r47.getD default).domains).1.map U)++[.pointer (some ⟨k47_n_512.sp,0,none⟩),z.2.1]), .row g18_n 144 ((((r18.1.getD default).domains).1.map U)++[.pointer (some ⟨k18_n_512.sp,0,none⟩),v18_n_513]), .sl v18_n_513 50 1 ((r18.1.getD default).list).length c18_n_513.flatten, .sl vlater_7 50 1 later_7.length clater_7.flatten, .row g4 33 [(.slice none 0 0),(.slice none 0 0)], .row g3 33 [vx__0,vx__1], .fr z.2.2.2]) (fun z=>k13 z.1=some r∧OwnD cJ z.2.2.2.toFrz 1 z.2.2.1 z.1∧OneC z.2.1∧F7.toFrz.Le z.2.2.2.toFrz) ?_ ?_
         ·have hq:=fB hk;clear hk;obtain ⟨f15,kk15,hf15,hkk15,hk⟩:=hq;refine fj ?_;refine T.pick [3,2,0,1,5,6,7,4] rfl a6 ?_;refine T.loop (ι:=Nat×List (List GChoice)×Value×List (List Value)×FzB w (fun _=>False) S0) (fun z=>[(3, .pointer (some ⟨g3,0,none⟩)),(4, .pointer (some ⟨g4,0,none⟩)),(6, .pointer (some ⟨g18_n,0,none⟩)),(9,vlater_7),(10, .int .i64 (i_9':Int)),(11, .pointer (some ⟨g47_n,0,none⟩)),(51,(ze4 vx__1 0 i_9' 1)),(52, .int .i64 ((x_.Lemmas.take i_9').length:Int)),(53, .int .i64 (z.1:Int))]) (fun z=>[.sl z.2.2.1 50 1 z.2.1.length z.2.2.2.1.flatten, .row g47_n 144 ((((r47.getD default).domains).1.map U)++[.pointer (some ⟨k47_n_512.sp,0,none⟩),z.2.2.1]), .row g18_n 144 ((((r18.1.getD default).domains).1.map U)++[.pointer (some ⟨k18_n_512.sp,0,none⟩),v18_n_513]), .sl v18_n_513 50 1 ((r18.1.getD default).list).length c18_n_513.flatten, .sl vlater_7 50 1 later_7.length clater_7.flatten, .row g4 33 [(.slice none 0 0),(.slice none 0 0)], .row g3 33 [vx__0,vx__1], .fr z.2.2.2.2]) (fun z=>c8 f15 kk15 (((x_.Lemmas.take i_9').length) - z.1) z.1 z.2.1=some r∧OwnD cJ z.2.2.2.2.toFrz 1 z.2.2.2.1 z.2.1∧OneC z.2.2.1∧F7.toFrz.Le z.2.2.2.2.toFrz) (fun z=>((x_.Lemmas.take i_9').length) - z.1) (0,(r47.getD default).list,v47_n_513,c47_n_513,F7) ?_ ?_ ?_ ?_
          ·exact ⟨hk,ho47_n_513,inferInstance,(Frz.Le.refl _)⟩
          ·exact q4T
          ·exact eW
          ·rintro ⟨i_16,c_14,vc_14,cc_14,F9⟩ ⟨hk,hc_14,oc_14,le7_9⟩; (try dsimp only at *);have le1_9:=le1_7.trans le7_9;refine fh ?_;refine T.cond rfl (fun h17=>?_) (fun h17=>?_)
           ·have p17:=of_decide_eq_true h17;rw [fx a5] at hk;generalize hn15:c8 f15 kk15 (((x_.Lemmas.take i_9').length) - (i_16+1)) (i_16+1)=next15 at hk;rw [←hf15] at hk; (try dsimp only at hk);refine fS ?_;refine cM (dh (i:=i_16) rfl rfl rfl (SlD.mono (rep:=cJ) (fun _ _ _ _=>R_List_GChoice.mono) hs51_ le1_9).1 (SlD.mono (rep:=cJ) (fun _ _ _ _=>R_List_GChoice.mono) hs51_ le1_9).2.1 rfl a5) ?_;refine cM (dU 7 (i:=i_16) (j:=0) rfl rfl rfl (SlD.mono (rep:=cJ) (fun _ _ _ _=>R_List_GChoice.mono) hs51_ le1_9).1 (SlD.mono (rep:=cJ) (fun _ _ _ _=>R_List_GChoice.mono) hs51_ le1_9).2.1 a5 rfl (R_List_GChoice.c0 ((SlD.mono (rep:=cJ) (fun _ _ _ _=>R_List_GChoice.mono) hs51_ le1_9).2.2 i_16 a5)).1) ?_;have hd56_0:=(R_List_GChoice.c0 ((SlD.mono (rep:=cJ) (fun _ _ _ _=>R_List_GChoice.mono) hs51_ le1_9).2.2 i_16 a5)).2;haveI:=hd56_0.oneC;refine dB ?_;have hq:=ee hk;clear hk;obtain ⟨r59,hr59,hk⟩:=hq; (try dsimp only at hk);refine ji ?_;refine cW (eM [1,0,7,2,3,4,5,6] [.row g47_n 144 ((((r47.getD default).domains).1.map U)++([.pointer (some ⟨k47_n_512.sp,0,none⟩),vc_14]:List Value)), .sl vc_14 50 1 c_14.length cc_14.flatten] [.row g18_n 144 ((((r18.1.getD default).domains).1.map U)++([.pointer (some ⟨k18_n_512.sp,0,none⟩),v18_n_513]:List Value)), .sl v18_n_513 50 1 ((r18.1.getD default).list).length c18_n_513.flatten, .sl vlater_7 50 1 later_7.length clater_7.flatten, .row g4 33 [(.slice none 0 0),(.slice none 0 0)], .row g3 33 [vx__0,vx__1]] rfl rfl rfl rfl a6 (fun w hw hw2 hF=>zbY _ w hF (GStore.mk ((r47.getD default).domains) (((r47.getD default).start).1,((r47.getD default).start).2) c_14) g47_n k47_n_512 v47_n_512 L47_n_512 hs47_n_512 (tf47_n_512.mono le7_9) (zf47_n_512.mono le7_9) vc_14 cc_14 hc_14 (cK (x_.Lemmas.take i_9') i_16) (cK (cK (cx__1.take i_9') i_16) 0) hd56_0 hw2.takes.1 hw2.takes.2 r59 hr59)) ?_;rintro _ _ ⟨⟨v59_1_513,c59_1_513⟩,F10,le9_10,ho59_1_513,rfl,rfl⟩;refine fX ?_; (try dsimp only at ho59_1_513);have le7_10:=le7_9.trans le9_10;refine gb 1 rfl ?_;intro iv59_1_513 hmv59_1_513;refine kA ?_;rw [←hn15] at hk;refine K.pick [1,0,3,4,5,6,7,2] rfl a6 ?_;exact K.next ((i_16+1),r59.2,v59_1_513,c59_1_513,F10) ⟨hk,ho59_1_513,inferInstance,le7_10⟩ a9 (.c (.c (.c (.c (.c (.c (.c (.c (.c .nil))))))))) (List.Sublist.refl _)
           ·have p17:=of_decide_eq_false h17;rw [fw a5,←hkk15] at hk; (try dsimp only at hk);refine eE ?_;exact cS (c_14,vc_14,cc_14,F9) ⟨hk,hc_14,inferInstance,le7_9⟩ (.c (.c (.c (.c (.c (.c .nil)))))) (List.Sublist.refl _)
         ·rintro ⟨c_12,vc_12,cc_12,F8⟩ ⟨hk,hc_12,oc_12,le7_8⟩; (try dsimp only at *);rw [←hk13] at hk; (try dsimp only at hk);have le1_8:=le1_7.trans le7_8;have le2_8:=le2_7.trans le7_8;have le3_8:=le3_7.trans le7_8;have le4_8:=le4_7.trans le7_8;have le6_8:=le6_7.trans le7_8;refine T.seq ?_;have hq:(dn later_7.length 24)∧_:=gg hk;clear hk;obtain ⟨g62,hk⟩:=hq; (try dsimp only at hk);refine iV ?_;refine cW (jE rfl rfl rfl (fun w hw=>(hw.bor (i:=7) (j:=4) rfl rfl).elim fun F9 b=>have le8_11:=b.1.le;have le1_11:=le1_8.trans le8_11;have le2_11:=le2_8.trans le8_11;have le3_11:=le3_8.trans le8_11;have le4_11:=le4_8.trans le8_11;have le6_11:=le6_8.trans le8_11;have le7_11:=le7_8.trans le8_11;zfU F9 w b.1.at_ later_7 vlater_7 clater_7 (b.2.toD (OwnD.mono (rep:=cJ) (fun _ _ _ _=>R_List_GChoice.mono) hlater_7 le6_11) rfl) g62)) ?_;rintro v62_ _ ⟨_,_,rfl,rfl⟩;refine fX ?_;refine gb 0 rfl ?_;intro iv62_ hmv62_;refine li ?_;refine cW (fA [0,8,1,2,3,4,5,6,7] [.sl v62_ 50 1 later_7.length clater_7.flatten] [.sl vc_12 50 1 c_12.length cc_12.flatten, .row g47_n 144 ((((r47.getD default).domains).1.map U)++([.pointer (some ⟨k47_n_512.sp,0,none⟩),vc_12]:List Value)), .row g18_n 144 ((((r18.1.getD default).domains).1.map U)++([.pointer (some ⟨k18_n_512.sp,0,none⟩),v18_n_513]:List Value)), .sl v18_n_513 50 1 ((r18.1.getD default).list).length c18_n_513.flatten, .sl vlater_7 50 1 later_7.length clater_7.flatten, .row g4 33 [(.slice none 0 0),(.slice none 0 0)], .row g3 33 [vx__0,vx__1]] rfl rfl rfl rfl a6 (fun w hw hw2 hF=>zif _ w hF later_7 v62_ clater_7 (OwnD.mono (rep:=cJ) (fun _ _ _ _=>R_List_GChoice.mono) hlater_7 le6_8) hw2.takes.1 hw2.takes.2)) ?_;rintro _ _ ⟨c64_0_l,ho64_0_l,rfl,rfl⟩;refine fX ?_;refine q3X ?_;rintro F12 ⟨le8_12,hz12⟩;refine iX ?_;have le1_12:=le1_8.trans le8_12;have le4_12:=le4_8.trans le8_12;have le6_12:=le6_8.trans le8_12;have le7_12:=le7_8.trans le8_12;have hf12:=hz12.toD (OwnD.mono (rep:=cJ) (fun _ _ _ _=>R_List_GChoice.mono) ho64_0_l le8_12) rfl;haveI:=hf12.1.oneC;have hq:=ee hk;clear hk;obtain ⟨r67,hr67,hk⟩:=hq; (try dsimp only at hk);refine ji ?_;refine cW (eM [2,1,0,3,4,5,6,7] [.row g47_n 144 ((((r47.getD default).domains).1.map U)++([.pointer (some ⟨k47_n_512.sp,0,none⟩),vc_12]:List Value)), .sl vc_12 50 1 c_12.length cc_12.flatten] [.row g18_n 144 ((((r18.1.getD default).domains).1.map U)++([.pointer (some ⟨k18_n_512.sp,0,none⟩),v18_n_513]:List Value)), .sl v18_n_513 50 1 ((r18.1.getD default).list).length c18_n_513.flatten, .sl vlater_7 50 1 later_7.length clater_7.flatten, .row g4 33 [(.slice none 0 0),(.slice none 0 0)], .row g3 33 [vx__0,vx__1]] rfl rfl rfl rfl a6 (fun w hw hw2 hF=>zdo _ w hF (GStore.mk ((r47.getD default).domains) (((r47.getD default).start).1,((r47.getD default).start).2) c_12) g47_n k47_n_512 v47_n_512 L47_n_512 hs47_n_512 (tf47_n_512.mono le7_12) (zf47_n_512.mono le7_12) vc_12 cc_12 (OwnD.mono (rep:=cJ) (fun _ _ _ _=>R_List_GChoice.mono) hc_12 le8_12) (nN later_7) v62_ c64_0_l hf12 (htk hw) hw2.takes.1 hw2.takes.2 (hw2.takes0 hM0 htab.pos) fuel hfu r67 hr67)) ?_;rintro _ _ ⟨⟨v67_1_513,c67_1_513⟩,F13,le12_13,ho67_1_513,rfl,rfl⟩;refine fX ?_; (try dsimp only at ho67_1_513);have le1_13:=le1_12.trans le12_13;have le4_13:=le4_12.trans le12_13;have le6_13:=le6_12.trans le12_13;refine gb 1 rfl ?_;intro iv67_1_513 hmv67_1_513;refine df ?_;refine cM (dg rfl rfl (SlD.mono (rep:=cJ) (fun _ _ _ _=>R_List_GChoice.mono) hf12 le12_13).1 (SlD.mono (rep:=cJ) (fun _ _ _ _=>R_List_GChoice.mono) hf12 le12_13).2.1) ?_;have hm69:(nN later_7).length≤9223372036854775807:=(SlD.mono (rep:=cJ) (fun _ _ _ _=>R_List_GChoice.mono) hf12 le12_13).2.1▸(SlD.mono (rep:=cJ) (fun _ _ _ _=>R_List_GChoice.mono) hf12 le12_13).1.max;refine dB ?_;refine T.cond rfl (fun h18=>?_) (fun h18=>?_)
          ·have p18:=of_decide_eq_true h18;replace hk:=dt hk h18;have hq:(dn ((cK x_.Lemmas i_9').length) 16)∧_:=gg hk;clear hk;obtain ⟨g77,hk⟩:=hq;have hq:(dn (later_7++[(cK x_.Lemmas i_9')]).length 24)∧_:=gg hk;clear hk;obtain ⟨g79,hk⟩:=hq; (try dsimp only at hk);refine iV ?_;refine q24 ?_;refine df ?_;refine cM (dh (i:=i_9') rfl rfl rfl (SlD.mono (rep:=cJ) (fun _ _ _ _=>R_List_GChoice.mono) hx__1 le1_13).1 (SlD.mono (rep:=cJ) (fun _ _ _ _=>R_List_GChoice.mono) hx__1 le1_13).2.1 rfl a5) ?_;refine cM (dU 2 (i:=i_9') (j:=0) rfl rfl rfl (SlD.mono (rep:=cJ) (fun _ _ _ _=>R_List_GChoice.mono) hx__1 le1_13).1 (SlD.mono (rep:=cJ) (fun _ _ _ _=>R_List_GChoice.mono) hx__1 le1_13).2.1 a5 rfl (R_List_GChoice.c0 ((SlD.mono (rep:=cJ) (fun _ _ _ _=>R_List_GChoice.mono) hx__1 le1_13).2.2 i_9' a5)).1) ?_;have hd76_0:=(R_List_GChoice.c0 ((SlD.mono (rep:=cJ) (fun _ _ _ _=>R_List_GChoice.mono) hx__1 le1_13).2.2 i_9' a5)).2;haveI:=hd76_0.oneC;refine cW (d4 2 rfl rfl rfl rfl (fun w hw hF=>zg9 _ w hF (cK x_.Lemmas i_9') (cK (cK cx__1 i_9') 0) hd76_0 g77)) ?_;rintro _ _ ⟨v77_,F14,le13_14,hf77,hq,rfl⟩;obtain rfl:=hq.symm;have le4_14:=le4_13.trans le13_14;have le6_14:=le6_13.trans le13_14;haveI:=hf77.oneC;refine jW ?_;rintro _ _ ⟨g78,rfl,rfl⟩;have hl78:OwnD cJ F14.toFrz 1 [[v77_]] [(cK x_.Lemmas i_9')]:=(di (OwnD.nil _ _ 1) ⟨_,rfl,hf77⟩);refine cW (fM 6 0 rfl rfl rfl rfl rfl rfl (kS (ys:=[(cK x_.Lemmas i_9')])) (zcg (cs:=clater_7) (ds:=[[v77_]])) g79 a6) ?_;rintro v79 _ ⟨hv79,rfl⟩;have ho79:OwnD cJ F14.toFrz 1 (clater_7++[[v77_]]) (later_7++[(cK x_.Lemmas i_9')]):=(di (OwnD.mono (rep:=cJ) (fun _ _ _ _=>R_List_GChoice.mono) hlater_7 le6_14) ⟨_,rfl,hf77⟩);refine df ?_;refine TL.nil (gB (K.seq (T.region ?_)));refine df ?_;refine q2x ?_;refine df ?_;refine ff ?_;rw [←hn8] at hk;refine K.pick [6,4,5,7,8,3] rfl a6 ?_;exact K.next (i_9',(later_7++[(cK x_.Lemmas i_9')]),v79,(clater_7++[[v77_]]),F14) ⟨hk,a9,ho79,inferInstance,le4_14⟩ a9 (.c (.c (.c (.c (.c .nil))))) (List.Sublist.refl _)
          ·have p18:=of_decide_eq_false h18;replace hk:=dr hk h18;refine q0p ?_;refine df ?_;refine q2x ?_;refine df ?_;refine ff ?_;rw [←hn8] at hk;refine K.pick [5,3,4,6,7,2] rfl a6 ?_;exact K.next (i_9',later_7,vlater_7,clater_7,F13) ⟨hk,a9,(OwnD.mono (rep:=cJ) (fun _ _ _ _=>R_List_GChoice.mono) hlater_7 le6_13),inferInstance,le4_13⟩ a9 (.c (.c (.c (.c (.c .nil))))) (List.Sublist.refl _)
        ·replace hk:=dr hk h11;refine iV ?_;refine cW (eM [1,2,5,0,3,4] [.row g18_n 144 ((((r18.1.getD default).domains).1.map U)++([.pointer (some ⟨k18_n_512.sp,0,none⟩),v18_n_513]:List Value)), .sl v18_n_513 50 1 ((r18.1.getD default).list).length c18_n_513.flatten] [.sl vlater_7 50 1 later_7.length clater_7.flatten, .row g4 33 [(.slice none 0 0),(.slice none 0 0)], .row g3 33 [vx__0,vx__1]] rfl rfl rfl rfl a6 (fun w hw hw2 hF=>(zbi _ w hF (r18.1.getD default) g18_n k18_n_512 v18_n_512 L18_n_512 hs18_n_512 (tf18_n_512.mono le2_6) (zf18_n_512.mono le2_6) v18_n_513 c18_n_513 (OwnD.mono (rep:=cJ) (fun _ _ _ _=>R_List_GChoice.mono) ho18_n_513 le2_6) (htk hw) hw2.takes.1 hw2.takes.2 (hw2.takes0 hM0 htab.pos) r47 hr47).mono (fun e w' hp=>hp.2 h11))) ?_;rintro _ _ ⟨⟨⟩,F15,le6_15, -,rfl,rfl⟩;refine fX ?_;have le1_15:=le1_6.trans le6_15;have le2_15:=le2_6.trans le6_15;have le3_15:=le3_6.trans le6_15;have le4_15:=le4_6.trans le6_15;refine jN ?_;refine fC ?_;refine cM (c9 5) ?_;refine df ?_;refine cM (Yv.ci (i:=i_9') rfl rfl rfl (SlD.mono (rep:=cJ) (fun _ _ _ _=>R_List_GChoice.mono) hx__1 le1_15).1 (SlD.mono (rep:=cJ) (fun _ _ _ _=>R_List_GChoice.mono) hx__1 le1_15).2.1 rfl a5) ?_;have hs51_:SlD cJ F1.toFrz (ze4 vx__1 0 i_9' 1) 1 (cx__1.take i_9') (x_.Lemmas.take i_9'):=hx__1.sliceh (i:=i_9') a5;haveI:=hs51_.1.oneC;refine cM (dg rfl rfl (SlD.mono (rep:=cJ) (fun _ _ _ _=>R_List_GChoice.mono) hs51_ le1_15).1 (SlD.mono (rep:=cJ) (fun _ _ _ _=>R_List_GChoice.mono) hs51_ le1_15).2.1) ?_;have hm52:(x_.Lemmas.take i_9').length≤9223372036854775807:=(SlD.mono (rep:=cJ) (fun _ _ _ _=>R_List_GChoice.mono) hs51_ le1_15).2.1▸(SlD.mono (rep:=cJ) (fun _ _ _ _=>R_List_GChoice.mono) hs51_ le1_15).1.max;refine dB ?_;have hq:=ek hk;clear hk;obtain ⟨k19,hk19,hk⟩:=hq; (try dsimp only at hk);refine da (ι:=FzB w (fun _=>False) S0) (fun z=>[(3, .pointer (some ⟨g3,0,none⟩)),(4, .pointer (some ⟨g4,0,none⟩)),(6, .pointer (some ⟨g18_n,0,none⟩)),(9,vlater_7),(10, .int .i64 (i_9':Int)),(11, .pointer none)]) (fun z=>[.row g18_n 144 ((((r18.1.getD default).domains).1.map U)++[.pointer (some ⟨k18_n_512.sp,0,none⟩),v18_n_513]), .sl v18_n_513 50 1 ((r18.1.getD default).list).length c18_n_513.flatten, .sl vlater_7 50 1 later_7.length clater_7.flatten, .row g4 33 [(.slice none 0 0),(.slice none 0 0)], .row g3 33 [vx__0,vx__1], .fr z]) (fun z=>k19 ()=some r∧F15.toFrz.Le z.toFrz) ?_ ?_
         ·have hq:=fB hk;clear hk;obtain ⟨f20,kk20,hf20,hkk20,hk⟩:=hq;refine fj ?_;refine T.pick [0,1,3,4,5,2] rfl a6 ?_;refine T.loop (ι:=Nat×FzB w (fun _=>False) S0) (fun z=>[(3, .pointer (some ⟨g3,0,none⟩)),(4, .pointer (some ⟨g4,0,none⟩)),(6, .pointer (some ⟨g18_n,0,none⟩)),(9,vlater_7),(10, .int .i64 (i_9':Int)),(11, .pointer none),(51,(ze4 vx__1 0 i_9' 1)),(52, .int .i64 ((x_.Lemmas.take i_9').length:Int)),(53, .int .i64 (z.1:Int))]) (fun z=>[.row g18_n 144 ((((r18.1.getD default).domains).1.map U)++[.pointer (some ⟨k18_n_512.sp,0,none⟩),v18_n_513]), .sl v18_n_513 50 1 ((r18.1.getD default).list).length c18_n_513.flatten, .sl vlater_7 50 1 later_7.length clater_7.flatten, .row g4 33 [(.slice none 0 0),(.slice none 0 0)], .row g3 33 [vx__0,vx__1], .fr z.2]) (fun z=>c8 f20 kk20 (((x_.Lemmas.take i_9').length) - z.1) z.1 ()=some r∧F15.toFrz.Le z.2.toFrz) (fun z=>((x_.Lemmas.take i_9').length) - z.1) (0,F15) ?_ ?_ ?_ ?_
          ·exact ⟨hk,(Frz.Le.refl _)⟩
          ·exact q4T
          ·exact eW
          ·rintro ⟨i_21,F17⟩ ⟨hk,le15_17⟩; (try dsimp only at *);have le1_17:=le1_15.trans le15_17;refine fh ?_;refine T.cond rfl (fun h22=>?_) (fun h22=>?_)
           ·have p22:=of_decide_eq_true h22;rw [fx a5] at hk;generalize hn20:c8 f20 kk20 (((x_.Lemmas.take i_9').length) - (i_21+1)) (i_21+1)=next20 at hk;rw [←hf20] at hk; (try dsimp only at hk);refine fS ?_;refine cM (dh (i:=i_21) rfl rfl rfl (SlD.mono (rep:=cJ) (fun _ _ _ _=>R_List_GChoice.mono) hs51_ le1_17).1 (SlD.mono (rep:=cJ) (fun _ _ _ _=>R_List_GChoice.mono) hs51_ le1_17).2.1 rfl a5) ?_;refine cM (dU 5 (i:=i_21) (j:=0) rfl rfl rfl (SlD.mono (rep:=cJ) (fun _ _ _ _=>R_List_GChoice.mono) hs51_ le1_17).1 (SlD.mono (rep:=cJ) (fun _ _ _ _=>R_List_GChoice.mono) hs51_ le1_17).2.1 a5 rfl (R_List_GChoice.c0 ((SlD.mono (rep:=cJ) (fun _ _ _ _=>R_List_GChoice.mono) hs51_ le1_17).2.2 i_21 a5)).1) ?_;have hd56_0:=(R_List_GChoice.c0 ((SlD.mono (rep:=cJ) (fun _ _ _ _=>R_List_GChoice.mono) hs51_ le1_17).2.2 i_21 a5)).2;haveI:=hd56_0.oneC;refine dB ?_;cases hk
           ·have p22:=of_decide_eq_false h22;rw [fw a5,←hkk20] at hk; (try dsimp only at hk);refine eE ?_;exact cS F17 ⟨hk,le15_17⟩ (.c (.c (.c (.c (.c (.c .nil)))))) (List.Sublist.refl _)
         ·rintro F16 ⟨hk,le15_16⟩;rw [←hk19] at hk; (try dsimp only at hk);have le1_16:=le1_15.trans le15_16;have le2_16:=le2_15.trans le15_16;have le3_16:=le3_15.trans le15_16;have le4_16:=le4_15.trans le15_16;have le6_16:=le6_15.trans le15_16;refine T.seq ?_;have hq:(dn later_7.length 24)∧_:=gg hk;clear hk;obtain ⟨g62,hk⟩:=hq; (try dsimp only at hk);refine iV ?_;refine cW (jE rfl rfl rfl (fun w hw=>(hw.bor (i:=5) (j:=2) rfl rfl).elim fun F9 b=>have le16_18:=b.1.le;have le1_18:=le1_16.trans le16_18;have le2_18:=le2_16.trans le16_18;have le3_18:=le3_16.trans le16_18;have le4_18:=le4_16.trans le16_18;have le6_18:=le6_16.trans le16_18;have le15_18:=le15_16.trans le16_18;zfU F9 w b.1.at_ later_7 vlater_7 clater_7 (b.2.toD (OwnD.mono (rep:=cJ) (fun _ _ _ _=>R_List_GChoice.mono) hlater_7 le6_18) rfl) g62)) ?_;rintro v62_ _ ⟨_,_,rfl,rfl⟩;refine fX ?_;refine gb 0 rfl ?_;intro iv62_ hmv62_;refine li ?_;refine cW (fA [0,6,1,2,3,4,5] [.sl v62_ 50 1 later_7.length clater_7.flatten] [.row g18_n 144 ((((r18.1.getD default).domains).1.map U)++([.pointer (some ⟨k18_n_512.sp,0,none⟩),v18_n_513]:List Value)), .sl v18_n_513 50 1 ((r18.1.getD default).list).length c18_n_513.flatten, .sl vlater_7 50 1 later_7.length clater_7.flatten, .row g4 33 [(.slice none 0 0),(.slice none 0 0)], .row g3 33 [vx__0,vx__1]] rfl rfl rfl rfl a6 (fun w hw hw2 hF=>zif _ w hF later_7 v62_ clater_7 (OwnD.mono (rep:=cJ) (fun _ _ _ _=>R_List_GChoice.mono) hlater_7 le6_16) hw2.takes.1 hw2.takes.2)) ?_;rintro _ _ ⟨c64_0_l,ho64_0_l,rfl,rfl⟩;refine fX ?_;refine q3X ?_;rintro F19 ⟨le16_19,hz19⟩;refine iX ?_;have hf19:=hz19.toD (OwnD.mono (rep:=cJ) (fun _ _ _ _=>R_List_GChoice.mono) ho64_0_l le16_19) rfl;haveI:=hf19.1.oneC;cases hk
       ·have p10:=of_decide_eq_false h10;obtain rfl:i_9=0:=a5;replace hk:kk8 later_7=some r:=hk;rw [←hkk8] at hk; (try dsimp only at hk);refine eE ?_;refine K.pick [0,3,4,5] rfl a6 ?_;exact cS (later_7,vlater_7,clater_7,F6) ⟨hk,hlater_7,inferInstance,le4_6⟩ (.c (.c (.c .nil))) (List.Sublist.refl _)
     ·rintro ⟨later_5,vlater_5,clater_5,F5⟩ ⟨hk,hlater_5,olater_5,le4_5⟩; (try dsimp only at *);rw [←hk6] at hk; (try dsimp only at hk);have le1_5:=le1_4.trans le4_5;refine gu ?_;refine cW (fA [0,3,1,2] [.sl vlater_5 50 1 later_5.length clater_5.flatten] [.row g4 33 [(.slice none 0 0),(.slice none 0 0)], .row g3 33 [vx__0,vx__1]] rfl rfl rfl rfl a6 (fun w hw hw2 hF=>zif _ w hF later_5 vlater_5 clater_5 hlater_5 hw2.takes.1 hw2.takes.2)) ?_;rintro _ _ ⟨c81_0_l,ho81_0_l,rfl,rfl⟩;refine fX ?_;refine ly ?_;have hq:(dn x_.Stations.length 8)∧_:=gg hk;clear hk;obtain ⟨g84,hk⟩:=hq; (try dsimp only at hk);refine fN ?_;refine q2Z ?_;refine cW (d4 1 rfl rfl rfl rfl (fun w hw hF=>zf9 _ w hF x_.Stations vx__0 (SlC.mono hx__0 le1_5) g84)) ?_;rintro _ _ ⟨v84_,F20,le5_20,hf84,hq,rfl⟩;obtain rfl:=hq.symm;have le1_20:=le1_5.trans le5_20;haveI:=hf84.oneC;refine df ?_;refine ll ?_;refine eD (dx 2) ?_;refine eX ?_;refine fO ?_;refine jg (fun w hw=>hw.freezeS (i:=1) (j:=0) a6 rfl rfl) ?_;rintro F21 ⟨le20_21,hz21⟩;refine iX ?_;have le1_21:=le1_20.trans le20_21;have le5_21:=le5_20.trans le20_21;have hf21:=hz21.toD (OwnD.mono (rep:=cJ) (fun _ _ _ _=>R_List_GChoice.mono) ho81_0_l le5_21) rfl;haveI:=hf21.1.oneC;obtain rfl:=Option.some.inj hk;exact iT 1 rfl rfl rfl rfl rfl (fun w' hw=>⟨(v84_,vlater_5,c81_0_l),F21.toFrz,⟨(SlC.mono hf84 le20_21),hf21⟩,rfl,fT hw (i:=0) rfl hS0 le1_21⟩)
   ·replace hk:=dr hk h3;cases hk
 ·replace hk:=dr hk h1;refine fN ?_;refine cM (d7 2) ?_;refine q1B ?_;refine cW (eM [3,0,1,2] [] [.row g4 33 [(.slice none 0 0),(.slice none 0 0)], .row g3 33 [vx__0,vx__1], .row g2 29 [vp_0,vp_1,vp_2,vp_3]] rfl rfl rfl rfl a6 (fun w hw hw2 hF=>(zdc _ w hF p vp_0 cp_0 hp_0 vp_1 hp_1 vp_2 hp_2 vp_3 hp_3 x_ vx__0 hx__0 vx__1 cx__1 hx__1 (htk hw) fuel hfu r18 hr18).mono (fun e w' hp=>hp.2 h1))) ?_;rintro _ _ ⟨⟨⟩,F22,le1_22, -,rfl,rfl⟩;refine fX ?_;refine q18 ?_;refine T.cond rfl (fun h23=>?_) (fun h23=>?_)
  ·have p23:=of_decide_eq_true h23;replace hk:=dt hk h23;refine q4p ?_;refine df ?_;refine eD (dx 1) ?_;refine jn ?_;refine kB ?_;obtain rfl:=Option.some.inj hk;exact iT 1 rfl rfl rfl rfl rfl (fun w' hw=>⟨((.slice none 0 0),(.slice none 0 0),[]),F22.toFrz,⟨(SlC.nil _ 1),(SlD.nil _ _ 1)⟩,rfl,fT hw (i:=0) rfl hS0 le1_22⟩)
  ·have p23:=of_decide_eq_false h23;replace hk:=dr hk h23;refine q34 ?_;cases hk
def zdH (fuel:Nat)(x_:GProof):Option (List Int×Int):=
 (zcl x_).bind fun r12=>
 (bif !r12 then
  some ([],2)
  else
  (zay fuel (GWriter.mk (Gfault.mk 0) []) (x_.Stations.length:Int)).bind fun r17=>
  dJ (fun (c_2:List Int)=>
   (zay fuel (GWriter.mk (Gfault.mk 0) c_2) (x_.Lemmas.length:Int)).bind fun r31=>
   dJ (fun (c_8:List Int)=>
    (zbw (GWriter.mk (Gfault.mk 0) c_8)).bind fun r56=>
    some (r56.1,r56.2))
   (fun k9=>
    c8 (fun (i_12:Nat) (next11:List Int→Option (List Int×Int)) (c_10:List Int)=>
     (zay fuel (GWriter.mk (Gfault.mk 0) c_10) ((cK x_.Lemmas i_12).length:Int)).bind fun r41=>
     c8 (fun (i_16:Nat) (next15:List Int→Option (List Int×Int)) (c_14:List Int)=>
      (zay fuel (GWriter.mk (Gfault.mk 0) c_14) ((cK (cK x_.Lemmas i_12) i_16).Station)).bind fun r50=>
      (zay fuel (GWriter.mk (Gfault.mk 0) r50) ((cK (cK x_.Lemmas i_12) i_16).Channel)).bind fun r53=>
      next15 r53)
     (fun (c_14:List Int)=>
      next11 c_14) (((cK x_.Lemmas i_12).length) - 0) 0 r41)
    (fun (c_10:List Int)=>
     k9 c_10) (x_.Lemmas.length - 0) 0 r31))
  (fun k3=>
   c8 (fun (i_6:Nat) (next5:List Int→Option (List Int×Int)) (c_4:List Int)=>
    (zay fuel (GWriter.mk (Gfault.mk 0) c_4) (cK x_.Stations i_6)).bind fun r26=>
    next5 r26)
   (fun (c_4:List Int)=>
    k3 c_4) (x_.Stations.length - 0) 0 r17))
theorem zhv (F0:Frz)(w:World)(hF0:F0.At w)(x_:GProof)(vx__0:Value)(hx__0:SlC F0 vx__0 1 (x_.Stations.map eI))(vx__1:Value)(cx__1:List (List Value))(hx__1:SlD cJ F0 vx__1 1 cx__1 x_.Lemmas)(fuel:Nat)(r:List Int×Int)(hr:zdH fuel x_=some r):Calls Tryz.prog 30 #[.agg [vx__0,vx__1].toArray] w fun e w'=>∃(y:Value),(True)∧e= .returned (.tuple #[y, .int .i64 r.2])∧FxM F0 w (dF []) F0 [.sl y 5 1 r.1.length (r.1.flatMap (eK .u8))] w':=by
 have hk:=hr;unfold zdH at hk;haveI:=hx__0.oneC;haveI:=hx__1.1.oneC;obtain ⟨S0,F1,rfl,hS0,hp0⟩:=eY hF0;rw [zg5];refine dv Tryz.func30 rfl rfl rfl hp0 ?_;refine iW ?_;rintro _ _ ⟨g1,rfl,rfl⟩;refine eg ?_;refine kF ?_;have hq:=ee hk;clear hk;obtain ⟨r12,hr12,hk⟩:=hq; (try dsimp only at hk);refine fN ?_;refine iv ?_;refine cW (cN rfl rfl rfl (fun w hw=>zfI _ w (hw.fr (i:=1) rfl) x_ vx__0 hx__0 vx__1 cx__1 hx__1 r12 hr12)) ?_;refine eX ?_;refine dB ?_;refine T.cond rfl (fun h1=>?_) (fun h1=>?_)
 ·replace hk:=dt hk h1;refine lO ?_;refine K.slNil 5 1 ?_;obtain rfl:=Option.some.inj hk;exact eP rfl rfl rfl (fun w' hw=>⟨(.slice none 0 0),trivial,rfl,dy (hw.pick (idx:=[0,2]) rfl a6) hS0 (Frz.Le.refl _)⟩)
 ·replace hk:=dr hk h1;refine i7 ?_;refine gV ?_;rintro _ _ ⟨g4,rfl,rfl⟩;refine TL.slNil 5 1 ?_;refine ly ?_;have hq:=ee hk;clear hk;obtain ⟨r17,hr17,hk⟩:=hq; (try dsimp only at hk);refine fN ?_;refine mR ?_;refine cM (dg rfl rfl hx__0 (List.length_map _)) ?_;have hm16:x_.Stations.length≤9223372036854775807:=(List.length_map _)▸hx__0.max;refine cW (fA [1,0,3,2] [.row g4 128 [.int .i64 0,(.slice none 0 0)], .sl (.slice none 0 0) 5 1 ([]:List Int).length ([].flatMap (eK .u8))] [.row g1 33 [vx__0,vx__1]] rfl rfl rfl rfl a6 (fun w hw hw2 hF=>zaJ _ w hF (GWriter.mk (Gfault.mk 0) []) g4 (.slice none 0 0) (x_.Stations.length:Int) hw2.takes.1 hw2.takes.2 fuel r17 hr17)) ?_;rintro _ _ ⟨v17_0_1, -,rfl,rfl⟩;refine q37 ?_;intro iv17_0_1 hmv17_0_1;refine i5 ?_;refine q2Z ?_;refine cM (dg rfl rfl hx__0 (List.length_map _)) ?_;refine dB ?_;have hq:=ek hk;clear hk;obtain ⟨k3,hk3,hk⟩:=hq; (try dsimp only at hk);refine da (ι:=List Int×Value) (fun z=>[(1, .pointer (some ⟨g1,0,none⟩)),(4, .pointer (some ⟨g4,0,none⟩))]) (fun z=>[.sl z.2 5 1 z.1.length (z.1.flatMap (eK .u8)), .row g4 128 [.int .i64 0,z.2], .row g1 33 [vx__0,vx__1], .fr F1]) (fun z=>k3 z.1=some r∧OneC z.2) ?_ ?_
  ·have hq:=fB hk;clear hk;obtain ⟨f5,kk5,hf5,hkk5,hk⟩:=hq;refine fj ?_;refine T.pick [1,0,3,2] rfl a6 ?_;refine T.loop (ι:=Nat×List Int×Value) (fun z=>[(1, .pointer (some ⟨g1,0,none⟩)),(4, .pointer (some ⟨g4,0,none⟩)),(19,vx__0),(20, .int .i64 (x_.Stations.length:Int)),(21, .int .i64 (z.1:Int))]) (fun z=>[.sl z.2.2 5 1 z.2.1.length (z.2.1.flatMap (eK .u8)), .row g4 128 [.int .i64 0,z.2.2], .row g1 33 [vx__0,vx__1], .fr F1]) (fun z=>c8 f5 kk5 (x_.Stations.length - z.1) z.1 z.2.1=some r∧OneC z.2.2) (fun z=>x_.Stations.length - z.1) (0,r17,v17_0_1) ?_ ?_ ?_ ?_
   ·exact q4B
   ·exact mh
   ·exact eW
   ·rintro ⟨i_6,c_4,vc_4⟩ ⟨hk,oc_4⟩; (try dsimp only at *);refine fh ?_;refine T.cond rfl (fun h7=>?_) (fun h7=>?_)
    ·have p7:=of_decide_eq_true h7;rw [fx a5] at hk;generalize hn5:c8 f5 kk5 (x_.Stations.length - (i_6+1)) (i_6+1)=next5 at hk;rw [←hf5] at hk; (try dsimp only at hk);refine fS ?_;refine cM (dh (i:=i_6) rfl rfl rfl hx__0 (List.length_map _) rfl a5) ?_;refine cM (ec 3 (i:=i_6) (j:=0) rfl rfl rfl hx__0 a5) ?_;refine dB ?_;have hq:=ee hk;clear hk;obtain ⟨r26,hr26,hk⟩:=hq; (try dsimp only at hk);refine iV ?_;refine cW (fA [1,0,3,2] [.row g4 128 [.int .i64 0,vc_4], .sl vc_4 5 1 c_4.length (c_4.flatMap (eK .u8))] [.row g1 33 [vx__0,vx__1]] rfl rfl rfl rfl a6 (fun w hw hw2 hF=>zaJ _ w hF (GWriter.mk (Gfault.mk 0) c_4) g4 vc_4 (cK x_.Stations i_6) hw2.takes.1 hw2.takes.2 fuel r26 hr26)) ?_;rintro _ _ ⟨v26_0_1, -,rfl,rfl⟩;refine q37 ?_;intro iv26_0_1 hmv26_0_1;refine kA ?_;rw [←hn5] at hk;refine K.pick [1,0,3,2] rfl a6 ?_;exact K.next ((i_6+1),r26,v26_0_1) ⟨hk,inferInstance⟩ a9 (.c (.c (.c (.c (.c .nil))))) (List.Sublist.refl _)
    ·have p7:=of_decide_eq_false h7;rw [fw a5,←hkk5] at hk; (try dsimp only at hk);refine eE ?_;exact cS (c_4,vc_4) ⟨hk,inferInstance⟩ (.c (.c .nil)) (List.Sublist.refl _)
  ·rintro ⟨c_2,vc_2⟩ ⟨hk,oc_2⟩; (try dsimp only at *);rw [←hk3] at hk; (try dsimp only at hk);refine T.seq ?_;have hq:=ee hk;clear hk;obtain ⟨r31,hr31,hk⟩:=hq; (try dsimp only at hk);refine fN ?_;refine mR ?_;refine cM (dg rfl rfl hx__1.1 hx__1.2.1) ?_;have hm30:x_.Lemmas.length≤9223372036854775807:=hx__1.2.1▸hx__1.1.max;refine cW (fA [1,0,3,2] [.row g4 128 [.int .i64 0,vc_2], .sl vc_2 5 1 c_2.length (c_2.flatMap (eK .u8))] [.row g1 33 [vx__0,vx__1]] rfl rfl rfl rfl a6 (fun w hw hw2 hF=>zaJ _ w hF (GWriter.mk (Gfault.mk 0) c_2) g4 vc_2 (x_.Lemmas.length:Int) hw2.takes.1 hw2.takes.2 fuel r31 hr31)) ?_;rintro _ _ ⟨v31_0_1, -,rfl,rfl⟩;refine q37 ?_;intro iv31_0_1 hmv31_0_1;refine i5 ?_;refine q2Z ?_;refine cM (dg rfl rfl hx__1.1 hx__1.2.1) ?_;refine dB ?_;have hq:=ek hk;clear hk;obtain ⟨k9,hk9,hk⟩:=hq; (try dsimp only at hk);refine da (ι:=List Int×Value) (fun z=>[(4, .pointer (some ⟨g4,0,none⟩))]) (fun z=>[.sl z.2 5 1 z.1.length (z.1.flatMap (eK .u8)), .row g4 128 [.int .i64 0,z.2], .fr F1]) (fun z=>k9 z.1=some r∧OneC z.2) ?_ ?_
   ·have hq:=fB hk;clear hk;obtain ⟨f11,kk11,hf11,hkk11,hk⟩:=hq;refine q4j ?_;refine T.loop (ι:=Nat×List Int×Value) (fun z=>[(4, .pointer (some ⟨g4,0,none⟩)),(33,vx__1),(34, .int .i64 (x_.Lemmas.length:Int)),(35, .int .i64 (z.1:Int))]) (fun z=>[.sl z.2.2 5 1 z.2.1.length (z.2.1.flatMap (eK .u8)), .row g4 128 [.int .i64 0,z.2.2], .fr F1]) (fun z=>c8 f11 kk11 (x_.Lemmas.length - z.1) z.1 z.2.1=some r∧OneC z.2.2) (fun z=>x_.Lemmas.length - z.1) (0,r31,v31_0_1) ?_ ?_ ?_ ?_
    ·exact q4B
    ·exact m0
    ·exact eW
    ·rintro ⟨i_12,c_10,vc_10⟩ ⟨hk,oc_10⟩; (try dsimp only at *);refine fh ?_;refine T.cond rfl (fun h13=>?_) (fun h13=>?_)
     ·have p13:=of_decide_eq_true h13;rw [fx a5] at hk;generalize hn11:c8 f11 kk11 (x_.Lemmas.length - (i_12+1)) (i_12+1)=next11 at hk;rw [←hf11] at hk; (try dsimp only at hk);refine fS ?_;refine cM (dh (i:=i_12) rfl rfl rfl hx__1.1 hx__1.2.1 rfl a5) ?_;refine cM (dU 2 (i:=i_12) (j:=0) rfl rfl rfl hx__1.1 hx__1.2.1 a5 rfl (R_List_GChoice.c0 (hx__1.2.2 i_12 a5)).1) ?_;have hd38_0:=(R_List_GChoice.c0 (hx__1.2.2 i_12 a5)).2;haveI:=hd38_0.oneC;refine kq ?_;have hq:=ee hk;clear hk;obtain ⟨r41,hr41,hk⟩:=hq; (try dsimp only at hk);refine iV ?_;refine cM (dg rfl rfl hd38_0 (List.length_map _)) ?_;have hm40:(cK x_.Lemmas i_12).length≤9223372036854775807:=(List.length_map _)▸hd38_0.max;refine cW (fA [1,0,2] [.row g4 128 [.int .i64 0,vc_10], .sl vc_10 5 1 c_10.length (c_10.flatMap (eK .u8))] [] rfl rfl rfl rfl a6 (fun w hw hw2 hF=>zaJ _ w hF (GWriter.mk (Gfault.mk 0) c_10) g4 vc_10 ((cK x_.Lemmas i_12).length:Int) hw2.takes.1 hw2.takes.2 fuel r41 hr41)) ?_;rintro _ _ ⟨v41_0_1, -,rfl,rfl⟩;refine q37 ?_;intro iv41_0_1 hmv41_0_1;refine j9 ?_;refine cM (dg rfl rfl hd38_0 (List.length_map _)) ?_;refine dB ?_;have hq:=fB hk;clear hk;obtain ⟨f15,kk15,hf15,hkk15,hk⟩:=hq;refine q4j ?_;refine T.loop (ι:=Nat×List Int×Value) (fun z=>[(4, .pointer (some ⟨g4,0,none⟩)),(33,vx__1),(34, .int .i64 (x_.Lemmas.length:Int)),(35, .int .i64 (i_12:Int)),(42,(cK (cK cx__1 i_12) 0)),(43, .int .i64 ((cK x_.Lemmas i_12).length:Int)),(44, .int .i64 (z.1:Int))]) (fun z=>[.sl z.2.2 5 1 z.2.1.length (z.2.1.flatMap (eK .u8)), .row g4 128 [.int .i64 0,z.2.2], .fr F1]) (fun z=>c8 f15 kk15 (((cK x_.Lemmas i_12).length) - z.1) z.1 z.2.1=some r∧OneC z.2.2) (fun z=>((cK x_.Lemmas i_12).length) - z.1) (0,r41,v41_0_1) ?_ ?_ ?_ ?_
      ·exact q4B
      ·exact q4R
      ·exact eW
      ·rintro ⟨i_16,c_14,vc_14⟩ ⟨hk,oc_14⟩; (try dsimp only at *);refine fh ?_;refine T.cond rfl (fun h17=>?_) (fun h17=>?_)
       ·have p17:=of_decide_eq_true h17;rw [fx a5] at hk;generalize hn15:c8 f15 kk15 (((cK x_.Lemmas i_12).length) - (i_16+1)) (i_16+1)=next15 at hk;rw [←hf15] at hk; (try dsimp only at hk);refine fS ?_;refine cM (dh (i:=i_16) rfl rfl rfl hd38_0 (List.length_map _) rfl a5) ?_;refine cM (ef 2 (i:=i_16) rfl rfl rfl hd38_0 a5) ?_;refine gV ?_;rintro _ _ ⟨g10,rfl,rfl⟩;refine mL ?_;have hq:=ee hk;clear hk;obtain ⟨r50,hr50,hk⟩:=hq; (try dsimp only at hk);refine mw ?_;refine cW (fA [2,1,3,0] [.row g4 128 [.int .i64 0,vc_14], .sl vc_14 5 1 c_14.length (c_14.flatMap (eK .u8))] [.row g10 68 [.int .i64 ((cK (cK x_.Lemmas i_12) i_16).Station), .int .i64 ((cK (cK x_.Lemmas i_12) i_16).Channel)]] rfl rfl rfl rfl a6 (fun w hw hw2 hF=>zaJ _ w hF (GWriter.mk (Gfault.mk 0) c_14) g4 vc_14 ((cK (cK x_.Lemmas i_12) i_16).Station) hw2.takes.1 hw2.takes.2 fuel r50 hr50)) ?_;rintro _ _ ⟨v50_0_1, -,rfl,rfl⟩;refine q37 ?_;intro iv50_0_1 hmv50_0_1;refine db ?_;have hq:=ee hk;clear hk;obtain ⟨r53,hr53,hk⟩:=hq; (try dsimp only at hk);refine fN ?_;refine q2Z ?_;refine cW (fA [0,1,2,3] [.row g4 128 [.int .i64 0,v50_0_1], .sl v50_0_1 5 1 r50.length (r50.flatMap (eK .u8))] [.row g10 68 [.int .i64 ((cK (cK x_.Lemmas i_12) i_16).Station), .int .i64 ((cK (cK x_.Lemmas i_12) i_16).Channel)]] rfl rfl rfl rfl a6 (fun w hw hw2 hF=>zaJ _ w hF (GWriter.mk (Gfault.mk 0) r50) g4 v50_0_1 ((cK (cK x_.Lemmas i_12) i_16).Channel) hw2.takes.1 hw2.takes.2 fuel r53 hr53)) ?_;rintro _ _ ⟨v53_0_1, -,rfl,rfl⟩;refine q37 ?_;intro iv53_0_1 hmv53_0_1;refine kA ?_;rw [←hn15] at hk;refine K.pick [1,0,2] rfl a6 ?_;exact K.next ((i_16+1),r53,v53_0_1) ⟨hk,inferInstance⟩ a9 (.c (.c (.c (.c (.c (.c (.c .nil))))))) (List.Sublist.refl _)
       ·have p17:=of_decide_eq_false h17;rw [fw a5,←hkk15] at hk; (try dsimp only at hk);refine q3N ?_;refine kL ?_;rw [←hn11] at hk;exact K.next ((i_12+1),c_14,vc_14) ⟨hk,inferInstance⟩ a9 (.c (.c (.c (.c .nil)))) (List.Sublist.refl _)
     ·have p13:=of_decide_eq_false h13;rw [fw a5,←hkk11] at hk; (try dsimp only at hk);refine eE ?_;exact cS (c_10,vc_10) ⟨hk,inferInstance⟩ (.c .nil) (List.Sublist.refl _)
   ·rintro ⟨c_8,vc_8⟩ ⟨hk,oc_8⟩; (try dsimp only at *);rw [←hk9] at hk; (try dsimp only at hk);refine T.seq ?_;have hq:=ee hk;clear hk;obtain ⟨r56,hr56,hk⟩:=hq; (try dsimp only at hk);refine fN ?_;refine cW (fA [1,0,2] [.row g4 128 [.int .i64 0,vc_8], .sl vc_8 5 1 c_8.length (c_8.flatMap (eK .u8))] [] rfl rfl rfl rfl a6 (fun w hw hw2 hF=>zda _ w hF (GWriter.mk (Gfault.mk 0) c_8) g4 vc_8 hw2.takes.1 hw2.takes.2 r56 hr56)) ?_;rintro _ _ ⟨v56_0_0, -,rfl,rfl⟩;refine fX ?_;refine gb 2 rfl ?_;intro iv56_0_0 hmv56_0_0;refine lC ?_;refine gH ?_;obtain rfl:=Option.some.inj hk;exact eP rfl rfl rfl (fun w' hw=>⟨v56_0_0,trivial,rfl,dy (hw.pick (idx:=[2,3]) rfl a6) hS0 (Frz.Le.refl _)⟩)
def zch (a:GProof)(b:GProof):Bool:=
 ((zbM a.Stations b.Stations)&&(zci a.Lemmas b.Lemmas))
theorem zgh (F0:Frz)(w:World)(hF0:F0.At w)(a:GProof)(va_0:Value)(ha_0:SlC F0 va_0 1 (a.Stations.map eI))(va_1:Value)(ca_1:List (List Value))(ha_1:SlD cJ F0 va_1 1 ca_1 a.Lemmas)(b:GProof)(vb_0:Value)(hb_0:SlC F0 vb_0 1 (b.Stations.map eI))(vb_1:Value)(cb_1:List (List Value))(hb_1:SlD cJ F0 vb_1 1 cb_1 b.Lemmas):Calls Tryz.prog 20 #[.agg [va_0,va_1].toArray, .agg [vb_0,vb_1].toArray] w fun e w'=>e= .returned (.bool (zch a b))∧Below w.heap.size w w':=by
 obtain ⟨r,hk⟩:∃r,zch a b=r:=⟨_,rfl⟩;rw [hk];unfold zch at hk;haveI:=ha_0.oneC;haveI:=ha_1.1.oneC;haveI:=hb_0.oneC;haveI:=hb_1.1.oneC;obtain ⟨S0,F1,rfl,hS0,hp0⟩:=eY hF0;refine dv Tryz.func20 rfl rfl rfl hp0 ?_;refine iW ?_;rintro _ _ ⟨g2,rfl,rfl⟩;refine q3J ?_;rintro _ _ ⟨g3,rfl,rfl⟩;refine kq ?_;refine da (ι:=Unit) (fun z=>[(4, .bool ((zbM a.Stations b.Stations)&&(zci a.Lemmas b.Lemmas)))]) (fun z=>[.row g3 33 [vb_0,vb_1], .row g2 33 [va_0,va_1], .fr F1]) (fun z=>True) ?_ ?_
 ·refine fN ?_;refine jZ ?_;refine ei ?_;refine cW (cN rfl rfl rfl (fun w hw=>zgr _ w (hw.fr (i:=2) rfl) a.Stations va_0 ha_0 b.Stations vb_0 hb_0)) ?_;refine jn ?_;refine dl rfl rfl rfl (fun h1=>?_) (fun h1=>?_)
  ·refine jZ ?_;refine ei ?_;refine cW (cN rfl rfl rfl (fun w hw=>zjs _ w (hw.fr (i:=2) rfl) a.Lemmas va_1 ca_1 ha_1 b.Lemmas vb_1 cb_1 hb_1)) ?_;refine mi ?_;exact q4D
  ·refine TL.run 7 rfl ?_;refine ff ?_;exact q4E
 ·refine mS ?_;subst hk;exact eh
def zdf (fuel:Nat)(x_:GProof)(most:Int):Option Bool:=
 dJ (fun (x_1:Bool)=>
  some x_1)
 (fun k2=>
  (bif decide ((x_.Stations.length:Int)≤20) then
   (zcC fuel x_.Lemmas most).bind fun r13=>
   k2 r13
   else
   k2 false))
theorem zh7 (F0:Frz)(w:World)(hF0:F0.At w)(x_:GProof)(vx__0:Value)(hx__0:SlC F0 vx__0 1 (x_.Stations.map eI))(vx__1:Value)(cx__1:List (List Value))(hx__1:SlD cJ F0 vx__1 1 cx__1 x_.Lemmas)(most:Int)(fuel:Nat)(r:Bool)(hr:zdf fuel x_ most=some r):Calls Tryz.prog 27 #[.agg [vx__0,vx__1].toArray, .int .i64 most] w fun e w'=>e= .returned (.bool r)∧Below w.heap.size w w':=by
 have hk:=hr;unfold zdf at hk;haveI:=hx__0.oneC;haveI:=hx__1.1.oneC;obtain ⟨S0,F1,rfl,hS0,hp0⟩:=eY hF0;refine dv Tryz.func27 rfl rfl rfl hp0 ?_;refine iW ?_;rintro _ _ ⟨g2,rfl,rfl⟩;refine kq ?_; (try dsimp only at hk);have hq:=ek hk;clear hk;obtain ⟨k2,hk2,hk⟩:=hq; (try dsimp only at hk);refine da (ι:=Bool) (fun z=>[(4, .bool z)]) (fun z=>[.fr F1]) (fun z=>k2 z=some r) ?_ ?_
 ·refine mw ?_;refine cM (dg rfl rfl hx__0 (List.length_map _)) ?_;have hm7:x_.Stations.length≤9223372036854775807:=(List.length_map _)▸hx__0.max;refine eg ?_;refine dl rfl rfl rfl (fun h3=>?_) (fun h3=>?_)
  ·have p3:=of_decide_eq_true h3;replace hk:=dt hk h3;refine q4e ?_;have hq:=ee hk;clear hk;obtain ⟨r13,hr13,hk⟩:=hq;refine cW (cN rfl rfl rfl (fun w hw=>zh6 _ w (hw.fr (i:=1) rfl) x_.Lemmas vx__1 cx__1 hx__1 most fuel r13 hr13)) ?_;refine mi ?_;refine q2R ?_;exact cS r13 hk (.c .nil) (List.Sublist.refl _)
  ·have p3:=of_decide_eq_false h3;replace hk:=dr hk h3;refine TL.run 6 rfl ?_;refine ff ?_;refine q2R ?_;exact q4A
 ·rintro x_1 hk;rw [←hk2] at hk; (try dsimp only at hk);refine T.ret ?_;obtain rfl:=Option.some.inj hk;exact eh
theorem zfT (p:GProblem):nt p=gW p:=Option.some.inj ((zhy p).symm.trans zoN)
theorem zhU (p:GProblem)(st:List Int):zbN p st=some (zju p st):=by
 unfold zbN zju;rw [zeA,←zfT]
 cases h1:nt p
 ·rfl
 cases h2:kI st
 ·rfl
 have hD:=eN h1;have hg:=zd4 (eN (fk h1));have hi:=eN (fk (fk h1));have hl:=zjT hD hi;have g1:=hg.np;have g2:=hg.nl;have g3:=hg.nc;obtain ⟨s,h3,h4⟩:=of_x (l:=st) (zhI h2);obtain ⟨o,m3,m4⟩:=zlM (p:=p) (by unfold dn;omega) (fun d hd=>zlQ hD hd)
 show (zbT st).bind _=_
 rw [h3]
 show (zbB p).bind _=_
 rw [m3]
 show (bif !(zar s o) then _ else _)=_
 rw [zlk h4 h2 m4]
 cases st.all (dG p)
 ·rfl
 refine (zo2 (st:=st) a5 (fun i next s hin hr=>?_)).1.trans ?_
 ·rw [zge,zeh h4 h2,Option.bind_some];unfold gD
  cases dT st (cK p.Domains i).Station
  ·rfl
  ·rw [cond_true,cond_true,f7 (by have:=zpg (List.all_eq_true.1 hD _ (fG hin));unfold dn;omega),f7 (hr _)]
 refine (zoC (st:=st) (s0:=jc (gD p st) (p.Domains.length - 0) ([],[],[],[])) (mu a5) a5 (fun i next s hin hr=>?_)).1.trans ?_
 ·rw [zge,zge,zeh h4 h2,zeh h4 h2,Option.bind_some];unfold gP
  show (bif dT st (cK p.Rules.Pairs i).A then _ else _)=_
  cases dT st (cK p.Rules.Pairs i).A
  ·rfl
  ·cases dT st (cK p.Rules.Pairs i).B
   ·rfl
   ·show ey _ _=_
    rw [f7 (hr _)];rfl
 refine (zoB (st:=st) (s0:=jc (gP p st) (p.Rules.Pairs.length - 0) (jc (gD p st) (p.Domains.length - 0) ([],[],[],[]))) (inv2 (mu a5) a5) a5 (fun i next s hin hr=>?_)).1.trans ?_
 ·rw [zge,zge,zeh h4 h2,zeh h4 h2,Option.bind_some];unfold gL
  show (bif dT st (cK p.Rules.Loads i).To then _ else _)=_
  cases dT st (cK p.Rules.Loads i).To
  ·rfl
  ·cases dT st (cK p.Rules.Loads i).From
   ·rfl
   ·show ey _ _=_
    rw [f7 (hr _)];rfl
 refine (zp3 (st:=st) (s0:=jc (gL p st) (p.Rules.Loads.length - 0) (jc (gP p st) (p.Rules.Pairs.length - 0) (jc (gD p st) (p.Domains.length - 0) ([],[],[],[])))) (inv3 (inv2 (mu a5) a5) a5) a5 (fun i next s hin hr=>?_)).trans ?_
 ·rw [zge,zeh h4 h2,Option.bind_some];unfold gC
  cases dT st (cK p.Rules.Caps i).Station
  ·rfl
  ·rw [cond_true,cond_true,f7 (hr _)]
 rfl
def okL (x:GProof)(i:Nat):Bool:=(kx (cK x.Lemmas i)&&((decide (((cK x.Lemmas i).length:Int)=0)) == (decide ((i:Int)=((x.Lemmas.length:Int) - 1)))))&&(cK x.Lemmas i).all fun c=>dT x.Stations c.Station
def kR (x:GProof):Bool:=kI x.Stations&&(!((decide ((x.Lemmas.length:Int)<1))||(decide (4096<(x.Lemmas.length:Int))))&&(List.range x.Lemmas.length).all (okL x))
theorem zik (x:GProof):zcl x=some (kR x):=by
 unfold zcl kR
 have e:zb8 [] x.Stations=some (bif kI x.Stations then ([],0) else ([],2)):=by
  rw [zoG (l:=[]) (st:=x.Stations) a8]
  cases kI x.Stations <;> rfl
 rw [e,Option.bind_some]
 cases h2:kI x.Stations
 ·rfl
 rw [cond_true]
 show (bif decide (¬(0:Int)=0) then _ else _)=_
 rw [decide_eq_false a5,cond_false]
 cases h3:(decide ((x.Lemmas.length:Int)<1))||(decide (4096<(x.Lemmas.length:Int)))
 ·obtain ⟨s,h4,h5⟩:=of_x (l:=x.Stations) (zhI h2);rw [cond_false,h4,Option.bind_some];refine mo ?_;refine (zfQ (z:=some false) (fun i=>okL x i) (fun i next hi=>?_)).trans ?_
  ·have inner:c8 (fun (k:Nat) (nx:Unit→Option Bool) (_:Unit)=>(l5 s ((cK (cK x.Lemmas i) k).Station)).bind fun r=>bif !r then some false else nx ()) (fun (_:Unit)=>next ()) (cK x.Lemmas i).length 0 ()=bif ((cK x.Lemmas i).all fun c=>dT x.Stations c.Station) then next () else some false:=
    (zfQ (z:=some false) (fun k=>dT x.Stations (cK (cK x.Lemmas i) k).Station) (fun k nx hk=>by rw [zge,zeh h5 h2,Option.bind_some];cases dT x.Stations (cK (cK x.Lemmas i) k).Station <;> rfl)).trans (by rw [zcH (q:=fun c:GChoice=>dT x.Stations c.Station)])
   rw [inner];unfold okL
   cases kx (cK x.Lemmas i) <;> cases ((decide (((cK x.Lemmas i).length:Int)=0)) == (decide ((i:Int)=((x.Lemmas.length:Int) - 1)))) <;> rfl
  ·cases (List.range x.Lemmas.length).all fun i=>okL x i <;> rfl
 ·rfl
structure OkM (st:List Int) (M:List (List GChoice)):Prop where
 hS:kI st=true
 n:M.length<4096
 g:∀g∈M,kx g=true∧g≠[]∧(g.all fun c=>dT st c.Station)=true
theorem nthA {M:List (List GChoice)}{i:Nat}(hi:i<M.length):cK (M++[[]]) i=cK M i:=by rw [dQ (show i<(M++[[]]).length by simp;omega),dQ hi,List.getElem_append_left hi]
theorem nthZ {M:List (List GChoice)}:cK (M++[[]]) M.length=[]:=by rw [dQ (show M.length<(M++[[]]).length by simp)];simp
theorem OkM.sub {st:List Int}{M M':List (List GChoice)}(h:OkM st M)(hs:M'.Sublist M):OkM st M':=⟨h.hS,Nat.lt_of_le_of_lt hs.length_le h.n,fun g hg=>h.g g (hs.subset hg)⟩
theorem zpP {st:List Int}{M:List (List GChoice)}(h:OkM st M):kR ⟨st,M++[[]]⟩=true:=by
 have hn:=h.n; (have hl:(M++[[]]).length=M.length+1:=by simp);unfold kR;dsimp only;rw [hl];refine jm h.hS (jm ?_ (List.all_eq_true.2 fun i hi=>?_))
 ·rw [decide_eq_false a5,decide_eq_false a5];rfl
 ·have hi:=List.mem_range.1 hi;unfold okL;dsimp only;rw [hl];rcases Nat.lt_or_ge i M.length with h1|h1
  ·obtain ⟨a,b,c⟩:=h.g _ (fG h1);have:¬((cK M i).length:Int)=0:=fun h0=>b (List.eq_nil_of_length_eq_zero a5);rw [nthA h1,a,c,decide_eq_false this,decide_eq_false a5];rfl
  ·(obtain rfl:i=M.length:=by omega);rw [nthZ,decide_eq_true (show ((M.length:Nat):Int)=((M.length+1:Nat):Int) - 1 by omega)];rfl
theorem zkF {x:GProof}(h:kR x=true):∃M,x.Lemmas=M++[[]]∧OkM x.Stations M:=by
 unfold kR at h;have h1:=eN h;have h2:=eN (fk h);have h3:=List.all_eq_true.1 (fk (fk h));rw [Bool.not_eq_true',Bool.or_eq_false_iff,decide_eq_false_iff_not,decide_eq_false_iff_not] at h2; (have hne:x.Lemmas≠[]:=fun e=>by rw [e] at h2;simp at h2);have hlast:=h3 (x.Lemmas.length - 1) (List.mem_range.2 a5)
 have hz:cK x.Lemmas (x.Lemmas.length - 1)=[]:=by
  unfold okL at hlast;have:=fk (eN hlast);rw [decide_eq_true (show ((x.Lemmas.length - 1:Nat):Int)=(x.Lemmas.length:Int) - 1 by omega),beq_iff_eq,decide_eq_true_eq] at this;exact List.eq_nil_of_length_eq_zero a5
 have he:x.Lemmas=x.Lemmas.dropLast++[[]]:=by
  have h4:=List.dropLast_concat_getLast hne;rw [List.getLast_eq_getElem,←dQ (show x.Lemmas.length - 1<x.Lemmas.length by omega),hz] at h4;exact h4.symm
 refine ⟨x.Lemmas.dropLast,he,h1,by rw [List.length_dropLast];omega,fun g hg=>?_⟩;obtain ⟨i,hi,e⟩:=iS hg;rw [List.length_dropLast] at hi;have h5:=h3 i (List.mem_range.2 a5)
 have e2:cK x.Lemmas i=g:=by
  rw [←e];have:=nthA (M:=x.Lemmas.dropLast) (i:=i) (by rw [List.length_dropLast];omega);rw [←he] at this;exact this
 unfold okL at h5;rw [e2,decide_eq_false (show ¬(i:Int)=(x.Lemmas.length:Int) - 1 by omega)] at h5;refine ⟨eN (eN h5),fun h0=>?_,fk h5⟩;have:=fk (eN h5);rw [h0] at this;cases this
end Go.Proofs.YtogbggmckmnlfaaGreatDoor
