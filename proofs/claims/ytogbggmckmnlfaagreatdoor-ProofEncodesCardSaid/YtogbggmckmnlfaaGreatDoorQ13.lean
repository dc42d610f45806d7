/- Yl W8 Y5: shortened and put together by squeeze.py. -/
import Derived.Test.YtogbggmckmnlfaaGreatDoorQ12
set_option maxRecDepth 100000
set_option maxHeartbeats 4000000
set_option linter.unusedVariables false
set_option linter.unusedSectionVars false
set_option linter.unusedSimpArgs false
namespace Go.Proofs.YtogbggmckmnlfaaGreatDoor
open Go.RowKit
def mK (fuel:Nat)(n:Int):Option (List Int):=
 dN (fun (s3:Int×List Int)=>
  dU (dd (s3.2++[(IntKind.u8.wrap s3.1)]).length 1) <|
  some (s3.2++[(IntKind.u8.wrap s3.1)]))
 (fun k3=>
  iV (fun (next6:(Int×List Int)→Option (List Int)) (s6:Int×List Int)=>
   (bif decide (128≤s6.1) then
    dU (0≤s6.1∧1≤(128:Int)) <|
    dU (dd (s6.2++[(IntKind.u8.wrap (wI ((s6.1 % 128)+128)))]).length 1) <|
    dU (0≤s6.1∧s6.1≤9223372036854775807∧1≤(128:Int)) <|
    next6 ((s6.1 / 128),(s6.2++[(IntKind.u8.wrap (wI ((s6.1 % 128)+128)))]))
    else
    k3 (s6.1,s6.2))) fuel (n,[]))
theorem zcp (F0:Frz)(w:World)(hF0:F0.At w)(n:Int)(fuel:Nat)(r:List Int)(hr:mK fuel n=some r):Calls Tryz.prog 70 #[.int .i64 n] w fun e w'=>∃(y:Value),(True)∧e= .returned (y)∧FxM F0 w (dj []) F0 [.sl y 5 1 r.length (r.flatMap (eK .u8))] w':=by
 have hk:=hr;unfold mK at hk;obtain ⟨S0,F1,rfl,hS0,hp0⟩:=fE hF0;rw [zet];refine dy Tryz.func70 rfl rfl rfl hp0 ?_;refine gh ?_;refine TL.slNil 5 1 ?_;refine l7 ?_;refine TL.slNil 5 1 ?_;refine gU ?_;have hq:=eN hk;clear hk;obtain ⟨k3,hk3,hk⟩:=hq; (try dsimp only at hk);refine dk (ι:=Int×List Int×Value) (fun z=>[(0, .int .i64 z.1),(3,z.2.2)]) (fun z=>[.sl z.2.2 5 1 z.2.1.length (z.2.1.flatMap (eK .u8)), .fr F1]) (fun z=>k3 (z.1,z.2.1)=some r∧OneC z.2.2) ?_ ?_
 ·have hq:=zdd hk;clear hk;obtain ⟨f6,hf6,hk⟩:=hq;refine fJ ?_;refine T.pick [0,2] rfl a6 ?_;refine T.loop (ι:=Nat×Int×List Int×Value) (fun z=>[(0, .int .i64 z.2.1),(3,z.2.2.2)]) (fun z=>[.sl z.2.2.2 5 1 z.2.2.1.length (z.2.2.1.flatMap (eK .u8)), .fr F1]) (fun z=>iV f6 z.1 (z.2.1,z.2.2.1)=some r∧OneC z.2.2.2) (fun z=>z.1) (fuel,n,[],(.slice none 0 0)) ?_ ?_ ?_ ?_
  ·exact q4b
  ·exact (.c (.c .nil))
  ·exact fx
  ·rintro ⟨m_7,n_4,b_5,vb_5⟩ ⟨hk,ob_5⟩; (try dsimp only at *);have hq:=zdJ hk;clear hk;obtain ⟨m_7',rfl,hk⟩:=hq;generalize hn6:iV f6 m_7'=next6 at hk;rw [←hf6] at hk; (try dsimp only at hk);refine jS ?_;refine TL.ns ?_;refine T.cond rfl (fun h8=>?_) (fun h8=>?_)
   ·have p8:=of_decide_eq_true h8;replace hk:=dC hk h8;refine T.skip (K.seq (T.block (T.seq ?_)));have hq:(0≤n_4∧1≤(128:Int))∧_:=eW hk;clear hk;obtain ⟨g8,hk⟩:=hq;have hq:(dd (b_5++[(IntKind.u8.wrap (wI ((n_4 % 128)+128)))]).length 1)∧_:=eW hk;clear hk;obtain ⟨g12,hk⟩:=hq; (try dsimp only at hk);refine gp ?_;refine cR (iX rfl rfl rfl g8) ?_;refine dp ?_;refine cR (iY (z:=wI ((n_4 % 128)+128))) ?_;refine jj ?_;rintro _ _ ⟨g11,rfl,rfl⟩;refine cX (fj 1 0 rfl rfl rfl rfl rfl rfl (j2 (ys:=[(IntKind.u8.wrap (wI ((n_4 % 128)+128)))])) (mn (enc:=(eK .u8)) (xs:=b_5) (ys:=[(IntKind.u8.wrap (wI ((n_4 % 128)+128)))])) g12 a6) ?_;rintro v12 _ ⟨hv12,rfl⟩;refine dL ?_;have hq:(0≤n_4∧n_4≤9223372036854775807∧1≤(128:Int))∧_:=eW hk;clear hk;obtain ⟨g14,hk⟩:=hq; (try dsimp only at hk);refine fk ?_;refine cR (jf rfl rfl rfl g14) ?_;refine dp ?_;refine TL.nil (fI ?_);rw [←hn6] at hk;refine K.pick [1,2] rfl a6 ?_;exact K.next (m_7',(n_4 / 128),(b_5++[(IntKind.u8.wrap (wI ((n_4 % 128)+128)))]),v12) ⟨hk,inferInstance⟩ a9 (.c (.c .nil)) (List.Sublist.refl _)
   ·have p8:=of_decide_eq_false h8;replace hk:=dD hk h8;refine fi ?_;exact c4 (n_4,b_5,vb_5) ⟨hk,inferInstance⟩ (.c (.c .nil)) (List.Sublist.refl _)
 ·rintro ⟨n_1,b_2,vb_2⟩ ⟨hk,ob_2⟩; (try dsimp only at *);rw [←hk3] at hk; (try dsimp only at hk);refine T.seq ?_;have hq:(dd (b_2++[(IntKind.u8.wrap n_1)]).length 1)∧_:=eW hk;clear hk;obtain ⟨g19,hk⟩:=hq; (try dsimp only at hk);refine gp ?_;refine cR (iY (z:=n_1)) ?_;refine jj ?_;rintro _ _ ⟨g18,rfl,rfl⟩;refine cX (fj 1 0 rfl rfl rfl rfl rfl rfl (j2 (ys:=[(IntKind.u8.wrap n_1)])) (mn (enc:=(eK .u8)) (xs:=b_2) (ys:=[(IntKind.u8.wrap n_1)])) g19 a6) ?_;rintro v19 _ ⟨hv19,rfl⟩;refine fm ?_;obtain rfl:=Option.some.inj hk;exact q4S
def jb (fuel:Nat)(b:List Int):Option (Int×List Int):=
 dN (fun (_:Unit)=>
  some ((-1),[]))
 (fun k1=>
  iV (fun (next5:(Int×Int×Int)→Option (Int×List Int)) (s5:Int×Int×Int)=>
   (bif ((decide (s5.2.2<(b.length:Int)))&&(decide (s5.2.2<8))) then
    dU (0≤s5.2.2∧s5.2.2<(b.length:Int)) <|
    (bif decide ((cQ b s5.2.2.toNat)<128) then
     some (wI (s5.1+(wI ((wI (remK .u8 (cQ b s5.2.2.toNat) 128)) *s5.2.1))),(b.drop ((s5.2.2+1).toNat)))
     else
     next5 (wI (s5.1+(wI ((wI (remK .u8 (cQ b s5.2.2.toNat) 128)) *s5.2.1))),wI (128*s5.2.1),(s5.2.2+1)))
    else
    k1 ())) fuel (0,1,0))
theorem zcS (F0:Frz)(w:World)(hF0:F0.At w)(b:List Int)(vb:Value)(hb:SlC F0 vb 1 (b.map (eK .u8)))(fuel:Nat)(r:Int×List Int)(hr:jb fuel b=some r):Calls Tryz.prog 66 #[vb] w fun e w'=>∃(y:Value) (G:Frz),(SlC G y 1 (r.2.map (eK .u8)))∧e= .returned (.tuple #[.int .i64 r.1,y])∧Fx F0 w G w':=by
 have hk:=hr;unfold jb at hk;haveI:=hb.oneC;obtain ⟨S0,F1,rfl,hS0,hp0⟩:=fE hF0;refine dy Tryz.func66 rfl rfl rfl hp0 ?_;refine iD ?_;refine dR ?_;refine ez ?_;refine iM ?_;refine dL ?_;have hq:=eN hk;clear hk;obtain ⟨k1,hk1,hk⟩:=hq; (try dsimp only at hk);refine dk (ι:=Unit) (fun z=>[]) (fun z=>[.fr F1]) (fun z=>k1 ()=some r) ?_ ?_
 ·have hq:=zdd hk;clear hk;obtain ⟨f5,hf5,hk⟩:=hq;refine fJ ?_;refine T.loop (ι:=Nat×Int×Int×Int) (fun z=>[(0,vb),(4, .int .i64 z.2.1),(5, .int .i64 z.2.2.1),(6, .int .i64 z.2.2.2)]) (fun z=>[.fr F1]) (fun z=>iV f5 z.1 (z.2.1,z.2.2.1,z.2.2.2)=some r) (fun z=>z.1) (fuel,0,1,0) ?_ ?_ ?_ ?_
  ·exact hk
  ·exact q4a
  ·exact fx
  ·rintro ⟨m_6,n_2,weight_3,i_4⟩ hk; (try dsimp only at *);have hq:=zdJ hk;clear hk;obtain ⟨m_6',rfl,hk⟩:=hq;generalize hn5:iV f5 m_6'=next5 at hk;rw [←hf5] at hk; (try dsimp only at hk);refine T.seq (T.seq ?_);refine dk (ι:=Unit) (fun z=>[(0,vb),(4, .int .i64 n_2),(5, .int .i64 weight_3),(6, .int .i64 i_4),(14, .bool ((decide (i_4<(b.length:Int)))&&(decide (i_4<8))))]) (fun z=>[.fr F1]) (fun z=>True) ?_ ?_
   ·refine gp ?_;refine cR (dA rfl rfl hb (List.length_map _)) ?_;have hm9:b.length≤9223372036854775807:=(List.length_map _)▸hb.max;refine ez ?_;refine dO rfl rfl rfl (fun h7=>?_) (fun h7=>?_)
    ·have p7:=of_decide_eq_true h7;refine kd ?_;exact c4 () trivial (.c (.c (.c (.c (.b (mH h7) .nil))))) (List.Sublist.refl _)
    ·have p7:=of_decide_eq_false h7;refine kd ?_;exact c4 () trivial (.c (.c (.c (.c (.b (mE h7).symm .nil))))) (List.Sublist.refl _)
   ·rintro _ _;have hm9:b.length≤9223372036854775807:=(List.length_map _)▸hb.max;refine T.cond rfl (fun h8=>?_) (fun h8=>?_)
    ·have p8:=h8; (try simp only [c7] at p8);replace hk:=dC hk h8;refine kq ?_;have hq:(0≤i_4∧i_4<(b.length:Int))∧_:=eW hk;clear hk;obtain ⟨g20,hk⟩:=hq; (try dsimp only at hk);refine lU ?_;refine q3n ?_;refine cR (Yv.remK (a:=(cQ b i_4.toNat)) (b:=128) rfl rfl rfl a6) ?_;refine cR (iY (z:=(remK .u8 (cQ b i_4.toNat) 128))) ?_;refine TL.run 4 rfl ?_;refine iM ?_;refine ez ?_;refine q3n ?_;refine dL ?_;refine T.cond rfl (fun h9=>?_) (fun h9=>?_)
     ·have p9:=of_decide_eq_true h9;replace hk:=dC hk h9;refine q3I ?_;refine kj ?_;refine q3z ?_;refine cZ rfl (Yv.cH (l:=(i_4+1).toNat) rfl rfl rfl hb (List.length_map _) a5 a5) ?_;have hs36_:SlC F1.toFrz (kR vb ((i_4+1).toNat) b.length 1) 1 ((b.drop ((i_4+1).toNat)).map (eK .u8)):=hb.slicel (l:=(i_4+1).toNat) a5;haveI:=hs36_.oneC;refine mA ?_;refine K.seq (T.ret (cV (ff (cV (cV (ff (cV ?_)))))));obtain rfl:=Option.some.inj hk;exact eC rfl rfl rfl (fun w' hw=>⟨(kR vb ((i_4+1).toNat) b.length 1),F1.toFrz,hs36_,rfl,eD hw (i:=0) rfl hS0 (Frz.Le.refl _)⟩)
     ·have p9:=of_decide_eq_false h9;replace hk:=dD hk h9;refine T.skip (K.seq (T.region ?_));refine fF ?_;refine q18 ?_;rw [←hn5] at hk;exact K.next (m_6',wI (n_2+(wI ((wI (remK .u8 (cQ b i_4.toNat) 128)) *weight_3))),wI (128*weight_3),(i_4+1)) hk a9 (.c (.c (.c (.c .nil)))) (List.Sublist.refl _)
    ·replace hk:=dD hk h8;refine fi ?_;exact lD
 ·rintro _ hk;rw [←hk1] at hk; (try dsimp only at hk);refine iD ?_;refine fN ?_;obtain rfl:=Option.some.inj hk;exact eC rfl rfl rfl (fun w' hw=>⟨(.slice none 0 0),F1.toFrz,(SlC.nil _ 1),rfl,eD hw (i:=0) rfl hS0 (Frz.Le.refl _)⟩)
def za0 (fuel:Nat)(b:List Int)(many:Int):Option (Option (List Int)×List Int):=
 dN (fun (s4:List Int×List Int)=>
  some (some s4.2,s4.1))
 (fun k4=>
  dU (many≤9223372036854775807) <|
  di (fun (i_9:Nat) (next8:(List Int×List Int)→Option (Option (List Int)×List Int)) (s8:List Int×List Int)=>
   (jb fuel s8.1).bind fun r17=>
   (bif decide (r17.1<0) then
    some (none,[])
    else
    dU (dd (s8.2++[r17.1]).length 8) <|
    next8 (r17.2,(s8.2++[r17.1]))))
  (fun (s8:List Int×List Int)=>
   k4 (s8.1,s8.2)) (many.toNat - 0) 0 (b,([]:List Int)))
theorem zcr (F0:Frz)(w:World)(hF0:F0.At w)(b:List Int)(vb:Value)(hb:SlC F0 vb 1 (b.map (eK .u8)))(many:Int)(fuel:Nat)(r:Option (List Int)×List Int)(hr:za0 fuel b many=some r):Calls Tryz.prog 67 #[vb, .int .i64 many] w fun e w'=>((r.1).isSome=true→∃(y:Value×Value) (G:Frz),(SlC G y.1 1 (r.2.map (eK .u8))∧SlC G y.2 1 ((r.1.getD default).map eI)∧zhi y.2)∧e= .returned (.tuple #[y.2,y.1])∧FxM F0 w (dj []) G [] w')∧((r.1).isSome=false→∃(y:Value) (G:Frz),(SlC G y 1 (r.2.map (eK .u8)))∧e= .returned (.tuple #[.slice none 0 0,y])∧FxM F0 w (dj []) G [] w'):=by
 have hk:=hr;unfold za0 at hk;haveI:=hb.oneC;obtain ⟨S0,F1,rfl,hS0,hp0⟩:=fE hF0;rw [zet];refine dy Tryz.func67 rfl rfl rfl hp0 ?_;refine iD ?_;refine dR ?_;refine cX (Ew.bc rfl) ?_;rintro _ _ ⟨g9,rfl,rfl⟩;refine i2 ?_;refine dL ?_;have hq:=eN hk;clear hk;obtain ⟨k4,hk4,hk⟩:=hq; (try dsimp only at hk);refine dk (ι:=List Int×Value×List Int×Value×FzB w (fun _=>False) S0) (fun z=>[(0,z.2.1),(6,z.2.2.2.1)]) (fun z=>[.sl z.2.2.2.1 3 1 z.2.2.1.length (z.2.2.1.flatMap eI), .fr z.2.2.2.2]) (fun z=>k4 (z.1,z.2.2.1)=some r∧SlC z.2.2.2.2.toFrz z.2.1 1 (z.1.map (eK .u8))∧OneC z.2.2.2.1∧zhi z.2.2.2.1∧F1.toFrz.Le z.2.2.2.2.toFrz) ?_ ?_
 ·have hq:(many≤9223372036854775807)∧_:=eW hk;clear hk;obtain ⟨gl8,hk⟩:=hq; (try dsimp only at hk);have hq:=fS hk;clear hk;obtain ⟨f8,kk8,hf8,hkk8,hk⟩:=hq;refine fJ ?_;refine T.loop (ι:=Nat×List Int×Value×List Int×Value×FzB w (fun _=>False) S0) (fun z=>[(0,z.2.2.1),(1, .int .i64 many),(6,z.2.2.2.2.1),(7, .int .i64 (z.1:Int))]) (fun z=>[.sl z.2.2.2.2.1 3 1 z.2.2.2.1.length (z.2.2.2.1.flatMap eI), .fr z.2.2.2.2.2]) (fun z=>di f8 kk8 (many.toNat - z.1) z.1 (z.2.1,z.2.2.2.1)=some r∧SlC z.2.2.2.2.2.toFrz z.2.2.1 1 (z.2.1.map (eK .u8))∧OneC z.2.2.2.2.1∧zhi z.2.2.2.2.1∧F1.toFrz.Le z.2.2.2.2.2.toFrz) (fun z=>many.toNat - z.1) (0,b,vb,([]:List Int),(.slice (some ⟨g9,0,none⟩) 0 0),F1) ?_ ?_ ?_ ?_
  ·exact ⟨hk,hb,inferInstance,⟨_,_,_,rfl⟩,(Frz.Le.refl _)⟩
  ·exact q4a
  ·exact fx
  ·rintro ⟨i_9,b_5,vb_5,l_6,vl_6,F3⟩ ⟨hk,hb_5,ol_6,nl_7,le1_3⟩; (try dsimp only at *);haveI:=hb_5.oneC;refine q3q ?_;refine T.cond rfl (fun h10=>?_) (fun h10=>?_)
   ·have p10:=of_decide_eq_true h10;rw [fT a5] at hk;generalize hn8:di f8 kk8 (many.toNat - (i_9+1)) (i_9+1)=next8 at hk;rw [←hf8] at hk; (try dsimp only at hk);refine fH ?_;refine ki ?_;have hq:=dV hk;clear hk;obtain ⟨r17,hr17,hk⟩:=hq; (try dsimp only at hk);refine fk ?_;refine cX (eg 1 rfl rfl rfl rfl (fun w hw hF=>zcS _ w hF b_5 vb_5 hb_5 fuel r17 hr17)) ?_;rintro _ _ ⟨v17_1_0,F4,le3_4,hf17_1_0,rfl,rfl⟩;have le1_4:=le1_3.trans le3_4;haveI:=hf17_1_0.oneC;refine q1l ?_;refine T.cond rfl (fun h11=>?_) (fun h11=>?_)
    ·have p11:=of_decide_eq_true h11;replace hk:=dC hk h11;refine iD ?_;refine ml ?_;obtain rfl:=Option.some.inj hk;exact eC rfl rfl rfl (fun w' hw=>⟨fun h=>(by cases h),fun _=>⟨(.slice none 0 0),F4.toFrz,(SlC.nil _ 1),rfl,dc (hw.pick (idx:=[1]) rfl a6) hS0 le1_4⟩⟩)
    ·have p11:=of_decide_eq_false h11;replace hk:=dD hk h11;refine kP ?_;have hq:(dd (l_6++[r17.1]).length 8)∧_:=eW hk;clear hk;obtain ⟨g25,hk⟩:=hq; (try dsimp only at hk);refine gp ?_;refine jj ?_;rintro _ _ ⟨g24,rfl,rfl⟩;refine cX (fj 1 0 rfl rfl rfl rfl rfl rfl (j2 (ys:=[r17.1])) (mn (enc:=eI) (xs:=l_6) (ys:=[r17.1])) g25 a6) ?_;rintro v25 _ ⟨hv25,rfl⟩;refine dp ?_;refine q18 ?_;refine K.nilI 1 (l:=(l_6++[r17.1])) rfl a8 a8 ?_;intro nz12;rw [←hn8] at hk;refine K.pick [1,2] rfl a6 ?_;exact K.next ((i_9+1),r17.2,v17_1_0,(l_6++[r17.1]),v25,F4) ⟨hk,hf17_1_0,inferInstance,(nz12.nn a8),le1_4⟩ a9 (.c (.c (.c (.c .nil)))) (List.Sublist.refl _)
   ·have p10:=of_decide_eq_false h10;rw [fR a5,←hkk8] at hk; (try dsimp only at hk);refine fi ?_;exact c4 (b_5,vb_5,l_6,vl_6,F3) ⟨hk,hb_5,inferInstance,nl_7,le1_3⟩ (.c (.c .nil)) (List.Sublist.refl _)
 ·rintro ⟨b_1,vb_1,l_2,vl_2,F2⟩ ⟨hk,hb_1,ol_2,nl_3,le1_2⟩; (try dsimp only at *);rw [←hk4] at hk; (try dsimp only at hk);haveI:=hb_1.oneC;refine dm ?_;refine TL.run 4 rfl ?_;refine fN ?_;refine q28 ?_;rintro F5 ⟨le2_5,hz5⟩;refine gY ?_;have le1_5:=le1_2.trans le2_5;have hf5:=hz5.toF rfl (fun _=>rfl);haveI:=hf5.oneC;obtain rfl:=Option.some.inj hk;exact eC rfl rfl rfl (fun w' hw=>⟨fun _=>⟨(vb_1,vl_2),F5.toFrz,⟨(SlC.mono hb_1 le2_5),hf5,nl_3⟩,rfl,dc (hw.pick (idx:=[0]) rfl a6) hS0 le1_5⟩,fun h=>(by cases h)⟩)
def zbK (fuel:Nat)(x_:GProof):Option (List Int):=
 (mK fuel (x_.Stations.length:Int)).bind fun r10=>
 dN (fun (b_1:List Int)=>
  (mK fuel (x_.Lemmas.length:Int)).bind fun r30=>
  dU (dd (b_1++r30).length 1) <|
  dN (fun (b_7:List Int)=>
   some b_7)
  (fun k8=>
   di (fun (i_11:Nat) (next10:List Int→Option (List Int)) (b_9:List Int)=>
    (mK fuel ((cQ x_.Lemmas i_11).length:Int)).bind fun r46=>
    dU (dd (b_9++r46).length 1) <|
    di (fun (k_15:Nat) (next14:List Int→Option (List Int)) (b_13:List Int)=>
     (mK fuel ((cQ (cQ x_.Lemmas i_11) k_15).Station)).bind fun r68=>
     dU (dd (b_13++r68).length 1) <|
     (mK fuel ((cQ (cQ x_.Lemmas i_11) k_15).Channel)).bind fun r79=>
     dU (dd ((b_13++r68)++r79).length 1) <|
     next14 ((b_13++r68)++r79))
    (fun (b_13:List Int)=>
     next10 b_13) (((cQ x_.Lemmas i_11).length) - 0) 0 (b_9++r46))
   (fun (b_9:List Int)=>
    k8 b_9) (x_.Lemmas.length - 0) 0 (b_1++r30)))
 (fun k2=>
  di (fun (i_5:Nat) (next4:List Int→Option (List Int)) (b_3:List Int)=>
   (mK fuel (cQ x_.Stations i_5)).bind fun r24=>
   dU (dd (b_3++r24).length 1) <|
   next4 (b_3++r24))
  (fun (b_3:List Int)=>
   k2 b_3) (x_.Stations.length - 0) 0 r10)
theorem zeL (F0:Frz)(w:World)(hF0:F0.At w)(x_:GProof)(vx__0:Value)(hx__0:SlC F0 vx__0 1 (x_.Stations.map eI))(vx__1:Value)(cx__1:List (List Value))(hx__1:SlD cP F0 vx__1 1 cx__1 x_.Lemmas)(fuel:Nat)(r:List Int)(hr:zbK fuel x_=some r):Calls Tryz.prog 31 #[.agg [vx__0,vx__1].toArray] w fun e w'=>∃(y:Value) (G:Frz),(SlC G y 1 (r.map (eK .u8)))∧e= .returned (y)∧Fx F0 w G w':=by
 have hk:=hr;unfold zbK at hk;haveI:=hx__0.oneC;haveI:=hx__1.1.oneC;obtain ⟨S0,F1,rfl,hS0,hp0⟩:=fE hF0;refine dy Tryz.func31 rfl rfl rfl hp0 ?_;refine kg ?_;rintro _ _ ⟨g1,rfl,rfl⟩;refine ki ?_;have hq:=dV hk;clear hk;obtain ⟨r10,hr10,hk⟩:=hq; (try dsimp only at hk);refine q3S ?_;refine q3P ?_;have hm9:x_.Stations.length≤9223372036854775807:=(List.length_map _)▸hx__0.max;refine cX (dI [1,0] [] [.row g1 33 [vx__0,vx__1]] rfl rfl rfl rfl a6 (fun w hw hw2 hF=>zcp _ w hF (x_.Stations.length:Int) fuel r10 hr10)) ?_;rintro v10_0_0 _ ⟨_, -,rfl,rfl⟩;refine q23 ?_;intro iv10_0_0 hmv10_0_0;refine i2 ?_;refine dL ?_;have hq:=eN hk;clear hk;obtain ⟨k2,hk2,hk⟩:=hq; (try dsimp only at hk);refine dk (ι:=List Int×Value×FzB w (fun _=>False) S0) (fun z=>[(1, .pointer (some ⟨g1,0,none⟩)),(3,z.2.1)]) (fun z=>[.sl z.2.1 5 1 z.1.length (z.1.flatMap (eK .u8)), .row g1 33 [vx__0,vx__1], .fr z.2.2]) (fun z=>k2 z.1=some r∧OneC z.2.1∧F1.toFrz.Le z.2.2.toFrz) ?_ ?_
 ·have hq:=fS hk;clear hk;obtain ⟨f4,kk4,hf4,hkk4,hk⟩:=hq;refine fJ ?_;refine T.pick [0,2,1] rfl a6 ?_;refine T.loop (ι:=Nat×List Int×Value×FzB w (fun _=>False) S0) (fun z=>[(1, .pointer (some ⟨g1,0,none⟩)),(3,z.2.2.1),(4, .int .i64 (z.1:Int))]) (fun z=>[.sl z.2.2.1 5 1 z.2.1.length (z.2.1.flatMap (eK .u8)), .row g1 33 [vx__0,vx__1], .fr z.2.2.2]) (fun z=>di f4 kk4 (x_.Stations.length - z.1) z.1 z.2.1=some r∧OneC z.2.2.1∧F1.toFrz.Le z.2.2.2.toFrz) (fun z=>x_.Stations.length - z.1) (0,r10,v10_0_0,F1) ?_ ?_ ?_ ?_
  ·exact ⟨hk,inferInstance,(Frz.Le.refl _)⟩
  ·exact q37
  ·exact fx
  ·rintro ⟨i_5,b_3,vb_3,F3⟩ ⟨hk,ob_3,le1_3⟩; (try dsimp only at *);refine q3L ?_;refine j5 ?_;refine cR (dA rfl rfl (SlC.mono hx__0 le1_3) (List.length_map _)) ?_;refine dL ?_;refine T.cond rfl (fun h6=>?_) (fun h6=>?_)
   ·have p6:=of_decide_eq_true h6;rw [fT a5] at hk;generalize hn4:di f4 kk4 (x_.Stations.length - (i_5+1)) (i_5+1)=next4 at hk;rw [←hf4] at hk; (try dsimp only at hk);refine T.skip (K.seq (T.seq (T.block ?_)));have hq:=dV hk;clear hk;obtain ⟨r24,hr24,hk⟩:=hq;have hq:(dd (b_3++r24).length 1)∧_:=eW hk;clear hk;obtain ⟨g25,hk⟩:=hq; (try dsimp only at hk);refine fk ?_;refine j5 ?_;refine dp ?_;refine cR (dH (i:=i_5) rfl rfl rfl (SlC.mono hx__0 le1_3) (List.length_map _) rfl a5) ?_;refine cR (ft 2 (i:=i_5) (j:=0) rfl rfl rfl (SlC.mono hx__0 le1_3) a5) ?_;refine cX (dI [2,0,1] [] [.sl vb_3 5 1 b_3.length (b_3.flatMap (eK .u8)), .row g1 33 [vx__0,vx__1]] rfl rfl rfl rfl a6 (fun w hw hw2 hF=>zcp _ w hF (cQ x_.Stations i_5) fuel r24 hr24)) ?_;rintro v24_0_0 _ ⟨_, -,rfl,rfl⟩;refine q23 ?_;intro iv24_0_0 hmv24_0_0;refine q32 ?_;rintro F4 ⟨le3_4,hz4⟩;refine gY ?_;have le1_4:=le1_3.trans le3_4;have hf4:=hz4.toF rfl (fun _=>rfl);haveI:=hf4.oneC;refine cX (ik 1 0 (zd3 (fun _=>inferInstance)) rfl rfl rfl rfl rfl hf4 (zeF (xs:=b_3)) (zdI (xs:=b_3)) g25 a6) ?_;rintro v25 _ ⟨hv25,rfl⟩;refine dp ?_;refine q18 ?_;rw [←hn4] at hk;refine K.pick [1,2,0] rfl a6 ?_;exact K.next ((i_5+1),(b_3++r24),v25,F4) ⟨hk,inferInstance,le1_4⟩ a9 (.c (.c (.c .nil))) (List.Sublist.refl _)
   ·have p6:=of_decide_eq_false h6;rw [fR a5,←hkk4] at hk; (try dsimp only at hk);refine fi ?_;exact c4 (b_3,vb_3,F3) ⟨hk,inferInstance,le1_3⟩ (.c (.c .nil)) (List.Sublist.refl _)
 ·rintro ⟨b_1,vb_1,F2⟩ ⟨hk,ob_1,le1_2⟩; (try dsimp only at *);rw [←hk2] at hk; (try dsimp only at hk);refine T.seq ?_;have hq:=dV hk;clear hk;obtain ⟨r30,hr30,hk⟩:=hq;have hq:(dd (b_1++r30).length 1)∧_:=eW hk;clear hk;obtain ⟨g31,hk⟩:=hq; (try dsimp only at hk);refine fk ?_;refine j5 ?_;refine q0V ?_;have hm29:x_.Lemmas.length≤9223372036854775807:=(SlD.mono (rep:=cP) (fun _ _ _ _=>R_List_GChoice.mono) hx__1 le1_2).2.1▸(SlD.mono (rep:=cP) (fun _ _ _ _=>R_List_GChoice.mono) hx__1 le1_2).1.max;refine cX (dI [2,0,1] [] [.sl vb_1 5 1 b_1.length (b_1.flatMap (eK .u8)), .row g1 33 [vx__0,vx__1]] rfl rfl rfl rfl a6 (fun w hw hw2 hF=>zcp _ w hF (x_.Lemmas.length:Int) fuel r30 hr30)) ?_;rintro v30_0_0 _ ⟨_, -,rfl,rfl⟩;refine q23 ?_;intro iv30_0_0 hmv30_0_0;refine q32 ?_;rintro F5 ⟨le2_5,hz5⟩;refine gY ?_;have le1_5:=le1_2.trans le2_5;have hf5:=hz5.toF rfl (fun _=>rfl);haveI:=hf5.oneC;refine cX (ik 1 0 (zd3 (fun _=>inferInstance)) rfl rfl rfl rfl rfl hf5 (zeF (xs:=b_1)) (zdI (xs:=b_1)) g31 a6) ?_;rintro v31 _ ⟨hv31,rfl⟩;refine i2 ?_;refine dL ?_;have hq:=eN hk;clear hk;obtain ⟨k8,hk8,hk⟩:=hq; (try dsimp only at hk);refine dk (ι:=List Int×Value×FzB w (fun _=>False) S0) (fun z=>[(3,z.2.1)]) (fun z=>[.sl z.2.1 5 1 z.1.length (z.1.flatMap (eK .u8)), .fr z.2.2]) (fun z=>k8 z.1=some r∧OneC z.2.1∧F5.toFrz.Le z.2.2.toFrz) ?_ ?_
  ·have hq:=fS hk;clear hk;obtain ⟨f10,kk10,hf10,hkk10,hk⟩:=hq;refine fJ ?_;refine T.pick [1,2,0] rfl a6 ?_;refine T.loop (ι:=Nat×List Int×Value×FzB w (fun _=>False) S0) (fun z=>[(1, .pointer (some ⟨g1,0,none⟩)),(3,z.2.2.1),(5, .int .i64 (z.1:Int))]) (fun z=>[.sl z.2.2.1 5 1 z.2.1.length (z.2.1.flatMap (eK .u8)), .row g1 33 [vx__0,vx__1], .fr z.2.2.2]) (fun z=>di f10 kk10 (x_.Lemmas.length - z.1) z.1 z.2.1=some r∧OneC z.2.2.1∧F5.toFrz.Le z.2.2.2.toFrz) (fun z=>x_.Lemmas.length - z.1) (0,(b_1++r30),v31,F5) ?_ ?_ ?_ ?_
   ·exact ⟨hk,inferInstance,(Frz.Le.refl _)⟩
   ·exact q37
   ·exact fx
   ·rintro ⟨i_11,b_9,vb_9,F7⟩ ⟨hk,ob_9,le5_7⟩; (try dsimp only at *);have le1_7:=le1_5.trans le5_7;refine q3L ?_;refine j5 ?_;refine cR (dA rfl rfl (SlD.mono (rep:=cP) (fun _ _ _ _=>R_List_GChoice.mono) hx__1 le1_7).1 (SlD.mono (rep:=cP) (fun _ _ _ _=>R_List_GChoice.mono) hx__1 le1_7).2.1) ?_;refine dL ?_;refine T.cond rfl (fun h12=>?_) (fun h12=>?_)
    ·have p12:=of_decide_eq_true h12;rw [fT a5] at hk;generalize hn10:di f10 kk10 (x_.Lemmas.length - (i_11+1)) (i_11+1)=next10 at hk;rw [←hf10] at hk; (try dsimp only at hk);refine kq ?_;have hq:=dV hk;clear hk;obtain ⟨r46,hr46,hk⟩:=hq;have hq:(dd (b_9++r46).length 1)∧_:=eW hk;clear hk;obtain ⟨g47,hk⟩:=hq; (try dsimp only at hk);refine fk ?_;refine j5 ?_;refine dp ?_;refine cR (dH (i:=i_11) rfl rfl rfl (SlD.mono (rep:=cP) (fun _ _ _ _=>R_List_GChoice.mono) hx__1 le1_7).1 (SlD.mono (rep:=cP) (fun _ _ _ _=>R_List_GChoice.mono) hx__1 le1_7).2.1 rfl a5) ?_;refine cR (eo 2 (i:=i_11) (j:=0) rfl rfl rfl (SlD.mono (rep:=cP) (fun _ _ _ _=>R_List_GChoice.mono) hx__1 le1_7).1 (SlD.mono (rep:=cP) (fun _ _ _ _=>R_List_GChoice.mono) hx__1 le1_7).2.1 a5 rfl (R_List_GChoice.c0 ((SlD.mono (rep:=cP) (fun _ _ _ _=>R_List_GChoice.mono) hx__1 le1_7).2.2 i_11 a5)).1) ?_;have hd44_0:=(R_List_GChoice.c0 ((SlD.mono (rep:=cP) (fun _ _ _ _=>R_List_GChoice.mono) hx__1 le1_7).2.2 i_11 a5)).2;haveI:=hd44_0.oneC;refine cR (dA rfl rfl hd44_0 (List.length_map _)) ?_;have hm45:(cQ x_.Lemmas i_11).length≤9223372036854775807:=(List.length_map _)▸hd44_0.max;refine cX (dI [2,0,1] [] [.sl vb_9 5 1 b_9.length (b_9.flatMap (eK .u8)), .row g1 33 [vx__0,vx__1]] rfl rfl rfl rfl a6 (fun w hw hw2 hF=>zcp _ w hF ((cQ x_.Lemmas i_11).length:Int) fuel r46 hr46)) ?_;rintro v46_0_0 _ ⟨_, -,rfl,rfl⟩;refine q23 ?_;intro iv46_0_0 hmv46_0_0;refine q32 ?_;rintro F8 ⟨le7_8,hz8⟩;refine gY ?_;have le1_8:=le1_7.trans le7_8;have le5_8:=le5_7.trans le7_8;have hf8:=hz8.toF rfl (fun _=>rfl);haveI:=hf8.oneC;refine cX (ik 1 0 (zd3 (fun _=>inferInstance)) rfl rfl rfl rfl rfl hf8 (zeF (xs:=b_9)) (zdI (xs:=b_9)) g47 a6) ?_;rintro v47 _ ⟨hv47,rfl⟩;refine gz ?_;refine dL ?_;have hq:=fS hk;clear hk;obtain ⟨f14,kk14,hf14,hkk14,hk⟩:=hq;refine fJ ?_;refine T.pick [1,2,0] rfl a6 ?_;refine T.loop (ι:=Nat×List Int×Value×FzB w (fun _=>False) S0) (fun z=>[(1, .pointer (some ⟨g1,0,none⟩)),(3,z.2.2.1),(5, .int .i64 (i_11:Int)),(6, .int .i64 (z.1:Int))]) (fun z=>[.sl z.2.2.1 5 1 z.2.1.length (z.2.1.flatMap (eK .u8)), .row g1 33 [vx__0,vx__1], .fr z.2.2.2]) (fun z=>di f14 kk14 (((cQ x_.Lemmas i_11).length) - z.1) z.1 z.2.1=some r∧OneC z.2.2.1∧F8.toFrz.Le z.2.2.2.toFrz) (fun z=>((cQ x_.Lemmas i_11).length) - z.1) (0,(b_9++r46),v47,F8) ?_ ?_ ?_ ?_
     ·exact ⟨hk,inferInstance,(Frz.Le.refl _)⟩
     ·exact q4a
     ·exact fx
     ·rintro ⟨k_15,b_13,vb_13,F9⟩ ⟨hk,ob_13,le8_9⟩; (try dsimp only at *);have le1_9:=le1_8.trans le8_9;have le5_9:=le5_8.trans le8_9;refine q3L ?_;refine j5 ?_;refine dp ?_;refine cR (dH (i:=i_11) rfl rfl rfl (SlD.mono (rep:=cP) (fun _ _ _ _=>R_List_GChoice.mono) hx__1 le1_9).1 (SlD.mono (rep:=cP) (fun _ _ _ _=>R_List_GChoice.mono) hx__1 le1_9).2.1 rfl a5) ?_;refine cR (eo 2 (i:=i_11) (j:=0) rfl rfl rfl (SlD.mono (rep:=cP) (fun _ _ _ _=>R_List_GChoice.mono) hx__1 le1_9).1 (SlD.mono (rep:=cP) (fun _ _ _ _=>R_List_GChoice.mono) hx__1 le1_9).2.1 a5 rfl (R_List_GChoice.c0 ((SlD.mono (rep:=cP) (fun _ _ _ _=>R_List_GChoice.mono) hx__1 le1_9).2.2 i_11 a5)).1) ?_;have hd53_0:=(R_List_GChoice.c0 ((SlD.mono (rep:=cP) (fun _ _ _ _=>R_List_GChoice.mono) hx__1 le1_9).2.2 i_11 a5)).2;haveI:=hd53_0.oneC;refine cR (dA rfl rfl hd53_0 (List.length_map _)) ?_;refine dL ?_;refine T.cond rfl (fun h16=>?_) (fun h16=>?_)
      ·have p16:=of_decide_eq_true h16;rw [fT a5] at hk;generalize hn14:di f14 kk14 (((cQ x_.Lemmas i_11).length) - (k_15+1)) (k_15+1)=next14 at hk;rw [←hf14] at hk; (try dsimp only at hk);refine T.skip (K.seq (T.seq (T.block ?_)));have hq:=dV hk;clear hk;obtain ⟨r68,hr68,hk⟩:=hq;have hq:(dd (b_13++r68).length 1)∧_:=eW hk;clear hk;obtain ⟨g69,hk⟩:=hq;have hq:=dV hk;clear hk;obtain ⟨r79,hr79,hk⟩:=hq;have hq:(dd ((b_13++r68)++r79).length 1)∧_:=eW hk;clear hk;obtain ⟨g80,hk⟩:=hq; (try dsimp only at hk);refine d8 (sN 0 10 (sN 12 9 (.eff 10 (.eff 11 (.eff 21 (.eff 22 (.still 23 .done))))))) [.row g1 33 [vx__0,vx__1], .fr F9] a7 Sx ?_;refine gj ?_;refine q0R ?_;refine cZ rfl (ft 1 (i:=k_15) (j:=0) rfl rfl rfl hd53_0 a5) ?_;refine q0R ?_;refine cZ rfl (ft 1 (i:=k_15) (j:=1) rfl rfl rfl hd53_0 a5) ?_;refine dQ ?_;refine dx rfl (Wt.none) rfl rfl (dI [2,0,1] [] [.sl vb_13 5 1 b_13.length (b_13.flatMap (eK .u8)), .row g1 33 [vx__0,vx__1]] rfl rfl rfl rfl a6 (fun w hw hw2 hF=>zcp _ w hF ((cQ (cQ x_.Lemmas i_11) k_15).Station) fuel r68 hr68)) ?_;rintro v68_0_0 _ ⟨_, -,rfl,rfl⟩;refine eS ?_;refine ⟨(fun w hw=>hw.pick (idx:=[3,1]) rfl a6),?_⟩;refine kr 0 rfl ?_;intro iv68_0_0 hmv68_0_0;refine lr (fun w hw=>hw.freezeS (i:=1) (j:=0) a6 rfl rfl) ?_;rintro F10 ⟨le9_10,hz10⟩;refine gY ?_;have le8_10:=le8_9.trans le9_10;have hf10:=hz10.toF rfl (fun _=>rfl);haveI:=hf10.oneC;refine dQ ?_;refine dx rfl (Wt.none) rfl rfl (ik 1 0 (zd3 (fun _=>inferInstance)) rfl rfl rfl rfl rfl hf10 (zeF (xs:=b_13)) (zdI (xs:=b_13)) g69 a6) ?_;rintro v69 _ ⟨hv69,rfl⟩;refine ⟨(fun w hw=>(hw.frLe (i:=0) rfl le9_10).pick (idx:=[2,0]) rfl a6),?_⟩;refine dQ ?_;refine dx rfl (Wt.none) rfl rfl (dI [0,1,2] [] [.sl v69 5 1 (b_13++r68).length ((b_13++r68).flatMap (eK .u8)), .row g1 33 [vx__0,vx__1]] rfl rfl rfl rfl a6 (fun w hw hw2 hF=>zcp _ w hF ((cQ (cQ x_.Lemmas i_11) k_15).Channel) fuel r79 hr79)) ?_;rintro v79_0_0 _ ⟨_, -,rfl,rfl⟩;refine eS ?_;refine ⟨(fun w hw=>(hw.frLe (i:=1) rfl le9_10).pick (idx:=[3,1]) rfl a6),?_⟩;refine kr 0 rfl ?_;intro iv79_0_0 hmv79_0_0;refine lr (fun w hw=>hw.freezeS (i:=1) (j:=0) a6 rfl rfl) ?_;rintro F11 ⟨le10_11,hz11⟩;refine gY ?_;have le8_11:=le8_10.trans le10_11;have le9_11:=le9_10.trans le10_11;have hf11:=hz11.toF rfl (fun _=>rfl);haveI:=hf11.oneC;refine dQ ?_;refine dx rfl (Wt.none) rfl rfl (ik 1 0 (zd3 (fun _=>inferInstance)) rfl rfl rfl rfl rfl hf11 (zeF (xs:=(b_13++r68))) (zdI (xs:=(b_13++r68))) g80 a6) ?_;rintro v80 _ ⟨hv80,rfl⟩;refine ⟨(fun w hw=>(hw.frLe (i:=0) rfl le9_11).pick (idx:=[2,0]) rfl a6),?_⟩;refine q0N ?_;refine fI (K.seq (T.region ?_));refine dp ?_;refine ka ?_;rw [←hn14] at hk;refine K.pick [1,2,0] rfl a6 ?_;exact K.next ((k_15+1),((b_13++r68)++r79),v80,F11) ⟨hk,inferInstance,le8_11⟩ a9 (.c (.c (.c (.c .nil)))) (List.Sublist.refl _)
      ·have p16:=of_decide_eq_false h16;rw [fR a5,←hkk14] at hk; (try dsimp only at hk);refine q2N ?_;refine dp ?_;refine ka ?_;rw [←hn10] at hk;exact K.next ((i_11+1),b_13,vb_13,F9) ⟨hk,inferInstance,le5_9⟩ a9 (.c (.c (.c .nil))) (List.Sublist.refl _)
    ·have p12:=of_decide_eq_false h12;rw [fR a5,←hkk10] at hk; (try dsimp only at hk);refine fi ?_;refine K.pick [0,2] rfl a6 ?_;exact c4 (b_9,vb_9,F7) ⟨hk,inferInstance,le5_7⟩ (.c .nil) (List.Sublist.refl _)
  ·rintro ⟨b_7,vb_7,F6⟩ ⟨hk,ob_7,le5_6⟩; (try dsimp only at *);rw [←hk8] at hk; (try dsimp only at hk);have le1_6:=le1_5.trans le5_6;refine iD ?_;refine fN ?_;refine q28 ?_;rintro F12 ⟨le6_12,hz12⟩;refine gY ?_;have le1_12:=le1_6.trans le6_12;have hf12:=hz12.toF rfl (fun _=>rfl);haveI:=hf12.oneC;obtain rfl:=Option.some.inj hk;exact c8 rfl rfl (fun w' hw=>⟨vb_7,F12.toFrz,hf12,rfl,eD hw (i:=0) rfl hS0 le1_12⟩)
def zbN (fuel:Nat)(b:List Int):Option (GProof×Int):=
 (bif decide (65536<(b.length:Int)) then
  some ((GProof.mk [] []),5)
  else
  (jb fuel b).bind fun r18=>
  (bif ((decide (r18.1<0))||(decide (512<r18.1))) then
   some ((GProof.mk [] []),6)
   else
   (za0 fuel r18.2 r18.1).bind fun r31=>
   (bif (r31.1).isSome then
    (jb fuel r31.2).bind fun r36=>
    (bif ((decide (r36.1<0))||(decide (4096<r36.1))) then
     some ((GProof.mk [] []),6)
     else
     dN (fun (s12:List Int×List Int×List (List GChoice)×List Int×List (List GChoice))=>
      dN (fun (x_30:Bool)=>
       (bif x_30 then
        some ((GProof.mk [] []),6)
        else
        some ((GProof.mk s12.2.2.2.1 s12.2.2.2.2),0)))
      (fun k31=>
       (bif decide (¬(s12.1.length:Int)=0) then
        k31 true
        else
        (bif !(zbE (GProof.mk s12.2.2.2.1 s12.2.2.2.2)) then
         k31 true
         else
         (zbK fuel (GProof.mk s12.2.2.2.1 s12.2.2.2.2)).bind fun r115=>
         k31 (!((jW r115) == (jW b)))))))
     (fun k12=>
      di (fun (i_19:Nat) (next18:(List Int×List Int×List (List GChoice)×List Int×List (List GChoice))→Option (GProof×Int)) (s18:List Int×List Int×List (List GChoice)×List Int×List (List GChoice))=>
       (jb fuel s18.1).bind fun r59=>
       (bif ((decide (r59.1<0))||(decide (512<r59.1))) then
        some ((GProof.mk [] []),6)
        else
        (za0 fuel r59.2 (2*r59.1)).bind fun r73=>
        (bif (r73.1).isSome then
         dN (fun (g_24:List GChoice)=>
          dU (dd (s18.2.2.2.2++[g_24]).length 24) <|
          next18 (r73.2,s18.2.1,s18.2.2.1,s18.2.2.2.1,(s18.2.2.2.2++[g_24])))
         (fun k25=>
          di (fun (k_28:Nat) (next27:List GChoice→Option (GProof×Int)) (g_26:List GChoice)=>
           dU (0≤(2* (k_28:Int))∧(2* (k_28:Int))<((r73.1.getD default).length:Int)) <|
           dU (0≤((2* (k_28:Int))+1)∧((2* (k_28:Int))+1)<((r73.1.getD default).length:Int)) <|
           dU (dd (g_26++[(GChoice.mk (cQ (r73.1.getD default) ((2* (k_28:Int)).toNat)) (cQ (r73.1.getD default) (((2* (k_28:Int))+1).toNat)))]).length 16) <|
           next27 (g_26++[(GChoice.mk (cQ (r73.1.getD default) ((2* (k_28:Int)).toNat)) (cQ (r73.1.getD default) (((2* (k_28:Int))+1).toNat)))]))
          (fun (g_26:List GChoice)=>
           k25 g_26) (r59.1.toNat - 0) 0 [])
         else
         some ((GProof.mk [] []),6))))
      (fun (s18:List Int×List Int×List (List GChoice)×List Int×List (List GChoice))=>
       k12 (s18.1,s18.2.1,s18.2.2.1,s18.2.2.2.1,s18.2.2.2.2)) (r36.1.toNat - 0) 0 (r36.2,[],[],(r31.1.getD default),[])))
    else
    (jb fuel r31.2).bind fun r36=>
    some ((GProof.mk [] []),6))))
theorem zg1 (F0:Frz)(w:World)(hF0:F0.At w)(b:List Int)(vb:Value)(hb:SlC F0 vb 1 (b.map (eK .u8)))(fuel:Nat)(r:GProof×Int)(hr:zbN fuel b=some r):Calls Tryz.prog 29 #[vb] w fun e w'=>∃(y:Value×Value×List (List Value)) (G:Frz),(SlC G y.1 1 (r.1.Stations.map eI)∧SlD cP G y.2.1 1 y.2.2 r.1.Lemmas)∧e= .returned (.tuple #[.agg [y.1,y.2.1].toArray, .int .i64 r.2])∧Fx F0 w G w':=by
 have hk:=hr;unfold zbN at hk;haveI:=hb.oneC;obtain ⟨S0,F1,rfl,hS0,hp0⟩:=fE hF0;refine dy Tryz.func29 rfl rfl rfl hp0 ?_;refine dm ?_;refine gw ?_;rintro _ _ ⟨g2,rfl,rfl⟩;refine i2 ?_;refine q2A ?_;have hm13:b.length≤9223372036854775807:=(List.length_map _)▸hb.max;refine dL ?_;refine T.cond rfl (fun h1=>?_) (fun h1=>?_)
 ·have p1:=of_decide_eq_true h1;replace hk:=dC hk h1;refine q1V ?_;obtain rfl:=Option.some.inj hk;exact q4V
 ·have p1:=of_decide_eq_false h1;replace hk:=dD hk h1;refine iK ?_;have hq:=dV hk;clear hk;obtain ⟨r18,hr18,hk⟩:=hq; (try dsimp only at hk);refine fk ?_;refine cX (eg 1 rfl rfl rfl rfl (fun w hw hF=>zcS _ w hF b vb hb fuel r18 hr18)) ?_;rintro _ _ ⟨v18_1_0,F2,le1_2,hf18_1_0,rfl,rfl⟩;haveI:=hf18_1_0.oneC;refine kb ?_;refine iZ ?_;refine dk (ι:=Unit) (fun z=>[(0,vb),(2, .pointer (some ⟨g2,0,none⟩)),(4, .int .i64 r18.1),(5,v18_1_0),(26, .bool ((decide (r18.1<0))||(decide (512<r18.1))))]) (fun z=>[.row g2 33 [(.slice none 0 0),(.slice none 0 0)], .fr F2]) (fun z=>True) ?_ ?_
  ·refine lU ?_;refine dO rfl rfl rfl (fun h2=>?_) (fun h2=>?_)
   ·have p2:=of_decide_eq_true h2;refine kd ?_;exact c4 () trivial (.c (.c (.c (.c (.b (jA h2).symm .nil))))) (List.Sublist.refl _)
   ·have p2:=of_decide_eq_false h2;refine kd ?_;exact c4 () trivial (.c (.c (.c (.c (.b (iC h2) .nil))))) (List.Sublist.refl _)
  ·rintro _ _;refine T.cond rfl (fun h3=>?_) (fun h3=>?_)
   ·replace hk:=dC hk h3;refine q1V ?_;obtain rfl:=Option.some.inj hk;exact fO 0 rfl rfl rfl rfl rfl (fun w' hw=>⟨((.slice none 0 0),(.slice none 0 0),[]),F2.toFrz,⟨(SlC.nil _ 1),(SlD.nil _ _ 1)⟩,rfl,eD hw (i:=1) rfl hS0 le1_2⟩)
   ·have p3:=h3; (try simp only [c7] at p3);replace hk:=dD hk h3;refine iK ?_;have hq:=dV hk;clear hk;obtain ⟨r31,hr31,hk⟩:=hq; (try dsimp only at hk);refine iH ((r31.1).isSome) (fun h4=>?_) (fun h4=>?_)
    ·replace hk:=dC hk h4;refine gp ?_;refine cX (ee [1,0] [] [.row g2 33 [(.slice none 0 0),(.slice none 0 0)]] rfl rfl rfl rfl a6 (fun w hw hw2 hF=>(zcr _ w hF r18.2 v18_1_0 hf18_1_0 r18.1 fuel r31 hr31).mono (fun e w' hp=>hp.1 h4))) ?_;rintro _ _ ⟨⟨v31_1_0,v31_n⟩,F3,le2_3,⟨hf31_1_0,hf31_n,nn31_n⟩,rfl,rfl⟩;refine eS ?_; (try dsimp only at hf31_1_0 hf31_n nn31_n);have le1_3:=le1_2.trans le2_3;haveI:=hf31_n.oneC;haveI:=hf31_1_0.oneC;refine kb ?_;refine gU ?_;have hq:=dV hk;clear hk;obtain ⟨r36,hr36,hk⟩:=hq; (try dsimp only at hk);refine fk ?_;refine cX (eg 0 rfl rfl rfl rfl (fun w hw hF=>zcS _ w hF r31.2 v31_1_0 hf31_1_0 fuel r36 hr36)) ?_;rintro _ _ ⟨v36_1_0,F4,le3_4,hf36_1_0,rfl,rfl⟩;have le1_4:=le1_3.trans le3_4;haveI:=hf36_1_0.oneC;refine kb ?_;refine iZ ?_;refine dk (ι:=Unit) (fun z=>[(0,vb),(2, .pointer (some ⟨g2,0,none⟩)),(5,v36_1_0),(6,v31_n),(7, .int .i64 r36.1),(48, .bool ((decide (r36.1<0))||(decide (4096<r36.1))))]) (fun z=>[.row g2 33 [(.slice none 0 0),(.slice none 0 0)], .fr F4]) (fun z=>True) ?_ ?_
     ·refine fk ?_;refine cR (Yv.cp (e:=3) a7 rfl rfl rfl nn31_n) ?_;refine kb ?_;refine dO rfl rfl rfl (fun h5=>?_) (fun h5=>?_)
      ·have p5:=of_decide_eq_true h5;refine kd ?_;refine K.pick [1,0] rfl a6 ?_;exact c4 () trivial (.c (.c (.c (.c (.c (.b (jA h5).symm .nil)))))) (List.Sublist.refl _)
      ·have p5:=of_decide_eq_false h5;refine kd ?_;refine K.pick [1,0] rfl a6 ?_;exact c4 () trivial (.c (.c (.c (.c (.c (.b (iC h5) .nil)))))) (List.Sublist.refl _)
     ·rintro _ _;refine T.cond rfl (fun h6=>?_) (fun h6=>?_)
      ·replace hk:=dC hk h6;refine q1V ?_;obtain rfl:=Option.some.inj hk;exact fO 0 rfl rfl rfl rfl rfl (fun w' hw=>⟨((.slice none 0 0),(.slice none 0 0),[]),F4.toFrz,⟨(SlC.nil _ 1),(SlD.nil _ _ 1)⟩,rfl,eD hw (i:=1) rfl hS0 le1_4⟩)
      ·have p6:=h6; (try simp only [c7] at p6);replace hk:=dD hk h6;refine gW ?_;refine dp ?_;refine jy ?_;refine gw ?_;rintro _ _ ⟨g8,rfl,rfl⟩;refine TL.slNil 50 1 ?_;refine q1U ?_;refine TL.slNil 50 1 ?_;refine iM ?_;refine dL ?_;have hq:=eN hk;clear hk;obtain ⟨k12,hk12,hk⟩:=hq; (try dsimp only at hk);refine dk (ι:=List Int×Value×List Int×Value×List (List GChoice)×Value×List (List Value)×List Int×Value×List (List GChoice)×Value×List (List Value)×FzB w (fun _=>False) S0) (fun z=>[(0,vb),(2, .pointer (some ⟨g2,0,none⟩)),(5,z.2.1),(8, .pointer (some ⟨g8,0,none⟩))]) (fun z=>[.row g2 33 [z.2.2.2.1,z.2.2.2.2.2.1], .sl z.2.2.2.2.2.2.2.2.2.2.1 50 1 z.2.2.2.2.2.2.2.2.2.1.length z.2.2.2.2.2.2.2.2.2.2.2.1.flatten, .row g8 33 [z.2.2.2.2.2.2.2.2.1,z.2.2.2.2.2.2.2.2.2.2.1], .fr z.2.2.2.2.2.2.2.2.2.2.2.2]) (fun z=>k12 (z.1,z.2.2.1,z.2.2.2.2.1,z.2.2.2.2.2.2.2.1,z.2.2.2.2.2.2.2.2.2.1)=some r∧SlC z.2.2.2.2.2.2.2.2.2.2.2.2.toFrz z.2.1 1 (z.1.map (eK .u8))∧SlC z.2.2.2.2.2.2.2.2.2.2.2.2.toFrz z.2.2.2.1 1 (z.2.2.1.map eI)∧SlD cP z.2.2.2.2.2.2.2.2.2.2.2.2.toFrz z.2.2.2.2.2.1 1 z.2.2.2.2.2.2.1 z.2.2.2.2.1∧SlC z.2.2.2.2.2.2.2.2.2.2.2.2.toFrz z.2.2.2.2.2.2.2.2.1 1 (z.2.2.2.2.2.2.2.1.map eI)∧OwnD cP z.2.2.2.2.2.2.2.2.2.2.2.2.toFrz 1 z.2.2.2.2.2.2.2.2.2.2.2.1 z.2.2.2.2.2.2.2.2.2.1∧OneC z.2.2.2.2.2.2.2.2.2.2.1∧F4.toFrz.Le z.2.2.2.2.2.2.2.2.2.2.2.2.toFrz) ?_ ?_
       ·have hq:=fS hk;clear hk;obtain ⟨f18,kk18,hf18,hkk18,hk⟩:=hq;refine fJ ?_;refine T.pick [3,0,2,4] rfl a6 ?_;refine T.loop (ι:=Nat×List Int×Value×List Int×Value×List (List GChoice)×Value×List (List Value)×List Int×Value×List (List GChoice)×Value×List (List Value)×FzB w (fun _=>False) S0) (fun z=>[(0,vb),(2, .pointer (some ⟨g2,0,none⟩)),(5,z.2.2.1),(7, .int .i64 r36.1),(8, .pointer (some ⟨g8,0,none⟩)),(9, .int .i64 (z.1:Int))]) (fun z=>[.row g2 33 [z.2.2.2.2.1,z.2.2.2.2.2.2.1], .sl z.2.2.2.2.2.2.2.2.2.2.2.1 50 1 z.2.2.2.2.2.2.2.2.2.2.1.length z.2.2.2.2.2.2.2.2.2.2.2.2.1.flatten, .row g8 33 [z.2.2.2.2.2.2.2.2.2.1,z.2.2.2.2.2.2.2.2.2.2.2.1], .fr z.2.2.2.2.2.2.2.2.2.2.2.2.2]) (fun z=>di f18 kk18 (r36.1.toNat - z.1) z.1 (z.2.1,z.2.2.2.1,z.2.2.2.2.2.1,z.2.2.2.2.2.2.2.2.1,z.2.2.2.2.2.2.2.2.2.2.1)=some r∧SlC z.2.2.2.2.2.2.2.2.2.2.2.2.2.toFrz z.2.2.1 1 (z.2.1.map (eK .u8))∧SlC z.2.2.2.2.2.2.2.2.2.2.2.2.2.toFrz z.2.2.2.2.1 1 (z.2.2.2.1.map eI)∧SlD cP z.2.2.2.2.2.2.2.2.2.2.2.2.2.toFrz z.2.2.2.2.2.2.1 1 z.2.2.2.2.2.2.2.1 z.2.2.2.2.2.1∧SlC z.2.2.2.2.2.2.2.2.2.2.2.2.2.toFrz z.2.2.2.2.2.2.2.2.2.1 1 (z.2.2.2.2.2.2.2.2.1.map eI)∧OwnD cP z.2.2.2.2.2.2.2.2.2.2.2.2.2.toFrz 1 z.2.2.2.2.2.2.2.2.2.2.2.2.1 z.2.2.2.2.2.2.2.2.2.2.1∧OneC z.2.2.2.2.2.2.2.2.2.2.2.1∧F4.toFrz.Le z.2.2.2.2.2.2.2.2.2.2.2.2.2.toFrz) (fun z=>r36.1.toNat - z.1) (0,r36.2,v36_1_0,[],(.slice none 0 0),[],(.slice none 0 0),[],(r31.1.getD default),v31_n,[],(.slice none 0 0),[],F4) ?_ ?_ ?_ ?_
        ·exact ⟨hk,hf36_1_0,(SlC.nil _ 1),(SlD.nil _ _ 1),(SlC.mono hf31_n le3_4),(OwnD.nil _ _ 1),inferInstance,(Frz.Le.refl _)⟩
        ·exact (.c (.c (.c (.c (.c (.c .nil))))))
        ·exact fx
        ·rintro ⟨i_19,rest_13,vrest_13,c_14,vc_14,c_15,vc_15,cc_15,c_16,vc_16,c_17,vc_17,cc_17,F6⟩ ⟨hk,hrest_13,hc_14,hc_15,hc_16,hc_17,oc_17,le4_6⟩; (try dsimp only at *);have le1_6:=le1_4.trans le4_6;haveI:=hrest_13.oneC;haveI:=hc_14.oneC;haveI:=hc_15.1.oneC;haveI:=hc_16.oneC;refine q3q ?_;refine T.cond rfl (fun h20=>?_) (fun h20=>?_)
         ·have p20:=of_decide_eq_true h20;rw [fT a5] at hk;generalize hn18:di f18 kk18 (r36.1.toNat - (i_19+1)) (i_19+1)=next18 at hk;rw [←hf18] at hk; (try dsimp only at hk);refine kq ?_;have hq:=dV hk;clear hk;obtain ⟨r59,hr59,hk⟩:=hq; (try dsimp only at hk);refine fk ?_;refine cX (eg 3 rfl rfl rfl rfl (fun w hw hF=>zcS _ w hF rest_13 vrest_13 hrest_13 fuel r59 hr59)) ?_;rintro _ _ ⟨v59_1_0,F7,le6_7,hf59_1_0,rfl,rfl⟩;have le1_7:=le1_6.trans le6_7;have le4_7:=le4_6.trans le6_7;haveI:=hf59_1_0.oneC;refine kb ?_;refine iZ ?_;refine dk (ι:=Unit) (fun z=>[(0,vb),(2, .pointer (some ⟨g2,0,none⟩)),(4, .int .i64 r59.1),(5,v59_1_0),(7, .int .i64 r36.1),(8, .pointer (some ⟨g8,0,none⟩)),(9, .int .i64 (i_19:Int)),(67, .bool ((decide (r59.1<0))||(decide (512<r59.1))))]) (fun z=>[.row g2 33 [vc_14,vc_15], .sl vc_17 50 1 c_17.length cc_17.flatten, .row g8 33 [vc_16,vc_17], .fr F7]) (fun z=>True) ?_ ?_
          ·refine lU ?_;refine dO rfl rfl rfl (fun h21=>?_) (fun h21=>?_)
           ·have p21:=of_decide_eq_true h21;refine kd ?_;exact c4 () trivial (.c (.c (.c (.c (.c (.c (.c (.b (jA h21).symm .nil)))))))) (List.Sublist.refl _)
           ·have p21:=of_decide_eq_false h21;refine kd ?_;exact c4 () trivial (.c (.c (.c (.c (.c (.c (.c (.b (iC h21) .nil)))))))) (List.Sublist.refl _)
          ·rintro _ _;refine T.cond rfl (fun h22=>?_) (fun h22=>?_)
           ·replace hk:=dC hk h22;refine dm ?_;refine jy ?_;refine iW ?_;refine dp ?_;refine ml ?_;obtain rfl:=Option.some.inj hk;exact fO 0 rfl rfl rfl rfl rfl (fun w' hw=>⟨((.slice none 0 0),(.slice none 0 0),[]),F7.toFrz,⟨(SlC.nil _ 1),(SlD.nil _ _ 1)⟩,rfl,eD hw (i:=3) rfl hS0 le1_7⟩)
           ·have p22:=h22; (try simp only [c7] at p22);replace hk:=dD hk h22;refine iK ?_;have hq:=dV hk;clear hk;obtain ⟨r73,hr73,hk⟩:=hq; (try dsimp only at hk);refine iH ((r73.1).isSome) (fun h23=>?_) (fun h23=>?_)
            ·replace hk:=dC hk h23;refine gp ?_;refine cR (jX rfl rfl rfl a5) ?_;refine cX (ee [3,0,1,2] [] [.row g2 33 [vc_14,vc_15], .sl vc_17 50 1 c_17.length cc_17.flatten, .row g8 33 [vc_16,vc_17]] rfl rfl rfl rfl a6 (fun w hw hw2 hF=>(zcr _ w hF r59.2 v59_1_0 hf59_1_0 (2*r59.1) fuel r73 hr73).mono (fun e w' hp=>hp.1 h23))) ?_;rintro _ _ ⟨⟨v73_1_0,v73_n⟩,F8,le7_8,⟨hf73_1_0,hf73_n,nn73_n⟩,rfl,rfl⟩;refine eS ?_; (try dsimp only at hf73_1_0 hf73_n nn73_n);have le4_8:=le4_7.trans le7_8;have le6_8:=le6_7.trans le7_8;haveI:=hf73_n.oneC;haveI:=hf73_1_0.oneC;refine kb ?_;refine mP ?_;refine cR (Yv.cp (e:=3) a7 rfl rfl rfl nn73_n) ?_;refine ly ?_;refine gW ?_;refine dp ?_;refine TL.slNil 68 2 ?_;refine iM ?_;refine dL ?_;have hq:=eN hk;clear hk;obtain ⟨k25,hk25,hk⟩:=hq; (try dsimp only at hk);refine dk (ι:=List GChoice×Value) (fun z=>[(0,vb),(2, .pointer (some ⟨g2,0,none⟩)),(5,v73_1_0),(7, .int .i64 r36.1),(8, .pointer (some ⟨g8,0,none⟩)),(9, .int .i64 (i_19:Int)),(10,z.2)]) (fun z=>[.sl z.2 68 2 z.1.length (z.1.flatMap cW), .row g2 33 [vc_14,vc_15], .sl vc_17 50 1 c_17.length cc_17.flatten, .row g8 33 [vc_16,vc_17], .fr F8]) (fun z=>k25 z.1=some r∧OneC z.2) ?_ ?_
             ·have hq:=fS hk;clear hk;obtain ⟨f27,kk27,hf27,hkk27,hk⟩:=hq;refine fJ ?_;refine T.pick [0,2,3,4,1] rfl a6 ?_;refine T.loop (ι:=Nat×List GChoice×Value) (fun z=>[(0,vb),(2, .pointer (some ⟨g2,0,none⟩)),(4, .int .i64 r59.1),(5,v73_1_0),(6,v73_n),(7, .int .i64 r36.1),(8, .pointer (some ⟨g8,0,none⟩)),(9, .int .i64 (i_19:Int)),(10,z.2.2),(11, .int .i64 (z.1:Int))]) (fun z=>[.sl z.2.2 68 2 z.2.1.length (z.2.1.flatMap cW), .row g2 33 [vc_14,vc_15], .sl vc_17 50 1 c_17.length cc_17.flatten, .row g8 33 [vc_16,vc_17], .fr F8]) (fun z=>di f27 kk27 (r59.1.toNat - z.1) z.1 z.2.1=some r∧OneC z.2.2) (fun z=>r59.1.toNat - z.1) (0,[],(.slice none 0 0)) ?_ ?_ ?_ ?_
              ·exact q4b
              ·exact (.c (.c (.c (.c (.c (.c (.c (.c (.c (.c .nil))))))))))
              ·exact fx
              ·rintro ⟨k_28,g_26,vg_26⟩ ⟨hk,og_26⟩; (try dsimp only at *);refine q3q ?_;refine T.cond rfl (fun h29=>?_) (fun h29=>?_)
               ·have p29:=of_decide_eq_true h29;rw [fT a5] at hk;generalize hn27:di f27 kk27 (r59.1.toNat - (k_28+1)) (k_28+1)=next27 at hk;rw [←hf27] at hk; (try dsimp only at hk);refine T.skip (K.seq (T.seq (T.block ?_)));have hq:(0≤(2* (k_28:Int))∧(2* (k_28:Int))<((r73.1.getD default).length:Int))∧_:=eW hk;clear hk;obtain ⟨g88,hk⟩:=hq;have hq:(0≤((2* (k_28:Int))+1)∧((2* (k_28:Int))+1)<((r73.1.getD default).length:Int))∧_:=eW hk;clear hk;obtain ⟨g94,hk⟩:=hq;have hq:(dd (g_26++[(GChoice.mk (cQ (r73.1.getD default) ((2* (k_28:Int)).toNat)) (cQ (r73.1.getD default) (((2* (k_28:Int))+1).toNat)))]).length 16)∧_:=eW hk;clear hk;obtain ⟨g98,hk⟩:=hq; (try dsimp only at hk);refine d8 (sN 0 13 (.eff 13 (.eff 14 (.still 15 .done)))) [.row g2 33 [vc_14,vc_15], .sl vc_17 50 1 c_17.length cc_17.flatten, .row g8 33 [vc_16,vc_17], .fr F8] a7 Sx ?_;refine kj ?_;refine cZ rfl (jX rfl rfl rfl a5) ?_;refine cZ rfl (dH (i:=(2* (k_28:Int)).toNat) rfl rfl rfl hf73_n (List.length_map _) a5 a5) ?_;refine cZ rfl (ft 3 (i:=(2* (k_28:Int)).toNat) (j:=0) rfl rfl rfl hf73_n a5) ?_;refine gJ ?_;refine cZ rfl (jX rfl rfl rfl a5) ?_;refine q3z ?_;refine cZ rfl (dH (i:=((2* (k_28:Int))+1).toNat) rfl rfl rfl hf73_n (List.length_map _) a5 a5) ?_;refine cZ rfl (ft 3 (i:=((2* (k_28:Int))+1).toNat) (j:=0) rfl rfl rfl hf73_n a5) ?_;refine cZ rfl (Yv.build) ?_;refine dQ ?_;refine q1F ?_;rintro _ _ ⟨g97,rfl,rfl⟩;refine ⟨(fun w hw=>hw.sub Sx),?_⟩;refine dQ ?_;refine dx rfl (Wt.none) rfl rfl (fj 1 0 rfl rfl rfl rfl rfl rfl (j2 (ys:=[(GChoice.mk (cQ (r73.1.getD default) ((2* (k_28:Int)).toNat)) (cQ (r73.1.getD default) (((2* (k_28:Int))+1).toNat)))])) (mn (enc:=cW) (xs:=g_26) (ys:=[(GChoice.mk (cQ (r73.1.getD default) ((2* (k_28:Int)).toNat)) (cQ (r73.1.getD default) (((2* (k_28:Int))+1).toNat)))])) g98 a6) ?_;rintro v98 _ ⟨hv98,rfl⟩;refine ⟨(fun w hw=>hw.sub Sx),?_⟩;refine q0N ?_;refine fI (K.seq (T.region ?_));refine dp ?_;refine ka ?_;rw [←hn27] at hk;refine K.pick [1,2,3,4,5] rfl a6 ?_;exact K.next ((k_28+1),(g_26++[(GChoice.mk (cQ (r73.1.getD default) ((2* (k_28:Int)).toNat)) (cQ (r73.1.getD default) (((2* (k_28:Int))+1).toNat)))]),v98) ⟨hk,inferInstance⟩ a9 (.c (.c (.c (.c (.c (.c (.c (.c (.c (.c .nil)))))))))) (List.Sublist.refl _)
               ·have p29:=of_decide_eq_false h29;rw [fR a5,←hkk27] at hk; (try dsimp only at hk);refine fi ?_;exact c4 (g_26,vg_26) ⟨hk,inferInstance⟩ (.c (.c (.c (.c (.c (.c (.c .nil))))))) (List.Sublist.refl _)
             ·rintro ⟨g_24,vg_24⟩ ⟨hk,og_24⟩; (try dsimp only at *);rw [←hk25] at hk; (try dsimp only at hk);refine kY (fun w hw=>hw.freezeS (i:=4) (j:=0) a6 rfl rfl) ?_;rintro F9 ⟨le8_9,hz9⟩;refine gY ?_;have le4_9:=le4_8.trans le8_9;have le6_9:=le6_8.trans le8_9;have hf9:=hz9.toF rfl GChoice.len;haveI:=hf9.oneC;have hq:(dd (c_17++[g_24]).length 24)∧_:=eW hk;clear hk;obtain ⟨g103,hk⟩:=hq; (try dsimp only at hk);refine fg ?_;refine mg ?_;refine dp ?_;refine jj ?_;rintro _ _ ⟨g102,rfl,rfl⟩;have hl102:OwnD cP F9.toFrz 1 [[vg_24]] [g_24]:=(dn (OwnD.nil _ _ 1) ⟨_,rfl,hf9⟩);refine cX (fj 2 0 rfl rfl rfl rfl rfl rfl (j2 (ys:=[g_24])) (zb8 (cs:=cc_17) (ds:=[[vg_24]])) g103 a6) ?_;rintro v103 _ ⟨hv103,rfl⟩;have ho103:OwnD cP F9.toFrz 1 (cc_17++[[vg_24]]) (c_17++[g_24]):=(dn (OwnD.mono (rep:=cP) (fun _ _ _ _=>R_List_GChoice.mono) hc_17 le6_9) ⟨_,rfl,hf9⟩);refine q2i ?_;refine q18 ?_;rw [←hn18] at hk;refine K.pick [1,2,3,4] rfl a6 ?_;exact K.next ((i_19+1),r73.2,v73_1_0,c_14,vc_14,c_15,vc_15,cc_15,c_16,vc_16,(c_17++[g_24]),v103,(cc_17++[[vg_24]]),F9) ⟨hk,(SlC.mono hf73_1_0 le8_9),(SlC.mono hc_14 le6_9),(SlD.mono (rep:=cP) (fun _ _ _ _=>R_List_GChoice.mono) hc_15 le6_9),(SlC.mono hc_16 le6_9),ho103,inferInstance,le4_9⟩ a9 (.c (.c (.c (.c (.c (.c .nil)))))) (List.Sublist.refl _)
            ·replace hk:=dD hk h23;refine gp ?_;refine cR (jX rfl rfl rfl a5) ?_;refine cX (ee [3,0,1,2] [] [.row g2 33 [vc_14,vc_15], .sl vc_17 50 1 c_17.length cc_17.flatten, .row g8 33 [vc_16,vc_17]] rfl rfl rfl rfl a6 (fun w hw hw2 hF=>(zcr _ w hF r59.2 v59_1_0 hf59_1_0 (2*r59.1) fuel r73 hr73).mono (fun e w' hp=>hp.2 h23))) ?_;rintro _ _ ⟨v73_1_0,F10,le7_10,hf73_1_0,rfl,rfl⟩;refine eS ?_;have le1_10:=le1_7.trans le7_10;haveI:=hf73_1_0.oneC;refine kb ?_;refine mP ?_;refine cR (Yv.cq (e:=3) a7 rfl rfl rfl) ?_;refine lO ?_;refine q3Q ?_;refine ml ?_;obtain rfl:=Option.some.inj hk;exact fO 1 rfl rfl rfl rfl rfl (fun w' hw=>⟨((.slice none 0 0),(.slice none 0 0),[]),F10.toFrz,⟨(SlC.nil _ 1),(SlD.nil _ _ 1)⟩,rfl,eD hw (i:=0) rfl hS0 le1_10⟩)
         ·have p20:=of_decide_eq_false h20;rw [fR a5,←hkk18] at hk; (try dsimp only at hk);refine fi ?_;exact c4 (rest_13,vrest_13,c_14,vc_14,c_15,vc_15,cc_15,c_16,vc_16,c_17,vc_17,cc_17,F6) ⟨hk,hrest_13,hc_14,hc_15,hc_16,hc_17,inferInstance,le4_6⟩ (.c (.c (.c (.c .nil)))) (List.Sublist.refl _)
       ·rintro ⟨rest_7,vrest_7,c_8,vc_8,c_9,vc_9,cc_9,c_10,vc_10,c_11,vc_11,cc_11,F5⟩ ⟨hk,hrest_7,hc_8,hc_9,hc_10,hc_11,oc_11,le4_5⟩; (try dsimp only at *);rw [←hk12] at hk; (try dsimp only at hk);have le1_5:=le1_4.trans le4_5;haveI:=hrest_7.oneC;haveI:=hc_8.oneC;haveI:=hc_9.1.oneC;haveI:=hc_10.oneC;refine T.seq (T.seq ?_);refine kY (fun w hw=>hw.freezeS (i:=3) (j:=1) a6 rfl rfl) ?_;rintro F11 ⟨le5_11,hz11⟩;refine gY ?_;have le1_11:=le1_5.trans le5_11;have hf11:=hz11.toD (OwnD.mono (rep:=cP) (fun _ _ _ _=>R_List_GChoice.mono) hc_11 le5_11) rfl;haveI:=hf11.1.oneC; (try dsimp only at hk);have hq:=eN hk;clear hk;obtain ⟨k31,hk31,hk⟩:=hq; (try dsimp only at hk);refine dk (ι:=Bool×FzB w (fun _=>False) S0) (fun z=>[(2, .pointer (some ⟨g2,0,none⟩)),(8, .pointer (some ⟨g8,0,none⟩)),(120, .bool z.1)]) (fun z=>[.row g2 33 [vc_8,vc_9], .row g8 33 [vc_10,vc_11], .fr z.2]) (fun z=>k31 z.1=some r∧F11.toFrz.Le z.2.toFrz) ?_ ?_
        ·refine d8 (sN 0 5 (.eff 5 (sN 6 4 (sN 12 2 (.eff 10 (.eff 11 (.still 14 (.still 15 .done)))))))) _ a7 (List.Sublist.refl _) ?_;refine gj ?_;refine cZ rfl (dA rfl rfl (SlC.mono hrest_7 le5_11) (List.length_map _)) ?_;have hm106:rest_7.length≤9223372036854775807:=(List.length_map _)▸(SlC.mono hrest_7 le5_11).max;refine gJ ?_;refine fC rfl rfl rfl rfl (fun h32=>?_) (fun h32=>?_)
         ·have p32:=of_decide_eq_true h32;replace hk:=dC hk h32;refine gj ?_;refine jK ?_;refine TS.run 6 rfl ?_;refine jK ?_;refine jK ?_;refine mA ?_;exact c4 (true,F11) ⟨hk,(Frz.Le.refl _)⟩ (.c (.c (.c .nil))) (List.Sublist.refl _)
         ·have p32:=of_decide_eq_false h32;replace hk:=dD hk h32;refine cZ rfl (dY 1) ?_;refine dQ ?_;refine dx rfl (Wt.some) rfl rfl (cS rfl rfl rfl (fun w hw=>ze8 _ w (hw.fr (i:=2) rfl) (GProof.mk c_10 c_11) vc_10 (SlC.mono hc_10 le5_11) vc_11 cc_11 hf11)) ?_;refine lT ?_;refine kj ?_;refine fC rfl rfl rfl rfl (fun h33=>?_) (fun h33=>?_)
          ·replace hk:=dC hk h33;refine kj ?_;refine jK ?_;refine jK ?_;refine mA ?_;exact c4 (true,F11) ⟨hk,(Frz.Le.refl _)⟩ (.c (.c (.c .nil))) (List.Sublist.refl _)
          ·replace hk:=dD hk h33;refine cZ rfl (dY 1) ?_;refine gj ?_;refine cZ rfl (kv 2 (e:=5) a7 a7 a7 rfl rfl rfl (SlC.mono hb le1_11)) ?_;refine dQ ?_;have hq:=dV hk;clear hk;obtain ⟨r115,hr115,hk⟩:=hq;refine dx rfl (Wt.some) rfl rfl (eg 2 rfl rfl rfl rfl (fun w hw hF=>zeL _ w hF (GProof.mk c_10 c_11) vc_10 (SlC.mono hc_10 le5_11) vc_11 cc_11 hf11 fuel r115 hr115)) ?_;rintro _ _ ⟨v115_0_0,F13,le11_13,hf115_0_0,hq,rfl⟩;obtain rfl:=hq.symm;haveI:=hf115_0_0.oneC;refine ⟨(fun w hw=>(hw.frLe (i:=2) rfl le11_13).sub Sx),?_⟩;refine dQ ?_;refine ga rfl (Wt.some) rfl rfl (kv 2 (e:=5) a7 a7 a7 rfl rfl rfl hf115_0_0) (fun w hw=>(hw.frLe (i:=2) rfl le11_13).sub Sx) ?_;refine cZ rfl (Yv.cz (a:=(jW r115)) (b:=(jW b)) rfl rfl rfl) ?_;refine q0N ?_;exact c4 (!((jW r115) == (jW b)),F13) ⟨hk,le11_13⟩ (.c (.c (.c .nil))) (List.Sublist.refl _)
        ·rintro ⟨x_30,F12⟩ ⟨hk,le11_12⟩; (try dsimp only at *);rw [←hk31] at hk; (try dsimp only at hk);have le1_12:=le1_11.trans le11_12;have le5_12:=le5_11.trans le11_12;refine T.cond rfl (fun h34=>?_) (fun h34=>?_)
         ·replace hk:=dC hk h34;refine q1V ?_;obtain rfl:=Option.some.inj hk;exact fO 0 rfl rfl rfl rfl rfl (fun w' hw=>⟨((.slice none 0 0),(.slice none 0 0),[]),F12.toFrz,⟨(SlC.nil _ 1),(SlD.nil _ _ 1)⟩,rfl,eD hw (i:=2) rfl hS0 le1_12⟩)
         ·replace hk:=dD hk h34;refine gW ?_;refine m2 ?_;refine iW ?_;refine fm ?_;obtain rfl:=Option.some.inj hk;exact fO 0 rfl rfl rfl rfl rfl (fun w' hw=>⟨(vc_10,vc_11,cc_11),F12.toFrz,⟨(SlC.mono hc_10 le5_12),(SlD.mono (rep:=cP) (fun _ _ _ _=>R_List_GChoice.mono) hf11 le11_12)⟩,rfl,eD hw (i:=2) rfl hS0 le1_12⟩)
    ·replace hk:=dD hk h4;refine gp ?_;refine cX (ee [1,0] [] [.row g2 33 [(.slice none 0 0),(.slice none 0 0)]] rfl rfl rfl rfl a6 (fun w hw hw2 hF=>(zcr _ w hF r18.2 v18_1_0 hf18_1_0 r18.1 fuel r31 hr31).mono (fun e w' hp=>hp.2 h4))) ?_;rintro _ _ ⟨v31_1_0,F14,le2_14,hf31_1_0,rfl,rfl⟩;refine eS ?_;have le1_14:=le1_2.trans le2_14;haveI:=hf31_1_0.oneC;refine kb ?_;refine gU ?_;have hq:=dV hk;clear hk;obtain ⟨r36,hr36,hk⟩:=hq; (try dsimp only at hk);refine fk ?_;refine cX (eg 0 rfl rfl rfl rfl (fun w hw hF=>zcS _ w hF r31.2 v31_1_0 hf31_1_0 fuel r36 hr36)) ?_;rintro _ _ ⟨v36_1_0,F15,le14_15,hf36_1_0,rfl,rfl⟩;have le1_15:=le1_14.trans le14_15;haveI:=hf36_1_0.oneC;refine kb ?_;refine iZ ?_;refine dk (ι:=Unit) (fun z=>[(0,vb),(2, .pointer (some ⟨g2,0,none⟩)),(5,v36_1_0),(6,(.slice none 0 0)),(7, .int .i64 r36.1),(48, .bool true)]) (fun z=>[.row g2 33 [(.slice none 0 0),(.slice none 0 0)], .fr F15]) (fun z=>True) ?_ ?_
     ·refine fk ?_;refine cR (Yv.cq (e:=3) a7 rfl rfl rfl) ?_;refine TL.run 8 rfl ?_;refine TL.nil ?_;refine K.pick [1,0] rfl a6 ?_;exact c4 () trivial (.c (.c (.c (.c (.c (.c .nil)))))) (List.Sublist.refl _)
     ·rintro _ _;refine lq rfl rfl ?_;refine q1V ?_;obtain rfl:=Option.some.inj hk;exact fO 0 rfl rfl rfl rfl rfl (fun w' hw=>⟨((.slice none 0 0),(.slice none 0 0),[]),F15.toFrz,⟨(SlC.nil _ 1),(SlD.nil _ _ 1)⟩,rfl,eD hw (i:=1) rfl hS0 le1_15⟩)
def dq (n:Nat):List Int:=if h:n<128 then [(n:Int)] else ((n % 128+128:Nat):Int) :: dq (n / 128)
termination_by n
decreasing_by omega
theorem zdC {n:Nat}(h:n<128):dq n=[(n:Int)]:=by rw [dq];simp [h]
theorem zed {n:Nat}(h:¬n<128):dq n=((n % 128+128:Nat):Int) :: dq (n / 128):=by rw [dq];simp [h]
theorem zl9 (n:Nat):0<(dq n).length:=by
 by_cases h:n<128
 ·rw [zdC h];simp
 ·rw [zed h];simp
theorem zd2:∀(k n:Nat),n<2 ^ (7* (k+1))→(dq n).length≤k+1
 |0,n,h=>by rw [zdC (by simpa using h)];simp
 |k+1,n,h=>by
  by_cases h1:n<128
  ·rw [zdC h1];simp
  ·rw [zed h1,List.length_cons]
   have:=zd2 k (n / 128) (by
    rw [Nat.div_lt_iff_lt_mul a6]
    calc n<2 ^ (7* (k+1+1)):=h
     _=2 ^ (7* (k+1)) *128:=by rw [show 7* (k+1+1)=7* (k+1)+7 by omega,Nat.pow_add])
   omega
theorem or128:∀k:Nat,k<256→orK .u8 (k:Int) 128=((k % 128+128:Nat):Int):=by
 (have h:∀k:_root_.Fin 256,orK .u8 ((k.1:Nat):Int) 128=((k.1 % 128+128:Nat):Int):=by decide);exact fun k hk=>h ⟨k,hk⟩
theorem and127:∀k:Nat,k<256→andK .u8 (k:Int) 127=((k % 128:Nat):Int):=by
 (have h:∀k:_root_.Fin 256,andK .u8 ((k.1:Nat):Int) 127=((k.1 % 128:Nat):Int):=by decide);exact fun k hk=>h ⟨k,hk⟩
theorem zl7 (n:Nat):IntKind.u8.wrap (n:Int)=((n % 256:Nat):Int):=by
 simp [IntKind.wrap,IntKind.signed,IntKind.bits]
theorem shr7 (n:BitVec 64):(n >>> 7).toNat=n.toNat / 128:=by rw [BitVec.toNat_ushiftRight,Nat.shiftRight_eq_div_pow]
theorem zlC {fuel:Nat}{l:List Int}{n:BitVec 64}(hf:20≤fuel)(hl:l.length≤100000):zb1 fuel l n=some (l++dq n.toNat):=by
 unfold zb1;simp only [dN];have hb:∀m:BitVec 64,(dq m.toNat).length≤10:=fun m=>zd2 9 _ (Nat.lt_of_lt_of_le m.isLt a6);refine zcA (σ:=List Int×BitVec 64) (I:=fun s=>s.1++dq s.2.toNat=l++dq n.toNat) (μ:=fun s=>(dq s.2.toNat).length) (post:=fun o=>o=some (l++dq n.toNat)) rfl (by have:=hb n;show (dq n.toNat).length<fuel;omega) ?_;rintro ⟨a,m⟩ next hI hn;dsimp only at hI hn ⊢
 have hlen:a.length≤100010:=by
  have h1:=congrArg List.length hI;rw [List.length_append,List.length_append] at h1;have:=hb n;omega
 by_cases h:m.toNat<128
 ·rw [decide_eq_false (by show ¬(127:Int)<_;omega),cond_false,fL (by unfold dd;simp;omega),zl7,Nat.mod_eq_of_lt a5,←zdC h,hI]
 ·rw [decide_eq_true (by show (127:Int)<_;omega),cond_true,fL (by unfold dd;simp;omega),zl7,or128 _ (Nat.mod_lt _ a6),Nat.mod_mod_of_dvd _ a6];have h2:=zed h;refine hn _ ?_ ?_
  ·show (a++[_])++dq (m >>> 7).toNat=_
   rw [shr7,List.append_assoc,List.singleton_append,←h2,hI]
  ·show (dq (m >>> 7).toNat).length<(dq m.toNat).length
   rw [shr7,h2,List.length_cons];omega
structure RdS (x:GReader) (rest:List Int):Prop where
 made:x.made=true
 ok:x.fault.first=0
 pos:0≤x.at_
 drop:x.in_.drop x.at_.toNat=rest
 len:x.at_.toNat+rest.length=x.in_.length
abbrev adv (x:GReader)(k:Nat):GReader:=⟨⟨0⟩,x.made,x.in_,x.at_+(k:Int)⟩
theorem RdS.adv {x:GReader}{a rest:List Int}(h:RdS x (a++rest)):RdS (adv x a.length) rest:=by
 have hl:=h.len;rw [List.length_append] at hl;have hp:=h.pos;refine ⟨h.made,rfl,by show 0≤x.at_+_;omega,?_,?_⟩
 ·show x.in_.drop (x.at_+(a.length:Int)).toNat=rest
  rw [show (x.at_+(a.length:Int)).toNat=x.at_.toNat+a.length by omega,←List.drop_drop,h.drop,List.drop_left]
 ·show (x.at_+(a.length:Int)).toNat+rest.length=x.in_.length
  omega
theorem zhE {f:Int}{m:Bool}{l:List Int}{a b:Int}{rest:List Int}(hp:0≤a)(hd:l.drop a.toNat=b :: rest):lS ⟨⟨f⟩,m,l,a⟩=some (Dy.ok (b,a+1)):=by
 have hlt:a.toNat<l.length:=by
  rcases Nat.lt_or_ge a.toNat l.length with h|h
  ·exact h
  ·rw [List.drop_eq_nil_of_le h] at hd;cases hd
 have hb:cQ l a.toNat=b:=by
  rw [List.drop_eq_getElem_cons hlt] at hd;rw [eh hlt];exact (List.cons.inj hd).1
 unfold lS;simp only [dN];rw [decide_eq_false a5,cond_false,fL ⟨hp,by omega⟩,hb]
theorem zmo {lo p i:Nat}(hlo:lo<2 ^ (7*i))(hi:7*i<64)(hp:p<2 ^ 64)(hs:p*2 ^ (7*i)<2 ^ 64):(BitVec.ofNat 64 lo ||| (BitVec.ofNat 64 p <<< (7*i)))=BitVec.ofNat 64 (lo+p*2 ^ (7*i)):=by
 apply BitVec.eq_of_toNat_eq;have h1:lo<2 ^ 64:=Nat.lt_trans hlo (Nat.pow_lt_pow_right a6 hi);rw [BitVec.toNat_or,BitVec.toNat_shiftLeft,BitVec.toNat_ofNat,BitVec.toNat_ofNat,BitVec.toNat_ofNat,Nat.mod_eq_of_lt h1,Nat.mod_eq_of_lt hp,Nat.shiftLeft_eq,Nat.mod_eq_of_lt hs,Nat.or_comm];have h2:=Nat.shiftLeft_add_eq_or_of_lt hlo p;rw [Nat.shiftLeft_eq] at h2
 have h3:p*2 ^ (7*i)+lo<2 ^ 64:=by
  rw [h2];exact Nat.or_lt_two_pow hs h1
 rw [←h2,Nat.add_comm lo,Nat.mod_eq_of_lt h3]
theorem zh3 {x : GReader} {n most : Nat} {rest : List Int} (hm0 : 0 < most) (hm : most ≤ 10) (hn : n < 2 ^ 64) (hn2 : n < 2 ^ (7 * most)) (h : RdS x (dq n ++ rest)) : zar x (most : Int) = some (Dy.ok (BitVec.ofNat 64 n, x.at_ + ((dq n).length : Int))) := by
  unfold zar; rw [fL a5];simp only [dN]
  have key : ∀ (m i q lo : Nat) (a : Int) (z : BitVec 64), i + m = most → 0 ≤ a → x.in_.drop a.toNat = dq q ++ rest → n = lo + q * 2 ^ (7 * i) → lo < 2 ^ (7 * i) → (0 < i → 0 < q) → q < 2 ^ (7 * m) →
      di (fun (i_8 : Nat) (next7 : (BitVec 64 × BitVec 64 × Int) → Option (Dy (BitVec 64 × Int) (Int × Int))) (s7 : BitVec 64 × BitVec 64 × Int) =>
        (lS (GReader.mk (Gfault.mk x.fault.first) x.made x.in_ s7.2.2)).bind fun r14 =>
        (bif im r14 then
          (bif ((decide ((i_8 : Int) = 9)) && (decide (((1#64).toNat : Int) < ((BitVec.ofInt 64 (andK .u8 ((et r14).1) 127)).toNat : Int)))) then
            some (Dy.er (6, ((et r14).2)))
            else
            (bif decide ((et r14).1 < 128) then
              (bif ((decide ((et r14).1 = 0)) && (decide (0 < (i_8 : Int)))) then
                some (Dy.er (6, ((et r14).2)))
                else
                some (Dy.ok ((s7.2.1 ||| ((BitVec.ofInt 64 (andK .u8 ((et r14).1) 127)) <<< ((7 * (i_8 : Int)).toNat))), ((et r14).2))))
              else
              next7 (s7.1, (s7.2.1 ||| ((BitVec.ofInt 64 (andK .u8 ((et r14).1) 127)) <<< ((7 * (i_8 : Int)).toNat))), (et r14).2)))
          else
          some (Dy.er ((iw r14).1, ((iw r14).2)))))
      (fun (s7 : BitVec 64 × BitVec 64 × Int) => some (Dy.er (6, s7.2.2))) m i (z, BitVec.ofNat 64 lo, a) = some (Dy.ok (BitVec.ofNat 64 n, a + ((dq q).length : Int))) := by
    intro m
    induction m with
    | zero =>
      intro i q lo a z e ha hd hnq hlo hq hq2; have := hq a5; simp at hq2; omega
    | succ m ih =>
      intro i q lo a z e ha hd hnq hlo hq hq2; (have hi7 : 7 * i < 64 := by omega); have hle : q % 128 * 2 ^ (7 * i) ≤ q * 2 ^ (7 * i) := Nat.mul_le_mul_right _ (Nat.mod_le _ _); have hacc : (BitVec.ofNat 64 lo ||| (BitVec.ofNat 64 (q % 128) <<< (7 * i))) = BitVec.ofNat 64 (lo + q % 128 * 2 ^ (7 * i)) := zmo hlo hi7 (Nat.lt_trans (Nat.mod_lt _ a6) a6) a5
      have h9 : ¬ (i = 9 ∧ 1 < q % 128) := fun ⟨h1, h2⟩ => by
        subst h1; have : 2 * 2 ^ (7 * 9) ≤ q % 128 * 2 ^ (7 * 9) := Nat.mul_le_mul_right _ h2; omega
      have hbig : ((decide ((i : Int) = 9)) && (decide (((1#64).toNat : Int) < ((BitVec.ofNat 64 (q % 128)).toNat : Int)))) = false := by
        rw [Bool.and_eq_false_iff, decide_eq_false_iff_not, decide_eq_false_iff_not]; rw [show (BitVec.ofNat 64 (q % 128)).toNat = q % 128 from by rw [BitVec.toNat_ofNat]; exact Nat.mod_eq_of_lt a5]; rcases Nat.lt_or_ge 1 (q % 128) with h1 | h1
        · left; intro h2; exact h9 ⟨by omega, h1⟩
        · right; show ¬ (1 : Int) < _; omega
      by_cases h1 : q < 128
      · rw [zdC h1] at hd ⊢; have hx : q % 128 = q := Nat.mod_eq_of_lt h1
        show (Option.bind (lS _) _) = _
        rw [zhE ha hd]
        show (bif (decide ((i : Int) = 9) && decide (((1#64).toNat : Int) < ((BitVec.ofInt 64 (andK .u8 (q : Int) 127)).toNat : Int))) then _ else bif decide ((q : Int) < 128) then (bif decide ((q : Int) = 0) && decide (0 < (i : Int)) then _ else some (Dy.ok ((BitVec.ofNat 64 lo ||| ((BitVec.ofInt 64 (andK .u8 (q : Int) 127)) <<< ((7 * (i : Int)).toNat))), a + 1))) else _) = _
        rw [show (7 * (i : Int)).toNat = 7 * i by omega, and127 q a5, BitVec.ofInt_natCast, hbig, cond_false, decide_eq_true a5, cond_true, show (decide ((q : Int) = 0) && decide (0 < (i : Int))) = false from by
          rw [Bool.and_eq_false_iff, decide_eq_false_iff_not, decide_eq_false_iff_not]; rcases Nat.eq_zero_or_pos i with h2 | h2
          · right; omega
          · left; have := hq h2; omega, cond_false, hacc, hx, ← hnq]
        rfl
      · rw [zed h1] at hd ⊢
        show (Option.bind (lS _) _) = _
        rw [List.cons_append] at hd; rw [zhE ha hd]
        show (bif (decide ((i : Int) = 9) && decide (((1#64).toNat : Int) < ((BitVec.ofInt 64 (andK .u8 ((q % 128 + 128 : Nat) : Int) 127)).toNat : Int))) then _ else bif decide (((q % 128 + 128 : Nat) : Int) < 128) then _ else di _ _ m (i + 1) (z, (BitVec.ofNat 64 lo ||| ((BitVec.ofInt 64 (andK .u8 ((q % 128 + 128 : Nat) : Int) 127)) <<< ((7 * (i : Int)).toNat))), a + 1)) = _
        (have hx : (q % 128 + 128) % 128 = q % 128 := by omega); rw [show (7 * (i : Int)).toNat = 7 * i by omega, and127 _ a5, BitVec.ofInt_natCast, hx, hbig, cond_false, decide_eq_false a5, cond_false, hacc]
        have hd2 : x.in_.drop (a + 1).toNat = dq (q / 128) ++ rest := by
          rw [show (a + 1).toNat = a.toNat + 1 by omega, ← List.drop_drop, hd]; rfl
        (have e7 : 2 ^ (7 * (i + 1)) = 2 ^ (7 * i) * 128 := by rw [show 7 * (i + 1) = 7 * i + 7 by omega, Nat.pow_add]); (have e8 : 2 ^ (7 * (m + 1)) = 2 ^ (7 * m) * 128 := by rw [show 7 * (m + 1) = 7 * m + 7 by omega, Nat.pow_add]); have hdm := Nat.div_add_mod q 128
        have := ih (i + 1) (q / 128) (lo + q % 128 * 2 ^ (7 * i)) (a + 1) z a5 a5 hd2 (by
          rw [e7, hnq]
          conv => lhs; rw [← hdm]
          rw [Nat.add_mul]; (have : 128 * (q / 128) * 2 ^ (7 * i) = q / 128 * (2 ^ (7 * i) * 128) := by rw [Nat.mul_comm 128, Nat.mul_assoc, Nat.mul_comm 128])
          omega) (by
          rw [e7]; have h3 : q % 128 * 2 ^ (7 * i) ≤ 127 * 2 ^ (7 * i) := Nat.mul_le_mul_right _ a5
          omega) (fun _ => by omega) (by rw [e8] at hq2; omega)
        rw [List.length_cons, show a + (((dq (q / 128)).length + 1 : Nat) : Int) = a + 1 + ((dq (q / 128)).length : Int) by omega]; exact this
  have hk := key most 0 n 0 x.at_ 0#64 a5 h.pos h.drop a5 a8 a5 (by simpa using hn2); rw [show ((most : Int)).toNat - 0 = most by omega]; exact hk
theorem zjs {fuel:Nat}{out:List Int}{n:Int}(hf:20≤fuel)(hn:0≤n∧n≤9223372036854775807)(hl:(out++dq n.toNat).length≤65536):ms fuel ⟨⟨0⟩,out⟩ n=some (out++dq n.toNat):=by
 have hg:zb1 fuel out (BitVec.ofInt 64 n)=some (out++dq n.toNat):=by
  rw [zlC hf (by rw [List.length_append] at hl;omega)];rw [show (BitVec.ofInt 64 n).toNat=n.toNat from by rw [BitVec.toNat_ofInt];omega]
 unfold ms
 show (bif decide (n<0) then none else (zb1 fuel out (BitVec.ofInt 64 n)).bind _)=_
 rw [decide_eq_false a5,cond_false,hg]
 show (zaL _ _).bind _=_
 unfold zaL;rw [decide_eq_false a5];rfl
theorem zmP {ρ α:Type}[Inhabited α]{l:List α}{g:α→List Int}{f:Nat→(List Int→ρ)→List Int→ρ}{k:List Int→ρ}{s0:List Int}(hl:(s0++l.flatMap g).length≤65536)(hf:∀i next s,i<l.length→(s++g (cQ l i)).length≤65536→f i next s=next (s++g (cQ l i))):di f k (l.length - 0) 0 s0=k (s0++l.flatMap g):=by
 have key:∀m i s,i+m=l.length→(s++(l.drop i).flatMap g).length≤65536→di f k m i s=k (s++(l.drop i).flatMap g):=by
  intro m
  induction m with
  |zero=>intro i s e _;rw [List.drop_eq_nil_of_le a5,List.flatMap_nil,List.append_nil];rfl
  |succ m ih=>
   intro i s e hs;rw [List.drop_eq_getElem_cons (show i<l.length by omega),List.flatMap_cons,←eh (show i<l.length by omega),←List.append_assoc] at hs ⊢;rw [←ih (i+1) (s++g (cQ l i)) a5 hs];exact hf i _ s a5 (by rw [List.length_append] at hs;omega)
 have:=key (l.length - 0) 0 s0 a5 (by rw [List.drop_zero];exact hl)
 rwa [List.drop_zero] at this
def d7 (n:Int):List Int:=dq n.toNat
theorem zhr (k:Nat){n:Int}(h:n<2 ^ (7* (k+1))):(d7 n).length≤k+1:=zd2 k _ (by
 have:(n.toNat:Int)<((2 ^ (7* (k+1)):Nat):Int):=by
  rw [Int.natCast_pow];rcases Int.lt_or_le n 0 with h0|h0
  ·rw [show n.toNat=0 by omega];exact Int.pow_pos a6
  ·rw [show (n.toNat:Int)=n by omega];exact h
 exact Int.ofNat_lt.1 this)
theorem ziU {α:Type}{l:List α}{g:α→List Int}{k:Nat}(h:∀x∈l,(g x).length≤k):(l.flatMap g).length≤k*l.length:=by
 induction l with
 |nil=>simp
 |cons x r ih=>
  rw [List.flatMap_cons,List.length_append,List.length_cons,Nat.mul_add];have:=h x (List.mem_cons_self ..);have:=ih fun y hy=>h y (List.mem_cons_of_mem _ hy);omega
theorem znO {x:GReader}{n:Nat}{rest:List Int}(hn:n<2 ^ 63)(h:RdS x (dq n++rest)):mb x=some ((n:Int),(0,x.at_+((dq n).length:Int))):=by
 have hg:=zh3 (most:=9) a6 a6 a5 hn h;unfold mb;rw [h.made,h.ok]
 show (zar x 9).bind _=_
 rw [show (9:Int)=((9:Nat):Int) from rfl,hg]
 show some (wI (((BitVec.ofNat 64 n).toNat:Nat):Int),((0:Int),_))=_
 rw [BitVec.toNat_ofNat,Nat.mod_eq_of_lt a5,ln a5];rfl
theorem znz {x:GReader}{n:Nat}{lim:Int}{rest:List Int}(hn:(n:Int)≤lim)(hl:lim≤1000000)(h:RdS x (dq n++rest)):m7 x lim=some ((n:Int),(0,x.at_+((dq n).length:Int))):=by
 have hg:=zh3 (most:=9) a6 a6 a5 a5 h;unfold m7;rw [h.made,h.ok]
 show (zau x lim).bind _=_
 have hs:zau x lim=some (Dy.ok ((n:Int),x.at_+((dq n).length:Int))):=by
  unfold zau;rw [show (9:Int)=((9:Nat):Int) from rfl,hg]
  show (bif decide (lim<0) then _ else bif decide (lim<wI (((BitVec.ofNat 64 n).toNat:Nat):Int)) then _ else some (Dy.ok (wI (((BitVec.ofNat 64 n).toNat:Nat):Int),_)))=_
  rw [BitVec.toNat_ofNat,Nat.mod_eq_of_lt a5,ln a5,decide_eq_false a5,cond_false,decide_eq_false a5,cond_false];rfl
 rw [hs]
 rfl
theorem zm8 {x:GReader}{n:Int}{rest:List Int}(hn:0≤n∧n≤9223372036854775807)(h:RdS x (d7 n++rest)):mb x=some (n,(0,x.at_+((d7 n).length:Int))):=by
 have:=znO (n:=n.toNat) a5 h;rw [show ((n.toNat:Nat):Int)=n by omega] at this;exact this
def chR (s:Nat):Nat→Int→List Int
 |0,_=>[]
 |m+1,c=>if s.testBit (c - 2).toNat then c :: chR s m (c+1) else chR s m (c+1)
theorem ziT {α : Type} [Inhabited α] {read : GReader → Option (α × (Int × Int))} {enc : α → List Int} {l : List α} {x : GReader} {lim : Int} {sz : Nat} {rest : List Int} (hz : sz ≤ 100) (hr : ∀ v ∈ l, ∀ (x : GReader) (rest : List Int), RdS x (enc v ++ rest) → read x = some (v, (0, x.at_ + ((enc v).length : Int)))) (hl : (l.length : Int) ≤ lim) (hm : lim ≤ 5000) (h : RdS x (dq l.length ++ (l.flatMap enc ++ rest))) :
    ((m7 x lim).bind fun r11 =>
      dN (fun (s4 : List α × Int × Int) => some (s4.1, (s4.2.1, s4.2.2)))
      (fun k4 =>
        dU (r11.1 ≤ 9223372036854775807) <|
        di (fun (i_9 : Nat) (next8 : (List α × Int × Int) → Option (List α × (Int × Int))) (s8 : List α × Int × Int) =>
          (read (GReader.mk (Gfault.mk s8.2.1) x.made x.in_ s8.2.2)).bind fun r16 =>
          (bif decide (¬ (kJ (GReader.mk (Gfault.mk r16.2.1) x.made x.in_ r16.2.2)) = 0) then
            some ([], (r16.2.1, r16.2.2))
            else
            dU (dd (s8.1 ++ [r16.1]).length sz) <|
            next8 ((s8.1 ++ [r16.1]), r16.2.1, r16.2.2)))
        (fun (s8 : List α × Int × Int) =>
          k4 (s8.1, s8.2.1, s8.2.2)) (r11.1.toNat - 0) 0 ([], r11.2.1, r11.2.2))) = some (l, (0, x.at_ + ((dq l.length ++ l.flatMap enc).length : Int))) := by
  rw [znz hl a5 h]
  show dU ((l.length : Int) ≤ 9223372036854775807) (di _ (fun s8 : List α × Int × Int => some (s8.1, (s8.2.1, s8.2.2))) (((l.length : Int)).toNat - 0) 0 ([], (0 : Int), x.at_ + ((dq l.length).length : Int))) = _
  rw [fL a5, show ((l.length : Int)).toNat - 0 = l.length by omega]
  have key : ∀ m i (a : Int), i + m = l.length → RdS ⟨⟨0⟩, x.made, x.in_, a⟩ ((l.drop i).flatMap enc ++ rest) →
      di (fun (i_9 : Nat) (next8 : (List α × Int × Int) → Option (List α × (Int × Int))) (s8 : List α × Int × Int) =>
          (read (GReader.mk (Gfault.mk s8.2.1) x.made x.in_ s8.2.2)).bind fun r16 =>
          (bif decide (¬ (kJ (GReader.mk (Gfault.mk r16.2.1) x.made x.in_ r16.2.2)) = 0) then
            some ([], (r16.2.1, r16.2.2))
            else
            dU (dd (s8.1 ++ [r16.1]).length sz) <|
            next8 ((s8.1 ++ [r16.1]), r16.2.1, r16.2.2))) (fun s8 : List α × Int × Int => some (s8.1, (s8.2.1, s8.2.2))) m i (l.take i, 0, a) = some (l, (0, a + (((l.drop i).flatMap enc).length : Int))) := by
    intro m
    induction m with
    | zero =>
      intro i a e _; rw [List.drop_eq_nil_of_le a5, List.take_of_length_le a5]
      show some (l, ((0 : Int), a)) = some (l, ((0 : Int), a + 0))
      rw [Int.add_zero]
    | succ m ih =>
      intro i a e hR; (have hi : i < l.length := by omega); rw [List.drop_eq_getElem_cons hi, List.flatMap_cons, ← eh hi] at hR ⊢; rw [List.append_assoc] at hR; have h1 := hr _ (fX hi) _ _ hR
      show (read _).bind _ = _
      rw [h1]
      show (bif decide (¬ (kJ ⟨⟨0⟩, x.made, x.in_, _⟩) = 0) then _ else dU (dd (l.take i ++ [cQ l i]).length sz) (di _ _ m (i + 1) (l.take i ++ [cQ l i], (0 : Int), a + ((enc (cQ l i)).length : Int)))) = _
      have e1 : ∀ y : Int, kJ ⟨⟨0⟩, x.made, x.in_, y⟩ = 0 := fun y => by
        unfold kJ zaB; rw [h.made]; rfl
      rw [e1, decide_eq_false a8, cond_false, ← zgJ hi, fL (by
        rw [List.length_take]; unfold dd; have : min (i + 1) l.length * sz ≤ 5000 * 100 := Nat.mul_le_mul a5 hz
        omega)]
      rw [ih (i + 1) (a + ((enc (cQ l i)).length : Int)) a5 hR.adv, List.length_append]
      congr 3
      omega
  have := key l.length 0 (x.at_ + ((dq l.length).length : Int)) a5 (by rw [List.drop_zero]; exact h.adv); rw [List.drop_zero, List.take_zero] at this; rw [this, List.length_append]
  congr 3
  omega
def gX (l:List Int):Prop:=∀x∈l,0≤x∧x≤255
structure RdO (x:GReader):Prop where
 made:x.made=true
 byt:gX x.in_
 pos:0≤x.at_
 le:x.at_≤(x.in_.length:Int)
theorem RdO.to {x:GReader}(h:RdO x){k a:Int}(ha:0≤a∧a≤(x.in_.length:Int)):RdO ⟨⟨k⟩,x.made,x.in_,a⟩:=⟨h.made,h.byt,ha.1,ha.2⟩
def lZ (x:GReader)(i:Nat)(next:(BitVec 64×BitVec 64×Int)→Option (Dy (BitVec 64×Int) (Int×Int)))(s7:BitVec 64×BitVec 64×Int):Option (Dy (BitVec 64×Int) (Int×Int)):=
 (lS (GReader.mk (Gfault.mk x.fault.first) x.made x.in_ s7.2.2)).bind fun r14=>
 (bif im r14 then
  (bif ((decide ((i:Int)=9))&&(decide (((1#64).toNat:Int)<((BitVec.ofInt 64 (andK .u8 ((et r14).1) 127)).toNat:Int)))) then
   some (Dy.er (6,((et r14).2)))
   else
   (bif decide ((et r14).1<128) then
    (bif ((decide ((et r14).1=0))&&(decide (0<(i:Int)))) then
     some (Dy.er (6,((et r14).2)))
     else
     some (Dy.ok ((s7.2.1 ||| ((BitVec.ofInt 64 (andK .u8 ((et r14).1) 127)) <<< ((7* (i:Int)).toNat))),((et r14).2))))
    else
    next (s7.1,(s7.2.1 ||| ((BitVec.ofInt 64 (andK .u8 ((et r14).1) 127)) <<< ((7* (i:Int)).toNat))),(et r14).2)))
  else
  some (Dy.er ((iw r14).1,((iw r14).2))))
theorem zlY (x:GReader)(most:Int):zar x most=dU (most≤10) (di (lZ x) (fun s=>some (Dy.er (6,s.2.2))) (most.toNat - 0) 0 (0#64,0#64,x.at_)):=rfl
theorem zlS {f:Int}{m:Bool}{l:List Int}{a:Int}(h:(l.length:Int)≤a):lS ⟨⟨f⟩,m,l,a⟩=some (Dy.er (4,a)):=by
 unfold lS;simp only [dN];rw [decide_eq_true h,cond_true]
theorem zhm {x : GReader} {most : Nat} (hm : most ≤ 10) (h : RdO x) : ∃ r, zar x (most : Int) = some r ∧ (im r = true → ∃ q rest, x.in_.drop x.at_.toNat = dq q ++ rest ∧ (et r).1 = BitVec.ofNat 64 q ∧ q < 2 ^ 64 ∧ q < 2 ^ (7 * most) ∧ (et r).2 = x.at_ + ((dq q).length : Int)) ∧ (im r = false → (iw r).1 ≠ 0) := by
  rw [zlY, fL a5]
  have key : ∀ (m i lo : Nat) (a : Int) (z : BitVec 64), i + m = most → 0 ≤ a → a ≤ (x.in_.length : Int) → lo < 2 ^ (7 * i) → ∃ r, di (lZ x) (fun s => some (Dy.er (6, s.2.2))) m i (z, BitVec.ofNat 64 lo, a) = some r ∧
      (im r = true → ∃ q rest, x.in_.drop a.toNat = dq q ++ rest ∧ (et r).1 = BitVec.ofNat 64 (lo + q * 2 ^ (7 * i)) ∧ lo + q * 2 ^ (7 * i) < 2 ^ 64 ∧ q < 2 ^ (7 * m) ∧ (et r).2 = a + ((dq q).length : Int) ∧ (0 < i → 0 < q)) ∧ (im r = false → (iw r).1 ≠ 0) := by
    intro m
    induction m with
    | zero => intro i lo a z _ _ _ _; exact ⟨_, rfl, fun h => (by cases h), fun _ => (by show (6 : Int) ≠ 0; decide)⟩
    | succ m ih =>
      intro i lo a z e ha hal hlo
      show ∃ r, lZ x i (di (lZ x) _ m (i + 1)) (z, BitVec.ofNat 64 lo, a) = some r ∧ _
      unfold lZ; by_cases hlt : a < (x.in_.length : Int)
      · have hd : x.in_.drop a.toNat = cQ x.in_ a.toNat :: x.in_.drop (a + 1).toNat := by
          rw [List.drop_eq_getElem_cons (show a.toNat < x.in_.length by omega), ← eh (show a.toNat < x.in_.length by omega), show (a + 1).toNat = a.toNat + 1 by omega]
        have hb := h.byt _ (fX (show a.toNat < x.in_.length by omega)); obtain ⟨k, hk⟩ : ∃ k : Nat, cQ x.in_ a.toNat = (k : Int) := ⟨(cQ x.in_ a.toNat).toNat, by omega⟩; rw [hk] at hd hb; (have hi7 : 7 * i < 64 := by omega)
        show ∃ r, (lS ⟨⟨x.fault.first⟩, x.made, x.in_, a⟩).bind _ = some r ∧ _
        rw [zhE ha hd]
        show ∃ r, (bif (decide ((i : Int) = 9) && decide (((1#64).toNat : Int) < ((BitVec.ofInt 64 (andK .u8 (k : Int) 127)).toNat : Int))) then some (Dy.er (6, a + 1)) else bif decide ((k : Int) < 128) then (bif decide ((k : Int) = 0) && decide (0 < (i : Int)) then some (Dy.er (6, a + 1)) else some (Dy.ok ((BitVec.ofNat 64 lo ||| ((BitVec.ofInt 64 (andK .u8 (k : Int) 127)) <<< ((7 * (i : Int)).toNat))), a + 1))) else di (lZ x) _ m (i + 1) (z, (BitVec.ofNat 64 lo ||| ((BitVec.ofInt 64 (andK .u8 (k : Int) 127)) <<< ((7 * (i : Int)).toNat))), a + 1)) = some r ∧ _
        rw [show (7 * (i : Int)).toNat = 7 * i by omega, and127 k a5, BitVec.ofInt_natCast]
        cases hbig : (decide ((i : Int) = 9) && decide (((1#64).toNat : Int) < ((BitVec.ofNat 64 (k % 128)).toNat : Int)))
        · rw [cond_false]
          have hp : k % 128 * 2 ^ (7 * i) < 2 ^ 64 := by
            rcases Nat.lt_or_ge i 9 with h8 | h9
            · have h1 : k % 128 * 2 ^ (7 * i) ≤ 127 * 2 ^ (7 * i) := Nat.mul_le_mul_right _ a5; have h2 : 2 ^ (7 * i) ≤ 2 ^ 56 := Nat.pow_le_pow_right a6 a5; omega
            · (have h10 : i = 9 := by omega); subst h10; rw [Bool.and_eq_false_iff, decide_eq_false_iff_not, decide_eq_false_iff_not, BitVec.toNat_ofNat] at hbig
              have h1 : k % 128 ≤ 1 := by
                rcases hbig with h1 | h1
                · exact absurd rfl h1
                · have : ¬ (1 : Int) < ((k % 128 % 2 ^ 64 : Nat) : Int) := h1; omega
              have h3 : k % 128 * 2 ^ (7 * 9) ≤ 1 * 2 ^ (7 * 9) := Nat.mul_le_mul_right _ h1; omega
          have hacc : (BitVec.ofNat 64 lo ||| (BitVec.ofNat 64 (k % 128) <<< (7 * i))) = BitVec.ofNat 64 (lo + k % 128 * 2 ^ (7 * i)) := zmo hlo hi7 (Nat.lt_trans (Nat.mod_lt _ a6) a6) hp
          have hsum : lo + k % 128 * 2 ^ (7 * i) < 2 ^ 64 := by
            have h2 := Nat.shiftLeft_add_eq_or_of_lt hlo (k % 128); rw [Nat.shiftLeft_eq] at h2; rw [Nat.add_comm, h2]; exact Nat.or_lt_two_pow hp (Nat.lt_trans hlo (Nat.pow_lt_pow_right a6 hi7))
          rw [hacc]; by_cases h128 : k < 128
          · rw [decide_eq_true (show (k : Int) < 128 by omega), cond_true]
            cases hz : (decide ((k : Int) = 0) && decide (0 < (i : Int)))
            · rw [cond_false]; refine ⟨_, rfl, fun _ => ⟨k, _, by rw [zdC h128]; exact hd, ?_, ?_, ?_, ?_, fun hi => ?_⟩, fun h => by cases h⟩
              · show BitVec.ofNat 64 _ = _; rw [Nat.mod_eq_of_lt h128]
              · rw [← Nat.mod_eq_of_lt h128]; exact hsum
              · have : 2 ^ 7 ≤ 2 ^ (7 * (m + 1)) := Nat.pow_le_pow_right a6 a5; omega
              · rw [zdC h128]; rfl
              · rw [Bool.and_eq_false_iff, decide_eq_false_iff_not, decide_eq_false_iff_not] at hz; omega
            · rw [cond_true]; exact ⟨_, rfl, fun h => (by cases h), fun _ => (by show (6 : Int) ≠ 0; decide)⟩
          · rw [decide_eq_false (show ¬ (k : Int) < 128 by omega), cond_false]; (have e7 : 2 ^ (7 * (i + 1)) = 2 ^ (7 * i) * 128 := by rw [show 7 * (i + 1) = 7 * i + 7 by omega, Nat.pow_add]); (have e8 : 2 ^ (7 * (m + 1)) = 2 ^ (7 * m) * 128 := by rw [show 7 * (m + 1) = 7 * m + 7 by omega, Nat.pow_add])
            obtain ⟨r, er, h1, h2⟩ := ih (i + 1) (lo + k % 128 * 2 ^ (7 * i)) (a + 1) z a5 a5 a5 (by
              rw [e7]; have h3 : k % 128 * 2 ^ (7 * i) ≤ 127 * 2 ^ (7 * i) := Nat.mul_le_mul_right _ a5
              omega)
            refine ⟨r, er, fun hr => ?_, h2⟩; obtain ⟨q, rest, d1, d2, d3, d4, d5, d6⟩ := h1 hr; have hq := d6 a5; (have hm1 : (k % 128 + 128 * q) % 128 = k % 128 := by omega); (have hd1 : (k % 128 + 128 * q) / 128 = q := by omega)
            have hen : dq (k % 128 + 128 * q) = (k : Int) :: dq q := by
              rw [zed a5, hm1, hd1, show k % 128 + 128 = k by omega]
            have hmul : lo + (k % 128 + 128 * q) * 2 ^ (7 * i) = lo + k % 128 * 2 ^ (7 * i) + q * 2 ^ (7 * (i + 1)) := by
              rw [e7, Nat.add_mul, Nat.mul_comm 128 q, Nat.mul_assoc, Nat.mul_comm 128, Nat.add_assoc]
            refine ⟨k % 128 + 128 * q, rest, ?_, ?_, ?_, ?_, ?_, fun _ => by omega⟩
            · rw [hen, hd, d1]; rfl
            · rw [d2, hmul]
            · rw [hmul]; exact d3
            · rw [e8]; omega
            · rw [d5, hen, List.length_cons]; omega
        · rw [cond_true]; exact ⟨_, rfl, fun h => (by cases h), fun _ => (by show (6 : Int) ≠ 0; decide)⟩
      · show ∃ r, (lS ⟨⟨x.fault.first⟩, x.made, x.in_, a⟩).bind _ = some r ∧ _
        rw [zlS a5]; exact ⟨_, rfl, fun h => (by cases h), fun _ => (by show (4 : Int) ≠ 0; decide)⟩
  obtain ⟨r, e, h1, h2⟩ := key most 0 0 x.at_ 0#64 a5 h.pos h.le a6; refine ⟨r, by rw [show ((most : Int)).toNat - 0 = most by omega]; exact e, fun hr => ?_, h2⟩; obtain ⟨q, rest, d1, d2, d3, d4, d5, _⟩ := h1 hr; refine ⟨q, rest, d1, ?_, ?_, d4, d5⟩
  · rw [d2]; simp
  · simpa using d3
def lV {α:Type}(f:GReader→Option (α×(Int×Int)))(en:α→List Int)(P:α→Prop):Prop:=
 ∀x,RdO x→∃v k a,f x=some (v,(k,a))∧(0≤a∧a≤(x.in_.length:Int))∧P v∧(k=0→x.fault.first=0∧∃rest,x.in_.drop x.at_.toNat=en v++rest∧a=x.at_+((en v).length:Int))
theorem RdO.end_ {x:GReader}(h:RdO x){e rest:List Int}(hd:x.in_.drop x.at_.toNat=e++rest):0≤x.at_+(e.length:Int)∧x.at_+(e.length:Int)≤(x.in_.length:Int):=by
 have h1:=congrArg List.length hd;rw [List.length_drop,List.length_append] at h1;have:=h.pos;have:=h.le;omega
theorem zgK:lV mb d7 (fun v=>0≤v∧v≤9223372036854775807):=fun x h=>by
 unfold mb;rw [h.made,Bool.true_and];by_cases hf:x.fault.first=0
 ·rw [decide_eq_true hf,cond_true];obtain ⟨r,e,h1,h2⟩:=zhm (most:=9) a6 h;rw [show (9:Int)=((9:Nat):Int) from rfl,e]
  show ∃v k a,(bif im r then some (wI (((et r).1).toNat:Int),(x.fault.first,(et r).2)) else some (0,((iw r).1,x.at_)))=some (v,(k,a))∧_
  cases hr:im r
  ·exact ⟨0,(iw r).1,x.at_,rfl,⟨h.pos,h.le⟩,by decide,fun hk=>absurd hk (h2 hr)⟩
  ·obtain ⟨q,rest,d1,d2,d3,d4,d5⟩:=h1 hr;have hq:q<9223372036854775808:=d4; (have hv:wI (((et r).1).toNat:Int)=(q:Int):=by rw [d2,BitVec.toNat_ofNat,Nat.mod_eq_of_lt d3,ln a5]);refine ⟨(q:Int),x.fault.first,(et r).2,by rw [cond_true,hv],by rw [d5];exact h.end_ d1,by omega,fun _=>⟨hf,rest,d1,d5⟩⟩
 ·rw [decide_eq_false hf,cond_false];exact ⟨0,x.fault.first,x.at_,rfl,⟨h.pos,h.le⟩,by decide,fun hk=>absurd hk hf⟩
theorem zjW {lim:Int}(h0:0≤lim)(hl:lim≤1000000):lV (fun x=>m7 x lim) d7 (fun v=>0≤v∧v≤lim):=fun x h=>by
 dsimp only;unfold m7;rw [h.made,Bool.true_and];by_cases hf:x.fault.first=0
 ·rw [decide_eq_true hf,cond_true];obtain ⟨r,e,h1,h2⟩:=zhm (most:=9) a6 h
  have hs:zau x lim=bif im r then (bif decide (lim<wI (((et r).1).toNat:Int)) then some (Dy.er (7,(et r).2)) else some (Dy.ok (wI (((et r).1).toNat:Int),(et r).2))) else some (Dy.er ((iw r).1,(iw r).2)):=by
   unfold zau;rw [show (9:Int)=((9:Nat):Int) from rfl,e];simp only [dN,Option.bind_some];rw [decide_eq_false (show ¬lim<0 by omega),cond_false]
  rw [hs]
  cases hr:im r
  ·exact ⟨0,(iw r).1,x.at_,rfl,⟨h.pos,h.le⟩,⟨Int.le_refl _,h0⟩,fun hk=>absurd hk (h2 hr)⟩
  ·obtain ⟨q,rest,d1,d2,d3,d4,d5⟩:=h1 hr;have hq:q<9223372036854775808:=d4; (have hv:wI (((et r).1).toNat:Int)=(q:Int):=by rw [d2,BitVec.toNat_ofNat,Nat.mod_eq_of_lt d3,ln a5]);rw [cond_true,hv];by_cases hlim:lim<(q:Int)
   ·rw [decide_eq_true hlim,cond_true];exact ⟨0,7,x.at_,rfl,⟨h.pos,h.le⟩,⟨Int.le_refl _,h0⟩,fun hk=>by cases hk⟩
   ·rw [decide_eq_false hlim,cond_false];exact ⟨(q:Int),x.fault.first,(et r).2,rfl,by rw [d5];exact h.end_ d1,⟨by omega,by omega⟩,fun _=>⟨hf,rest,d1,d5⟩⟩
 ·rw [decide_eq_false hf,cond_false];exact ⟨0,x.fault.first,x.at_,rfl,⟨h.pos,h.le⟩,⟨Int.le_refl _,h0⟩,fun hk=>absurd hk hf⟩
theorem seq_ {l e1 r1 e2 r2:List Int}{a a1 a2:Int}(h0:0≤a)(d1:l.drop a.toNat=e1++r1)(q1:a1=a+(e1.length:Int))(d2:l.drop a1.toNat=e2++r2)(q2:a2=a1+(e2.length:Int)):l.drop a.toNat=(e1++e2)++r2∧a2=a+((e1++e2).length:Int):=by
 (have h1:l.drop a1.toNat=r1:=by rw [q1,show (a+(e1.length:Int)).toNat=a.toNat+e1.length by omega,←List.drop_drop,d1,List.drop_left]);rw [List.append_assoc,←d2,h1];exact ⟨d1,by rw [List.length_append];omega⟩
theorem zfK {α : Type} [Inhabited α] {read : GReader → Option (α × (Int × Int))} {en : α → List Int} {P : α → Prop} {lim : Int} {sz : Nat} (hz : sz ≤ 100) (hb : lV read en P) (h0 : 0 ≤ lim) (hm : lim ≤ 5000) :
    lV (fun x => ((m7 x lim).bind fun r11 =>
      dN (fun (s4 : List α × Int × Int) => some (s4.1, (s4.2.1, s4.2.2)))
      (fun k4 =>
        dU (r11.1 ≤ 9223372036854775807) <|
        di (fun (i_9 : Nat) (next8 : (List α × Int × Int) → Option (List α × (Int × Int))) (s8 : List α × Int × Int) =>
          (read (GReader.mk (Gfault.mk s8.2.1) x.made x.in_ s8.2.2)).bind fun r16 =>
          (bif decide (¬ (kJ (GReader.mk (Gfault.mk r16.2.1) x.made x.in_ r16.2.2)) = 0) then
            some ([], (r16.2.1, r16.2.2))
            else
            dU (dd (s8.1 ++ [r16.1]).length sz) <|
            next8 ((s8.1 ++ [r16.1]), r16.2.1, r16.2.2)))
        (fun (s8 : List α × Int × Int) =>
          k4 (s8.1, s8.2.1, s8.2.2)) (r11.1.toNat - 0) 0 ([], r11.2.1, r11.2.2)))) (fun l => dq l.length ++ l.flatMap en) (fun l => (l.length : Int) ≤ lim) := fun x h => by
  obtain ⟨n, k1, a1, e1, b1, p1, c1⟩ := zjW h0 a5 x h; dsimp only at e1 ⊢; rw [e1]
  have key : ∀ m (acc : List α) (i : Nat) (k a : Int), acc.length + m ≤ lim.toNat → 0 ≤ a ∧ a ≤ (x.in_.length : Int) → ∃ l k' a',
      di (fun (i_9 : Nat) (next8 : (List α × Int × Int) → Option (List α × (Int × Int))) (s8 : List α × Int × Int) =>
          (read (GReader.mk (Gfault.mk s8.2.1) x.made x.in_ s8.2.2)).bind fun r16 =>
          (bif decide (¬ (kJ (GReader.mk (Gfault.mk r16.2.1) x.made x.in_ r16.2.2)) = 0) then
            some ([], (r16.2.1, r16.2.2))
            else
            dU (dd (s8.1 ++ [r16.1]).length sz) <|
            next8 ((s8.1 ++ [r16.1]), r16.2.1, r16.2.2))) (fun s8 : List α × Int × Int => some (s8.1, (s8.2.1, s8.2.2))) m i (acc, k, a) = some (l, (k', a')) ∧ (0 ≤ a' ∧ a' ≤ (x.in_.length : Int)) ∧ (l.length ≤ lim.toNat) ∧
        (k' = 0 → k = 0 ∧ ∃ t rest, l = acc ++ t ∧ t.length = m ∧ x.in_.drop a.toNat = t.flatMap en ++ rest ∧ a' = a + ((t.flatMap en).length : Int)) := by
    intro m
    induction m with
    | zero => intro acc i k a hl ha; exact ⟨acc, k, a, rfl, ha, by omega, fun hk => ⟨hk, [], _, by simp, rfl, by simp; rfl, by simp⟩⟩
    | succ m ih =>
      intro acc i k a hl ha; obtain ⟨v, k2, a2, e2, b2, -, c2⟩ := hb _ (h.to (k := k) ha)
      show ∃ l k' a', (read ⟨⟨k⟩, x.made, x.in_, a⟩).bind _ = some (l, (k', a')) ∧ _
      rw [e2]
      have he : kJ ⟨⟨k2⟩, x.made, x.in_, a2⟩ = k2 := by
        unfold kJ zaB; rw [h.made]; rfl
      show ∃ l k' a', (bif decide (¬ kJ ⟨⟨k2⟩, x.made, x.in_, a2⟩ = 0) then some ([], (k2, a2)) else dU (dd (acc ++ [v]).length sz) (di _ _ m (i + 1) (acc ++ [v], k2, a2))) = some (l, (k', a')) ∧ _
      rw [he]; by_cases hk2 : k2 = 0
      · rw [decide_eq_false (fun hn => hn hk2), cond_false]; (have hal : (acc ++ [v]).length = acc.length + 1 := by rw [List.length_append, List.length_singleton])
        rw [fL (by
          unfold dd; have : (acc ++ [v]).length * sz ≤ 5000 * 100 := Nat.mul_le_mul a5 hz
          omega)]
        obtain ⟨l, k', a', e3, b3, n3, c3⟩ := ih (acc ++ [v]) (i + 1) k2 a2 a5 b2; refine ⟨l, k', a', e3, b3, n3, fun hk => ?_⟩; obtain ⟨f3, t, rest, g1, g2, g3, g4⟩ := c3 hk; obtain ⟨f2, r2, d2, q2⟩ := c2 f3; obtain ⟨d, q⟩ := seq_ ha.1 d2 q2 g3 g4; exact ⟨f2, v :: t, rest, by rw [g1, List.append_assoc]; rfl, by rw [List.length_cons, g2], by rw [List.flatMap_cons]; exact d, by rw [List.flatMap_cons]; exact q⟩
      · rw [decide_eq_true hk2, cond_true]; exact ⟨[], k2, a2, rfl, b2, by simp, fun hk => absurd hk hk2⟩
  obtain ⟨l, k', a', e3, b3, n3, c3⟩ := key n.toNat [] 0 k1 a1 (by simp; omega) b1; refine ⟨l, k', a', ?_, b3, by omega, fun hk => ?_⟩
  · show dU (n ≤ 9223372036854775807) (di _ (fun s8 : List α × Int × Int => some (s8.1, (s8.2.1, s8.2.2))) (n.toNat - 0) 0 ([], k1, a1)) = _
    rw [fL a5, Nat.sub_zero, e3]
  · obtain ⟨f3, t, rest, g1, g2, g3, g4⟩ := c3 hk; rw [List.nil_append] at g1; subst g1; obtain ⟨f1, r1, d1, q1⟩ := c1 f3; obtain ⟨d, q⟩ := seq_ h.pos d1 q1 g3 g4; (have e : d7 n = dq l.length := by unfold d7; rw [g2]); rw [e] at d q; exact ⟨f1, rest, d, q⟩
theorem zfi {fuel:Nat}{n:Int}(hf:20≤fuel)(hn:0≤n∧n≤9223372036854775807):mK fuel n=some (d7 n):=by
 unfold mK;simp only [dN];have hb:∀m:Int,m≤9223372036854775807→(dq m.toNat).length≤9:=fun m hm=>zd2 8 _ a5;have hb0:=hb n hn.2;refine zcA (σ:=Int×List Int) (I:=fun s=>(0≤s.1∧s.1≤9223372036854775807)∧s.2++dq s.1.toNat=d7 n) (μ:=fun s=>(dq s.1.toNat).length) (post:=fun o=>o=some (d7 n)) ⟨hn,rfl⟩ (by show (dq n.toNat).length<fuel;omega) ?_;rintro ⟨m,a⟩ next ⟨hm,hI⟩ hn2;dsimp only at hm hI hn2 ⊢
 have hlen:a.length≤20:=by
  have h1:=congrArg List.length hI;rw [List.length_append] at h1;have:(d7 n).length≤9:=hb0;omega
 by_cases h:m<128
 ·rw [decide_eq_false a5,cond_false,fL (by unfold dd;rw [List.length_append,List.length_singleton];omega),show m=((m.toNat:Nat):Int) by omega,zl7,Nat.mod_eq_of_lt a5,←zdC a5];exact congrArg some hI
 ·have h2:=zed (n:=m.toNat) a5;rw [decide_eq_true a5,cond_true,fL a5,fL (by unfold dd;rw [List.length_append,List.length_singleton];omega),fL a5,ln a5,show m % 128+128=((m.toNat % 128+128:Nat):Int) by omega,zl7,Nat.mod_eq_of_lt a5];refine hn2 _ ⟨by dsimp only;omega,?_⟩ ?_
  ·dsimp only;rw [show (m / 128).toNat=m.toNat / 128 by omega,List.append_assoc,List.singleton_append,←h2];exact hI
  ·dsimp only;rw [show (m / 128).toNat=m.toNat / 128 by omega,h2,List.length_cons];omega
theorem zn9 {k:Nat}(h:k<256):wI (remK .u8 (k:Int) 128)=((k % 128:Nat):Int):=by
 have e:remK .u8 (k:Int) 128=((k % 128:Nat):Int):=by
  show (k:Int).tmod 128=_
  rw [Int.tmod_eq_emod_of_nonneg a5];rfl
 rw [e,ln a5]
def nxF (b:List Int)(next:(Int×Int×Int)→Option (Int×List Int))(s5:Int×Int×Int):Option (Int×List Int):=
 (bif ((decide (s5.2.2<(b.length:Int)))&&(decide (s5.2.2<8))) then
  dU (0≤s5.2.2∧s5.2.2<(b.length:Int)) <|
  (bif decide ((cQ b s5.2.2.toNat)<128) then
   some (wI (s5.1+(wI ((wI (remK .u8 (cQ b s5.2.2.toNat) 128)) *s5.2.1))),(b.drop ((s5.2.2+1).toNat)))
   else
   next (wI (s5.1+(wI ((wI (remK .u8 (cQ b s5.2.2.toNat) 128)) *s5.2.1))),wI (128*s5.2.1),(s5.2.2+1)))
  else
  some ((-1),[]))
theorem zks (fuel:Nat)(b:List Int):jb fuel b=iV (nxF b) fuel (0,1,0):=rfl
theorem zjx {b : List Int} (hb : gX b) {i lo : Nat} (hi : i < b.length) (h8 : i < 8) (hlo : lo < 2 ^ (7 * i)) (next : (Int × Int × Int) → Option (Int × List Int)) : ∃ k : Nat, cQ b i = (k : Int) ∧ k < 256 ∧ lo + k % 128 * 2 ^ (7 * i) < 2 ^ (7 * (i + 1)) ∧
    nxF b next ((lo : Int), ((2 ^ (7 * i) : Nat) : Int), (i : Int)) = bif decide ((k : Int) < 128) then some (((lo + k % 128 * 2 ^ (7 * i) : Nat) : Int), b.drop (i + 1)) else next (((lo + k % 128 * 2 ^ (7 * i) : Nat) : Int), ((2 ^ (7 * (i + 1)) : Nat) : Int), ((i + 1 : Nat) : Int)) := by
  have hbi := hb _ (fX hi); obtain ⟨k, hk⟩ : ∃ k : Nat, cQ b i = (k : Int) := ⟨(cQ b i).toNat, by omega⟩; (have hk2 : k < 256 := by omega); (have e7 : 2 ^ (7 * (i + 1)) = 2 ^ (7 * i) * 128 := by rw [show 7 * (i + 1) = 7 * i + 7 by omega, Nat.pow_add]); have hp : 2 ^ (7 * i) ≤ 2 ^ 49 := Nat.pow_le_pow_right a6 a5; have hmul : k % 128 * 2 ^ (7 * i) ≤ 127 * 2 ^ (7 * i) := Nat.mul_le_mul_right _ a5; refine ⟨k, hk, hk2, by rw [e7]; omega, ?_⟩; unfold nxF;dsimp only; rw [decide_eq_true (show (i : Int) < (b.length : Int) by omega), decide_eq_true (show (i : Int) < 8 by omega), Bool.and_self, cond_true, fL a5, show ((i : Int)).toNat = i by omega, hk, zn9 hk2, show ((i : Int) + 1).toNat = i + 1 by omega]; have ec : ((k % 128 : Nat) : Int) * ((2 ^ (7 * i) : Nat) : Int) = ((k % 128 * 2 ^ (7 * i) : Nat) : Int) := (Int.natCast_mul _ _).symm; rw [ec, e7]; generalize k % 128 * 2 ^ (7 * i) = z at hmul ⊢; generalize 2 ^ (7 * i) = y at hp hlo hmul ⊢; rw [ln (x := (z : Int)) a5, ln (x := (lo : Int) + (z : Int)) a5, ln a5, show (128 : Int) * (y : Int) = ((y * 128 : Nat) : Int) by omega]
  rfl
theorem zf9 {fuel:Nat}{b:List Int}(hf:20≤fuel)(hb:gX b):∃v rest,jb fuel b=some (v,rest)∧gX rest∧(v= -1∨(0≤v∧v<72057594037927936)):=by
 rw [zks];refine zcA (σ:=Int×Int×Int) (I:=fun s=>∃i lo:Nat,i≤8∧lo<2 ^ (7*i)∧s=((lo:Int),((2 ^ (7*i):Nat):Int),(i:Int))) (μ:=fun s=>(8 - s.2.2).toNat) (post:=fun o=>∃v rest,o=some (v,rest)∧gX rest∧(v= -1∨(0≤v∧v<72057594037927936))) ⟨0,0,by decide,by decide,rfl⟩ (by show (8 - (0:Int)).toNat<fuel;omega) ?_;rintro s next ⟨i,lo,h8,hlo,rfl⟩ hn;by_cases hi:i<b.length∧i<8
 ·obtain ⟨k,hk,hk2,hlt,e⟩:=zjx hb hi.1 hi.2 hlo next;rw [e]
  cases decide ((k:Int)<128)
  ·exact hn _ ⟨i+1,_,by omega,hlt,rfl⟩ a9
  ·have h56:2 ^ (7* (i+1))≤2 ^ 56:=Nat.pow_le_pow_right a6 a5;refine ⟨_,_,rfl,fun x hx=>hb x (List.mem_of_mem_drop hx), .inr ⟨by omega,?_⟩⟩;generalize lo+k % 128*2 ^ (7*i)=z at hlt ⊢;omega
 ·unfold nxF;dsimp only;rw [show (decide ((i:Int)<(b.length:Int))&&decide ((i:Int)<8))=false by rw [Bool.and_eq_false_iff,decide_eq_false_iff_not,decide_eq_false_iff_not];omega,cond_false];exact ⟨_,_,rfl,fun x hx=>(by cases hx), .inl rfl⟩
theorem kU:∀n:Nat,gX (dq n):=by
 intro n
 induction n using Nat.strongRecOn with
 |_ n ih=>
  by_cases h:n<128
  ·rw [zdC h];intro x hx;rw [List.mem_singleton] at hx;omega
  ·rw [zed h];intro x hx;rcases List.mem_cons.1 hx with rfl|hx
   ·omega
   ·exact ih (n / 128) a5 x hx
theorem lP {a b:List Int}(ha:gX a)(hb:gX b):gX (a++b):=fun x hx=>(List.mem_append.1 hx).elim (ha x) (hb x)
theorem zdw {α:Type}{l:List α}{g:α→List Int}(h:∀x∈l,gX (g x)):gX (l.flatMap g):=fun y hy=>by
 obtain ⟨x,hx,h2⟩:=List.mem_flatMap.1 hy;exact h x hx y h2
theorem zjq {fuel n:Nat}{rest:List Int}(hf:20≤fuel)(hb:gX rest)(hn:n<2 ^ 56):jb fuel (dq n++rest)=some ((n:Int),rest):=by
 have hB:gX (dq n++rest):=lP (kU n) hb;rw [zks];generalize hbb:dq n++rest=b at hB;refine zcA (σ:=Int×Int×Int) (I:=fun s=>∃i lo q:Nat,i<8∧lo<2 ^ (7*i)∧s=((lo:Int),((2 ^ (7*i):Nat):Int),(i:Int))∧b.drop i=dq q++rest∧lo+q*2 ^ (7*i)=n∧q<2 ^ (7* (8 - i))) (μ:=fun s=>(8 - s.2.2).toNat) (post:=fun o=>o=some ((n:Int),rest)) ⟨0,0,n,by decide,by decide,rfl,hbb.symm,by simp,hn⟩ (by show (8 - (0:Int)).toNat<fuel;omega) ?_;rintro s next ⟨i,lo,q,h8,hlo,rfl,hd,hnq,hq⟩ hn;have hpos:=zl9 q
 have hi:i<b.length:=by
  have h1:=congrArg List.length hd;rw [List.length_drop,List.length_append] at h1;omega
 obtain ⟨k,hk,hk2,hlt,e⟩:=zjx hB hi h8 hlo next;rw [e];rw [List.drop_eq_getElem_cons hi,←eh hi,hk] at hd;by_cases h1:q<128
 ·rw [zdC h1] at hd;obtain ⟨h2,h3⟩:=List.cons.inj hd; (have h2:k=q:=by omega);subst h2;rw [decide_eq_true (show (k:Int)<128 by omega),cond_true,Nat.mod_eq_of_lt h1,hnq];rw [show b.drop (i+1)=rest from h3]
 ·rw [zed h1] at hd;obtain ⟨h2,h3⟩:=List.cons.inj hd; (have h2:k=q % 128+128:=by omega); (have e8:7* (8 - i)=7* (8 - (i+1))+7:=by omega)
  have hq2:q / 128<2 ^ (7* (8 - (i+1))):=by
   rw [e8,Nat.pow_add] at hq;omega
  have hi7:i+1<8:=by
   rcases Nat.lt_or_ge (i+1) 8 with h|h
   ·exact h
   ·rw [show 8 - (i+1)=0 by omega] at hq2;have:q / 128<1:=hq2;omega
  (have e7:2 ^ (7* (i+1))=2 ^ (7*i) *128:=by rw [show 7* (i+1)=7*i+7 by omega,Nat.pow_add]);rw [decide_eq_false (show ¬(k:Int)<128 by omega),cond_false];refine hn _ ⟨i+1,_,q / 128,hi7,hlt,rfl,h3,?_,hq2⟩ a9;rw [show k % 128=q % 128 by omega,e7,←hnq];have hdm:=Nat.div_add_mod q 128
  conv=>rhs;rw [←hdm]
  rw [Nat.add_mul,Nat.mul_comm 128 (q / 128),Nat.mul_assoc,Nat.mul_comm 128,Nat.add_assoc,Nat.add_comm (q % 128*_)]
theorem zm1 {fuel:Nat}{n:Int}{rest:List Int}(hf:20≤fuel)(hb:gX rest)(hn:0≤n∧n<72057594037927936):jb fuel (d7 n++rest)=some (n,rest):=by
 have:=zjq (n:=n.toNat) hf hb a5;rw [show ((n.toNat:Nat):Int)=n by omega] at this;exact this
def In56 (l:List Int):Prop:=∀x∈l,0≤x∧x<72057594037927936
def nmF (fuel:Nat)(i_7:Nat)(next6:(List Int×List Int)→Option (Option (List Int)×List Int))(s6:List Int×List Int):Option (Option (List Int)×List Int):=
 (jb fuel s6.1).bind fun r17=>
 (bif decide (r17.1<0) then
  some (none,[])
  else
  dU (dd (s6.2++[r17.1]).length 8) <|
  next6 (r17.2,(s6.2++[r17.1])))
def toD (l:List Int):GDomain:=⟨cQ l 0,chR (cQ l 1).toNat 56 2⟩
theorem znT {a b:Int}(ha:0≤a∧a≤255)(hb:0≤b∧b≤255)(h:UInt8.ofNat a.toNat=UInt8.ofNat b.toNat):a=b:=by
 have h1:=congrArg UInt8.toNat h;have e:∀k:Nat,(UInt8.ofNat k).toNat=k % 256:=fun k=>rfl;rw [e,e] at h1;omega
theorem zlf:∀ {a b:List Int},gX a→gX b→jW a=jW b→a=b
 | [],[],_,_,_=>rfl
 | [],_ :: _,_,_,h=>by cases h
 |_ :: _,[],_,_,h=>by cases h
 |x :: a,y :: b,ha,hb,h=>by
  obtain ⟨h1,h2⟩:=List.cons.inj h;rw [znT (ha x (List.mem_cons_self ..)) (hb y (List.mem_cons_self ..)) h1,zlf (fun z hz=>ha z (List.mem_cons_of_mem _ hz)) (fun z hz=>hb z (List.mem_cons_of_mem _ hz)) h2]
theorem zmp {a b:List Int}(ha:gX a)(hb:gX b):(jW a == jW b)=decide (a=b):=by
 rw [Bool.eq_iff_iff,beq_iff_eq,decide_eq_true_eq];exact ⟨zlf ha hb,fun h=>by rw [h]⟩
theorem map_id {α β:Type}{l:List α}{f:α→β}{g:β→α}(h:∀x∈l,g (f x)=x):(l.map f).map g=l:=by
 rw [List.map_map]
 conv=>rhs;rw [←List.map_id l]
 exact List.map_congr_left h
def zbQ (fuel:Nat)(x_:GProof)(b:List Int):Option Bool:=
 (zct fuel x_ 30).bind fun r14=>
 (bif ((!r14)||(decide (1000<(b.length:Int)))) then
  (zbY fuel).bind fun r21=>
  some r21
  else
  (zbj b).bind fun r24=>
  (zbN fuel b).bind fun r29=>
  (bif ((decide (¬r24.2=r29.2))||(!(zbH r24.1 r29.1))) then
   some false
   else
   (zbv fuel x_).bind fun r43=>
   (bif !(zbE x_) then
    dN (fun (x_6:Bool)=>
     some x_6)
    (fun k7=>
     (bif decide ((r43.1.length:Int)=0) then
      (bif decide (r43.2=2) then
       (zbY fuel).bind fun r57=>
       k7 r57
       else
       k7 false)
      else
      k7 false))
    else
    (zbj r43.1).bind fun r61=>
    dN (fun (x_10:Bool)=>
     some x_10)
    (fun k11=>
     (bif decide (r43.2=0) then
      (bif decide (r61.2=0) then
       (zbK fuel x_).bind fun r74=>
       (bif ((jW r43.1) == (jW r74)) then
        (bif (zbH x_ r61.1) then
         (zbY fuel).bind fun r84=>
         k11 r84
         else
         k11 false)
        else
        k11 false)
       else
       k11 false)
      else
      k11 false)))))
theorem zeJ (F0:Frz)(w:World)(hF0:F0.At w)(x_:GProof)(vx__0:Value)(hx__0:SlC F0 vx__0 1 (x_.Stations.map eI))(vx__1:Value)(cx__1:List (List Value))(hx__1:SlD cP F0 vx__1 1 cx__1 x_.Lemmas)(b:List Int)(vb:Value)(hb:SlC F0 vb 1 (b.map (eK .u8)))(htab:Tab w)(fuel:Nat)(hfu:100000≤fuel)(r:Bool)(hr:zbQ fuel x_ b=some r):Calls Tryz.prog 7 #[.agg [vx__0,vx__1].toArray,vb] w fun e w'=>e= .returned (.bool r)∧Below w.heap.size w w':=by
 have hk:=hr;unfold zbQ at hk;haveI:=hx__0.oneC;haveI:=hx__1.1.oneC;haveI:=hb.oneC;obtain ⟨S0,F1,rfl,hS0,hp0⟩:=fE hF0;have hM0:¬(fun _:Nat=>False) 0:=fun h=>h;have htk:∀ {hs:HS} {w':World},Hp w (fun _=>False) hs w'→Tab w':=fun hw=>htab.keptF hw;refine dy Tryz.func7 rfl rfl rfl hp0 ?_;refine kg ?_;rintro _ _ ⟨g2,rfl,rfl⟩;refine dp ?_;refine iZ ?_;have hq:=dV hk;clear hk;obtain ⟨r14,hr14,hk⟩:=hq; (try dsimp only at hk);refine dk (ι:=Unit) (fun z=>[(1,vb),(2, .pointer (some ⟨g2,0,none⟩)),(20, .bool ((!r14)||(decide (1000<(b.length:Int)))))]) (fun z=>[.row g2 33 [vx__0,vx__1], .fr F1]) (fun z=>True) ?_ ?_
 ·refine fg ?_;refine iu ?_;refine cX (cS rfl rfl rfl (fun w hw=>zhC _ w (hw.fr (i:=1) rfl) x_ vx__0 hx__0 vx__1 cx__1 hx__1 30 fuel r14 hr14)) ?_;refine fb ?_;refine ez ?_;refine dO rfl rfl rfl (fun h1=>?_) (fun h1=>?_)
  ·refine lY ?_;exact c4 () trivial (.c (.c (.b (jA h1).symm .nil))) (List.Sublist.refl _)
  ·refine q2A ?_;have hm18:b.length≤9223372036854775807:=(List.length_map _)▸hb.max;refine q1W ?_;exact c4 () trivial (.c (.c (.b (iC h1) .nil))) (List.Sublist.refl _)
 ·rintro _ _;have hm18:b.length≤9223372036854775807:=(List.length_map _)▸hb.max;refine T.cond rfl (fun h2=>?_) (fun h2=>?_)
  ·replace hk:=dC hk h2;refine T.seq ?_;have hq:=dV hk;clear hk;obtain ⟨r21,hr21,hk⟩:=hq; (try dsimp only at hk);refine fg ?_;refine cX (cS rfl rfl rfl (fun w hw=>zdY _ w (hw.fr (i:=1) rfl) (htab.keptF hw) fuel hfu r21 hr21)) ?_;refine mr ?_;refine kh ?_;obtain rfl:=Option.some.inj hk;exact eY
  ·have p2:=h2; (try simp only [c7] at p2);replace hk:=dD hk h2;refine iK ?_;have hq:=dV hk;clear hk;obtain ⟨r24,hr24,hk⟩:=hq; (try dsimp only at hk);refine fk ?_;refine cX (eg 1 rfl rfl rfl rfl (fun w hw hF=>zeO _ w hF b vb hb r24 hr24)) ?_;rintro _ _ ⟨⟨v24_0_0,v24_0_1,cs24_0_1⟩,F2,le1_2,⟨hf24_0_0,hf24_0_1⟩,rfl,rfl⟩;dsimp only at hf24_0_0 hf24_0_1 ⊢;haveI:=hf24_0_0.oneC;haveI:=hf24_0_1.1.oneC;refine fF ?_;refine gw ?_;rintro _ _ ⟨g5,rfl,rfl⟩;refine iW ?_;refine ki ?_;have hq:=dV hk;clear hk;obtain ⟨r29,hr29,hk⟩:=hq; (try dsimp only at hk);refine fk ?_;refine cX (eg 2 rfl rfl rfl rfl (fun w hw hF=>zg1 _ w hF b vb (SlC.mono hb le1_2) fuel r29 hr29)) ?_;rintro _ _ ⟨⟨v29_0_0,v29_0_1,cs29_0_1⟩,F3,le2_3,⟨hf29_0_0,hf29_0_1⟩,rfl,rfl⟩;dsimp only at hf29_0_0 hf29_0_1 ⊢;have le1_3:=le1_2.trans le2_3;haveI:=hf29_0_0.oneC;haveI:=hf29_0_1.1.oneC;refine fF ?_;refine gw ?_;rintro _ _ ⟨g7,rfl,rfl⟩;refine iW ?_;refine dp ?_;refine iZ ?_;refine dk (ι:=Unit) (fun z=>[(2, .pointer (some ⟨g2,0,none⟩)),(40, .bool ((decide (¬r24.2=r29.2))||(!(zbH r24.1 r29.1))))]) (fun z=>[.row g7 33 [v29_0_0,v29_0_1], .row g5 33 [v24_0_0,v24_0_1], .row g2 33 [vx__0,vx__1], .fr F3]) (fun z=>True) ?_ ?_
   ·refine fg ?_;refine TL.run 4 rfl ?_;refine dO rfl rfl rfl (fun h3=>?_) (fun h3=>?_)
    ·have p3:=of_decide_eq_true h3;refine mi ?_;exact c4 () trivial (.c (.b (jA h3).symm .nil)) (List.Sublist.refl _)
    ·have p3:=of_decide_eq_false h3;refine m2 ?_;refine iu ?_;refine cX (cS rfl rfl rfl (fun w hw=>zei _ w (hw.fr (i:=3) rfl) r24.1 v24_0_0 (SlC.mono hf24_0_0 le2_3) v24_0_1 cs24_0_1 (SlD.mono (rep:=cP) (fun _ _ _ _=>R_List_GChoice.mono) hf24_0_1 le2_3) r29.1 v29_0_0 hf29_0_0 v29_0_1 cs29_0_1 hf29_0_1)) ?_;refine mq ?_;exact c4 () trivial (.c (.b (iC h3) .nil)) (List.Sublist.refl _)
   ·rintro _ _;refine T.cond rfl (fun h4=>?_) (fun h4=>?_)
    ·replace hk:=dC hk h4;refine hD ?_;obtain rfl:=Option.some.inj hk;exact eY
    ·have p4:=h4; (try simp only [c7] at p4);replace hk:=dD hk h4;refine iK ?_;have hq:=dV hk;clear hk;obtain ⟨r43,hr43,hk⟩:=hq; (try dsimp only at hk);refine fg ?_;refine cR (dY 2) ?_;refine cX (dI [3,0,1,2] [] [.row g7 33 [v29_0_0,v29_0_1], .row g5 33 [v24_0_0,v24_0_1], .row g2 33 [vx__0,vx__1]] rfl rfl rfl rfl a6 (fun w hw hw2 hF=>zeM _ w hF x_ vx__0 (SlC.mono hx__0 le1_3) vx__1 cx__1 (SlD.mono (rep:=cP) (fun _ _ _ _=>R_List_GChoice.mono) hx__1 le1_3) fuel r43 hr43)) ?_;rintro _ _ ⟨v43_0_0, -,rfl,rfl⟩;refine q23 ?_;intro iv43_0_0 hmv43_0_0;refine kb ?_;refine iM ?_;refine cR (dY 4) ?_;refine cX (cS rfl rfl rfl (fun w hw=>ze8 _ w (hw.fr (i:=1) rfl) x_ vx__0 (SlC.mono hx__0 le1_3) vx__1 cx__1 (SlD.mono (rep:=cP) (fun _ _ _ _=>R_List_GChoice.mono) hx__1 le1_3))) ?_;refine fb ?_;refine dL ?_;refine T.cond rfl (fun h5=>?_) (fun h5=>?_)
     ·replace hk:=dC hk h5;refine T.seq ?_; (try dsimp only at hk);have hq:=eN hk;clear hk;obtain ⟨k7,hk7,hk⟩:=hq; (try dsimp only at hk);refine dk (ι:=Bool) (fun z=>[(4, .bool z)]) (fun z=>[.fr F3]) (fun z=>k7 z=some r) ?_ ?_
      ·refine fk ?_;refine cR (jt 0 rfl rfl rfl) ?_;refine ez ?_;refine dO rfl rfl rfl (fun h8=>?_) (fun h8=>?_)
       ·have p8:=of_decide_eq_true h8;replace hk:=dC hk h8;refine TL.run 4 rfl ?_;refine dO rfl rfl rfl (fun h9=>?_) (fun h9=>?_)
        ·have p9:=of_decide_eq_true h9;replace hk:=dC hk h9;have hq:=dV hk;clear hk;obtain ⟨r57,hr57,hk⟩:=hq;refine cX (cS rfl rfl rfl (fun w hw=>zdY _ w (hw.fr (i:=1) rfl) (htab.keptF hw) fuel hfu r57 hr57)) ?_;refine mq ?_;refine ll ?_;exact c4 r57 hk (.c .nil) (List.Sublist.refl _)
        ·have p9:=of_decide_eq_false h9;replace hk:=dD hk h9;refine kd ?_;refine ll ?_;exact q4r
       ·have p8:=of_decide_eq_false h8;replace hk:=dD hk h8;refine TL.run 7 rfl ?_;refine TL.nil ?_;refine ll ?_;exact q4r
      ·rintro x_6 hk;rw [←hk7] at hk; (try dsimp only at hk);refine T.ret (cV ?_);obtain rfl:=Option.some.inj hk;exact eY
     ·replace hk:=dD hk h5;refine iK ?_;refine q3b ?_;rintro F4 ⟨le3_4,hz4⟩;refine gY ?_;have le1_4:=le1_3.trans le3_4;have hf4:=hz4.toF rfl (fun _=>rfl);haveI:=hf4.oneC;have hq:=dV hk;clear hk;obtain ⟨r61,hr61,hk⟩:=hq; (try dsimp only at hk);refine fk ?_;refine cX (eg 0 rfl rfl rfl rfl (fun w hw hF=>zeO _ w hF r43.1 v43_0_0 hf4 r61 hr61)) ?_;rintro _ _ ⟨⟨v61_0_0,v61_0_1,cs61_0_1⟩,F5,le4_5,⟨hf61_0_0,hf61_0_1⟩,rfl,rfl⟩;dsimp only at hf61_0_0 hf61_0_1 ⊢;have le1_5:=le1_4.trans le4_5;haveI:=hf61_0_0.oneC;haveI:=hf61_0_1.1.oneC;refine fF ?_;refine gw ?_;rintro _ _ ⟨g11,rfl,rfl⟩;refine iW ?_;refine ki ?_; (try dsimp only at hk);have hq:=eN hk;clear hk;obtain ⟨k11,hk11,hk⟩:=hq; (try dsimp only at hk);refine dk (ι:=Bool×FzB w (fun _=>False) S0) (fun z=>[(4, .bool z.1)]) (fun z=>[.fr z.2]) (fun z=>k11 z.1=some r∧F5.toFrz.Le z.2.toFrz) ?_ ?_
      ·refine d8 (sN 0 10 (.eff 10 (.eff 11 (sN 12 5 (.eff 17 (sN 18 2 (.eff 20 (.still 21 (.still 22 .done))))))))) _ a7 (List.Sublist.refl _) ?_;refine kj ?_;refine fC rfl rfl rfl rfl (fun h12=>?_) (fun h12=>?_)
       ·have p12:=of_decide_eq_true h12;replace hk:=dC hk h12;refine TS.run 4 rfl ?_;refine fC rfl rfl rfl rfl (fun h13=>?_) (fun h13=>?_)
        ·have p13:=of_decide_eq_true h13;replace hk:=dC hk h13;refine gj ?_;refine cZ rfl (kv 1 (e:=5) a7 a7 a7 rfl rfl rfl (SlC.mono hf4 le4_5)) ?_;refine cZ rfl (dY 4) ?_;refine dQ ?_;have hq:=dV hk;clear hk;obtain ⟨r74,hr74,hk⟩:=hq;refine dx rfl (Wt.some) rfl rfl (eg 1 rfl rfl rfl rfl (fun w hw hF=>zeL _ w hF x_ vx__0 (SlC.mono hx__0 le1_5) vx__1 cx__1 (SlD.mono (rep:=cP) (fun _ _ _ _=>R_List_GChoice.mono) hx__1 le1_5) fuel r74 hr74)) ?_;rintro _ _ ⟨v74_0_0,F7,le5_7,hf74_0_0,hq,rfl⟩;obtain rfl:=hq.symm;have le1_7:=le1_5.trans le5_7;haveI:=hf74_0_0.oneC;refine ⟨(fun w hw=>(hw.frLe (i:=1) rfl le5_7).sub Sx),?_⟩;refine dQ ?_;refine ga rfl (Wt.some) rfl rfl (kv 1 (e:=5) a7 a7 a7 rfl rfl rfl hf74_0_0) (fun w hw=>(hw.frLe (i:=1) rfl le5_7).sub Sx) ?_;refine cZ rfl (Yv.cf (a:=(jW r43.1)) (b:=(jW r74)) rfl rfl rfl) ?_;refine gJ ?_;refine fC rfl rfl rfl rfl (fun h14=>?_) (fun h14=>?_)
         ·replace hk:=dC hk h14;refine cZ rfl (dY 4) ?_;refine q2n ?_;refine dQ ?_;refine dx rfl (Wt.some) rfl rfl (cS rfl rfl rfl (fun w hw=>zei _ w (hw.fr (i:=1) rfl) x_ vx__0 (SlC.mono hx__0 le1_7) vx__1 cx__1 (SlD.mono (rep:=cP) (fun _ _ _ _=>R_List_GChoice.mono) hx__1 le1_7) r61.1 v61_0_0 (SlC.mono hf61_0_0 le5_7) v61_0_1 cs61_0_1 (SlD.mono (rep:=cP) (fun _ _ _ _=>R_List_GChoice.mono) hf61_0_1 le5_7))) ?_;refine fb ?_;refine ⟨(fun w hw=>(hw.frLe (i:=1) rfl le5_7).sub Sx),?_⟩;refine gJ ?_;refine dQ ?_;refine TSo.gs rfl rfl rfl rfl (fun h15=>?_) (fun h15=>?_)
          ·replace hk:=dC hk h15;have hq:=dV hk;clear hk;obtain ⟨r84,hr84,hk⟩:=hq;refine dx rfl (Wt.some) rfl rfl (cS rfl rfl rfl (fun w hw=>zdY _ w (hw.fr (i:=1) rfl) (htab.keptF hw) fuel hfu r84 hr84)) ?_;refine fb ?_;refine ⟨(fun w hw=>(hw.frLe (i:=1) rfl le5_7).sub Sx),?_⟩;refine mA ?_;refine ll ?_;exact c4 (r84,F7) ⟨hk,le5_7⟩ (.c .nil) (List.Sublist.refl _)
          ·replace hk:=dD hk h15;refine TSo.off rfl (Wt.not rfl rfl rfl rfl) rfl rfl ?_;refine mA ?_;refine ll ?_;exact c4 (false,F7) ⟨hk,le5_7⟩ (.c .nil) (List.Sublist.refl _)
         ·replace hk:=dD hk h14;refine gJ ?_;refine jK ?_;refine gJ ?_;refine jK ?_;refine mA ?_;refine ll ?_;exact c4 (false,F7) ⟨hk,le5_7⟩ (.c .nil) (List.Sublist.refl _)
        ·have p13:=of_decide_eq_false h13;replace hk:=dD hk h13;refine kj ?_;refine jK ?_;refine jK ?_;refine TS.run 5 rfl ?_;refine jK ?_;refine gJ ?_;refine jK ?_;refine mA ?_;refine ll ?_;exact c4 (false,F5) ⟨hk,(Frz.Le.refl _)⟩ (.c .nil) (List.Sublist.refl _)
       ·have p12:=of_decide_eq_false h12;replace hk:=dD hk h12;refine TS.run 7 rfl ?_;refine jK ?_;refine jK ?_;refine TS.run 5 rfl ?_;refine jK ?_;refine gJ ?_;refine jK ?_;refine mA ?_;refine ll ?_;exact c4 (false,F5) ⟨hk,(Frz.Le.refl _)⟩ (.c .nil) (List.Sublist.refl _)
      ·rintro ⟨x_10,F6⟩ ⟨hk,le5_6⟩; (try dsimp only at *);rw [←hk11] at hk; (try dsimp only at hk);refine T.ret ?_;obtain rfl:=Option.some.inj hk;exact eY
end Go.Proofs.YtogbggmckmnlfaaGreatDoor
