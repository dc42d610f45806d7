/- Yv P5 P6 P7 P8 P9 J1: shortened and put together by squeeze.py. -/
import Derived.Test.YtmnjbhkcfghebaaGreatDoorQ13
set_option maxRecDepth 100000
set_option maxHeartbeats 4000000
set_option linter.unusedVariables false
set_option linter.unusedSectionVars false
set_option linter.unusedSimpArgs false
namespace Go.Proofs.YtmnjbhkcfghebaaGreatDoor
open Go.RowKit
def kT (b:List Int)(at_:Int):Option (Int×Int×Int):=
 dO (fun (_:Unit)=>
 some (0,at_,6))
 (fun k1=>
 dN (fun (i_4:Nat) (next3:BitVec 64→Option (Int×Int×Int)) (n_2:BitVec 64)=>
 (bif decide ((b.length:Int)≤wI (at_+(i_4:Int))) then
 some (0,at_,4)
 else
 dB (0≤wI (at_+(i_4:Int))∧wI (at_+(i_4:Int))<(b.length:Int)) <|
 (bif decide ((nth b ((wI (at_+(i_4:Int))).toNat))<128) then
 (bif ((decide (0<(i_4:Int)))&&(decide ((nth b ((wI (at_+(i_4:Int))).toNat))=0))) then
 some (0,at_,6)
 else
 some ((wI ((n_2 ||| ((BitVec.ofInt 64 (andK .u8 (nth b ((wI (at_+(i_4:Int))).toNat)) 127)) <<< ((7* (i_4:Int)).toNat))).toNat:Int)),((wI (at_+(i_4:Int)))+1),0))
 else
 next3 (n_2 ||| ((BitVec.ofInt 64 (andK .u8 (nth b ((wI (at_+(i_4:Int))).toNat)) 127)) <<< ((7* (i_4:Int)).toNat))))))
 (fun (n_2:BitVec 64)=>
 k1 ()) (9 - 0) 0 (0#64))
theorem zdc (F0:Frz)(w:World)(hF0:F0.At w)(b:List Int)(vb:Value)(hb:SlC F0 vb 1 (b.map (eK .u8)))(at_:Int)(r:Int×Int×Int)(hr:kT b at_=some r):Calls Tryz.prog 111 #[vb, .int .i64 at_] w fun e w'=>e= .returned (.tuple #[.int .i64 r.1, .int .i64 r.2.1, .int .i64 r.2.2])∧Below w.heap.size w w':=by
 have hk:=hr;unfold kT at hk;haveI:=hb.oneC;obtain ⟨S0,F1,rfl,hS0,hp0⟩:=eH hF0;refine dT Tryz.func111 rfl rfl rfl hp0 ?_;refine iY ?_;refine q4o ?_;have hq:=ek hk;clear hk;obtain ⟨k1,hk1,hk⟩:=hq; (try dsimp only at hk);refine dk (ι:=Unit) (fun z=>[(1, .int .i64 at_)]) (fun z=>[.fr F1]) (fun z=>k1 ()=some r) ?_ ?_
 ·have hq:=fX hk;clear hk;obtain ⟨f3,kk3,hf3,hkk3,hk⟩:=hq;refine ff ?_;refine T.loop (ι:=Nat×BitVec 64) (fun z=>[(0,vb),(1, .int .i64 at_),(7,U z.2),(8, .int .i64 (z.1:Int))]) (fun z=>[.fr F1]) (fun z=>dN f3 kk3 (9 - z.1) z.1 z.2=some r) (fun z=>9 - z.1) (0,0#64) ?_ ?_ ?_ ?_
  ·exact hk
  ·exact jB
  ·exact fa
  ·rintro ⟨i_4,n_2⟩ hk; (try dsimp only at *);refine j3 ?_;refine T.cond rfl (fun h5=>?_) (fun h5=>?_)
   ·have p5:=of_decide_eq_true h5;rw [fW a6] at hk;generalize hn3:dN f3 kk3 (9 - (i_4+1)) (i_4+1)=next3 at hk;rw [←hf3] at hk; (try dsimp only at hk);refine T.skip (K.seq (T.seq (T.block (T.seq (ee ?_)))));refine ep ?_;refine q2a ?_;refine dH ?_;refine q17 ?_;have hm18:b.length≤9223372036854775807:=(List.length_map _)▸hb.max;refine ez ?_;refine T.cond rfl (fun h6=>?_) (fun h6=>?_)
    ·have p6:=of_decide_eq_true h6;replace hk:=dt hk h6;refine ee ?_;refine iv ?_;refine mB ?_;obtain rfl:=Option.some.inj hk;exact kI
    ·have p6:=of_decide_eq_false h6;replace hk:=dw hk h6;refine fV ?_;have hq:(0≤wI (at_+(i_4:Int))∧wI (at_+(i_4:Int))<(b.length:Int))∧_:=dJ hk;clear hk;obtain ⟨g25,hk⟩:=hq; (try dsimp only at hk);refine q2w ?_;refine iw ?_;refine q1E ?_;refine T.cond rfl (fun h7=>?_) (fun h7=>?_)
     ·have p7:=of_decide_eq_true h7;replace hk:=dt hk h7;refine li ?_;refine dk (ι:=Unit) (fun z=>[(1, .int .i64 at_),(7,U (n_2 ||| ((BitVec.ofInt 64 (andK .u8 (nth b ((wI (at_+(i_4:Int))).toNat)) 127)) <<< ((7* (i_4:Int)).toNat)))),(8, .int .i64 (i_4:Int)),(42, .bool ((decide (0<(i_4:Int)))&&(decide ((nth b ((wI (at_+(i_4:Int))).toNat))=0))))]) (fun z=>[.fr F1]) (fun z=>True) ?_ ?_
      ·refine gR ?_;refine dp rfl rfl rfl (fun h8=>?_) (fun h8=>?_)
       ·have p8:=of_decide_eq_true h8;refine iU ?_;exact dg () trivial (.c (.c (.c (.b (iX h8) .nil)))) (List.Sublist.refl _)
       ·have p8:=of_decide_eq_false h8;refine iU ?_;exact dg () trivial (.c (.c (.c (.b (gQ h8).symm .nil)))) (List.Sublist.refl _)
      ·rintro _ _;refine T.cond rfl (fun h9=>?_) (fun h9=>?_)
       ·have p9:=h9; (try simp only [iy] at p9);replace hk:=dt hk h9;refine ee ?_;refine iv ?_;refine mB ?_;obtain rfl:=Option.some.inj hk;exact kI
       ·replace hk:=dw hk h9;refine iz ?_;refine dH ?_;refine cY (dY (z:=((n_2 ||| ((BitVec.ofInt 64 (andK .u8 (nth b ((wI (at_+(i_4:Int))).toNat)) 127)) <<< ((7* (i_4:Int)).toNat))).toNat:Int))) ?_;refine ep ?_;refine q2a ?_;refine q2s ?_;refine fU ?_;refine kE ?_;obtain rfl:=Option.some.inj hk;exact kI
     ·have p7:=of_decide_eq_false h7;replace hk:=dw hk h7;refine q1j ?_;refine dH ?_;refine kC ?_;rw [←hn3] at hk;exact q5o
   ·have p5:=of_decide_eq_false h5;rw [fY a6,←hkk3] at hk; (try dsimp only at hk);refine fi ?_;exact q4F
 ·rintro _ hk;rw [←hk1] at hk; (try dsimp only at hk);refine ee ?_;refine iv ?_;refine ik ?_;obtain rfl:=Option.some.inj hk;exact kI
def zdg (b:List Int)(at_:Int)(limit:Int):Option (Int×Int×Int):=
 (kT b at_).bind fun r15=>
 (bif ((decide (r15.2.2=0))&&(decide (limit<r15.1))) then
 some (0,at_,7)
 else
 some (r15.1,r15.2.1,r15.2.2))
theorem zhz (F0:Frz)(w:World)(hF0:F0.At w)(b:List Int)(vb:Value)(hb:SlC F0 vb 1 (b.map (eK .u8)))(at_:Int)(limit:Int)(r:Int×Int×Int)(hr:zdg b at_ limit=some r):Calls Tryz.prog 110 #[vb, .int .i64 at_, .int .i64 limit] w fun e w'=>e= .returned (.tuple #[.int .i64 r.1, .int .i64 r.2.1, .int .i64 r.2.2])∧Below w.heap.size w w':=by
 have hk:=hr;unfold zdg at hk;haveI:=hb.oneC;obtain ⟨S0,F1,rfl,hS0,hp0⟩:=eH hF0;refine dT Tryz.func110 rfl rfl rfl hp0 ?_;refine iY ?_;refine fv ?_;have hq:=dC hk;clear hk;obtain ⟨r15,hr15,hk⟩:=hq; (try dsimp only at hk);refine eZ ?_;refine de (dj rfl rfl rfl (fun w hw=>zdc _ w (hw.fr (i:=0) rfl) b vb hb at_ r15 hr15)) ?_;refine eA ?_;refine TL.run 7 rfl ?_;refine jv ?_;refine dk (ι:=Unit) (fun z=>[(1, .int .i64 at_),(9, .int .i64 r15.1),(10, .int .i64 r15.2.1),(11, .int .i64 r15.2.2),(25, .bool ((decide (r15.2.2=0))&&(decide (limit<r15.1))))]) (fun z=>[.fr F1]) (fun z=>True) ?_ ?_
 ·refine gR ?_;refine dp rfl rfl rfl (fun h1=>?_) (fun h1=>?_)
  ·have p1:=of_decide_eq_true h1;refine iK ?_;exact dg () trivial (.c (.c (.c (.c (.b (iX h1) .nil))))) (List.Sublist.refl _)
  ·have p1:=of_decide_eq_false h1;refine iK ?_;exact dg () trivial (.c (.c (.c (.c (.b (gQ h1).symm .nil))))) (List.Sublist.refl _)
 ·rintro _ _;refine T.cond rfl (fun h2=>?_) (fun h2=>?_)
  ·have p2:=h2; (try simp only [iy] at p2);replace hk:=dt hk h2;refine ee ?_;refine iv ?_;refine jF ?_;obtain rfl:=Option.some.inj hk;exact kI
  ·replace hk:=dw hk h2;refine iz ?_;refine TL.run 6 rfl ?_;refine ik ?_;obtain rfl:=Option.some.inj hk;exact kI
def zci (b:List Int)(at_:Int):Option (Int×Int×Int):=
 dO (fun (_:Unit)=>
 some (0,at_,6))
 (fun k1=>
 dN (fun (i_4:Nat) (next3:BitVec 64→Option (Int×Int×Int)) (n_2:BitVec 64)=>
 (bif decide ((b.length:Int)≤wI (at_+(i_4:Int))) then
 some (0,at_,4)
 else
 dB (0≤wI (at_+(i_4:Int))∧wI (at_+(i_4:Int))<(b.length:Int)) <|
 (bif ((decide ((i_4:Int)=9))&&(decide (1<(nth b ((wI (at_+(i_4:Int))).toNat))))) then
 some (0,at_,6)
 else
 (bif decide ((nth b ((wI (at_+(i_4:Int))).toNat))<128) then
 (bif ((decide (0<(i_4:Int)))&&(decide ((nth b ((wI (at_+(i_4:Int))).toNat))=0))) then
 some (0,at_,6)
 else
 dB (¬2#64=0#64) <|
 (bif decide ((((n_2 ||| ((BitVec.ofInt 64 (andK .u8 (nth b ((wI (at_+(i_4:Int))).toNat)) 127)) <<< ((7* (i_4:Int)).toNat))) % (2#64)).toNat:Int)=((0#64).toNat:Int)) then
 dB (¬2#64=0#64) <|
 some ((wI (((n_2 ||| ((BitVec.ofInt 64 (andK .u8 (nth b ((wI (at_+(i_4:Int))).toNat)) 127)) <<< ((7* (i_4:Int)).toNat))) / (2#64)).toNat:Int)),((wI (at_+(i_4:Int)))+1),0)
 else
 dB (¬2#64=0#64) <|
 some (wI ((wI (0 - (wI (((n_2 ||| ((BitVec.ofInt 64 (andK .u8 (nth b ((wI (at_+(i_4:Int))).toNat)) 127)) <<< ((7* (i_4:Int)).toNat))) / (2#64)).toNat:Int)))) - 1),((wI (at_+(i_4:Int)))+1),0)))
 else
 next3 (n_2 ||| ((BitVec.ofInt 64 (andK .u8 (nth b ((wI (at_+(i_4:Int))).toNat)) 127)) <<< ((7* (i_4:Int)).toNat)))))))
 (fun (n_2:BitVec 64)=>
 k1 ()) (10 - 0) 0 (0#64))
theorem zhj (F0:Frz)(w:World)(hF0:F0.At w)(b:List Int)(vb:Value)(hb:SlC F0 vb 1 (b.map (eK .u8)))(at_:Int)(r:Int×Int×Int)(hr:zci b at_=some r):Calls Tryz.prog 112 #[vb, .int .i64 at_] w fun e w'=>e= .returned (.tuple #[.int .i64 r.1, .int .i64 r.2.1, .int .i64 r.2.2])∧Below w.heap.size w w':=by
 have hk:=hr;unfold zci at hk;haveI:=hb.oneC;obtain ⟨S0,F1,rfl,hS0,hp0⟩:=eH hF0;refine dT Tryz.func112 rfl rfl rfl hp0 ?_;refine iY ?_;refine q4o ?_;have hq:=ek hk;clear hk;obtain ⟨k1,hk1,hk⟩:=hq; (try dsimp only at hk);refine dk (ι:=Unit) (fun z=>[(1, .int .i64 at_)]) (fun z=>[.fr F1]) (fun z=>k1 ()=some r) ?_ ?_
 ·have hq:=fX hk;clear hk;obtain ⟨f3,kk3,hf3,hkk3,hk⟩:=hq;refine ff ?_;refine T.loop (ι:=Nat×BitVec 64) (fun z=>[(0,vb),(1, .int .i64 at_),(7,U z.2),(8, .int .i64 (z.1:Int))]) (fun z=>[.fr F1]) (fun z=>dN f3 kk3 (10 - z.1) z.1 z.2=some r) (fun z=>10 - z.1) (0,0#64) ?_ ?_ ?_ ?_
  ·exact hk
  ·exact jB
  ·exact fa
  ·rintro ⟨i_4,n_2⟩ hk; (try dsimp only at *);refine j3 ?_;refine T.cond rfl (fun h5=>?_) (fun h5=>?_)
   ·have p5:=of_decide_eq_true h5;rw [fW a6] at hk;generalize hn3:dN f3 kk3 (10 - (i_4+1)) (i_4+1)=next3 at hk;rw [←hf3] at hk; (try dsimp only at hk);refine T.skip (K.seq (T.seq (T.block (T.seq (ee ?_)))));refine ep ?_;refine q2a ?_;refine dH ?_;refine q17 ?_;have hm18:b.length≤9223372036854775807:=(List.length_map _)▸hb.max;refine ez ?_;refine T.cond rfl (fun h6=>?_) (fun h6=>?_)
    ·have p6:=of_decide_eq_true h6;replace hk:=dt hk h6;refine ee ?_;refine iv ?_;refine mB ?_;obtain rfl:=Option.some.inj hk;exact kI
    ·have p6:=of_decide_eq_false h6;replace hk:=dw hk h6;refine fV ?_;have hq:(0≤wI (at_+(i_4:Int))∧wI (at_+(i_4:Int))<(b.length:Int))∧_:=dJ hk;clear hk;obtain ⟨g25,hk⟩:=hq; (try dsimp only at hk);refine q2w ?_;refine jr ?_;refine dk (ι:=Unit) (fun z=>[(0,vb),(1, .int .i64 at_),(7,U n_2),(8, .int .i64 (i_4:Int)),(9, .int .u8 (nth b ((wI (at_+(i_4:Int))).toNat))),(32, .bool ((decide ((i_4:Int)=9))&&(decide (1<(nth b ((wI (at_+(i_4:Int))).toNat))))))]) (fun z=>[.fr F1]) (fun z=>True) ?_ ?_
     ·refine gR ?_;refine dp rfl rfl rfl (fun h7=>?_) (fun h7=>?_)
      ·have p7:=of_decide_eq_true h7;refine iU ?_;exact dg () trivial (.c (.c (.c (.c (.c (.b (iX h7) .nil)))))) (List.Sublist.refl _)
      ·have p7:=of_decide_eq_false h7;refine iU ?_;exact dg () trivial (.c (.c (.c (.c (.c (.b (gQ h7).symm .nil)))))) (List.Sublist.refl _)
     ·rintro _ _;refine T.cond rfl (fun h8=>?_) (fun h8=>?_)
      ·have p8:=h8; (try simp only [iy] at p8);replace hk:=dt hk h8;refine ee ?_;refine iv ?_;refine mB ?_;obtain rfl:=Option.some.inj hk;exact kI
      ·replace hk:=dw hk h8;refine iz ?_;refine q1E ?_;refine T.cond rfl (fun h9=>?_) (fun h9=>?_)
       ·have p9:=of_decide_eq_true h9;replace hk:=dt hk h9;refine li ?_;refine dk (ι:=Unit) (fun z=>[(1, .int .i64 at_),(7,U (n_2 ||| ((BitVec.ofInt 64 (andK .u8 (nth b ((wI (at_+(i_4:Int))).toNat)) 127)) <<< ((7* (i_4:Int)).toNat)))),(8, .int .i64 (i_4:Int)),(49, .bool ((decide (0<(i_4:Int)))&&(decide ((nth b ((wI (at_+(i_4:Int))).toNat))=0))))]) (fun z=>[.fr F1]) (fun z=>True) ?_ ?_
        ·refine gR ?_;refine dp rfl rfl rfl (fun h10=>?_) (fun h10=>?_)
         ·have p10:=of_decide_eq_true h10;refine iU ?_;exact dg () trivial (.c (.c (.c (.b (iX h10) .nil)))) (List.Sublist.refl _)
         ·have p10:=of_decide_eq_false h10;refine iU ?_;exact dg () trivial (.c (.c (.c (.b (gQ h10).symm .nil)))) (List.Sublist.refl _)
        ·rintro _ _;refine T.cond rfl (fun h11=>?_) (fun h11=>?_)
         ·have p11:=h11; (try simp only [iy] at p11);replace hk:=dt hk h11;refine ee ?_;refine iv ?_;refine mB ?_;obtain rfl:=Option.some.inj hk;exact kI
         ·replace hk:=dw hk h11;refine q2y ?_;have hq:(¬2#64=0#64)∧_:=dJ hk;clear hk;obtain ⟨g52,hk⟩:=hq; (try dsimp only at hk);refine eF ?_;refine cY (my (a:=(n_2 ||| ((BitVec.ofInt 64 (andK .u8 (nth b ((wI (at_+(i_4:Int))).toNat)) 127)) <<< ((7* (i_4:Int)).toNat)))) (b:=2#64) rfl rfl rfl g52) ?_;refine ez ?_;refine T.cond rfl (fun h12=>?_) (fun h12=>?_)
          ·replace hk:=dt hk h12;refine T.seq ?_;have hq:(¬2#64=0#64)∧_:=dJ hk;clear hk;obtain ⟨g55,hk⟩:=hq; (try dsimp only at hk);refine eF ?_;refine cY (lx (a:=(n_2 ||| ((BitVec.ofInt 64 (andK .u8 (nth b ((wI (at_+(i_4:Int))).toNat)) 127)) <<< ((7* (i_4:Int)).toNat)))) (b:=2#64) rfl rfl rfl g55) ?_;refine q3J ?_;refine ep ?_;refine q2a ?_;refine q2s ?_;refine fU ?_;refine mB ?_;obtain rfl:=Option.some.inj hk;exact kI
          ·replace hk:=dw hk h12;refine fV ?_;have hq:(¬2#64=0#64)∧_:=dJ hk;clear hk;obtain ⟨g62,hk⟩:=hq; (try dsimp only at hk);refine eF ?_;refine cY (lx (a:=(n_2 ||| ((BitVec.ofInt 64 (andK .u8 (nth b ((wI (at_+(i_4:Int))).toNat)) 127)) <<< ((7* (i_4:Int)).toNat)))) (b:=2#64) rfl rfl rfl g62) ?_;refine q3J ?_;refine q4p ?_;refine cY (dq (v:= .int .i64 (wI ((wI (0 - (wI (((n_2 ||| ((BitVec.ofInt 64 (andK .u8 (nth b ((wI (at_+(i_4:Int))).toNat)) 127)) <<< ((7* (i_4:Int)).toNat))) / (2#64)).toNat:Int)))) - 1)))) ?_;refine ep ?_;refine q2a ?_;refine q2s ?_;refine fU ?_;refine kE ?_;obtain rfl:=Option.some.inj hk;exact kI
       ·have p9:=of_decide_eq_false h9;replace hk:=dw hk h9;refine q1j ?_;refine dH ?_;refine kC ?_;rw [←hn3] at hk;exact q5o
   ·have p5:=of_decide_eq_false h5;rw [fY a6,←hkk3] at hk; (try dsimp only at hk);refine fi ?_;exact q4F
 ·rintro _ hk;rw [←hk1] at hk; (try dsimp only at hk);refine ee ?_;refine iv ?_;refine ik ?_;obtain rfl:=Option.some.inj hk;exact kI
def zc7 (fuel:Nat)(n:Int)(d:Int):Option Bool:=
 (bif (((((decide (d<1))||(decide (1000<d)))||(decide (n<0)))||(decide (d<n)))||((decide (n=0))&&(decide (1<d)))) then
 some false
 else
 dO (fun (_:Unit)=>
 some true)
 (fun k7=>
 eV (fun (next9:Int→Option Bool) (k_8:Int)=>
 (bif decide (k_8≤n) then
 dB (0≤n∧1≤k_8) <|
 dO (fun (x_12:Bool)=>
 (bif x_12 then
 some false
 else
 next9 (wI (k_8+1))))
 (fun k13=>
 (bif decide ((n % k_8)=0) then
 dB (0≤d∧1≤k_8) <|
 k13 (decide ((d % k_8)=0))
 else
 k13 false))
 else
 k7 ())) fuel 2))
theorem zhg (F0:Frz)(w:World)(hF0:F0.At w)(n:Int)(d:Int)(fuel:Nat)(r:Bool)(hr:zc7 fuel n d=some r):Calls Tryz.prog 113 #[.int .i64 n, .int .i64 d] w fun e w'=>e= .returned (.bool r)∧Below w.heap.size w w':=by
 have hk:=hr;unfold zc7 at hk;obtain ⟨S0,F1,rfl,hS0,hp0⟩:=eH hF0;refine dT Tryz.func113 rfl rfl rfl hp0 ?_;refine gA ?_;refine jv ?_;refine dk (ι:=Unit) (fun z=>[(0, .int .i64 n),(1, .int .i64 d),(28, .bool (((((decide (d<1))||(decide (1000<d)))||(decide (n<0)))||(decide (d<n)))||((decide (n=0))&&(decide (1<d)))))]) (fun z=>[.fr F1]) (fun z=>True) ?_ ?_
 ·refine gR ?_;refine dp rfl rfl rfl (fun h1=>?_) (fun h1=>?_)
  ·have p1:=of_decide_eq_true h1;refine TL.run 20 rfl ?_;refine fM ?_;exact dg () trivial (.c (.c (.b (fO (fO (fO (fO h1)))).symm .nil))) (List.Sublist.refl _)
  ·have p1:=of_decide_eq_false h1;refine iv ?_;refine dp rfl rfl rfl (fun h2=>?_) (fun h2=>?_)
   ·have p2:=of_decide_eq_true h2;refine TL.run 16 rfl ?_;refine fM ?_;exact dg () trivial (.c (.c (.b (fO (fO (fO (gH h1 h2)))).symm .nil))) (List.Sublist.refl _)
   ·have p2:=of_decide_eq_false h2;refine iv ?_;refine dp rfl rfl rfl (fun h3=>?_) (fun h3=>?_)
    ·have p3:=of_decide_eq_true h3;refine TL.run 12 rfl ?_;refine fM ?_;exact dg () trivial (.c (.c (.b (fO (fO (gH (gH h1 h2) h3))).symm .nil))) (List.Sublist.refl _)
    ·have p3:=of_decide_eq_false h3;refine i9 ?_;refine dp rfl rfl rfl (fun h4=>?_) (fun h4=>?_)
     ·have p4:=of_decide_eq_true h4;refine q3Y ?_;exact dg () trivial (.c (.c (.b (fO (gH (gH (gH h1 h2) h3) h4)).symm .nil))) (List.Sublist.refl _)
     ·have p4:=of_decide_eq_false h4;refine fU ?_;refine dp rfl rfl rfl (fun h5=>?_) (fun h5=>?_)
      ·have p5:=of_decide_eq_true h5;refine iK ?_;exact dg () trivial (.c (.c (.b (Eq.trans (iX h5) (gE (gH (gH (gH h1 h2) h3) h4))) .nil))) (List.Sublist.refl _)
      ·have p5:=of_decide_eq_false h5;refine iK ?_;exact dg () trivial (.c (.c (.b (gH (gH (gH (gH h1 h2) h3) h4) (gQ h5)).symm .nil))) (List.Sublist.refl _)
 ·rintro _ _;refine T.cond rfl (fun h6=>?_) (fun h6=>?_)
  ·replace hk:=dt hk h6;refine iu ?_;obtain rfl:=Option.some.inj hk;exact eB
  ·have p6:=h6; (try simp only [iy] at p6);replace hk:=dw hk h6;refine jQ ?_;refine ez ?_;have hq:=ek hk;clear hk;obtain ⟨k7,hk7,hk⟩:=hq; (try dsimp only at hk);refine dk (ι:=Unit) (fun z=>[]) (fun z=>[.fr F1]) (fun z=>k7 ()=some r) ?_ ?_
   ·have hq:=j7 hk;clear hk;obtain ⟨f9,hf9,hk⟩:=hq;refine ff ?_;refine T.loop (ι:=Nat×Int) (fun z=>[(0, .int .i64 n),(1, .int .i64 d),(5, .int .i64 z.2)]) (fun z=>[.fr F1]) (fun z=>eV f9 z.1 z.2=some r) (fun z=>z.1) (fuel,2) ?_ ?_ ?_ ?_
    ·exact hk
    ·exact ma
    ·exact fa
    ·rintro ⟨m_10,k_8⟩ hk; (try dsimp only at *);have hq:=jZ hk;clear hk;obtain ⟨m_10',rfl,hk⟩:=hq;generalize hn9:eV f9 m_10'=next9 at hk;rw [←hf9] at hk; (try dsimp only at hk);refine ju ?_;refine lX ?_;refine T.cond rfl (fun h11=>?_) (fun h11=>?_)
     ·have p11:=of_decide_eq_true h11;replace hk:=dt hk h11;refine q2K ?_;have hq:(0≤n∧1≤k_8)∧_:=dJ hk;clear hk;obtain ⟨g36,hk⟩:=hq; (try dsimp only at hk);have hq:=ek hk;clear hk;obtain ⟨k13,hk13,hk⟩:=hq; (try dsimp only at hk);refine dk (ι:=Bool) (fun z=>[(0, .int .i64 n),(1, .int .i64 d),(5, .int .i64 k_8),(43, .bool z)]) (fun z=>[.fr F1]) (fun z=>k13 z=some r) ?_ ?_
      ·refine eZ ?_;refine cY (iR (a:=n) (b:=k_8) rfl rfl rfl g36) ?_;refine ep ?_;refine dp rfl rfl rfl (fun h14=>?_) (fun h14=>?_)
       ·have p14:=of_decide_eq_true h14;replace hk:=dt hk h14;refine ep ?_;have hq:(0≤d∧1≤k_8)∧_:=dJ hk;clear hk;obtain ⟨g41,hk⟩:=hq;refine cY (iR (a:=d) (b:=k_8) rfl rfl rfl g41) ?_;refine jh ?_;exact dg (decide ((d % k_8)=0)) hk (.c (.c (.c (.c .nil)))) (List.Sublist.refl _)
       ·have p14:=of_decide_eq_false h14;replace hk:=dw hk h14;refine kw ?_;exact dg false hk (.c (.c (.c (.c .nil)))) (List.Sublist.refl _)
      ·rintro x_12 hk;rw [←hk13] at hk; (try dsimp only at hk);refine T.cond rfl (fun h15=>?_) (fun h15=>?_)
       ·replace hk:=dt hk h15;refine gA ?_;refine kE ?_;obtain rfl:=Option.some.inj hk;exact eB
       ·replace hk:=dw hk h15;refine q1j ?_;refine dH ?_;refine cY (dq (v:= .int .i64 (wI (k_8+1)))) ?_;refine gU ?_;rw [←hn9] at hk;exact K.next (m_10',wI (k_8+1)) hk a9 (.c (.c (.c .nil))) (List.Sublist.refl _)
     ·have p11:=of_decide_eq_false h11;replace hk:=dw hk h11;refine fi ?_;exact lz
   ·rintro _ hk;rw [←hk7] at hk; (try dsimp only at hk);refine kK ?_;obtain rfl:=Option.some.inj hk;exact eB
def zdw (fuel:Nat)(b:List Int):Option (List GBid×Int):=
 (zdg b 0 128).bind fun r15=>
 dO (fun (s5:Int×Int×Bool×List GBid)=>
 (bif decide (¬s5.2.1=0) then
 some ([],s5.2.1)
 else
 (bif decide (s5.1<(b.length:Int)) then
 some ([],5)
 else
 dO (fun (x_44:Bool)=>
 (bif x_44 then
 some ([],6)
 else
 some (s5.2.2.2,0)))
 (fun k45=>
 (bif !s5.2.2.1 then
 k45 true
 else
 (zc8 fuel s5.2.2.2).bind fun r97=>
 k45 (!r97))))))
 (fun k5=>
 eV (fun (next11:(Int×Int×Bool×List GBid×Int)→Option (List GBid×Int)) (s11:Int×Int×Bool×List GBid×Int)=>
 (bif ((decide (s11.2.2.2.2<r15.1))&&(decide (s11.2.1=0))) then
 (kT b s11.1).bind fun r31=>
 dO (fun (s18:Int×Int×Int)=>
 dO (fun (s23:Int×Int×Int)=>
 dO (fun (s28:Int×Int×Int)=>
 dO (fun (s33:Int×Int×Int)=>
 (zc7 fuel s28.2.2 s33.2.2).bind fun r76=>
 dO (fun (s40:Bool×Bool×List Int×Bool×List Int)=>
 dB (dK (s11.2.2.2.1++[(GBid.mk r31.1 s18.2.2 s23.2.2 (GRatio.mk (GInt.mk s40.2.1 s40.2.2.1) (GInt.mk s40.2.2.2.1 s40.2.2.2.2)))]).length 88) <|
 next11 (s33.1,s33.2.1,s40.1,(s11.2.2.2.1++[(GBid.mk r31.1 s18.2.2 s23.2.2 (GRatio.mk (GInt.mk s40.2.1 s40.2.2.1) (GInt.mk s40.2.2.2.1 s40.2.2.2.2)))]),wI (s11.2.2.2.2+1)))
 (fun k40=>
 (bif !r76 then
 k40 (false,false,[],false,[])
 else
 (zd4 fuel s28.2.2 s33.2.2).bind fun r80=>
 k40 (s11.2.2.1,r80.Num.Neg,r80.Num.Digits,r80.Den.Neg,r80.Den.Digits))))
 (fun k33=>
 (bif decide (s28.2.1=0) then
 (kT b s28.1).bind fun r70=>
 k33 (r70.2.1,r70.2.2,r70.1)
 else
 k33 (s28.1,s28.2.1,0))))
 (fun k28=>
 (bif decide (s23.2.1=0) then
 (kT b s23.1).bind fun r61=>
 k28 (r61.2.1,r61.2.2,r61.1)
 else
 k28 (s23.1,s23.2.1,0))))
 (fun k23=>
 (bif decide (s18.2.1=0) then
 (zci b s18.1).bind fun r51=>
 k23 (r51.2.1,r51.2.2,r51.1)
 else
 k23 (s18.1,s18.2.1,0))))
 (fun k18=>
 (bif decide (r31.2.2=0) then
 (kT b r31.2.1).bind fun r41=>
 k18 (r41.2.1,r41.2.2,r41.1)
 else
 k18 (r31.2.1,r31.2.2,0)))
 else
 k5 (s11.1,s11.2.1,s11.2.2.1,s11.2.2.2.1))) fuel (r15.2.1,r15.2.2,true,[],0))
theorem zhf (F0:Frz)(w:World)(hF0:F0.At w)(b:List Int)(vb:Value)(hb:SlC F0 vb 1 (b.map (eK .u8)))(fuel:Nat)(r:List GBid×Int)(hr:zdw fuel b=some r):Calls Tryz.prog 38 #[vb] w fun e w'=>∃(y:Value×List (List Value)) (G:Frz),(SlD df G y.1 7 y.2 r.1)∧e= .returned (.tuple #[y.1, .int .i64 r.2])∧Fx F0 w G w':=by
 have hk:=hr;unfold zdw at hk;haveI:=hb.oneC;obtain ⟨S0,F1,rfl,hS0,hp0⟩:=eH hF0;refine dT Tryz.func38 rfl rfl rfl hp0 ?_;refine gS ?_;refine fv ?_;have hq:=dC hk;clear hk;obtain ⟨r15,hr15,hk⟩:=hq; (try dsimp only at hk);refine eF ?_;refine de (dj rfl rfl rfl (fun w hw=>zhz _ w (hw.fr (i:=0) rfl) b vb hb 0 128 r15 hr15)) ?_;refine eA ?_;refine TL.run 7 rfl ?_;refine eP ?_;refine iw ?_;refine dH ?_;refine TL.slNil 79 7 ?_;refine l6 ?_;refine ez ?_;have hq:=ek hk;clear hk;obtain ⟨k5,hk5,hk⟩:=hq; (try dsimp only at hk);refine dk (ι:=Int×Int×Bool×List GBid×Value×List (List Value)×FzB w (fun _=>False) S0) (fun z=>[(0,vb),(5, .int .i64 z.1),(6, .int .i64 z.2.1),(7, .bool z.2.2.1),(8,z.2.2.2.2.1)]) (fun z=>[.sl z.2.2.2.2.1 79 7 z.2.2.2.1.length z.2.2.2.2.2.1.flatten, .fr z.2.2.2.2.2.2]) (fun z=>k5 (z.1,z.2.1,z.2.2.1,z.2.2.2.1)=some r∧OwnD df z.2.2.2.2.2.2.toFrz 7 z.2.2.2.2.2.1 z.2.2.2.1∧OneC z.2.2.2.2.1∧F1.toFrz.Le z.2.2.2.2.2.2.toFrz) ?_ ?_
 ·have hq:=j7 hk;clear hk;obtain ⟨f11,hf11,hk⟩:=hq;refine ff ?_;refine T.loop (ι:=Nat×Int×Int×Bool×List GBid×Value×List (List Value)×Int×FzB w (fun _=>False) S0) (fun z=>[(0,vb),(4, .int .i64 r15.1),(5, .int .i64 z.2.1),(6, .int .i64 z.2.2.1),(7, .bool z.2.2.2.1),(8,z.2.2.2.2.2.1),(9, .int .i64 z.2.2.2.2.2.2.2.1)]) (fun z=>[.sl z.2.2.2.2.2.1 79 7 z.2.2.2.2.1.length z.2.2.2.2.2.2.1.flatten, .fr z.2.2.2.2.2.2.2.2]) (fun z=>eV f11 z.1 (z.2.1,z.2.2.1,z.2.2.2.1,z.2.2.2.2.1,z.2.2.2.2.2.2.2.1)=some r∧OwnD df z.2.2.2.2.2.2.2.2.toFrz 7 z.2.2.2.2.2.2.1 z.2.2.2.2.1∧OneC z.2.2.2.2.2.1∧F1.toFrz.Le z.2.2.2.2.2.2.2.2.toFrz) (fun z=>z.1) (fuel,r15.2.1,r15.2.2,true,[],(.slice none 0 0),[],0,F1) ?_ ?_ ?_ ?_
  ·exact ⟨hk,(OwnD.nil _ _ 7),inferInstance,(Frz.Le.refl _)⟩
  ·exact q4K
  ·exact fa
  ·rintro ⟨m_12,at_6,e_7,good_8,out_9,vout_9,cout_9,i_10,F3⟩ ⟨hk,hout_9,oout_9,le1_3⟩; (try dsimp only at *);have hq:=jZ hk;clear hk;obtain ⟨m_12',rfl,hk⟩:=hq;generalize hn11:eV f11 m_12'=next11 at hk;rw [←hf11] at hk; (try dsimp only at hk);refine li ?_;refine dk (ι:=Unit) (fun z=>[(0,vb),(4, .int .i64 r15.1),(5, .int .i64 at_6),(6, .int .i64 e_7),(7, .bool good_8),(8,vout_9),(9, .int .i64 i_10),(25, .bool ((decide (i_10<r15.1))&&(decide (e_7=0))))]) (fun z=>[.sl vout_9 79 7 out_9.length cout_9.flatten, .fr F3]) (fun z=>True) ?_ ?_
   ·refine lC ?_;refine dp rfl rfl rfl (fun h13=>?_) (fun h13=>?_)
    ·have p13:=of_decide_eq_true h13;refine iU ?_;exact dg () trivial (.c (.c (.c (.c (.c (.c (.c (.b (iX h13) .nil)))))))) (List.Sublist.refl _)
    ·have p13:=of_decide_eq_false h13;refine iU ?_;exact dg () trivial (.c (.c (.c (.c (.c (.c (.c (.b (gQ h13).symm .nil)))))))) (List.Sublist.refl _)
   ·rintro _ _;refine T.cond rfl (fun h14=>?_) (fun h14=>?_)
    ·have p14:=h14; (try simp only [iy] at p14);replace hk:=dt hk h14;refine jc ?_;refine fJ ?_;rintro _ _ ⟨g10,rfl,rfl⟩;refine eP ?_;refine ep ?_;refine fv ?_;have hq:=dC hk;clear hk;obtain ⟨r31,hr31,hk⟩:=hq; (try dsimp only at hk);refine eZ ?_;refine de (dj rfl rfl rfl (fun w hw=>zdc _ w (hw.fr (i:=2) rfl) b vb (SlC.mono hb le1_3) at_6 r31 hr31)) ?_;refine eA ?_;refine iv ?_;refine fK ?_;refine q1A ?_;refine ep ?_;refine mA ?_;have hq:=ek hk;clear hk;obtain ⟨k18,hk18,hk⟩:=hq; (try dsimp only at hk);refine dk (ι:=Int×Int×Int) (fun z=>[(0,vb),(4, .int .i64 r15.1),(5, .int .i64 z.1),(6, .int .i64 z.2.1),(7, .bool good_8),(8,vout_9),(9, .int .i64 i_10),(10, .pointer (some ⟨g10,0,none⟩)),(11, .int .i64 0),(12, .int .i64 0)]) (fun z=>[.row g10 79 [.int .i64 r31.1, .int .i64 z.2.2, .int .i64 0, .bool false,(.slice none 0 0), .bool false,(.slice none 0 0)], .sl vout_9 79 7 out_9.length cout_9.flatten, .fr F3]) (fun z=>k18 (z.1,z.2.1,z.2.2)=some r) ?_ ?_
     ·refine T.cond rfl (fun h19=>?_) (fun h19=>?_)
      ·have p19:=of_decide_eq_true h19;replace hk:=dt hk h19;have hq:=dC hk;clear hk;obtain ⟨r41,hr41,hk⟩:=hq; (try dsimp only at hk);refine eZ ?_;refine de (dj rfl rfl rfl (fun w hw=>zdc _ w (hw.fr (i:=2) rfl) b vb (SlC.mono hb le1_3) r31.2.1 r41 hr41)) ?_;refine eA ?_;refine iv ?_;refine fK ?_;refine q1A ?_;refine jh ?_;exact dg (r41.2.1,r41.2.2,r41.1) hk (.c (.c (.c (.c (.c (.c (.c (.c (.c (.c .nil)))))))))) (List.Sublist.refl _)
      ·have p19:=of_decide_eq_false h19;replace hk:=dw hk h19;refine T.skip ?_;exact dg (r31.2.1,r31.2.2,0) hk (.c (.c (.c (.c (.c (.c (.c (.c (.c (.c .nil)))))))))) (List.Sublist.refl _)
     ·rintro ⟨at_15,e_16,c_17⟩ hk; (try dsimp only at *);rw [←hk18] at hk; (try dsimp only at hk);refine j3 ?_;have hq:=ek hk;clear hk;obtain ⟨k23,hk23,hk⟩:=hq; (try dsimp only at hk);refine dk (ι:=Int×Int×Int) (fun z=>[(0,vb),(4, .int .i64 r15.1),(5, .int .i64 z.1),(6, .int .i64 z.2.1),(7, .bool good_8),(8,vout_9),(9, .int .i64 i_10),(10, .pointer (some ⟨g10,0,none⟩)),(11, .int .i64 0),(12, .int .i64 0)]) (fun z=>[.row g10 79 [.int .i64 r31.1, .int .i64 c_17, .int .i64 z.2.2, .bool false,(.slice none 0 0), .bool false,(.slice none 0 0)], .sl vout_9 79 7 out_9.length cout_9.flatten, .fr F3]) (fun z=>k23 (z.1,z.2.1,z.2.2)=some r) ?_ ?_
      ·refine T.cond rfl (fun h24=>?_) (fun h24=>?_)
       ·have p24:=of_decide_eq_true h24;replace hk:=dt hk h24;have hq:=dC hk;clear hk;obtain ⟨r51,hr51,hk⟩:=hq; (try dsimp only at hk);refine eZ ?_;refine de (dj rfl rfl rfl (fun w hw=>zhj _ w (hw.fr (i:=2) rfl) b vb (SlC.mono hb le1_3) at_15 r51 hr51)) ?_;refine eA ?_;refine iv ?_;refine fK ?_;refine q1A ?_;refine jh ?_;exact dg (r51.2.1,r51.2.2,r51.1) hk (.c (.c (.c (.c (.c (.c (.c (.c (.c (.c .nil)))))))))) (List.Sublist.refl _)
       ·have p24:=of_decide_eq_false h24;replace hk:=dw hk h24;refine T.skip ?_;exact dg (at_15,e_16,0) hk (.c (.c (.c (.c (.c (.c (.c (.c (.c (.c .nil)))))))))) (List.Sublist.refl _)
      ·rintro ⟨at_20,e_21,c_22⟩ hk; (try dsimp only at *);rw [←hk23] at hk; (try dsimp only at hk);refine j3 ?_;have hq:=ek hk;clear hk;obtain ⟨k28,hk28,hk⟩:=hq; (try dsimp only at hk);refine dk (ι:=Int×Int×Int) (fun z=>[(0,vb),(4, .int .i64 r15.1),(5, .int .i64 z.1),(6, .int .i64 z.2.1),(7, .bool good_8),(8,vout_9),(9, .int .i64 i_10),(10, .pointer (some ⟨g10,0,none⟩)),(11, .int .i64 z.2.2),(12, .int .i64 0)]) (fun z=>[.row g10 79 [.int .i64 r31.1, .int .i64 c_17, .int .i64 c_22, .bool false,(.slice none 0 0), .bool false,(.slice none 0 0)], .sl vout_9 79 7 out_9.length cout_9.flatten, .fr F3]) (fun z=>k28 (z.1,z.2.1,z.2.2)=some r) ?_ ?_
       ·refine T.cond rfl (fun h29=>?_) (fun h29=>?_)
        ·have p29:=of_decide_eq_true h29;replace hk:=dt hk h29;have hq:=dC hk;clear hk;obtain ⟨r61,hr61,hk⟩:=hq; (try dsimp only at hk);refine eZ ?_;refine de (dj rfl rfl rfl (fun w hw=>zdc _ w (hw.fr (i:=2) rfl) b vb (SlC.mono hb le1_3) at_20 r61 hr61)) ?_;refine eA ?_;refine q3Y ?_;exact dg (r61.2.1,r61.2.2,r61.1) hk (.c (.c (.c (.c (.c (.c (.c (.c (.c (.c .nil)))))))))) (List.Sublist.refl _)
        ·have p29:=of_decide_eq_false h29;replace hk:=dw hk h29;refine T.skip ?_;exact dg (at_20,e_21,0) hk (.c (.c (.c (.c (.c (.c (.c (.c (.c (.c .nil)))))))))) (List.Sublist.refl _)
       ·rintro ⟨at_25,e_26,n_27⟩ hk; (try dsimp only at *);rw [←hk28] at hk; (try dsimp only at hk);refine j3 ?_;have hq:=ek hk;clear hk;obtain ⟨k33,hk33,hk⟩:=hq; (try dsimp only at hk);refine dk (ι:=Int×Int×Int) (fun z=>[(0,vb),(4, .int .i64 r15.1),(5, .int .i64 z.1),(6, .int .i64 z.2.1),(7, .bool good_8),(8,vout_9),(9, .int .i64 i_10),(10, .pointer (some ⟨g10,0,none⟩)),(11, .int .i64 n_27),(12, .int .i64 z.2.2)]) (fun z=>[.row g10 79 [.int .i64 r31.1, .int .i64 c_17, .int .i64 c_22, .bool false,(.slice none 0 0), .bool false,(.slice none 0 0)], .sl vout_9 79 7 out_9.length cout_9.flatten, .fr F3]) (fun z=>k33 (z.1,z.2.1,z.2.2)=some r) ?_ ?_
        ·refine T.cond rfl (fun h34=>?_) (fun h34=>?_)
         ·have p34:=of_decide_eq_true h34;replace hk:=dt hk h34;have hq:=dC hk;clear hk;obtain ⟨r70,hr70,hk⟩:=hq; (try dsimp only at hk);refine eZ ?_;refine de (dj rfl rfl rfl (fun w hw=>zdc _ w (hw.fr (i:=2) rfl) b vb (SlC.mono hb le1_3) at_25 r70 hr70)) ?_;refine eA ?_;refine q3Y ?_;exact dg (r70.2.1,r70.2.2,r70.1) hk (.c (.c (.c (.c (.c (.c (.c (.c (.c (.c .nil)))))))))) (List.Sublist.refl _)
         ·have p34:=of_decide_eq_false h34;replace hk:=dw hk h34;refine T.skip ?_;exact dg (at_25,e_26,0) hk (.c (.c (.c (.c (.c (.c (.c (.c (.c (.c .nil)))))))))) (List.Sublist.refl _)
        ·rintro ⟨at_30,e_31,d_32⟩ hk; (try dsimp only at *);rw [←hk33] at hk; (try dsimp only at hk);refine li ?_;have hq:=dC hk;clear hk;obtain ⟨r76,hr76,hk⟩:=hq; (try dsimp only at hk);refine eZ ?_;refine de (dj rfl rfl rfl (fun w hw=>zhg _ w (hw.fr (i:=2) rfl) n_27 d_32 fuel r76 hr76)) ?_;refine lL ?_;have hq:=ek hk;clear hk;obtain ⟨k40,hk40,hk⟩:=hq; (try dsimp only at hk);refine dk (ι:=Bool×Bool×List Int×Value×Bool×List Int×Value×FzB w (fun _=>False) S0) (fun z=>[(0,vb),(4, .int .i64 r15.1),(5, .int .i64 at_30),(6, .int .i64 e_31),(7, .bool z.1),(8,vout_9),(9, .int .i64 i_10),(10, .pointer (some ⟨g10,0,none⟩))]) (fun z=>[.row g10 79 [.int .i64 r31.1, .int .i64 c_17, .int .i64 c_22, .bool z.2.1,z.2.2.2.1, .bool z.2.2.2.2.1,z.2.2.2.2.2.2.1], .sl vout_9 79 7 out_9.length cout_9.flatten, .fr z.2.2.2.2.2.2.2]) (fun z=>k40 (z.1,z.2.1,z.2.2.1,z.2.2.2.2.1,z.2.2.2.2.2.1)=some r∧SlC z.2.2.2.2.2.2.2.toFrz z.2.2.2.1 1 (z.2.2.1.map (eK .u8))∧SlC z.2.2.2.2.2.2.2.toFrz z.2.2.2.2.2.2.1 1 (z.2.2.2.2.2.1.map (eK .u8))∧F3.toFrz.Le z.2.2.2.2.2.2.2.toFrz) ?_ ?_
         ·refine T.cond rfl (fun h41=>?_) (fun h41=>?_)
          ·replace hk:=dt hk h41;refine eF ?_;refine fM ?_;exact dg (false,false,[],(.slice none 0 0),false,[],(.slice none 0 0),F3) ⟨hk,(SlC.nil _ 1),(SlC.nil _ 1),(Frz.Le.refl _)⟩ (.c (.c (.c (.c (.c (.c (.c (.c .nil)))))))) (List.Sublist.refl _)
          ·replace hk:=dw hk h41;have hq:=dC hk;clear hk;obtain ⟨r80,hr80,hk⟩:=hq; (try dsimp only at hk);refine eZ ?_;refine de (dr 2 rfl rfl rfl rfl (fun w hw hF=>zhw _ w hF n_27 d_32 fuel r80 hr80)) ?_;rintro _ _ ⟨⟨v80_0_1,v80_0_3⟩,F5,le3_5,⟨hf80_0_1,hf80_0_3⟩,rfl,rfl⟩;dsimp only at hf80_0_1 hf80_0_3 ⊢;haveI:=hf80_0_1.oneC;haveI:=hf80_0_3.oneC;refine fK ?_;refine dU (Ew.bP 0 rfl rfl rfl rfl rfl b3) ?_;refine eA ?_;refine fM ?_;exact dg (good_8,r80.Num.Neg,r80.Num.Digits,v80_0_1,r80.Den.Neg,r80.Den.Digits,v80_0_3,F5) ⟨hk,hf80_0_1,hf80_0_3,le3_5⟩ (.c (.c (.c (.c (.c (.c (.c (.c .nil)))))))) (List.Sublist.refl _)
         ·rintro ⟨good_35,c_36,c_37,vc_37,c_38,c_39,vc_39,F4⟩ ⟨hk,hc_37,hc_39,le3_4⟩; (try dsimp only at *);rw [←hk40] at hk; (try dsimp only at hk);have le1_4:=le1_3.trans le3_4;haveI:=hc_37.oneC;haveI:=hc_39.oneC;have hq:(dK (out_9++[(GBid.mk r31.1 c_17 c_22 (GRatio.mk (GInt.mk c_36 c_37) (GInt.mk c_38 c_39)))]).length 88)∧_:=dJ hk;clear hk;obtain ⟨g85,hk⟩:=hq; (try dsimp only at hk);refine eF ?_;refine jM ?_;refine iA ?_;rintro _ _ ⟨g84,rfl,rfl⟩;have hl84:OwnD df F4.toFrz 7 [[.int .i64 r31.1, .int .i64 c_17, .int .i64 c_22, .bool c_36,vc_37, .bool c_38,vc_39]] [(GBid.mk r31.1 c_17 c_22 (GRatio.mk (GInt.mk c_36 c_37) (GInt.mk c_38 c_39)))]:=(eS (OwnD.nil _ _ 7) ⟨_,_,rfl,hc_37,hc_39⟩);refine de (gP 2 0 rfl rfl rfl rfl rfl rfl (l7 (ys:=[(GBid.mk r31.1 c_17 c_22 (GRatio.mk (GInt.mk c_36 c_37) (GInt.mk c_38 c_39)))])) (zh8 (cs:=cout_9) (ds:=[[.int .i64 r31.1, .int .i64 c_17, .int .i64 c_22, .bool c_36,vc_37, .bool c_38,vc_39]])) g85 a7) ?_;rintro v85 _ ⟨hv85,rfl⟩;have ho85:OwnD df F4.toFrz 7 (cout_9++[[.int .i64 r31.1, .int .i64 c_17, .int .i64 c_22, .bool c_36,vc_37, .bool c_38,vc_39]]) (out_9++[(GBid.mk r31.1 c_17 c_22 (GRatio.mk (GInt.mk c_36 c_37) (GInt.mk c_38 c_39)))]):=(eS (OwnD.mono (rep:=df) (fun _ _ _ _=>GBid.mono) hout_9 le3_4) ⟨_,_,rfl,hc_37,hc_39⟩);refine q16 ?_;refine cY (dq (v:= .int .i64 (wI (i_10+1)))) ?_;refine gU ?_;rw [←hn11] at hk;refine K.pick [2,3] rfl a7 ?_;exact K.next (m_12',at_30,e_31,good_35,(out_9++[(GBid.mk r31.1 c_17 c_22 (GRatio.mk (GInt.mk c_36 c_37) (GInt.mk c_38 c_39)))]),v85,(cout_9++[[.int .i64 r31.1, .int .i64 c_17, .int .i64 c_22, .bool c_36,vc_37, .bool c_38,vc_39]]),wI (i_10+1),F4) ⟨hk,ho85,inferInstance,le1_4⟩ a9 (.c (.c (.c (.c (.c (.c (.c .nil))))))) (List.Sublist.refl _)
    ·replace hk:=dw hk h14;refine fi ?_;exact dg (at_6,e_7,good_8,out_9,vout_9,cout_9,F3) ⟨hk,hout_9,inferInstance,le1_3⟩ (.c (.c (.c (.c (.c .nil))))) (List.Sublist.refl _)
 ·rintro ⟨at_1,e_2,good_3,out_4,vout_4,cout_4,F2⟩ ⟨hk,hout_4,oout_4,le1_2⟩; (try dsimp only at *);rw [←hk5] at hk; (try dsimp only at hk);refine j3 ?_;refine T.cond rfl (fun h42=>?_) (fun h42=>?_)
  ·have p42:=of_decide_eq_true h42;replace hk:=dt hk h42;refine iY ?_;refine jF ?_;obtain rfl:=Option.some.inj hk;exact q5p
  ·have p42:=of_decide_eq_false h42;replace hk:=dw hk h42;refine jQ ?_;refine ep ?_;refine cY (dE rfl rfl (SlC.mono hb le1_2) (List.length_map _)) ?_;have hm91:b.length≤9223372036854775807:=(List.length_map _)▸(SlC.mono hb le1_2).max;refine ez ?_;refine T.cond rfl (fun h43=>?_) (fun h43=>?_)
   ·have p43:=of_decide_eq_true h43;replace hk:=dt hk h43;refine kn ?_;obtain rfl:=Option.some.inj hk;exact q5p
   ·have p43:=of_decide_eq_false h43;replace hk:=dw hk h43;refine q2y ?_;refine q1B ?_;rintro F6 ⟨le2_6,hz6⟩;refine fQ ?_;have le1_6:=le1_2.trans le2_6;have hfF6:=hz6.toD (OwnD.mono (rep:=df) (fun _ _ _ _=>GBid.mono) hout_4 le2_6) rfl;haveI:=hfF6.1.oneC; (try dsimp only at hk);have hq:=ek hk;clear hk;obtain ⟨k45,hk45,hk⟩:=hq; (try dsimp only at hk);refine dk (ι:=Bool) (fun z=>[(8,vout_4),(99, .bool z)]) (fun z=>[.fr F6]) (fun z=>k45 z=some r) ?_ ?_
    ·refine gR ?_;refine dp rfl rfl rfl (fun h46=>?_) (fun h46=>?_)
     ·replace hk:=dt hk h46;refine iK ?_;exact q42
     ·replace hk:=dw hk h46;refine dH ?_;have hq:=dC hk;clear hk;obtain ⟨r97,hr97,hk⟩:=hq;refine de (dj rfl rfl rfl (fun w hw=>zhe _ w (hw.fr (i:=0) rfl) out_4 vout_4 cout_4 hfF6 fuel r97 hr97)) ?_;refine jH ?_;exact dg (!r97) hk (.c (.c .nil)) (List.Sublist.refl _)
    ·rintro x_44 hk;rw [←hk45] at hk; (try dsimp only at hk);refine T.cond rfl (fun h47=>?_) (fun h47=>?_)
     ·replace hk:=dt hk h47;refine kn ?_;obtain rfl:=Option.some.inj hk;exact q5m
     ·replace hk:=dw hk h47;refine iz ?_;refine fU ?_;refine ik ?_;obtain rfl:=Option.some.inj hk;exact fk rfl rfl rfl (fun w' hw=>⟨(vout_4,cout_4),F6.toFrz,hfF6,rfl,dP hw (i:=0) rfl hS0 le1_6⟩)
theorem mz {σ ρ:Type}(f:(σ→Option ρ)→σ→Option ρ)(m:Nat)(s:σ):eV f (m+1) s=f (eV f m) s:=rfl
theorem zkD {σ ρ:Type}(f:Nat→(σ→ρ)→σ→ρ)(k:σ→ρ)(m:Nat)(s:σ):gL f k (m+1) s=f m (gL f k m) s:=rfl
def val (B:Nat):List Int→Nat
 | []=>0
 |x :: r=>x.toNat+B*val B r
def Dig (B:Nat)(l:List Int):Prop:=∀x∈l,0≤x∧x<(B:Int)
def mb (l:List Int):Prop:=l=[]∨nth l (l.length - 1)≠0
section
variable {B:Nat}{l m:List Int}{x:Int}{i:Nat}
theorem Dig.nil:Dig B []:=fun _ h=>by cases h
theorem Dig.cons (hx:0≤x∧x<(B:Int))(h:Dig B l):Dig B (x :: l):=fun y hy=>by
 rcases List.mem_cons.1 hy with rfl|hy
 ·exact hx
 ·exact h y hy
theorem Dig.tail (h:Dig B (x :: l)):Dig B l:=fun y hy=>h y (List.mem_cons_of_mem _ hy)
theorem Dig.head (h:Dig B (x :: l)):0≤x∧x<(B:Int):=h x List.mem_cons_self
theorem Dig.app (h:Dig B l)(k:Dig B m):Dig B (l++m):=fun y hy=>(List.mem_append.1 hy).elim (h y) (k y)
theorem Dig.take (h:Dig B l)(i:Nat):Dig B (l.take i):=fun y hy=>h y (List.mem_of_mem_take hy)
theorem Dig.drop (h:Dig B l)(i:Nat):Dig B (l.drop i):=fun y hy=>h y (List.mem_of_mem_drop hy)
theorem Dig.nth (h:Dig B l)(hi:i<l.length):0≤nth l i∧nth l i<(B:Int):=by
 rw [fT hi];exact h _ (List.getElem_mem hi)
theorem Dig.set (h:Dig B l)(hx:0≤x∧x<(B:Int)):Dig B (l.set i x):=fun y hy=>by
 rcases List.mem_or_eq_of_mem_set hy with hy|rfl
 ·exact h y hy
 ·exact hx
theorem gG (hB:0<B)(n:Nat):Dig B (List.replicate n 0):=fun y hy=>by
 rw [List.eq_of_mem_replicate hy];omega
theorem zip:val B (l++m)=val B l+B ^ l.length*val B m:=by
 induction l with
 |nil=>simp [val]
 |cons x l ih=>
  rw [List.cons_append,val,val,ih,List.length_cons,Nat.mul_add,Nat.pow_succ,Nat.mul_comm (B ^ l.length) B,Nat.mul_assoc];omega
theorem j5 (h:Dig B l):val B l<B ^ l.length:=by
 induction l with
 |nil=>simp [val]
 |cons x l ih=>
  have h1:=h.head;have h2:=ih h.tail;rw [val,List.length_cons,Nat.pow_succ,Nat.mul_comm (B ^ l.length) B];have h3:B* (val B l+1)≤B*B ^ l.length:=Nat.mul_le_mul_left _ h2;rw [Nat.mul_add] at h3;omega
theorem zis (n:Nat):val B (List.replicate n 0)=0:=by
 induction n with
 |zero=>rfl
 |succ n ih=>rw [List.replicate_succ,val,ih];simp
theorem zfZ {y:Int}:nth (y :: l) 0=y:=rfl
theorem zgO {y:Int}:nth (y :: l) (i+1)=nth l i:=rfl
theorem iM (hi:i<l.length):val B (l.take (i+1))=val B (l.take i)+B ^ i* (nth l i).toNat:=by
 induction l generalizing i with
 |nil=>cases hi
 |cons y l ih=>
  cases i with
  |zero=>simp [val,zfZ]
  |succ i=>
   rw [List.take_succ_cons,List.take_succ_cons,val,val,ih (by simpa using hi),zgO,Nat.mul_add,Nat.pow_succ,Nat.mul_comm (B ^ i) B,Nat.mul_assoc];omega
theorem zej (hi:i<l.length):val B (l.drop i)=(nth l i).toNat+B*val B (l.drop (i+1)):=by
 rw [List.drop_eq_getElem_cons hi,val,fT hi]
theorem zfr (i:Nat)(hi:i≤l.length):val B l=val B (l.take i)+B ^ i*val B (l.drop i):=by
 conv=>lhs;rw [←List.take_append_drop i l]
 rw [zip,List.length_take,Nat.min_eq_left hi]
theorem zjm (hi:i<l.length):val B (l.set i x)+B ^ i* (nth l i).toNat=val B l+B ^ i*x.toNat:=by
 induction l generalizing i with
 |nil=>cases hi
 |cons y l ih=>
  cases i with
  |zero=>simp [val,zfZ];omega
  |succ i=>
   have:=ih (i:=i) (by simpa using hi);rw [List.set_cons_succ,val,val,zgO,Nat.pow_succ,Nat.mul_comm (B ^ i) B,Nat.mul_assoc,Nat.mul_assoc]; (have h2:B* (val B (l.set i x)+B ^ i* (nth l i).toNat)=B* (val B l+B ^ i*x.toNat):=by rw [this]);rw [Nat.mul_add,Nat.mul_add] at h2;omega
theorem zh2 (h:Dig B l)(ht:mb l)(hn:l≠[]):B ^ (l.length - 1)≤val B l:=by
 have hp:0<l.length:=List.length_pos_iff.2 hn;have h1:nth l (l.length - 1)≠0:=ht.elim (fun e=>absurd e hn) id;have h2:=h.nth (i:=l.length - 1) a6;have h3:=iM (B:=B) (l:=l) (i:=l.length - 1) a6;rw [show l.length - 1+1=l.length by omega,List.take_length] at h3;have h4:B ^ (l.length - 1) *1≤B ^ (l.length - 1) * (nth l (l.length - 1)).toNat:=Nat.mul_le_mul_left _ a6;omega
theorem zkY (h:Dig B l)(ht:mb l)(hn:l≠[])(hB:0<B):0<val B l:=Nat.lt_of_lt_of_le (Nat.pow_pos hB) (zh2 h ht hn)
theorem zhH (h:Dig B l)(ht:mb l)(hB:0<B):val B l=0↔l=[]:=by
 constructor
 ·intro e;by_cases hn:l=[]
  ·exact hn
  ·have:=zkY h ht hn hB;omega
 ·rintro rfl;rfl
theorem zdo (hl:Dig B l)(hm:Dig B m)(ht:mb m)(h:l.length<m.length):val B l<val B m:=by
 (have hn:m≠[]:=fun e=>by rw [e] at h;cases h)
 have hB:0<B:=by
  have:=hm.nth (i:=0) a6;omega
 exact Nat.lt_of_lt_of_le (Nat.lt_of_lt_of_le (j5 hl) (Nat.pow_le_pow_right hB a6)) (zh2 hm ht hn)
theorem zjA:∀ {l m:List Int},Dig B l→Dig B m→l.length=m.length→val B l=val B m→l=m
 | [],[],_,_,_,_=>rfl
 |x :: l,y :: m,hl,hm,hn,he=>by
  have h1:=hl.head;have h2:=hm.head;rw [val,val] at he; (have hB:0<B:=by omega);have e1:=congrArg (· % B) he;simp only [Nat.add_mul_mod_self_left] at e1;rw [Nat.mod_eq_of_lt a6,Nat.mod_eq_of_lt a6] at e1;have e2:val B l=val B m:=Nat.eq_of_mul_eq_mul_left hB a6;rw [zjA hl.tail hm.tail (by simpa using hn) e2,show x=y by omega]
theorem ziI (hl:Dig B l)(hm:Dig B m)(tl:mb l)(tm:mb m)(he:val B l=val B m):l=m:=by
 rcases Nat.lt_trichotomy l.length m.length with h|h|h
 ·have:=zdo hl hm tm h;omega
 ·exact zjA hl hm h he
 ·have:=zdo hm hl tl h;omega
end
theorem zlm (B:Nat):∀(n:Nat) (fuel:Nat) (l:List Int),l.length=n→n+1≤fuel→∃r,km fuel l=some r∧val B r=val B l∧mb r∧(Dig B l→Dig B r)∧r.length≤l.length:=by
 intro n
 induction n with
 |zero=>
  intro fuel l hl hf;obtain ⟨f,rfl⟩:∃q,fuel=q+1:=⟨fuel - 1,by omega⟩;obtain rfl:=List.eq_nil_of_length_eq_zero hl;exact ⟨[],rfl,rfl, .inl rfl,id,Nat.le_refl _⟩
 |succ n ih=>
  intro fuel l hl hf;obtain ⟨f,rfl⟩:∃q,fuel=q+1:=⟨fuel - 1,by omega⟩;have e:km (f+1) l=bif ((decide (0<(l.length:Int)))&&(decide ((nth l (((l.length:Int) - 1).toNat))=0))) then km f (l.take (((l.length:Int) - 1).toNat)) else some l:=rfl;rw [e,decide_eq_true a6,Bool.true_and,show (((l.length:Int) - 1).toNat)=l.length - 1 by omega];by_cases h0:nth l (l.length - 1)=0
  ·rw [decide_eq_true h0,cond_true];obtain ⟨r,h1,h2,h3,h4,h5⟩:=ih f (l.take (l.length - 1)) cU a6;refine ⟨r,h1,?_,h3,fun hd=>h4 (hd.take _),Nat.le_trans h5 cU⟩;have h6:=iM (B:=B) (l:=l) (i:=l.length - 1) a6;rw [show l.length - 1+1=l.length by omega,List.take_length,h0] at h6;rw [h2,h6];simp
  ·rw [decide_eq_false h0,cond_false];exact ⟨l,rfl,rfl, .inr h0,id,Nat.le_refl _⟩
theorem zkp {B:Nat}{x y:List Int}(hx:Dig B x)(hy:Dig B y)(tx:mb x)(ty:mb y):zbf x y=if val B x<val B y then -1 else if val B y<val B x then 1 else 0:=by
 unfold zbf;by_cases hl:x.length=y.length
 ·rw [decide_eq_false a6,cond_false];simp only [dO]
  have key:∀m,m≤x.length→gL (fun (i_5:Nat) (next4:Unit→Int) (_:Unit)=>
    (bif decide ((nth x i_5)<(nth y i_5)) then
     (-1)
     else
     (bif decide ((nth y i_5)<(nth x i_5)) then
      1
      else
      next4 ()))) (fun _=>(0:Int)) m ()=if val B (x.take m)<val B (y.take m) then -1 else if val B (y.take m)<val B (x.take m) then 1 else 0:=by
   intro m
   induction m with
   |zero=>intro _;rfl
   |succ m ih=>
    intro hm;have a1:=hx.nth (i:=m) a6;have a2:=hy.nth (i:=m) a6;have b1:=j5 (hx.take m);have b2:=j5 (hy.take m);rw [List.length_take,Nat.min_eq_left a6] at b1 b2;rw [zkD,iM a6,iM a6]; (try dsimp only)
    have mono:∀p q:Nat,p<q→B ^ m*p+B ^ m≤B ^ m*q:=fun p q h=>by
     have:=Nat.mul_le_mul_left (B ^ m) (show p+1≤q by omega);rw [Nat.mul_add,Nat.mul_one] at this;exact this
    by_cases h1:nth x m<nth y m
    ·have:=mono (nth x m).toNat (nth y m).toNat a6;rw [decide_eq_true h1,cond_true,if_pos a6]
    ·rw [decide_eq_false h1,cond_false];by_cases h2:nth y m<nth x m
     ·have:=mono (nth y m).toNat (nth x m).toNat a6;rw [decide_eq_true h2,cond_true,if_neg a6,if_pos a6]
     ·rw [decide_eq_false h2,cond_false,ih a6,show nth x m=nth y m by omega];generalize B ^ m* (nth y m).toNat=z
      repeat' split
      all_goals (first|rfl|(exfalso;omega))
  have:=key x.length (Nat.le_refl _);rw [List.take_length,hl,List.take_length] at this;rw [←hl] at this;exact this
 ·rw [decide_eq_true a6,cond_true];by_cases h:x.length<y.length
  ·rw [decide_eq_true a6,cond_true,if_pos (zdo hx hy ty h)]
  ·have:=zdo hy hx tx a6;rw [decide_eq_false a6,cond_false,if_neg a6,if_pos this]
theorem zgV {a d s:Nat}(h:a<2 ^ s):a ||| (d*2 ^ s)=a+d*2 ^ s:=by
 have:=Nat.shiftLeft_add_eq_or_of_lt h d;rw [Nat.shiftLeft_eq] at this;rw [Nat.or_comm,←this];omega
theorem ziy (z:Int)(h:0≤z):IntKind.u32.wrap z=z % 4294967296:=by
 refine q3z ?_;simp
theorem zeB (z:Int)(h:0≤z∧z<4294967296):IntKind.u32.wrap z=z:=by
 rw [ziy z h.1];omega
theorem zkU {a b:Int}(ha:0≤a∧a<4294967296)(hb:0≤b∧b<4294967296):orK .u32 a b=((a.toNat ||| b.toNat:Nat):Int):=by
 unfold orK; (have e1:(BitVec.ofInt 32 a).toNat=a.toNat:=by rw [BitVec.toNat_ofInt];omega); (have e2:(BitVec.ofInt 32 b).toNat=b.toNat:=by rw [BitVec.toNat_ofInt];omega);rw [show IntKind.u32.bits=32 from rfl,BitVec.toNat_or,e1,e2];have h:a.toNat ||| b.toNat<2 ^ 32:=Nat.or_lt_two_pow a6 a6;rw [zeB _ a6]
@[irreducible] def dm:Nat:=4294967296
theorem ja:dm=4294967296:=by unfold dm;rfl
theorem iL:0<dm:=by rw [ja];decide
theorem poly3 (W a a1 a2:Nat):a2+W* (a1+W*a)=(a*W+a1) *W+a2:=by
 rw [Nat.mul_add,Nat.add_mul,Nat.mul_comm W (W*a),Nat.mul_comm W a,Nat.mul_comm W a1];omega
theorem ofI {z:Int}(h:0≤z∧z<18446744073709551616):(BitVec.ofInt 64 z).toNat=z.toNat:=by
 rw [BitVec.toNat_ofInt];omega
theorem kQ {z:Int}(h:0≤z∧z<(dm:Int)):(BitVec.ofInt 64 z).toNat=z.toNat:=ofI (by rw [ja] at h;omega)
theorem zkq {a b:BitVec 64}(h:a.toNat+b.toNat<18446744073709551616):(a+b).toNat=a.toNat+b.toNat:=by
 rw [BitVec.toNat_add];omega
theorem zlh {a b:BitVec 64}(h:a.toNat*b.toNat<18446744073709551616):(a*b).toNat=a.toNat*b.toNat:=by
 rw [BitVec.toNat_mul,Nat.mod_eq_of_lt a6]
theorem zim (a:BitVec 64)(k:Nat):(a >>> k).toNat=a.toNat / 2 ^ k:=by
 rw [BitVec.toNat_ushiftRight,Nat.shiftRight_eq_div_pow]
theorem zjD {a b:BitVec 64}(ha:a.toNat<4294967296)(hb:b.toNat<4294967296):((a <<< 32) ||| b).toNat=a.toNat*4294967296+b.toNat:=by
 rw [BitVec.toNat_or,BitVec.toNat_shiftLeft,Nat.shiftLeft_eq,Nat.mod_eq_of_lt a6];have:=zgV (a:=b.toNat) (d:=a.toNat) (s:=32) a6;rw [Nat.or_comm,this];omega
structure QIn (u v:List Int) (n:Nat):Prop where
 n2:2≤n
 vl:v.length=n
 ul:u.length=n+1
 du:Dig dm u
 dv:Dig dm v
 top:2147483648≤nth v (n - 1)
 lt:val dm u<dm*val dm v
section
variable {u v:List Int}{n:Nat}
theorem QIn.parts (h:QIn u v n):val dm u=val dm (u.take (n - 2))+dm ^ (n - 2) * (((nth u n).toNat*dm+(nth u (n - 1)).toNat) *dm+(nth u (n - 2)).toNat)∧val dm v=val dm (v.take (n - 2))+dm ^ (n - 2) * ((nth v (n - 1)).toNat*dm+(nth v (n - 2)).toNat)∧val dm (u.take (n - 2))<dm ^ (n - 2)∧val dm (v.take (n - 2))<dm ^ (n - 2):=by
 have:=h.n2;have hu:=h.ul;have hv:=h.vl;have b1:=j5 (h.du.take (n - 2));have b2:=j5 (h.dv.take (n - 2));rw [List.length_take,Nat.min_eq_left a6] at b1 b2;refine ⟨?_,?_,b1,b2⟩
 ·rw [zfr (n - 2) a6,zej a6,show n - 2+1=n - 1 by omega,zej a6,show n - 1+1=n by omega,zej a6,List.drop_eq_nil_of_le a6];simp only [val,Nat.mul_zero,Nat.add_zero];rw [poly3]
 ·rw [zfr (n - 2) a6,zej a6,show n - 2+1=n - 1 by omega,zej a6,show n - 1+1=n by omega,List.drop_eq_nil_of_le a6];simp only [val,Nat.mul_zero,Nat.add_zero];rw [Nat.mul_comm (nth v (n - 1)).toNat dm,Nat.add_comm (nth v (n - 2)).toNat]
theorem QIn.lo (h:QIn u v n){Q:Nat}(hQ:Q*val dm v≤val dm u):Q* ((nth v (n - 1)).toNat*dm+(nth v (n - 2)).toNat)≤((nth u n).toNat*dm+(nth u (n - 1)).toNat) *dm+(nth u (n - 2)).toNat:=by
 obtain ⟨h1,h2,h3,h4⟩:=h.parts;generalize ((nth u n).toNat*dm+(nth u (n - 1)).toNat) *dm+(nth u (n - 2)).toNat=T at *;generalize (nth v (n - 1)).toNat*dm+(nth v (n - 2)).toNat=W at *;generalize dm ^ (n - 2)=b at *; (have hb:0<b:=by omega);rw [h1,h2,Nat.mul_add] at hQ; (have e:Q* (b*W)=b* (Q*W):=by rw [←Nat.mul_assoc,Nat.mul_comm Q b,Nat.mul_assoc]);rw [e] at hQ;refine Nat.le_of_lt_succ (Nat.lt_of_mul_lt_mul_left (a:=b) ?_);rw [Nat.succ_eq_add_one,Nat.mul_add,Nat.mul_one];omega
theorem QIn.hi (h:QIn u v n){q:Nat}(hq:q<dm)(ht:q* ((nth v (n - 1)).toNat*dm+(nth v (n - 2)).toNat)≤((nth u n).toNat*dm+(nth u (n - 1)).toNat) *dm+(nth u (n - 2)).toNat):q≤val dm u / val dm v+1:=by
 obtain ⟨h1,h2,h3,h4⟩:=h.parts;have htop:=h.top
 have hW:dm≤(nth v (n - 1)).toNat*dm+(nth v (n - 2)).toNat:=by
  have:=Nat.mul_le_mul_right dm (show 1≤(nth v (n - 1)).toNat by omega);omega
 generalize ((nth u n).toNat*dm+(nth u (n - 1)).toNat) *dm+(nth u (n - 2)).toNat=T at *;generalize (nth v (n - 1)).toNat*dm+(nth v (n - 2)).toNat=W at *;generalize dm ^ (n - 2)=b at *; (have hb:0<b:=by omega)
 have hV:0<val dm v:=by
  have:=Nat.mul_le_mul hb hW;have:=iL;omega
 refine Nat.le_of_not_lt fun hlt=>?_;have hlt2:=Nat.lt_mul_div_succ (val dm u) hV;generalize val dm u / val dm v=Q at hlt hlt2
 have h5:val dm v* (Q+1)≤val dm v* (q - 1):=Nat.mul_le_mul_left _ a6; (have h6:val dm v≤b*W+b:=by omega);have h7:val dm v* (q - 1)≤(b*W+b) * (q - 1):=Nat.mul_le_mul_right _ h6;have h8:b* (q*W)≤b*T:=Nat.mul_le_mul_left _ ht; (have h9:(b*W+b) * (q - 1)=b* ((W+1) * (q - 1)):=by rw [←Nat.mul_assoc,Nat.mul_add,Nat.mul_one])
 have h10:b* (q*W)<b* ((W+1) * (q - 1)):=by
  rw [←h9];exact Nat.lt_of_le_of_lt (Nat.le_trans h8 (by rw [h1];exact Nat.le_add_left _ _)) (Nat.lt_of_lt_of_le hlt2 (Nat.le_trans h5 h7))
 have h11:=Nat.lt_of_mul_lt_mul_left h10;obtain ⟨p,rfl⟩:∃p,q=p+1:=⟨q - 1,by omega⟩;rw [show p+1 - 1=p by omega,Nat.add_mul,Nat.add_mul,Nat.mul_comm p W] at h11;omega
theorem QIn.topu (h:QIn u v n):(nth u n).toNat≤(nth v (n - 1)).toNat:=by
 obtain ⟨h1,h2,h3,h4⟩:=h.parts;have hlt:=h.lt;have d1:=h.dv.nth (i:=n - 2) (by have:=h.n2;have:=h.vl;omega);refine Nat.le_of_not_lt fun hc=>?_;rw [h1,h2] at hlt;generalize dm ^ (n - 2)=b at *;generalize (nth u n).toNat=a at *;generalize (nth v (n - 1)).toNat=c at *;generalize (nth u (n - 1)).toNat=a1 at *;generalize (nth u (n - 2)).toNat=a2 at *;generalize hv2:(nth v (n - 2)).toNat=c2 at *; (have hc2:c2+1≤dm:=by omega)
 have h5:b* (c*dm+c2)+b≤b* (c*dm+dm):=by
  have:=Nat.mul_le_mul_left b (show c*dm+c2+1≤c*dm+dm by omega);rw [Nat.mul_add b _ 1,Nat.mul_one] at this;exact this
 have h6:b* (c*dm+dm)≤b* (a*dm):=Nat.mul_le_mul_left _ (by
  have:=Nat.mul_le_mul_right dm (show c+1≤a by omega)
  rw [Nat.add_mul,Nat.one_mul] at this;exact this)
 have h7:dm* (val dm (v.take (n - 2))+b* (c*dm+c2))≤dm* (b* (a*dm)):=Nat.mul_le_mul_left _ a6; (have h8:dm* (b* (a*dm))=b* (a*dm*dm):=by rw [Nat.mul_comm,Nat.mul_assoc]);have h9:b* (a*dm*dm)≤b* ((a*dm+a1) *dm+a2):=Nat.mul_le_mul_left _ (by rw [Nat.add_mul];omega);omega
end
def zgP (u v_:List Int)(q_1:BitVec 64):Option (Int×List Int):=
 dN (fun (i_20:Nat) (next19:(BitVec 64×BitVec 64×List Int)→Option (Int×List Int)) (s19:BitVec 64×BitVec 64×List Int)=>
 dB (0≤(i_20:Int)∧(i_20:Int)<(s19.2.2.length:Int)) <|
 next19 (((((BitVec.ofInt 64 (nth s19.2.2 i_20)) - (BitVec.ofInt 64 (IntKind.u32.wrap ((s19.2.1+(q_1* (BitVec.ofInt 64 (nth v_ i_20)))).toNat:Int)))) - s19.1) >>> 63),((s19.2.1+(q_1* (BitVec.ofInt 64 (nth v_ i_20)))) >>> 32),(s19.2.2.set i_20 (IntKind.u32.wrap ((((BitVec.ofInt 64 (nth s19.2.2 i_20)) - (BitVec.ofInt 64 (IntKind.u32.wrap ((s19.2.1+(q_1* (BitVec.ofInt 64 (nth v_ i_20)))).toNat:Int)))) - s19.1).toNat:Int)))))
 (fun (s15:BitVec 64×BitVec 64×List Int)=>
 dB (0≤(v_.length:Int)∧(v_.length:Int)<(s15.2.2.length:Int)) <|
 (bif decide (¬(((((BitVec.ofInt 64 (nth s15.2.2 v_.length)) - s15.2.1) - s15.1) >>> 63).toNat:Int)=((0#64).toNat:Int)) then
 dN (fun (i_32:Nat) (next31:(BitVec 64×List Int)→Option (Int×List Int)) (s31:BitVec 64×List Int)=>
 dB (0≤(i_32:Int)∧(i_32:Int)<(s31.2.length:Int)) <|
 next31 (((s31.1+((BitVec.ofInt 64 (nth s31.2 i_32))+(BitVec.ofInt 64 (nth v_ i_32)))) >>> 32),(s31.2.set i_32 (IntKind.u32.wrap ((s31.1+((BitVec.ofInt 64 (nth s31.2 i_32))+(BitVec.ofInt 64 (nth v_ i_32)))).toNat:Int)))))
 (fun (s28:BitVec 64×List Int)=>
 dB (0≤(v_.length:Int)∧(v_.length:Int)<(s28.2.length:Int)) <|
 some ((IntKind.u32.wrap ((q_1 - (1#64)).toNat:Int)),(s28.2.set v_.length (IntKind.u32.wrap ((nth s28.2 v_.length)+(IntKind.u32.wrap (s28.1.toNat:Int))))))) (v_.length - 0) 0 (0#64,(s15.2.2.set v_.length (IntKind.u32.wrap ((((BitVec.ofInt 64 (nth s15.2.2 v_.length)) - s15.2.1) - s15.1).toNat:Int))))
 else
 some ((IntKind.u32.wrap (q_1.toNat:Int)),(s15.2.2.set v_.length (IntKind.u32.wrap ((((BitVec.ofInt 64 (nth s15.2.2 v_.length)) - s15.2.1) - s15.1).toNat:Int)))))) (v_.length - 0) 0 (0#64,0#64,u)
theorem zi4 (a b:BitVec 64):(a - b).toNat=(18446744073709551616 - b.toNat+a.toNat) % 18446744073709551616:=BitVec.toNat_sub a b
theorem zkf {x:Int}{lo:Nat}{bb:BitVec 64}(hx:0≤x∧x<(dm:Int))(hlo:lo<dm)(hb:bb.toNat≤1):
  ∃b' w:Nat,(((BitVec.ofInt 64 x - BitVec.ofInt 64 (lo:Int)) - bb) >>> 63).toNat=b'∧IntKind.u32.wrap (((BitVec.ofInt 64 x - BitVec.ofInt 64 (lo:Int)) - bb).toNat:Int)=(w:Int)∧x.toNat+dm*b'=w+lo+bb.toNat∧w<dm∧b'≤1:=by
 have e1:(BitVec.ofInt 64 x).toNat=x.toNat:=kQ hx; (have e2:(BitVec.ofInt 64 (lo:Int)).toNat=lo:=by rw [kQ a6];omega);rw [ja] at*
 have ed:((BitVec.ofInt 64 x - BitVec.ofInt 64 (lo:Int)) - bb).toNat=if lo+bb.toNat≤x.toNat then x.toNat - lo - bb.toNat else 18446744073709551616+x.toNat - lo - bb.toNat:=by
  rw [zi4,zi4,e1,e2]
  split <;> omega
 refine ⟨_,(((BitVec.ofInt 64 x - BitVec.ofInt 64 (lo:Int)) - bb).toNat % 4294967296),rfl,?_,?_,?_,?_⟩
 ·rw [ziy _ a6];omega
 ·rw [zim,ed];split <;> omega
 ·omega
 ·rw [zim,ed];split <;> omega
section
variable {u v:List Int}{n:Nat}
structure MI (u v:List Int) (n q i:Nat) (s:BitVec 64×BitVec 64×List Int):Prop where
 b:s.1.toNat≤1
 c:s.2.1.toNat<dm
 len:s.2.2.length=n+1
 dig:Dig dm s.2.2
 rest:∀j,i≤j→j≤n→nth s.2.2 j=nth u j
 eq:val dm (u.take i)+dm ^ i* (s.1.toNat+s.2.1.toNat)=val dm (s.2.2.take i)+q*val dm (v.take i)
theorem zeh {l:List Int}{i:Nat}{x:Int}:(l.set i x).take i=l.take i:=by
 rw [List.take_set_of_le (Nat.le_refl i)]
theorem kS {l:List Int}{i:Nat}{x:Int}(h:i<l.length):nth (l.set i x) i=x:=by
 unfold nth;rw [List.getD_eq_getElem?_getD,List.getElem?_set_self h];rfl
theorem ze5 {l:List Int}{i j:Nat}{x:Int}(h:i≠j):nth (l.set i x) j=nth l j:=by
 unfold nth;rw [List.getD_eq_getElem?_getD,List.getD_eq_getElem?_getD,List.getElem?_set_ne h]
theorem jx (m:Nat):IntKind.u32.wrap (m:Int)=((m % dm:Nat):Int):=by
 rw [ziy _ a6,ja];omega
theorem MI.step (h:QIn u v n){q:BitVec 64}(hq:q.toNat<dm){i:Nat}(hi:i<n){s:BitVec 64×BitVec 64×List Int}(k:MI u v n q.toNat i s):
  MI u v n q.toNat (i+1) (((((BitVec.ofInt 64 (nth s.2.2 i)) - (BitVec.ofInt 64 (IntKind.u32.wrap ((s.2.1+(q* (BitVec.ofInt 64 (nth v i)))).toNat:Int)))) - s.1) >>> 63),((s.2.1+(q* (BitVec.ofInt 64 (nth v i)))) >>> 32),(s.2.2.set i (IntKind.u32.wrap ((((BitVec.ofInt 64 (nth s.2.2 i)) - (BitVec.ofInt 64 (IntKind.u32.wrap ((s.2.1+(q* (BitVec.ofInt 64 (nth v i)))).toNat:Int)))) - s.1).toNat:Int)))):=by
 obtain ⟨kb,kc,kl,kd,kr,ke⟩:=k;have dv:=h.dv.nth (i:=i) (by have:=h.vl;omega);have dx:=kd.nth (i:=i) a6;have ev:(BitVec.ofInt 64 (nth v i)).toNat=(nth v i).toNat:=kQ dv
 have hmul:q.toNat* (nth v i).toNat≤18446744065119617025:=by
  have:=Nat.mul_le_mul (show q.toNat≤4294967295 by rw [ja] at hq;omega) (show (nth v i).toNat≤4294967295 by rw [ja] at dv;omega);omega
 have em:(s.2.1+(q* (BitVec.ofInt 64 (nth v i)))).toNat=s.2.1.toNat+q.toNat* (nth v i).toNat:=by
  (have e1:(q* (BitVec.ofInt 64 (nth v i))).toNat=q.toNat* (nth v i).toNat:=by rw [zlh (by rw [ev];omega),ev]);rw [zkq (by rw [e1];rw [ja] at kc;omega),e1]
 rw [em,jx];generalize hm:s.2.1.toNat+q.toNat* (nth v i).toNat=m at *;obtain ⟨b',w,h1,h2,h3,h4,h5⟩:=zkf (x:=nth s.2.2 i) (lo:=m % dm) (bb:=s.1) dx (Nat.mod_lt _ iL) kb; (have ec:((s.2.1+(q* (BitVec.ofInt 64 (nth v i)))) >>> 32).toNat=m / dm:=by rw [zim,em,ja])
 have hm2:m / dm<dm:=by
  rw [Nat.div_lt_iff_lt_mul iL,ja];rw [ja] at kc;omega
 refine ⟨by dsimp only;rw [h1];exact h5,by dsimp only;rw [ec];exact hm2,by dsimp only;rw [List.length_set];exact kl,?_,fun j hj hjn=>?_,?_⟩
 ·dsimp only;rw [h2];exact kd.set a6
 ·dsimp only;rw [ze5 a6];exact kr j a6 hjn
 ·dsimp only;rw [h1,ec,h2,iM (by have:=h.ul;omega),iM b8,zeh,kS a6,iM (by have:=h.vl;omega),←kr i (Nat.le_refl i) a6];have hdm:=Nat.div_add_mod m dm
  (have e1:dm ^ i* ((nth s.2.2 i).toNat+dm*b')=dm ^ i* (w+m % dm+s.1.toNat):=by rw [h3]); (have e2:dm ^ i* (dm* (m / dm)+m % dm)=dm ^ i*m:=by rw [hdm])
  have e3:dm ^ i*m=dm ^ i*s.2.1.toNat+q.toNat* (dm ^ i* (nth v i).toNat):=by
   rw [←hm,Nat.mul_add,←Nat.mul_assoc,Nat.mul_comm (dm ^ i) q.toNat,Nat.mul_assoc]
  have e4:dm ^ (i+1) * (b'+m / dm)=dm ^ i* (dm*b')+dm ^ i* (dm* (m / dm)):=by
   rw [Nat.pow_succ,Nat.mul_add,Nat.mul_assoc,Nat.mul_assoc]
  (have e5:((w:Int)).toNat=w:=by omega);rw [e4,e5,Nat.mul_add q.toNat];rw [Nat.mul_add] at ke;rw [Nat.mul_add,Nat.mul_add,Nat.mul_add] at e1;rw [Nat.mul_add] at e2;omega
structure AI (u0 v:List Int) (n i:Nat) (s:BitVec 64×List Int):Prop where
 c:s.1.toNat≤1
 len:s.2.length=n+1
 dig:Dig dm s.2
 rest:∀j,i≤j→j≤n→nth s.2 j=nth u0 j
 eq:val dm (u0.take i)+val dm (v.take i)=val dm (s.2.take i)+dm ^ i*s.1.toNat
theorem AI.step {u0:List Int}(hl:u0.length=n+1)(hv:v.length=n)(hdv:Dig dm v){i:Nat}(hi:i<n){s:BitVec 64×List Int}(k:AI u0 v n i s):
  AI u0 v n (i+1) (((s.1+((BitVec.ofInt 64 (nth s.2 i))+(BitVec.ofInt 64 (nth v i)))) >>> 32),(s.2.set i (IntKind.u32.wrap ((s.1+((BitVec.ofInt 64 (nth s.2 i))+(BitVec.ofInt 64 (nth v i)))).toNat:Int)))):=by
 obtain ⟨kc,kl,kd,kr,ke⟩:=k;have dv:=hdv.nth (i:=i) a6;have dx:=kd.nth (i:=i) a6;have ev:(BitVec.ofInt 64 (nth v i)).toNat=(nth v i).toNat:=kQ dv;have ex:(BitVec.ofInt 64 (nth s.2 i)).toNat=(nth s.2 i).toNat:=kQ dx;have hB:=ja; (have e1:((BitVec.ofInt 64 (nth s.2 i))+(BitVec.ofInt 64 (nth v i))).toNat=(nth s.2 i).toNat+(nth v i).toNat:=by rw [zkq (by rw [ev,ex];omega),ev,ex]); (have em:(s.1+((BitVec.ofInt 64 (nth s.2 i))+(BitVec.ofInt 64 (nth v i)))).toNat=s.1.toNat+((nth s.2 i).toNat+(nth v i).toNat):=by rw [zkq (by rw [e1];omega),e1]);rw [em,jx];generalize hm:s.1.toNat+((nth s.2 i).toNat+(nth v i).toNat)=m at *; (have ec:((s.1+((BitVec.ofInt 64 (nth s.2 i))+(BitVec.ofInt 64 (nth v i)))) >>> 32).toNat=m / dm:=by rw [zim,em,ja]);have hdm:=Nat.div_add_mod m dm;have hml:=Nat.mod_lt m iL
 have hm2:m / dm≤1:=by
  (have:m / dm<2:=by rw [Nat.div_lt_iff_lt_mul iL];omega);omega
 refine ⟨by dsimp only;rw [ec];exact hm2,by dsimp only;rw [List.length_set];exact kl,by dsimp only;exact kd.set a6,fun j hj hjn=>?_,?_⟩
 ·dsimp only;rw [ze5 a6];exact kr j a6 hjn
 ·dsimp only;rw [ec,iM a6,iM a6,iM b8,zeh,kS a6,←kr i (Nat.le_refl i) a6]; (have e2:dm ^ i* (dm* (m / dm)+m % dm)=dm ^ i*m:=by rw [hdm]); (have e3:dm ^ i*m=dm ^ i*s.1.toNat+dm ^ i* (nth s.2 i).toNat+dm ^ i* (nth v i).toNat:=by rw [←hm,Nat.mul_add,Nat.mul_add];omega); (have e4:dm ^ (i+1) * (m / dm)=dm ^ i* (dm* (m / dm)):=by rw [Nat.pow_succ,Nat.mul_assoc]);rw [e4,show (((m % dm:Nat):Int)).toNat=m % dm by omega];rw [Nat.mul_add] at e2;omega
def ld (u v:List Int)(n:Nat)(x:Option (Int×List Int)):Prop:=∃u',x=some (((val dm u / val dm v:Nat):Int),u')∧u'.length=n+1∧Dig dm u'∧val dm (u'.take n)=val dm u % val dm v∧nth u' n=0
theorem zly (h:QIn u v n){q:BitVec 64}(hq:q.toNat<dm)(h1:val dm u / val dm v≤q.toNat)(h2:q.toNat≤val dm u / val dm v+1):ld u v n (zgP u v q):=by
 have hB:=ja;have hn2:=h.n2;have hvl:=h.vl;have hul:=h.ul;have hVn:=j5 h.dv
 have hV:0<val dm v:=by
  have h1:=h.parts.2.1;have:=h.top;have h3:0<dm ^ (n - 2):=Nat.pow_pos iL
  have h4:=Nat.mul_le_mul h3 (show 1≤(nth v (n - 1)).toNat*dm+(nth v (n - 2)).toNat by
   have:=Nat.mul_le_mul_right dm (show 1≤(nth v (n - 1)).toNat by omega)
   omega)
  omega
 have hQV:=Nat.div_mul_le_self (val dm u) (val dm v);have hmod:=Nat.div_add_mod (val dm u) (val dm v);have hml:=Nat.mod_lt (val dm u) hV;rw [hvl] at hVn; (have hQW:val dm u / val dm v<dm:=by rw [Nat.div_lt_iff_lt_mul hV];exact h.lt);unfold zgP;rw [hvl];refine mf (n:=n) (fun i s=>MI u v n q.toNat i s) (ld u v n) ⟨by simp,by simp [iL],hul,h.du,fun _ _ _=>rfl,by simp [val]⟩ (fun s k=>?_) (fun i s next hi k hn=>?_)
 ·obtain ⟨kb,kc,kl,kd,kr,ke⟩:=k
  have eu:val dm u=val dm (u.take n)+dm ^ n* (nth u n).toNat:=by
   have:=iM (B:=dm) (l:=u) (i:=n) a6;rw [←hul,List.take_length] at this;exact this
  (have ev:v.take n=v:=by rw [←hvl,List.take_length]);rw [ev] at ke;have hwl:=j5 (kd.take n);rw [List.length_take,Nat.min_eq_left a6] at hwl;have dn:=h.du.nth (i:=n) a6;rw [eN a6,kr n (Nat.le_refl n) (Nat.le_refl n)];generalize hT:val dm (s.2.2.take n)=T at *;generalize hP:dm ^ n=b at *;generalize hUT:val dm (u.take n)=X at *;generalize hU:val dm u=U at *;generalize hVV:val dm v=V at *;generalize hQ:U / V=Q at *;generalize hR:U % V=R at*
  have eun:(BitVec.ofInt 64 (nth u n)).toNat=(nth u n).toNat:=kQ dn
  have ed:((BitVec.ofInt 64 (nth u n) - s.2.1) - s.1).toNat=if s.2.1.toNat+s.1.toNat≤(nth u n).toNat then (nth u n).toNat - s.2.1.toNat - s.1.toNat else 18446744073709551616+(nth u n).toNat - s.2.1.toNat - s.1.toNat:=by
   rw [zi4,zi4,eun]
   split <;> omega
  have e63:((((BitVec.ofInt 64 (nth u n) - s.2.1) - s.1) >>> 63).toNat:Int)=if s.2.1.toNat+s.1.toNat≤(nth u n).toNat then 0 else 1:=by
   rw [zim,ed];split <;> omega
  rw [e63];generalize hc:s.2.1.toNat+s.1.toNat=c at *; (have hc':s.1.toNat+s.2.1.toNat=c:=by omega);rw [hc'] at ke;generalize hun:(nth u n).toNat=un at*
  by_cases hle:c≤un
  ·rw [if_pos hle,show (((0#64).toNat:Nat):Int)=0 from rfl,decide_eq_false b3,cond_false];rw [if_pos hle] at ed;obtain ⟨g,hg⟩:∃g,un=c+g:=⟨un - c,by omega⟩
   have hqQ:q.toNat=Q:=by
    rcases Nat.lt_or_ge Q q.toNat with hlt|hge
    ·exfalso; (have e1:q.toNat=Q+1:=by omega);rw [e1,Nat.add_mul,Nat.one_mul] at ke;rw [hg,Nat.mul_add] at eu;rw [Nat.mul_comm V Q] at hmod;omega
    ·omega
   rw [hqQ] at ke;rw [Nat.mul_comm V Q] at hmod;rw [hg,Nat.mul_add] at eu
   have hg0:g=0:=by
    rcases Nat.eq_zero_or_pos g with e|e
    ·exact e
    ·have:=Nat.mul_le_mul_left b e;omega
   subst hg0;rw [Nat.mul_zero] at eu; (have ew:IntKind.u32.wrap ((((BitVec.ofInt 64 (nth u n) - s.2.1) - s.1)).toNat:Int)=0:=by rw [ed,show un - s.2.1.toNat - s.1.toNat=0 by omega];rfl);rw [ew,hqQ,jx,Nat.mod_eq_of_lt a6];refine ⟨_,by rw [hU,hVV,hQ],by rw [List.length_set];exact kl,kd.set a6,?_,kS a6⟩;rw [zeh,hT,hU,hVV,hR];omega
  ·rw [if_neg hle,show (((0#64).toNat:Nat):Int)=0 from rfl,decide_eq_true b3,cond_true];rw [if_neg hle] at ed;obtain ⟨g,hg⟩:∃g,c=un+(g+1):=⟨c - un - 1,by omega⟩
   have hqQ:q.toNat=Q+1:=by
    rcases Nat.lt_or_ge Q q.toNat with hlt|hge
    ·omega
    ·exfalso; (have e1:q.toNat=Q:=by omega);rw [e1] at ke;rw [hg,Nat.mul_add,Nat.mul_add,Nat.mul_one] at ke;rw [Nat.mul_comm V Q] at hmod;omega
   rw [hqQ,Nat.add_mul,Nat.one_mul] at ke;rw [Nat.mul_comm V Q] at hmod;rw [hg,Nat.mul_add,Nat.mul_add,Nat.mul_one] at ke
   have hg0:g=0:=by
    rcases Nat.eq_zero_or_pos g with e|e
    ·exact e
    ·have:=Nat.mul_le_mul_left b e;omega
   subst hg0;rw [Nat.mul_zero,Nat.zero_add] at ke; (have ew:IntKind.u32.wrap ((((BitVec.ofInt 64 (nth u n) - s.2.1) - s.1)).toNat:Int)=((dm - 1:Nat):Int):=by rw [ed,jx,hB,show 18446744073709551616+un - s.2.1.toNat - s.1.toNat=18446744073709551615 by omega]);rw [ew]; (have kl0:(s.2.2.set n ((dm - 1:Nat):Int)).length=n+1:=by rw [List.length_set];exact kl);have hd0:Dig dm (s.2.2.set n ((dm - 1:Nat):Int)):=kd.set a6;refine mf (n:=n) (fun i s'=>AI (s.2.2.set n ((dm - 1:Nat):Int)) v n i s') (ld u v n) ⟨by simp,kl0,hd0,fun _ _ _=>rfl,by simp [val]⟩ (fun s' k=>?_) (fun i s' next hi k hn=>?_)
   ·obtain ⟨ac,al,ad,ar,ae⟩:=k;rw [zeh,hT,ev,hVV] at ae;have hwl2:=j5 (ad.take n);rw [List.length_take,Nat.min_eq_left a6,hP] at hwl2;rw [eN a6,ar n (Nat.le_refl n) (Nat.le_refl n),kS a6,jx]
    have e1:s'.1.toNat=1:=by
     rcases Nat.eq_zero_or_pos s'.1.toNat with e|e
     ·rw [e,Nat.mul_zero] at ae;exfalso; (have z1:T+V=R+b:=by omega);omega
     ·omega
    rw [e1,Nat.mul_one] at ae; (have e2:IntKind.u32.wrap (((dm - 1:Nat):Int)+IntKind.u32.wrap ((1:Nat):Int))=0:=by rw [hB];rfl); (have e3:(q - 1#64).toNat=Q:=by rw [zi4,hqQ,show (1#64).toNat=1 from rfl];omega);rw [e3,Nat.mod_eq_of_lt hQW,e1,e2];refine ⟨_,by rw [hU,hVV,hQ],by rw [List.length_set];exact al,ad.set a6,?_,kS a6⟩;rw [zeh,hU,hVV,hR];omega
   ·have:=k.len;rw [eN a6];exact hn _ (AI.step kl0 hvl h.dv hi k)
 ·have:=k.len;rw [eN a6];exact hn _ (MI.step h hq hi k)
theorem zgG {fuel : Nat} (hf : 4 ≤ fuel) (h : QIn u v n) : ld u v n (zbs fuel u v) := by
  have hB := ja; have hn2 := h.n2; have hvl := h.vl; have hul := h.ul; have htop := h.top; have d1 := h.dv.nth (i := n - 1) a6; have d2 := h.dv.nth (i := n - 2) a6; have un := h.du.nth (i := n) a6; have u1 := h.du.nth (i := n - 1) a6; have u2 := h.du.nth (i := n - 2) a6; have ehi : (BitVec.ofInt 64 (nth v (n - 1))).toNat = (nth v (n - 1)).toNat := kQ d1; have ev2 : (BitVec.ofInt 64 (nth v (n - 2))).toNat = (nth v (n - 2)).toNat := kQ d2; have eun : (BitVec.ofInt 64 (nth u n)).toNat = (nth u n).toNat := kQ un; have eu1 : (BitVec.ofInt 64 (nth u (n - 1))).toNat = (nth u (n - 1)).toNat := kQ u1; have eu2 : (BitVec.ofInt 64 (nth u (n - 2))).toNat = (nth u (n - 2)).toNat := kQ u2
  have hne : ¬ BitVec.ofInt 64 (nth v (n - 1)) = 0#64 := fun e => by
    have := congrArg BitVec.toNat e; rw [ehi, show (0#64).toNat = 0 from rfl] at this; omega
  have etop := zjD (a := BitVec.ofInt 64 (nth u n)) (b := BitVec.ofInt 64 (nth u (n - 1))) a6 a6; rw [eun, eu1] at etop; unfold zbs; rw [hvl, show ((n : Int) - 1).toNat = n - 1 by omega, show ((n : Int) - 2).toNat = n - 2 by omega]; rw [eN a6, eN a6, eN hne, eN hne];simp only [dO]
  have hV : 0 < val dm v := by
    have h1 := h.parts.2.1; have h3 : 0 < dm ^ (n - 2) := Nat.pow_pos iL
    have h4 := Nat.mul_le_mul h3 (show 1 ≤ (nth v (n - 1)).toNat * dm + (nth v (n - 2)).toNat by
      have := Nat.mul_le_mul_right dm (show 1 ≤ (nth v (n - 1)).toNat by omega)
      omega)
    omega
  (have hQW : val dm u / val dm v < dm := by rw [Nat.div_lt_iff_lt_mul hV]; exact h.lt); have hlo := h.lo (Q := val dm u / val dm v) (Nat.div_mul_le_self _ _); have htu := h.topu; have hhi : ∀ q : Nat, q < dm → q * ((nth v (n - 1)).toNat * dm + (nth v (n - 2)).toNat) ≤ ((nth u n).toNat * dm + (nth u (n - 1)).toNat) * dm + (nth u (n - 2)).toNat → q ≤ val dm u / val dm v + 1 := fun q h1 h2 => h.hi h1 h2; have htail : ∀ q : BitVec 64, q.toNat < dm → val dm u / val dm v ≤ q.toNat → q.toNat ≤ val dm u / val dm v + 1 → ld u v n (zgP u v q) := fun q h1 h2 h3 => zly h h1 h2 h3; unfold zgP at htail; rw [hvl] at htail; generalize val dm u / val dm v = Q at *; generalize hhv : (nth v (n - 1)).toNat = hi at *; generalize hv2' : (nth v (n - 2)).toNat = v2 at *; generalize hun' : (nth u n).toNat = a at *; generalize hu1' : (nth u (n - 1)).toNat = a1 at *; generalize hu2' : (nth u (n - 2)).toNat = a2 at *; rw [hB] at hlo hhi; refine ze3 (fun s => s.1.toNat * hi + s.2.toNat = a * 4294967296 + a1 ∧ s.2.toNat < 4294967296 ∧ Q ≤ s.1.toNat ∧ s.1.toNat ≤ 4294967300) (fun s => if s.2.toNat < 2147483648 then 1 else 0) (ld u v n) ?_ (by split <;> omega) ?_
  · (have hq0 : ((((BitVec.ofInt 64 (nth u n)) <<< 32) ||| (BitVec.ofInt 64 (nth u (n - 1)))) / (BitVec.ofInt 64 (nth v (n - 1)))).toNat = (a * 4294967296 + a1) / hi := by rw [BitVec.toNat_udiv, etop, ehi]); (have hr0 : ((((BitVec.ofInt 64 (nth u n)) <<< 32) ||| (BitVec.ofInt 64 (nth u (n - 1)))) % (BitVec.ofInt 64 (nth v (n - 1)))).toNat = (a * 4294967296 + a1) % hi := by rw [BitVec.toNat_umod, etop, ehi]);dsimp only; rw [hq0, hr0]; have hdm := Nat.div_add_mod (a * 4294967296 + a1) hi; have hml := Nat.mod_lt (a * 4294967296 + a1) (show 0 < hi by omega); rw [Nat.mul_comm] at hdm; refine ⟨hdm, by omega, ?_, ?_⟩
    · -- the true word is at most the guess
      rw [Nat.le_div_iff_mul_le a6]; have h5 : Q * (hi * 4294967296) ≤ Q * (hi * 4294967296 + v2) := Nat.mul_le_mul_left _ (Nat.le_add_right _ _); (have h6 : Q * (hi * 4294967296) = Q * hi * 4294967296 := by rw [Nat.mul_assoc]); omega
    · refine Nat.le_of_lt_succ ?_; rw [Nat.div_lt_iff_lt_mul a6]; have : a * 4294967296 ≤ hi * 4294967296 := Nat.mul_le_mul_right _ htu; omega
  · rintro ⟨q, r⟩ next ⟨i1, i2, i3, i4⟩ hn; dsimp only at i1 i2 i3 i4 hn ⊢
    have step : Q + 1 ≤ q.toNat → ld u v n (bif decide (((4294967296#64).toNat : Int) ≤ ((r + (BitVec.ofInt 64 (nth v (n - 1)))).toNat : Int)) then
            zgP u v (q - 1#64)
            else
            next ((q - (1#64)), (r + (BitVec.ofInt 64 (nth v (n - 1)))))) := fun hgt => by
      (have er : (r + (BitVec.ofInt 64 (nth v (n - 1)))).toNat = r.toNat + hi := by rw [zkq (by rw [ehi]; omega), ehi]); (have eq : (q - 1#64).toNat = q.toNat - 1 := by rw [zi4, show (1#64).toNat = 1 from rfl]; omega); obtain ⟨p, hp⟩ : ∃ p, q.toNat = p + 1 := ⟨q.toNat - 1, by omega⟩; rw [hp, Nat.add_mul, Nat.one_mul] at i1; rw [er, show (((4294967296#64).toNat : Nat) : Int) = 4294967296 from rfl]; by_cases hbr : 4294967296 ≤ r.toNat + hi
      · rw [decide_eq_true a6, cond_true]
        have hpW : p < 4294967296 := by
          refine Nat.lt_of_mul_lt_mul_right (a := hi) ?_; have : a * 4294967296 ≤ hi * 4294967296 := Nat.mul_le_mul_right _ htu; rw [Nat.mul_comm 4294967296 hi]; omega
        have h2 : p * (hi * 4294967296 + v2) ≤ (a * 4294967296 + a1) * 4294967296 + a2 := by
          (have e1 : p * (hi * 4294967296 + v2) = p * hi * 4294967296 + p * v2 := by rw [Nat.mul_add, Nat.mul_assoc]); have e2 : p * v2 ≤ 4294967296 * 4294967296 := Nat.mul_le_mul a6 a6; omega
        have h3 := hhi p a6 h2; unfold zgP; rw [hvl]; exact htail _ a6 a6 a6
      · rw [decide_eq_false a6, cond_false]; refine hn _ ⟨?_, ?_, ?_, ?_⟩ ?_
        · dsimp only; rw [eq, er, hp]; show (p + 1 - 1) * hi + _ = _; rw [Nat.add_sub_cancel]; omega
        · dsimp only; omega
        · dsimp only; omega
        · dsimp only; omega
        · dsimp only; rw [er]; split <;> split <;> omega
    unfold zgP at step; rw [hvl] at step; rw [show (((4294967296#64).toNat : Nat) : Int) = 4294967296 from rfl] at step ⊢; by_cases hbig : 4294967296 ≤ q.toNat
    · rw [decide_eq_true (show (4294967296 : Int) ≤ (q.toNat : Int) by omega), cond_true, cond_true]; exact step a6
    · rw [decide_eq_false (show ¬ (4294967296 : Int) ≤ (q.toNat : Int) by omega), cond_false, eN a6]; (have ej : ((r <<< 32) ||| (BitVec.ofInt 64 (nth u (n - 2)))).toNat = r.toNat * 4294967296 + a2 := by rw [zjD a6 a6, eu2]); have hmul : q.toNat * v2 ≤ 4294967296 * 4294967295 := Nat.mul_le_mul a6 a6; (have em : (q * (BitVec.ofInt 64 (nth v (n - 2)))).toNat = q.toNat * v2 := by rw [zlh (by rw [ev2]; omega), ev2]); rw [ej, em]; (have e1 : q.toNat * (hi * 4294967296 + v2) = q.toNat * hi * 4294967296 + q.toNat * v2 := by rw [Nat.mul_add, Nat.mul_assoc]); by_cases htest : r.toNat * 4294967296 + a2 < q.toNat * v2
      · rw [decide_eq_true a6, cond_true]; refine step (Nat.succ_le_of_lt (Nat.lt_of_not_le fun hle => ?_)); have := Nat.mul_le_mul_right (hi * 4294967296 + v2) hle; omega
      · rw [decide_eq_false a6, cond_false]; have h3 := hhi q.toNat a6 (by rw [e1]; omega); exact htail _ a6 i3 h3
end
theorem gk {x:Int}(h: -9223372036854775808≤x∧x≤9223372036854775807):wI x=x:=IntWalk.i64_in _ h
theorem lG {l:List Int}{i:Nat}(h:l.length≤i):nth l i=0:=by
 unfold nth;rw [List.getD_eq_getElem?_getD,List.getElem?_eq_none h];rfl
section
variable {B:Nat}{l m:List Int}{i:Nat}
theorem zgI (h:Dig B l)(hB:0<B)(i:Nat):0≤nth l i∧nth l i<(B:Int):=by
 rcases Nat.lt_or_ge i l.length with hi|hi
 ·exact h.nth hi
 ·rw [lG hi];omega
theorem ze9 (hB:0<B):∀ {l:List Int},Dig B l→∀i,(nth l i).toNat=val B l / B ^ i % B
 | [],_,i=>by rw [lG b3];simp [val]
 |x :: l,h,0=>by
  have:=h.head;rw [zfZ,val,Nat.pow_zero,Nat.div_one,Nat.add_mul_mod_self_left,Nat.mod_eq_of_lt a6]
 |x :: l,h,i+1=>by
  have:=h.head;rw [zgO,ze9 hB h.tail i,val,Nat.pow_succ,Nat.mul_comm (B ^ i) B,←Nat.div_div_eq_div_mul,Nat.add_mul_div_left _ _ hB,Nat.div_eq_of_lt (show x.toNat<B by omega),Nat.zero_add]
theorem zf3 {N:Nat}(hB:0<B)(h:∀i,i<l.length→(nth l i).toNat=N / B ^ i % B)(hN:N<B ^ l.length):val B l=N:=by
 have key:∀i,i≤l.length→val B (l.take i)=N % B ^ i:=by
  intro i
  induction i with
  |zero=>intro _;simp [val,Nat.mod_one]
  |succ i ih=>
   intro hi;rw [iM a6,ih a6,h i a6,Nat.pow_succ,Nat.mod_mul]
 have:=key l.length (Nat.le_refl _);rw [List.take_length,Nat.mod_eq_of_lt hN] at this;exact this
theorem zh1 (hB:0<B)(h:Dig B l)(hz:∀k,nth l k=0):val B l=0:=by
 have:=zf3 (B:=B) (l:=l) (N:=0) hB (fun i _=>by rw [hz i];simp) (Nat.pow_pos hB);exact this
theorem ziU {l:List Int}{n k:Nat}(h:k<n):nth (l.take n) k=nth l k:=by
 unfold nth;rw [List.getD_eq_getElem?_getD,List.getD_eq_getElem?_getD,List.getElem?_take_of_lt h]
theorem zf6 {l:List Int}{n k:Nat}:nth (l.drop n) k=nth l (n+k):=by
 unfold nth;rw [List.getD_eq_getElem?_getD,List.getD_eq_getElem?_getD,List.getElem?_drop]
theorem ziN {l m:List Int}{k:Nat}(h:k<l.length):nth (l++m) k=nth l k:=by
 unfold nth;rw [List.getD_eq_getElem?_getD,List.getD_eq_getElem?_getD,List.getElem?_append_left h]
theorem ziK {l m:List Int}{k:Nat}(h:l.length≤k):nth (l++m) k=nth m (k - l.length):=by
 unfold nth;rw [List.getD_eq_getElem?_getD,List.getD_eq_getElem?_getD,List.getElem?_append_right h]
theorem zgJ {l:List Int}{k:Nat}(h:k<l.length):nth l.reverse k=nth l (l.length - 1 - k):=by
 unfold nth;rw [List.getD_eq_getElem?_getD,List.getD_eq_getElem?_getD,List.getElem?_reverse h]
theorem Dig.rev (h:Dig B l):Dig B l.reverse:=fun x hx=>h x (List.mem_reverse.1 hx)
end
structure NatIs (x:List Int) (X:Nat):Prop where
 dig:Dig dm x
 trm:mb x
 eq:val dm x=X
theorem NatIs.uniq {x y:List Int}{X:Nat}(h:NatIs x X)(k:NatIs y X):x=y:=ziI h.dig k.dig h.trm k.trm (h.eq.trans k.eq.symm)
theorem NatIs.nil {x:List Int}{X:Nat}(h:NatIs x X):x=[]↔X=0:=by
 rw [←h.eq];exact (zhH h.dig h.trm iL).symm
theorem NatIs.pos {x:List Int}{X:Nat}(h:NatIs x X):0<x.length↔0<X:=by
 have:=h.nil;rw [List.length_pos_iff];constructor
 ·intro e;rcases Nat.eq_zero_or_pos X with z|z
  ·exact absurd (this.2 z) e
  ·exact z
 ·intro e z;have:=this.1 z;omega
theorem NatIs.zero:NatIs [] 0:=⟨Dig.nil, .inl rfl,rfl⟩
theorem NatIs.len {x:List Int}{X k:Nat}(h:NatIs x X)(hk:X<dm ^ k):x.length≤k:=by
 by_cases hn:x=[]
 ·rw [hn];exact Nat.zero_le _
 ·have:=zh2 h.dig h.trm hn;rw [h.eq] at this;have h2:=Nat.lt_of_le_of_lt this hk;have:=(Nat.pow_lt_pow_iff_right (show 1<dm by rw [ja];decide)).1 h2;omega
theorem zjc {fuel:Nat}{l:List Int}(hf:l.length+1≤fuel)(hd:Dig dm l):∃r,km fuel l=some r∧NatIs r (val dm l):=by
 obtain ⟨r,h1,h2,h3,h4,h5⟩:=zlm dm l.length fuel l rfl hf;exact ⟨r,h1,h4 hd,h3,h2⟩
theorem zhK:dm=256 ^ 4:=by rw [ja]
theorem u8w {x:Int}(h:0≤x∧x<256):IntKind.u8.wrap x=x:=by
 refine q3z ?_;simp;omega
theorem zkO {a d s:Nat}(hs:s≤3)(ha:a<256 ^ s)(hd:d<256):orK .u32 (a:Int) (shlK .u32 (d:Int) ((8*s:Nat):Int))=((a+d*256 ^ s:Nat):Int):=by
 have e1:shlK .u32 (d:Int) ((8*s:Nat):Int)=((d*256 ^ s:Nat):Int):=by
  unfold shlK;rw [show IntKind.u32.bits=32 from rfl,Int.toNat_natCast,Nat.min_eq_left a6];rw [show (2:Int) ^ (8*s)=((256 ^ s:Nat):Int) by rw [Int.pow_mul,Int.natCast_pow];rfl];rw [←Int.natCast_mul,zeB];refine ⟨by omega,?_⟩;have h1:d*256 ^ s≤255*256 ^ 3:=Nat.mul_le_mul a6 (Nat.pow_le_pow_right a6 hs);omega
 have h2:256 ^ s≤256 ^ 3:=Nat.pow_le_pow_right a6 hs;have h1:d*256 ^ s≤255*256 ^ 3:=Nat.mul_le_mul a6 h2;rw [e1,zkU a6 a6,Int.toNat_natCast,Int.toNat_natCast];have h3:=zgV (a:=a) (d:=d) (s:=8*s) (by rw [Nat.pow_mul];exact ha);rw [Nat.pow_mul] at h3;rw [h3]
theorem zgi {fuel:Nat}{D:List Int}(hl:D.length≤1000000)(hf:D.length+4≤fuel)(hd:Dig 256 D):∃r,mq fuel D=some r∧NatIs r (val 256 D.reverse):=by
 (have hw:wI ((D.length:Int)+3)=((D.length+3:Nat):Int):=by rw [gk a6];omega);unfold mq;rw [hw,eN a6,eN a6,eN (by show _*_≤_;omega)];simp only [dO]; (have hL:(((D.length+3:Nat):Int) / 4).toNat=(D.length+3) / 4:=by omega);rw [hL];generalize hn:D.length=n at *;have hr:Dig 256 D.reverse:=hd.rev; (have hrl:D.reverse.length=n:=by rw [List.length_reverse,hn]);refine mf (n:=n) (fun i (l:List Int)=>l.length=(n+3) / 4∧Dig dm l∧val dm l=val 256 (D.reverse.take i)∧(nth l (i / 4)).toNat<256 ^ (i % 4)∧∀k,i / 4<k→nth l k=0) (fun x=>∃r,x=some r∧NatIs r (val 256 D.reverse)) ?_ (fun l hI=>?_) (fun i l next hi hI hnx=>?_)
 ·refine ⟨by simp,gG iL _,by rw [zis];simp [val],?_,fun k _=>?_⟩
  ·have:nth (List.replicate ((n+3) / 4) (0:Int)) (0 / 4)=0:=by
    by_cases h:0 / 4<(n+3) / 4
    ·rw [fT (by rw [List.length_replicate];exact h),List.getElem_replicate]
    ·exact lG cV
   rw [this];exact Nat.pow_pos a6
  ·by_cases h:k<(n+3) / 4
   ·rw [fT (by rw [List.length_replicate];exact h),List.getElem_replicate]
   ·exact lG cV
 ·obtain ⟨i1,i2,i3, -, -⟩:=hI;obtain ⟨r,h1,h2⟩:=zjc (fuel:=fuel) (l:=l) a6 i2;rw [h1];rw [←hrl,List.take_length] at i3;rw [i3] at h2;exact ⟨r,rfl,h2⟩
 ·obtain ⟨i1,i2,i3,i4,i5⟩:=hI;have hx:=hd.nth (i:=n - 1 - i) a6; (have hw2:wI (8* ((i:Int) % 4))=((8* (i % 4):Nat):Int):=by rw [gk a6];omega);rw [eN a6,eN a6,eN a6,hw2,eN a6];rw [show ((i:Int) / 4).toNat=i / 4 by omega,show (((n:Int) - 1) - (i:Int)).toNat=n - 1 - i by omega]; (have e32:IntKind.u32.wrap (nth D (n - 1 - i))=((nth D (n - 1 - i)).toNat:Int):=by rw [zeB _ a6];omega);have hl0:=i2.nth (i:=i / 4) a6
  have eor:orK .u32 (nth l (i / 4)) (shlK .u32 (IntKind.u32.wrap (nth D (n - 1 - i))) ((8* (i % 4):Nat):Int))=(((nth l (i / 4)).toNat+(nth D (n - 1 - i)).toNat*256 ^ (i % 4):Nat):Int):=by
   rw [e32];have:=zkO (a:=(nth l (i / 4)).toNat) (d:=(nth D (n - 1 - i)).toNat) (s:=i % 4) a6 i4 a6;rw [Int.toNat_of_nonneg hl0.1] at this;exact this
  rw [eor];generalize hd':(nth D (n - 1 - i)).toNat=d at *;generalize ha:(nth l (i / 4)).toNat=a at *; (have hd256:d<256:=by omega);have hp3:256 ^ (i % 4)≤256 ^ 3:=Nat.pow_le_pow_right a6 a6
  have hp:d*256 ^ (i % 4)+256 ^ (i % 4)≤256 ^ (i % 4+1):=by
   have:=Nat.mul_le_mul_right (256 ^ (i % 4)) (show d+1≤256 by omega);rw [Nat.add_mul,Nat.one_mul] at this;rw [Nat.pow_succ];omega
  (have hp4:256 ^ (i % 4+1)≤dm:=by rw [zhK];exact Nat.pow_le_pow_right a6 a6);refine hnx _ ⟨by rw [List.length_set];exact i1,i2.set a6,?_,?_,fun k hk=>?_⟩
  ·have h1:=zjm (B:=dm) (l:=l) (i:=i / 4) (x:=((a+d*256 ^ (i % 4):Nat):Int)) a6;rw [ha,Int.toNat_natCast,Nat.mul_add,i3] at h1;rw [iM a6,zgJ a6,show D.length - 1 - i=n - 1 - i by omega,hd']
   have h2:dm ^ (i / 4) * (d*256 ^ (i % 4))=256 ^ i*d:=by
    rw [zhK,←Nat.pow_mul,Nat.mul_comm d,←Nat.mul_assoc,←Nat.pow_add,Nat.div_add_mod]
   omega
  ·by_cases h4:i % 4=3
   ·rw [show (i+1) / 4=i / 4+1 by omega,ze5 a6,i5 _ a6,show (i+1) % 4=0 by omega];decide
   ·rw [show (i+1) / 4=i / 4 by omega,kS a6,show (i+1) % 4=i % 4+1 by omega,Int.toNat_natCast];omega
  ·rw [ze5 a6];exact i5 k a6
theorem zjf {fuel:Nat}{x:List Int}{X d:Nat}(hl:x.length≤1000000)(hf:x.length+1≤fuel)(hx:NatIs x X)(hd:0<d)(hd2:d<dm):∃q,zcO fuel x (d:Int)=some (q,((X % d:Nat):Int))∧NatIs q (X / d):=by
 have hB:=ja;unfold zcO;rw [eN (by show _*_≤_;omega)];simp only [dO]; (have ed:(BitVec.ofInt 64 (d:Int)).toNat=d:=by rw [ofI a6];omega)
 have hne:¬BitVec.ofInt 64 (d:Int)=0#64:=fun e=>by
  have:=congrArg BitVec.toNat e;rw [ed,show (0#64).toNat=0 from rfl] at this;omega
 refine zfy (n:=x.length) (fun m (s:BitVec 64×List Int)=>s.1.toNat<d∧s.2.length=x.length∧Dig dm s.2∧val dm (x.drop m)=val dm (s.2.drop m) *d+s.1.toNat) (fun o=>∃q,o=some (q,((X % d:Nat):Int))∧NatIs q (X / d)) ?_ (fun s hI=>?_) (fun i s next hi hI hnx=>?_)
 ·refine ⟨by simpa using hd,by simp,gG iL _,?_⟩;rw [List.drop_eq_nil_of_le (Nat.le_refl _),List.drop_eq_nil_of_le b3];simp [val]
 ·obtain ⟨i1,i2,i3,i4⟩:=hI;rw [List.drop_zero,List.drop_zero,hx.eq,Nat.mul_comm] at i4;obtain ⟨r,h1,h2⟩:=zjc (fuel:=fuel) (l:=s.2) a6 i3; (have e1:X / d=val dm s.2:=by rw [i4,Nat.mul_add_div hd,Nat.div_eq_of_lt i1,Nat.add_zero]); (have e2:X % d=s.1.toNat:=by rw [i4,Nat.mul_add_mod,Nat.mod_eq_of_lt i1]);rw [h1,e1,e2];refine ⟨r,?_,h2⟩;refine fh ?_;rw [zeB _ a6]
 ·obtain ⟨i1,i2,i3,i4⟩:=hI;rw [eN hne,eN a6,eN hne];have hxi:=hx.dig.nth hi
  have ej:((s.1 <<< 32) ||| (BitVec.ofInt 64 (nth x i))).toNat=s.1.toNat*4294967296+(nth x i).toNat:=by
   rw [zjD a6 (by rw [kQ hxi];omega),kQ hxi]
  generalize hT:s.1.toNat*4294967296+(nth x i).toNat=T at *; (have e1:(((s.1 <<< 32) ||| (BitVec.ofInt 64 (nth x i))) % (BitVec.ofInt 64 (d:Int))).toNat=T % d:=by rw [BitVec.toNat_umod,ej,ed]); (have e2:(((s.1 <<< 32) ||| (BitVec.ofInt 64 (nth x i))) / (BitVec.ofInt 64 (d:Int))).toNat=T / d:=by rw [BitVec.toNat_udiv,ej,ed])
  have hq:T / d<dm:=by
   rw [Nat.div_lt_iff_lt_mul hd,hB];have:=Nat.mul_le_mul_right 4294967296 (show s.1.toNat+1≤d by omega);rw [Nat.mul_comm d] at this;omega
  have hdm:=Nat.div_add_mod T d;refine hnx _ ⟨by dsimp only;rw [e1];exact Nat.mod_lt _ hd,by dsimp only;rw [List.length_set];exact i2,by dsimp only;rw [e2,zeB _ a6];exact i3.set a6,?_⟩;dsimp only;rw [e1,e2,zeB _ a6,zej hi,zej (l:=s.2.set i _) b8,kS a6,Int.toNat_natCast,i4,List.drop_set_of_lt a6];rw [Nat.add_mul,Nat.mul_add,Nat.mul_assoc,Nat.mul_comm (T / d) d,hB];omega
theorem zki:∀i:Fin 256,i.val≠0→0≤Lib.len8 (i.val:Int)∧1≤(Lib.len8 (i.val:Int)).toNat∧(Lib.len8 (i.val:Int)).toNat≤8∧2 ^ ((Lib.len8 (i.val:Int)).toNat - 1)≤i.val∧i.val<2 ^ (Lib.len8 (i.val:Int)).toNat:=by decide +kernel
theorem zk5 {i:Nat}(h0:0<i)(h:i<256):∃s:Nat,1≤s∧s≤8∧Lib.len8 (i:Int)=(s:Int)∧2 ^ (s - 1)≤i∧i<2 ^ s:=by
 have h1:=zki ⟨i,h⟩ (by show i≠0;omega);refine ⟨(Lib.len8 (i:Int)).toNat,h1.2.1,h1.2.2.1,(Int.toNat_of_nonneg h1.1).symm,h1.2.2.2.1,h1.2.2.2.2⟩
theorem zkj {a b:Nat}(hb:b≤32):shrK .u32 (a:Int) (b:Int)=((a / 2 ^ b:Nat):Int):=by
 unfold shrK;rw [show IntKind.u32.bits=32 from rfl,Int.toNat_natCast,Nat.min_eq_left hb,Int.fdiv_eq_ediv_of_nonneg _ (by exact Int.le_of_lt (Int.pow_pos a6))];rw [Int.natCast_ediv,Int.natCast_pow];rfl
theorem zkZ {x y t s:Nat}(hy:y=x / 2 ^ t)(h1:2 ^ (s - 1)≤y)(h2:y<2 ^ s)(hs:1≤s):2 ^ (s+t - 1)≤x∧x<2 ^ (s+t):=by
 subst hy;constructor
 ·rw [Nat.le_div_iff_mul_le (Nat.pow_pos a6),←Nat.pow_add] at h1;rw [show s+t - 1=s - 1+t by omega];exact h1
 ·rw [Nat.div_lt_iff_lt_mul (Nat.pow_pos a6),←Nat.pow_add] at h2;exact h2
theorem zjM {x:Nat}(h0:0<x)(h:x<4294967296):∃s:Nat,1≤s∧s≤32∧zcm (x:Int)=some (s:Int)∧2 ^ (s - 1)≤x∧x<2 ^ s:=by
 unfold zcm;simp only [dO]
 have fin:∀(y t:Nat),y=x / 2 ^ t→0<y→y<256→t≤24→∃s:Nat,1≤s∧s≤32∧(dB (0≤(IntKind.u8.wrap (y:Int))∧(IntKind.u8.wrap (y:Int))≤(255:Int)) <| some (wI ((t:Int)+(wI (Lib.len8 (IntKind.u8.wrap (y:Int)))))))=some (s:Int)∧2 ^ (s - 1)≤x∧x<2 ^ s:=fun y t hy h1 h2 h3=>by
  obtain ⟨s,s1,s2,s3,s4,s5⟩:=zk5 h1 h2;obtain ⟨b1,b2⟩:=zkZ hy s4 s5 s1;rw [u8w a6,eN a6,s3,gk (x:=(s:Int)) a6,gk a6];exact ⟨s+t,by omega,by omega,by rw [Int.natCast_add,Int.add_comm],b1,b2⟩
 have e16:shrK .u32 (x:Int) (((16#64).toNat:Nat):Int)=((x / 2 ^ 16:Nat):Int):=zkj a7;have e8:∀a:Nat,shrK .u32 (a:Int) (((8#64).toNat:Nat):Int)=((a / 2 ^ 8:Nat):Int):=fun a=>zkj a7;by_cases hx:65536≤x
 ·rw [decide_eq_true (show (65536:Int)≤(x:Int) by omega),cond_true]; (try dsimp only);rw [e16];by_cases hy:256≤x / 2 ^ 16
  ·rw [decide_eq_true (show (256:Int)≤((x / 2 ^ 16:Nat):Int) by omega),cond_true];rw [e8];exact fin _ 24 (by rw [Nat.div_div_eq_div_mul,←Nat.pow_add]) a6 a6 a6
  ·rw [decide_eq_false (show ¬(256:Int)≤((x / 2 ^ 16:Nat):Int) by omega),cond_false];exact fin _ 16 rfl a6 a6 a6
 ·rw [decide_eq_false (show ¬(65536:Int)≤(x:Int) by omega),cond_false]; (try dsimp only);by_cases hy:256≤x
  ·rw [decide_eq_true (show (256:Int)≤(x:Int) by omega),cond_true];rw [e8];exact fin _ 8 rfl a6 a6 a6
  ·rw [decide_eq_false (show ¬(256:Int)≤(x:Int) by omega),cond_false];exact fin _ 0 b3 a6 a6 a6
theorem zlr {x:Nat}(h0:0<x)(h:x<4294967296):∃s:Nat,1≤s∧s≤32∧zbx (x:Int)=some ((32 - s:Nat):Int)∧2 ^ (s - 1)≤x∧x<2 ^ s:=by
 obtain ⟨s,h1,h2,h3,h4,h5⟩:=zjM h0 h;refine ⟨s,h1,h2,?_,h4,h5⟩;unfold zbx;rw [h3];refine fh ?_;rw [gk a6];congr 1;omega
theorem zkg {s:Nat}(h:s≤32):2 ^ (32 - s) *2 ^ s=dm:=by
 rw [←Nat.pow_add,show 32 - s+s=32 by omega,ja]
theorem zlC {a:BitVec 64}{s:Nat}(ha:a.toNat<4294967296)(hs:s≤32):(a <<< s).toNat=a.toNat*2 ^ s:=by
 rw [BitVec.toNat_shiftLeft,Nat.shiftLeft_eq,Nat.mod_eq_of_lt];have h1:a.toNat*2 ^ s≤4294967295*2 ^ 32:=Nat.mul_le_mul a6 (Nat.pow_le_pow_right a6 hs);omega
theorem ziq {x s:Nat}(hs:s≤32):x*2 ^ s % dm=(x % 2 ^ (32 - s)) *2 ^ s:=by
 rw [←zkg hs,Nat.mul_mod_mul_right]
theorem zg0 {x:List Int}{s:Nat}(hl:x.length≤1000000)(hx:Dig dm x)(hs:s<32):∃r,zca x (s:Int)=some r∧r.length=x.length+1∧Dig dm r∧val dm r=val dm x*2 ^ s:=by
 have hB:=ja; (have hw:wI ((x.length:Int)+1)=((x.length+1:Nat):Int):=by rw [gk a6];omega);unfold zca;rw [hw,eN a6,Int.toNat_natCast,eN (by show _*_≤_;omega)];simp only [dO];refine mf (n:=x.length) (fun i (l:List Int)=>l.length=x.length+1∧Dig dm l∧val dm (l.take (i+1))=val dm (x.take i) *2 ^ s∧(nth l i).toNat<2 ^ s) (fun o=>∃r,o=some r∧r.length=x.length+1∧Dig dm r∧val dm r=val dm x*2 ^ s) ?_ (fun l hI=>?_) (fun i l next hi hI hnx=>?_)
 ·refine ⟨by simp,gG iL _,?_,?_⟩
  ·rw [List.take_replicate,zis];simp [val]
  ·rw [fT b3,List.getElem_replicate];exact Nat.pow_pos a6
 ·obtain ⟨i1,i2,i3,i4⟩:=hI;rw [←i1,List.take_length,List.take_length] at i3;exact ⟨l,rfl,i1,i2,i3⟩
 ·obtain ⟨i1,i2,i3,i4⟩:=hI;have hxi:=hx.nth hi;have hli:=i2.nth (i:=i) a6;have ex:(BitVec.ofInt 64 (nth x i)).toNat=(nth x i).toNat:=kQ hxi; (have ew:((BitVec.ofInt 64 (nth x i)) <<< s).toNat=(nth x i).toNat*2 ^ s:=by rw [zlC a6 a6,ex]); (have ew2:(((BitVec.ofInt 64 (nth x i)) <<< s) >>> 32).toNat=(nth x i).toNat*2 ^ s / dm:=by rw [zim,ew,hB])
  have eor:orK .u32 (nth l i) (IntKind.u32.wrap ((((BitVec.ofInt 64 (nth x i)) <<< s).toNat:Nat):Int))=(((nth l i).toNat+(nth x i).toNat*2 ^ s % dm:Nat):Int):=by
   have hlow:=ziq (x:=(nth x i).toNat) (s:=s) a6;have hml:=Nat.mod_lt ((nth x i).toNat*2 ^ s) iL;rw [ew,jx,zkU a6 a6,Int.toNat_natCast,hlow,zgV i4]
  rw [eN a6,eN a6,eN b8,Int.toNat_natCast,eor,ew2];have hml:=Nat.mod_lt ((nth x i).toNat*2 ^ s) iL;have hdm:=Nat.div_add_mod ((nth x i).toNat*2 ^ s) dm;have hlow:=ziq (x:=(nth x i).toNat) (s:=s) a6
  have hsum:(nth l i).toNat+(nth x i).toNat*2 ^ s % dm<dm:=by
   have h1:=Nat.mod_lt (nth x i).toNat (show 0<2 ^ (32 - s) from Nat.pow_pos a6);have h2:=Nat.mul_le_mul_right (2 ^ s) (show (nth x i).toNat % 2 ^ (32 - s)+1≤2 ^ (32 - s) by omega);rw [zkg a6,Nat.add_mul,Nat.one_mul] at h2;omega
  have hhi:(nth x i).toNat*2 ^ s / dm<2 ^ s:=by
   rw [Nat.div_lt_iff_lt_mul iL,Nat.mul_comm];exact Nat.mul_lt_mul_of_pos_left a6 (Nat.pow_pos a6)
  have hs32:2 ^ s≤2147483648:=by
   have:=Nat.pow_le_pow_right (n:=2) a6 (show s≤31 by omega);omega
  generalize hwd:(nth x i).toNat*2 ^ s=wide at *;rw [jx,Nat.mod_eq_of_lt (show wide / dm<dm by omega)];refine hnx _ ⟨by rw [List.length_set,List.length_set];exact i1,(i2.set a6).set a6,?_,?_⟩
  ·rw [iM (by rw [List.length_set,List.length_set];omega),kS b8,Int.toNat_natCast,zeh,iM b8,kS a6,Int.toNat_natCast,zeh,iM hi,Nat.add_mul,←i3,iM a6,Nat.mul_assoc,hwd]; (have e1:dm ^ (i+1) * (wide / dm)=dm ^ i* (dm* (wide / dm)):=by rw [Nat.pow_succ,Nat.mul_assoc]); (have e2:dm ^ i*wide=dm ^ i* (dm* (wide / dm))+dm ^ i* (wide % dm):=by rw [←Nat.mul_add,hdm]);rw [e1,e2,Nat.mul_add];omega
  ·rw [kS b8,Int.toNat_natCast];exact hhi
theorem zil {x:List Int}{s:Nat}(hl:x.length≤1000000)(hx:Dig dm x)(hs:s<32):∃r,zb0 x (s:Int)=some r∧r.length=x.length∧Dig dm r∧val dm r=val dm x / 2 ^ s:=by
 have hB:=ja;have hp:0<2 ^ s:=Nat.pow_pos a6;have hp2:2 ^ (32 - s) *2 ^ s=dm:=zkg a6;unfold zb0;rw [eN (by show _*_≤_;omega)];simp only [dO];refine mf (n:=x.length) (fun i (l:List Int)=>l.length=x.length∧Dig dm l∧2 ^ s*val dm (l.take i)+(nth x 0).toNat % 2 ^ s=val dm (x.take i)+dm ^ i* ((nth x i).toNat % 2 ^ s)) (fun o=>∃r,o=some r∧r.length=x.length∧Dig dm r∧val dm r=val dm x / 2 ^ s) ?_ (fun l hI=>?_) (fun i l next hi hI hnx=>?_)
 ·refine ⟨by simp,gG iL _,by simp [val]⟩
 ·obtain ⟨i1,i2,i3⟩:=hI;rw [lG (Nat.le_refl x.length),show l.take x.length=l by rw [←i1,List.take_length],List.take_length] at i3;refine ⟨l,rfl,i1,i2,?_⟩; (have e:val dm x=2 ^ s*val dm l+(nth x 0).toNat % 2 ^ s:=by simpa using i3.symm);rw [e,Nat.mul_add_div hp,Nat.div_eq_of_lt (Nat.mod_lt _ hp),Nat.add_zero]
 ·obtain ⟨i1,i2,i3⟩:=hI;have hxi:=hx.nth hi;have hx1:=zgI hx iL (i+1)
  have eh:shrK .u32 (nth x i) (s:Int)=(((nth x i).toNat / 2 ^ s:Nat):Int):=by
   have:=zkj (a:=(nth x i).toNat) (b:=s) a6;rw [Int.toNat_of_nonneg hxi.1] at this;exact this
  have hm1:=Nat.mod_lt (nth x (i+1)).toNat hp;have q1:(0:Int)≤(((nth x i).toNat / 2 ^ s:Nat):Int):=Int.natCast_nonneg _
  have hh:(nth x i).toNat / 2 ^ s<2 ^ (32 - s):=by
   rw [Nat.div_lt_iff_lt_mul hp,hp2];omega
  have hnew:(nth x i).toNat / 2 ^ s+(nth x (i+1)).toNat % 2 ^ s*2 ^ (32 - s)<dm:=by
   have h2:=Nat.mul_le_mul_right (2 ^ (32 - s)) (show (nth x (i+1)).toNat % 2 ^ s+1≤2 ^ s by omega);rw [Nat.mul_comm (2 ^ s),hp2,Nat.add_mul,Nat.one_mul] at h2;omega
  have hin:∀l':List Int,l'.length=x.length→Dig dm l'→l'.take i=l.take i→nth l' i=(((nth x i).toNat / 2 ^ s+(nth x (i+1)).toNat % 2 ^ s*2 ^ (32 - s):Nat):Int)→l'.length=x.length∧Dig dm l'∧2 ^ s*val dm (l'.take (i+1))+(nth x 0).toNat % 2 ^ s=val dm (x.take (i+1))+dm ^ (i+1) * ((nth x (i+1)).toNat % 2 ^ s):=fun l' h1 h2 h3 h4=>by
   refine ⟨h1,h2,?_⟩;rw [iM a6,h3,h4,Int.toNat_natCast,iM hi];have hdm:=Nat.div_add_mod (nth x i).toNat (2 ^ s);generalize (nth x (i+1)).toNat % 2 ^ s=m1 at *;generalize hmi:(nth x i).toNat % 2 ^ s=mi at *;generalize (nth x i).toNat / 2 ^ s=h at*
   have e1:2 ^ s* (dm ^ i* (h+m1*2 ^ (32 - s)))=dm ^ i* (2 ^ s*h)+dm ^ (i+1) *m1:=by
    (have e3:dm*m1=2 ^ s* (m1*2 ^ (32 - s)):=by rw [←hp2,Nat.mul_comm (2 ^ (32 - s)),Nat.mul_assoc,Nat.mul_comm m1]);rw [Nat.pow_succ,Nat.mul_assoc (dm ^ i) dm m1,e3,←Nat.mul_add,Nat.mul_left_comm (2 ^ s) (dm ^ i),Nat.mul_add (2 ^ s) h]
   (have e2:dm ^ i* (nth x i).toNat=dm ^ i* (2 ^ s*h)+dm ^ i*mi:=by rw [←Nat.mul_add,hdm]);rw [Nat.mul_add,e1,e2];omega
  rw [eN a6,eN a6,eh];by_cases h1:i+1<x.length
  ·(have hw:wI (32 - (s:Int))=((32 - s:Nat):Int):=by rw [gk a6];omega);rw [decide_eq_true a6,cond_true,eN b8,hw,eN a6,Int.toNat_natCast,kS a6];have ex:(BitVec.ofInt 64 (nth x (i+1))).toNat=(nth x (i+1)).toNat:=kQ hx1; (have ew:((BitVec.ofInt 64 (nth x (i+1))) <<< (32 - s)).toNat=(nth x (i+1)).toNat*2 ^ (32 - s):=by rw [zlC a6 a6,ex]);have hlow:=ziq (x:=(nth x (i+1)).toNat) (s:=32 - s) a6;rw [show 32 - (32 - s)=s by omega] at hlow; (have hp32:2 ^ (32 - s)≤dm:=by rw [←hp2];exact Nat.le_mul_of_pos_right _ hp)
   have eor:orK .u32 (((nth x i).toNat / 2 ^ s:Nat):Int) (IntKind.u32.wrap ((((BitVec.ofInt 64 (nth x (i+1))) <<< (32 - s)).toNat:Nat):Int))=(((nth x i).toNat / 2 ^ s+(nth x (i+1)).toNat % 2 ^ s*2 ^ (32 - s):Nat):Int):=by
    rw [ew,jx,hlow,zkU a6 a6,Int.toNat_natCast,Int.toNat_natCast,zgV hh]
   rw [eor];exact hnx _ (hin _ (by rw [List.length_set,List.length_set];exact i1) ((i2.set a6).set a6) (by rw [zeh,zeh]) (kS b8))
  ·rw [decide_eq_false a6,cond_false];have hz:nth x (i+1)=0:=lG a6;exact hnx _ (hin _ (by rw [List.length_set];exact i1) (i2.set a6) zeh (by rw [kS a6,hz];simp))
theorem ziP {x y:List Int}{X Y:Nat}(hx:NatIs x X)(hy:NatIs y Y):zbf x y=if X<Y then -1 else if Y<X then 1 else 0:=by
 have:=zkp hx.dig hy.dig hx.trm hy.trm;rw [hx.eq,hy.eq] at this;exact this
theorem zk4 {fuel:Nat}{x y:List Int}{X Y:Nat}(hlx:x.length≤1000)(hly:y.length≤1000)(hf:2000≤fuel)(hx:NatIs x X)(hy:NatIs y Y)(hge:Y≤X)(hn2:2≤y.length){post:Option (List Int×List Int)→Prop}(h:∀q r,NatIs q (X / Y)→NatIs r (X % Y)→post (some (q,r))){sh:Nat}(hsh:sh<32)(v0 u0:List Int)(hv0:v0.length=y.length+1)(hu0:u0.length=x.length+1)(dv0:Dig dm v0)(du0:Dig dm u0)(ev0:val dm v0=Y*2 ^ sh)(eu0:val dm u0=X*2 ^ sh)(htop:2147483648≤nth v0 (y.length - 1))(hz:nth v0 y.length=0):post (gL (fun (j_9:Nat) (next8:(List Int×List Int)→Option (List Int×List Int)) (s8:List Int×List Int)=>
     dB (0≤wI ((wI ((j_9:Int)+(y.length:Int)))+1)∧wI ((wI ((j_9:Int)+(y.length:Int)))+1)≤(s8.1.length:Int)) <|
     dB (0≤(j_9:Int)∧(j_9:Int)≤(wI ((wI ((j_9:Int)+(y.length:Int)))+1):Int)) <|
     dB (j_9<((wI ((wI ((j_9:Int)+(y.length:Int)))+1)).toNat)) <|
     (zbs fuel ((s8.1.drop j_9).take (((wI ((wI ((j_9:Int)+(y.length:Int)))+1)).toNat) - j_9)) (v0.take y.length)).bind fun r73=>
     dB (0≤(j_9:Int)∧(j_9:Int)<(s8.2.length:Int)) <|
     next8 ((s8.1.take j_9++r73.2++s8.1.drop (j_9+(((wI ((wI ((j_9:Int)+(y.length:Int)))+1)).toNat) - j_9))),(s8.2.set j_9 r73.1)))
    (fun (s8:List Int×List Int)=>
    (km fuel s8.2).bind fun r76=>
    dB (0≤(y.length:Int)∧(y.length:Int)≤(s8.1.length:Int)) <|
    (zb0 (s8.1.take y.length) (sh:Int)).bind fun r81=>
    (km fuel r81).bind fun r82=>
    some (r76,r82)) ((List.replicate ((((x.length:Int) - (y.length:Int))+1).toNat) (0:Int)).length) (u0,(List.replicate ((((x.length:Int) - (y.length:Int))+1).toNat) (0:Int)))):=by
 have hB:=ja
 have hnx:y.length≤x.length:=Nat.le_of_not_lt fun hlt=>by
  have:=zdo hx.dig hy.dig hy.trm hlt;rw [hx.eq,hy.eq] at this;omega
 have hp:0<2 ^ sh:=Nat.pow_pos a6
 have hYge:dm ^ (y.length - 1)≤Y:=by
  have:=zh2 hy.dig hy.trm (fun e=>by rw [e] at hn2;simp at hn2);rw [hy.eq] at this;exact this
 have hY0:0<Y:=Nat.lt_of_lt_of_le (Nat.pow_pos iL) hYge
 have hXlt:X<dm ^ x.length:=by
  have:=j5 hx.dig;rw [hx.eq] at this;exact this
 generalize hn:y.length=n at *;rw [show (((x.length:Int) - (n:Int))+1).toNat=x.length - n+1 by omega,List.length_replicate]
 have hv:val dm (v0.take n)=Y*2 ^ sh:=by
  have:=iM (B:=dm) (l:=v0) (i:=n) a6;rw [←hv0,List.take_length,ev0,hz] at this;simpa using this.symm
 (have hvl:(v0.take n).length=n:=by rw [List.length_take];omega);generalize hV:Y*2 ^ sh=V at *; (have hV0:0<V:=by rw [←hV];exact Nat.mul_pos hY0 hp)
 have hstart:val dm (u0.drop (x.length - n+1))<V:=by
  have h1:=zfr (B:=dm) (l:=u0) (x.length - n+1) a6
  have h2:dm ^ (x.length - n+1) *val dm (u0.drop (x.length - n+1))<dm ^ (x.length - n+1) *V:=by
   refine Nat.lt_of_le_of_lt (show _≤X*2 ^ sh by omega) ?_;refine Nat.lt_of_lt_of_le (Nat.mul_lt_mul_of_pos_right hXlt hp) ?_;rw [←hV,←Nat.mul_assoc];refine Nat.mul_le_mul_right _ ?_;refine Nat.le_trans ?_ (Nat.mul_le_mul_left _ hYge);rw [←Nat.pow_add,show x.length - n+1+(n - 1)=x.length by omega];exact Nat.le_refl _
  exact Nat.lt_of_mul_lt_mul_left h2
 refine zfy (n:=x.length - n+1) (fun m (s:List Int×List Int)=>s.1.length=x.length+1∧Dig dm s.1∧s.2.length=x.length - n+1∧Dig dm s.2∧(∀k,k<m→nth s.1 k=nth u0 k)∧(∀k,m+n≤k→nth s.1 k=0)∧val dm (s.1.drop m)<V∧val dm (u0.drop m)=val dm (s.2.drop m) *V+val dm (s.1.drop m)) post ?_ (fun s hI=>?_) (fun j s next hj hI hnx2=>?_)
 ·refine ⟨hu0,du0,by simp,gG iL _,fun _ _=>rfl,fun k hk=>lG a9,hstart,?_⟩;have e0:(List.replicate (x.length - n+1) (0:Int)).drop (x.length - n+1)=[]:=List.drop_eq_nil_of_le b3;dsimp only;rw [e0];simp [val]
 ·obtain ⟨i1,i2,i3,i4,i5,i6,i7,i8⟩:=hI;rw [List.drop_zero] at i7;rw [List.drop_zero,List.drop_zero,List.drop_zero,eu0] at i8;obtain ⟨rq,q1,q2⟩:=zjc (fuel:=fuel) (l:=s.2) a6 i4
  have eu:val dm (s.1.take n)=val dm s.1:=by
   have h1:=zfr (B:=dm) (l:=s.1) n a6;rw [zh1 iL (i2.drop n) (fun k=>by rw [zf6];exact i6 _ a6),Nat.mul_zero,Nat.add_zero] at h1;exact h1.symm
  obtain ⟨r1,e1,e2,e3,e4⟩:=zil (x:=s.1.take n) (s:=sh) cU (i2.take n) hsh;obtain ⟨rr,t1,t2⟩:=zjc (fuel:=fuel) (l:=r1) (by rw [e2,List.length_take];omega) e3;rw [q1];refine fh ?_;rw [eN a6,e1];refine fh ?_;rw [t1];refine fh ?_;rw [e4,eu] at t2;generalize val dm s.2=q at *;generalize val dm s.1=u at*
  rw [←hV] at i8 i7; (have hR:u / 2 ^ sh<Y:=by rw [Nat.div_lt_iff_lt_mul hp];exact i7)
  have hu:u=2 ^ sh* (u / 2 ^ sh):=by
   have h1:=Nat.div_add_mod u (2 ^ sh)
   have h2:u % 2 ^ sh=0:=by
    (have h3:(q* (Y*2 ^ sh)+u) % 2 ^ sh=0:=by rw [←i8];exact Nat.mul_mod_left _ _);rw [←Nat.mul_assoc,Nat.add_mod,Nat.mul_mod_left,Nat.zero_add,Nat.mod_mod] at h3;exact h3
   omega
  generalize u / 2 ^ sh=R at*
  have hX:X=Y*q+R:=by
   refine Nat.eq_of_mul_eq_mul_right hp ?_;rw [i8,hu,Nat.add_mul,Nat.mul_comm q,Nat.mul_comm (2 ^ sh) R,Nat.mul_assoc Y,Nat.mul_assoc Y,Nat.mul_comm (2 ^ sh) q]
  (have eq:X / Y=q:=by rw [hX,Nat.mul_add_div hY0,Nat.div_eq_of_lt hR,Nat.add_zero]); (have er:X % Y=R:=by rw [hX,Nat.mul_add_mod,Nat.mod_eq_of_lt hR]);exact h _ _ (by rw [eq];exact q2) (by rw [er];exact t2)
 ·obtain ⟨i1,i2,i3,i4,i5,i6,i7,i8⟩:=hI
  have hw:wI ((wI ((j:Int)+(n:Int)))+1)=((j+n+1:Nat):Int):=by
   rw [gk (x:=(j:Int)+(n:Int)) a6,gk a6];omega
  rw [hw,eN a6,eN a6,Int.toNat_natCast,eN a6,show j+n+1 - j=n+1 by omega]; (have hwl:((s.1.drop j).take (n+1)).length=n+1:=by rw [List.length_take,List.length_drop];omega);have hrest:val dm ((s.1.drop j).drop (n+1))=0:=zh1 iL ((i2.drop j).drop _) (fun k=>by rw [zf6,zf6];exact i6 _ a6)
  have ew:val dm ((s.1.drop j).take (n+1))=(nth u0 j).toNat+dm*val dm (s.1.drop (j+1)):=by
   have h1:=zfr (B:=dm) (l:=s.1.drop j) (n+1) (by rw [List.length_drop];omega);rw [hrest,Nat.mul_zero,Nat.add_zero,zej a6,i5 j a6] at h1;exact h1.symm
  have hu0j:=du0.nth (i:=j) a6
  have hq:QIn ((s.1.drop j).take (n+1)) (v0.take n) n:=by
   refine ⟨by omega,hvl,hwl,(i2.drop j).take _,dv0.take n,by rw [ziU a6];exact htop,?_⟩;rw [ew,hv];have:=Nat.mul_le_mul_left dm (show val dm (s.1.drop (j+1))+1≤V by omega);rw [Nat.mul_add,Nat.mul_one] at this;omega
  obtain ⟨u',e1,e2,e3,e4,e5⟩:=zgG (fuel:=fuel) a6 hq;rw [e1];refine fh ?_;rw [eN a6];rw [hv] at e4 ⊢
  have eu':val dm u'=val dm ((s.1.drop j).take (n+1)) % V:=by
   have h1:=iM (B:=dm) (l:=u') (i:=n) a6;rw [←e2,List.take_length,e5,e4] at h1;simpa using h1
  generalize hWv:val dm ((s.1.drop j).take (n+1))=Wv at*
  have hWlt:Wv / V<dm:=by
   have:=hq.lt;rw [hv,hWv] at this;rw [Nat.div_lt_iff_lt_mul hV0];exact this
  have hdm:=Nat.div_add_mod Wv V; (have htl:(s.1.take j).length=j:=by rw [List.length_take];omega)
  have hdrop:(s.1.take j++u'++s.1.drop (j+(n+1))).drop j=u'++s.1.drop (j+(n+1)):=by
   rw [List.append_assoc,List.drop_append_of_le_length a6,List.drop_eq_nil_of_le a6,List.nil_append]
  have hvd:val dm ((s.1.take j++u'++s.1.drop (j+(n+1))).drop j)=Wv % V:=by
   rw [List.drop_drop] at hrest;rw [hdrop,zip,hrest,Nat.mul_zero,Nat.add_zero,eu']
  refine hnx2 _ ⟨by dsimp only;rw [List.length_append,List.length_append,htl,e2,List.length_drop];omega,((i2.take j).app e3).app (i2.drop _),by dsimp only;rw [List.length_set];exact i3,by dsimp only;exact i4.set ⟨Int.natCast_nonneg _,Int.ofNat_lt.2 hWlt⟩,fun k hk=>?_,fun k hk=>?_,by dsimp only;rw [hvd];exact Nat.mod_lt _ hV0,?_⟩
  ·dsimp only;rw [List.append_assoc,ziN a6,ziU hk];exact i5 k a6
  ·dsimp only;rw [List.append_assoc,ziK a6,htl];by_cases hkn:k=j+n
   ·rw [ziN a6,show k - j=n by omega];exact e5
   ·rw [ziK a6,zf6,e2];exact i6 _ a6
  ·dsimp only;rw [hvd,zej (l:=s.2.set j _) b8,kS a6,Int.toNat_natCast,List.drop_set_of_lt a6,zej (l:=u0) a6,i8]; (have h1:dm* (val dm (s.2.drop (j+1)) *V+val dm (s.1.drop (j+1)))=dm*val dm (s.2.drop (j+1)) *V+dm*val dm (s.1.drop (j+1)):=by rw [Nat.mul_add,Nat.mul_assoc]);have h2:Wv / V*V=V* (Wv / V):=Nat.mul_comm _ _;rw [h1,Nat.add_mul,h2];omega
theorem ziM {fuel:Nat}{x y:List Int}{X Y:Nat}(hlx:x.length≤1000)(hly:y.length≤1000)(hf:2000≤fuel)(hx:NatIs x X)(hy:NatIs y Y)(hY:0<Y):∃q r,zcQ fuel x y=some (q,r)∧NatIs q (X / Y)∧NatIs r (X % Y):=by
 have hB:=ja;unfold zcQ;rw [ziP hx hy];by_cases hlt:X<Y
 ·rw [if_pos hlt,decide_eq_true a7,cond_true];exact ⟨[],x,rfl,by rw [Nat.div_eq_of_lt hlt];exact .zero,by rw [Nat.mod_eq_of_lt hlt];exact hx⟩
 ·rw [if_neg hlt,decide_eq_false (by split <;> decide),cond_false];have hp:0<y.length:=hy.pos.2 hY;by_cases h1:y.length=1
  ·rw [decide_eq_true a6,cond_true];obtain ⟨d,rfl⟩:∃d,y=[d]:=List.length_eq_one_iff.1 h1;have hd:=hy.dig.head
   have ed:Y=d.toNat:=by
    have:=hy.eq;simpa [val] using this.symm
   obtain ⟨q,e1,e2⟩:=zjf (fuel:=fuel) (d:=d.toNat) a6 a6 hx a6 a6;rw [Int.toNat_of_nonneg hd.1] at e1;rw [zfZ,e1];refine fh ?_;have hml:=Nat.mod_lt X hY;rw [←ed] at e2 ⊢;obtain ⟨r,t1,t2⟩:=zjc (fuel:=fuel) (l:=[((X % Y:Nat):Int)]) b9 (Dig.nil.cons a6);rw [t1]; (have e9:val dm [((X % Y:Nat):Int)]=X % Y:=by rw [val,val,Nat.mul_zero,Nat.add_zero,Int.toNat_natCast]);rw [e9] at t2;exact ⟨q,r,rfl,e2,t2⟩
  ·rw [decide_eq_false a6,cond_false,eN a6,show ((y.length:Int) - 1).toNat=y.length - 1 by omega];have htn:nth y (y.length - 1)≠0:=hy.trm.elim (fun e=>by rw [e] at hp;cases hp) id;have htd:=hy.dig.nth (i:=y.length - 1) a6;obtain ⟨s,s1,s2,s3,s4,s5⟩:=zlr (x:=(nth y (y.length - 1)).toNat) a6 a6;rw [Int.toNat_of_nonneg htd.1] at s3;rw [s3];refine fh ?_;obtain ⟨v0,v1,v2,v3,v4⟩:=zg0 (x:=y) (s:=32 - s) a6 hy.dig a6;obtain ⟨u0,u1,u2,u3,u4⟩:=zg0 (x:=x) (s:=32 - s) a6 hx.dig a6;rw [v1];refine fh ?_;rw [eN a6,u1];refine fh ?_
   have hnx:y.length≤x.length:=Nat.le_of_not_lt fun hlt=>by
    have:=zdo hx.dig hy.dig hy.trm hlt;rw [hx.eq,hy.eq] at this;omega
   rw [eN a6,eN (by show _*_≤_;omega)];simp only [dO];rw [hy.eq] at v4;rw [hx.eq] at u4
   have eY:Y=val dm (y.take (y.length - 1))+dm ^ (y.length - 1) * (nth y (y.length - 1)).toNat:=by
    have:=iM (B:=dm) (l:=y) (i:=y.length - 1) a6;rw [show y.length - 1+1=y.length by omega,List.take_length,hy.eq] at this;exact this
   have htk:=j5 (hy.dig.take (y.length - 1));rw [List.length_take,Nat.min_eq_left a6] at htk; (have hps:2 ^ s*2 ^ (32 - s)=dm:=by rw [Nat.mul_comm];exact zkg s2); (have hps1:2 ^ (s - 1) *2 ^ (32 - s)=2147483648:=by rw [←Nat.pow_add,show s - 1+(32 - s)=31 by omega])
   have hlo:dm ^ (y.length - 1) *2147483648≤Y*2 ^ (32 - s):=by
    rw [←hps1,←Nat.mul_assoc];refine Nat.mul_le_mul_right _ ?_;rw [eY];exact Nat.le_trans (Nat.mul_le_mul_left _ s4) (Nat.le_add_left _ _)
   have hhi:Y*2 ^ (32 - s)<dm ^ y.length:=by
    have h5:Y<dm ^ (y.length - 1) *2 ^ s:=by
     have:=Nat.mul_le_mul_left (dm ^ (y.length - 1)) (show (nth y (y.length - 1)).toNat+1≤2 ^ s by omega);rw [Nat.mul_add,Nat.mul_one] at this;rw [eY];omega
    have h6:=Nat.mul_lt_mul_of_pos_right h5 (show 0<2 ^ (32 - s) from Nat.pow_pos a6);rw [Nat.mul_assoc,hps,←Nat.pow_succ,show (y.length - 1).succ=y.length by omega] at h6;exact h6
   have hz:nth v0 y.length=0:=by
    have h7:=ze9 iL v3 y.length;rw [v4,Nat.div_eq_of_lt hhi,Nat.zero_mod] at h7;have:=v3.nth (i:=y.length) a6;omega
   have htop:2147483648≤nth v0 (y.length - 1):=by
    have h7:=ze9 iL v3 (y.length - 1)
    have h8:val dm v0 / dm ^ (y.length - 1)<dm:=by
     rw [Nat.div_lt_iff_lt_mul (Nat.pow_pos iL),v4,Nat.mul_comm dm,←Nat.pow_succ,show (y.length - 1).succ=y.length by omega];exact hhi
    rw [Nat.mod_eq_of_lt h8,v4] at h7
    have h9:2147483648≤Y*2 ^ (32 - s) / dm ^ (y.length - 1):=by
     rw [Nat.le_div_iff_mul_le (Nat.pow_pos iL),Nat.mul_comm];exact hlo
    have:=v3.nth (i:=y.length - 1) a6;omega
   exact zk4 (post:=fun o=>∃q r,o=some (q,r)∧NatIs q (X / Y)∧NatIs r (X % Y)) hlx hly hf hx hy a6 a6 (fun q r h1 h2=>⟨q,r,rfl,h1,h2⟩) (sh:=32 - s) a6 v0 u0 v2 u2 v3 u3 v4 u4 htop hz
end Go.Proofs.YtmnjbhkcfghebaaGreatDoor
