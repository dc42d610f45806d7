/- Yf Y1 P4 Of Gp: shortened and put together by squeeze.py. -/
import Derived.Test.YtmnjbhkcfghebaaGreatDoorQ13
import Derived.Deep.Slices
import Derived.ChangeArms
import Derived.Test.YtmnjbhkcfghebaaGreatDoorRows
import Derived.LaidMore
import Derived.OpenShut
import Derived.Stop.Joined
import Derived.Lib.SmallJoins
set_option maxRecDepth 100000
set_option maxHeartbeats 4000000
set_option linter.unusedVariables false
set_option linter.unusedSectionVars false
set_option linter.unusedSimpArgs false
namespace Go.Proofs.YtmnjbhkcfghebaaGreatDoor
open Go.RowKit
def zio (i:Nat)(xs:List GBidder)(vs:List Value):List (List Value):=(List.range i).map fun j=>gL (cS xs j) (cS vs j)
theorem zgf {α:Type}[Inhabited α]{l:List α}{x:α}{j:Nat}:cS (l++[x]) j=if j<l.length then cS l j else if j=l.length then x else default:=by
 unfold cS;rw [List.getD_eq_getElem?_getD,List.getD_eq_getElem?_getD];by_cases h:j<l.length
 ·rw [if_pos h,List.getElem?_append_left h]
 ·rw [if_neg h,List.getElem?_append_right a7];by_cases h2:j=l.length
  ·rw [if_pos h2,h2,Nat.sub_self];rfl
  ·rw [if_neg h2,List.getElem?_eq_none (by simp;omega)];rfl
theorem zii {i:Nat}{xs:List GBidder}{vs:List Value}{v:Value}(hv:vs.length=i):(zio i xs vs).flatten++[.int .i64 (cS xs i).ID, .int .i64 (cS xs i).Eligibility, .int .i64 (cS xs i).Waivers,v]=(zio (i+1) xs (vs++[v])).flatten:=by
 unfold zio;rw [List.range_succ,List.map_append,List.flatten_append,List.map_cons,List.map_nil];refine congr (congrArg _ (congrArg List.flatten (List.map_congr_left fun j hj=>?_))) ?_
 ·have hj:=List.mem_range.1 hj;rw [zgf,if_pos a7]
 ·rw [zgf,if_neg a7,if_pos hv.symm];rfl
theorem ziM {ei:TypeId}{i:Nat}{xs:List GBidder}{vs:List Value}{v:Value}(hi:vs.length=i):iV ei i xs vs++[.sl v ei 1 (cS xs i).Blocks.length ((cS xs i).Blocks.flatMap eI)]=iV ei (i+1) xs (vs++[v]):=by
 unfold iV;rw [List.range_succ,List.map_append,List.map_cons,List.map_nil];refine congr (congrArg _ (List.map_congr_left fun j hj=>?_)) ?_
 ·have hj:=List.mem_range.1 hj;rw [zgf,if_pos a7]
 ·rw [zgf,if_neg a7,if_pos hi.symm]
theorem zjs (F0:Frz)(w:World)(hF0:F0.At w)(l:List GBidder)(vl:Value)(cl:List (List Value))(hl:SlD cT F0 vl 4 cl l)(hr:it l):Calls Tryz.prog 23 #[vl] w fun e w'=>∃y:Value×List Value,True∧e= .returned y.1∧Hp w (fun _=>False) [dE 57 3 y.1 y.2 l] w':=by
 obtain ⟨g6,g7⟩:=hr;haveI:=hl.1.oneC;obtain ⟨S0,F1,rfl,hS0,hp0⟩:=dY hF0;refine dG Tryz.func23 rfl rfl rfl hp0 ?_;refine io ?_;refine dr ?_;refine TL.slNil 57 4 ?_;refine i4 ?_;refine dJ ?_;refine c9 (ι:=Value×List Value) (fun z=>[(3,z.1)]) (fun z=>[.sl z.1 57 4 l.length (ft l z.2).flatten, .bag (fE 3 l z.2), .fr F1]) (fun z=>OneC z.1) ?_ ?_
 ·refine T.bag0 [] (fun _ _ h=>by cases h) (fun _ h=>by cases h) ?_;refine ed ?_;refine T.loop (ι:=Nat×Value×List Value) (fun z=>[(0,vl),(3,z.2.1),(4, .int .i64 (z.1:Int))]) (fun z=>[.bag (iV 3 z.1 l z.2.2), .sl z.2.1 57 4 z.1 (zio z.1 l z.2.2).flatten, .fr F1]) (fun z=>z.1≤l.length∧z.2.2.length=z.1∧OneC z.2.1) (fun z=>l.length - z.1) (0, .slice none 0 0,[]) ?_ ?_ ?_ ?_
  ·exact ⟨Nat.zero_le _,rfl,inferInstance⟩
  ·exact ju
  ·exact eb
  ·rintro ⟨i_5,vout,us⟩ ⟨hle,hul,hone⟩;dsimp only at hle hul hone ⊢;refine hD ?_;refine q3k ?_;have hm8:l.length≤9223372036854775807:=hl.2.1▸hl.1.max;refine dJ ?_;refine T.cond rfl (fun h6=>?_) (fun h6=>?_)
   ·have p6:=of_decide_eq_true h6; (have hi:i_5<l.length:=by omega); (have g18:df ([]++(cS l i_5).Blocks).length 8:=by rw [List.nil_append,ff hi];exact g7 _ (List.getElem_mem hi)); (have g23:df (i_5+1) 48:=by unfold df at g6 ⊢;omega);refine i3 ?_;refine cU (dc (i:=i_5) rfl rfl rfl hl.1 hl.2.1 rfl a7) ?_;refine cU (eV 2 (i:=i_5) (j:=0) rfl rfl rfl hl.1 hl.2.1 a7 rfl (d8 (hl.2.2 i_5 a7))) ?_;have hd15_3:=(dM (hl.2.2 i_5 a7)).2;haveI:=hd15_3.oneC;refine fv ?_;rintro _ _ ⟨g5,rfl,rfl⟩;refine fx ?_;refine ee ?_;refine fR ?_;refine TL.slNil 3 1 ?_;refine cZ (fH 0 4 (kD (fun _=>inferInstance)) rfl rfl rfl rfl rfl hd15_3 (zdZ (xs:=([]:List Int))) (zc8 (xs:=([]:List Int))) g18 a8) ?_;rintro v18 _ ⟨hv18,rfl⟩;refine fX ?_;refine dz (gu 1 rfl rfl rfl rfl b8) ?_;refine dU ?_;refine lh ?_;refine jZ ?_;refine ga ?_;rintro _ _ ⟨g22,rfl,rfl⟩;refine cZ (fi 4 0 (k':=i_5+1) (l':=(zio (i_5+1) l (us++[v18])).flatten) rfl rfl rfl rfl rfl rfl rfl (zii hul) g23 a8) ?_;rintro v23 _ ⟨hv23,rfl⟩;refine q3u ?_;refine K.pick [1,3,4,5] rfl a8 ?_;refine K.ci 0 (iV 3 (i_5+1) l (us++[v18])) rfl (ziM hul) ?_;refine K.next (i_5+1,v23,us++[v18]) ⟨by dsimp only;omega,by dsimp only;rw [List.length_append,hul];rfl,hv23⟩ b6 (.c (.c (.c .nil))) (List.Sublist.refl _)
   ·have p6:=of_decide_eq_false h6; (have hi:i_5=l.length:=by omega);refine ek ?_;subst hi;refine K.pick [1,0,2] rfl a8 ?_;exact cY (vout,us) hone (.c .nil) (List.Sublist.refl _)
 ·rintro ⟨vout,us⟩ hone;dsimp only at hone ⊢;refine kM ?_;exact eg rfl rfl (fun w' hw=>⟨(vout,us),trivial,rfl,hw.toBd.sub Sx⟩)
theorem FxM.weak {F G:Frz}{w w':World}{M:Nat→Prop}{es:HS}(h:FxM F w M G es w'):FxM F w M F es w':=
 ⟨.refl _,h.at_.le h.le,h.hp,fun g hg=> .inl hg,fun e he g hg hS=>h.ap e he g hg (h.le g hS).1⟩
def cutV:Value→Nat→Value
 | .slice none _ _,_=> .slice none 0 0
 | .slice (some A) _ _,m=> .slice (some A) m m
 |v,_=>v
instance {v:Value} {m:Nat} [h:OneC v]:OneC (cutV v m):=by
 unfold cutV
 split <;> first|exact inferInstance|exact h
theorem Hp.bor3 {B w : World} {M S0 : Nat → Prop} {hs : HS} {F : FzB B M S0} (i j1 j2 j3 : Nat) {v1 v2 v3 : Value} {e1 e2 e3 ei : TypeId} {s1 s3 k1 k3 : Nat} {l1 l3 : List Value} {vs : List Value} {xs : List GBidder} (hw : Hp B M hs w) (hi : hs[i]? = some (.fr F)) (h1 : hs[j1]? = some (.sl v1 e1 s1 k1 l1)) (h2 : hs[j2]? = some (dE e2 ei v2 vs xs)) (h3 : hs[j3]? = some (.sl v3 e3 s3 k3 l3)) :
    ∃ F' : Frz, F.toFrz.Le F' ∧ F'.At w ∧ SlK F' v1 s1 k1 l1 ∧ SlD cT F' v2 4 (ft xs vs) xs ∧ SlK F' v3 s3 k3 l3 := by
  have hF := hw.fr hi; have o1 := hw.get h1; have o2 := hw.get h2; have o3 := hw.get h3
  have key : ∀ {v : Value} {e : TypeId} {size k : Nat} {l : List Value} {g : Nat}, (Ent.sl v e size k l).ok w → (Ent.sl v e size k l).fp g → Cb w g := by
    intro v e size k l g hok hg; have ho := dw.1 hok; have hfp := dD.1 hg; rcases ho.2 with ⟨h0, _⟩ | ⟨g', cap, cur, h1, hb, hg', _⟩
    · rw [h0] at hfp; cases hfp
    · rw [h1] at hfp; cases hfp; exact ⟨_, _, _, hg'⟩
  refine ⟨⟨fun k => F.S k ∨ (Ent.sl v1 e1 s1 k1 l1).fp k ∨ (dE e2 ei v2 vs xs).fp k ∨ (Ent.sl v3 e3 s3 k3 l3).fp k, w, fun k hk => ?_⟩, fun k hk => ⟨.inl hk, hF k hk⟩, fun k _ => rfl, SlK.ent o1 rfl (fun g hg _ => .inr (.inl hg)), zgg o2 rfl (fun g hg => .inr (.inr (.inl hg))), SlK.ent o3 rfl (fun g hg _ => .inr (.inr (.inr hg)))⟩; rcases hk with h | h | h | h
  · exact hF.cb h
  · exact key o1 h
  · exact ziD o2 h
  · exact key o3 h
section
variable {P:Program}{n:Nat}{B D:World}{M S0:Nat→Prop}{fs:d7}{hs:HS}{o:Oper}{e ei:TypeId}{v:Value}{vs:List Value}{xs:List GBidder}
theorem ziK {xs:List GBidder}{vs:List Value}{h:Nat}{x:GBidder}{j:Nat}{z:Value}(hi:h<xs.length)(hj:j<4)(hx:(gL (cS xs h) (cS vs h)).set j z=gL x (cS vs h)):(ft xs vs).flatten.set (h*4+j) z=(ft (xs.set h x) vs).flatten:=by
 rw [zgP (c:=gL (cS xs h) (cS vs h)) zeD (by rw [jR];exact hi) (by rw [zc6 hi];rfl) hj,hx];refine congrArg List.flatten (List.ext_getElem (by rw [List.length_set,jR,jR,List.length_set]) fun q h1 h2=>?_); (have hq:q<xs.length:=by rw [jR,List.length_set] at h2;exact h2);have e2:=zc6 (xs:=xs.set h x) (vs:=vs) (i:=q) (by rw [List.length_set];exact hq);rw [ff h2] at e2;rw [e2,List.getElem_set,kq hq];by_cases e:h=q
 ·subst e;rw [if_pos rfl,if_pos rfl]
 ·have e3:=zc6 (xs:=xs) (vs:=vs) hq;rw [ff (by rw [jR];exact hq)] at e3;rw [if_neg e,if_neg e,e3]
theorem ziT {ei:TypeId}{xs:List GBidder}{vs:List Value}{h:Nat}{x:GBidder}(hi:h<xs.length)(hx:x.Blocks=(cS xs h).Blocks):fE ei (xs.set h x) vs=fE ei xs vs:=by
 unfold fE;rw [List.length_set];refine List.map_congr_left fun j hj=>?_;have hj:=List.mem_range.1 hj;rw [kq hj];by_cases e:h=j
 ·subst e;rw [if_pos rfl,hx]
 ·rw [if_neg e]
theorem Ew.bG (j h q : Nat) {t : TypeId} {z : Int} {x : GBidder} {hs' : HS} [hT : TyS P t] {a b : Operand} (ho : o.op = .store t a b) (ha : ev fs a = some (iO v (h * 4 + q))) (hb : ev fs b = some (.int .i64 z))
    (hj : hs[j]? = some (dE e ei v vs xs)) (hh : h < xs.length) (hq : q < 4) (hx : (gL (cS xs h) (cS vs h)).set q (.int .i64 z) = gL x (cS vs h)) (hbl : x.Blocks = (cS xs h).Blocks) [hH : SetAt hs j (dE e ei v vs (xs.set h x)) hs'] : Ew P n B M fs hs o (fun u hs'' => u = undef ∧ hs'' = hs') := by
  have h2 : Ew P n B M fs (.sl v e 4 xs.length (ft xs vs).flatten :: hs.set j (.bag ((Ent.sl v e 4 xs.length (ft xs vs).flatten :: fE ei xs vs).eraseIdx 0))) o (fun u hs'' => u = undef ∧ hs'' = .sl v e 4 (xs.set h x).length (ft (xs.set h x) vs).flatten :: hs.set j (.bag ((Ent.sl v e 4 xs.length (ft xs vs).flatten :: fE ei xs vs).eraseIdx 0))) :=
    ef 0 (k' := (xs.set h x).length) (l' := (ft (xs.set h x) vs).flatten) ho ha hb rfl a7 (by rw [zh0]; omega) (ziK hh hq hx) (List.length_set ..) (hH := ⟨rfl⟩)
  rw [← hH.h]; have h3 := Ew.cM (i := j) (a := 0) (x := .sl v e 4 xs.length (ft xs vs).flatten) hj rfl h2
  have h4 : (Ent.sl v e 4 xs.length (ft xs vs).flatten :: fE ei xs vs).set 0 (.sl v e 4 (xs.set h x).length (ft (xs.set h x) vs).flatten) = (Ent.sl v e 4 (xs.set h x).length (ft (xs.set h x) vs).flatten :: fE ei (xs.set h x) vs) := by
    rw [List.set_cons_zero, ziT hh hbl]
  rw [h4] at h3; exact h3
end
def zda (l:List GProduct)(bidders:List GBidder)(i:GIncrement)(key:List Int):Option (Option GAuction×Int):=
 (zbK l).bind fun r14=>
 dF (fun (x_1:Bool)=>
  (bif x_1 then
   some (none,2)
   else
   dl (df l.length 40) <|
   dl (it bidders) <|
   dl (df key.length 1) <|
   dF (fun (c_8:List Int)=>
    some (some (GAuction.mk l bidders (GIncrement.mk i.Activity i.Step) key 0 c_8),0))
   (fun k9=>
    dq (fun (i_12:Nat) (next11:List Int→Option (Option GAuction×Int)) (c_10:List Int)=>
     dl (df (c_10++[(cS l i_12).Reserve]).length 8) <|
     next11 (c_10++[(cS l i_12).Reserve]))
    (fun (c_10:List Int)=>
     k9 c_10) (l.length - 0) 0 [])))
 (fun k2=>
  (bif !r14 then
   k2 true
   else
   (kH l bidders).bind fun r19=>
   (bif !r19 then
    k2 true
    else
    (bif !(zbj i) then
     k2 true
     else
     (bif decide ((key.length:Int)<1) then
      k2 true
      else
      k2 (decide (32<(key.length:Int))))))))
theorem zfu (F0:Frz)(w:World)(hF0:F0.At w)(l:List GProduct)(vl:Value)(hl:SlC F0 vl 5 (l.map cV))(bidders:List GBidder)(vbidders:Value)(cbidders:List (List Value))(hbidders:SlD cT F0 vbidders 4 cbidders bidders)(i:GIncrement)(key:List Int)(vkey:Value)(hkey:SlC F0 vkey 1 (key.map (eK .u8)))(r:Option GAuction×Int)(hr:zda l bidders i key=some r):Calls Tryz.prog 17 #[vl,vbidders, .agg [.int .i64 i.Activity, .int .i64 i.Step].toArray,vkey] w fun e w'=>((r.1).isSome=true→∃(y:Nat×Value×Value×List Value×Value×Value) (G:Frz),(True)∧e= .returned (.tuple #[.pointer (some ⟨y.1,0,none⟩), .int .i64 r.2])∧FxM F0 w (dx []) G [.row y.1 104 [y.2.1,y.2.2.1, .int .i64 ((r.1.getD default).increment.Activity), .int .i64 ((r.1.getD default).increment.Step),y.2.2.2.2.1, .int .i64 ((r.1.getD default).rounds),y.2.2.2.2.2], .sl y.2.1 55 5 ((r.1.getD default).catalogue).length (((r.1.getD default).catalogue).flatMap cV),dE 57 3 y.2.2.1 y.2.2.2.1 ((r.1.getD default).bidders), .sl y.2.2.2.2.1 5 1 ((r.1.getD default).key).length (((r.1.getD default).key).flatMap (eK .u8)), .sl y.2.2.2.2.2 3 1 ((r.1.getD default).prices).length (((r.1.getD default).prices).flatMap eI)] w')∧((r.1).isSome=false→∃(y:Unit) (G:Frz),(True)∧e= .returned (.tuple #[.pointer none, .int .i64 r.2])∧FxM F0 w (dx []) G [] w'):=by
 have hk:=hr;unfold zda at hk;haveI:=hl.oneC;haveI:=hbidders.1.oneC;haveI:=hkey.oneC;obtain ⟨S0,F1,rfl,hS0,hp0⟩:=dY hF0;rw [zgt];refine dG Tryz.func17 rfl rfl rfl hp0 ?_;refine fV ?_;rintro _ _ ⟨g6,rfl,rfl⟩;refine d4 ?_;refine hI ?_;have hq:=dm hk;clear hk;obtain ⟨r14,hr14,hk⟩:=hq; (try dsimp only at hk);have hq:=dP hk;clear hk;obtain ⟨k2,hk2,hk⟩:=hq; (try dsimp only at hk);refine c9 (ι:=Bool) (fun z=>[(0,vl),(1,vbidders),(3,vkey),(6, .pointer (some ⟨g6,0,none⟩)),(36, .bool z)]) (fun z=>[.row g6 23 [.int .i64 i.Activity, .int .i64 i.Step], .fr F1]) (fun z=>k2 z=some r) ?_ ?_
 ·refine ec ?_;refine cZ (da rfl rfl rfl (fun w hw=>zcO _ w (hw.fr (i:=1) rfl) l vl hl r14 hr14)) ?_;refine iy ?_;refine db rfl rfl rfl (fun h3=>?_) (fun h3=>?_)
  ·replace hk:=dj hk h3;refine TL.run 20 rfl ?_;refine e7 ?_;exact kx
  ·replace hk:=di hk h3;refine d4 ?_;have hq:=dm hk;clear hk;obtain ⟨r19,hr19,hk⟩:=hq;refine q4h ?_;refine db rfl rfl rfl (fun h4=>?_) (fun h4=>?_)
   ·replace hk:=dj hk h4;refine q3W ?_;exact kx
   ·replace hk:=di hk h4;refine iQ ?_;refine cZ (da rfl rfl rfl (fun w hw=>zdv _ w (hw.fr (i:=1) rfl) i)) ?_;refine kV ?_;refine db rfl rfl rfl (fun h5=>?_) (fun h5=>?_)
    ·replace hk:=dj hk h5;refine q2V ?_;exact kx
    ·replace hk:=di hk h5;refine q1J ?_;have hm29:key.length≤9223372036854775807:=(List.length_map _)▸hkey.max;refine fA ?_;refine db rfl rfl rfl (fun h6=>?_) (fun h6=>?_)
     ·have p6:=of_decide_eq_true h6;replace hk:=dj hk h6;refine iz ?_;exact kx
     ·have p6:=of_decide_eq_false h6;replace hk:=di hk h6;refine q1J ?_;refine hY ?_;exact q49
 ·rintro x_1 hk;rw [←hk2] at hk; (try dsimp only at hk);refine T.cond rfl (fun h7=>?_) (fun h7=>?_)
  ·replace hk:=dj hk h7;refine jp ?_;obtain rfl:=Option.some.inj hk;exact q5a
  ·replace hk:=di hk h7;refine fD ?_;have hq:(df l.length 40)∧_:=dp hk;clear hk;obtain ⟨g38,hk⟩:=hq;have hq:(it bidders)∧_:=dp hk;clear hk;obtain ⟨g40,hk⟩:=hq;have hq:(df key.length 1)∧_:=dp hk;clear hk;obtain ⟨g43,hk⟩:=hq; (try dsimp only at hk);refine q2X ?_;refine c5 rfl (cW) rfl rfl (gr rfl rfl rfl (fun w hw=>zcI _ w (hw.fr (i:=1) rfl) l vl hl g38)) ?_;rintro v38_ _ ⟨_,_,rfl,rfl⟩;refine eG ?_;refine gB ?_;refine gz 0 rfl ?_;intro iv38_ hmv38_;refine dH ?_;refine c5 rfl (cW) rfl rfl (gr rfl rfl rfl (fun w hw=>zgh _ w (hw.fr (i:=2) rfl) bidders vbidders cbidders hbidders g40)) ?_;rintro v40_ _ ⟨⟨_,c40_⟩,_,rfl,rfl⟩;refine eG ?_;refine gB ?_;refine lm 0 rfl ?_;intro iv40_ hmv40_;refine dH ?_;refine c5 rfl (cW) rfl rfl (gr rfl rfl rfl (fun w hw=>zf4 _ w (hw.fr (i:=3) rfl) key vkey hkey g43)) ?_;rintro v43_ _ ⟨_,_,rfl,rfl⟩;refine eG ?_;refine gB ?_;refine gz 0 rfl ?_;intro iv43_ hmv43_;refine q11 ?_;rintro _ _ ⟨g45,rfl,rfl⟩;refine gB ?_;refine jS ?_;refine iF ?_;refine K.seq (T.seq (d5 ?_));refine dr ?_;refine j4 ?_;have hm47:l.length≤9223372036854775807:=(List.length_map _)▸hl.max;refine dJ ?_;have hq:=dP hk;clear hk;obtain ⟨k9,hk9,hk⟩:=hq; (try dsimp only at hk);refine c9 (ι:=List Int×Value) (fun z=>[(10, .pointer (some ⟨g45,0,none⟩))]) (fun z=>[.sl z.2 3 1 z.1.length (z.1.flatMap eI), .row g45 104 [v38_,v40_, .int .i64 i.Activity, .int .i64 i.Step,v43_, .int .i64 0,z.2], .sl v43_ 5 1 key.length (key.flatMap (eK .u8)),dE 57 3 v40_ c40_ bidders, .sl v38_ 55 5 l.length (l.flatMap cV), .fr F1]) (fun z=>k9 z.1=some r∧OneC z.2) ?_ ?_
   ·have hq:=eX hk;clear hk;obtain ⟨f11,kk11,hf11,hkk11,hk⟩:=hq;refine ed ?_;refine T.pick [0,1,2,3,4,6] rfl a8 ?_;refine T.loop (ι:=Nat×List Int×Value) (fun z=>[(10, .pointer (some ⟨g45,0,none⟩)),(46,vl),(47, .int .i64 (l.length:Int)),(48, .int .i64 (z.1:Int))]) (fun z=>[.sl z.2.2 3 1 z.2.1.length (z.2.1.flatMap eI), .row g45 104 [v38_,v40_, .int .i64 i.Activity, .int .i64 i.Step,v43_, .int .i64 0,z.2.2], .sl v43_ 5 1 key.length (key.flatMap (eK .u8)),dE 57 3 v40_ c40_ bidders, .sl v38_ 55 5 l.length (l.flatMap cV), .fr F1]) (fun z=>dq f11 kk11 (l.length - z.1) z.1 z.2.1=some r∧OneC z.2.2) (fun z=>l.length - z.1) (0,[],(.slice none 0 0)) ?_ ?_ ?_ ?_
    ·exact kN
    ·exact gR
    ·exact eb
    ·rintro ⟨i_12,c_10,vc_10⟩ ⟨hk,oc_10⟩; (try dsimp only at *);refine eM ?_;refine T.cond rfl (fun h13=>?_) (fun h13=>?_)
     ·have p13:=of_decide_eq_true h13;rw [eW a7] at hk;generalize hn11:dq f11 kk11 (l.length - (i_12+1)) (i_12+1)=next11 at hk;rw [←hf11] at hk; (try dsimp only at hk);refine jv ?_;refine cU (dc (i:=i_12) rfl rfl rfl hl (List.length_map _) rfl a7) ?_;refine cU (fP 5 (i:=i_12) rfl rfl rfl hl a7) ?_;refine fv ?_;rintro _ _ ⟨g12,rfl,rfl⟩;refine fx ?_;refine dC ?_;have hq:(df (c_10++[(cS l i_12).Reserve]).length 8)∧_:=dp hk;clear hk;obtain ⟨g60,hk⟩:=hq; (try dsimp only at hk);refine dL (.still 0 (.still 1 (.still 2 (.still 3 (.still 5 (.still 6 (.two 4 7 (.eff 7 (.eff 8 (sN 9 2 (.eff 11 .done)))) (.eff 4 (.eff 8 (sN 9 2 (.eff 11 .done))))))))))) [.row g12 55 [.int .i64 ((cS l i_12).Area), .int .i64 ((cS l i_12).Category), .int .i64 ((cS l i_12).Supply), .int .i64 ((cS l i_12).Units), .int .i64 ((cS l i_12).Reserve)], .sl v43_ 5 1 key.length (key.flatMap (eK .u8)),dE 57 3 v40_ c40_ bidders, .sl v38_ 55 5 l.length (l.flatMap cV), .fr F1] b5 Sx ?_;refine fj ?_;refine ii ?_;refine gh ?_;refine TS.two ?_ ?_
      ·refine q2v ?_;refine kl ?_;rintro _ _ ⟨g59,rfl,rfl⟩;refine jt ?_;refine q1t ?_;rintro v60 _ ⟨hv60,rfl⟩;refine q1O ?_;rw [←hn11] at hk;refine K.pick [2,3,4,5,6,7] rfl a8 ?_;exact q4T
      ·refine kl ?_;rintro _ _ ⟨g59,rfl,rfl⟩;refine q4p ?_;rintro v60 _ ⟨hv60,rfl⟩;refine q1O ?_;rw [←hn11] at hk;refine K.pick [2,3,4,5,6,7] rfl a8 ?_;exact q4T
     ·have p13:=of_decide_eq_false h13;rw [eY a7,←hkk11] at hk; (try dsimp only at hk);refine ek ?_;exact cY (c_10,vc_10) ⟨hk,inferInstance⟩ (.c .nil) (List.Sublist.refl _)
   ·rintro ⟨c_8,vc_8⟩ ⟨hk,oc_8⟩; (try dsimp only at *);rw [←hk9] at hk; (try dsimp only at hk);refine iM ?_;refine gp ?_;obtain rfl:=Option.some.inj hk;exact eF rfl rfl rfl (fun w' hw=>⟨fun _=>⟨(g45,v38_,v40_,c40_,v43_,vc_8),F1.toFrz,trivial,rfl,dk (hw.pick (idx:=[1,4,3,2,0,5]) rfl a8) hS0 (Frz.Le.refl _)⟩,fun h=>(by cases h)⟩)
def zcK (fuel:Nat)(l:List GProduct)(bidders:List GBidder)(i:GIncrement)(key:List Int):Option Bool:=
 (bif !(zdn l bidders key []) then
  (zcA fuel).bind fun r24=>
  some r24
  else
  dl (df ([]++l).length 40) <|
  dl (it bidders) <|
  dl (df ([]++key).length 1) <|
  (zda ([]++l) bidders i ([]++key)).bind fun r36=>
  (bif (r36.1).isSome then
   (zdU fuel l bidders i key).bind fun r44=>
   (bif decide (¬r36.2=r44.2) then
    some false
    else
    (bif decide (¬r44.2=0) then
     some false
     else
     dF (fun (l_5:List GProduct)=>
      dF (fun (l_12:List GBidder)=>
       (zd6 fuel (r36.1.getD default) r44.1).bind fun r107=>
       dF (fun (x_24:Bool)=>
        some x_24)
       (fun k25=>
        (bif r107 then
         (zcA fuel).bind fun r109=>
         k25 r109
         else
         k25 false)))
      (fun k13=>
       ej (fun (next16:(Int×List GBidder)→Option Bool) (s16:Int×List GBidder)=>
        (bif decide (s16.1<(s16.2.length:Int)) then
         dl (0≤s16.1∧s16.1<(s16.2.length:Int)) <|
         ej (fun (next21:(Int×List GBidder)→Option Bool) (s21:Int×List GBidder)=>
          dl (0≤s16.1∧s16.1<(s21.2.length:Int)) <|
          (bif decide (s21.1<(((cS s21.2 s16.1.toNat).Blocks).length:Int)) then
           dl (0≤s21.1∧s21.1<(((cS s21.2 s16.1.toNat).Blocks).length:Int)) <|
           next21 ((s21.1+1),(s21.2.set s16.1.toNat { (cS s21.2 s16.1.toNat) with Blocks:=(cS s21.2 s16.1.toNat).Blocks.set s21.1.toNat (wI ((cS ((cS s21.2 s16.1.toNat).Blocks) s21.1.toNat)+1)) }))
           else
           next16 ((s16.1+1),s21.2))) fuel (0,(s16.2.set s16.1.toNat (GBidder.mk ((cS s16.2 s16.1.toNat).ID) (wI (((cS s16.2 s16.1.toNat).Eligibility)+1)) ((cS s16.2 s16.1.toNat).Waivers) (cS s16.2 s16.1.toNat).Blocks)))
         else
         k13 s16.2)) fuel (0,bidders)))
     (fun k6=>
      ej (fun (next9:(Int×List GProduct)→Option Bool) (s9:Int×List GProduct)=>
       (bif decide (s9.1<(s9.2.length:Int)) then
        dl (0≤s9.1∧s9.1<(s9.2.length:Int)) <|
        next9 ((s9.1+1),(s9.2.set s9.1.toNat (GProduct.mk ((cS s9.2 s9.1.toNat).Area) ((cS s9.2 s9.1.toNat).Category) (wI (((cS s9.2 s9.1.toNat).Supply)+1)) ((cS s9.2 s9.1.toNat).Units) ((cS s9.2 s9.1.toNat).Reserve))))
        else
        k6 s9.2)) fuel (0,([]++l)))))
   else
   (zdU fuel l bidders i key).bind fun r44=>
   (bif decide (¬r36.2=r44.2) then
    some false
    else
    (bif decide (¬r44.2=0) then
     dF (fun (x_29:Bool)=>
      some x_29)
     (fun k30=>
      (zcA fuel).bind fun r55=>
      k30 r55)
     else
     dF (fun (l_31:List GProduct)=>
      dF (fun (l_38:List GBidder)=>
       none)
      (fun k39=>
       ej (fun (next42:(Int×List GBidder)→Option Bool) (s42:Int×List GBidder)=>
        (bif decide (s42.1<(s42.2.length:Int)) then
         dl (0≤s42.1∧s42.1<(s42.2.length:Int)) <|
         ej (fun (next47:(Int×List GBidder)→Option Bool) (s47:Int×List GBidder)=>
          dl (0≤s42.1∧s42.1<(s47.2.length:Int)) <|
          (bif decide (s47.1<(((cS s47.2 s42.1.toNat).Blocks).length:Int)) then
           dl (0≤s47.1∧s47.1<(((cS s47.2 s42.1.toNat).Blocks).length:Int)) <|
           next47 ((s47.1+1),(s47.2.set s42.1.toNat { (cS s47.2 s42.1.toNat) with Blocks:=(cS s47.2 s42.1.toNat).Blocks.set s47.1.toNat (wI ((cS ((cS s47.2 s42.1.toNat).Blocks) s47.1.toNat)+1)) }))
           else
           next42 ((s42.1+1),s47.2))) fuel (0,(s42.2.set s42.1.toNat (GBidder.mk ((cS s42.2 s42.1.toNat).ID) (wI (((cS s42.2 s42.1.toNat).Eligibility)+1)) ((cS s42.2 s42.1.toNat).Waivers) (cS s42.2 s42.1.toNat).Blocks)))
         else
         k39 s42.2)) fuel (0,bidders)))
     (fun k32=>
      ej (fun (next35:(Int×List GProduct)→Option Bool) (s35:Int×List GProduct)=>
       (bif decide (s35.1<(s35.2.length:Int)) then
        dl (0≤s35.1∧s35.1<(s35.2.length:Int)) <|
        next35 ((s35.1+1),(s35.2.set s35.1.toNat (GProduct.mk ((cS s35.2 s35.1.toNat).Area) ((cS s35.2 s35.1.toNat).Category) (wI (((cS s35.2 s35.1.toNat).Supply)+1)) ((cS s35.2 s35.1.toNat).Units) ((cS s35.2 s35.1.toNat).Reserve))))
        else
        k32 s35.2)) fuel (0,([]++l)))))))
theorem zfD (F0:Frz)(w:World)(hF0:F0.At w)(l:List GProduct)(vl:Value)(hl:SlC F0 vl 5 (l.map cV))(bidders:List GBidder)(vbidders:Value)(cbidders:List (List Value))(hbidders:SlD cT F0 vbidders 4 cbidders bidders)(i:GIncrement)(key:List Int)(vkey:Value)(hkey:SlC F0 vkey 1 (key.map (eK .u8)))(hgl:GlF F0)(fuel:Nat)(r:Bool)(hr:zcK fuel l bidders i key=some r):Calls Tryz.prog 5 #[vl,vbidders, .agg [.int .i64 i.Activity, .int .i64 i.Step].toArray,vkey] w fun e w'=>e= .returned (.bool r)∧Below w.heap.size w w':=by
 have hk:=hr;unfold zcK at hk;haveI:=hl.oneC;haveI:=hbidders.1.oneC;haveI:=hkey.oneC;obtain ⟨S0,F1,rfl,hS0,hp0⟩:=dY hF0;refine dG Tryz.func5 rfl rfl rfl hp0 ?_;refine fV ?_;rintro _ _ ⟨g6,rfl,rfl⟩;refine jl ?_;refine fA ?_;refine cZ (da rfl rfl rfl (fun w hw=>zhR _ w (hw.fr (i:=1) rfl) l vl hl bidders vbidders cbidders hbidders key vkey hkey [] (.slice none 0 0) [] (SlD.nil _ _ 1))) ?_;refine kG ?_;refine T.cond rfl (fun h1=>?_) (fun h1=>?_)
 ·replace hk:=dj hk h1;refine T.seq ?_;have hq:=dm hk;clear hk;obtain ⟨r24,hr24,hk⟩:=hq; (try dsimp only at hk);refine fO ?_;refine cZ (da rfl rfl rfl (fun w hw=>zeX _ w (hw.fr (i:=1) rfl) hgl fuel r24 hr24)) ?_;refine dU ?_;refine jb ?_;obtain rfl:=Option.some.inj hk;exact dS
 ·replace hk:=di hk h1;refine fD ?_;have hq:(df ([]++l).length 40)∧_:=dp hk;clear hk;obtain ⟨g26,hk⟩:=hq;have hq:(it bidders)∧_:=dp hk;clear hk;obtain ⟨g28,hk⟩:=hq;have hq:(df ([]++key).length 1)∧_:=dp hk;clear hk;obtain ⟨g30,hk⟩:=hq; (try dsimp only at hk);refine ec ?_;refine TL.slNil 55 5 ?_;refine cZ (fH 0 2 (kD (fun _=>inferInstance)) rfl rfl rfl rfl rfl hl (zdZ (xs:=([]:List GProduct))) (zc8 (xs:=([]:List GProduct))) g26 a8) ?_;rintro v26 _ ⟨hv26,rfl⟩;refine dr ?_;refine cZ (gr rfl rfl rfl (fun w hw=>zjs _ w (hw.fr (i:=2) rfl) bidders vbidders cbidders hbidders g28)) ?_;rintro v28_ _ ⟨⟨_,c28_⟩,_,rfl,rfl⟩;refine eG ?_;refine i5 0 rfl ?_;intro iv28_ hmv28_;refine dr ?_;refine j0 ?_;refine cZ (fH 0 4 (kD (fun _=>inferInstance)) rfl rfl rfl rfl rfl hkey (zdZ (xs:=([]:List Int))) (zc8 (xs:=([]:List Int))) g30 a8) ?_;rintro v30 _ ⟨hv30,rfl⟩;refine fA ?_;refine eR ?_;have hq:=dm hk;clear hk;obtain ⟨r36,hr36,hk⟩:=hq; (try dsimp only at hk);refine T.bz ((r36.1).isSome) (fun h2=>?_) (fun h2=>?_)
  ·replace hk:=dj hk h2;refine eo ?_;refine q32 ?_;refine dr ?_;refine cZ (dB [4,0,1,2,3] [] [.sl v30 5 1 (([]:List Int)++key).length ((([]:List Int)++key).flatMap (eK .u8)),dE 57 3 v28_ c28_ bidders, .sl v26 55 5 (([]:List GProduct)++l).length ((([]:List GProduct)++l).flatMap cV), .row g6 23 [.int .i64 i.Activity, .int .i64 i.Step]] rfl rfl rfl rfl a8 (fun w hw hw2 hF=>(hw.bor3 4 2 1 0 rfl rfl rfl rfl).elim fun F9 b=>((zfu F9 w b.2.1 ([]++l) v26 (b.2.2.1.toF rfl GProduct.len) bidders v28_ (ft bidders c28_) b.2.2.2.1 i ([]++key) v30 (b.2.2.2.2.toF rfl (fun _=>rfl)) r36 hr36).mono (fun e w' hp=>hp.1 h2)).mono (fun e w9 ⟨y9,G9,fa9,he9,hx9⟩=>⟨y9,fa9,he9,hx9.weak.back b.1⟩))) ?_;rintro _ _ ⟨⟨g36_n,v36_n_0,v36_n_1,c36_n_1,v36_n_4,v36_n_6⟩, -,rfl,rfl⟩;refine jW ?_;intro iv36_n_0 hmv36_n_0;refine i5 2 rfl ?_;intro iv36_n_1 hmv36_n_1;refine fN 3 rfl ?_;intro iv36_n_4 hmv36_n_4;refine fN 4 rfl ?_;intro iv36_n_6 hmv36_n_6;refine hN ?_;refine eR ?_;have hq:=dm hk;clear hk;obtain ⟨r44,hr44,hk⟩:=hq; (try dsimp only at hk);refine eo ?_;refine cU (eP 9) ?_;refine dr ?_;refine cZ (dg 5 rfl rfl rfl rfl (fun w hw hF=>zgi _ w hF l vl hl bidders vbidders cbidders hbidders i key vkey hkey fuel r44 hr44)) ?_;rintro _ _ ⟨⟨v44_0_0,v44_0_1,cs44_0_1,v44_0_4,v44_0_5⟩,F2,le1_2,⟨hf44_0_0,hf44_0_1,hf44_0_4,hf44_0_5⟩,rfl,rfl⟩;dsimp only at hf44_0_0 hf44_0_1 hf44_0_4 hf44_0_5 ⊢;haveI:=hf44_0_0.oneC;haveI:=hf44_0_1.1.oneC;haveI:=hf44_0_4.oneC;haveI:=hf44_0_5.oneC;refine kb ?_;rintro _ _ ⟨g14,rfl,rfl⟩;refine fx ?_;refine jl ?_;refine kT ?_;refine T.cond rfl (fun h3=>?_) (fun h3=>?_)
   ·have p3:=of_decide_eq_true h3;replace hk:=dj hk h3;refine gw ?_;obtain rfl:=Option.some.inj hk;exact dS
   ·have p3:=of_decide_eq_false h3;replace hk:=di hk h3;refine il ?_;refine iZ ?_;refine T.cond rfl (fun h4=>?_) (fun h4=>?_)
    ·have p4:=of_decide_eq_true h4;replace hk:=dj hk h4;refine T.seq ?_;refine c9 (ι:=Unit) (fun z=>[(8, .bool false)]) (fun z=>[.row g14 51 [v44_0_0,v44_0_1, .int .i64 r44.1.Increment.Activity, .int .i64 r44.1.Increment.Step,v44_0_4,v44_0_5, .int .i64 r44.1.Rounds], .row g36_n 104 [v36_n_0,v36_n_1, .int .i64 ((r36.1.getD default).increment.Activity), .int .i64 ((r36.1.getD default).increment.Step),v36_n_4, .int .i64 ((r36.1.getD default).rounds),v36_n_6], .sl v36_n_0 55 5 ((r36.1.getD default).catalogue).length (((r36.1.getD default).catalogue).flatMap cV),dE 57 3 v36_n_1 c36_n_1 ((r36.1.getD default).bidders), .sl v36_n_4 5 1 ((r36.1.getD default).key).length (((r36.1.getD default).key).flatMap (eK .u8)), .sl v36_n_6 3 1 ((r36.1.getD default).prices).length (((r36.1.getD default).prices).flatMap eI), .sl v30 5 1 ([]++key).length (([]++key).flatMap (eK .u8)),dE 57 3 v28_ c28_ bidders, .sl v26 55 5 ([]++l).length (([]++l).flatMap cV), .row g6 23 [.int .i64 i.Activity, .int .i64 i.Step], .fr F2]) (fun z=>True) ?_ ?_
     ·refine ec ?_;refine q3Z ?_;refine iz ?_;refine K.pick [0,1,2,3,4,5,7,8,9,10,6] rfl a8 ?_;exact q4W
     ·rintro _ _;refine T.ret (gC ?_);obtain rfl:=Option.some.inj hk;exact dS
    ·have p4:=of_decide_eq_false h4;replace hk:=di hk h4;refine il ?_;refine dJ ?_;have hq:=dP hk;clear hk;obtain ⟨k6,hk6,hk⟩:=hq; (try dsimp only at hk);refine c9 (ι:=List GProduct) (fun z=>[(10,v28_),(12, .pointer (some ⟨g36_n,0,none⟩)),(14, .pointer (some ⟨g14,0,none⟩))]) (fun z=>[.sl v26 55 5 z.length (z.flatMap cV), .row g14 51 [v44_0_0,v44_0_1, .int .i64 r44.1.Increment.Activity, .int .i64 r44.1.Increment.Step,v44_0_4,v44_0_5, .int .i64 r44.1.Rounds], .row g36_n 104 [v36_n_0,v36_n_1, .int .i64 ((r36.1.getD default).increment.Activity), .int .i64 ((r36.1.getD default).increment.Step),v36_n_4, .int .i64 ((r36.1.getD default).rounds),v36_n_6], .sl v36_n_0 55 5 ((r36.1.getD default).catalogue).length (((r36.1.getD default).catalogue).flatMap cV),dE 57 3 v36_n_1 c36_n_1 ((r36.1.getD default).bidders), .sl v36_n_4 5 1 ((r36.1.getD default).key).length (((r36.1.getD default).key).flatMap (eK .u8)), .sl v36_n_6 3 1 ((r36.1.getD default).prices).length (((r36.1.getD default).prices).flatMap eI),dE 57 3 v28_ c28_ bidders, .fr F2]) (fun z=>k6 z=some r) ?_ ?_
     ·have hq:=ib hk;clear hk;obtain ⟨f9,hf9,hk⟩:=hq;refine ed ?_;refine T.pick [9,0,1,2,3,4,5,8,6] rfl a8 ?_;refine T.loop (ι:=Nat×Int×List GProduct) (fun z=>[(9,v26),(10,v28_),(12, .pointer (some ⟨g36_n,0,none⟩)),(14, .pointer (some ⟨g14,0,none⟩)),(16, .int .i64 z.2.1)]) (fun z=>[.sl v26 55 5 z.2.2.length (z.2.2.flatMap cV), .row g14 51 [v44_0_0,v44_0_1, .int .i64 r44.1.Increment.Activity, .int .i64 r44.1.Increment.Step,v44_0_4,v44_0_5, .int .i64 r44.1.Rounds], .row g36_n 104 [v36_n_0,v36_n_1, .int .i64 ((r36.1.getD default).increment.Activity), .int .i64 ((r36.1.getD default).increment.Step),v36_n_4, .int .i64 ((r36.1.getD default).rounds),v36_n_6], .sl v36_n_0 55 5 ((r36.1.getD default).catalogue).length (((r36.1.getD default).catalogue).flatMap cV),dE 57 3 v36_n_1 c36_n_1 ((r36.1.getD default).bidders), .sl v36_n_4 5 1 ((r36.1.getD default).key).length (((r36.1.getD default).key).flatMap (eK .u8)), .sl v36_n_6 3 1 ((r36.1.getD default).prices).length (((r36.1.getD default).prices).flatMap eI),dE 57 3 v28_ c28_ bidders, .fr F2]) (fun z=>ej f9 z.1 (z.2.1,z.2.2)=some r) (fun z=>z.1) (fuel,0,([]++l)) ?_ ?_ ?_ ?_
      ·exact hk
      ·exact iS
      ·exact eb
      ·rintro ⟨m_10,i_7,l_8⟩ hk; (try dsimp only at *);have hq:=ie hk;clear hk;obtain ⟨m_10',rfl,hk⟩:=hq;generalize hn9:ej f9 m_10'=next9 at hk;rw [←hf9] at hk; (try dsimp only at hk);refine hD ?_;refine cU (fo 0 rfl rfl rfl) ?_;refine i8 ?_;intro _ hm59;refine dJ ?_;refine T.cond rfl (fun h11=>?_) (fun h11=>?_)
       ·have p11:=of_decide_eq_true h11;replace hk:=dj hk h11;refine kK ?_;have hq:(0≤i_7∧i_7<(l_8.length:Int))∧_:=dp hk;clear hk;obtain ⟨g65,hk⟩:=hq; (try dsimp only at hk);refine eo ?_;refine cU (dA 0 (i:=i_7.toNat) rfl rfl rfl rfl a7 a7) ?_;refine cU (gN 0 rfl rfl rfl a7) ?_;refine cU (dX 0 rfl rfl rfl a7 (gl (enc:=cV) (i:=i_7.toNat) (j:=2) GProduct.len a7 a8)) ?_;refine cU (dd (v:= .int .i64 (wI (((cS l_8 i_7.toNat).Supply)+1)))) ?_;refine cU (dA 0 (i:=i_7.toNat) rfl rfl rfl rfl a7 a7) ?_;refine cU (gN 0 rfl rfl rfl a7) ?_;refine dz (ef 0 (k':=(l_8.set i_7.toNat (GProduct.mk ((cS l_8 i_7.toNat).Area) ((cS l_8 i_7.toNat).Category) (wI (((cS l_8 i_7.toNat).Supply)+1)) ((cS l_8 i_7.toNat).Units) ((cS l_8 i_7.toNat).Reserve))).length) (l':=(l_8.set i_7.toNat (GProduct.mk ((cS l_8 i_7.toNat).Area) ((cS l_8 i_7.toNat).Category) (wI (((cS l_8 i_7.toNat).Supply)+1)) ((cS l_8 i_7.toNat).Units) ((cS l_8 i_7.toNat).Reserve))).flatMap cV) rfl rfl rfl rfl a7 (gD (i:=i_7.toNat) (j:=2) GProduct.len a7 a8 a7) (gF (i:=i_7.toNat) (j:=2) (x:=(GProduct.mk ((cS l_8 i_7.toNat).Area) ((cS l_8 i_7.toNat).Category) (wI (((cS l_8 i_7.toNat).Supply)+1)) ((cS l_8 i_7.toNat).Units) ((cS l_8 i_7.toNat).Reserve))) GProduct.len a7 a8 a7 rfl) (List.length_set ..)) ?_;refine dU ?_;refine q0H ?_;refine q2d ?_;rw [←hn9] at hk;exact K.next (m_10',(i_7+1),(l_8.set i_7.toNat (GProduct.mk ((cS l_8 i_7.toNat).Area) ((cS l_8 i_7.toNat).Category) (wI (((cS l_8 i_7.toNat).Supply)+1)) ((cS l_8 i_7.toNat).Units) ((cS l_8 i_7.toNat).Reserve)))) hk b6 (.c (.c (.c (.c (.c .nil))))) (List.Sublist.refl _)
       ·have p11:=of_decide_eq_false h11;replace hk:=di hk h11;refine ek ?_;exact cY l_8 hk (.c (.c (.c .nil))) (List.Sublist.refl _)
     ·rintro l_5 hk;rw [←hk6] at hk; (try dsimp only at hk);refine iu ?_;refine dJ ?_;have hq:=dP hk;clear hk;obtain ⟨k13,hk13,hk⟩:=hq; (try dsimp only at hk);refine c9 (ι:=List GBidder) (fun z=>[(12, .pointer (some ⟨g36_n,0,none⟩)),(14, .pointer (some ⟨g14,0,none⟩))]) (fun z=>[dE 57 3 v28_ c28_ z, .row g14 51 [v44_0_0,v44_0_1, .int .i64 r44.1.Increment.Activity, .int .i64 r44.1.Increment.Step,v44_0_4,v44_0_5, .int .i64 r44.1.Rounds], .row g36_n 104 [v36_n_0,v36_n_1, .int .i64 ((r36.1.getD default).increment.Activity), .int .i64 ((r36.1.getD default).increment.Step),v36_n_4, .int .i64 ((r36.1.getD default).rounds),v36_n_6], .sl v36_n_0 55 5 ((r36.1.getD default).catalogue).length (((r36.1.getD default).catalogue).flatMap cV),dE 57 3 v36_n_1 c36_n_1 ((r36.1.getD default).bidders), .sl v36_n_4 5 1 ((r36.1.getD default).key).length (((r36.1.getD default).key).flatMap (eK .u8)), .sl v36_n_6 3 1 ((r36.1.getD default).prices).length (((r36.1.getD default).prices).flatMap eI), .fr F2]) (fun z=>k13 z=some r) ?_ ?_
      ·have hq:=ib hk;clear hk;obtain ⟨f16,hf16,hk⟩:=hq;refine ed ?_;refine T.pick [7,1,2,3,4,5,6,8] rfl a8 ?_;refine T.loop (ι:=Nat×Int×List GBidder) (fun z=>[(10,v28_),(12, .pointer (some ⟨g36_n,0,none⟩)),(14, .pointer (some ⟨g14,0,none⟩)),(17, .int .i64 z.2.1)]) (fun z=>[dE 57 3 v28_ c28_ z.2.2, .row g14 51 [v44_0_0,v44_0_1, .int .i64 r44.1.Increment.Activity, .int .i64 r44.1.Increment.Step,v44_0_4,v44_0_5, .int .i64 r44.1.Rounds], .row g36_n 104 [v36_n_0,v36_n_1, .int .i64 ((r36.1.getD default).increment.Activity), .int .i64 ((r36.1.getD default).increment.Step),v36_n_4, .int .i64 ((r36.1.getD default).rounds),v36_n_6], .sl v36_n_0 55 5 ((r36.1.getD default).catalogue).length (((r36.1.getD default).catalogue).flatMap cV),dE 57 3 v36_n_1 c36_n_1 ((r36.1.getD default).bidders), .sl v36_n_4 5 1 ((r36.1.getD default).key).length (((r36.1.getD default).key).flatMap (eK .u8)), .sl v36_n_6 3 1 ((r36.1.getD default).prices).length (((r36.1.getD default).prices).flatMap eI), .fr F2]) (fun z=>ej f16 z.1 (z.2.1,z.2.2)=some r) (fun z=>z.1) (fuel,0,bidders) ?_ ?_ ?_ ?_
       ·exact hk
       ·exact gR
       ·exact eb
       ·rintro ⟨m_17,i_14,l_15⟩ hk; (try dsimp only at *);have hq:=ie hk;clear hk;obtain ⟨m_17',rfl,hk⟩:=hq;generalize hn16:ej f16 m_17'=next16 at hk;rw [←hf16] at hk; (try dsimp only at hk);refine hD ?_;refine cU (eJ 0 rfl (fo 0 rfl rfl rfl)) ?_;refine i5 0 rfl ?_;intro _ hm73;refine dJ ?_;refine T.cond rfl (fun h18=>?_) (fun h18=>?_)
        ·have p18:=of_decide_eq_true h18;replace hk:=dj hk h18;refine lq ?_;have hq:(0≤i_14∧i_14<(l_15.length:Int))∧_:=dp hk;clear hk;obtain ⟨g79,hk⟩:=hq; (try dsimp only at hk);refine eo ?_;refine q1K ?_;refine cU (eJ 0 rfl (dX 0 rfl rfl rfl a7 (zdt (i:=i_14.toNat) (j:=1) a7 a8))) ?_;refine cU (dd (v:= .int .i64 (wI (((cS l_15 i_14.toNat).Eligibility)+1)))) ?_;refine q1K ?_;refine dz (Ew.bG 0 i_14.toNat 1 (x:=(GBidder.mk ((cS l_15 i_14.toNat).ID) (wI (((cS l_15 i_14.toNat).Eligibility)+1)) ((cS l_15 i_14.toNat).Waivers) (cS l_15 i_14.toNat).Blocks)) rfl rfl rfl rfl a7 a8 rfl rfl) ?_;refine dU ?_;refine ee ?_;refine dJ ?_;have hq:=ib hk;clear hk;obtain ⟨f21,hf21,hk⟩:=hq;refine ed ?_;refine T.loop (ι:=Nat×Int×List GBidder) (fun z=>[(10,v28_),(12, .pointer (some ⟨g36_n,0,none⟩)),(14, .pointer (some ⟨g14,0,none⟩)),(17, .int .i64 i_14),(18, .int .i64 z.2.1)]) (fun z=>[dE 57 3 v28_ c28_ z.2.2, .row g14 51 [v44_0_0,v44_0_1, .int .i64 r44.1.Increment.Activity, .int .i64 r44.1.Increment.Step,v44_0_4,v44_0_5, .int .i64 r44.1.Rounds], .row g36_n 104 [v36_n_0,v36_n_1, .int .i64 ((r36.1.getD default).increment.Activity), .int .i64 ((r36.1.getD default).increment.Step),v36_n_4, .int .i64 ((r36.1.getD default).rounds),v36_n_6], .sl v36_n_0 55 5 ((r36.1.getD default).catalogue).length (((r36.1.getD default).catalogue).flatMap cV),dE 57 3 v36_n_1 c36_n_1 ((r36.1.getD default).bidders), .sl v36_n_4 5 1 ((r36.1.getD default).key).length (((r36.1.getD default).key).flatMap (eK .u8)), .sl v36_n_6 3 1 ((r36.1.getD default).prices).length (((r36.1.getD default).prices).flatMap eI), .fr F2]) (fun z=>ej f21 z.1 (z.2.1,z.2.2)=some r) (fun z=>z.1) (fuel,0,(l_15.set i_14.toNat (GBidder.mk ((cS l_15 i_14.toNat).ID) (wI (((cS l_15 i_14.toNat).Eligibility)+1)) ((cS l_15 i_14.toNat).Waivers) (cS l_15 i_14.toNat).Blocks))) ?_ ?_ ?_ ?_
         ·exact hk
         ·exact iS
         ·exact eb
         ·rintro ⟨m_22,n_19,l_20⟩ hk; (try dsimp only at *);have hq:=ie hk;clear hk;obtain ⟨m_22',rfl,hk⟩:=hq;generalize hn21:ej f21 m_22'=next21 at hk;rw [←hf21] at hk; (try dsimp only at hk);refine T.seq (T.seq ?_);have hq:(0≤i_14∧i_14<(l_20.length:Int))∧_:=dp hk;clear hk;obtain ⟨g88,hk⟩:=hq; (try dsimp only at hk);refine gI ?_;refine q1K ?_;refine hC 0 i_14.toNat rfl a7 ?_;intro hoi90 hmi90;refine cU (eJ 0 rfl (dX 0 rfl rfl rfl a7 (zdt (i:=i_14.toNat) (j:=3) a7 a8))) ?_;refine cU (fW 0 i_14.toNat rfl a7 (fo 0 rfl rfl rfl)) ?_;refine hC 0 i_14.toNat rfl a7 ?_;intro _ hm91;refine dJ ?_;refine T.cond rfl (fun h23=>?_) (fun h23=>?_)
          ·have p23:=of_decide_eq_true h23;replace hk:=dj hk h23;refine kK ?_;have hq:(0≤n_19∧n_19<(((cS l_20 i_14.toNat).Blocks).length:Int))∧_:=dp hk;clear hk;obtain ⟨g101,hk⟩:=hq; (try dsimp only at hk);refine eo ?_;refine q1K ?_;refine hC 0 i_14.toNat rfl a7 ?_;intro hoi99 hmi99;refine cU (eJ 0 rfl (dX 0 rfl rfl rfl a7 (zdt (i:=i_14.toNat) (j:=3) a7 a8))) ?_;refine dr ?_;refine cU (fW 0 i_14.toNat rfl a7 (dA 0 (i:=n_19.toNat) rfl rfl rfl rfl a7 a7)) ?_;refine cU (fW 0 i_14.toNat rfl a7 (dX 0 rfl rfl rfl a7 (gl (enc:=eI) (i:=n_19.toNat) (j:=0) (fun _=>rfl) a7 a8))) ?_;refine cU (dd (v:= .int .i64 (wI ((cS ((cS l_20 i_14.toNat).Blocks) n_19.toNat)+1)))) ?_;refine cU (fW 0 i_14.toNat rfl a7 (dA 0 (i:=n_19.toNat) rfl rfl rfl rfl a7 a7)) ?_;refine dz (lk 0 i_14.toNat n_19.toNat rfl rfl rfl rfl a7 a7 rfl) ?_;refine dU ?_;refine q0H ?_;refine q2d ?_;rw [←hn21] at hk;exact K.next (m_22',(n_19+1),(l_20.set i_14.toNat { (cS l_20 i_14.toNat) with Blocks:=(cS l_20 i_14.toNat).Blocks.set n_19.toNat (wI ((cS ((cS l_20 i_14.toNat).Blocks) n_19.toNat)+1)) })) hk b6 (.c (.c (.c (.c (.c .nil))))) (List.Sublist.refl _)
          ·have p23:=of_decide_eq_false h23;replace hk:=di hk h23;refine q2C ?_;refine q2d ?_;rw [←hn16] at hk;exact K.next (m_17',(i_14+1),l_20) hk b6 (.c (.c (.c (.c .nil)))) (List.Sublist.refl _)
        ·have p18:=of_decide_eq_false h18;replace hk:=di hk h18;refine ek ?_;exact cY l_15 hk (.c (.c .nil)) (List.Sublist.refl _)
      ·rintro l_12 hk;rw [←hk13] at hk; (try dsimp only at hk);refine T.seq ?_;refine gP (fun w hw=>hw.freezeS (i:=7) (j:=3) a8 rfl rfl) ?_;rintro F3 ⟨le2_3,hz3⟩;refine eH ?_;have le1_3:=le1_2.trans le2_3;have hfF3:=hz3.toF rfl GProduct.len;haveI:=hfF3.oneC;refine gP (fun w hw=>hw.freezeBd (i:=6) (j:=3) a8 rfl rfl) ?_;rintro F4 ⟨le3_4,hfF4⟩;refine eH ?_;have le1_4:=le1_3.trans le3_4;have le2_4:=le2_3.trans le3_4;haveI:=hfF4.1.oneC;refine gP (fun w hw=>hw.freezeS (i:=5) (j:=3) a8 rfl rfl) ?_;rintro F5 ⟨le4_5,hz5⟩;refine eH ?_;have le1_5:=le1_4.trans le4_5;have le2_5:=le2_4.trans le4_5;have le3_5:=le3_4.trans le4_5;have hfF5:=hz5.toF rfl (fun _=>rfl);haveI:=hfF5.oneC;refine gP (fun w hw=>hw.freezeS (i:=4) (j:=3) a8 rfl rfl) ?_;rintro F6 ⟨le5_6,hz6⟩;refine eH ?_;have le1_6:=le1_5.trans le5_6;have le2_6:=le2_5.trans le5_6;have le3_6:=le3_5.trans le5_6;have le4_6:=le4_5.trans le5_6;have hfF6:=hz6.toF rfl (fun _=>rfl);haveI:=hfF6.oneC;have hq:=dm hk;clear hk;obtain ⟨r107,hr107,hk⟩:=hq; (try dsimp only at hk);have hq:=dP hk;clear hk;obtain ⟨k25,hk25,hk⟩:=hq; (try dsimp only at hk);refine c9 (ι:=Bool×FzB w (fun _=>False) S0) (fun z=>[(8, .bool z.1)]) (fun z=>[.fr z.2]) (fun z=>k25 z.1=some r∧F6.toFrz.Le z.2.toFrz) ?_ ?_
       ·refine ec ?_;refine jZ ?_;refine cZ (dV [2,3,0,1] [.row g36_n 104 [v36_n_0,v36_n_1, .int .i64 ((r36.1.getD default).increment.Activity), .int .i64 ((r36.1.getD default).increment.Step),v36_n_4, .int .i64 ((r36.1.getD default).rounds),v36_n_6]] [dE 57 3 v28_ c28_ l_12, .row g14 51 [v44_0_0,v44_0_1, .int .i64 r44.1.Increment.Activity, .int .i64 r44.1.Increment.Step,v44_0_4,v44_0_5, .int .i64 r44.1.Rounds]] rfl rfl rfl rfl a8 (fun w hw hw2 hF=>zhw _ w hF (r36.1.getD default) g36_n v36_n_0 (SlC.mono hfF3 le3_6) v36_n_1 (ft ((r36.1.getD default).bidders) c36_n_1) (SlD.mono (rep:=cT) (fun _ _ _ _=>GBidder.mono) hfF4 le4_6) v36_n_4 (SlC.mono hfF5 le5_6) v36_n_6 hfF6 r44.1 v44_0_0 (SlC.mono hf44_0_0 le2_6) v44_0_1 cs44_0_1 (SlD.mono (rep:=cT) (fun _ _ _ _=>GBidder.mono) hf44_0_1 le2_6) v44_0_4 (SlC.mono hf44_0_4 le2_6) v44_0_5 (SlC.mono hf44_0_5 le2_6) hw2.takes.1 hw2.takes.2 fuel r107 hr107)) ?_;rintro _ _ ⟨⟨⟩,F8,le6_8, -,rfl,rfl⟩;refine eG ?_;have le1_8:=le1_6.trans le6_8;refine dr ?_;refine db rfl rfl rfl (fun h26=>?_) (fun h26=>?_)
        ·replace hk:=dj hk h26;have hq:=dm hk;clear hk;obtain ⟨r109,hr109,hk⟩:=hq;refine cZ (da rfl rfl rfl (fun w hw=>zeX _ w (hw.fr (i:=1) rfl) (hgl.mono le1_8) fuel r109 hr109)) ?_;refine jB ?_;refine jf ?_;exact cY (r109,F8) ⟨hk,le6_8⟩ (.c .nil) (List.Sublist.refl _)
        ·replace hk:=di hk h26;refine fA ?_;refine e7 ?_;refine jf ?_;exact cY (false,F8) ⟨hk,le6_8⟩ (.c .nil) (List.Sublist.refl _)
       ·rintro ⟨x_24,F7⟩ ⟨hk,le6_7⟩; (try dsimp only at *);rw [←hk25] at hk; (try dsimp only at hk);refine T.ret ?_;obtain rfl:=Option.some.inj hk;exact dS
  ·replace hk:=di hk h2;refine eo ?_;refine q32 ?_;refine dr ?_;refine cZ (dB [4,0,1,2,3] [] [.sl v30 5 1 (([]:List Int)++key).length ((([]:List Int)++key).flatMap (eK .u8)),dE 57 3 v28_ c28_ bidders, .sl v26 55 5 (([]:List GProduct)++l).length ((([]:List GProduct)++l).flatMap cV), .row g6 23 [.int .i64 i.Activity, .int .i64 i.Step]] rfl rfl rfl rfl a8 (fun w hw hw2 hF=>(hw.bor3 4 2 1 0 rfl rfl rfl rfl).elim fun F9 b=>((zfu F9 w b.2.1 ([]++l) v26 (b.2.2.1.toF rfl GProduct.len) bidders v28_ (ft bidders c28_) b.2.2.2.1 i ([]++key) v30 (b.2.2.2.2.toF rfl (fun _=>rfl)) r36 hr36).mono (fun e w' hp=>hp.2 h2)).mono (fun e w9 ⟨y9,G9,fa9,he9,hx9⟩=>⟨y9,fa9,he9,hx9.weak.back b.1⟩))) ?_;rintro _ _ ⟨⟨⟩, -,rfl,rfl⟩;refine eG ?_;refine hN ?_;refine eR ?_;have hq:=dm hk;clear hk;obtain ⟨r44,hr44,hk⟩:=hq; (try dsimp only at hk);refine eo ?_;refine cU (eP 4) ?_;refine dr ?_;refine cZ (dg 0 rfl rfl rfl rfl (fun w hw hF=>zgi _ w hF l vl hl bidders vbidders cbidders hbidders i key vkey hkey fuel r44 hr44)) ?_;rintro _ _ ⟨⟨v44_0_0,v44_0_1,cs44_0_1,v44_0_4,v44_0_5⟩,F9,le1_9,⟨hf44_0_0,hf44_0_1,hf44_0_4,hf44_0_5⟩,rfl,rfl⟩;dsimp only at hf44_0_0 hf44_0_1 hf44_0_4 hf44_0_5 ⊢;haveI:=hf44_0_0.oneC;haveI:=hf44_0_1.1.oneC;haveI:=hf44_0_4.oneC;haveI:=hf44_0_5.oneC;refine kb ?_;rintro _ _ ⟨g14,rfl,rfl⟩;refine fx ?_;refine jl ?_;refine kT ?_;refine T.cond rfl (fun h27=>?_) (fun h27=>?_)
   ·have p27:=of_decide_eq_true h27;replace hk:=dj hk h27;refine gw ?_;obtain rfl:=Option.some.inj hk;exact dS
   ·have p27:=of_decide_eq_false h27;replace hk:=di hk h27;refine il ?_;refine iZ ?_;refine T.cond rfl (fun h28=>?_) (fun h28=>?_)
    ·have p28:=of_decide_eq_true h28;replace hk:=dj hk h28;refine T.seq ?_; (try dsimp only at hk);have hq:=dP hk;clear hk;obtain ⟨k30,hk30,hk⟩:=hq; (try dsimp only at hk);refine c9 (ι:=Bool) (fun z=>[(8, .bool z)]) (fun z=>[.fr F9]) (fun z=>k30 z=some r) ?_ ?_
     ·refine ec ?_;refine q3Z ?_;refine dr ?_;have hq:=dm hk;clear hk;obtain ⟨r55,hr55,hk⟩:=hq;refine cZ (da rfl rfl rfl (fun w hw=>zeX _ w (hw.fr (i:=1) rfl) (hgl.mono le1_9) fuel r55 hr55)) ?_;refine jB ?_;refine jf ?_;exact cY r55 hk (.c .nil) (List.Sublist.refl _)
     ·rintro x_29 hk;rw [←hk30] at hk; (try dsimp only at hk);refine T.ret (gC ?_);obtain rfl:=Option.some.inj hk;exact dS
    ·have p28:=of_decide_eq_false h28;replace hk:=di hk h28;refine il ?_;refine dJ ?_;have hq:=dP hk;clear hk;obtain ⟨k32,hk32,hk⟩:=hq; (try dsimp only at hk);refine c9 (ι:=List GProduct) (fun z=>[(10,v28_),(12, .pointer none),(14, .pointer (some ⟨g14,0,none⟩))]) (fun z=>[.sl v26 55 5 z.length (z.flatMap cV), .row g14 51 [v44_0_0,v44_0_1, .int .i64 r44.1.Increment.Activity, .int .i64 r44.1.Increment.Step,v44_0_4,v44_0_5, .int .i64 r44.1.Rounds],dE 57 3 v28_ c28_ bidders, .fr F9]) (fun z=>k32 z=some r) ?_ ?_
     ·have hq:=ib hk;clear hk;obtain ⟨f35,hf35,hk⟩:=hq;refine ed ?_;refine T.pick [4,0,3,1] rfl a8 ?_;refine T.loop (ι:=Nat×Int×List GProduct) (fun z=>[(9,v26),(10,v28_),(12, .pointer none),(14, .pointer (some ⟨g14,0,none⟩)),(16, .int .i64 z.2.1)]) (fun z=>[.sl v26 55 5 z.2.2.length (z.2.2.flatMap cV), .row g14 51 [v44_0_0,v44_0_1, .int .i64 r44.1.Increment.Activity, .int .i64 r44.1.Increment.Step,v44_0_4,v44_0_5, .int .i64 r44.1.Rounds],dE 57 3 v28_ c28_ bidders, .fr F9]) (fun z=>ej f35 z.1 (z.2.1,z.2.2)=some r) (fun z=>z.1) (fuel,0,([]++l)) ?_ ?_ ?_ ?_
      ·exact hk
      ·exact iS
      ·exact eb
      ·rintro ⟨m_36,i_33,l_34⟩ hk; (try dsimp only at *);have hq:=ie hk;clear hk;obtain ⟨m_36',rfl,hk⟩:=hq;generalize hn35:ej f35 m_36'=next35 at hk;rw [←hf35] at hk; (try dsimp only at hk);refine hD ?_;refine cU (fo 0 rfl rfl rfl) ?_;refine i8 ?_;intro _ hm59;refine dJ ?_;refine T.cond rfl (fun h37=>?_) (fun h37=>?_)
       ·have p37:=of_decide_eq_true h37;replace hk:=dj hk h37;refine kK ?_;have hq:(0≤i_33∧i_33<(l_34.length:Int))∧_:=dp hk;clear hk;obtain ⟨g65,hk⟩:=hq; (try dsimp only at hk);refine eo ?_;refine cU (dA 0 (i:=i_33.toNat) rfl rfl rfl rfl a7 a7) ?_;refine cU (gN 0 rfl rfl rfl a7) ?_;refine cU (dX 0 rfl rfl rfl a7 (gl (enc:=cV) (i:=i_33.toNat) (j:=2) GProduct.len a7 a8)) ?_;refine cU (dd (v:= .int .i64 (wI (((cS l_34 i_33.toNat).Supply)+1)))) ?_;refine cU (dA 0 (i:=i_33.toNat) rfl rfl rfl rfl a7 a7) ?_;refine cU (gN 0 rfl rfl rfl a7) ?_;refine dz (ef 0 (k':=(l_34.set i_33.toNat (GProduct.mk ((cS l_34 i_33.toNat).Area) ((cS l_34 i_33.toNat).Category) (wI (((cS l_34 i_33.toNat).Supply)+1)) ((cS l_34 i_33.toNat).Units) ((cS l_34 i_33.toNat).Reserve))).length) (l':=(l_34.set i_33.toNat (GProduct.mk ((cS l_34 i_33.toNat).Area) ((cS l_34 i_33.toNat).Category) (wI (((cS l_34 i_33.toNat).Supply)+1)) ((cS l_34 i_33.toNat).Units) ((cS l_34 i_33.toNat).Reserve))).flatMap cV) rfl rfl rfl rfl a7 (gD (i:=i_33.toNat) (j:=2) GProduct.len a7 a8 a7) (gF (i:=i_33.toNat) (j:=2) (x:=(GProduct.mk ((cS l_34 i_33.toNat).Area) ((cS l_34 i_33.toNat).Category) (wI (((cS l_34 i_33.toNat).Supply)+1)) ((cS l_34 i_33.toNat).Units) ((cS l_34 i_33.toNat).Reserve))) GProduct.len a7 a8 a7 rfl) (List.length_set ..)) ?_;refine dU ?_;refine q0H ?_;refine q2d ?_;rw [←hn35] at hk;exact K.next (m_36',(i_33+1),(l_34.set i_33.toNat (GProduct.mk ((cS l_34 i_33.toNat).Area) ((cS l_34 i_33.toNat).Category) (wI (((cS l_34 i_33.toNat).Supply)+1)) ((cS l_34 i_33.toNat).Units) ((cS l_34 i_33.toNat).Reserve)))) hk b6 (.c (.c (.c (.c (.c .nil))))) (List.Sublist.refl _)
       ·have p37:=of_decide_eq_false h37;replace hk:=di hk h37;refine ek ?_;exact cY l_34 hk (.c (.c (.c .nil))) (List.Sublist.refl _)
     ·rintro l_31 hk;rw [←hk32] at hk; (try dsimp only at hk);refine iu ?_;refine dJ ?_;have hq:=dP hk;clear hk;obtain ⟨k39,hk39,hk⟩:=hq; (try dsimp only at hk);refine c9 (ι:=List GBidder) (fun z=>[(12, .pointer none),(14, .pointer (some ⟨g14,0,none⟩))]) (fun z=>[dE 57 3 v28_ c28_ z, .row g14 51 [v44_0_0,v44_0_1, .int .i64 r44.1.Increment.Activity, .int .i64 r44.1.Increment.Step,v44_0_4,v44_0_5, .int .i64 r44.1.Rounds], .fr F9]) (fun z=>k39 z=some r) ?_ ?_
      ·have hq:=ib hk;clear hk;obtain ⟨f42,hf42,hk⟩:=hq;refine ed ?_;refine T.pick [2,1,3] rfl a8 ?_;refine T.loop (ι:=Nat×Int×List GBidder) (fun z=>[(10,v28_),(12, .pointer none),(14, .pointer (some ⟨g14,0,none⟩)),(17, .int .i64 z.2.1)]) (fun z=>[dE 57 3 v28_ c28_ z.2.2, .row g14 51 [v44_0_0,v44_0_1, .int .i64 r44.1.Increment.Activity, .int .i64 r44.1.Increment.Step,v44_0_4,v44_0_5, .int .i64 r44.1.Rounds], .fr F9]) (fun z=>ej f42 z.1 (z.2.1,z.2.2)=some r) (fun z=>z.1) (fuel,0,bidders) ?_ ?_ ?_ ?_
       ·exact hk
       ·exact gR
       ·exact eb
       ·rintro ⟨m_43,i_40,l_41⟩ hk; (try dsimp only at *);have hq:=ie hk;clear hk;obtain ⟨m_43',rfl,hk⟩:=hq;generalize hn42:ej f42 m_43'=next42 at hk;rw [←hf42] at hk; (try dsimp only at hk);refine hD ?_;refine cU (eJ 0 rfl (fo 0 rfl rfl rfl)) ?_;refine i5 0 rfl ?_;intro _ hm73;refine dJ ?_;refine T.cond rfl (fun h44=>?_) (fun h44=>?_)
        ·have p44:=of_decide_eq_true h44;replace hk:=dj hk h44;refine lq ?_;have hq:(0≤i_40∧i_40<(l_41.length:Int))∧_:=dp hk;clear hk;obtain ⟨g79,hk⟩:=hq; (try dsimp only at hk);refine eo ?_;refine q1P ?_;refine cU (eJ 0 rfl (dX 0 rfl rfl rfl a7 (zdt (i:=i_40.toNat) (j:=1) a7 a8))) ?_;refine cU (dd (v:= .int .i64 (wI (((cS l_41 i_40.toNat).Eligibility)+1)))) ?_;refine q1P ?_;refine dz (Ew.bG 0 i_40.toNat 1 (x:=(GBidder.mk ((cS l_41 i_40.toNat).ID) (wI (((cS l_41 i_40.toNat).Eligibility)+1)) ((cS l_41 i_40.toNat).Waivers) (cS l_41 i_40.toNat).Blocks)) rfl rfl rfl rfl a7 a8 rfl rfl) ?_;refine dU ?_;refine ee ?_;refine dJ ?_;have hq:=ib hk;clear hk;obtain ⟨f47,hf47,hk⟩:=hq;refine ed ?_;refine T.loop (ι:=Nat×Int×List GBidder) (fun z=>[(10,v28_),(12, .pointer none),(14, .pointer (some ⟨g14,0,none⟩)),(17, .int .i64 i_40),(18, .int .i64 z.2.1)]) (fun z=>[dE 57 3 v28_ c28_ z.2.2, .row g14 51 [v44_0_0,v44_0_1, .int .i64 r44.1.Increment.Activity, .int .i64 r44.1.Increment.Step,v44_0_4,v44_0_5, .int .i64 r44.1.Rounds], .fr F9]) (fun z=>ej f47 z.1 (z.2.1,z.2.2)=some r) (fun z=>z.1) (fuel,0,(l_41.set i_40.toNat (GBidder.mk ((cS l_41 i_40.toNat).ID) (wI (((cS l_41 i_40.toNat).Eligibility)+1)) ((cS l_41 i_40.toNat).Waivers) (cS l_41 i_40.toNat).Blocks))) ?_ ?_ ?_ ?_
         ·exact hk
         ·exact iS
         ·exact eb
         ·rintro ⟨m_48,n_45,l_46⟩ hk; (try dsimp only at *);have hq:=ie hk;clear hk;obtain ⟨m_48',rfl,hk⟩:=hq;generalize hn47:ej f47 m_48'=next47 at hk;rw [←hf47] at hk; (try dsimp only at hk);refine T.seq (T.seq ?_);have hq:(0≤i_40∧i_40<(l_46.length:Int))∧_:=dp hk;clear hk;obtain ⟨g88,hk⟩:=hq; (try dsimp only at hk);refine gI ?_;refine q1P ?_;refine hC 0 i_40.toNat rfl a7 ?_;intro hoi90 hmi90;refine cU (eJ 0 rfl (dX 0 rfl rfl rfl a7 (zdt (i:=i_40.toNat) (j:=3) a7 a8))) ?_;refine cU (fW 0 i_40.toNat rfl a7 (fo 0 rfl rfl rfl)) ?_;refine hC 0 i_40.toNat rfl a7 ?_;intro _ hm91;refine dJ ?_;refine T.cond rfl (fun h49=>?_) (fun h49=>?_)
          ·have p49:=of_decide_eq_true h49;replace hk:=dj hk h49;refine kK ?_;have hq:(0≤n_45∧n_45<(((cS l_46 i_40.toNat).Blocks).length:Int))∧_:=dp hk;clear hk;obtain ⟨g101,hk⟩:=hq; (try dsimp only at hk);refine eo ?_;refine q1P ?_;refine hC 0 i_40.toNat rfl a7 ?_;intro hoi99 hmi99;refine cU (eJ 0 rfl (dX 0 rfl rfl rfl a7 (zdt (i:=i_40.toNat) (j:=3) a7 a8))) ?_;refine dr ?_;refine cU (fW 0 i_40.toNat rfl a7 (dA 0 (i:=n_45.toNat) rfl rfl rfl rfl a7 a7)) ?_;refine cU (fW 0 i_40.toNat rfl a7 (dX 0 rfl rfl rfl a7 (gl (enc:=eI) (i:=n_45.toNat) (j:=0) (fun _=>rfl) a7 a8))) ?_;refine cU (dd (v:= .int .i64 (wI ((cS ((cS l_46 i_40.toNat).Blocks) n_45.toNat)+1)))) ?_;refine cU (fW 0 i_40.toNat rfl a7 (dA 0 (i:=n_45.toNat) rfl rfl rfl rfl a7 a7)) ?_;refine dz (lk 0 i_40.toNat n_45.toNat rfl rfl rfl rfl a7 a7 rfl) ?_;refine dU ?_;refine q0H ?_;refine q2d ?_;rw [←hn47] at hk;exact K.next (m_48',(n_45+1),(l_46.set i_40.toNat { (cS l_46 i_40.toNat) with Blocks:=(cS l_46 i_40.toNat).Blocks.set n_45.toNat (wI ((cS ((cS l_46 i_40.toNat).Blocks) n_45.toNat)+1)) })) hk b6 (.c (.c (.c (.c (.c .nil))))) (List.Sublist.refl _)
          ·have p49:=of_decide_eq_false h49;replace hk:=di hk h49;refine q2C ?_;refine q2d ?_;rw [←hn42] at hk;exact K.next (m_43',(i_40+1),l_46) hk b6 (.c (.c (.c (.c .nil)))) (List.Sublist.refl _)
        ·have p44:=of_decide_eq_false h44;replace hk:=di hk h44;refine ek ?_;exact cY l_41 hk (.c (.c .nil)) (List.Sublist.refl _)
      ·rintro l_38 hk;rw [←hk39] at hk; (try dsimp only at hk);refine T.seq ?_;cases hk
theorem ziy (n:Nat):zcA (n+100)=some true:=by kernel_rfl
theorem zgl {fuel:Nat}(hf:100≤fuel):zcA fuel=some true:=by
 obtain ⟨n,rfl⟩:∃n,fuel=n+100:=⟨fuel - 100,by omega⟩;exact ziy n
theorem zjO {l:List GProduct}{bs:List GBidder}{key:List Int}{rounds:List (List GBid)}(h:zdn l bs key rounds=true):l.length≤10∧bs.length≤6∧key.length≤40∧rounds.length≤4:=by
 unfold zdn at h
 cases hc:((((decide (10<(l.length:Int)))||(decide (6<(bs.length:Int))))||(decide (40<(key.length:Int))))||(decide (4<(rounds.length:Int)))) with
 |true=>rw [hc] at h;cases h
 |false=>
  simp only [Bool.or_eq_false_iff,decide_eq_false_iff_not] at hc;omega
def kZ (l:List GProduct)(bs:List GBidder)(i:GIncrement)(key:List Int):GAuction:=⟨l,bs,⟨i.Activity,i.Step⟩,key,0,(List.range l.length).map fun j=>(cS l j).Reserve⟩
theorem zjp {bs:List GBidder}(hr:it bs)(hm:bs.length≤32):zb9 bs=some bs:=by
 unfold zb9;simp only [dF]
 rw [zdS (fun i=>cS bs i) (fun i next s hi hs=>by
  (have h1:df (cS bs i).Blocks.length 8:=by rw [ff hi];exact hr.2 _ (List.getElem_mem hi))
  rw [List.nil_append,fF h1,fF (by unfold df;rw [List.length_append,hs];simp;omega)])]
 refine congrArg some (ziL b8 fun j hj=>?_);rw [jD (by simpa using hj)]
def j6 (l:List GProduct)(bs:List GBidder)(i:GIncrement)(key:List Int)(r:Bool):Bool:=r&&kO i&&decide (1≤key.length)&&decide (key.length≤32)
theorem zjA {l : List GProduct} {bs : List GBidder} {i : GIncrement} {key : List Int} (hn : l.length ≤ 100) (hm : bs.length ≤ 32) (hk : key.length ≤ 100) (hr : it bs) {r : Bool} (h : kH l bs = some r) (hv : r = true → i2 l = true) :
    zda l bs i key = some (bif j6 l bs i key r then (some (kZ l bs i key), 0) else (none, 2)) := by
  unfold zda j6;simp only [dF]; rw [ji, Option.bind_some]; have e1 : zbj i = kO i := rfl
  cases hp : i2 l with
  | false =>
    cases r with
    | true => rw [hv rfl] at hp; cases hp
    | false => rfl
  | true =>
    rw [Bool.not_true, cond_false, h, Option.bind_some]
    cases r with
    | false => rfl
    | true =>
      rw [Bool.not_true, cond_false, e1, Bool.true_and]
      cases kO i with
      | false => rfl
      | true =>
        rw [Bool.not_true, cond_false, Bool.true_and]; by_cases h1 : (key.length : Int) < 1
        · rw [decide_eq_true h1, cond_true, cond_true, decide_eq_false (show ¬ 1 ≤ key.length by omega)]; rfl
        · rw [decide_eq_false h1, cond_false, decide_eq_true (show 1 ≤ key.length by omega), Bool.true_and]; by_cases h2 : (32 : Int) < key.length
          · rw [decide_eq_true h2, cond_true, decide_eq_false (show ¬ key.length ≤ 32 by omega)]; rfl
          · rw [decide_eq_false h2, cond_false, decide_eq_true (show key.length ≤ 32 by omega), cond_true, fF (by unfold df; omega), fF hr, fF (by unfold df; omega)]
            rw [zdS (fun j => (cS l j).Reserve) (fun j next s hj hs => by
              rw [fF (by unfold df; rw [List.length_append, hs]; simp; omega)])]
            rfl
theorem zi8 {fuel : Nat} {l : List GProduct} {bs : List GBidder} {i : GIncrement} {key : List Int} (hn : l.length ≤ 100) (hm : bs.length ≤ 32) (hk : key.length ≤ 100) (hr : it bs) {r : Bool} (h : zbu fuel l bs = some r) :
    ∃ x, zdU fuel l bs i key = some x ∧ (j6 l bs i key r = true → x = (jI (kZ l bs i key), 0)) ∧ (j6 l bs i key r = false → x.2 = 2) := by
  unfold zdU j6;simp only [dF]; rw [h, Option.bind_some]; by_cases hc : (r && kO i && decide (1 ≤ key.length) && decide (key.length ≤ 32)) = true
  · rw [hc]; simp only [Bool.and_eq_true, decide_eq_true_eq] at hc; obtain ⟨⟨⟨c1, c2⟩, c3⟩, c4⟩ := hc; rw [c1, c2, decide_eq_false a7, decide_eq_false a7]; rw [show (!true || !true || false || false) = false from rfl, cond_false, List.nil_append, fF (by unfold df; omega), zjp hr hm, Option.bind_some, List.nil_append, fF (by unfold df; omega)]
    rw [zdS (fun j => (cS l j).Reserve) (fun j next s hj hs => by
      rw [fF (by unfold df; rw [List.length_append, hs]; simp; omega)])]
    exact ⟨_, rfl, (fun _ => rfl), fun h => by cases h⟩
  · have hc2 := hc; rw [Bool.not_eq_true] at hc; rw [hc]
    have e : ((((!r) || (!(kO i))) || (decide ((key.length : Int) < 1))) || (decide (32 < (key.length : Int)))) = true := by
      rw [← Bool.not_eq_false]; intro h9; apply hc2; simp only [Bool.or_eq_false_iff, Bool.not_eq_false', decide_eq_false_iff_not] at h9;simp only [Bool.and_eq_true, decide_eq_true_eq]; exact ⟨⟨⟨h9.1.1.1, h9.1.1.2⟩, by omega⟩, by omega⟩
    rw [e, cond_true]; exact ⟨_, rfl, (fun h => by cases h), fun _ => rfl⟩
theorem ziW {l:List GProduct}{bs:List GBidder}{i:GIncrement}{key:List Int}(hv:Val l bs)(hr:it bs)(hi:kO i=true)(hk:1≤key.length):Good (kZ l bs i key):=by
 unfold kO at hi;simp only [Bool.and_eq_true,decide_eq_true_eq] at hi;refine ⟨hv,hk,by simp [kZ],fun j hj=>?_,by exact ⟨hi.1.2,hi.2⟩,hr⟩;have h1:=zhB hv.prods j hj;rw [zeR] at h1;unfold kZ at hj ⊢;dsimp only at hj ⊢;rw [jD hj];omega
theorem loop1 {K : List GProduct → Option Bool} {v : Option Bool} (hK : ∀ s, K s = v) (n : Nat) : ∀ (m : Nat) (i : Nat) (fu : Nat) (s : List GProduct), s.length = n → i + m = n → m + 1 ≤ fu → ej (fun (next9 : (Int × List GProduct) → Option Bool) (s9 : Int × List GProduct) =>
              (bif decide (s9.1 < (s9.2.length : Int)) then
                dl (0 ≤ s9.1 ∧ s9.1 < (s9.2.length : Int)) <|
                next9 ((s9.1 + 1), (s9.2.set s9.1.toNat (GProduct.mk ((cS s9.2 s9.1.toNat).Area) ((cS s9.2 s9.1.toNat).Category) (wI (((cS s9.2 s9.1.toNat).Supply) + 1)) ((cS s9.2 s9.1.toNat).Units) ((cS s9.2 s9.1.toNat).Reserve))))
                else
                K s9.2)) fu ((i : Int), s) = v := by
  intro m
  induction m with
  | zero =>
    intro i fu s hs e hfu; obtain ⟨fu, rfl⟩ : ∃ q, fu = q + 1 := ⟨fu - 1, by omega⟩; rw [zcF];dsimp only; rw [decide_eq_false a7, cond_false, hK]
  | succ m ih =>
    intro i fu s hs e hfu; obtain ⟨fu, rfl⟩ : ∃ q, fu = q + 1 := ⟨fu - 1, by omega⟩; rw [zcF];dsimp only; rw [decide_eq_true a7, cond_true, fF a7]; exact ih (i + 1) fu _ (by rw [List.length_set]; exact hs) a7 a7
theorem loop2 {K : List GBidder → Option Bool} {v : Option Bool} (hK : ∀ s, K s = v) (n c F : Nat) (hF : c + 1 ≤ F) : ∀ (m : Nat) (i : Nat) (fu : Nat) (s : List GBidder), s.length = n → (∀ x ∈ s, x.Blocks.length ≤ c) → i + m = n → m + 1 ≤ fu → ej (fun (next16 : (Int × List GBidder) → Option Bool) (s16 : Int × List GBidder) =>
                (bif decide (s16.1 < (s16.2.length : Int)) then
                  dl (0 ≤ s16.1 ∧ s16.1 < (s16.2.length : Int)) <|
                  ej (fun (next21 : (Int × List GBidder) → Option Bool) (s21 : Int × List GBidder) =>
                    dl (0 ≤ s16.1 ∧ s16.1 < (s21.2.length : Int)) <|
                    (bif decide (s21.1 < (((cS s21.2 s16.1.toNat).Blocks).length : Int)) then
                      dl (0 ≤ s21.1 ∧ s21.1 < (((cS s21.2 s16.1.toNat).Blocks).length : Int)) <|
                      next21 ((s21.1 + 1), (s21.2.set s16.1.toNat { (cS s21.2 s16.1.toNat) with Blocks := (cS s21.2 s16.1.toNat).Blocks.set s21.1.toNat (wI ((cS ((cS s21.2 s16.1.toNat).Blocks) s21.1.toNat) + 1)) }))
                      else
                      next16 ((s16.1 + 1), s21.2))) F (0, (s16.2.set s16.1.toNat (GBidder.mk ((cS s16.2 s16.1.toNat).ID) (wI (((cS s16.2 s16.1.toNat).Eligibility) + 1)) ((cS s16.2 s16.1.toNat).Waivers) (cS s16.2 s16.1.toNat).Blocks)))
                  else
                  K s16.2)) fu ((i : Int), s) = v := by
  intro m
  induction m with
  | zero =>
    intro i fu s hs hc e hfu; obtain ⟨fu, rfl⟩ : ∃ q, fu = q + 1 := ⟨fu - 1, by omega⟩; rw [zcF];dsimp only; rw [decide_eq_false a7, cond_false, hK]
  | succ m ih =>
    intro i fu s hs hc e hfu; obtain ⟨fu, rfl⟩ : ∃ q, fu = q + 1 := ⟨fu - 1, by omega⟩; rw [zcF];dsimp only; rw [decide_eq_true a7, cond_true, fF a7]; generalize hW : ej _ fu = W; (have hW2 : ∀ s', s'.length = n → (∀ x ∈ s', x.Blocks.length ≤ c) → W ((i : Int) + 1, s') = v := fun s' h1 h2 => by rw [← hW]; exact ih (i + 1) fu s' h1 h2 a7 a7); clear hW; rw [show ((i : Int)).toNat = i by omega]
    have inner : ∀ (q j fu : Nat) (s' : List GBidder), s'.length = n → (∀ x ∈ s', x.Blocks.length ≤ c) → j + q = (cS s' i).Blocks.length → q + 1 ≤ fu → ej (fun (next21 : (Int × List GBidder) → Option Bool) (s21 : Int × List GBidder) =>
                    dl (0 ≤ (i : Int) ∧ (i : Int) < (s21.2.length : Int)) <|
                    (bif decide (s21.1 < (((cS s21.2 i).Blocks).length : Int)) then
                      dl (0 ≤ s21.1 ∧ s21.1 < (((cS s21.2 i).Blocks).length : Int)) <|
                      next21 ((s21.1 + 1), (s21.2.set i { (cS s21.2 i) with Blocks := (cS s21.2 i).Blocks.set s21.1.toNat (wI ((cS ((cS s21.2 i).Blocks) s21.1.toNat) + 1)) }))
                      else
                      W (((i : Int) + 1), s21.2))) fu ((j : Int), s') = v := by
      intro q
      induction q with
      | zero =>
        intro j fu s' h1 h2 h3 hfu; obtain ⟨fu, rfl⟩ : ∃ q, fu = q + 1 := ⟨fu - 1, by omega⟩; rw [zcF];dsimp only; rw [fF a7, decide_eq_false a7, cond_false]; exact hW2 s' h1 h2
      | succ q ihq =>
        intro j fu s' h1 h2 h3 hfu; obtain ⟨fu, rfl⟩ : ∃ q, fu = q + 1 := ⟨fu - 1, by omega⟩; rw [zcF];dsimp only; rw [fF a7, decide_eq_true a7, cond_true, fF a7]; (have hi : i < s'.length := by omega); refine ihq (j + 1) fu _ (by rw [List.length_set]; exact h1) (fun x hx => ?_) ?_ a7
        · rcases List.mem_or_eq_of_mem_set hx with hx | rfl
          · exact h2 x hx
          · dsimp only; rw [List.length_set, ff hi]; exact h2 _ (List.getElem_mem hi)
        · rw [kq hi, if_pos rfl];dsimp only; rw [List.length_set]; omega
    (have hi : i < s.length := by omega); refine inner (cS s i).Blocks.length 0 F _ (by rw [List.length_set]; exact hs) (fun x hx => ?_) ?_ ?_
    · rcases List.mem_or_eq_of_mem_set hx with hx | rfl
      · exact hc x hx
      · dsimp only; rw [ff hi]; exact hc _ (List.getElem_mem hi)
    · rw [kq hi, if_pos rfl, Nat.zero_add]
    · have := hc _ (List.getElem_mem hi); rw [ff hi]; omega
theorem zh6 {fuel:Nat}(hf:100000≤fuel)(l:List GProduct)(bs:List GBidder)(i:GIncrement)(key:List Int)(hb:∀x∈bs,df x.Blocks.length 8):zcK fuel l bs i key=some true:=by
 unfold zcK
 cases hfew:zdn l bs key [] with
 |false=>
  rw [Bool.not_false,cond_true,zgl a7];rfl
 |true=>
  obtain ⟨f1,f2,f3,_⟩:=zjO hfew;have hroom:it bs:=⟨by unfold df;omega,hb⟩;rw [Bool.not_true,cond_false,List.nil_append,List.nil_append,fF (by unfold df;omega),fF hroom,fF (by unfold df;omega)];obtain ⟨r,hr1,hr2,hr3⟩:=zgm (fuel:=fuel) (l:=l) (bs:=bs) a7 a7 a7;rw [zjA a7 a7 a7 hroom hr1 (fun h=>(hr3 h).1),Option.bind_some];obtain ⟨x,hx1,hx2,hx3⟩:=zi8 (i:=i) (key:=key) (show l.length≤100 by omega) (show bs.length≤32 by omega) (show key.length≤100 by omega) hroom hr2;rw [hx1]
  cases hv:j6 l bs i key r with
  |false=>
   have e2:=hx3 hv;rw [cond_false];dsimp only;rw [Option.isSome_none,cond_false,Option.bind_some,e2,decide_eq_false (show ¬ ¬(2:Int)=2 by simp),cond_false,decide_eq_true (show ¬(2:Int)=0 by decide),cond_true];simp only [dF];rw [zgl a7];rfl
  |true=>
   have e2:=hx2 hv;subst e2;rw [cond_true];dsimp only;rw [Option.isSome_some,cond_true,Option.bind_some,decide_eq_false (show ¬ ¬(0:Int)=0 by simp),cond_false,cond_false];unfold j6 at hv;simp only [Bool.and_eq_true,decide_eq_true_eq] at hv;obtain ⟨⟨⟨v1,v2⟩,v3⟩,v4⟩:=hv;rw [v1] at hr1;have hval:=zjN a7 a7 hr1;have hgood:=ziW hval hroom v2 v3;simp only [dF,Option.getD_some];refine loop1 (K:=fun _=>_) (v:=some true) (fun _=>?_) l.length l.length 0 fuel l rfl a7 a7;refine loop2 (K:=fun _=>_) (v:=some true) (fun _=>?_) bs.length 100 fuel a7 bs.length 0 fuel bs rfl (fun x hx=>?_) a7 a7
   ·rw [zjx hgood a7,Option.bind_some,cond_true,zgl a7];rfl
   ·obtain ⟨k,hk,rfl⟩:=List.mem_iff_getElem.1 hx;have:=(hval.bids k hk).dem.len;rw [ff hk] at this;omega
end Go.Proofs.YtmnjbhkcfghebaaGreatDoor
namespace Go.Proofs.YtmnjbhkcfghebaaGreatDoor
open Go.RowKit Go.ChangeShapes Go.WideShapes Go.Deep
def Opens {H:Type}(enc:TypeId×Value→H)(w:World)(base:Nat)(spare:Nat→Bool)(held:Bool)(t:TypeId){α:Type}(R:List Value→α→Prop):Prop:=
 ∀fuel cs y,DataW.trod enc Tryz.prog w base spare held fuel t cs=some y→∃x,R cs x
section
variable {H:Type}{enc:TypeId×Value→H}{w:World}{base:Nat}{spare:Nat→Bool}{held:Bool}
theorem Opens.int {t:TypeId}(ht:Tryz.prog.underlying t=some (.int .i64)):Opens enc w base spare held t (fun cs (x:Int)=>cs=[.int .i64 x]):=fun fuel cs y h=>by
 obtain ⟨k,hk,_⟩:=DataW.trod_int ht h;exact ⟨k,hk⟩
theorem ziE {a:Addr}{v:Value}(h:w.cell? a=some v):Cb w a.block:=by
 unfold World.cell? at h
 split at h
 all_goals (first|exact ⟨_,_,_,by assumption⟩|simp at h|skip)
theorem Opens.any {t e : TypeId} {k : Nat} {α : Type} [Inhabited α] {R : List Value → α → Prop} (ht : Tryz.prog.underlying t = some (.slice e)) (hk : Tryz.prog.cellsOf e = k) (hpos : 0 < k) (ho : Opens enc w base spare held e R) :
    Opens enc w base spare held t (fun cs (l : List α) => ∃ v c, cs = [v] ∧ SlC (Frz.all w) v k c ∧ c.length = l.length ∧ ∀ i, i < l.length → R (cS c i) (cS l i)) := fun fuel cs y h => by
  rcases open_slice ht h with ⟨h0, _⟩ | ⟨a, len, cap, m, n, D, Pl, hcs, hb, hl, hm, hmm, _, hx⟩
  · exact ⟨[], _, [], h0, SlC.nil _ _, rfl, fun i hi => absurd hi (Nat.not_lt_zero i)⟩
  · subst hcs; (have hlm : len ≤ m := by rw [hmm]; split <;> omega)
    have each : ∀ i, i < m → ∃ x : List Value × α, x.1.length = k ∧ R x.1 x.2 ∧ ∀ j, j < k → w.cell? (a.add (i * k + j)) = x.1[j]? := fun i hi => by
      obtain ⟨cs', h1, h2⟩ := hx i hi; rw [hk] at h1; obtain ⟨_, hlen, hcell⟩ := World.cells?_some h1; obtain ⟨x, hR⟩ := ho _ _ _ h2; exact ⟨(cs', x), hlen, hR, fun j hj => by rw [← hcell j hj, add_add]⟩
    obtain ⟨X, hX⟩ := choose_lt each
    have hn : ∀ i, i < len → cS ((List.range len).map fun i => (X i).1) i = (X i).1 := fun i hi => by
      rw [ff (by simpa using hi)]; simp
    have hn2 : ∀ i, i < len → cS ((List.range len).map fun i => (X i).2) i = (X i).2 := fun i hi => by
      rw [ff (by simpa using hi)]; simp
    refine ⟨(List.range len).map fun i => (X i).2, _, (List.range len).map fun i => (X i).1, rfl, ⟨some a, cap, by simp, by simpa using hl, by unfold maxLen at hm; omega, fun c hc => ?_, fun hp => ?_⟩, by simp, fun i hi => ?_⟩
    · simp at hc; obtain ⟨i, hi, rfl⟩ := hc; exact (hX i a7).1
    · (have hp' : 0 < len := by simpa using hp); have c0 := (hX 0 a7).2.2 0 hpos; have hx0 := (hX 0 a7).1; rw [List.getElem?_eq_getElem a7] at c0; have hcb := ziE c0; have hs := World.cell?_spot c0; simp [Addr.add] at hs hcb; obtain ⟨b, off, sp⟩ := a; simp at hs hcb; subst hs; refine ⟨b, off, rfl, hcb, fun i hi j hj => ?_⟩; simp at hi; rw [hn i hi] at hj ⊢; have hxi := hX i a7; have := hxi.2.2 j a7;refine Eq.trans ?_ this
      show w.cell? _ = _
      rw [jw, Nat.add_assoc]
    · simp at hi; rw [hn i hi, hn2 i hi]; exact (hX i a7).2.1
theorem i6 {t e : TypeId} {k : Nat} {α : Type} [Inhabited α] {en : α → List Value} (ht : Tryz.prog.underlying t = some (.slice e)) (hk : Tryz.prog.cellsOf e = k) (hpos : 0 < k) (ho : Opens enc w base spare held e (fun cs (x : α) => cs = en x)) :
    Opens enc w base spare held t (fun cs (l : List α) => ∃ v, cs = [v] ∧ SlC (Frz.all w) v k (l.map en)) := fun fuel cs y h => by
  obtain ⟨l, v, c, h1, h2, h3, h4⟩ := Opens.any ht hk hpos ho _ _ _ h;refine ⟨l, v, h1, ?_⟩
  have : c = l.map en := by
    apply List.ext_getElem (by simpa using h3); intro i hi hi2; rw [← ff hi, h4 i a7, List.getElem_map, ff a7]
  rw [← this]; exact h2
theorem Opens.bytes {t e : TypeId} (ht : Tryz.prog.underlying t = some (.slice e)) (he : Tryz.prog.underlying e = some (.int .u8)) (hk : Tryz.prog.cellsOf e = 1) :
    Opens enc w base spare held t (fun cs (l : List Int) => ∃ v, cs = [v] ∧ SlC (Frz.all w) v 1 (l.map (eK .u8)) ∧ ∀ x ∈ l, 0 ≤ x ∧ x ≤ 255) := fun fuel cs y h => by
  have ho : Opens enc w base spare held e (fun cs (x : Int) => cs = eK .u8 x ∧ (0 ≤ x ∧ x ≤ 255)) := fun fuel cs y h => by
    obtain ⟨k, h1, _, h2⟩ := DataW.trod_int he h;refine ⟨k, h1, ?_⟩; (have e1 : IntKind.u8.min = 0 := by decide); (have e2 : IntKind.u8.max = 255 := by decide); simp only [Lit.wf, e1, e2, Bool.and_eq_true, decide_eq_true_eq] at h2; exact h2
  obtain ⟨l, v, c, h1, h2, h3, h4⟩ := Opens.any ht hk a8 ho _ _ _ h; refine ⟨l, v, h1, ?_, fun x hx => ?_⟩
  · have : c = l.map (eK .u8) := by
      apply List.ext_getElem (by simpa using h3); intro i hi hi2; rw [← ff hi, (h4 i a7).1, List.getElem_map, ff a7]
    rw [← this]; exact h2
  · obtain ⟨i, hi, e⟩ := List.mem_iff_getElem.1 hx; have := (h4 i hi).2; rw [ff hi, e] at this; exact this
end
end Go.Proofs.YtmnjbhkcfghebaaGreatDoor
namespace Go.Proofs.YtmnjbhkcfghebaaGreatDoor
open Go.ChangeShapes Go.WideShapes Go.ChangeAt Go.RowKit Go.Joins Go.Deep
abbrev lt36 : List (String × DataW Unit) := [("bandplan/blake.order", Rows.laid_bandplan_blake_order), ("bandplan/blake.initial", Rows.laid_bandplan_blake_initial)]
theorem g36a : Tryz.prog.globalNamed "bandplan/blake.order" = some 2 := by kernel_rfl
theorem g36b : Tryz.prog.globalNamed "bandplan/blake.initial" = some 1 := by kernel_rfl
theorem t36a:(Tryz.prog.globals[2]?).map (·.type)=some 301:=by kernel_rfl
theorem t36b:(Tryz.prog.globals[1]?).map (·.type)=some 292:=by kernel_rfl
theorem zjL (os:Os)(args:Array Value):laidMetH Tryz.prog lt36 ((World.doorLaid Tryz.prog 400 os).forCall (fun _ _=>0) ⟨#[],args,[]⟩).memory:=
 laidMetH_of_parts3 (fuel:=8) (laidMet_of_run' 8 b5 b5) b5 b5
section
variable {P:Program}{H:Type}{enc:TypeId×Value→H}{w:World}{base:Nat}{spare:Nat→Bool}{held:Bool}
theorem zhV {t e n:Nat}{k:IntKind}{fuel:Nat}{cs:List Value}{zs:List Int}{pl:List MemPlace}(ht:P.underlying t=some (.array n e))(he:P.underlying e=some (.int k))(hc:P.cellsOf e=1)(hct:P.cellsOf t=n)(h:DataW.trod enc P w base spare held fuel t cs=some (.agg (zs.map fun z=> .lit (.int k z)),pl)):cs=zs.map (Value.int k):=by
 obtain ⟨xs,m,rfl,hx,hl,hn,hel⟩:=DataW.trod_array ht h;simp only [Prod.mk.injEq,DataW.agg.injEq] at hx; (have hzl:zs.length=n:=by have:=congrArg List.length hx.1;simp at this;omega);refine List.ext_getElem (by rw [hl,List.length_map,hct,hzl]) fun j h1 h2=>?_; (have hj:j<n:=by rw [List.length_map] at h2;omega);have h0:=hel j hj;rw [List.getElem?_eq_getElem a7] at h0;obtain ⟨q,e1,e2,_⟩:=DataW.trod_int he h0;have h3:=congrArg (fun l=>l[j]?) hx.1;simp only [List.getElem?_map] at h3;rw [List.getElem?_eq_getElem (show j<xs.length by omega),List.getElem?_eq_getElem (show j<zs.length by omega)] at h3;simp only [Option.map_some,Option.some.injEq] at h3;rw [e2] at h3;simp only [DataW.lit.injEq,Lit.int.injEq,true_and] at h3;subst h3;rw [hc,Nat.mul_one] at e1;have h4:=congrArg (fun l=>l[0]?) e1;simp only [List.getElem?_take,List.getElem?_drop] at h4;simp at h4;rw [List.getElem?_eq_getElem h1] at h4;simp only [Option.some.injEq] at h4;rw [h4];simp
end
theorem zjH:(Rows.laid_bandplan_blake_initial:DataW Unit)= .agg (eL.1.map fun z=> .lit (.int .u32 z)):=rfl
theorem zjz:(Rows.laid_bandplan_blake_order:DataW Unit)= .agg (blOrder.map fun x=> .agg (x.1.map fun z=> .lit (.int .u8 z))):=rfl
theorem zhy {W:World}{n:String}{g:Nat}{cs:Array Value}(hg:Tryz.prog.globalNamed n=some g)(hv:W.var? Tryz.prog n=some cs):Cb W g:=by
 simp only [World.var?,hg,Option.bind_some] at hv
 split at hv
 ·exact ⟨_,_,_,by assumption⟩
 ·simp at hv
theorem gl_of {W:World}(h:laidMetH Tryz.prog lt36 W):GlF (Frz.all W):=by
 rw [MakeChecks.laidMetH_plain _ _ _ b5] at h;obtain ⟨ps,⟨g0,t0,cs0,f0,p0,q0,hg0,ht0,hv0,hd0,⟨g1,t1,cs1,f1,p1,q1,hg1,ht1,hv1,hd1,_,_⟩,_⟩,_,_⟩:=h;obtain rfl:=Option.some.inj (g36a.symm.trans hg0);obtain rfl:=Option.some.inj (t36a.symm.trans ht0);obtain rfl:=Option.some.inj (g36b.symm.trans hg1);obtain rfl:=Option.some.inj (t36b.symm.trans ht1); (have e5:Tryz.prog.cellsOf 5=1:=by kernel_rfl); (have e175:Tryz.prog.cellsOf 175=1:=by kernel_rfl); (have e292:Tryz.prog.cellsOf 292=8:=by kernel_rfl); (have e300:Tryz.prog.cellsOf 300=16:=by kernel_rfl);constructor
 ·rw [zjH] at hd1;have hc:=zhV Tryz.underlying292 Tryz.underlying175 e175 e292 hd1;refine ⟨some ⟨1,0,none⟩,1,rfl,Nat.le_refl _,by decide,fun c hc=>?_,fun _=>⟨1,0,rfl,zhy g36b hv1,fun i hi q hq=>?_⟩⟩
  ·simp at hc;subst hc;rfl
  ·(have hi:i=0:=by simpa using hi);subst hi
   show W.cell? _=_
   rw [Nat.zero_mul,Nat.zero_add,World.var?_cell hg1 hv1 q,←Array.getElem?_toList,hc];rfl
 ·rw [zjz] at hd0;obtain ⟨xs,m,rfl,hx,hl,hn,hel⟩:=DataW.trod_array Tryz.underlying301 hd0;simp only [Prod.mk.injEq,DataW.agg.injEq] at hx;refine ⟨some ⟨2,0,none⟩,10,rfl,by decide,by decide,fun c hc=>?_,fun _=>⟨2,0,rfl,zhy g36a hv0,fun i hi q hq=>?_⟩⟩
  ·obtain ⟨x,_,rfl⟩:=List.mem_map.1 hc;rw [List.length_map,x.2]
  ·(have hi:i<10:=by rw [List.length_map] at hi;exact hi);have hb:i<blOrder.length:=hi;have h0:=hel i hi;rw [List.getElem?_eq_getElem a7] at h0;have h3:=congrArg (fun l=>l[i]?) hx.1;simp only [List.getElem?_map] at h3;rw [List.getElem?_eq_getElem (show i<xs.length by omega),List.getElem?_eq_getElem hb] at h3;simp only [Option.map_some,Option.some.injEq] at h3;have h4:xs[i]=(.agg (blOrder[i].1.map fun z=> .lit (.int .u8 z)),xs[i].2):=Prod.ext h3.symm rfl;rw [h4] at h0;have hc:=zhV Tryz.underlying300 Tryz.underlying5 e5 e300 h0;rw [e300] at hc
   have e9:cS (blOrder.map fun x=>x.1.map (Value.int .u8)) i=blOrder[i].1.map (Value.int .u8):=by
    rw [ff (by rw [List.length_map];exact hb),List.getElem_map]
   rw [e9] at hq ⊢;rw [List.length_map,blOrder[i].2] at hq
   show W.cell? _=_
   rw [Nat.zero_add,World.var?_cell hg0 hv0 (i*16+q),←Array.getElem?_toList,←hc,List.getElem?_take_of_lt hq,List.getElem?_drop]
section
variable {H:Type}{enc:TypeId×Value→H}{w:World}{base:Nat}{spare:Nat→Bool}{held:Bool}
theorem zic {fuel:Nat}{e t:Nat}{k c:Nat}{A:Addr}{y:DataW H×List MemPlace}(ht:Tryz.prog.underlying t=some (.slice e))(h:DataW.trod enc Tryz.prog w base spare held fuel t [.slice (some A) k c]=some y)(hw:(DataW.weights Tryz.prog t y.1).all (· ≤reachBytes)=true):k*Tryz.prog.bytesOf e≤reachBytes:=by
 rcases open_slice ht h with ⟨h0,_⟩|⟨a,len,cap,m,n,D,Pl,hcs,hb,hl,hm,hmm,rfl,hx⟩
 ·cases h0
 ·simp only [List.cons.injEq,Value.slice.injEq,Option.some.injEq,and_true] at hcs;obtain ⟨_,rfl,_⟩:=hcs;unfold DataW.weights at hw;rw [ht] at hw;dsimp only at hw;rw [List.all_cons,Bool.and_eq_true,decide_eq_true_eq] at hw;have h1:=hw.1;simp only [List.length_map,List.length_range] at h1;exact Nat.le_trans (Nat.mul_le_mul_right _ (Nat.le_add_right _ _)) h1
theorem j5 {t e : TypeId} {k : Nat} {α : Type} [Inhabited α] {R : List Value → α → DataW H → Prop} (ht : Tryz.prog.underlying t = some (.slice e)) (hk : Tryz.prog.cellsOf e = k) (hpos : 0 < k) (ho : ∀ fuel cs y, DataW.trod enc Tryz.prog w base spare held fuel e cs = some y → ∃ x, R cs x y.1) {fuel : Nat} {cs : List Value} {y : DataW H × List MemPlace} (h : DataW.trod enc Tryz.prog w base spare held fuel t cs = some y) :
    ∃ (l : List α) (v : Value) (c : List (List Value)), cs = [v] ∧ SlC (Frz.all w) v k c ∧ c.length = l.length ∧ ∀ i, i < l.length → ∃ d, R (cS c i) (cS l i) d ∧ ∀ wt ∈ DataW.weights Tryz.prog e d, wt ∈ DataW.weights Tryz.prog t y.1 := by
  rcases open_slice ht h with ⟨h0, _⟩ | ⟨a, len, cap, m, n, D, Pl, hcs, hb, hl, hm, hmm, hy, hx⟩
  · exact ⟨[], _, [], h0, SlC.nil _ _, rfl, fun i hi => absurd hi (Nat.not_lt_zero i)⟩
  · subst hcs; (have hlm : len ≤ m := by rw [hmm]; split <;> omega)
    have each : ∀ i, i < m → ∃ x : List Value × α, x.1.length = k ∧ R x.1 x.2 (D i) ∧ ∀ j, j < k → w.cell? (a.add (i * k + j)) = x.1[j]? := fun i hi => by
      obtain ⟨cs', h1, h2⟩ := hx i hi; rw [hk] at h1; obtain ⟨_, hlen, hcell⟩ := World.cells?_some h1; obtain ⟨x, hR⟩ := ho _ _ _ h2; exact ⟨(cs', x), hlen, hR, fun j hj => by rw [← hcell j hj, add_add]⟩
    obtain ⟨X, hX⟩ := choose_lt each
    have hn : ∀ i, i < len → cS ((List.range len).map fun i => (X i).1) i = (X i).1 := fun i hi => by
      rw [ff (by simpa using hi)]; simp
    have hn2 : ∀ i, i < len → cS ((List.range len).map fun i => (X i).2) i = (X i).2 := fun i hi => by
      rw [ff (by simpa using hi)]; simp
    refine ⟨(List.range len).map fun i => (X i).2, _, (List.range len).map fun i => (X i).1, rfl, ⟨some a, cap, by simp, by simpa using hl, by unfold maxLen at hm; omega, fun c hc => ?_, fun hp => ?_⟩, by simp, fun i hi => ?_⟩
    · simp at hc; obtain ⟨i, hi, rfl⟩ := hc; exact (hX i a7).1
    · (have hp' : 0 < len := by simpa using hp); have c0 := (hX 0 a7).2.2 0 hpos; have hx0 := (hX 0 a7).1; rw [List.getElem?_eq_getElem a7] at c0; have hcb := ziE c0; have hs := World.cell?_spot c0; simp [Addr.add] at hs hcb; obtain ⟨b, off, sp⟩ := a; simp at hs hcb; subst hs; refine ⟨b, off, rfl, hcb, fun i hi j hj => ?_⟩; simp at hi; rw [hn i hi] at hj ⊢; have hxi := hX i a7; have := hxi.2.2 j a7;refine Eq.trans ?_ this
      show w.cell? _ = _
      rw [jw, Nat.add_assoc]
    · simp at hi; rw [hn i hi, hn2 i hi]; refine ⟨D i, (hX i a7).2.1, fun wt hwt => ?_⟩; rw [hy]; unfold DataW.weights; rw [ht];dsimp only;refine List.mem_cons_of_mem _ (List.mem_append_left _ ?_)
      have key : ∀ (l : List (DataW H)), D i ∈ l → wt ∈ DataW.weightsAll Tryz.prog e l := by
        intro l
        induction l with
        | nil => intro h; cases h
        | cons d r ih =>
          intro h; unfold DataW.weightsAll; rcases List.mem_cons.1 h with h | h
          · subst h; exact List.mem_append_left _ hwt
          · exact List.mem_append_right _ (ih h)
      exact key _ (List.mem_map.2 ⟨i, List.mem_range.2 hi, rfl⟩)
end
end Go.Proofs.YtmnjbhkcfghebaaGreatDoor
