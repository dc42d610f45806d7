/- Yn Sk Yo Kb Yr: shortened and put together by squeeze.py. -/
import Derived.Test.YtogbggmckmnlfaaGreatDoorQ07
import Derived.Laws.BytesArg
import Derived.Laws.Strings
set_option maxRecDepth 100000
set_option maxHeartbeats 4000000
set_option linter.unusedVariables false
set_option linter.unusedSectionVars false
set_option linter.unusedSimpArgs false
namespace Go.Proofs.YtogbggmckmnlfaaGreatDoor
open Go.RowKit
theorem b7 {p:Prop}(h:p:=by rw [Vec.len];first|omega|(simp only [List.length_cons,List.length_nil];omega)):p:=h
def cP (F:Frz)(c:List Value)(x:List GChoice):Prop:=∃(v0:Value),c=[v0]∧SlC F v0 2 (x.map cW)
theorem R_List_GChoice.mono {F G:Frz}{c:List Value}{x:List GChoice}(hle:F.Le G)(h:cP F c x):cP G c x:=by
 obtain ⟨v0,h0,h1⟩:=h;exact ⟨v0,h0,h1.mono hle⟩
theorem R_List_GChoice.len {F:Frz}{c:List Value}{x:List GChoice}(h:cP F c x):c.length=1:=by
 obtain ⟨v0,h0,h1⟩:=h;subst h0;rfl
theorem R_List_GChoice.one {F:Frz}{c:List Value}{x:List GChoice}(h:cP F c x):OneCs c:=by
 obtain ⟨v0,h0,h1⟩:=h;subst h0;haveI:=h1.oneC
 infer_instance
theorem R_List_GChoice.c0 {F:Frz}{c:List Value}{x:List GChoice}(h:cP F c x):c[0]?=some (cQ c 0)∧SlC F (cQ c 0) 2 (x.map cW):=by
 obtain ⟨v0,h0,h1⟩:=h;subst h0;exact ⟨rfl,h1⟩
theorem kI {F:Frz}{c:List Value}{x:List GChoice}(h:cP F c x):(c.drop 0).take 1=[cQ c 0]:=by
 obtain ⟨v0,h0,h1⟩:=h;subst h0;rfl
def zca (a:List (List GChoice))(b:List (List GChoice)):Bool:=
 (bif decide (¬(a.length:Int)=(b.length:Int)) then
  false
  else
  dN (fun (_:Unit)=>
   true)
  (fun k2=>
   di (fun (i_4:Nat) (next3:Unit→Bool) (_:Unit)=>
    (bif !(zbC (cQ a i_4) (cQ b i_4)) then
     false
     else
     next3 ()))
   (fun (_:Unit)=>
    k2 ()) (a.length - 0) 0 ()))
theorem zib (F0:Frz)(w:World)(hF0:F0.At w)(a:List (List GChoice))(va:Value)(ca:List (List Value))(ha:SlD cP F0 va 1 ca a)(b:List (List GChoice))(vb:Value)(cb:List (List Value))(hb:SlD cP F0 vb 1 cb b):Calls Tryz.prog 53 #[va,vb] w fun e w'=>e= .returned (.bool (zca a b))∧Below w.heap.size w w':=by
 obtain ⟨r,hk⟩:∃r,zca a b=r:=⟨_,rfl⟩;rw [hk];unfold zca at hk;haveI:=ha.1.oneC;haveI:=hb.1.oneC;obtain ⟨S0,F1,rfl,hS0,hp0⟩:=fE hF0;refine dy Tryz.func53 rfl rfl rfl hp0 ?_;refine i5 ?_;refine cR (dA rfl rfl ha.1 ha.2.1) ?_;have hm7:a.length≤9223372036854775807:=ha.2.1▸ha.1.max;refine dp ?_;refine cR (dA rfl rfl hb.1 hb.2.1) ?_;have hm9:b.length≤9223372036854775807:=hb.2.1▸hb.1.max;refine dL ?_;refine T.cond rfl (fun h1=>?_) (fun h1=>?_)
 ·have p1:=of_decide_eq_true h1;replace hk:=dC hk h1;refine hD ?_;subst hk;exact eY
 ·have p1:=of_decide_eq_false h1;replace hk:=dD hk h1;refine ke ?_;refine dL ?_;have hq:=eN hk;clear hk;obtain ⟨k2,hk2,hk⟩:=hq; (try dsimp only at hk);refine dk (ι:=Unit) (fun z=>[]) (fun z=>[.fr F1]) (fun z=>k2 ()=r) ?_ ?_
  ·have hq:=fS hk;clear hk;obtain ⟨f3,kk3,hf3,hkk3,hk⟩:=hq;refine fJ ?_;refine T.loop (ι:=Nat) (fun z=>[(0,va),(1,vb),(5, .int .i64 (z:Int))]) (fun z=>[.fr F1]) (fun z=>di f3 kk3 (a.length - z) z ()=r) (fun z=>a.length - z) 0 ?_ ?_ ?_ ?_
   ·exact hk
   ·exact q37
   ·exact fx
   ·rintro i_4 hk;refine jS ?_;refine cR (dA rfl rfl ha.1 ha.2.1) ?_;refine dL ?_;refine T.cond rfl (fun h5=>?_) (fun h5=>?_)
    ·have p5:=of_decide_eq_true h5;rw [fT a5] at hk;generalize hn3:di f3 kk3 (a.length - (i_4+1)) (i_4+1)=next3 at hk;rw [←hf3] at hk; (try dsimp only at hk);refine kq ?_;refine d8 (sN 0 8 (.eff 8 (.still 9 .done))) _ a7 (List.Sublist.refl _) ?_;refine gJ ?_;refine cZ rfl (dH (i:=i_4) rfl rfl rfl ha.1 ha.2.1 rfl a5) ?_;refine cZ rfl (eo 0 (i:=i_4) (j:=0) rfl rfl rfl ha.1 ha.2.1 a5 rfl (R_List_GChoice.c0 (ha.2.2 i_4 a5)).1) ?_;have hd20_0:=(R_List_GChoice.c0 (ha.2.2 i_4 a5)).2;haveI:=hd20_0.oneC;refine gJ ?_;refine cZ rfl (dH (i:=i_4) rfl rfl rfl hb.1 hb.2.1 rfl a5) ?_;refine cZ rfl (eo 0 (i:=i_4) (j:=0) rfl rfl rfl hb.1 hb.2.1 a5 rfl (R_List_GChoice.c0 (hb.2.2 i_4 a5)).1) ?_;have hd24_0:=(R_List_GChoice.c0 (hb.2.2 i_4 a5)).2;haveI:=hd24_0.oneC;refine dQ ?_;refine dx rfl (Wt.none) rfl rfl (cS rfl rfl rfl (fun w hw=>zfW _ w (hw.fr (i:=0) rfl) (cQ a i_4) (cQ (cQ ca i_4) 0) hd20_0 (cQ b i_4) (cQ (cQ cb i_4) 0) hd24_0)) ?_;refine lT ?_;refine kQ ?_;refine T.cond rfl (fun h6=>?_) (fun h6=>?_)
     ·replace hk:=dC hk h6;refine jv ?_;subst hk;exact eY
     ·replace hk:=dD hk h6;refine li ?_;rw [←hn3] at hk;exact q4v
    ·have p5:=of_decide_eq_false h5;rw [fR a5,←hkk3] at hk; (try dsimp only at hk);refine fi ?_;exact lD
  ·rintro _ hk;rw [←hk2] at hk; (try dsimp only at hk);refine lC ?_;subst hk;exact eY
def zcu (fuel:Nat)(l:List (List GChoice))(most:Int):Option Bool:=
 dN (fun (_:Unit)=>
  some (decide ((l.length:Int)≤most)))
 (fun k1=>
  iV (fun (next3:Int→Option Bool) (i_2:Int)=>
   (bif ((decide (i_2<(l.length:Int)))&&(decide (i_2≤most))) then
    dU (0≤i_2∧i_2<(l.length:Int)) <|
    (bif decide (20<((cQ l i_2.toNat).length:Int)) then
     some false
     else
     next3 (i_2+1))
    else
    k1 ())) fuel 0)
theorem zhw (F0:Frz)(w:World)(hF0:F0.At w)(l:List (List GChoice))(vl:Value)(cl:List (List Value))(hl:SlD cP F0 vl 1 cl l)(most:Int)(fuel:Nat)(r:Bool)(hr:zcu fuel l most=some r):Calls Tryz.prog 57 #[vl, .int .i64 most] w fun e w'=>e= .returned (.bool r)∧Below w.heap.size w w':=by
 have hk:=hr;unfold zcu at hk;haveI:=hl.1.oneC;obtain ⟨S0,F1,rfl,hS0,hp0⟩:=fE hF0;refine dy Tryz.func57 rfl rfl rfl hp0 ?_;refine gh ?_;refine iM ?_;refine dL ?_;have hq:=eN hk;clear hk;obtain ⟨k1,hk1,hk⟩:=hq; (try dsimp only at hk);refine dk (ι:=Unit) (fun z=>[(0,vl),(1, .int .i64 most)]) (fun z=>[.fr F1]) (fun z=>k1 ()=some r) ?_ ?_
 ·have hq:=zdd hk;clear hk;obtain ⟨f3,hf3,hk⟩:=hq;refine fJ ?_;refine T.loop (ι:=Nat×Int) (fun z=>[(0,vl),(1, .int .i64 most),(5, .int .i64 z.2)]) (fun z=>[.fr F1]) (fun z=>iV f3 z.1 z.2=some r) (fun z=>z.1) (fuel,0) ?_ ?_ ?_ ?_
  ·exact hk
  ·exact q37
  ·exact fx
  ·rintro ⟨m_4,i_2⟩ hk; (try dsimp only at *);have hq:=zdJ hk;clear hk;obtain ⟨m_4',rfl,hk⟩:=hq;generalize hn3:iV f3 m_4'=next3 at hk;rw [←hf3] at hk; (try dsimp only at hk);refine T.seq (T.seq ?_);refine dk (ι:=Unit) (fun z=>[(0,vl),(1, .int .i64 most),(5, .int .i64 i_2),(14, .bool ((decide (i_2<(l.length:Int)))&&(decide (i_2≤most))))]) (fun z=>[.fr F1]) (fun z=>True) ?_ ?_
   ·refine gp ?_;refine cR (dA rfl rfl hl.1 hl.2.1) ?_;have hm8:l.length≤9223372036854775807:=hl.2.1▸hl.1.max;refine ez ?_;refine dO rfl rfl rfl (fun h5=>?_) (fun h5=>?_)
    ·have p5:=of_decide_eq_true h5;refine lY ?_;exact c4 () trivial (.c (.c (.c (.b (mH h5) .nil)))) (List.Sublist.refl _)
    ·have p5:=of_decide_eq_false h5;refine lY ?_;exact c4 () trivial (.c (.c (.c (.b (mE h5).symm .nil)))) (List.Sublist.refl _)
   ·rintro _ _;have hm8:l.length≤9223372036854775807:=hl.2.1▸hl.1.max;refine T.cond rfl (fun h6=>?_) (fun h6=>?_)
    ·have p6:=h6; (try simp only [c7] at p6);replace hk:=dC hk h6;refine kq ?_;have hq:(0≤i_2∧i_2<(l.length:Int))∧_:=eW hk;clear hk;obtain ⟨g19,hk⟩:=hq; (try dsimp only at hk);refine gp ?_;refine cR (dH (i:=i_2.toNat) rfl rfl rfl hl.1 hl.2.1 a5 a5) ?_;refine cR (eo 0 (i:=i_2.toNat) (j:=0) rfl rfl rfl hl.1 hl.2.1 a5 rfl (R_List_GChoice.c0 (hl.2.2 i_2.toNat a5)).1) ?_;have hd20_0:=(R_List_GChoice.c0 (hl.2.2 i_2.toNat a5)).2;haveI:=hd20_0.oneC;refine cR (dA rfl rfl hd20_0 (List.length_map _)) ?_;have hm21:(cQ l i_2.toNat).length≤9223372036854775807:=(List.length_map _)▸hd20_0.max;refine dL ?_;refine T.cond rfl (fun h7=>?_) (fun h7=>?_)
     ·have p7:=of_decide_eq_true h7;replace hk:=dC hk h7;refine jv ?_;obtain rfl:=Option.some.inj hk;exact eY
     ·have p7:=of_decide_eq_false h7;replace hk:=dD hk h7;refine li ?_;rw [←hn3] at hk;exact K.next (m_4',(i_2+1)) hk a9 (.c (.c (.c .nil))) (List.Sublist.refl _)
    ·replace hk:=dD hk h6;refine fi ?_;exact c4 () hk (.c (.c .nil)) (List.Sublist.refl _)
 ·rintro _ hk;rw [←hk1] at hk; (try dsimp only at hk);refine gh ?_;refine cR (dA rfl rfl hl.1 hl.2.1) ?_;have hm24:l.length≤9223372036854775807:=hl.2.1▸hl.1.max;refine fF ?_;refine fN ?_;obtain rfl:=Option.some.inj hk;exact eY
theorem zkn (F0:Frz)(w:World)(hF0:F0.At w)(l:List GChoice)(vl:Value)(hl:SlC F0 vl 2 (l.map cW))(hr:dd l.length 16):Calls Tryz.prog 50 #[vl] w fun e w'=>∃v':Value,True∧e= .returned v'∧Hp w (fun _=>False) [.sl v' 68 2 l.length (l.flatMap cW)] w':=by
 haveI:=hl.oneC;have hl0:=hl;obtain ⟨A,cap,hv,hlc,hcm,hcl,hcs⟩:=hl0;have hlen:(l.map cW).length=l.length:=List.length_map _;obtain ⟨S0,F1,hF1,hS0,hp0⟩:=fE hF0
 cases hA:A with
 |none=>
  have h0:l=[]:=by
   cases l with
   |nil=>rfl
   |cons x r=>
    obtain ⟨g,off,h1,_⟩:=hcs a8;rw [hA] at h1;cases h1
  subst h0;refine dy (M:=fun _=>False) (hs:=[.fr F1]) Tryz.func50 rfl rfl rfl hp0 ?_;refine q2L ?_;refine gh ?_;refine TL.slNil 68 2 ?_;refine kh ?_;exact c8 rfl rfl (fun w' hw=>⟨.slice none 0 0,trivial,rfl,hw.sub Sx⟩)
 |some a=>
  rw [←hF1] at hl;refine dy (M:=fun _=>False) (hs:=[.fr F1]) Tryz.func50 rfl rfl rfl hp0 ?_;refine q19 ?_;rintro _ _ ⟨g,rfl,rfl⟩;refine dp ?_;refine cX (ik 0 1 (k':=l.length) (l':=l.flatMap cW) (zd3 (enc:=cW) (fun _=>inferInstance)) rfl rfl rfl rfl rfl hl cL (by rw [List.nil_append,←List.flatMap_def]) hr a6) ?_;rintro v' _ ⟨hv',rfl⟩;refine fm ?_;exact c8 rfl rfl (fun w' hw=>⟨v',trivial,rfl,hw.sub Sx⟩)
theorem zgi (F0:Frz)(w:World)(hF0:F0.At w)(l:List GChoice)(vl:Value)(hl:SlC F0 vl 2 (l.map cW))(hr:dd l.length 16):Calls Tryz.prog 50 #[vl] w fun e w'=>∃(y:Value) (G:Frz),SlC G y 2 (l.map cW)∧e= .returned y∧Fx F0 w G w':=by
 refine (zkn F0 w hF0 l vl hl hr).mono ?_;rintro e w' ⟨v',_,rfl,hw⟩;obtain ⟨G,h1,h2,h3⟩:=Fx.hp hF0 hw;have h4:=jc (G:=G) (hw.own (.sl v' 68 2 l.length (l.flatMap cW)) a8) h2 (h3 _ a8);exact ⟨v',G,h4.toF rfl (fun _=>rfl),rfl,h1⟩
theorem zfu (F0:Frz)(w:World)(hF0:F0.At w)(l:List (List GChoice))(vl:Value)(cl:List (List Value))(hl:SlD cP F0 vl 1 cl l)(hr:dd l.length 24):Calls Tryz.prog 48 #[vl] w fun e w'=>∃v':Value,True∧e= .returned v'∧Hp w (fun _=>False) [.sl v' 50 1 l.length cl.flatten] w':=by
 haveI:=hl.1.oneC;have hl0:=hl.1;obtain ⟨A,cap,hv,hlc,hcm,hcl,hcs⟩:=hl0;have hlen:=hl.2.1;obtain ⟨S0,F1,hF1,hS0,hp0⟩:=fE hF0
 cases hA:A with
 |none=>
  have h0:l=[]:=by
   refine List.eq_nil_of_length_eq_zero ?_;rw [←hlen];refine Nat.eq_zero_of_not_pos fun h=>?_;obtain ⟨g,off,h1,_⟩:=hcs h;rw [hA] at h1;cases h1
  subst h0;obtain rfl:cl=[]:=List.eq_nil_of_length_eq_zero hlen;refine dy (M:=fun _=>False) (hs:=[.fr F1]) Tryz.func48 rfl rfl rfl hp0 ?_;refine q2L ?_;refine gh ?_;refine TL.slNil 50 1 ?_;refine kh ?_;exact c8 rfl rfl (fun w' hw=>⟨.slice none 0 0,trivial,rfl,hw.sub Sx⟩)
 |some a=>
  rw [←hF1] at hl;refine dy (M:=fun _=>False) (hs:=[.fr F1]) Tryz.func48 rfl rfl rfl hp0 ?_;refine q19 ?_;rintro _ _ ⟨g,rfl,rfl⟩;refine dp ?_;refine cX (ik 0 1 (k':=l.length) (l':=cl.flatten) (znq hl (fun _ _ _=>R_List_GChoice.one)) rfl rfl rfl rfl rfl hl.1 (by rw [hl.2.1];omega) (by rw [List.nil_append]) hr a6) ?_;rintro v' _ ⟨hv',rfl⟩;refine fm ?_;exact c8 rfl rfl (fun w' hw=>⟨v',trivial,rfl,hw.sub Sx⟩)
theorem zfB (F0:Frz)(w:World)(hF0:F0.At w)(l:List Int)(vl:Value)(hl:SlC F0 vl 1 (l.map eI))(hr:dd l.length 8):Calls Tryz.prog 51 #[vl] w fun e w'=>∃(y:Value) (G:Frz),SlC G y 1 (l.map eI)∧e= .returned y∧Fx F0 w G w':=by
 haveI:=hl.oneC;have hl0:=hl;obtain ⟨A,cap,hv,hlc,hcm,hcl,hcs⟩:=hl0;have hlen:(l.map eI).length=l.length:=List.length_map _
 cases hA:A with
 |none=>
  have h0:¬0<l.length:=fun h=>by
   obtain ⟨g,off,h1,_⟩:=hcs (by rw [hlen];exact h);rw [hA] at h1;cases h1
  refine Calls.mono (R:=fun e w'=>e= .returned (.slice none 0 0)∧Below w.heap.size w w') ?_ ?_
  ·obtain ⟨S0,F1,hF1,hS0,hp0⟩:=fE hF0;refine dy (M:=fun _=>False) (hs:=[.fr F1]) Tryz.func51 rfl rfl rfl hp0 ?_;refine q2L ?_;refine hD ?_;exact eY
  ·rintro e w' ⟨rfl,hb⟩
   cases l with
   |nil=>exact ⟨.slice none 0 0,F0,SlC.nil _ 1,rfl,Fx.refl hF0 hb⟩
   |cons x r=>simp at h0
 |some a=>
  refine Calls.mono (R:=fun e w'=>∃v':Value,e= .returned v'∧Hp w (fun _=>False) [.sl v' 3 1 l.length (l.flatMap eI)] w') ?_ ?_
  ·obtain ⟨S0,F1,hF1,hS0,hp0⟩:=fE hF0;rw [←hF1] at hl;refine dy (M:=fun _=>False) (hs:=[.fr F1]) Tryz.func51 rfl rfl rfl hp0 ?_;refine q19 ?_;rintro _ _ ⟨g,rfl,rfl⟩;refine dp ?_;refine cX (ik 0 1 (k':=l.length) (l':=l.flatMap eI) (zd3 (enc:=eI) (fun _=>inferInstance)) rfl rfl rfl rfl rfl hl cL (by rw [List.nil_append,←List.flatMap_def]) hr a6) ?_;rintro v' _ ⟨hv',rfl⟩;refine fm ?_;exact c8 rfl rfl (fun w' hw=>⟨v',rfl,hw.sub Sx⟩)
  ·rintro e w' ⟨v',rfl,hw⟩;obtain ⟨G,h1,h2,h3⟩:=Fx.hp hF0 hw;have h4:=jc (G:=G) (hw.own (.sl v' 3 1 l.length (l.flatMap eI)) a8) h2 (h3 _ a8);exact ⟨v',G,h4.toF rfl (fun _=>rfl),rfl,h1⟩
theorem zjH {F0 : Frz} {w : World} {vd vp vl vc : Value} {cd : List (List Value)} {p : GProblem} (hF0 : F0.At w) (h : PbF F0 vd cd vp vl vc p) :
    Calls Tryz.prog 72 #[.agg [vd, vp, vl, vc].toArray] w fun e w' => e = .returned (.bool (lE p)) ∧ Below w.heap.size w w' := by
  obtain ⟨P, rfl, hP⟩ := zje h hF0; rw [← zm2]; exact zgd P vd vp vl vc w hP
structure GStore where
 domains:Vec 512 (BitVec 64)
 start:GProblem×(List GDomain×Bool)
 list:List (List GChoice)
deriving Inhabited
def zaP (n:Int)(low:Int)(high:Int):Bool:=
 ((decide (low≤n))&&(decide (n≤high)))
theorem zdT (F0:Frz)(w:World)(hF0:F0.At w)(n:Int)(low:Int)(high:Int):Calls Tryz.prog 80 #[.int .i64 n, .int .i64 low, .int .i64 high] w fun e w'=>e= .returned (.bool (zaP n low high))∧Below w.heap.size w w':=by
 obtain ⟨r,hk⟩:∃r,zaP n low high=r:=⟨_,rfl⟩;rw [hk];unfold zaP at hk;obtain ⟨S0,F1,rfl,hS0,hp0⟩:=fE hF0;refine dy Tryz.func80 rfl rfl rfl hp0 ?_;refine eR ?_;refine dk (ι:=Unit) (fun z=>[(6, .bool ((decide (low≤n))&&(decide (n≤high))))]) (fun z=>[.fr F1]) (fun z=>True) ?_ ?_
 ·refine fg ?_;refine TL.run 4 rfl ?_;refine dO rfl rfl rfl (fun h1=>?_) (fun h1=>?_)
  ·have p1:=of_decide_eq_true h1;refine mi ?_;exact q4f
  ·have p1:=of_decide_eq_false h1;refine mi ?_;exact q4g
 ·rintro _ _;refine T.ret ?_;subst hk;exact eY
def jE (n:Int):Bool:=
 (zaP n 0 511)
theorem zdb (F0:Frz)(w:World)(hF0:F0.At w)(n:Int):Calls Tryz.prog 79 #[.int .i64 n] w fun e w'=>e= .returned (.bool (jE n))∧Below w.heap.size w w':=by
 obtain ⟨r,hk⟩:∃r,jE n=r:=⟨_,rfl⟩;rw [hk];unfold jE at hk;obtain ⟨S0,F1,rfl,hS0,hp0⟩:=fE hF0;refine dy Tryz.func79 rfl rfl rfl hp0 ?_;refine mD ?_;refine cX (cS rfl rfl rfl (fun w hw=>zdT _ w (hw.fr (i:=0) rfl) n 0 511)) ?_;refine fb ?_;refine fm ?_;subst hk;exact eY
def kX (l:List GChoice):Bool:=
 dN (fun (_:Unit)=>
  true)
 (fun k1=>
  di (fun (i_3:Nat) (next2:Unit→Bool) (_:Unit)=>
   (bif ((!(jE ((cQ l i_3).Station)))||(!(zaP ((cQ l i_3).Channel) 2 51))) then
    false
    else
    (bif ((decide (0<(i_3:Int)))&&(decide ((cQ l i_3).Station≤(cQ l (((i_3:Int) - 1).toNat)).Station))) then
     false
     else
     next2 ())))
  (fun (_:Unit)=>
   k1 ()) (l.length - 0) 0 ())
theorem zcl (F0:Frz)(w:World)(hF0:F0.At w)(l:List GChoice)(vl:Value)(hl:SlC F0 vl 2 (l.map cW)):Calls Tryz.prog 42 #[vl] w fun e w'=>e= .returned (.bool (kX l))∧Below w.heap.size w w':=by
 obtain ⟨r,hk⟩:∃r,kX l=r:=⟨_,rfl⟩;rw [hk];unfold kX at hk;haveI:=hl.oneC;obtain ⟨S0,F1,rfl,hS0,hp0⟩:=fE hF0;refine dy Tryz.func42 rfl rfl rfl hp0 ?_;refine i5 ?_;refine q2b ?_;have hm6:l.length≤9223372036854775807:=(List.length_map _)▸hl.max;refine dL ?_;have hq:=eN hk;clear hk;obtain ⟨k1,hk1,hk⟩:=hq; (try dsimp only at hk);refine dk (ι:=Unit) (fun z=>[]) (fun z=>[.fr F1]) (fun z=>k1 ()=r) ?_ ?_
 ·have hq:=fS hk;clear hk;obtain ⟨f2,kk2,hf2,hkk2,hk⟩:=hq;refine fJ ?_;refine T.loop (ι:=Nat) (fun z=>[(0,vl),(5,vl),(6, .int .i64 (l.length:Int)),(7, .int .i64 (z:Int))]) (fun z=>[.fr F1]) (fun z=>di f2 kk2 (l.length - z) z ()=r) (fun z=>l.length - z) 0 ?_ ?_ ?_ ?_
  ·exact hk
  ·exact q4a
  ·exact fx
  ·rintro i_3 hk;refine eR ?_;refine T.cond rfl (fun h4=>?_) (fun h4=>?_)
   ·have p4:=of_decide_eq_true h4;rw [fT a5] at hk;generalize hn2:di f2 kk2 (l.length - (i_3+1)) (i_3+1)=next2 at hk;rw [←hf2] at hk; (try dsimp only at hk);refine fH ?_;refine dp ?_;refine cR (dH (i:=i_3) rfl rfl rfl hl (List.length_map _) rfl a5) ?_;refine cR (fV 0 (i:=i_3) rfl rfl rfl hl a5) ?_;refine gw ?_;rintro _ _ ⟨g4,rfl,rfl⟩;refine dp ?_;refine iW ?_;refine iZ ?_;refine dk (ι:=Unit) (fun z=>[(0,vl),(3, .int .i64 (i_3:Int)),(4, .pointer (some ⟨g4,0,none⟩)),(5,vl),(6, .int .i64 (l.length:Int)),(7, .int .i64 (i_3:Int)),(21, .bool ((!(jE ((cQ l i_3).Station)))||(!(zaP ((cQ l i_3).Channel) 2 51))))]) (fun z=>[.row g4 68 [.int .i64 ((cQ l i_3).Station), .int .i64 ((cQ l i_3).Channel)], .fr F1]) (fun z=>True) ?_ ?_
    ·refine q3S ?_;refine cX (cS rfl rfl rfl (fun w hw=>zdb _ w (hw.fr (i:=1) rfl) ((cQ l i_3).Station))) ?_;refine fb ?_;refine ez ?_;refine dO rfl rfl rfl (fun h5=>?_) (fun h5=>?_)
     ·refine mi ?_;exact c4 () trivial (.c (.c (.c (.c (.c (.c (.b (jA h5).symm .nil))))))) (List.Sublist.refl _)
     ·refine eX ?_;refine cX (cS rfl rfl rfl (fun w hw=>zdT _ w (hw.fr (i:=1) rfl) ((cQ l i_3).Channel) 2 51)) ?_;refine mq ?_;exact c4 () trivial (.c (.c (.c (.c (.c (.c (.b (iC h5) .nil))))))) (List.Sublist.refl _)
    ·rintro _ _;refine T.cond rfl (fun h6=>?_) (fun h6=>?_)
     ·replace hk:=dC hk h6;refine gh ?_;refine ml ?_;subst hk;exact eY
     ·replace hk:=dD hk h6;refine iK ?_;refine dk (ι:=Unit) (fun z=>[(0,vl),(5,vl),(6, .int .i64 (l.length:Int)),(7, .int .i64 (i_3:Int)),(34, .bool ((decide (0<(i_3:Int)))&&(decide ((cQ l i_3).Station≤(cQ l (((i_3:Int) - 1).toNat)).Station))))]) (fun z=>[.row g4 68 [.int .i64 ((cQ l i_3).Station), .int .i64 ((cQ l i_3).Channel)], .fr F1]) (fun z=>True) ?_ ?_
      ·refine q1d ?_;refine kj ?_;refine fC rfl rfl rfl rfl (fun h7=>?_) (fun h7=>?_)
       ·have p7:=of_decide_eq_true h7;refine gJ ?_;refine q1X ?_;refine q2d ?_;refine cZ rfl (ft 1 (i:=((i_3:Int) - 1).toNat) (j:=0) rfl rfl rfl hl a5) ?_;refine gD ?_;refine mA ?_;exact c4 () trivial (.c (.c (.c (.c (.b (mH h7) .nil))))) (List.Sublist.refl _)
       ·have p7:=of_decide_eq_false h7;refine TS.run 10 rfl ?_;refine ir ?_;exact c4 () trivial (.c (.c (.c (.c (.b (mE h7).symm .nil))))) (List.Sublist.refl _)
      ·rintro _ _;refine T.cond rfl (fun h8=>?_) (fun h8=>?_)
       ·have p8:=h8; (try simp only [c7] at p8);replace hk:=dC hk h8;refine jv ?_;subst hk;exact eY
       ·replace hk:=dD hk h8;refine gZ ?_;rw [←hn2] at hk;refine ll ?_;exact K.next (i_3+1) hk a5 (.c (.c (.c (.c .nil)))) (List.Sublist.refl _)
   ·have p4:=of_decide_eq_false h4;rw [fR a5,←hkk2] at hk; (try dsimp only at hk);refine fi ?_;exact lD
 ·rintro _ hk;rw [←hk1] at hk; (try dsimp only at hk);refine lC ?_;subst hk;exact eY
def zcY (p:GProblem):Option (Vec 512 (BitVec 64)):=
 dN (fun (c_1:Vec 512 (BitVec 64))=>
  some c_1)
 (fun k2=>
  di (fun (i_5:Nat) (next4:Vec 512 (BitVec 64)→Option (Vec 512 (BitVec 64))) (c_3:Vec 512 (BitVec 64))=>
   dU (0≤(cQ p.Domains i_5).Station∧(cQ p.Domains i_5).Station<(512:Int)) <|
   di (fun (i_9:Nat) (next8:Vec 512 (BitVec 64)→Option (Vec 512 (BitVec 64))) (c_7:Vec 512 (BitVec 64))=>
    dU (0≤(cQ ((cQ p.Domains i_5).Channels) i_9)∧(cQ ((cQ p.Domains i_5).Channels) i_9)<(64:Int)) <|
    next8 (Vec.put c_7 (((cQ p.Domains i_5).Station).toNat) ((Vec.get c_7 (((cQ p.Domains i_5).Station).toNat)) ||| ((1#64) <<< ((cQ ((cQ p.Domains i_5).Channels) i_9).toNat)))))
   (fun (c_7:Vec 512 (BitVec 64))=>
    next4 c_7) ((((cQ p.Domains i_5).Channels).length) - 0) 0 (Vec.put c_3 (((cQ p.Domains i_5).Station).toNat) (1#64)))
  (fun (c_3:Vec 512 (BitVec 64))=>
   k2 c_3) (p.Domains.length - 0) 0 (Vec.fill 512 (0#64)))
theorem zfY (F0:Frz)(w:World)(hF0:F0.At w)(p:GProblem)(vp_0:Value)(cp_0:List (List Value))(hp_0:SlD cT F0 vp_0 2 cp_0 p.Domains)(vp_1:Value)(hp_1:SlC F0 vp_1 5 (p.Rules.Pairs.map dh))(vp_2:Value)(hp_2:SlC F0 vp_2 5 (p.Rules.Loads.map dl))(vp_3:Value)(hp_3:SlC F0 vp_3 4 (p.Rules.Caps.map dv))(r:Vec 512 (BitVec 64))(hr:zcY p=some r):Calls Tryz.prog 118 #[.agg [vp_0,vp_1,vp_2,vp_3].toArray] w fun e w'=>e= .returned (.agg (r.1.map U).toArray)∧Below w.heap.size w w':=by
 have hk:=hr;unfold zcY at hk;haveI:=hp_0.1.oneC;haveI:=hp_1.oneC;haveI:=hp_2.oneC;haveI:=hp_3.oneC;obtain ⟨S0,F1,rfl,hS0,hp0⟩:=fE hF0;refine dy Tryz.func118 rfl rfl rfl hp0 ?_;refine kg ?_;rintro _ _ ⟨g1,rfl,rfl⟩;refine cX (lw (l:=((Vec.fill 512 (0#64)).1.map U)) rfl a7) ?_;rintro _ _ ⟨g2,rfl,rfl⟩;refine dR ?_;refine cX (lw (l:=((Vec.fill 512 (0#64)).1.map U)) rfl a7) ?_;rintro _ _ ⟨g3,rfl,rfl⟩;refine iM ?_;refine mg ?_;refine cR (dA rfl rfl hp_0.1 hp_0.2.1) ?_;have hm10:p.Domains.length≤9223372036854775807:=hp_0.2.1▸hp_0.1.max;refine dL ?_;have hq:=eN hk;clear hk;obtain ⟨k2,hk2,hk⟩:=hq; (try dsimp only at hk);refine dk (ι:=Vec 512 (BitVec 64)) (fun z=>[(2, .pointer (some ⟨g2,0,none⟩)),(3, .pointer (some ⟨g3,0,none⟩))]) (fun z=>[.row g3 141 (z.1.map U), .row g2 141 ((Vec.fill 512 (0#64)).1.map U), .fr F1]) (fun z=>k2 z=some r) ?_ ?_
 ·have hq:=fS hk;clear hk;obtain ⟨f4,kk4,hf4,hkk4,hk⟩:=hq;refine fJ ?_;refine T.pick [0,1,3] rfl a6 ?_;refine T.loop (ι:=Nat×Vec 512 (BitVec 64)) (fun z=>[(2, .pointer (some ⟨g2,0,none⟩)),(3, .pointer (some ⟨g3,0,none⟩)),(9,vp_0),(10, .int .i64 (p.Domains.length:Int)),(11, .int .i64 (z.1:Int))]) (fun z=>[.row g3 141 (z.2.1.map U), .row g2 141 ((Vec.fill 512 (0#64)).1.map U), .fr F1]) (fun z=>di f4 kk4 (p.Domains.length - z.1) z.1 z.2=some r) (fun z=>p.Domains.length - z.1) (0,(Vec.fill 512 (0#64))) ?_ ?_ ?_ ?_
  ·exact hk
  ·exact l9
  ·exact fx
  ·rintro ⟨i_5,c_3⟩ hk; (try dsimp only at *);refine eR ?_;refine T.cond rfl (fun h6=>?_) (fun h6=>?_)
   ·have p6:=of_decide_eq_true h6;rw [fT a5] at hk;generalize hn4:di f4 kk4 (p.Domains.length - (i_5+1)) (i_5+1)=next4 at hk;rw [←hf4] at hk; (try dsimp only at hk);refine fH ?_;refine q2W ?_;have hd14_1:=(GDomain.c1 (hp_0.2.2 i_5 a5)).2;haveI:=hd14_1.oneC;refine gw ?_;rintro _ _ ⟨g5,rfl,rfl⟩;refine iW ?_;refine gU ?_;have hq:(0≤(cQ p.Domains i_5).Station∧(cQ p.Domains i_5).Station<(512:Int))∧_:=eW hk;clear hk;obtain ⟨g17,hk⟩:=hq; (try dsimp only at hk);refine q3S ?_;refine cR (ep (i:=((cQ p.Domains i_5).Station).toNat) rfl rfl rfl a5 a5) ?_;refine eE (hJ 1 ((Vec.put c_3 (((cQ p.Domains i_5).Station).toNat) (1#64)).1.map U) rfl rfl rfl rfl b7 (zgQ a5 (Vec.upd (x:=c_3) (f:=U) (i:=((cQ p.Domains i_5).Station).toNat) (v:=1#64) a5))) ?_;refine fb ?_;refine dR ?_;refine eX ?_;refine cR (dA rfl rfl hd14_1 (List.length_map _)) ?_;have hm20:((cQ p.Domains i_5).Channels).length≤9223372036854775807:=(List.length_map _)▸hd14_1.max;refine dL ?_;have hq:=fS hk;clear hk;obtain ⟨f8,kk8,hf8,hkk8,hk⟩:=hq;refine fJ ?_;refine T.pick [1,0,2,3] rfl a6 ?_;refine T.loop (ι:=Nat×Vec 512 (BitVec 64)) (fun z=>[(2, .pointer (some ⟨g2,0,none⟩)),(3, .pointer (some ⟨g3,0,none⟩)),(5, .pointer (some ⟨g5,0,none⟩)),(9,vp_0),(10, .int .i64 (p.Domains.length:Int)),(11, .int .i64 (i_5:Int)),(19,(cQ (cQ cp_0 i_5) 1)),(20, .int .i64 (((cQ p.Domains i_5).Channels).length:Int)),(21, .int .i64 (z.1:Int))]) (fun z=>[.row g3 141 (z.2.1.map U), .row g5 98 [.int .i64 ((cQ p.Domains i_5).Station),(cQ (cQ cp_0 i_5) 1)], .row g2 141 ((Vec.fill 512 (0#64)).1.map U), .fr F1]) (fun z=>di f8 kk8 ((((cQ p.Domains i_5).Channels).length) - z.1) z.1 z.2=some r) (fun z=>(((cQ p.Domains i_5).Channels).length) - z.1) (0,(Vec.put c_3 (((cQ p.Domains i_5).Station).toNat) (1#64))) ?_ ?_ ?_ ?_
    ·exact hk
    ·exact q4s
    ·exact fx
    ·rintro ⟨i_9,c_7⟩ hk; (try dsimp only at *);refine eR ?_;refine T.cond rfl (fun h10=>?_) (fun h10=>?_)
     ·have p10:=of_decide_eq_true h10;rw [fT a5] at hk;generalize hn8:di f8 kk8 ((((cQ p.Domains i_5).Channels).length) - (i_9+1)) (i_9+1)=next8 at hk;rw [←hf8] at hk; (try dsimp only at hk);refine fH ?_;refine cR (dH (i:=i_9) rfl rfl rfl hd14_1 (List.length_map _) rfl a5) ?_;refine cR (ft 3 (i:=i_9) (j:=0) rfl rfl rfl hd14_1 a5) ?_;refine dL ?_;have hq:(0≤(cQ ((cQ p.Domains i_5).Channels) i_9)∧(cQ ((cQ p.Domains i_5).Channels) i_9)<(64:Int))∧_:=eW hk;clear hk;obtain ⟨g30,hk⟩:=hq; (try dsimp only at hk);refine d8 (sN 0 3 (sN 4 2 (.eff 3 (sN 6 2 (.eff 8 .done))))) [.row g5 98 [.int .i64 ((cQ p.Domains i_5).Station),(cQ (cQ cp_0 i_5) 1)], .row g2 141 ((Vec.fill 512 (0#64)).1.map U), .fr F1] a7 Sx ?_;refine gD ?_;refine cZ rfl (ep (i:=((cQ p.Domains i_5).Station).toNat) rfl rfl rfl a5 a5) ?_;refine gj ?_;refine cZ rfl (gG (a:=1#64) ((cQ ((cQ p.Domains i_5).Channels) i_9).toNat) rfl rfl rfl a5 a5) ?_;refine dQ ?_;refine ga rfl (Wt.none) rfl rfl (da 0 rfl rfl rfl (lH a5 (Vec.cell (i:=((cQ p.Domains i_5).Station).toNat) a5))) (fun w hw=>hw.sub Sx) ?_;refine cZ rfl (gg (a:=(Vec.get c_7 (((cQ p.Domains i_5).Station).toNat))) (b:=((1#64) <<< ((cQ ((cQ p.Domains i_5).Channels) i_9).toNat)))) ?_;refine cZ rfl (ep (i:=((cQ p.Domains i_5).Station).toNat) rfl rfl rfl a5 a5) ?_;refine dQ ?_;refine iP rfl (Wt.none) rfl (hJ 0 ((Vec.put c_7 (((cQ p.Domains i_5).Station).toNat) ((Vec.get c_7 (((cQ p.Domains i_5).Station).toNat)) ||| ((1#64) <<< ((cQ ((cQ p.Domains i_5).Channels) i_9).toNat)))).1.map U) rfl rfl rfl rfl b7 (zgQ a5 (Vec.upd (x:=c_7) (f:=U) (i:=((cQ p.Domains i_5).Station).toNat) (v:=((Vec.get c_7 (((cQ p.Domains i_5).Station).toNat)) ||| ((1#64) <<< ((cQ ((cQ p.Domains i_5).Channels) i_9).toNat)))) a5))) ?_;refine lT ?_;refine q1t ?_;rw [←hn8] at hk;exact K.next ((i_9+1),(Vec.put c_7 (((cQ p.Domains i_5).Station).toNat) ((Vec.get c_7 (((cQ p.Domains i_5).Station).toNat)) ||| ((1#64) <<< ((cQ ((cQ p.Domains i_5).Channels) i_9).toNat))))) hk a9 (.c (.c (.c (.c (.c (.c (.c (.c (.c .nil))))))))) (List.Sublist.refl _)
     ·have p10:=of_decide_eq_false h10;rw [fR a5,←hkk8] at hk; (try dsimp only at hk);refine q2N ?_;refine ka ?_;rw [←hn4] at hk;refine K.pick [0,2,3] rfl a6 ?_;exact K.next ((i_5+1),c_7) hk a9 (.c (.c (.c (.c (.c .nil))))) (List.Sublist.refl _)
   ·have p6:=of_decide_eq_false h6;rw [fR a5,←hkk4] at hk; (try dsimp only at hk);refine fi ?_;exact c4 c_3 hk (.c (.c .nil)) (List.Sublist.refl _)
 ·rintro c_1 hk;rw [←hk2] at hk; (try dsimp only at hk);refine q3E ?_;obtain rfl:=Option.some.inj hk;exact kB 1 rfl rfl rfl Vec.len (fun w' hw=>⟨rfl,hw.isBelow⟩)
def zci (p0_:GProblem)(m0_:List GDomain×Bool):Option (Vec 512 Int):=
 dN (fun (c_1:Vec 512 Int)=>
  some c_1)
 (fun k2=>
  di (fun (i_5:Nat) (next4:Vec 512 Int→Option (Vec 512 Int)) (c_3:Vec 512 Int)=>
   dU (0≤(cQ (ja m0_) i_5).Station∧(cQ (ja m0_) i_5).Station<(512:Int)) <|
   next4 (Vec.put c_3 (((cQ (ja m0_) i_5).Station).toNat) ((cQ (ja m0_) i_5).Channel)))
  (fun (c_3:Vec 512 Int)=>
   k2 c_3) (((ja m0_).length) - 0) 0 (Vec.fill 512 0))
theorem zea (F0:Frz)(w:World)(hF0:F0.At w)(p0_:GProblem)(m0_:List GDomain×Bool)(k0_:SK)(v0_:Value)(L0_:Ws)(hs0_:SI p0_ m0_ k0_ L0_)(tf0_:TbF F0 k0_)(htab:Tab w)(hO:Hp w (dj [eL k0_ v0_ L0_ (!m0_.2)]) [eL k0_ v0_ L0_ (!m0_.2)] w)(hA:∀g,dj [eL k0_ v0_ L0_ (!m0_.2)] g→¬F0.S g)(hZ:¬dj [eL k0_ v0_ L0_ (!m0_.2)] 0)(r:Vec 512 Int)(hr:zci p0_ m0_=some r):Calls Tryz.prog 146 #[.pointer (some ⟨k0_.sp,0,none⟩)] w fun e w'=>∃(y:Unit) (G:Frz),(True)∧e= .returned (.agg (r.1.map vI).toArray)∧FxM F0 w (dj [eL k0_ v0_ L0_ (!m0_.2)]) G [eL k0_ v0_ L0_ (!m0_.2)] w':=by
 have hk:=hr;unfold zci at hk;obtain ⟨S0,F1,rfl,hS0,hp0⟩:=ij hF0 hO hA;have hM0:=hZ;have htk:∀ {hs:HS} {w':World},Hp w (dj [eL k0_ v0_ L0_ (!m0_.2)]) hs w'→Tab w':=fun hw=>htab.kept hw hZ;refine dy (hs:=[eL k0_ v0_ L0_ (!m0_.2), .fr F1]) Tryz.func146 rfl rfl rfl hp0 ?_;refine dm ?_;refine q3T ?_;rintro _ _ ⟨g2,rfl,rfl⟩;refine dR ?_;refine q3T ?_;rintro _ _ ⟨g3,rfl,rfl⟩;refine mP ?_;refine cX (eg 3 rfl rfl rfl rfl (fun w hw hF=>zlv hs0_ tf0_ (hw.get (i:=2) rfl) (hw.fr (i:=3) rfl) (htk hw))) ?_;rintro _ _ ⟨v7_,F2,le1_2,hf7,hq,rfl⟩;obtain rfl:=hq.symm;haveI:=hf7.oneC;refine cR (dA rfl rfl hf7 (List.length_map _)) ?_;have hm8:(ja m0_).length≤9223372036854775807:=(List.length_map _)▸hf7.max;refine dL ?_;have hq:=eN hk;clear hk;obtain ⟨k2,hk2,hk⟩:=hq; (try dsimp only at hk);refine dk (ι:=Vec 512 Int) (fun z=>[(2, .pointer (some ⟨g2,0,none⟩)),(3, .pointer (some ⟨g3,0,none⟩))]) (fun z=>[.row g3 204 (z.1.map vI), .row g2 204 ((Vec.fill 512 0).1.map vI),eL k0_ v0_ L0_ (!m0_.2), .fr F2]) (fun z=>k2 z=some r) ?_ ?_
 ·have hq:=fS hk;clear hk;obtain ⟨f4,kk4,hf4,hkk4,hk⟩:=hq;refine fJ ?_;refine T.loop (ι:=Nat×Vec 512 Int) (fun z=>[(2, .pointer (some ⟨g2,0,none⟩)),(3, .pointer (some ⟨g3,0,none⟩)),(7,v7_),(8, .int .i64 ((ja m0_).length:Int)),(9, .int .i64 (z.1:Int))]) (fun z=>[.row g3 204 (z.2.1.map vI), .row g2 204 ((Vec.fill 512 0).1.map vI),eL k0_ v0_ L0_ (!m0_.2), .fr F2]) (fun z=>di f4 kk4 (((ja m0_).length) - z.1) z.1 z.2=some r) (fun z=>((ja m0_).length) - z.1) (0,(Vec.fill 512 0)) ?_ ?_ ?_ ?_
  ·exact hk
  ·exact l9
  ·exact fx
  ·rintro ⟨i_5,c_3⟩ hk; (try dsimp only at *);refine eR ?_;refine T.cond rfl (fun h6=>?_) (fun h6=>?_)
   ·have p6:=of_decide_eq_true h6;rw [fT a5] at hk;generalize hn4:di f4 kk4 (((ja m0_).length) - (i_5+1)) (i_5+1)=next4 at hk;rw [←hf4] at hk; (try dsimp only at hk);refine fH ?_;refine cR (dH (i:=i_5) rfl rfl rfl hf7 (List.length_map _) rfl a5) ?_;refine cR (fV 3 (i:=i_5) rfl rfl rfl hf7 a5) ?_;refine gw ?_;rintro _ _ ⟨g5,rfl,rfl⟩;refine iW ?_;refine TL.ns ?_;have hq:(0≤(cQ (ja m0_) i_5).Station∧(cQ (ja m0_) i_5).Station<(512:Int))∧_:=eW hk;clear hk;obtain ⟨g17,hk⟩:=hq; (try dsimp only at hk);refine q3S ?_;refine eX ?_;refine cR (ep (i:=((cQ (ja m0_) i_5).Station).toNat) rfl rfl rfl a5 a5) ?_;refine eE (hJ 1 ((Vec.put c_3 (((cQ (ja m0_) i_5).Station).toNat) ((cQ (ja m0_) i_5).Channel)).1.map vI) rfl rfl rfl rfl b7 (zgQ a5 (Vec.upd (x:=c_3) (f:=vI) (i:=((cQ (ja m0_) i_5).Station).toNat) (v:=(cQ (ja m0_) i_5).Channel) a5))) ?_;refine fb ?_;refine l6 ?_;rw [←hn4] at hk;refine K.pick [1,2,3,4] rfl a6 ?_;exact K.next ((i_5+1),(Vec.put c_3 (((cQ (ja m0_) i_5).Station).toNat) ((cQ (ja m0_) i_5).Channel))) hk a9 (.c (.c (.c (.c (.c .nil))))) (List.Sublist.refl _)
   ·have p6:=of_decide_eq_false h6;rw [fR a5,←hkk4] at hk; (try dsimp only at hk);refine fi ?_;exact c4 c_3 hk (.c (.c .nil)) (List.Sublist.refl _)
 ·rintro c_1 hk;rw [←hk2] at hk; (try dsimp only at hk);refine q3E ?_;obtain rfl:=Option.some.inj hk;exact kB 1 rfl rfl rfl Vec.len (fun w' hw=>⟨⟨⟩,F2.toFrz,trivial,rfl,dc (hw.pick (idx:=[2,3]) rfl a6) hS0 le1_2⟩)
def zdo (p0_:GProblem)(m0_:List GDomain×Bool)(x1_:Vec 512 Int)(g_:List GChoice):Option (GChoice×Bool):=
 dN (fun (s6:Int×Int×Int×Int×Int)=>
  (bif ((decide (s6.1=0))&&(decide (0<(g_.length:Int)))) then
   some ((cQ g_ 0),true)
   else
   some ((GChoice.mk s6.2.2.2.1 s6.2.2.2.2),((decide (s6.1=0))||(zlh m0_ (GChoice.mk s6.2.2.2.1 s6.2.2.2.2))))))
 (fun k6=>
  di (fun (i_13:Nat) (next12:(Int×Int×Int×Int×Int)→Option (GChoice×Bool)) (s12:Int×Int×Int×Int×Int)=>
   dU (0≤(cQ g_ i_13).Station∧(cQ g_ i_13).Station<(512:Int)) <|
   dN (fun (s18:Int×Int×Int)=>
    (bif decide (1<s18.1) then
     some ((GChoice.mk 0 0),false)
     else
     next12 (s18.1,s12.2.1,s12.2.2.1,s18.2.1,s18.2.2)))
   (fun k18=>
    (bif decide (¬(Vec.get x1_ (((cQ g_ i_13).Station).toNat))=(cQ g_ i_13).Channel) then
     k18 (wI (s12.1+1),(cQ g_ i_13).Station,(cQ g_ i_13).Channel)
     else
     k18 (s12.1,s12.2.2.2.1,s12.2.2.2.2))))
  (fun (s12:Int×Int×Int×Int×Int)=>
   k6 (s12.1,s12.2.1,s12.2.2.1,s12.2.2.2.1,s12.2.2.2.2)) (g_.length - 0) 0 (0,0,0,0,0))
theorem zgF (F0:Frz)(w:World)(hF0:F0.At w)(p0_:GProblem)(m0_:List GDomain×Bool)(k0_:SK)(v0_:Value)(L0_:Ws)(hs0_:SI p0_ m0_ k0_ L0_)(tf0_:TbF F0 k0_)(x1_:Vec 512 Int)(g1_:Nat)(g_:List GChoice)(vg_:Value)(hg_:SlC F0 vg_ 2 (g_.map cW))(htab:Tab w)(hO:Hp w (dj [eL k0_ v0_ L0_ (!m0_.2), .row g1_ 204 (x1_.1.map vI)]) [eL k0_ v0_ L0_ (!m0_.2), .row g1_ 204 (x1_.1.map vI)] w)(hA:∀g,dj [eL k0_ v0_ L0_ (!m0_.2), .row g1_ 204 (x1_.1.map vI)] g→¬F0.S g)(hZ:¬dj [eL k0_ v0_ L0_ (!m0_.2), .row g1_ 204 (x1_.1.map vI)] 0)(r:GChoice×Bool)(hr:zdo p0_ m0_ x1_ g_=some r):Calls Tryz.prog 147 #[.pointer (some ⟨k0_.sp,0,none⟩), .pointer (some ⟨g1_,0,none⟩),vg_] w fun e w'=>∃(y:Unit),(True)∧e= .returned (.tuple #[.agg [.int .i64 r.1.Station, .int .i64 r.1.Channel].toArray, .bool r.2])∧FxM F0 w (dj [eL k0_ v0_ L0_ (!m0_.2), .row g1_ 204 (x1_.1.map vI)]) F0 [eL k0_ v0_ L0_ (!m0_.2), .row g1_ 204 (x1_.1.map vI)] w':=by
 have hk:=hr;unfold zdo at hk;haveI:=hg_.oneC;obtain ⟨S0,F1,rfl,hS0,hp0⟩:=ij hF0 hO hA;have hM0:=hZ;have htk:∀ {hs:HS} {w':World},Hp w (dj [eL k0_ v0_ L0_ (!m0_.2), .row g1_ 204 (x1_.1.map vI)]) hs w'→Tab w':=fun hw=>htab.kept hw hZ;refine dy (hs:=[eL k0_ v0_ L0_ (!m0_.2), .row g1_ 204 (x1_.1.map vI), .fr F1]) Tryz.func147 rfl rfl rfl hp0 ?_;refine dm ?_;refine gw ?_;rintro _ _ ⟨g6,rfl,rfl⟩;refine gz ?_;refine gw ?_;rintro _ _ ⟨g8,rfl,rfl⟩;refine dR ?_;refine l5 ?_;refine cR (dA rfl rfl hg_ (List.length_map _)) ?_;have hm13:g_.length≤9223372036854775807:=(List.length_map _)▸hg_.max;refine dL ?_;have hq:=eN hk;clear hk;obtain ⟨k6,hk6,hk⟩:=hq; (try dsimp only at hk);refine dk (ι:=Int×Int×Int×Int×Int) (fun z=>[(0, .pointer (some ⟨k0_.sp,0,none⟩)),(2,vg_),(6, .pointer (some ⟨g6,0,none⟩)),(8, .pointer (some ⟨g8,0,none⟩)),(9, .int .i64 z.1)]) (fun z=>[.row g6 68 [.int .i64 z.2.1, .int .i64 z.2.2.1], .row g8 68 [.int .i64 z.2.2.2.1, .int .i64 z.2.2.2.2],eL k0_ v0_ L0_ (!m0_.2), .row g1_ 204 (x1_.1.map vI), .fr F1]) (fun z=>k6 (z.1,z.2.1,z.2.2.1,z.2.2.2.1,z.2.2.2.2)=some r) ?_ ?_
 ·have hq:=fS hk;clear hk;obtain ⟨f12,kk12,hf12,hkk12,hk⟩:=hq;refine fJ ?_;refine T.pick [1,0,2,3,4] rfl a6 ?_;refine T.loop (ι:=Nat×Int×Int×Int×Int×Int) (fun z=>[(0, .pointer (some ⟨k0_.sp,0,none⟩)),(1, .pointer (some ⟨g1_,0,none⟩)),(2,vg_),(6, .pointer (some ⟨g6,0,none⟩)),(8, .pointer (some ⟨g8,0,none⟩)),(9, .int .i64 z.2.1),(12,vg_),(13, .int .i64 (g_.length:Int)),(14, .int .i64 (z.1:Int))]) (fun z=>[.row g6 68 [.int .i64 z.2.2.1, .int .i64 z.2.2.2.1], .row g8 68 [.int .i64 z.2.2.2.2.1, .int .i64 z.2.2.2.2.2],eL k0_ v0_ L0_ (!m0_.2), .row g1_ 204 (x1_.1.map vI), .fr F1]) (fun z=>di f12 kk12 (g_.length - z.1) z.1 (z.2.1,z.2.2.1,z.2.2.2.1,z.2.2.2.2.1,z.2.2.2.2.2)=some r) (fun z=>g_.length - z.1) (0,0,0,0,0,0) ?_ ?_ ?_ ?_
  ·exact hk
  ·exact q4s
  ·exact fx
  ·rintro ⟨i_13,n_7,c_8,c_9,c_10,c_11⟩ hk; (try dsimp only at *);refine eR ?_;refine T.cond rfl (fun h14=>?_) (fun h14=>?_)
   ·have p14:=of_decide_eq_true h14;rw [fT a5] at hk;generalize hn12:di f12 kk12 (g_.length - (i_13+1)) (i_13+1)=next12 at hk;rw [←hf12] at hk; (try dsimp only at hk);refine fH ?_;refine cR (dH (i:=i_13) rfl rfl rfl hg_ (List.length_map _) rfl a5) ?_;refine cR (fV 4 (i:=i_13) rfl rfl rfl hg_ a5) ?_;refine gw ?_;rintro _ _ ⟨g11,rfl,rfl⟩;refine iW ?_;refine iZ ?_;have hq:(0≤(cQ g_ i_13).Station∧(cQ g_ i_13).Station<(512:Int))∧_:=eW hk;clear hk;obtain ⟨g22,hk⟩:=hq; (try dsimp only at hk);refine q14 ?_;refine gj ?_;refine gD ?_;refine gj ?_;refine cZ rfl (ep (i:=((cQ g_ i_13).Station).toNat) rfl rfl rfl a5 a5) ?_;refine cZ rfl (da 4 rfl rfl rfl (lH a5 (Vec.cell (i:=((cQ g_ i_13).Station).toNat) a5))) ?_;refine gD ?_;refine kQ ?_;have hq:=eN hk;clear hk;obtain ⟨k18,hk18,hk⟩:=hq; (try dsimp only at hk);refine dk (ι:=Int×Int×Int) (fun z=>[(0, .pointer (some ⟨k0_.sp,0,none⟩)),(1, .pointer (some ⟨g1_,0,none⟩)),(2,vg_),(6, .pointer (some ⟨g6,0,none⟩)),(8, .pointer (some ⟨g8,0,none⟩)),(9, .int .i64 z.1),(12,vg_),(13, .int .i64 (g_.length:Int)),(14, .int .i64 (i_13:Int))]) (fun z=>[.row g8 68 [.int .i64 z.2.1, .int .i64 z.2.2], .row g6 68 [.int .i64 c_8, .int .i64 c_9],eL k0_ v0_ L0_ (!m0_.2), .row g1_ 204 (x1_.1.map vI), .fr F1]) (fun z=>k18 (z.1,z.2.1,z.2.2)=some r) ?_ ?_
    ·refine T.cond rfl (fun h19=>?_) (fun h19=>?_)
     ·have p19:=of_decide_eq_true h19;replace hk:=dC hk h19;refine dm ?_;refine iu ?_;refine eE (dF 2) ?_;refine fb ?_;refine TL.ns (T.region ?_);refine kd ?_;refine K.pick [2,1,3,4,5] rfl a6 ?_;exact c4 (wI (n_7+1),(cQ g_ i_13).Station,(cQ g_ i_13).Channel) hk (.c (.c (.c (.c (.c (.c (.c (.c (.c .nil))))))))) (List.Sublist.refl _)
     ·have p19:=of_decide_eq_false h19;replace hk:=dD hk h19;refine T.skip ?_;refine K.pick [2,1,3,4,5] rfl a6 ?_;exact c4 (n_7,c_10,c_11) hk (.c (.c (.c (.c (.c (.c (.c (.c (.c .nil))))))))) (List.Sublist.refl _)
    ·rintro ⟨n_15,c_16,c_17⟩ hk; (try dsimp only at *);rw [←hk18] at hk; (try dsimp only at hk);refine iD ?_;refine TL.ns ?_;refine T.cond rfl (fun h20=>?_) (fun h20=>?_)
     ·have p20:=of_decide_eq_true h20;replace hk:=dC hk h20;refine q3Q ?_;refine q2X ?_;obtain rfl:=Option.some.inj hk;exact fO 1 rfl rfl rfl rfl rfl (fun w' hw=>⟨⟨⟩,trivial,rfl,dc (hw.pick (idx:=[2,3,4]) rfl a6) hS0 (Frz.Le.refl _)⟩)
     ·have p20:=of_decide_eq_false h20;replace hk:=dD hk h20;refine gZ ?_;rw [←hn12] at hk;refine K.pick [1,0,2,3,4] rfl a6 ?_;exact K.next ((i_13+1),n_15,c_8,c_9,c_16,c_17) hk a9 (.c (.c (.c (.c (.c (.c (.c (.c (.c .nil))))))))) (List.Sublist.refl _)
   ·have p14:=of_decide_eq_false h14;rw [fR a5,←hkk12] at hk; (try dsimp only at hk);refine fi ?_;exact c4 (n_7,c_8,c_9,c_10,c_11) hk (.c (.c (.c (.c (.c .nil))))) (List.Sublist.refl _)
 ·rintro ⟨n_1,c_2,c_3,c_4,c_5⟩ hk; (try dsimp only at *);rw [←hk6] at hk; (try dsimp only at hk);refine T.seq (T.seq ?_);refine dk (ι:=Unit) (fun z=>[(0, .pointer (some ⟨k0_.sp,0,none⟩)),(2,vg_),(6, .pointer (some ⟨g6,0,none⟩)),(8, .pointer (some ⟨g8,0,none⟩)),(9, .int .i64 n_1),(40, .bool ((decide (n_1=0))&&(decide (0<(g_.length:Int)))))]) (fun z=>[.row g6 68 [.int .i64 c_2, .int .i64 c_3], .row g8 68 [.int .i64 c_4, .int .i64 c_5],eL k0_ v0_ L0_ (!m0_.2), .row g1_ 204 (x1_.1.map vI), .fr F1]) (fun z=>True) ?_ ?_
  ·refine lU ?_;refine dO rfl rfl rfl (fun h21=>?_) (fun h21=>?_)
   ·have p21:=of_decide_eq_true h21;refine dp ?_;refine cR (dA rfl rfl hg_ (List.length_map _)) ?_;refine q1W ?_;exact c4 () trivial (.c (.c (.c (.c (.c (.b (mH h21) .nil)))))) (List.Sublist.refl _)
   ·have p21:=of_decide_eq_false h21;refine lY ?_;exact c4 () trivial (.c (.c (.c (.c (.c (.b (mE h21).symm .nil)))))) (List.Sublist.refl _)
  ·rintro _ _;refine T.cond rfl (fun h22=>?_) (fun h22=>?_)
   ·have p22:=h22; (try simp only [c7] at p22);replace hk:=dC hk h22;refine gh ?_;refine cR (dH (i:=0) rfl rfl rfl hg_ (List.length_map _) (show (0:Int)=((0:Nat):Int) from rfl) a5) ?_;refine cR (fV 4 (i:=0) rfl rfl rfl hg_ a5) ?_;refine iW ?_;refine dp ?_;refine kh ?_;obtain rfl:=Option.some.inj hk;exact q4M
   ·replace hk:=dD hk h22;refine iK ?_;refine dk (ι:=Unit) (fun z=>[(6, .pointer (some ⟨g6,0,none⟩)),(7, .bool ((decide (n_1=0))||(zlh m0_ (GChoice.mk c_4 c_5))))]) (fun z=>[.row g6 68 [.int .i64 c_4, .int .i64 c_5], .row g8 68 [.int .i64 c_4, .int .i64 c_5],eL k0_ v0_ L0_ (!m0_.2), .row g1_ 204 (x1_.1.map vI), .fr F1]) (fun z=>True) ?_ ?_
    ·refine d8 (sN 0 6 (.eff 6 (.still 7 (.eff 8 (.still 9 .done))))) [.row g8 68 [.int .i64 c_4, .int .i64 c_5],eL k0_ v0_ L0_ (!m0_.2), .row g1_ 204 (x1_.1.map vI), .fr F1] a7 Sx ?_;refine q2n ?_;refine kj ?_;refine fC rfl rfl rfl rfl (fun h23=>?_) (fun h23=>?_)
     ·have p23:=of_decide_eq_true h23;refine gJ ?_;refine jK ?_;refine gj ?_;refine dQ ?_;refine iP rfl (Wt.none) rfl (dF 0) ?_;refine lT ?_;refine q0N ?_;exact c4 () trivial (.c (.b (jA h23).symm .nil)) (List.Sublist.refl _)
     ·have p23:=of_decide_eq_false h23;refine gj ?_;refine q2n ?_;refine dQ ?_;refine dx rfl (Wt.some) rfl rfl (cS rfl rfl rfl (fun w hw=>zon hs0_ tf0_ (hw.get (i:=2) rfl) (hw.fr (i:=4) rfl) (htk hw) (GChoice.mk c_4 c_5))) ?_;refine lT ?_;refine gj ?_;refine dQ ?_;refine iP rfl (Wt.none) rfl (dF 0) ?_;refine lT ?_;refine q0N ?_;exact c4 () trivial (.c (.b (iC h23) .nil)) (List.Sublist.refl _)
    ·rintro _ _;refine T.ret ?_;obtain rfl:=Option.some.inj hk;exact q4M
def zaD (x0_:GStore):Bool:=
 false
theorem za7 (F0:Frz)(w:World)(hF0:F0.At w)(x0_:GStore)(g0_:Nat)(k0_512:SK)(v0_512:Value)(L0_512:Ws)(hs0_512:SI x0_.start.1 x0_.start.2 k0_512 L0_512)(tf0_512:TbF F0 k0_512)(zf0_512:SzF F0 k0_512 v0_512 L0_512 (!x0_.start.2.2))(v0_513:Value)(c0_513:List (List Value))(h0_513:OwnD cP F0 1 c0_513 x0_.list)(hO:Hp w (dj [.row g0_ 144 ((x0_.domains.1.map U)++[.pointer (some ⟨k0_512.sp,0,none⟩),v0_513]), .sl v0_513 50 1 x0_.list.length c0_513.flatten]) [.row g0_ 144 ((x0_.domains.1.map U)++[.pointer (some ⟨k0_512.sp,0,none⟩),v0_513]), .sl v0_513 50 1 x0_.list.length c0_513.flatten] w)(hA:∀g,dj [.row g0_ 144 ((x0_.domains.1.map U)++[.pointer (some ⟨k0_512.sp,0,none⟩),v0_513]), .sl v0_513 50 1 x0_.list.length c0_513.flatten] g→¬F0.S g):Calls Tryz.prog 81 #[.pointer (some ⟨g0_,0,none⟩)] w fun e w'=>∃(y:Unit),(True)∧e= .returned (.bool (zaD x0_))∧FxM F0 w (dj [.row g0_ 144 ((x0_.domains.1.map U)++[.pointer (some ⟨k0_512.sp,0,none⟩),v0_513]), .sl v0_513 50 1 x0_.list.length c0_513.flatten]) F0 [.row g0_ 144 ((x0_.domains.1.map U)++[.pointer (some ⟨k0_512.sp,0,none⟩),v0_513]), .sl v0_513 50 1 x0_.list.length c0_513.flatten] w':=by
 obtain ⟨r,hk⟩:∃r,zaD x0_=r:=⟨_,rfl⟩;rw [hk];unfold zaD at hk;haveI:=iJ (hO.own (.sl v0_513 50 1 x0_.list.length c0_513.flatten) a8);have hmx0_513:=i3 (hO.own (.sl v0_513 50 1 x0_.list.length c0_513.flatten) a8);obtain ⟨S0,F1,rfl,hS0,hp0⟩:=ij hF0 hO hA;refine dy (hs:=[.row g0_ 144 ((x0_.domains.1.map U)++[.pointer (some ⟨k0_512.sp,0,none⟩),v0_513]), .sl v0_513 50 1 x0_.list.length c0_513.flatten, .fr F1]) Tryz.func81 rfl rfl rfl hp0 ?_;refine eR ?_;refine dk (ι:=Unit) (fun z=>[(2, .bool false)]) (fun z=>[.row g0_ 144 ((x0_.domains.1.map U)++[.pointer (some ⟨k0_512.sp,0,none⟩),v0_513]), .sl v0_513 50 1 x0_.list.length c0_513.flatten, .fr F1]) (fun z=>True) ?_ ?_
 ·refine fk ?_;refine cR (m6 (e:=144) a7 rfl rfl rfl) ?_;refine fF ?_;refine q3C ?_;refine cR (m6 (e:=188) a7 rfl rfl rfl) ?_;refine q1W ?_;exact q4t
 ·rintro _ _;refine T.ret ?_;subst hk;exact q38
def zaS (x0_:GStore)(g_:List GChoice):Option Bool:=
 (bif !(kX g_) then
  some false
  else
  dN (fun (_:Unit)=>
   some true)
  (fun k2=>
   di (fun (i_4:Nat) (next3:Unit→Option Bool) (_:Unit)=>
    dU (0≤(cQ g_ i_4).Station∧(cQ g_ i_4).Station<(512:Int)) <|
    dU (0≤(cQ g_ i_4).Channel∧(cQ g_ i_4).Channel<(64:Int)) <|
    (bif decide (((((Vec.get x0_.domains (((cQ g_ i_4).Station).toNat)) >>> (((cQ g_ i_4).Channel).toNat)) &&& (1#64)).toNat:Int)=((0#64).toNat:Int)) then
     some false
     else
     next3 ()))
   (fun (_:Unit)=>
    k2 ()) (g_.length - 0) 0 ()))
theorem zbP (F0:Frz)(w:World)(hF0:F0.At w)(x0_:GStore)(g0_:Nat)(k0_512:SK)(v0_512:Value)(L0_512:Ws)(hs0_512:SI x0_.start.1 x0_.start.2 k0_512 L0_512)(tf0_512:TbF F0 k0_512)(zf0_512:SzF F0 k0_512 v0_512 L0_512 (!x0_.start.2.2))(v0_513:Value)(c0_513:List (List Value))(h0_513:OwnD cP F0 1 c0_513 x0_.list)(g_:List GChoice)(vg_:Value)(hg_:SlC F0 vg_ 2 (g_.map cW))(hO:Hp w (dj [.row g0_ 144 ((x0_.domains.1.map U)++[.pointer (some ⟨k0_512.sp,0,none⟩),v0_513]), .sl v0_513 50 1 x0_.list.length c0_513.flatten]) [.row g0_ 144 ((x0_.domains.1.map U)++[.pointer (some ⟨k0_512.sp,0,none⟩),v0_513]), .sl v0_513 50 1 x0_.list.length c0_513.flatten] w)(hA:∀g,dj [.row g0_ 144 ((x0_.domains.1.map U)++[.pointer (some ⟨k0_512.sp,0,none⟩),v0_513]), .sl v0_513 50 1 x0_.list.length c0_513.flatten] g→¬F0.S g)(r:Bool)(hr:zaS x0_ g_=some r):Calls Tryz.prog 83 #[.pointer (some ⟨g0_,0,none⟩),vg_] w fun e w'=>∃(y:Unit),(True)∧e= .returned (.bool r)∧FxM F0 w (dj [.row g0_ 144 ((x0_.domains.1.map U)++[.pointer (some ⟨k0_512.sp,0,none⟩),v0_513]), .sl v0_513 50 1 x0_.list.length c0_513.flatten]) F0 [.row g0_ 144 ((x0_.domains.1.map U)++[.pointer (some ⟨k0_512.sp,0,none⟩),v0_513]), .sl v0_513 50 1 x0_.list.length c0_513.flatten] w':=by
 have hk:=hr;unfold zaS at hk;haveI:=hg_.oneC;haveI:=iJ (hO.own (.sl v0_513 50 1 x0_.list.length c0_513.flatten) a8);have hmx0_513:=i3 (hO.own (.sl v0_513 50 1 x0_.list.length c0_513.flatten) a8);obtain ⟨S0,F1,rfl,hS0,hp0⟩:=ij hF0 hO hA;refine dy (hs:=[.row g0_ 144 ((x0_.domains.1.map U)++[.pointer (some ⟨k0_512.sp,0,none⟩),v0_513]), .sl v0_513 50 1 x0_.list.length c0_513.flatten, .fr F1]) Tryz.func83 rfl rfl rfl hp0 ?_;refine i5 ?_;refine cX (cS rfl rfl rfl (fun w hw=>zcl _ w (hw.fr (i:=2) rfl) g_ vg_ hg_)) ?_;refine fb ?_;refine dL ?_;refine T.cond rfl (fun h1=>?_) (fun h1=>?_)
 ·replace hk:=dC hk h1;refine hD ?_;obtain rfl:=Option.some.inj hk;exact q38
 ·replace hk:=dD hk h1;refine ke ?_;refine dp ?_;refine cR (dA rfl rfl hg_ (List.length_map _)) ?_;have hm11:g_.length≤9223372036854775807:=(List.length_map _)▸hg_.max;refine dL ?_;have hq:=eN hk;clear hk;obtain ⟨k2,hk2,hk⟩:=hq; (try dsimp only at hk);refine dk (ι:=Unit) (fun z=>[]) (fun z=>[.row g0_ 144 ((x0_.domains.1.map U)++[.pointer (some ⟨k0_512.sp,0,none⟩),v0_513]), .sl v0_513 50 1 x0_.list.length c0_513.flatten, .fr F1]) (fun z=>k2 ()=some r) ?_ ?_
  ·have hq:=fS hk;clear hk;obtain ⟨f3,kk3,hf3,hkk3,hk⟩:=hq;refine fJ ?_;refine T.loop (ι:=Nat) (fun z=>[(0, .pointer (some ⟨g0_,0,none⟩)),(10,vg_),(11, .int .i64 (g_.length:Int)),(12, .int .i64 (z:Int))]) (fun z=>[.row g0_ 144 ((x0_.domains.1.map U)++[.pointer (some ⟨k0_512.sp,0,none⟩),v0_513]), .sl v0_513 50 1 x0_.list.length c0_513.flatten, .fr F1]) (fun z=>di f3 kk3 (g_.length - z) z ()=some r) (fun z=>g_.length - z) 0 ?_ ?_ ?_ ?_
   ·exact hk
   ·exact q4a
   ·exact fx
   ·rintro i_4 hk;refine eR ?_;refine T.cond rfl (fun h5=>?_) (fun h5=>?_)
    ·have p5:=of_decide_eq_true h5;rw [fT a5] at hk;generalize hn3:di f3 kk3 (g_.length - (i_4+1)) (i_4+1)=next3 at hk;rw [←hf3] at hk; (try dsimp only at hk);refine fH ?_;refine cR (dH (i:=i_4) rfl rfl rfl hg_ (List.length_map _) rfl a5) ?_;refine cR (fV 2 (i:=i_4) rfl rfl rfl hg_ a5) ?_;refine gw ?_;rintro _ _ ⟨g6,rfl,rfl⟩;refine iW ?_;refine gU ?_;have hq:(0≤(cQ g_ i_4).Station∧(cQ g_ i_4).Station<(512:Int))∧_:=eW hk;clear hk;obtain ⟨g21,hk⟩:=hq;have hq:(0≤(cQ g_ i_4).Channel∧(cQ g_ i_4).Channel<(64:Int))∧_:=eW hk;clear hk;obtain ⟨g25,hk⟩:=hq; (try dsimp only at hk);refine d8 (sN 0 11 (.still 11 .done)) _ a7 (List.Sublist.refl _) ?_;refine gj ?_;refine gD ?_;refine gj ?_;refine iN ?_;refine cZ rfl (ep (i:=((cQ g_ i_4).Station).toNat) rfl rfl rfl a5 a5) ?_;refine cZ rfl (da 1 rfl rfl rfl (lH a5 (zna Vec.len a5 (Vec.cell (i:=((cQ g_ i_4).Station).toNat) a5)))) ?_;refine gD ?_;refine cZ rfl (fW (a:=(Vec.get x0_.domains (((cQ g_ i_4).Station).toNat))) (((cQ g_ i_4).Channel).toNat) rfl rfl rfl a5 a5) ?_;refine cZ rfl (gm (a:=((Vec.get x0_.domains (((cQ g_ i_4).Station).toNat)) >>> (((cQ g_ i_4).Channel).toNat))) (b:=1#64)) ?_;refine kQ ?_;refine T.cond rfl (fun h6=>?_) (fun h6=>?_)
     ·replace hk:=dC hk h6;refine jv ?_;obtain rfl:=Option.some.inj hk;exact c8 rfl rfl (fun w' hw=>⟨⟨⟩,trivial,rfl,dc (hw.pick (idx:=[1,2,3]) rfl a6) hS0 (Frz.Le.refl _)⟩)
     ·replace hk:=dD hk h6;refine gZ ?_;rw [←hn3] at hk;refine q3l ?_;exact K.next (i_4+1) hk a5 (.c (.c (.c (.c .nil)))) (List.Sublist.refl _)
    ·have p5:=of_decide_eq_false h5;rw [fR a5,←hkk3] at hk; (try dsimp only at hk);refine fi ?_;exact lD
  ·rintro _ hk;rw [←hk2] at hk; (try dsimp only at hk);refine lC ?_;obtain rfl:=Option.some.inj hk;exact q38
def zaY (x0_:GStore)(g_:List GChoice):Option (Int×List (List GChoice)):=
 (bif (zaD x0_) then
  some (1,x0_.list)
  else
  (zaS x0_ g_).bind fun r9=>
  (bif !r9 then
   some (2,x0_.list)
   else
   (bif decide (4096≤(x0_.list.length:Int)) then
    some (7,x0_.list)
    else
    dU (dd g_.length 16) <|
    dU (dd (x0_.list++[g_]).length 24) <|
    some (0,(x0_.list++[g_])))))
theorem zbV (F0:Frz)(w:World)(hF0:F0.At w)(x0_:GStore)(g0_:Nat)(k0_512:SK)(v0_512:Value)(L0_512:Ws)(hs0_512:SI x0_.start.1 x0_.start.2 k0_512 L0_512)(tf0_512:TbF F0 k0_512)(zf0_512:SzF F0 k0_512 v0_512 L0_512 (!x0_.start.2.2))(v0_513:Value)(c0_513:List (List Value))(h0_513:OwnD cP F0 1 c0_513 x0_.list)(g_:List GChoice)(vg_:Value)(hg_:SlC F0 vg_ 2 (g_.map cW))(hO:Hp w (dj [.row g0_ 144 ((x0_.domains.1.map U)++[.pointer (some ⟨k0_512.sp,0,none⟩),v0_513]), .sl v0_513 50 1 x0_.list.length c0_513.flatten]) [.row g0_ 144 ((x0_.domains.1.map U)++[.pointer (some ⟨k0_512.sp,0,none⟩),v0_513]), .sl v0_513 50 1 x0_.list.length c0_513.flatten] w)(hA:∀g,dj [.row g0_ 144 ((x0_.domains.1.map U)++[.pointer (some ⟨k0_512.sp,0,none⟩),v0_513]), .sl v0_513 50 1 x0_.list.length c0_513.flatten] g→¬F0.S g)(r:Int×List (List GChoice))(hr:zaY x0_ g_=some r):Calls Tryz.prog 47 #[.pointer (some ⟨g0_,0,none⟩),vg_] w fun e w'=>∃(y:Value×List (List Value)) (G:Frz),(OwnD cP G 1 y.2 r.2)∧e= .returned (.int .i64 r.1)∧FxM F0 w (dj [.row g0_ 144 ((x0_.domains.1.map U)++[.pointer (some ⟨k0_512.sp,0,none⟩),v0_513]), .sl v0_513 50 1 x0_.list.length c0_513.flatten]) G [.row g0_ 144 ((x0_.domains.1.map U)++[.pointer (some ⟨k0_512.sp,0,none⟩),y.1]), .sl y.1 50 1 r.2.length y.2.flatten] w':=by
 have hk:=hr;unfold zaY at hk;haveI:=hg_.oneC;haveI:=iJ (hO.own (.sl v0_513 50 1 x0_.list.length c0_513.flatten) a8);have hmx0_513:=i3 (hO.own (.sl v0_513 50 1 x0_.list.length c0_513.flatten) a8);obtain ⟨S0,F1,rfl,hS0,hp0⟩:=ij hF0 hO hA;refine dy (hs:=[.row g0_ 144 ((x0_.domains.1.map U)++[.pointer (some ⟨k0_512.sp,0,none⟩),v0_513]), .sl v0_513 50 1 x0_.list.length c0_513.flatten, .fr F1]) Tryz.func47 rfl rfl rfl hp0 ?_;refine i5 ?_;refine q07 ?_;rintro _ _ ⟨⟨⟩, -,rfl,rfl⟩;refine eS ?_;refine TL.ns ?_;refine T.cond rfl (fun h1=>?_) (fun h1=>?_)
 ·replace hk:=dC hk h1;refine hD ?_;obtain rfl:=Option.some.inj hk;exact q4C
 ·replace hk:=dD hk h1;refine q3m ?_;have hq:=dV hk;clear hk;obtain ⟨r9,hr9,hk⟩:=hq; (try dsimp only at hk);refine gp ?_;refine cX (dI [0,1,2] [.row g0_ 144 ((x0_.domains.1.map U)++([.pointer (some ⟨k0_512.sp,0,none⟩),v0_513]:List Value)), .sl v0_513 50 1 x0_.list.length c0_513.flatten] [] rfl rfl rfl rfl a6 (fun w hw hw2 hF=>zbP _ w hF x0_ g0_ k0_512 v0_512 L0_512 hs0_512 tf0_512 zf0_512 v0_513 c0_513 h0_513 g_ vg_ hg_ hw2.takes.1 hw2.takes.2 r9 hr9)) ?_;rintro _ _ ⟨⟨⟩, -,rfl,rfl⟩;refine m5 ?_;refine T.cond rfl (fun h2=>?_) (fun h2=>?_)
  ·replace hk:=dC hk h2;refine hD ?_;obtain rfl:=Option.some.inj hk;exact q4C
  ·replace hk:=dD hk h2;refine ke ?_;refine ez ?_;refine fy ?_;refine cR (da 0 rfl rfl rfl (lH a5 (zd5 Vec.len (show [.pointer (some ⟨k0_512.sp,0,none⟩),v0_513][1]?=some _ from rfl)))) ?_;refine cR (jt 1 rfl rfl rfl) ?_;refine dL ?_;refine T.cond rfl (fun h3=>?_) (fun h3=>?_)
   ·have p3:=of_decide_eq_true h3;replace hk:=dC hk h3;refine hD ?_;obtain rfl:=Option.some.inj hk;exact q4C
   ·have p3:=of_decide_eq_false h3;replace hk:=dD hk h3;refine iK ?_;have hq:(dd g_.length 16)∧_:=eW hk;clear hk;obtain ⟨g23,hk⟩:=hq;have hq:(dd (x0_.list++[g_]).length 24)∧_:=eW hk;clear hk;obtain ⟨g25,hk⟩:=hq; (try dsimp only at hk);refine dk (ι:=Value×List (List Value)×FzB w (dj [.row g0_ 144 ((x0_.domains.1.map U)++[.pointer (some ⟨k0_512.sp,0,none⟩),v0_513]), .sl v0_513 50 1 x0_.list.length c0_513.flatten]) S0) (fun z=>[]) (fun z=>[.row g0_ 144 ((x0_.domains.1.map U)++[.pointer (some ⟨k0_512.sp,0,none⟩),z.1]), .sl z.1 50 1 (x0_.list++[g_]).length z.2.1.flatten, .fr z.2.2]) (fun z=>OneC z.1∧OwnD cP z.2.2.toFrz 1 z.2.1 (x0_.list++[g_])∧F1.toFrz.Le z.2.2.toFrz) ?_ ?_
    ·refine d8 (.still 0 (.still 1 (.still 2 (.still 3 (.still 5 (.two 4 6 (.eff 6 (.eff 7 (.eff 8 (sN 9 2 (.eff 11 .done))))) (.two 4 7 (.eff 7 (.eff 8 (sN 9 2 (.eff 11 .done)))) (.eff 4 (.eff 8 (sN 9 2 (.eff 11 .done))))))))))) [.fr F1] a7 Sx ?_;refine kj ?_;refine iN ?_;refine gj ?_;refine TS.two ?_ ?_
     ·refine ga rfl (Wt.none) rfl rfl (da 0 rfl rfl rfl (lH a5 (zd5 Vec.len (show [.pointer (some ⟨k0_512.sp,0,none⟩),v0_513][1]?=some _ from rfl)))) (fun w hw=>hw.sub Sx) ?_;refine dQ ?_;refine dx rfl (Wt.none) rfl rfl (eg 2 rfl rfl rfl rfl (fun w hw hF=>zgi _ w hF g_ vg_ hg_ g23)) ?_;rintro _ _ ⟨v23_,F3,le1_3,hf23,hq,rfl⟩;obtain rfl:=hq.symm;haveI:=hf23.oneC;refine ⟨(fun w hw=>(hw.frLe (i:=2) rfl le1_3).sub Sx),?_⟩;refine dQ ?_;refine q1F ?_;rintro _ _ ⟨g24,rfl,rfl⟩;have hl24:OwnD cP F3.toFrz 1 [[v23_]] [g_]:=(dn (OwnD.nil _ _ 1) ⟨_,rfl,hf23⟩);refine ⟨(fun w hw=>(hw.frLe (i:=3) rfl le1_3).sub Sx),?_⟩;refine q11 ?_;rintro v25 _ ⟨hv25,rfl⟩;have ho25:OwnD cP F3.toFrz 1 (c0_513++[[v23_]]) (x0_.list++[g_]):=(dn (OwnD.mono (rep:=cP) (fun _ _ _ _=>R_List_GChoice.mono) h0_513 le1_3) ⟨_,rfl,hf23⟩);refine ⟨(fun w hw=>(hw.frLe (i:=3) rfl le1_3).sub Sx),?_⟩;refine gj ?_;refine q0U ?_;refine ⟨(fun w hw=>(hw.frLe (i:=3) rfl le1_3).sub Sx),?_⟩;refine ir ?_;refine q3l ?_;exact c4 (v25,(c0_513++[[v23_]]),F3) ⟨inferInstance,ho25,le1_3⟩ .nil (List.Sublist.refl _)
     ·refine dx rfl (Wt.none) rfl rfl (eg 2 rfl rfl rfl rfl (fun w hw hF=>zgi _ w hF g_ vg_ hg_ g23)) ?_;rintro _ _ ⟨v23_,F4,le1_4,hf23,hq,rfl⟩;obtain rfl:=hq.symm;haveI:=hf23.oneC;refine ⟨(fun w hw=>(hw.frLe (i:=2) rfl le1_4).sub Sx),?_⟩;refine TS.two ?_ ?_
      ·refine ga rfl (Wt.none) rfl rfl (da 0 rfl rfl rfl (lH a5 (zd5 Vec.len (show [.pointer (some ⟨k0_512.sp,0,none⟩),v0_513][1]?=some _ from rfl)))) (fun w hw=>(hw.frLe (i:=2) rfl le1_4).sub Sx) ?_;refine dQ ?_;refine q1F ?_;rintro _ _ ⟨g24,rfl,rfl⟩;have hl24:OwnD cP F4.toFrz 1 [[v23_]] [g_]:=(dn (OwnD.nil _ _ 1) ⟨_,rfl,hf23⟩);refine q2q ?_;refine q11 ?_;rintro v25 _ ⟨hv25,rfl⟩;have ho25:OwnD cP F4.toFrz 1 (c0_513++[[v23_]]) (x0_.list++[g_]):=(dn (OwnD.mono (rep:=cP) (fun _ _ _ _=>R_List_GChoice.mono) h0_513 le1_4) ⟨_,rfl,hf23⟩);refine q2q ?_;refine gj ?_;refine q0U ?_;refine q2q ?_;refine ir ?_;refine q3l ?_;exact q4N
      ·refine q1F ?_;rintro _ _ ⟨g24,rfl,rfl⟩;have hl24:OwnD cP F4.toFrz 1 [[v23_]] [g_]:=(dn (OwnD.nil _ _ 1) ⟨_,rfl,hf23⟩);refine q2q ?_;refine dQ ?_;refine ga rfl (Wt.none) rfl rfl (da 1 rfl rfl rfl (lH a5 (zd5 Vec.len (show [.pointer (some ⟨k0_512.sp,0,none⟩),v0_513][1]?=some _ from rfl)))) (fun w hw=>(hw.frLe (i:=3) rfl le1_4).sub Sx) ?_;refine q11 ?_;rintro v25 _ ⟨hv25,rfl⟩;have ho25:OwnD cP F4.toFrz 1 (c0_513++[[v23_]]) (x0_.list++[g_]):=(dn (OwnD.mono (rep:=cP) (fun _ _ _ _=>R_List_GChoice.mono) h0_513 le1_4) ⟨_,rfl,hf23⟩);refine q2q ?_;refine gj ?_;refine q0U ?_;refine q2q ?_;refine ir ?_;refine q3l ?_;exact q4N
    ·rintro ⟨vo1_4,co1_4,F2⟩ ⟨hvo1_4,ho1_4,le1_2⟩; (try dsimp only at *);refine lC ?_;obtain rfl:=Option.some.inj hk;exact c8 rfl rfl (fun w' hw=>⟨(vo1_4,co1_4),F2.toFrz,ho1_4,rfl,dc (hw.pick (idx:=[0,1,2]) rfl a6) hS0 le1_2⟩)
def zbc (fuel:Nat)(x0_:GStore)(l:List GChoice):Option ((Option (GProblem×(List GDomain×Bool)))×Bool):=
 dN (fun (m_1:List GDomain×Bool)=>
  dN (fun (m_8:List GDomain×Bool)=>
   some (some (x0_.start.1,m_8),false))
  (fun k9=>
   iV (fun (next12:(Bool×(List GDomain×Bool))→Option ((Option (GProblem×(List GDomain×Bool)))×Bool)) (s12:Bool×(List GDomain×Bool))=>
    (bif s12.1 then
     (bif !s12.2.2 then
      some (none,true)
      else
      (zci x0_.start.1 s12.2).bind fun r36=>
      di (fun (i_20:Nat) (next19:(Bool×(List GDomain×Bool)×Vec 512 Int)→Option ((Option (GProblem×(List GDomain×Bool)))×Bool)) (s19:Bool×(List GDomain×Bool)×Vec 512 Int)=>
       dN (fun (s25:Bool×(List GDomain×Bool)×Vec 512 Int)=>
        next19 (s25.1,s25.2.1,s25.2.2))
       (fun k25=>
        (zdo x0_.start.1 s19.2.1 s19.2.2 (cQ x0_.list i_20)).bind fun r49=>
        (bif !r49.2 then
         k25 (s19.1,s19.2.1,s19.2.2)
         else
         (bif decide (((cQ x0_.list i_20).length:Int)=0) then
          some (none,true)
          else
          (zg0 fuel x0_.start.1 s19.2.1 false r49.1).bind fun r59=>
          (bif !r59.1.2 then
           some (none,true)
           else
           (zci x0_.start.1 r59.1).bind fun r63=>
           k25 (true,r59.1,r63))))))
      (fun (s19:Bool×(List GDomain×Bool)×Vec 512 Int)=>
       next12 (s19.1,s19.2.1)) (x0_.list.length - 0) 0 (false,s12.2,r36))
     else
     k9 s12.2)) fuel (true,m_1)))
 (fun k2=>
  di (fun (i_5:Nat) (next4:(List GDomain×Bool)→Option ((Option (GProblem×(List GDomain×Bool)))×Bool)) (m_3:List GDomain×Bool)=>
   (bif !m_3.2 then
    some (none,true)
    else
    (zg0 fuel x0_.start.1 m_3 true (cQ l i_5)).bind fun r30=>
    next4 r30.1))
  (fun (m_3:List GDomain×Bool)=>
   k2 m_3) (l.length - 0) 0 x0_.start.2)
theorem zbG (F0:Frz)(w:World)(hF0:F0.At w)(x0_:GStore)(g0_:Nat)(k0_512:SK)(v0_512:Value)(L0_512:Ws)(hs0_512:SI x0_.start.1 x0_.start.2 k0_512 L0_512)(tf0_512:TbF F0 k0_512)(zf0_512:SzF F0 k0_512 v0_512 L0_512 (!x0_.start.2.2))(v0_513:Value)(c0_513:List (List Value))(h0_513:OwnD cP F0 1 c0_513 x0_.list)(l:List GChoice)(vl:Value)(hl:SlC F0 vl 2 (l.map cW))(htab:Tab w)(hO:Hp w (dj [.row g0_ 144 ((x0_.domains.1.map U)++[.pointer (some ⟨k0_512.sp,0,none⟩),v0_513]), .sl v0_513 50 1 x0_.list.length c0_513.flatten]) [.row g0_ 144 ((x0_.domains.1.map U)++[.pointer (some ⟨k0_512.sp,0,none⟩),v0_513]), .sl v0_513 50 1 x0_.list.length c0_513.flatten] w)(hA:∀g,dj [.row g0_ 144 ((x0_.domains.1.map U)++[.pointer (some ⟨k0_512.sp,0,none⟩),v0_513]), .sl v0_513 50 1 x0_.list.length c0_513.flatten] g→¬F0.S g)(hZ:¬dj [.row g0_ 144 ((x0_.domains.1.map U)++[.pointer (some ⟨k0_512.sp,0,none⟩),v0_513]), .sl v0_513 50 1 x0_.list.length c0_513.flatten] 0)(fuel:Nat)(hfu:100000≤fuel)(r:(Option (GProblem×(List GDomain×Bool)))×Bool)(hr:zbc fuel x0_ l=some r):Calls Tryz.prog 119 #[.pointer (some ⟨g0_,0,none⟩),vl] w fun e w'=>((r.1).isSome=true→∃(y:SK×Value×Ws) (G:Frz),(SI (r.1.getD default).1 (r.1.getD default).2 y.1 y.2.2∧TbF G y.1)∧e= .returned (.tuple #[.pointer (some ⟨y.1.sp,0,none⟩), .bool r.2])∧FxM F0 w (dj [.row g0_ 144 ((x0_.domains.1.map U)++[.pointer (some ⟨k0_512.sp,0,none⟩),v0_513]), .sl v0_513 50 1 x0_.list.length c0_513.flatten]) G [.row g0_ 144 ((x0_.domains.1.map U)++[.pointer (some ⟨k0_512.sp,0,none⟩),v0_513]), .sl v0_513 50 1 x0_.list.length c0_513.flatten,eL y.1 y.2.1 y.2.2 (!(r.1.getD default).2.2)] w')∧((r.1).isSome=false→∃(y:Unit) (G:Frz),(True)∧e= .returned (.tuple #[.pointer none, .bool r.2])∧FxM F0 w (dj [.row g0_ 144 ((x0_.domains.1.map U)++[.pointer (some ⟨k0_512.sp,0,none⟩),v0_513]), .sl v0_513 50 1 x0_.list.length c0_513.flatten]) G [.row g0_ 144 ((x0_.domains.1.map U)++[.pointer (some ⟨k0_512.sp,0,none⟩),v0_513]), .sl v0_513 50 1 x0_.list.length c0_513.flatten] w'):=by
 have hk:=hr;unfold zbc at hk;haveI:=hl.oneC;haveI:=iJ (hO.own (.sl v0_513 50 1 x0_.list.length c0_513.flatten) a8);have hmx0_513:=i3 (hO.own (.sl v0_513 50 1 x0_.list.length c0_513.flatten) a8);obtain ⟨S0,F1,rfl,hS0,hp0⟩:=ij hF0 hO hA;have hM0:=hZ;have htk:∀ {hs:HS} {w':World},Hp w (dj [.row g0_ 144 ((x0_.domains.1.map U)++[.pointer (some ⟨k0_512.sp,0,none⟩),v0_513]), .sl v0_513 50 1 x0_.list.length c0_513.flatten]) hs w'→Tab w':=fun hw=>htab.kept hw hZ;refine dy (hs:=[.row g0_ 144 ((x0_.domains.1.map U)++[.pointer (some ⟨k0_512.sp,0,none⟩),v0_513]), .sl v0_513 50 1 x0_.list.length c0_513.flatten, .fr F1]) Tryz.func119 rfl rfl rfl hp0 ?_;refine iD ?_;refine dR ?_;refine ez ?_;refine q3C ?_;refine cX (ee [2,0,1] [] [.row g0_ 144 ((x0_.domains.1.map U)++([.pointer (some ⟨k0_512.sp,0,none⟩),v0_513]:List Value)), .sl v0_513 50 1 x0_.list.length c0_513.flatten] rfl rfl rfl rfl a6 (fun w hw hw2 hF=>zlr hs0_512 tf0_512 (zf0_512 w hF) hF (htk hw))) ?_;rintro _ _ ⟨⟨k19_,v19_⟩,F2,le1_2,⟨hs19,tf19⟩,rfl,rfl⟩;refine eS ?_; (try dsimp only at hs19 tf19);refine l5 ?_;refine cR (dA rfl rfl (SlC.mono hl le1_2) (List.length_map _)) ?_;have hm21:l.length≤9223372036854775807:=(List.length_map _)▸(SlC.mono hl le1_2).max;refine dL ?_;have hq:=eN hk;clear hk;obtain ⟨k2,hk2,hk⟩:=hq; (try dsimp only at hk);refine dk (ι:=(List GDomain×Bool)×Ws) (fun z=>[(0, .pointer (some ⟨g0_,0,none⟩)),(6, .pointer (some ⟨k19_.sp,0,none⟩))]) (fun z=>[eL k19_ v19_ z.2 (!z.1.2), .row g0_ 144 ((x0_.domains.1.map U)++[.pointer (some ⟨k0_512.sp,0,none⟩),v0_513]), .sl v0_513 50 1 x0_.list.length c0_513.flatten, .fr F2]) (fun z=>k2 z.1=some r∧SI x0_.start.1 z.1 k19_ z.2) ?_ ?_
 ·have hq:=fS hk;clear hk;obtain ⟨f4,kk4,hf4,hkk4,hk⟩:=hq;refine fJ ?_;refine T.pick [0,2,3,1] rfl a6 ?_;refine T.loop (ι:=Nat×(List GDomain×Bool)×Ws) (fun z=>[(0, .pointer (some ⟨g0_,0,none⟩)),(6, .pointer (some ⟨k19_.sp,0,none⟩)),(20,vl),(21, .int .i64 (l.length:Int)),(22, .int .i64 (z.1:Int))]) (fun z=>[eL k19_ v19_ z.2.2 (!z.2.1.2), .row g0_ 144 ((x0_.domains.1.map U)++[.pointer (some ⟨k0_512.sp,0,none⟩),v0_513]), .sl v0_513 50 1 x0_.list.length c0_513.flatten, .fr F2]) (fun z=>di f4 kk4 (l.length - z.1) z.1 z.2.1=some r∧SI x0_.start.1 z.2.1 k19_ z.2.2) (fun z=>l.length - z.1) (0,x0_.start.2,L0_512) ?_ ?_ ?_ ?_
  ·exact ⟨hk,hs19⟩
  ·exact l9
  ·exact fx
  ·rintro ⟨i_5,m_3,Lm_3⟩ ⟨hk,hsm_3⟩; (try dsimp only at *);refine eR ?_;refine T.cond rfl (fun h6=>?_) (fun h6=>?_)
   ·have p6:=of_decide_eq_true h6;rw [fT a5] at hk;generalize hn4:di f4 kk4 (l.length - (i_5+1)) (i_5+1)=next4 at hk;rw [←hf4] at hk; (try dsimp only at hk);refine fH ?_;refine cR (dH (i:=i_5) rfl rfl rfl (SlC.mono hl le1_2) (List.length_map _) rfl a5) ?_;refine cR (fV 3 (i:=i_5) rfl rfl rfl (SlC.mono hl le1_2) a5) ?_;refine gw ?_;rintro _ _ ⟨g8,rfl,rfl⟩;refine iW ?_;refine mP ?_;refine cX (cS rfl rfl rfl (fun w hw=>ze0 hsm_3 tf19 (hw.get (i:=1) rfl) (hw.fr (i:=4) rfl) (htk hw))) ?_;refine fb ?_;refine TL.ns ?_;refine T.cond rfl (fun h7=>?_) (fun h7=>?_)
    ·replace hk:=dC hk h7;refine iD ?_;refine ml ?_;obtain rfl:=Option.some.inj hk;exact eC rfl rfl rfl (fun w' hw=>⟨fun h=>(by cases h),fun _=>⟨⟨⟩,F2.toFrz,trivial,rfl,dc (hw.pick (idx:=[2,3,4]) rfl a6) hS0 le1_2⟩⟩)
    ·replace hk:=dD hk h7;refine kP ?_;have hq:=dV hk;clear hk;obtain ⟨r30,hr30,hk⟩:=hq; (try dsimp only at hk);refine fk ?_;refine iu ?_;refine cX (ko 1 rfl rfl rfl rfl (fun w hw=>zk2 hsm_3 tf19 (hw.get (i:=1) rfl) (hw.fr (i:=4) rfl) (hw.apartF (i:=1) (j:=4) rfl rfl a6) (htk hw) hfu (cQ l i_5) hr30)) ?_;rintro _ _ ⟨L30_,hs30,rfl,rfl⟩;refine l6 ?_;rw [←hn4] at hk;refine K.pick [1,2,3,4] rfl a6 ?_;exact K.next ((i_5+1),r30.1,L30_) ⟨hk,hs30⟩ a9 (.c (.c (.c (.c (.c .nil))))) (List.Sublist.refl _)
   ·have p6:=of_decide_eq_false h6;rw [fR a5,←hkk4] at hk; (try dsimp only at hk);refine fi ?_;exact c4 (m_3,Lm_3) ⟨hk,hsm_3⟩ (.c (.c .nil)) (List.Sublist.refl _)
 ·rintro ⟨m_1,Lm_1⟩ ⟨hk,hsm_1⟩; (try dsimp only at *);rw [←hk2] at hk; (try dsimp only at hk);refine T.seq (dm ?_);refine dL ?_;have hq:=eN hk;clear hk;obtain ⟨k9,hk9,hk⟩:=hq; (try dsimp only at hk);refine dk (ι:=(List GDomain×Bool)×Ws×FzB w (dj [.row g0_ 144 ((x0_.domains.1.map U)++[.pointer (some ⟨k0_512.sp,0,none⟩),v0_513]), .sl v0_513 50 1 x0_.list.length c0_513.flatten]) S0) (fun z=>[(6, .pointer (some ⟨k19_.sp,0,none⟩))]) (fun z=>[eL k19_ v19_ z.2.1 (!z.1.2), .row g0_ 144 ((x0_.domains.1.map U)++[.pointer (some ⟨k0_512.sp,0,none⟩),v0_513]), .sl v0_513 50 1 x0_.list.length c0_513.flatten, .fr z.2.2]) (fun z=>k9 z.1=some r∧SI x0_.start.1 z.1 k19_ z.2.1∧F2.toFrz.Le z.2.2.toFrz) ?_ ?_
  ·have hq:=zdd hk;clear hk;obtain ⟨f12,hf12,hk⟩:=hq;refine fJ ?_;refine T.loop (ι:=Nat×Bool×(List GDomain×Bool)×Ws×FzB w (dj [.row g0_ 144 ((x0_.domains.1.map U)++[.pointer (some ⟨k0_512.sp,0,none⟩),v0_513]), .sl v0_513 50 1 x0_.list.length c0_513.flatten]) S0) (fun z=>[(0, .pointer (some ⟨g0_,0,none⟩)),(6, .pointer (some ⟨k19_.sp,0,none⟩)),(9, .bool z.2.1)]) (fun z=>[eL k19_ v19_ z.2.2.2.1 (!z.2.2.1.2), .row g0_ 144 ((x0_.domains.1.map U)++[.pointer (some ⟨k0_512.sp,0,none⟩),v0_513]), .sl v0_513 50 1 x0_.list.length c0_513.flatten, .fr z.2.2.2.2]) (fun z=>iV f12 z.1 (z.2.1,z.2.2.1)=some r∧SI x0_.start.1 z.2.2.1 k19_ z.2.2.2.1∧F2.toFrz.Le z.2.2.2.2.toFrz) (fun z=>z.1) (fuel,true,m_1,Lm_1,F2) ?_ ?_ ?_ ?_
   ·exact ⟨hk,hsm_1,(Frz.Le.refl _)⟩
   ·exact q37
   ·exact fx
   ·rintro ⟨m_13,changed_10,m_11,Lm_11,F4⟩ ⟨hk,hsm_11,le2_4⟩; (try dsimp only at *);have le1_4:=le1_2.trans le2_4;have hq:=zdJ hk;clear hk;obtain ⟨m_13',rfl,hk⟩:=hq;generalize hn12:iV f12 m_13'=next12 at hk;rw [←hf12] at hk; (try dsimp only at hk);refine T.seq (dm ?_);refine dL ?_;refine T.cond rfl (fun h14=>?_) (fun h14=>?_)
    ·replace hk:=dC hk h14;refine T.skip (K.seq (T.block (T.seq (dm ?_))));refine dp ?_;refine cX (cS rfl rfl rfl (fun w hw=>ze0 hsm_11 (tf19.mono le2_4) (hw.get (i:=0) rfl) (hw.fr (i:=3) rfl) (htk hw))) ?_;refine fb ?_;refine TL.ns ?_;refine T.cond rfl (fun h15=>?_) (fun h15=>?_)
     ·replace hk:=dC hk h15;refine iD ?_;refine TL.ns (T.ret (cV (ff (cV (ff (cV ?_))))));obtain rfl:=Option.some.inj hk;exact eC rfl rfl rfl (fun w' hw=>⟨fun h=>(by cases h),fun _=>⟨⟨⟩,F4.toFrz,trivial,rfl,dc (hw.pick (idx:=[1,2,3]) rfl a6) hS0 le1_4⟩⟩)
     ·replace hk:=dD hk h15;refine gW ?_;refine ki ?_;have hq:=dV hk;clear hk;obtain ⟨r36,hr36,hk⟩:=hq; (try dsimp only at hk);refine fk ?_;refine cX (ee [0,3,1,2] [eL k19_ v19_ Lm_11 (!m_11.2)] [.row g0_ 144 ((x0_.domains.1.map U)++([.pointer (some ⟨k0_512.sp,0,none⟩),v0_513]:List Value)), .sl v0_513 50 1 x0_.list.length c0_513.flatten] rfl rfl rfl rfl a6 (fun w hw hw2 hF=>zea _ w hF x0_.start.1 m_11 k19_ v19_ Lm_11 hsm_11 (tf19.mono le2_4) (htk hw) hw2.takes.1 hw2.takes.2 (hw2.takes0 hM0 htab.pos) r36 hr36)) ?_;rintro _ _ ⟨⟨⟩,F5,le4_5, -,rfl,rfl⟩;refine eS ?_;have le1_5:=le1_4.trans le4_5;have le2_5:=le2_4.trans le4_5;refine q3T ?_;rintro _ _ ⟨g10,rfl,rfl⟩;refine q1p ?_;refine dR ?_;refine ez ?_;refine fy ?_;refine cR (da 3 rfl rfl rfl (lH a5 (zd5 Vec.len (show [.pointer (some ⟨k0_512.sp,0,none⟩),v0_513][1]?=some _ from rfl)))) ?_;refine cR (jt 4 rfl rfl rfl) ?_;refine dL ?_;have hq:=fS hk;clear hk;obtain ⟨f19,kk19,hf19,hkk19,hk⟩:=hq;refine fJ ?_;refine T.pick [1,0,3,4,2] rfl a6 ?_;refine T.loop (ι:=Nat×Bool×(List GDomain×Bool)×Ws×Vec 512 Int×FzB w (dj [.row g0_ 144 ((x0_.domains.1.map U)++[.pointer (some ⟨k0_512.sp,0,none⟩),v0_513]), .sl v0_513 50 1 x0_.list.length c0_513.flatten]) S0) (fun z=>[(0, .pointer (some ⟨g0_,0,none⟩)),(6, .pointer (some ⟨k19_.sp,0,none⟩)),(9, .bool z.2.1),(10, .pointer (some ⟨g10,0,none⟩)),(40,v0_513),(41, .int .i64 (x0_.list.length:Int)),(42, .int .i64 (z.1:Int))]) (fun z=>[eL k19_ v19_ z.2.2.2.1 (!z.2.2.1.2), .row g10 204 (z.2.2.2.2.1.1.map vI), .row g0_ 144 ((x0_.domains.1.map U)++[.pointer (some ⟨k0_512.sp,0,none⟩),v0_513]), .sl v0_513 50 1 x0_.list.length c0_513.flatten, .fr z.2.2.2.2.2]) (fun z=>di f19 kk19 (x0_.list.length - z.1) z.1 (z.2.1,z.2.2.1,z.2.2.2.2.1)=some r∧SI x0_.start.1 z.2.2.1 k19_ z.2.2.2.1∧F5.toFrz.Le z.2.2.2.2.2.toFrz) (fun z=>x0_.list.length - z.1) (0,false,m_11,Lm_11,r36,F5) ?_ ?_ ?_ ?_
      ·exact ⟨hk,hsm_11,(Frz.Le.refl _)⟩
      ·exact q4q
      ·exact fx
      ·rintro ⟨i_20,changed_16,m_17,Lm_17,c_18,F6⟩ ⟨hk,hsm_17,le5_6⟩; (try dsimp only at *);have le1_6:=le1_5.trans le5_6;have le2_6:=le2_5.trans le5_6;refine eR ?_;refine T.cond rfl (fun h21=>?_) (fun h21=>?_)
       ·have p21:=of_decide_eq_true h21;rw [fT a5] at hk;generalize hn19:di f19 kk19 (x0_.list.length - (i_20+1)) (i_20+1)=next19 at hk;rw [←hf19] at hk; (try dsimp only at hk);refine iK ?_;have hq:=eN hk;clear hk;obtain ⟨k25,hk25,hk⟩:=hq; (try dsimp only at hk);refine dk (ι:=Bool×(List GDomain×Bool)×Ws×Vec 512 Int×FzB w (dj [.row g0_ 144 ((x0_.domains.1.map U)++[.pointer (some ⟨k0_512.sp,0,none⟩),v0_513]), .sl v0_513 50 1 x0_.list.length c0_513.flatten]) S0) (fun z=>[(0, .pointer (some ⟨g0_,0,none⟩)),(6, .pointer (some ⟨k19_.sp,0,none⟩)),(9, .bool z.1),(10, .pointer (some ⟨g10,0,none⟩)),(40,v0_513),(41, .int .i64 (x0_.list.length:Int)),(42, .int .i64 (i_20:Int))]) (fun z=>[eL k19_ v19_ z.2.2.1 (!z.2.1.2), .row g10 204 (z.2.2.2.1.1.map vI), .row g0_ 144 ((x0_.domains.1.map U)++[.pointer (some ⟨k0_512.sp,0,none⟩),v0_513]), .sl v0_513 50 1 x0_.list.length c0_513.flatten, .fr z.2.2.2.2]) (fun z=>k25 (z.1,z.2.1,z.2.2.2.1)=some r∧SI x0_.start.1 z.2.1 k19_ z.2.2.1∧F6.toFrz.Le z.2.2.2.2.toFrz) ?_ ?_
        ·refine T.block (dm ?_);refine cR (m4 3 (i:=i_20) rfl rfl rfl rfl rfl a5) ?_;refine cR (Yv.bU 3 rfl rfl rfl a5 ((zfs _ (OwnD.mono (rep:=cP) (fun _ _ _ _=>R_List_GChoice.mono) h0_513 le1_6).2.1 i_20 (by have:=(OwnD.mono (rep:=cP) (fun _ _ _ _=>R_List_GChoice.mono) h0_513 le1_6).1;omega) 0 a6).trans (R_List_GChoice.c0 ((OwnD.mono (rep:=cP) (fun _ _ _ _=>R_List_GChoice.mono) h0_513 le1_6).2.2 i_20 a5)).1)) ?_;have hd45_0:=(R_List_GChoice.c0 ((OwnD.mono (rep:=cP) (fun _ _ _ _=>R_List_GChoice.mono) h0_513 le1_6).2.2 i_20 a5)).2;haveI:=hd45_0.oneC;refine ki ?_;have hq:=dV hk;clear hk;obtain ⟨r49,hr49,hk⟩:=hq; (try dsimp only at hk);refine gp ?_;refine cX (dI [0,1,4,2,3] [eL k19_ v19_ Lm_17 (!m_17.2), .row g10 204 (c_18.1.map vI)] [.row g0_ 144 ((x0_.domains.1.map U)++([.pointer (some ⟨k0_512.sp,0,none⟩),v0_513]:List Value)), .sl v0_513 50 1 x0_.list.length c0_513.flatten] rfl rfl rfl rfl a6 (fun w hw hw2 hF=>zgF _ w hF x0_.start.1 m_17 k19_ v19_ Lm_17 hsm_17 (tf19.mono le2_6) c_18 g10 (cQ x0_.list i_20) (cQ (cQ c0_513 i_20) 0) hd45_0 (htk hw) hw2.takes.1 hw2.takes.2 (hw2.takes0 hM0 htab.pos) r49 hr49)) ?_;rintro _ _ ⟨⟨⟩, -,rfl,rfl⟩;refine eS ?_;refine fF ?_;refine gw ?_;rintro _ _ ⟨g13,rfl,rfl⟩;refine iW ?_;refine i2 ?_;refine kz ?_;refine T.cond rfl (fun h26=>?_) (fun h26=>?_)
         ·replace hk:=dC hk h26;refine T.exit (fG (iT ?_));refine K.pick [1,2,4,5,3] rfl a6 ?_;exact c4 (changed_16,m_17,Lm_17,c_18,F6) ⟨hk,hsm_17,(Frz.Le.refl _)⟩ (.c (.c (.c (.c (.c (.c (.c .nil))))))) (List.Sublist.refl _)
         ·replace hk:=dD hk h26;refine ke ?_;refine dp ?_;refine cR (dA rfl rfl hd45_0 (List.length_map _)) ?_;have hm55:(cQ x0_.list i_20).length≤9223372036854775807:=(List.length_map _)▸hd45_0.max;refine dL ?_;refine T.cond rfl (fun h27=>?_) (fun h27=>?_)
          ·have p27:=of_decide_eq_true h27;replace hk:=dC hk h27;refine iD ?_;refine TL.ns (T.ret (cV (ff (cV (cV (ff (ff (cV (ff (cV ?_))))))))));obtain rfl:=Option.some.inj hk;exact q4O
          ·have p27:=of_decide_eq_false h27;replace hk:=dD hk h27;refine iK ?_;have hq:=dV hk;clear hk;obtain ⟨r59,hr59,hk⟩:=hq; (try dsimp only at hk);refine fk ?_;refine iu ?_;refine cX (ko 1 rfl rfl rfl rfl (fun w hw=>zk1 hsm_17 (tf19.mono le2_6) (hw.get (i:=1) rfl) (hw.fr (i:=3) rfl) (hw.apartF (i:=1) (j:=3) rfl rfl a6) (htk hw) hfu r49.1 hr59)) ?_;rintro _ _ ⟨L59_,hs59,rfl,rfl⟩;refine mP ?_;refine cX (cS rfl rfl rfl (fun w hw=>ze0 hs59 (tf19.mono le2_6) (hw.get (i:=1) rfl) (hw.fr (i:=3) rfl) (htk hw))) ?_;refine fb ?_;refine TL.ns ?_;refine T.cond rfl (fun h28=>?_) (fun h28=>?_)
           ·replace hk:=dC hk h28;refine iD ?_;refine TL.ns (T.ret (cV (ff (cV (cV (ff (ff (cV (ff (cV ?_))))))))));obtain rfl:=Option.some.inj hk;exact q4O
           ·replace hk:=dD hk h28;refine kP ?_;have hq:=dV hk;clear hk;obtain ⟨r63,hr63,hk⟩:=hq; (try dsimp only at hk);refine fk ?_;refine cX (ee [1,3,0,2,4,5] [eL k19_ v19_ L59_ (!r59.1.2)] [.row g13 68 [.int .i64 r49.1.Station, .int .i64 r49.1.Channel], .row g10 204 (c_18.1.map vI), .row g0_ 144 ((x0_.domains.1.map U)++([.pointer (some ⟨k0_512.sp,0,none⟩),v0_513]:List Value)), .sl v0_513 50 1 x0_.list.length c0_513.flatten] rfl rfl rfl rfl a6 (fun w hw hw2 hF=>zea _ w hF x0_.start.1 r59.1 k19_ v19_ L59_ hs59 (tf19.mono le2_6) (htk hw) hw2.takes.1 hw2.takes.2 (hw2.takes0 hM0 htab.pos) r63 hr63)) ?_;rintro _ _ ⟨⟨⟩,F8,le6_8, -,rfl,rfl⟩;refine eS ?_;refine eE (dF 3 rfl rfl rfl rfl Vec.len (Vec.len.trans Vec.len.symm)) ?_;refine mr ?_;refine TL.nil (fI ?_);refine K.pick [0,3,4,5,1] rfl a6 ?_;exact c4 (true,r59.1,L59_,r63,F8) ⟨hk,hs59,le6_8⟩ (.c (.c (.c (.c (.c (.c (.c .nil))))))) (List.Sublist.refl _)
        ·rintro ⟨changed_22,m_23,Lm_23,c_24,F7⟩ ⟨hk,hsm_23,le6_7⟩; (try dsimp only at *);rw [←hk25] at hk; (try dsimp only at hk);have le5_7:=le5_6.trans le6_7;refine fg ?_;refine ka ?_;rw [←hn19] at hk;exact K.next ((i_20+1),changed_22,m_23,Lm_23,c_24,F7) ⟨hk,hsm_23,le5_7⟩ a9 (.c (.c (.c (.c (.c (.c (.c .nil))))))) (List.Sublist.refl _)
       ·have p21:=of_decide_eq_false h21;rw [fR a5,←hkk19] at hk; (try dsimp only at hk);refine T.exit (fG (fG (iT (fI ?_))));rw [←hn12] at hk;refine K.pick [0,2,3,4] rfl a6 ?_;exact K.next (m_13',changed_16,m_17,Lm_17,F6) ⟨hk,hsm_17,le2_6⟩ a9 (.c (.c (.c .nil))) (List.Sublist.refl _)
    ·replace hk:=dD hk h14;refine fi ?_;exact c4 (m_11,Lm_11,F4) ⟨hk,hsm_11,le2_4⟩ (.c .nil) (List.Sublist.refl _)
  ·rintro ⟨m_8,Lm_8,F3⟩ ⟨hk,hsm_8,le2_3⟩; (try dsimp only at *);rw [←hk9] at hk; (try dsimp only at hk);have le1_3:=le1_2.trans le2_3;refine dm ?_;refine fF ?_;refine fN ?_;obtain rfl:=Option.some.inj hk;exact eC rfl rfl rfl (fun w' hw=>⟨fun _=>⟨(k19_,v19_,Lm_8),F3.toFrz,⟨hsm_8,(tf19.mono le2_3)⟩,rfl,dc (hw.pick (idx:=[1,2,0,3]) rfl a6) hS0 le1_3⟩,fun h=>(by cases h)⟩)
def za8 (fuel:Nat)(x0_:GStore)(g_:List GChoice):Option (Bool×Int):=
 (bif (zaD x0_) then
  some (false,1)
  else
  (zaS x0_ g_).bind fun r12=>
  (bif !r12 then
   some (false,2)
   else
   (zbc fuel x0_ g_).bind fun r17=>
   (bif (r17.1).isSome then
    some (r17.2,0)
    else
    some (r17.2,0))))
theorem zcq (F0:Frz)(w:World)(hF0:F0.At w)(x0_:GStore)(g0_:Nat)(k0_512:SK)(v0_512:Value)(L0_512:Ws)(hs0_512:SI x0_.start.1 x0_.start.2 k0_512 L0_512)(tf0_512:TbF F0 k0_512)(zf0_512:SzF F0 k0_512 v0_512 L0_512 (!x0_.start.2.2))(v0_513:Value)(c0_513:List (List Value))(h0_513:OwnD cP F0 1 c0_513 x0_.list)(g_:List GChoice)(vg_:Value)(hg_:SlC F0 vg_ 2 (g_.map cW))(htab:Tab w)(hO:Hp w (dj [.row g0_ 144 ((x0_.domains.1.map U)++[.pointer (some ⟨k0_512.sp,0,none⟩),v0_513]), .sl v0_513 50 1 x0_.list.length c0_513.flatten]) [.row g0_ 144 ((x0_.domains.1.map U)++[.pointer (some ⟨k0_512.sp,0,none⟩),v0_513]), .sl v0_513 50 1 x0_.list.length c0_513.flatten] w)(hA:∀g,dj [.row g0_ 144 ((x0_.domains.1.map U)++[.pointer (some ⟨k0_512.sp,0,none⟩),v0_513]), .sl v0_513 50 1 x0_.list.length c0_513.flatten] g→¬F0.S g)(hZ:¬dj [.row g0_ 144 ((x0_.domains.1.map U)++[.pointer (some ⟨k0_512.sp,0,none⟩),v0_513]), .sl v0_513 50 1 x0_.list.length c0_513.flatten] 0)(fuel:Nat)(hfu:100000≤fuel)(r:Bool×Int)(hr:za8 fuel x0_ g_=some r):Calls Tryz.prog 75 #[.pointer (some ⟨g0_,0,none⟩),vg_] w fun e w'=>∃(y:Unit) (G:Frz),(True)∧e= .returned (.tuple #[.bool r.1, .int .i64 r.2])∧FxM F0 w (dj [.row g0_ 144 ((x0_.domains.1.map U)++[.pointer (some ⟨k0_512.sp,0,none⟩),v0_513]), .sl v0_513 50 1 x0_.list.length c0_513.flatten]) G [.row g0_ 144 ((x0_.domains.1.map U)++[.pointer (some ⟨k0_512.sp,0,none⟩),v0_513]), .sl v0_513 50 1 x0_.list.length c0_513.flatten] w':=by
 have hk:=hr;unfold za8 at hk;haveI:=hg_.oneC;haveI:=iJ (hO.own (.sl v0_513 50 1 x0_.list.length c0_513.flatten) a8);have hmx0_513:=i3 (hO.own (.sl v0_513 50 1 x0_.list.length c0_513.flatten) a8);obtain ⟨S0,F1,rfl,hS0,hp0⟩:=ij hF0 hO hA;have hM0:=hZ;have htk:∀ {hs:HS} {w':World},Hp w (dj [.row g0_ 144 ((x0_.domains.1.map U)++[.pointer (some ⟨k0_512.sp,0,none⟩),v0_513]), .sl v0_513 50 1 x0_.list.length c0_513.flatten]) hs w'→Tab w':=fun hw=>htab.kept hw hZ;refine dy (hs:=[.row g0_ 144 ((x0_.domains.1.map U)++[.pointer (some ⟨k0_512.sp,0,none⟩),v0_513]), .sl v0_513 50 1 x0_.list.length c0_513.flatten, .fr F1]) Tryz.func75 rfl rfl rfl hp0 ?_;refine iD ?_;refine mP ?_;refine q07 ?_;rintro _ _ ⟨⟨⟩, -,rfl,rfl⟩;refine eS ?_;refine TL.ns ?_;refine T.cond rfl (fun h1=>?_) (fun h1=>?_)
 ·replace hk:=dC hk h1;refine ld ?_;obtain rfl:=Option.some.inj hk;exact q4P
 ·replace hk:=dD hk h1;refine q3m ?_;have hq:=dV hk;clear hk;obtain ⟨r12,hr12,hk⟩:=hq; (try dsimp only at hk);refine gp ?_;refine cX (dI [0,1,2] [.row g0_ 144 ((x0_.domains.1.map U)++([.pointer (some ⟨k0_512.sp,0,none⟩),v0_513]:List Value)), .sl v0_513 50 1 x0_.list.length c0_513.flatten] [] rfl rfl rfl rfl a6 (fun w hw hw2 hF=>zbP _ w hF x0_ g0_ k0_512 v0_512 L0_512 hs0_512 tf0_512 zf0_512 v0_513 c0_513 h0_513 g_ vg_ hg_ hw2.takes.1 hw2.takes.2 r12 hr12)) ?_;rintro _ _ ⟨⟨⟩, -,rfl,rfl⟩;refine m5 ?_;refine T.cond rfl (fun h2=>?_) (fun h2=>?_)
  ·replace hk:=dC hk h2;refine ld ?_;obtain rfl:=Option.some.inj hk;exact q4P
  ·replace hk:=dD hk h2;refine iK ?_;have hq:=dV hk;clear hk;obtain ⟨r17,hr17,hk⟩:=hq; (try dsimp only at hk);refine iH ((r17.1).isSome) (fun h3=>?_) (fun h3=>?_)
   ·replace hk:=dC hk h3;refine gp ?_;refine cX (ee [0,1,2] [.row g0_ 144 ((x0_.domains.1.map U)++([.pointer (some ⟨k0_512.sp,0,none⟩),v0_513]:List Value)), .sl v0_513 50 1 x0_.list.length c0_513.flatten] [] rfl rfl rfl rfl a6 (fun w hw hw2 hF=>(zbG _ w hF x0_ g0_ k0_512 v0_512 L0_512 hs0_512 tf0_512 zf0_512 v0_513 c0_513 h0_513 g_ vg_ hg_ (htk hw) hw2.takes.1 hw2.takes.2 (hw2.takes0 hM0 htab.pos) fuel hfu r17 hr17).mono (fun e w' hp=>hp.1 h3))) ?_;rintro _ _ ⟨⟨k17_n,v17_n,L17_n⟩,F2,le1_2,⟨hs17_n,tf17_n⟩,rfl,rfl⟩;refine eS ?_; (try dsimp only at hs17_n tf17_n);refine kb ?_;refine dR ?_;refine fF ?_;refine fN ?_;obtain rfl:=Option.some.inj hk;exact eC rfl rfl rfl (fun w' hw=>⟨⟨⟩,F2.toFrz,trivial,rfl,dc (hw.pick (idx:=[0,1,3]) rfl a6) hS0 le1_2⟩)
   ·replace hk:=dD hk h3;refine gp ?_;refine cX (ee [0,1,2] [.row g0_ 144 ((x0_.domains.1.map U)++([.pointer (some ⟨k0_512.sp,0,none⟩),v0_513]:List Value)), .sl v0_513 50 1 x0_.list.length c0_513.flatten] [] rfl rfl rfl rfl a6 (fun w hw hw2 hF=>(zbG _ w hF x0_ g0_ k0_512 v0_512 L0_512 hs0_512 tf0_512 zf0_512 v0_513 c0_513 h0_513 g_ vg_ hg_ (htk hw) hw2.takes.1 hw2.takes.2 (hw2.takes0 hM0 htab.pos) fuel hfu r17 hr17).mono (fun e w' hp=>hp.2 h3))) ?_;rintro _ _ ⟨⟨⟩,F3,le1_3, -,rfl,rfl⟩;refine eS ?_;refine kb ?_;refine dR ?_;refine fF ?_;refine fN ?_;obtain rfl:=Option.some.inj hk;exact eC rfl rfl rfl (fun w' hw=>⟨⟨⟩,F3.toFrz,trivial,rfl,dc (hw.pick (idx:=[0,1,2]) rfl a6) hS0 le1_3⟩)
def zeg (fuel:Nat)(p:GProblem):Option (Option GStore×Int):=
 (bif lE p then
  (zbh fuel p p.Domains).bind fun r8=>
  (zcY p).bind fun r15=>
  some (some (GStore.mk r15 (p,r8) []),0)
  else
  some (none,2))
theorem zfN (F0:Frz)(w:World)(hF0:F0.At w)(p:GProblem)(vp_0:Value)(cp_0:List (List Value))(hp_0:SlD cT F0 vp_0 2 cp_0 p.Domains)(vp_1:Value)(hp_1:SlC F0 vp_1 5 (p.Rules.Pairs.map dh))(vp_2:Value)(hp_2:SlC F0 vp_2 5 (p.Rules.Loads.map dl))(vp_3:Value)(hp_3:SlC F0 vp_3 4 (p.Rules.Caps.map dv))(htab:Tab w)(fuel:Nat)(hfu:100000≤fuel)(r:Option GStore×Int)(hr:zeg fuel p=some r):Calls Tryz.prog 74 #[.agg [vp_0,vp_1,vp_2,vp_3].toArray] w fun e w'=>((r.1).isSome=true→∃(y:Nat×SK×Value×Ws×Value×List (List Value)) (G:Frz),(SI ((r.1.getD default).start).1 ((r.1.getD default).start).2 y.2.1 y.2.2.2.1∧TbF G y.2.1∧SzF G y.2.1 y.2.2.1 y.2.2.2.1 (!((r.1.getD default).start).2.2)∧OwnD cP G 1 y.2.2.2.2.2 ((r.1.getD default).list))∧e= .returned (.tuple #[.pointer (some ⟨y.1,0,none⟩), .int .i64 r.2])∧FxM F0 w (dj []) G [.row y.1 144 ((((r.1.getD default).domains).1.map U)++[.pointer (some ⟨y.2.1.sp,0,none⟩),y.2.2.2.2.1]), .sl y.2.2.2.2.1 50 1 ((r.1.getD default).list).length y.2.2.2.2.2.flatten] w')∧((r.1).isSome=false→∃(y:Unit) (G:Frz),(True)∧e= .returned (.tuple #[.pointer none, .int .i64 r.2])∧FxM F0 w (dj []) G [] w'):=by
 have hk:=hr;unfold zeg at hk;haveI:=hp_0.1.oneC;haveI:=hp_1.oneC;haveI:=hp_2.oneC;haveI:=hp_3.oneC;obtain ⟨S0,F1,rfl,hS0,hp0⟩:=fE hF0;rw [zet];have hM0:¬(fun _:Nat=>False) 0:=fun h=>h;have htk:∀ {hs:HS} {w':World},Hp w (fun _=>False) hs w'→Tab w':=fun hw=>htab.keptF hw;refine dy Tryz.func74 rfl rfl rfl hp0 ?_;refine kg ?_;rintro _ _ ⟨g1,rfl,rfl⟩;refine ez ?_;refine gU ?_;refine iH (lE p) (fun h1=>?_) (fun h1=>?_)
 ·replace hk:=dC hk h1;have hq:=dV hk;clear hk;obtain ⟨r8,hr8,hk⟩:=hq; (try dsimp only at hk);refine fg ?_;refine iu ?_;refine cX (ee [1,0] [] [.row g1 29 [vp_0,vp_1,vp_2,vp_3]] rfl rfl rfl rfl a6 (fun w hw hw2 hF=>zof (p:=p) hF ⟨hp_0,hp_1,hp_2,hp_3⟩ (htk hw) h1 hfu hr8)) ?_;rintro _ _ ⟨⟨k8_,v8_,L8_⟩,F2,le1_2,⟨hs8,tf8⟩,rfl,rfl⟩;refine eS ?_; (try dsimp only at hs8 tf8);refine q1l ?_;refine iU rfl rfl ?_;refine iK ?_;refine kY (fun w hw=>hw.freezeSt (i:=1) (j:=0) a6 rfl rfl) ?_;rintro F3 ⟨le2_3,zf3⟩;refine gY ?_;have le1_3:=le1_2.trans le2_3;have hq:=dV hk;clear hk;obtain ⟨r15,hr15,hk⟩:=hq; (try dsimp only at hk);refine fg ?_;refine m2 ?_;refine cX (cS rfl rfl rfl (fun w hw=>zfY _ w (hw.fr (i:=0) rfl) p vp_0 cp_0 (SlD.mono (rep:=cT) (fun _ _ _ _=>GDomain.mono) hp_0 le1_3) vp_1 (SlC.mono hp_1 le1_3) vp_2 (SlC.mono hp_2 le1_3) vp_3 (SlC.mono hp_3 le1_3) r15 hr15)) ?_;refine mr ?_;refine cR (Yv.bV rfl rfl (l0:=(((Vec.fill 512 (0#64)).1.map U)++[.pointer none,(.slice none 0 0)])) (l:=((r15.1.map U)++[.pointer (some ⟨k8_.sp,0,none⟩),(.slice none 0 0)])) a7 (zen (off:=0) a7 rfl Vec.len (zhn (Vec.len.trans Vec.len.symm)) (by simp only [Nat.zero_add,Vec.len];rw [(zdj Vec.len (show List.length _=2 from rfl))];decide) (zen (off:=512) a7 (OneC.cells inferInstance) rfl (zfA (off:=512) (by rw [(zdj Vec.len (show List.length _=2 from rfl))]; (try simp only [List.length_cons,List.length_nil]);decide) (zgQ (by rfl) (zg9 Vec.len (rfl:([.pointer none,(.slice none 0 0)]:List Value).set 0 _=_)))) (by rw [(zdj Vec.len (show List.length _=2 from rfl))]; (try simp only [List.length_cons,List.length_nil]);decide) rfl))) ?_;refine q31 ?_;rintro _ _ ⟨g18,rfl,rfl⟩;refine TL.slNil 50 1 ?_;refine jP ?_;obtain rfl:=Option.some.inj hk;exact eC rfl rfl rfl (fun w' hw=>⟨fun _=>⟨(g18,k8_,v8_,L8_,(.slice none 0 0),[]),F3.toFrz,⟨hs8,(tf8.mono le2_3),zf3,(OwnD.nil _ _ 1)⟩,rfl,dc (hw.pick (idx:=[1,0,2]) rfl a6) hS0 le1_3⟩,fun h=>(by cases h)⟩)
 ·replace hk:=dD hk h1;refine fg ?_;refine iu ?_;refine cX (cS rfl rfl rfl (fun w hw=>zkS (p:=p) (hw.fr (i:=1) rfl) ⟨hp_0,hp_1,hp_2,hp_3⟩ h1)) ?_;refine fb ?_;refine q1l ?_;refine lq rfl rfl ?_;refine dm ?_;refine fF ?_;refine kh ?_;obtain rfl:=Option.some.inj hk;exact eC rfl rfl rfl (fun w' hw=>⟨fun h=>(by cases h),fun _=>⟨⟨⟩,F1.toFrz,trivial,rfl,dc (hw.pick (idx:=[1]) rfl a6) hS0 (Frz.Le.refl _)⟩⟩)
def orK (k:IntKind)(a b:Int):Int:=k.wrap ((BitVec.ofInt k.bits a ||| BitVec.ofInt k.bits b).toNat:Int)
def andK (k:IntKind)(a b:Int):Int:=k.wrap ((BitVec.ofInt k.bits a &&& BitVec.ofInt k.bits b).toNat:Int)
def remK (k:IntKind)(a b:Int):Int:=a.tmod b
def jW (xs:List Int):List UInt8:=xs.map fun n=>UInt8.ofNat n.toNat
theorem znd (z:Int):IntKind.u64.wrap z=((BitVec.ofInt 64 z).toNat:Int):=by
 rw [BitVec.toNat_ofInt];simp only [IntKind.wrap,IntKind.signed,IntKind.bits,Bool.false_and];simp;omega
theorem zlW {α:Type}[Inhabited α]{enc:α→List Value}{size:Nat}(he:∀y,(enc y).length=size)(hs:0<size)(x:α)(n:Nat):(madeCells (enc x).toArray (n*size)).toList=(List.replicate n x).flatMap enc:=by
 apply List.ext_getElem?;intro i; (have hl:((List.replicate n x).flatMap enc).length=n*size:=by rw [zmf enc size he];simp);by_cases hi:i<n*size
 ·have hq:i / size<n:=Nat.div_lt_of_lt_mul (by rw [Nat.mul_comm];exact hi);have hj:i % size<size:=Nat.mod_lt _ hs;have e:i=i / size*size+i % size:=(Nat.div_add_mod' i size).symm
  have e2:((List.replicate n x).flatMap enc)[i]?=(enc x)[i % size]?:=by
   conv=>lhs;rw [e]
   rw [zfd enc size he _ _ (by simpa using hq) _ hj];simp
  rw [e2]; (have hj2:i % size<(enc x).length:=by rw [he];exact hj);simp [madeCells,hi,he,List.getElem?_eq_getElem hj2]
 ·rw [List.getElem?_eq_none (by simp [madeCells];omega),List.getElem?_eq_none (by rw [hl];omega)]
section
variable {P:Program}{n:Nat}{B D:World}{M S0:Nat→Prop}{fs:dW}{hs:HS}{o:Oper}{v:Value}
theorem Ew.cy {α : Type} [Inhabited α] {t e : TypeId} {size bytes n' : Nat} {z : List Value} {x y : Operand} {q q' : IntKind} {xi : Int} {enc : α → List Value} {u : α} [hT : TyE P t e size bytes z] (ho : o.op = .makeSlice t x y) (hx : ev fs x = some (.int q xi)) (hy : ev fs y = some (.int q' xi)) (hn : xi = (n' : Int)) (hr : dd n' bytes) (hb : 0 < bytes) (hp : 0 < size) (he : ∀ v, (enc v).length = size) (hz : enc u = z) :
    Ew P n B M fs hs o (fun v hs' => OneC v ∧ hs' = .sl v e size (List.replicate n' u).length ((List.replicate n' u).flatMap enc) :: hs) := fun F hF Q K a w ha hw k => by
  have hle : n' ≤ 140737488355328 := Nat.le_trans (Nat.le_mul_of_pos_right _ hb) hr; refine Ew.makeSlice ho hx hy hn hn a5 (by rw [Nat.mul_comm]; have h := hr; unfold dd at h; omega) F hF Q K a w ha hw (fun v w' hs' h1 h2 h3 => ?_); obtain ⟨g, rfl, rfl⟩ := h3;refine k _ w' _ h1 ?_ ⟨⟨rfl⟩, rfl⟩; rw [← zlW he hp u n', hz, List.length_replicate]; exact h2
theorem Yv.orK {x y:Operand}{t u:TypeId}{k:IntKind}{a b:Int}(ho:o.op= .binOp .or t x y u)(hx:ev fs x=some (.int k a))(hy:ev fs y=some (.int k b)):Yv P n B M fs hs o (.int k (orK k a b)):=fun f w ha _=>by
 unfold execOp;simp [ho,ha.ev hx,ha.ev hy,eqGuard,binOp,Op.intBits,Go.Proofs.YtogbggmckmnlfaaGreatDoor.orK]
theorem Yv.andK {x y:Operand}{t u:TypeId}{k:IntKind}{a b:Int}(ho:o.op= .binOp .and t x y u)(hx:ev fs x=some (.int k a))(hy:ev fs y=some (.int k b)):Yv P n B M fs hs o (.int k (andK k a b)):=fun f w ha _=>by
 unfold execOp;simp [ho,ha.ev hx,ha.ev hy,eqGuard,binOp,Op.intBits,Go.Proofs.YtogbggmckmnlfaaGreatDoor.andK]
theorem Yv.remK {x y:Operand}{t u:TypeId}{k:IntKind}{a b:Int}(ho:o.op= .binOp .rem t x y u)(hx:ev fs x=some (.int k a))(hy:ev fs y=some (.int k b))(hb:b≠0):Yv P n B M fs hs o (.int k (remK k a b)):=fun f w ha _=>by
 unfold execOp;simp [ho,ha.ev hx,ha.ev hy,eqGuard,binOp,Op.intDiv,hb,Go.Proofs.YtogbggmckmnlfaaGreatDoor.remK]
theorem iY {s t:TypeId}{k k':IntKind}{z:Int}{x:Operand}[hS:TyI P s k'][hT:TyI P t k](ho:o.op= .convert s t x:=by exact rfl)(hx:ev fs x=some (.int k' z):=by exact rfl):Yv P n B M fs hs o (.int k (k.wrap z)):=fun a w ha _=>by
 have h:=hT.h;have h':=hS.h;unfold znm at h h'
 split at h
 ·rename_i q hU
  cases h
  split at h'
  ·rename_i q' hU'
   cases h'
   unfold execOp;simp [ho,ha.ev hx,convert,underlying,hU,hU',Conv.intToInt]
  ·cases h'
 ·cases h
theorem Yv.bK {s t:TypeId}{k':IntKind}{z:Int}{x:Operand}[hS:TyI P s k'][hT:TyI P t .u64](ho:o.op= .convert s t x)(hx:ev fs x=some (.int k' z)):Yv P n B M fs hs o (U (BitVec.ofInt 64 z)):=(iY ho hx).eq (by rw [znd])
theorem kv (ix:Nat){F:FzB B M S0}{s t e:TypeId}{xs:List Int}{x:Operand}(hs1:P.underlying s=some (.slice e))(he:P.underlying e=some (.int .u8))(ht:P.underlying t=some .string)(ho:o.op= .convert s t x)(hx:ev fs x=some v)(hF:hs[ix]?=some (.fr F))(h:SlC F.toFrz v 1 (xs.map (eK .u8))):Yv P n B M fs hs o (.string ⟨(jW xs).toArray⟩):=fun a w ha hw=>by
 obtain ⟨A,cap,rfl,h2,h3,h4,h5⟩:=h;unfold execOp
 cases xs with
 |nil=>
  have:(convert s t (.slice A ([].map (eK .u8)).length cap)).run P w= .ok (.string ⟨#[]⟩) w:=by
   rw [run_convert_bytes_string w s t e A _ cap hs1 he ht]
   cases A with
   |none=>rfl
   |some b=>
    rw [run_bytesToString (P:=P) w b _ cap [] (by rfl)];rfl
  simp [ho,ha.ev hx] at this ⊢;rw [this];rfl
 |cons z r=>
  obtain ⟨g,off,rfl,hg,hc⟩:=h5 a8;have hl:(List.map (eK .u8) (z :: r)).length=(z :: r).length:=List.length_map _
  have:=run_convert_bytes_arg (P:=P) w s e hs1 he g off (z :: r).length cap (z :: r) rfl (fun i hi=>by
   have h6:=Cs.at (hw.fr hF) hg (hc i (by rw [hl];exact hi)) 0 (by rw [zcN hi];simp);rw [zcN hi] at h6;rw [show off+i=off+i*1+0 by omega,h6,eh hi]
   simp [List.getElem?_eq_getElem hi,List.getD_eq_getElem?_getD]) t ht
  rw [hl] at hx;simp [ho,ha.ev hx] at this ⊢;rw [this];rfl
theorem Yv.cf {x y:Operand}{t u:TypeId}{a b:List UInt8}(ho:o.op= .binOp .eql t x y u)(hx:ev fs x=some (.string ⟨a.toArray⟩))(hy:ev fs y=some (.string ⟨b.toArray⟩)):Yv P n B M fs hs o (.bool (a == b)):=fun f w ha _=>by
 unfold execOp;simp [ho,ha.ev hx,ha.ev hy,eqGuard,binOp,Op.stringOp,ByteArray.toList_eq]
theorem Yv.cz {x y:Operand}{t u:TypeId}{a b:List UInt8}(ho:o.op= .binOp .neq t x y u)(hx:ev fs x=some (.string ⟨a.toArray⟩))(hy:ev fs y=some (.string ⟨b.toArray⟩)):Yv P n B M fs hs o (.bool (!(a == b))):=fun f w ha _=>by
 unfold execOp;simp [ho,ha.ev hx,ha.ev hy,eqGuard,binOp,Op.stringOp,ByteArray.toList_eq]
end
def zaW (x0_:GStore):Option (Option GStore):=
 (bif (zaD x0_) then
  some none
  else
  dU (dd x0_.list.length 24) <|
  some (some (GStore.mk x0_.domains (x0_.start.1,x0_.start.2) x0_.list)))
theorem zbi (F0:Frz)(w:World)(hF0:F0.At w)(x0_:GStore)(g0_:Nat)(k0_512:SK)(v0_512:Value)(L0_512:Ws)(hs0_512:SI x0_.start.1 x0_.start.2 k0_512 L0_512)(tf0_512:TbF F0 k0_512)(zf0_512:SzF F0 k0_512 v0_512 L0_512 (!x0_.start.2.2))(v0_513:Value)(c0_513:List (List Value))(h0_513:OwnD cP F0 1 c0_513 x0_.list)(htab:Tab w)(hO:Hp w (dj [.row g0_ 144 ((x0_.domains.1.map U)++[.pointer (some ⟨k0_512.sp,0,none⟩),v0_513]), .sl v0_513 50 1 x0_.list.length c0_513.flatten]) [.row g0_ 144 ((x0_.domains.1.map U)++[.pointer (some ⟨k0_512.sp,0,none⟩),v0_513]), .sl v0_513 50 1 x0_.list.length c0_513.flatten] w)(hA:∀g,dj [.row g0_ 144 ((x0_.domains.1.map U)++[.pointer (some ⟨k0_512.sp,0,none⟩),v0_513]), .sl v0_513 50 1 x0_.list.length c0_513.flatten] g→¬F0.S g)(hZ:¬dj [.row g0_ 144 ((x0_.domains.1.map U)++[.pointer (some ⟨k0_512.sp,0,none⟩),v0_513]), .sl v0_513 50 1 x0_.list.length c0_513.flatten] 0)(r:Option GStore)(hr:zaW x0_=some r):Calls Tryz.prog 46 #[.pointer (some ⟨g0_,0,none⟩)] w fun e w'=>((r).isSome=true→∃(y:Nat×SK×Value×Ws×Value×List (List Value)) (G:Frz),(SI ((r.getD default).start).1 ((r.getD default).start).2 y.2.1 y.2.2.2.1∧TbF G y.2.1∧SzF G y.2.1 y.2.2.1 y.2.2.2.1 (!((r.getD default).start).2.2)∧OwnD cP G 1 y.2.2.2.2.2 ((r.getD default).list))∧e= .returned (.pointer (some ⟨y.1,0,none⟩))∧FxM F0 w (dj [.row g0_ 144 ((x0_.domains.1.map U)++[.pointer (some ⟨k0_512.sp,0,none⟩),v0_513]), .sl v0_513 50 1 x0_.list.length c0_513.flatten]) G [.row g0_ 144 ((x0_.domains.1.map U)++[.pointer (some ⟨k0_512.sp,0,none⟩),v0_513]), .sl v0_513 50 1 x0_.list.length c0_513.flatten, .row y.1 144 ((((r.getD default).domains).1.map U)++[.pointer (some ⟨y.2.1.sp,0,none⟩),y.2.2.2.2.1]), .sl y.2.2.2.2.1 50 1 ((r.getD default).list).length y.2.2.2.2.2.flatten] w')∧((r).isSome=false→∃(y:Unit) (G:Frz),(True)∧e= .returned (.pointer none)∧FxM F0 w (dj [.row g0_ 144 ((x0_.domains.1.map U)++[.pointer (some ⟨k0_512.sp,0,none⟩),v0_513]), .sl v0_513 50 1 x0_.list.length c0_513.flatten]) G [.row g0_ 144 ((x0_.domains.1.map U)++[.pointer (some ⟨k0_512.sp,0,none⟩),v0_513]), .sl v0_513 50 1 x0_.list.length c0_513.flatten] w'):=by
 have hk:=hr;unfold zaW at hk;haveI:=iJ (hO.own (.sl v0_513 50 1 x0_.list.length c0_513.flatten) a8);have hmx0_513:=i3 (hO.own (.sl v0_513 50 1 x0_.list.length c0_513.flatten) a8);obtain ⟨S0,F1,rfl,hS0,hp0⟩:=ij hF0 hO hA;have hM0:=hZ;have htk:∀ {hs:HS} {w':World},Hp w (dj [.row g0_ 144 ((x0_.domains.1.map U)++[.pointer (some ⟨k0_512.sp,0,none⟩),v0_513]), .sl v0_513 50 1 x0_.list.length c0_513.flatten]) hs w'→Tab w':=fun hw=>htab.kept hw hZ;refine dy (hs:=[.row g0_ 144 ((x0_.domains.1.map U)++[.pointer (some ⟨k0_512.sp,0,none⟩),v0_513]), .sl v0_513 50 1 x0_.list.length c0_513.flatten, .fr F1]) Tryz.func46 rfl rfl rfl hp0 ?_;refine i5 ?_;refine q07 ?_;rintro _ _ ⟨⟨⟩, -,rfl,rfl⟩;refine eS ?_;refine TL.ns ?_;refine T.cond rfl (fun h1=>?_) (fun h1=>?_)
 ·replace hk:=dC hk h1;refine hD ?_;obtain rfl:=Option.some.inj hk;exact c8 rfl rfl (fun w' hw=>⟨fun h=>(by cases h),fun _=>⟨⟨⟩,F1.toFrz,trivial,rfl,dc (hw.pick (idx:=[0,1,2]) rfl a6) hS0 (Frz.Le.refl _)⟩⟩)
 ·replace hk:=dD hk h1;refine iK ?_;have hq:(dd x0_.list.length 24)∧_:=eW hk;clear hk;obtain ⟨g18,hk⟩:=hq; (try dsimp only at hk);refine d8 (sN 0 8 (sN 9 4 (.eff 8 (.eff 13 (.still 14 (.eff 15 (.still 16 .done))))))) _ a7 (List.Sublist.refl _) ?_;refine jl ?_;refine cZ rfl (Yv.bR 0 (m:=(x0_.domains.1.map U)) rfl rfl rfl (zne Vec.len) Vec.len) ?_;refine jl ?_;refine cZ rfl (da 0 rfl rfl rfl (lH a5 (zd5 Vec.len (show [.pointer (some ⟨k0_512.sp,0,none⟩),v0_513][0]?=some _ from rfl)))) ?_;refine jl ?_;refine cZ rfl (da 0 rfl rfl rfl (lH a5 (zd5 Vec.len (show [.pointer (some ⟨k0_512.sp,0,none⟩),v0_513][1]?=some _ from rfl)))) ?_;refine dQ ?_;refine dx rfl (Wt.none) rfl rfl (ee [2,0,1] [] [.row g0_ 144 ((x0_.domains.1.map U)++([.pointer (some ⟨k0_512.sp,0,none⟩),v0_513]:List Value)), .sl v0_513 50 1 x0_.list.length c0_513.flatten] rfl rfl rfl rfl a6 (fun w hw hw2 hF=>zlr hs0_512 tf0_512 (zf0_512 w hF) hF (htk hw))) ?_;rintro _ _ ⟨⟨k13_,v13_⟩,F2,le1_2,⟨hs13,tf13⟩,rfl,rfl⟩;refine eS ?_; (try dsimp only at hs13 tf13);refine ⟨(fun w hw=>(hw.frLe (i:=1) rfl le1_2).pick (idx:=[2,3,1]) rfl a6),?_⟩;refine lr (fun w hw=>hw.freezeSt (i:=1) (j:=0) a6 rfl rfl) ?_;rintro F3 ⟨le2_3,zf3⟩;refine gY ?_;have le1_3:=le1_2.trans le2_3;refine dQ ?_;refine dx rfl (Wt.none) rfl rfl (jr rfl rfl rfl (fun w hw=>(hw.bor (i:=0) (j:=2) rfl rfl).elim fun F9 b=>have le3_4:=b.1.le;have le1_4:=le1_3.trans le3_4;have le2_4:=le2_3.trans le3_4;zfu F9 w b.1.at_ x0_.list v0_513 c0_513 (b.2.toD (OwnD.mono (rep:=cP) (fun _ _ _ _=>R_List_GChoice.mono) h0_513 le1_4) rfl) g18)) ?_;rintro v18_ _ ⟨_,_,rfl,rfl⟩;refine eS ?_;refine ⟨(fun w hw=>(hw.frLe (i:=1) rfl le1_3).pick (idx:=[2,3,1]) rfl a6),?_⟩;refine kr 0 rfl ?_;intro iv18_ hmv18_;refine cZ rfl (Yv.bV rfl rfl (l0:=(((Vec.fill 512 (0#64)).1.map U)++[.pointer none,(.slice none 0 0)])) (l:=((x0_.domains.1.map U)++[.pointer (some ⟨k13_.sp,0,none⟩),v18_])) a7 (zen (off:=0) a7 rfl Vec.len (zhn (Vec.len.trans Vec.len.symm)) (by simp only [Nat.zero_add,Vec.len];rw [(zdj Vec.len (show List.length _=2 from rfl))];decide) (zen (off:=512) a7 (OneC.cells inferInstance) rfl (zfA (off:=512) (by rw [(zdj Vec.len (show List.length _=2 from rfl))]; (try simp only [List.length_cons,List.length_nil]);decide) (zgQ (by rfl) (zg9 Vec.len (rfl:([.pointer none,(.slice none 0 0)]:List Value).set 0 _=_)))) (by rw [(zdj Vec.len (show List.length _=2 from rfl))]; (try simp only [List.length_cons,List.length_nil]);decide) (zen (off:=513) a7 (OneC.cells inferInstance) rfl (zfA (off:=513) (by rw [(zdj Vec.len (show List.length _=2 from rfl))]; (try simp only [List.length_cons,List.length_nil]);decide) (zgQ (by rfl) (zg9 Vec.len (rfl:([.pointer (some ⟨k13_.sp,0,none⟩),(.slice none 0 0)]:List Value).set 1 _=_)))) (by rw [(zdj Vec.len (show List.length _=2 from rfl))]; (try simp only [List.length_cons,List.length_nil]);decide) rfl)))) ?_;refine dQ ?_;refine dx rfl (Wt.none) rfl rfl (dM) ?_;rintro _ _ ⟨g20,rfl,rfl⟩;refine ⟨(fun w hw=>(hw.frLe (i:=2) rfl le1_3).pick (idx:=[3,4,2]) rfl a6),?_⟩;refine gj ?_
  refine ir ?_;refine K.seq (T.ret ?_);obtain rfl:=Option.some.inj hk;exact c8 rfl rfl (fun w' hw=>⟨fun _=>⟨(g20,k13_,v13_,L0_512,v18_,c0_513),F3.toFrz,⟨hs13,(tf13.mono le2_3),zf3,(OwnD.mono (rep:=cP) (fun _ _ _ _=>R_List_GChoice.mono) h0_513 le1_3)⟩,rfl,dc (hw.pick (idx:=[3,4,0,1,2]) rfl a6) hS0 le1_3⟩,fun h=>(by cases h)⟩)
end Go.Proofs.YtogbggmckmnlfaaGreatDoor
