/- G2 H1 Pn H2 J1 J2: shortened and put together by squeeze.py. -/
import Derived.Test.YtogbggmckmnlfaaGreatDoorQ04
set_option maxRecDepth 100000
set_option maxHeartbeats 4000000
set_option linter.unusedVariables false
set_option linter.unusedSectionVars false
set_option linter.unusedSimpArgs false
namespace Go.Proofs.YtogbggmckmnlfaaGreatDoor
open Go.RowKit
theorem cO {p:Prop}(h:p:=by rw [zfc (by omega)];omega):p:=h
theorem cJ {p:Prop}(h:p:=by rw [List.length_map,la]):p:=h
theorem a9 {p:Prop}(h:p:=by dsimp only;omega):p:=h
theorem zfa {L:Ws}{i d:Nat}{l:List Ld}{k:Nat}(h:k<l.length):jU L i d (l.take (k+1))=jV L i d (jU L i d (l.take k)) (cQ l k):=jm _ _ h
theorem zja (sp:Nat)(Y:Tb)(L:Ws)(c:Bool)(i:Nat)(z:Int)(hz:z=(i:Int))(hi:i<Y.n)(w:World)(h:StateAt w sp Y L c)(hok:Y.Ok):Calls Tryz.prog 155 #[.pointer (some ⟨sp,0,none⟩), .int .i64 z] w fun e w'=>e= .returned (U (lQ Y L i))∧Below w.heap.size w w':=by
 subst hz;obtain ⟨tp,hsp0,hT⟩:=h.tb;obtain ⟨vL,hsp1,hL⟩:=h.left;obtain ⟨AL,gV,rfl,hLs⟩:=hL.op;have hLn:=h.len;obtain ⟨vO,hO0,hO⟩:=hT.out.at';obtain ⟨AO,capO,rfl,hOs⟩:=hO.op;have hOn:=hT.out.len;obtain ⟨gO,oO,rfl,hOc⟩:=hOs a5;rw [hOn] at hO0;have hOi:=hOc i (by rw [hOn];exact hi);obtain ⟨BO,cpO,hvO,hslO⟩:=(hT.out.each i hi).op;simp only [hvO] at hOi;obtain ⟨vI,hI0,hI⟩:=hT.inn.at';obtain ⟨AI,capI,rfl,hIs⟩:=hI.op;have hIn:=hT.inn.len;obtain ⟨gI,oI,rfl,hIc⟩:=hIs a5;rw [hIn] at hI0;obtain ⟨vC,hC0,hC⟩:=hT.cs.at';obtain ⟨AC,capC,rfl,hCs⟩:=hC.op;have hCn:=hT.cs.len;obtain ⟨gC,oC,rfl,hCc⟩:=hCs a5;rw [hCn] at hC0;obtain ⟨hlen,hrng⟩:=hok.out i hi;have hn512:=hok.n;refine dy (M:=fun _=>False) (hs:=[]) Tryz.func155 rfl rfl rfl (Hp.refl _ _) ?_;refine mM ?_;refine i2 ?_;refine ez ?_;refine q1N ?_;refine cR (dX rfl rfl hO0 (fun h=>h)) ?_;refine lx ?_;refine cR (ek (j:=0) rfl rfl hOi rfl rfl (fun h=>h)) ?_;refine jH ?_;refine T.loop (ι:=Nat) (fun k=>[(0, .pointer (some ⟨sp,0,none⟩)),(1, .int .i64 (i:Int)),(23, .slice BO (Y.out i).length cpO),(24, .int .i64 ((Y.out i).length:Int)),(25, .int .i64 (k:Int)),(5,U (((Y.out i).take k).foldl (lh Y L i) 0#64))]) (fun k=>[]) (fun k=>k≤(Y.out i).length) (fun k=>(Y.out i).length - k) 0 ?_ ?_ ?_ ?_
 ·omega
 ·exact (by repeat (first|exact Sub.nil|refine Sub.cons rfl ?_))
 ·exact Sx
 ·intro k hphi;refine eR ?_;refine T.cond rfl (fun h1=>?_) (fun h1=>?_)
  ·have p1:=h1; (try simp only [c7] at p1);obtain ⟨g,off,rfl,hc⟩:=hslO a5;have hk:=hc k a5;simp only [Ld.cells] at hk;have hr:=hrng _ (i0 (xs:=Y.out i) (k:=k) a5);have oa:=zhD L (cQ (Y.out i) k).to.toNat; (have htn:(cQ (Y.out i) k).to.toNat<Y.n:=by omega);obtain ⟨hlenI,hrngI⟩:=hok.inn _ htn;obtain ⟨hlenC,hrngC⟩:=hok.cs _ htn; (have hwt:∀x∈Y.inn (cQ (Y.out i) k).to.toNat,1≤x.wt∧x.wt≤1073741824:=fun x hx=>by have:=hrngI x hx;omega);have hIi:=hIc (cQ (Y.out i) k).to.toNat (by rw [hIn];exact htn);obtain ⟨BI,cpI,hvI,hslI⟩:=(hT.inn.each (cQ (Y.out i) k).to.toNat htn).op;simp only [hvI] at hIi;have hCi:=hCc (cQ (Y.out i) k).to.toNat (by rw [hCn];exact htn);obtain ⟨BC,cpC,hvC,hslC⟩:=(hT.cs.each (cQ (Y.out i) k).to.toNat htn).op;simp only [hvC] at hCi;refine kP ?_;refine T.cut (gs:=[(0, .pointer (some ⟨sp,0,none⟩)),(1, .int .i64 (i:Int)),(23, .slice (some ⟨g,off,none⟩) (Y.out i).length cpO),(24, .int .i64 ((Y.out i).length:Int)),(25, .int .i64 (k:Int)),(5,U (((Y.out i).take (k+1)).foldl (lh Y L i) 0#64))]) (hs':=[]) ?_ ?_
   ·skip;refine T.block (dm ?_);refine lG ?_; (refine cU (Wt.none) rfl rfl (Ew.alloc) ?_;rintro _ _ ⟨g7,rfl,rfl⟩); (refine dS (Wt.none) rfl (dF 0) ?_;rintro _ _ ⟨rfl,rfl⟩);refine l7 ?_;refine eX ?_; (refine cU (Wt.none) rfl rfl (cS rfl rfl rfl (fun w hw=>zdr sp Y L c ((cQ (Y.out i) k).to.toNat) _ a5 a5 w (h.kept hw))) ?_;rintro _ _ ⟨rfl,rfl⟩);refine l5 ?_;refine eX ?_;refine ez ?_;refine dw rfl rfl rfl (fun h2=>?_) (fun h2=>?_)
    ·have p2:=h2; (try simp only [c7] at p2);refine q0i ?_;refine TL.off (Wt.not rfl rfl rfl h2) rfl rfl ?_;refine q2w ?_;refine TL.run 7 rfl ?_;refine lO ?_;refine T.exit (fG (iT ?_)); (refine K.at ?_ Sx;rw [jm _ _ a5,lh,if_pos (.inl a5)];exact (by repeat (first|exact Sub.nil|refine Sub.cons rfl ?_)))
    ·have p2:=h2; (try simp only [c7] at p2);refine mj ?_;refine mw ?_;refine mj ?_;refine q30 ?_;refine dp ?_;refine dw rfl rfl rfl (fun h3=>?_) (fun h3=>?_)
     ·have p3:=h3; (try simp only [c7] at p3);refine q0p ?_;refine TL.off (Wt.not rfl rfl rfl h3) rfl rfl ?_;refine TL.off (Wt.not rfl rfl rfl h3) rfl rfl ?_;refine q3x ?_;refine lO ?_;refine T.exit (fG (iT ?_)); (refine K.at ?_ Sx;rw [jm _ _ a5,lh,if_pos (.inl a5)];exact (by repeat (first|exact Sub.nil|refine Sub.cons rfl ?_)))
     ·have p3:=h3; (try simp only [c7] at p3);refine q1L ?_;refine q1L ?_;refine db (Wt.some rfl rfl rfl h3) rfl rfl (fW (only L (cQ (Y.out i) k).to.toNat) rfl rfl rfl rfl a5) ?_;refine db (Wt.some rfl rfl rfl h3) rfl rfl (gm (b:=1#64)) ?_;refine q1L ?_;refine cR (eB rfl rfl h3) ?_;refine TL.ns ?_;refine T.cond rfl (fun h4=>?_) (fun h4=>?_)
      ·have p4:=h4; (try simp only [c7] at p4); (have hbit:((((Y.out i).take k).foldl (lh Y L i) 0#64)).getLsbD (only L (cQ (Y.out i) k).to.toNat)=true:=by rw [←zh2];exact decide_eq_true cK);refine T.exit (fG (iT ?_)); (have hb:=hbit;refine K.at ?_ Sx;rw [jm _ _ a5,lh,if_pos (.inr hb)];exact (by repeat (first|exact Sub.nil|refine Sub.cons rfl ?_)))
      ·have p4:=h4; (try simp only [c7] at p4); (have hno:¬(((only L (cQ (Y.out i) k).to.toNat:Int)<(cQ (Y.out i) k).lo∨(cQ (Y.out i) k).hi<(only L (cQ (Y.out i) k).to.toNat:Int))∨((((Y.out i).take k).foldl (lh Y L i) 0#64)).getLsbD (only L (cQ (Y.out i) k).to.toNat)=true):=by rintro ((hh|hh)|hh);omega;omega;rw [←zh2] at hh;exact absurd (of_decide_eq_true hh) cK);refine gW ?_;refine dL ?_;refine T.cut (gs:=[(0, .pointer (some ⟨sp,0,none⟩)),(1, .int .i64 (i:Int)),(23, .slice (some ⟨g,off,none⟩) (Y.out i).length cpO),(24, .int .i64 ((Y.out i).length:Int)),(25, .int .i64 (k:Int)),(7, .pointer (some ⟨g7,0,none⟩)),(8, .int .i64 (only L (cQ (Y.out i) k).to.toNat:Int)),(5,U (((Y.out i).take k).foldl (lh Y L i) 0#64)),(9, .int .i64 (jU L i (only L (cQ (Y.out i) k).to.toNat) (Y.inn (cQ (Y.out i) k).to.toNat)))]) (hs':=[.row g7 102 [.int .i64 (cQ (Y.out i) k).to, .int .i64 (cQ (Y.out i) k).fr, .int .i64 (cQ (Y.out i) k).wt, .int .i64 (cQ (Y.out i) k).lo, .int .i64 (cQ (Y.out i) k).hi]]) ?_ ?_
       ·skip;refine T.seq ?_;refine q1d ?_;refine jl ?_;refine cZ rfl (dX rfl rfl hsp0 (fun h=>h)) ?_;refine gj ?_;refine iN ?_;refine cZ rfl (dX rfl rfl hI0 (fun h=>h)) ?_;refine q2j ?_;refine cZ rfl (ek (j:=0) rfl rfl hIi rfl rfl (fun h=>h)) ?_;refine q3V ?_;refine T.loop (ι:=Nat) (fun j=>[(0, .pointer (some ⟨sp,0,none⟩)),(1, .int .i64 (i:Int)),(23, .slice (some ⟨g,off,none⟩) (Y.out i).length cpO),(24, .int .i64 ((Y.out i).length:Int)),(25, .int .i64 (k:Int)),(7, .pointer (some ⟨g7,0,none⟩)),(8, .int .i64 (only L (cQ (Y.out i) k).to.toNat:Int)),(5,U (((Y.out i).take k).foldl (lh Y L i) 0#64)),(9, .int .i64 (jU L i (only L (cQ (Y.out i) k).to.toNat) ((Y.inn (cQ (Y.out i) k).to.toNat).take j))),(60, .slice BI (Y.inn (cQ (Y.out i) k).to.toNat).length cpI),(61, .int .i64 ((Y.inn (cQ (Y.out i) k).to.toNat).length:Int)),(62, .int .i64 (j:Int))]) (fun j=>[.row g7 102 [.int .i64 (cQ (Y.out i) k).to, .int .i64 (cQ (Y.out i) k).fr, .int .i64 (cQ (Y.out i) k).wt, .int .i64 (cQ (Y.out i) k).lo, .int .i64 (cQ (Y.out i) k).hi]]) (fun j=>j≤(Y.inn (cQ (Y.out i) k).to.toNat).length) (fun j=>(Y.inn (cQ (Y.out i) k).to.toNat).length - j) 0 ?_ ?_ ?_ ?_
        ·omega
        ·exact (by repeat (first|exact Sub.nil|refine Sub.cons rfl ?_))
        ·exact Sx
        ·intro j hphi;refine eR ?_;refine T.cond rfl (fun h5=>?_) (fun h5=>?_)
         ·have p5:=h5; (try simp only [c7] at p5);obtain ⟨gi,offi,rfl,hci⟩:=hslI a5;have hj:=hci j a5;simp only [Ld.cells] at hj;have hri:=hrngI _ (i0 (xs:=Y.inn (cQ (Y.out i) k).to.toNat) (k:=j) a5);have hbd:=zob (L:=L) (i:=i) (d:=only L (cQ (Y.out i) k).to.toNat) hlenI hwt j;refine fH ?_;refine q0w ?_;refine cR (ie rfl rfl hj rfl (fun h=>h)) ?_; (refine cU (Wt.none) rfl rfl (Ew.alloc) ?_;rintro _ _ ⟨g11,rfl,rfl⟩); (refine dS (Wt.none) rfl (dF 0) ?_;rintro _ _ ⟨rfl,rfl⟩);refine dR ?_;refine eX ?_;refine fF ?_;refine dw rfl rfl rfl (fun h6=>?_) (fun h6=>?_)
          ·have p6:=h6; (try simp only [c7] at p6);refine q13 ?_;refine dp ?_;refine dw rfl rfl rfl (fun h7=>?_) (fun h7=>?_)
           ·have p7:=h7; (try simp only [c7] at p7);refine q3M ?_;refine db (Wt.some rfl rfl rfl h7) rfl rfl (ei) ?_;refine db (Wt.some rfl rfl rfl h7) rfl rfl (ei) ?_;refine db (Wt.some rfl rfl rfl h7) rfl rfl (ei) ?_;refine dw rfl rfl rfl (fun h8=>?_) (fun h8=>?_)
            ·have p8:=h8; (try simp only [c7] at p8);refine q1h ?_;refine q1h ?_;refine db (Wt.some rfl rfl rfl h7) rfl rfl (eT rfl rfl h8) ?_;refine cR (eT rfl rfl h7) ?_;refine lO ?_;refine fk ?_;refine eX ?_;refine mv ?_;refine mm ?_;exact K.next (j+1) a5 a5 (by rw [zfa a5,jV];split <;> first|(exfalso;omega)|exact (by repeat (first|exact Sub.nil|refine Sub.cons rfl ?_))) Sx
            ·have p8:=h8; (try simp only [c7] at p8);refine db (Wt.some rfl rfl rfl h8) rfl rfl (ei) ?_;refine q3N ?_; (refine cU (Wt.some rfl rfl rfl h8) rfl rfl (cS rfl rfl rfl (fun w hw=>zdr sp Y L c (cQ (Y.inn (cQ (Y.out i) k).to.toNat) j).fr.toNat _ a5 a5 w (h.kept hw))) ?_;rintro _ _ ⟨rfl,rfl⟩);refine db (Wt.some rfl rfl rfl h8) rfl rfl (ei) ?_;refine db (Wt.some rfl rfl rfl h8) rfl rfl (ei) ?_;refine db (Wt.some rfl rfl rfl h7) rfl rfl (eB rfl rfl h8) ?_;refine cR (eT rfl rfl h7) ?_;refine TL.ns ?_;refine T.cond rfl (fun h9=>?_) (fun h9=>?_)
             ·have p9:=h9; (try simp only [c7] at p9);refine fk ?_;refine eX ?_;refine mv ?_;refine mm ?_;exact K.next (j+1) a5 a5 (by rw [zfa a5,jV];split <;> first|(exfalso;omega)|exact (by repeat (first|exact Sub.nil|refine Sub.cons rfl ?_))) Sx
             ·have p9:=h9; (try simp only [c7] at p9);refine gZ ?_;exact K.next (j+1) a5 a5 (by rw [zfa a5,jV];split <;> first|(exfalso;omega)|exact (by repeat (first|exact Sub.nil|refine Sub.cons rfl ?_))) Sx
           ·have p7:=h7; (try simp only [c7] at p7);refine q1D ?_;refine q1D ?_;refine TL.off (Wt.not rfl rfl rfl h7) rfl rfl ?_;refine q0L ?_;refine q0L ?_;refine TL.off (Wt.not rfl rfl rfl h7) rfl rfl ?_;refine cR (eB rfl rfl h7) ?_;refine ly ?_;refine gZ ?_;exact K.next (j+1) a5 a5 (by rw [zfa a5,jV];split <;> first|(exfalso;omega)|exact (by repeat (first|exact Sub.nil|refine Sub.cons rfl ?_))) Sx
          ·have p6:=h6; (try simp only [c7] at p6);refine q05 ?_;refine q05 ?_;refine cR (eB rfl rfl h6) ?_;refine TL.run 6 rfl ?_;refine q0L ?_;refine q0L ?_;refine ez ?_;refine ly ?_;refine gZ ?_;exact K.next (j+1) a5 a5 (by rw [zfa a5,jV];split <;> first|(exfalso;omega)|exact (by repeat (first|exact Sub.nil|refine Sub.cons rfl ?_))) Sx
         ·have p5:=h5; (try simp only [c7] at p5);refine fi ?_;exact K.at (by rw [show (Y.inn (cQ (Y.out i) k).to.toNat).take j=Y.inn (cQ (Y.out i) k).to.toNat from List.take_of_length_le a5] at *;exact (by repeat (first|exact Sub.nil|refine Sub.cons rfl ?_))) Sx
       ·skip;refine T.seq ?_;refine q1d ?_;refine jl ?_;refine cZ rfl (dX rfl rfl hsp0 (fun h=>h)) ?_;refine gj ?_;refine iN ?_;refine cZ rfl (dX rfl rfl hC0 (fun h=>h)) ?_;refine q2j ?_;refine cZ rfl (ek (j:=0) rfl rfl hCi rfl rfl (fun h=>h)) ?_;refine q3V ?_;refine T.loop (ι:=Nat) (fun j=>[(0, .pointer (some ⟨sp,0,none⟩)),(1, .int .i64 (i:Int)),(23, .slice (some ⟨g,off,none⟩) (Y.out i).length cpO),(24, .int .i64 ((Y.out i).length:Int)),(25, .int .i64 (k:Int)),(7, .pointer (some ⟨g7,0,none⟩)),(8, .int .i64 (only L (cQ (Y.out i) k).to.toNat:Int)),(9, .int .i64 (jU L i (only L (cQ (Y.out i) k).to.toNat) (Y.inn (cQ (Y.out i) k).to.toNat))),(5,U (((Y.cs (cQ (Y.out i) k).to.toNat).take j).foldl (zec (jU L i (only L (cQ (Y.out i) k).to.toNat) (Y.inn (cQ (Y.out i) k).to.toNat)) (only L (cQ (Y.out i) k).to.toNat)) (((Y.out i).take k).foldl (lh Y L i) 0#64))),(105, .slice BC (Y.cs (cQ (Y.out i) k).to.toNat).length cpC),(106, .int .i64 ((Y.cs (cQ (Y.out i) k).to.toNat).length:Int)),(107, .int .i64 (j:Int))]) (fun j=>[.row g7 102 [.int .i64 (cQ (Y.out i) k).to, .int .i64 (cQ (Y.out i) k).fr, .int .i64 (cQ (Y.out i) k).wt, .int .i64 (cQ (Y.out i) k).lo, .int .i64 (cQ (Y.out i) k).hi]]) (fun j=>j≤(Y.cs (cQ (Y.out i) k).to.toNat).length) (fun j=>(Y.cs (cQ (Y.out i) k).to.toNat).length - j) 0 ?_ ?_ ?_ ?_
        ·omega
        ·exact (by repeat (first|exact Sub.nil|refine Sub.cons rfl ?_))
        ·exact Sx
        ·intro j hphi;refine eR ?_;refine T.cond rfl (fun h10=>?_) (fun h10=>?_)
         ·have p10:=h10; (try simp only [c7] at p10);obtain ⟨gc,offc,rfl,hcc⟩:=hslC a5;have hj:=hcc j a5;simp only [Cp.cells] at hj;refine fH ?_;refine q0w ?_;refine cR (ie rfl rfl hj rfl (fun h=>h)) ?_; (refine cU (Wt.none) rfl rfl (Ew.alloc) ?_;rintro _ _ ⟨g13,rfl,rfl⟩); (refine dS (Wt.none) rfl (dF 0) ?_;rintro _ _ ⟨rfl,rfl⟩);refine dR ?_;refine eX ?_;refine fF ?_;refine dw rfl rfl rfl (fun h11=>?_) (fun h11=>?_)
          ·have p11:=h11; (try simp only [c7] at p11);refine db (Wt.some rfl rfl rfl h11) rfl rfl (ei) ?_;refine db (Wt.some rfl rfl rfl h11) rfl rfl (Yv.fieldAddr) ?_;refine db (Wt.some rfl rfl rfl h11) rfl rfl (da 0) ?_;refine db (Wt.some rfl rfl rfl h11) rfl rfl (ei) ?_;refine cR (eT rfl rfl h11) ?_;refine dp ?_;refine dw rfl rfl rfl (fun h12=>?_) (fun h12=>?_)
           ·have p12:=h12; (try simp only [c7] at p12);refine db (Wt.some rfl rfl rfl h12) rfl rfl (ei) ?_;refine db (Wt.some rfl rfl rfl h12) rfl rfl (Yv.fieldAddr) ?_;refine db (Wt.some rfl rfl rfl h12) rfl rfl (da 0) ?_;refine db (Wt.some rfl rfl rfl h12) rfl rfl (ei) ?_;refine cR (eT rfl rfl h12) ?_;refine TL.ns ?_;refine T.cond rfl (fun h13=>?_) (fun h13=>?_)
            ·have p13:=h13; (try simp only [c7] at p13);refine gp ?_;refine cR (gG (a:=1#64) (only L (cQ (Y.out i) k).to.toNat) rfl rfl rfl rfl a5) ?_;refine cR (gg) ?_;refine mm ?_;exact K.next (j+1) a5 a5 (by rw [jm _ _ a5,zec];split <;> first|(exfalso;omega)|exact (by repeat (first|exact Sub.nil|refine Sub.cons rfl ?_))) Sx
            ·have p13:=h13; (try simp only [c7] at p13);refine gZ ?_;exact K.next (j+1) a5 a5 (by rw [jm _ _ a5,zec];split <;> first|(exfalso;omega)|exact (by repeat (first|exact Sub.nil|refine Sub.cons rfl ?_))) Sx
           ·have p12:=h12; (try simp only [c7] at p12);refine q3c ?_;refine q3c ?_;refine cR (eB rfl rfl h12) ?_;refine ly ?_;refine gZ ?_;exact K.next (j+1) a5 a5 (by rw [jm _ _ a5,zec];split <;> first|(exfalso;omega)|exact (by repeat (first|exact Sub.nil|refine Sub.cons rfl ?_))) Sx
          ·have p11:=h11; (try simp only [c7] at p11);refine q3d ?_;refine q3d ?_;refine cR (eB rfl rfl h11) ?_;refine TL.run 6 rfl ?_;refine ly ?_;refine gZ ?_;exact K.next (j+1) a5 a5 (by rw [jm _ _ a5,zec];split <;> first|(exfalso;omega)|exact (by repeat (first|exact Sub.nil|refine Sub.cons rfl ?_))) Sx
         ·have p10:=h10; (try simp only [c7] at p10);refine T.exit (fG (fG (iT (fI ?_)))); (have hn:=hno;have e:(Y.cs (cQ (Y.out i) k).to.toNat).take j=Y.cs (cQ (Y.out i) k).to.toNat:=List.take_of_length_le a5;refine K.at ?_ Sx;rw [jm _ _ a5,lh,if_neg hn,e];exact (by repeat (first|exact Sub.nil|refine Sub.cons rfl ?_)))
   ·skip;refine fg ?_;refine ka ?_;exact K.next (k+1) a5 a5 (by repeat (first|exact Sub.nil|refine Sub.cons rfl ?_)) Sx
  ·have p1:=h1; (try simp only [c7] at p1);refine q01 ?_;refine jP ?_;exact c8 rfl rfl (fun w' hw=>⟨by rw [lQ,List.take_of_length_le a5],hw.isBelow⟩)
structure GL where
 b:Nat
 c:Nat
structure StF (w0 w:World) (sp:Nat) (gl:GL) (tp:Nat) (Y:Tb) (L:Ws) (c:Bool):Prop where
 tb:TablesAt w0 tp Y
 fr:Fz w0 w
 c0:w.cell? ⟨sp,0,none⟩=some (.pointer (some ⟨tp,0,none⟩))
 c1:w.cell? ⟨sp,1,none⟩=some (.slice (some ⟨gl.b,0,none⟩) L.length gl.c)
 lf:SlOf w (.slice (some ⟨gl.b,0,none⟩) L.length gl.c) Le 1 L
 len:L.length=Y.n
 c2:w.cell? ⟨sp,2,none⟩=some (.bool c)
 tab:Tab w
theorem StF.st {w0 w:World}{sp:Nat}{gl:GL}{tp:Nat}{Y:Tb}{L:Ws}{c:Bool}(h:StF w0 w sp gl tp Y L c):StateAt w sp Y L c:=
 ⟨h.tab,⟨tp,h.c0,h.tb.later h.fr⟩,⟨_,h.c1,h.lf⟩,h.len,h.c2⟩
theorem StF.kept {w0 w w':World}{M:Nat→Prop}{hs:HS}{sp:Nat}{gl:GL}{tp:Nat}{Y:Tb}{L:Ws}{c:Bool}(h:StF w0 w sp gl tp Y L c)(hw:Hp w M hs w')(h0:∀g,M g→¬jw w0 g)(h1:¬M sp)(h2:¬M gl.b)(h3:¬M 0):StF w0 w' sp gl tp Y L c:=
 ⟨h.tb,Fz.hp h.fr hw h0,hw.cellB h.c0 h1,hw.cellB h.c1 h1,h.lf.keptM hw (fun g hg=>by simp [Value.ownBlock] at hg;subst hg;exact h2),h.len,hw.cellB h.c2 h1,h.tab.kept hw h3⟩
def j7 (Y:Tb)(L:Ws)(i:Nat)(ws:Ws):Ws:=
 if (only L i:Int)=0 then ws else
  (Y.out i).foldl (fun s x=>if (only L x.to.toNat:Int)=0 then ef s x.to.toNat else (Y.inn x.to.toNat).foldl (fun s o=>ef s o.fr.toNat) (ef s x.to.toNat))
   ((Y.inn i).foldl (fun s x=>ef s x.fr.toNat) ((Y.ps i).foldl (fun s x=>ef s (x.a+x.b - (i:Int)).toNat) ws))
theorem zf7 {α:Type}(f:Ws→α→Ws)(hf:∀s x,(f s x).length=s.length):∀(l:List α) (s:Ws),(l.foldl f s).length=s.length
 | [],_=>rfl
 |x :: r,s=>by rw [List.foldl_cons,zf7 f hf r,hf]
theorem zdg (l:List Ld)(s:Ws):(l.foldl (fun s x=>ef s x.fr.toNat) s).length=s.length:=zf7 _ (fun _ _=>kZ) l s
theorem zdm (i:Int)(l:List Pr)(s:Ws):(l.foldl (fun s x=>ef s (x.a+x.b - (i:Int)).toNat) s).length=s.length:=zf7 _ (fun _ _=>kZ) l s
def ma (Y:Tb)(L:Ws)(s:Ws)(x:Ld):Ws:=if (only L x.to.toNat:Int)=0 then ef s x.to.toNat else (Y.inn x.to.toNat).foldl (fun s o=>ef s o.fr.toNat) (ef s x.to.toNat)
theorem zgD {Y:Tb}{L s:Ws}{x:Ld}:(ma Y L s x).length=s.length:=by
 unfold ma;split
 ·exact kZ
 ·rw [zdg,kZ]
theorem zfy (Y:Tb)(L:Ws)(l:List Ld)(s:Ws):(l.foldl (ma Y L) s).length=s.length:=zf7 _ (fun _ _=>zgD) l s
theorem zfM (Y:Tb)(L:Ws)(i:Nat)(ws:Ws):(j7 Y L i ws).length=ws.length:=by
 unfold j7;split
 ·rfl
 ·exact (zfy Y L _ _).trans ((zdg _ _).trans (zdm _ _ _))
theorem zfk (ws:Ws)(hws:ws.length=8)(j:Nat)(hj:j<512)(z:Int)(hz:z=(j:Int))(p q:Nat)(w:World)(hq:w.cell? ⟨q,0,none⟩=some (.pointer (some ⟨p,0,none⟩)))(hqp:q≠p)(hp:(Ent.row p 83 ws.cells).ok w):Calls Tryz.prog 167 #[.int .i64 z, .pointer (some ⟨q,0,none⟩)] w fun e w'=>∃y:Unit,True∧e= .returned (.tuple #[])∧Hp w (Ent.row p 83 ws.cells).fp [.row p 83 (Ws.cells (ef ws j))] w':=by
 subst hz;refine dy (M:=(Ent.row p 83 ws.cells).fp) (hs:=[Ent.row p 83 ws.cells]) Tryz.func167 rfl rfl rfl (Hp.start hp) ?_;refine d8 (sN 0 3 (.still 4 (.eff 3 (.eff 5 (sN 6 4 (.eff 10 .done)))))) [] a7 Sx ?_;refine cZ rfl (dX rfl rfl hq (fun hh=>hqp (cY.1 hh))) ?_;refine cZ rfl (dX rfl rfl hq (fun hh=>hqp (cY.1 hh))) ?_;refine gJ ?_;refine dQ ?_;refine eP rfl (Wt.none) rfl rfl (dY 0 rfl rfl rfl (by rw [List.length_map,hws])) Sx ?_;refine dQ ?_; (refine de rfl (Wt.none) rfl rfl (cS rfl rfl rfl (fun w hw=>znv ws hws j hj w)) ?_;rintro _ _ ⟨rfl,rfl⟩;refine ⟨Sx,?_⟩);refine TS.run 4 rfl ?_;refine dQ ?_; (refine dP rfl (Wt.none) rfl (dF 0 rfl rfl rfl rfl (by rw [List.length_map,kZ,hws]) (by rw [List.length_map,List.length_map,kZ])) ?_;rintro _ _ ⟨rfl,rfl⟩;refine ⟨Sx,?_⟩);refine ir ?_;exact fY rfl (fun w' hw=>⟨(),trivial,rfl,hw⟩)
theorem zh5 (w0:World)(sp:Nat)(gl:GL)(tp p:Nat)(Y:Tb)(L:Ws)(c:Bool)(ws:Ws)(hws:ws.length=8)(i:Nat)(z:Int)(hz:z=(i:Int))(hi:i<Y.n)(w:World)(h:StF w0 w sp gl tp Y L c)(hok:Y.Ok)(hpN:¬jw w0 p)(hp0:p≠0)(hsp:sp≠p)(hgl:gl.b≠p)(hp:(Ent.row p 83 ws.cells).ok w):Calls Tryz.prog 157 #[.pointer (some ⟨sp,0,none⟩), .int .i64 z, .pointer (some ⟨p,0,none⟩)] w fun e w'=>∃y:Unit,True∧e= .returned (.tuple #[])∧Hp w (Ent.row p 83 ws.cells).fp [.row p 83 (Ws.cells (j7 Y L i ws))] w':=by
 subst hz;obtain ⟨hTb,hfr,hsp0,hsp1,hlf,hLn,hsp2,htab⟩:=id h;have hT:=hTb;have hn512:=hok.n;obtain ⟨hlenP,hrngP⟩:=hok.ps i hi;obtain ⟨hlenI,hrngI⟩:=hok.inn i hi;obtain ⟨hlenO,hrngO⟩:=hok.out i hi;obtain ⟨vP,hP0,hP⟩:=hT.ps.at';obtain ⟨AP,capP,rfl,hPs⟩:=hP.op;have hPn:=hT.ps.len;obtain ⟨gP,oP,rfl,hPc⟩:=hPs a5;rw [hPn] at hP0;have hPi:=hPc i (by rw [hPn];exact hi);obtain ⟨BP,cpP,hvP,hslP⟩:=(hT.ps.each i hi).op;simp only [hvP] at hPi;obtain ⟨vI,hI0,hI⟩:=hT.inn.at';obtain ⟨AI,capI,rfl,hIs⟩:=hI.op;have hIn:=hT.inn.len;obtain ⟨gI,oI,rfl,hIc⟩:=hIs a5;rw [hIn] at hI0;have hIi:=hIc i (by rw [hIn];exact hi);obtain ⟨BI,cpI,hvI,hslI⟩:=(hT.inn.each i hi).op;simp only [hvI] at hIi;obtain ⟨vO,hO0,hO⟩:=hT.out.at';obtain ⟨AO,capO,rfl,hOs⟩:=hO.op;have hOn:=hT.out.len;obtain ⟨gO,oO,rfl,hOc⟩:=hOs a5;rw [hOn] at hO0;have hOi:=hOc i (by rw [hOn];exact hi);obtain ⟨BO,cpO,hvO,hslO⟩:=(hT.out.each i hi).op;simp only [hvO] at hOi;have hkeep:∀hs w',Hp w (Ent.row p 83 ws.cells).fp hs w'→StateAt w' sp Y L c:=fun hs w' hw=>(h.kept hw (fun g hg=>by rw [cY.1 hg];exact hpN) (fun hg=>hsp (cY.1 hg)) (fun hg=>hgl (cY.1 hg)) (fun hg=>hp0 (cY.1 hg).symm)).st;refine dy (M:=(Ent.row p 83 ws.cells).fp) (hs:=[Ent.row p 83 ws.cells]) Tryz.func157 rfl rfl rfl (Hp.start hp) ?_;refine dm ?_; (refine cU (Wt.none) rfl rfl (Ew.box) ?_;rintro _ _ ⟨g5,rfl,rfl⟩);refine iM ?_;refine ez ?_; (refine cU (Wt.none) rfl rfl (cS rfl rfl rfl (fun w hw=>zdr sp Y L c i _ rfl hi w (hkeep _ _ hw))) ?_;rintro _ _ ⟨rfl,rfl⟩);refine dL ?_;refine T.cond rfl (fun h1=>?_) (fun h1=>?_)
 ·have p1:=h1; (try simp only [c7] at p1);refine T.ret (cV ?_);exact kV rfl (fun w' hw=>⟨(),trivial,rfl,by rw [j7,if_pos p1];exact hw.sub Sx⟩)
 ·have p1:=h1; (try simp only [c7] at p1);refine gW ?_;refine kz ?_;refine T.cut (gs:=[(0, .pointer (some ⟨sp,0,none⟩)),(1, .int .i64 (i:Int)),(6, .func (.func 167) #[] #[.pointer (some ⟨g5,0,none⟩)])]) (hs':=[.row g5 220 [.pointer (some ⟨p,0,none⟩)], .row p 83 (Ws.cells ((Y.ps i).foldl (fun s x=>ef s (x.a+x.b - (i:Int)).toNat) ws))]) ?_ ?_
  ·skip;refine q2v ?_;refine cR (dX rfl rfl (hfr.cell hP0) (fun hh=>hpN (by have:=zeB hP0;rw [←cY.1 hh];exact this))) ?_;refine lx ?_;refine cR (ek (j:=0) rfl rfl (Fz.cs hfr hPi) rfl rfl (fun hh=>hpN (by have:=iR hPi a8;rw [←cY.1 hh];exact this))) ?_;refine jH ?_;refine T.loop (ι:=Nat) (fun k=>[(0, .pointer (some ⟨sp,0,none⟩)),(1, .int .i64 (i:Int)),(6, .func (.func 167) #[] #[.pointer (some ⟨g5,0,none⟩)]),(29, .slice BP (Y.ps i).length cpP),(30, .int .i64 ((Y.ps i).length:Int)),(31, .int .i64 (k:Int))]) (fun k=>[.row g5 220 [.pointer (some ⟨p,0,none⟩)], .row p 83 (Ws.cells (((Y.ps i).take k).foldl (fun s x=>ef s (x.a+x.b - (i:Int)).toNat) ws))]) (fun k=>k≤(Y.ps i).length) (fun k=>(Y.ps i).length - k) 0 ?_ ?_ ?_ ?_
   ·omega
   ·exact (by repeat (first|exact Sub.nil|refine Sub.cons rfl ?_))
   ·exact Sx
   ·intro k hphi;refine eR ?_;refine T.cond rfl (fun h2=>?_) (fun h2=>?_)
    ·have p2:=h2; (try simp only [c7] at p2);obtain ⟨ghk,offhk,rfl,hc⟩:=hslP a5;have hk:=hc k a5;simp only [Pr.cells] at hk;have hrhk:=hrngP _ (i0 (xs:=Y.ps i) (k:=k) a5);refine fH ?_;refine q2l ?_; (refine cU (Wt.none) rfl rfl (Ew.alloc) ?_;rintro _ _ ⟨g8,rfl,rfl⟩); (refine dS (Wt.none) rfl (dF 0) ?_;rintro _ _ ⟨rfl,rfl⟩);refine TL.ns (T.region ?_);refine dp ?_;refine eX ?_;refine eX ?_;refine mv ?_;refine dp ?_;refine q15 ?_; (refine cU (Wt.none) rfl rfl (lA 2 rfl rfl rfl rfl (fun w hw=>zfk (((Y.ps i).take k).foldl (fun s x=>ef s (x.a+x.b - (i:Int)).toNat) ws) (by rw [zdm,hws]) ((cQ (Y.ps i) k).a+(cQ (Y.ps i) k).b - (i:Int)).toNat a5 _ a5 p g5 w (jx (c9.1 (hw.get (i:=1) rfl)) 0) (fun hh=>hw.ne (i:=1) (j:=2) a5 rfl rfl (g:=g5) (cY.2 rfl) (cY.2 hh)) (hw.get (i:=2) rfl))) ?_;rintro _ _ ⟨-, -,rfl,rfl⟩);refine l6 ?_;exact K.next (k+1) a5 a5 (by repeat (first|exact Sub.nil|refine Sub.cons rfl ?_)) (by rw [jm _ _ a5];exact Sx)
    ·have p2:=h2; (try simp only [c7] at p2);refine fi ?_;exact K.at (by repeat (first|exact Sub.nil|refine Sub.cons rfl ?_)) (by rw [show (Y.ps i).take k=Y.ps i from List.take_of_length_le a5];exact Sx)
  ·skip;refine T.cut (gs:=[(0, .pointer (some ⟨sp,0,none⟩)),(1, .int .i64 (i:Int)),(6, .func (.func 167) #[] #[.pointer (some ⟨g5,0,none⟩)])]) (hs':=[.row g5 220 [.pointer (some ⟨p,0,none⟩)], .row p 83 (Ws.cells ((Y.inn i).foldl (fun s x=>ef s x.fr.toNat) ((Y.ps i).foldl (fun s x=>ef s (x.a+x.b - (i:Int)).toNat) ws)))]) ?_ ?_
   ·skip;refine q2v ?_;refine cR (dX rfl rfl (hfr.cell hI0) (fun hh=>hpN (by have:=zeB hI0;rw [←cY.1 hh];exact this))) ?_;refine lx ?_;refine cR (ek (j:=0) rfl rfl (Fz.cs hfr hIi) rfl rfl (fun hh=>hpN (by have:=iR hIi a8;rw [←cY.1 hh];exact this))) ?_;refine jH ?_;refine T.loop (ι:=Nat) (fun k=>[(0, .pointer (some ⟨sp,0,none⟩)),(1, .int .i64 (i:Int)),(6, .func (.func 167) #[] #[.pointer (some ⟨g5,0,none⟩)]),(54, .slice BI (Y.inn i).length cpI),(55, .int .i64 ((Y.inn i).length:Int)),(56, .int .i64 (k:Int))]) (fun k=>[.row g5 220 [.pointer (some ⟨p,0,none⟩)], .row p 83 (Ws.cells (((Y.inn i).take k).foldl (fun s x=>ef s x.fr.toNat) ((Y.ps i).foldl (fun s x=>ef s (x.a+x.b - (i:Int)).toNat) ws)))]) (fun k=>k≤(Y.inn i).length) (fun k=>(Y.inn i).length - k) 0 ?_ ?_ ?_ ?_
    ·omega
    ·exact (by repeat (first|exact Sub.nil|refine Sub.cons rfl ?_))
    ·exact Sx
    ·intro k hphi;refine eR ?_;refine T.cond rfl (fun h3=>?_) (fun h3=>?_)
     ·have p3:=h3; (try simp only [c7] at p3);obtain ⟨ghk,offhk,rfl,hc⟩:=hslI a5;have hk:=hc k a5;simp only [Ld.cells] at hk;have hrhk:=hrngI _ (i0 (xs:=Y.inn i) (k:=k) a5);refine fH ?_;refine q2l ?_; (refine cU (Wt.none) rfl rfl (Ew.alloc) ?_;rintro _ _ ⟨g10,rfl,rfl⟩); (refine dS (Wt.none) rfl (dF 0) ?_;rintro _ _ ⟨rfl,rfl⟩);refine TL.ns (T.region ?_);refine dp ?_;refine eX ?_; (refine cU (Wt.none) rfl rfl (lA 2 rfl rfl rfl rfl (fun w hw=>zfk (((Y.inn i).take k).foldl (fun s x=>ef s x.fr.toNat) ((Y.ps i).foldl (fun s x=>ef s (x.a+x.b - (i:Int)).toNat) ws)) (by rw [zdg,zdm,hws]) (cQ (Y.inn i) k).fr.toNat a5 _ a5 p g5 w (jx (c9.1 (hw.get (i:=1) rfl)) 0) (fun hh=>hw.ne (i:=1) (j:=2) a5 rfl rfl (g:=g5) (cY.2 rfl) (cY.2 hh)) (hw.get (i:=2) rfl))) ?_;rintro _ _ ⟨-, -,rfl,rfl⟩);refine l6 ?_;exact K.next (k+1) a5 a5 (by repeat (first|exact Sub.nil|refine Sub.cons rfl ?_)) (by rw [jm _ _ a5];exact Sx)
     ·have p3:=h3; (try simp only [c7] at p3);refine fi ?_;exact K.at (by repeat (first|exact Sub.nil|refine Sub.cons rfl ?_)) (by rw [show (Y.inn i).take k=Y.inn i from List.take_of_length_le a5];exact Sx)
   ·skip;refine q2v ?_;refine cR (dX rfl rfl (hfr.cell hO0) (fun hh=>hpN (by have:=zeB hO0;rw [←cY.1 hh];exact this))) ?_;refine lx ?_;refine cR (ek (j:=0) rfl rfl (Fz.cs hfr hOi) rfl rfl (fun hh=>hpN (by have:=iR hOi a8;rw [←cY.1 hh];exact this))) ?_;refine jH ?_;refine T.loop (ι:=Nat) (fun k=>[(0, .pointer (some ⟨sp,0,none⟩)),(1, .int .i64 (i:Int)),(6, .func (.func 167) #[] #[.pointer (some ⟨g5,0,none⟩)]),(74, .slice BO (Y.out i).length cpO),(75, .int .i64 ((Y.out i).length:Int)),(76, .int .i64 (k:Int))]) (fun k=>[.row g5 220 [.pointer (some ⟨p,0,none⟩)], .row p 83 (Ws.cells (((Y.out i).take k).foldl (ma Y L) ((Y.inn i).foldl (fun s x=>ef s x.fr.toNat) ((Y.ps i).foldl (fun s x=>ef s (x.a+x.b - (i:Int)).toNat) ws))))]) (fun k=>k≤(Y.out i).length) (fun k=>(Y.out i).length - k) 0 ?_ ?_ ?_ ?_
    ·omega
    ·exact (by repeat (first|exact Sub.nil|refine Sub.cons rfl ?_))
    ·exact Sx
    ·intro k hphi;refine eR ?_;refine T.cond rfl (fun h4=>?_) (fun h4=>?_)
     ·have p4:=h4; (try simp only [c7] at p4);obtain ⟨ghk,offhk,rfl,hc⟩:=hslO a5;have hk:=hc k a5;simp only [Ld.cells] at hk;have hrhk:=hrngO _ (i0 (xs:=Y.out i) (k:=k) a5); (have htn:(cQ (Y.out i) k).to.toNat<Y.n:=by omega);obtain ⟨hlenI2,hrngI2⟩:=hok.inn _ htn;have hIi2:=hIc (cQ (Y.out i) k).to.toNat (by rw [hIn];exact htn);obtain ⟨BI2,cpI2,hvI2,hslI2⟩:=(hT.inn.each (cQ (Y.out i) k).to.toNat htn).op;simp only [hvI2] at hIi2;refine kP ?_;refine T.cut (gs:=[(0, .pointer (some ⟨sp,0,none⟩)),(1, .int .i64 (i:Int)),(6, .func (.func 167) #[] #[.pointer (some ⟨g5,0,none⟩)]),(74, .slice (some ⟨ghk,offhk,none⟩) (Y.out i).length cpO),(75, .int .i64 ((Y.out i).length:Int)),(76, .int .i64 (k:Int))]) (hs':=[.row g5 220 [.pointer (some ⟨p,0,none⟩)], .row p 83 (Ws.cells (((Y.out i).take (k+1)).foldl (ma Y L) ((Y.inn i).foldl (fun s x=>ef s x.fr.toNat) ((Y.ps i).foldl (fun s x=>ef s (x.a+x.b - (i:Int)).toNat) ws))))]) ?_ ?_
      ·skip;refine T.block (dm ?_);refine q2l ?_; (refine cU (Wt.none) rfl rfl (Ew.alloc) ?_;rintro _ _ ⟨g12,rfl,rfl⟩); (refine dS (Wt.none) rfl (dF 0) ?_;rintro _ _ ⟨rfl,rfl⟩);refine l7 ?_;refine eX ?_; (refine cU (Wt.none) rfl rfl (lA 2 rfl rfl rfl rfl (fun w hw=>zfk (((Y.out i).take k).foldl (ma Y L) ((Y.inn i).foldl (fun s x=>ef s x.fr.toNat) ((Y.ps i).foldl (fun s x=>ef s (x.a+x.b - (i:Int)).toNat) ws))) (by rw [zfy,zdg,zdm,hws]) (cQ (Y.out i) k).to.toNat a5 _ a5 p g5 w (jx (c9.1 (hw.get (i:=1) rfl)) 0) (fun hh=>hw.ne (i:=1) (j:=2) a5 rfl rfl (g:=g5) (cY.2 rfl) (cY.2 hh)) (hw.get (i:=2) rfl))) ?_;rintro _ _ ⟨-, -,rfl,rfl⟩);refine l7 ?_;refine eX ?_; (refine cU (Wt.none) rfl rfl (cS rfl rfl rfl (fun w hw=>zdr sp Y L c ((cQ (Y.out i) k).to.toNat) _ a5 a5 w (hkeep _ _ hw))) ?_;rintro _ _ ⟨rfl,rfl⟩);refine dL ?_;refine T.cond rfl (fun h5=>?_) (fun h5=>?_)
       ·have p5:=h5; (try simp only [c7] at p5); (have hno:¬(only L ((cQ (Y.out i) k).to.toNat):Int)=0:=by assumption);refine T.seq ?_;refine q1d ?_;refine jl ?_;refine cZ rfl (dX rfl rfl hsp0 (fun hh=>hsp (cY.1 hh))) ?_;refine gj ?_;refine iN ?_;refine cZ rfl (dX rfl rfl (hfr.cell hI0) (fun hh=>hpN (by have:=zeB hI0;rw [←cY.1 hh];exact this))) ?_;refine q2j ?_;refine cZ rfl (ek (j:=0) rfl rfl (Fz.cs hfr hIi2) rfl rfl (fun hh=>hpN (by have:=iR hIi2 a8;rw [←cY.1 hh];exact this))) ?_;refine q3V ?_;refine T.loop (ι:=Nat) (fun j=>[(0, .pointer (some ⟨sp,0,none⟩)),(1, .int .i64 (i:Int)),(6, .func (.func 167) #[] #[.pointer (some ⟨g5,0,none⟩)]),(74, .slice (some ⟨ghk,offhk,none⟩) (Y.out i).length cpO),(75, .int .i64 ((Y.out i).length:Int)),(76, .int .i64 (k:Int)),(99, .slice BI2 (Y.inn (cQ (Y.out i) k).to.toNat).length cpI2),(100, .int .i64 ((Y.inn (cQ (Y.out i) k).to.toNat).length:Int)),(101, .int .i64 (j:Int))]) (fun j=>[.row g5 220 [.pointer (some ⟨p,0,none⟩)], .row p 83 (Ws.cells (((Y.inn (cQ (Y.out i) k).to.toNat).take j).foldl (fun s o=>ef s o.fr.toNat) (ef (((Y.out i).take k).foldl (ma Y L) ((Y.inn i).foldl (fun s x=>ef s x.fr.toNat) ((Y.ps i).foldl (fun s x=>ef s (x.a+x.b - (i:Int)).toNat) ws))) (cQ (Y.out i) k).to.toNat)))]) (fun j=>j≤(Y.inn (cQ (Y.out i) k).to.toNat).length) (fun j=>(Y.inn (cQ (Y.out i) k).to.toNat).length - j) 0 ?_ ?_ ?_ ?_
        ·omega
        ·exact (by repeat (first|exact Sub.nil|refine Sub.cons rfl ?_))
        ·exact Sx
        ·intro j hphi;refine eR ?_;refine T.cond rfl (fun h6=>?_) (fun h6=>?_)
         ·have p6:=h6; (try simp only [c7] at p6);obtain ⟨ghj,offhj,rfl,hcj⟩:=hslI2 a5;have hj:=hcj j a5;simp only [Ld.cells] at hj;have hrhj:=hrngI2 _ (i0 (xs:=Y.inn (cQ (Y.out i) k).to.toNat) (k:=j) a5);refine fH ?_;refine q0w ?_;refine cR (ie rfl rfl (Fz.cs hfr hj) rfl (fun hh=>hpN (by have:=iR hj a8;rw [←cY.1 hh];exact this))) ?_; (refine cU (Wt.none) rfl rfl (Ew.alloc) ?_;rintro _ _ ⟨g14,rfl,rfl⟩); (refine dS (Wt.none) rfl (dF 0) ?_;rintro _ _ ⟨rfl,rfl⟩);refine TL.ns (T.region ?_);refine dp ?_;refine eX ?_; (refine cU (Wt.none) rfl rfl (lA 2 rfl rfl rfl rfl (fun w hw=>zfk (((Y.inn (cQ (Y.out i) k).to.toNat).take j).foldl (fun s o=>ef s o.fr.toNat) (ef (((Y.out i).take k).foldl (ma Y L) ((Y.inn i).foldl (fun s x=>ef s x.fr.toNat) ((Y.ps i).foldl (fun s x=>ef s (x.a+x.b - (i:Int)).toNat) ws))) (cQ (Y.out i) k).to.toNat)) (by rw [zdg,kZ,zfy,zdg,zdm,hws]) (cQ (Y.inn (cQ (Y.out i) k).to.toNat) j).fr.toNat a5 _ a5 p g5 w (jx (c9.1 (hw.get (i:=1) rfl)) 0) (fun hh=>hw.ne (i:=1) (j:=2) a5 rfl rfl (g:=g5) (cY.2 rfl) (cY.2 hh)) (hw.get (i:=2) rfl))) ?_;rintro _ _ ⟨-, -,rfl,rfl⟩);refine l6 ?_;exact K.next (j+1) a5 a5 (by repeat (first|exact Sub.nil|refine Sub.cons rfl ?_)) (by rw [jm _ _ a5];exact Sx)
         ·have p6:=h6; (try simp only [c7] at p6);refine T.exit (fG (fG (iT (fI ?_)))); (have hy:=hno;refine K.at (by repeat (first|exact Sub.nil|refine Sub.cons rfl ?_)) ?_;rw [jm _ _ a5,ma,if_neg hy,show (Y.inn (cQ (Y.out i) k).to.toNat).take j=Y.inn (cQ (Y.out i) k).to.toNat from List.take_of_length_le a5];exact Sx)
       ·have p5:=h5; (try simp only [c7] at p5); (have hyes:(only L ((cQ (Y.out i) k).to.toNat):Int)=0:=by assumption);refine T.skip (fI ?_); (have hy:=hyes;refine K.at (by repeat (first|exact Sub.nil|refine Sub.cons rfl ?_)) ?_;rw [jm _ _ a5,ma,if_pos hy];exact Sx)
      ·skip;refine fg ?_;refine ka ?_;exact K.next (k+1) a5 a5 (by repeat (first|exact Sub.nil|refine Sub.cons rfl ?_)) Sx
     ·have p4:=h4; (try simp only [c7] at p4);refine fi ?_;exact fY rfl (fun w' hw=>⟨(),trivial,rfl,by rw [j7,if_neg p1];rw [show (Y.out i).take k=Y.out i from List.take_of_length_le a5] at hw;exact hw.sub Sx⟩)
def jn (Y:Tb)(L:Ws)(i:Nat):BitVec 64:=lR Y L i ||| kK Y L i ||| lQ Y L i
theorem zbJ {α β:Type}{f g:β→α→β}:∀(l:List α) (z:β),(∀x∈l,∀s,f s x=g s x)→l.foldl f z=l.foldl g z
 | [],_,_=>rfl
 |x :: r,z,h=>by rw [List.foldl_cons,List.foldl_cons,h x a8 z];exact zbJ r _ (fun y hy=>h y (by simp [hy]))
structure Alike (Y:Tb) (L L':Ws) (k:Nat):Prop where
 ps:∀x∈Y.ps k,(x.a=(k:Int)→only L' x.b.toNat=only L x.b.toNat)∧(x.a≠(k:Int)→only L' x.a.toNat=only L x.a.toNat)
 inn:∀x∈Y.inn k,only L' x.fr.toNat=only L x.fr.toNat
 out:∀x∈Y.out k,only L' x.to.toNat=only L x.to.toNat∧(only L x.to.toNat≠0→∀o∈Y.inn x.to.toNat,o.fr≠(k:Int)→only L' o.fr.toNat=only L o.fr.toNat)
theorem zgG {Y:Tb}{L L':Ws}{k:Nat}(h:Alike Y L L' k)(hlo:∀x∈Y.out k,2≤x.lo):jn Y L' k=jn Y L k:=by
 have e1:lR Y L' k=lR Y L k:=zbJ _ _ fun x hx s=>by
  have:=h.ps x hx;unfold mo;by_cases ha:x.a=(k:Int)
  ·rw [if_pos ha,if_pos ha,this.1 ha]
  ·rw [if_neg ha,if_neg ha,this.2 ha]
 have e2:kK Y L' k=kK Y L k:=by
  have:ig L' (Y.inn k)=ig L (Y.inn k):=zbJ _ _ fun x hx s=>by
   funext d
   unfold jG;rw [h.inn x hx]
  unfold kK;rw [this]
 have e3:lQ Y L' k=lQ Y L k:=zbJ _ _ fun x hx s=>by
  have ho:=h.out x hx;unfold lh;rw [ho.1];by_cases hz:only L x.to.toNat=0
  ·have:=hlo x hx;rw [if_pos (.inl (.inl (by rw [hz];show (0:Int)<_;omega))),if_pos (.inl (.inl (by rw [hz];show (0:Int)<_;omega)))]
  ·have e:jU L' k (only L x.to.toNat) (Y.inn x.to.toNat)=jU L k (only L x.to.toNat) (Y.inn x.to.toNat):=zbJ _ _ fun o ho' s=>by
    unfold jV;by_cases hk:o.fr=(k:Int)
    ·simp [hk]
    ·rw [ho.2 hz o ho' hk]
   rw [e]
 unfold jn;rw [e1,e2,e3]
theorem kO {L:Ws}{i j:Nat}{b:BitVec 64}(hi:i<L.length):cQ (L.set i b) j=if j=i then b else cQ L j:=by
 unfold cQ;rw [List.getD_eq_getElem?_getD,List.getD_eq_getElem?_getD];by_cases h:j=i
 ·subst h;rw [List.getElem?_set_self hi,if_pos rfl];rfl
 ·rw [List.getElem?_set_ne (fun e=>h e.symm),if_neg h]
theorem zeC {L:Ws}{i j:Nat}{b:BitVec 64}(hi:i<L.length)(h:j≠i):only (L.set i b) j=only L j:=by
 unfold only;rw [kO hi,if_neg h]
theorem zgm {Y:Tb}{L:Ws}{i:Nat}{b:BitVec 64}(hok:Y.Ok)(hi:i<Y.n)(hl:L.length=Y.n):lR Y (L.set i b) i=lR Y L i∧kK Y (L.set i b) i=kK Y L i∧lQ Y (L.set i b) i=lQ Y L i:=by
 (have hil:i<L.length:=by omega);refine ⟨zbJ _ _ fun x hx s=>?_,?_,zbJ _ _ fun x hx s=>?_⟩
 ·have h1:=(hok.psS i hi x hx).1;have h2:=(hok.ps i hi).2 x hx;unfold mo;by_cases ha:x.a=(i:Int)
  ·rw [if_pos ha,if_pos ha,zeC hil a5]
  ·rw [if_neg ha,if_neg ha,zeC hil a5]
 ·have:ig (L.set i b) (Y.inn i)=ig L (Y.inn i):=zbJ _ _ fun x hx s=>by
   have h1:=(hok.innS i hi x hx).1;have h2:=(hok.inn i hi).2 x hx
   funext d
   unfold jG;rw [zeC hil a5]
  unfold kK;rw [this]
 ·have h1:=(hok.outS i hi x hx).1;have h2:=(hok.out i hi).2 x hx;unfold lh;rw [zeC hil a5]
  have e:jU (L.set i b) i (only L x.to.toNat) (Y.inn x.to.toNat)=jU L i (only L x.to.toNat) (Y.inn x.to.toNat):=zbJ _ _ fun o ho s=>by
   have h3:=(hok.inn _ a5).2 o ho;unfold jV;by_cases hk:o.fr=(i:Int)
   ·simp [hk]
   ·rw [zeC hil a5]
  rw [e]
def ziD (Y:Tb)(L:Ws)(i:Nat):Prop:=cQ L i≠0#64∧cQ L i &&& jn Y L i=0#64
theorem zjE {α:Type}(f:α→Nat)(hf:∀_:α,True):∀(l:List α) (s:Ws),s.length=8→(∀x∈l,f x<512)→∀j,j<512→(eO (l.foldl (fun s x=>ef s (f x)) s) j=true↔eO s j=true∨∃x∈l,f x=j)
 | [],s,_,_,j,_=>by simp
 |x :: r,s,hs,hx,j,hj=>by
  rw [List.foldl_cons,zjE f hf r _ (by rw [kZ,hs]) (fun y hy=>hx y (by simp [hy])) j hj,zgb hs (hx x a8) hj];simp only [Bool.or_eq_true,decide_eq_true_eq,List.mem_cons];constructor
  ·rintro ((h|h)|⟨y,hy,h⟩)
   ·exact .inl h
   ·exact .inr ⟨x, .inl rfl,h⟩
   ·exact .inr ⟨y, .inr hy,h⟩
  ·rintro (h|⟨y,rfl|hy,h⟩)
   ·exact .inl (.inl h)
   ·exact .inl (.inr h)
   ·exact .inr ⟨y,hy,h⟩
def mC (Y:Tb)(L:Ws)(i j:Nat):Prop:=
 (∃x∈Y.ps i,(x.a+x.b - (i:Int)).toNat=j)∨(∃x∈Y.inn i,x.fr.toNat=j)∨(∃x∈Y.out i,x.to.toNat=j∨(only L x.to.toNat≠0∧∃o∈Y.inn x.to.toNat,o.fr.toNat=j))
theorem zmE {Y : Tb} {L : Ws} : ∀ (l : List Ld) (s : Ws), s.length = 8 → (∀ x ∈ l, x.to.toNat < 512 ∧ ∀ o ∈ Y.inn x.to.toNat, o.fr.toNat < 512) → ∀ j, j < 512 →
    (eO (l.foldl (ma Y L) s) j = true ↔ eO s j = true ∨ ∃ x ∈ l, x.to.toNat = j ∨ (only L x.to.toNat ≠ 0 ∧ ∃ o ∈ Y.inn x.to.toNat, o.fr.toNat = j))
  | [], s, _, _, j, _ => by simp
  | x :: r, s, hs, hx, j, hj => by
    have h1 := hx x a8; rw [List.foldl_cons, zmE r _ (by rw [zgD, hs]) (fun y hy => hx y (by simp [hy])) j hj]
    have e : eO (ma Y L s x) j = true ↔ eO s j = true ∨ (x.to.toNat = j ∨ (only L x.to.toNat ≠ 0 ∧ ∃ o ∈ Y.inn x.to.toNat, o.fr.toNat = j)) := by
      unfold ma; by_cases hz : (only L x.to.toNat : Int) = 0
      · rw [if_pos hz, zgb hs h1.1 hj];simp only [Bool.or_eq_true, decide_eq_true_eq]; constructor
        · rintro (h | h)
          · exact .inl h
          · exact .inr (.inl h)
        · rintro (h | h | h)
          · exact .inl h
          · exact .inr h
          · exact absurd (show only L x.to.toNat = 0 by omega) h.1
      · rw [if_neg hz, zjE (fun o : Ld => o.fr.toNat) (fun _ => trivial) _ _ (by rw [kZ, hs]) h1.2 j hj, zgb hs h1.1 hj];simp only [Bool.or_eq_true, decide_eq_true_eq]; constructor
        · rintro ((h | h) | h)
          · exact .inl h
          · exact .inr (.inl h)
          · exact .inr (.inr ⟨by omega, h⟩)
        · rintro (h | h | h)
          · exact .inl (.inl h)
          · exact .inl (.inr h)
          · exact .inr h.2
    rw [e];simp only [List.mem_cons]; constructor
    · rintro ((h | h) | ⟨y, hy, h⟩)
      · exact .inl h
      · exact .inr ⟨x, .inl rfl, h⟩
      · exact .inr ⟨y, .inr hy, h⟩
    · rintro (h | ⟨y, rfl | hy, h⟩)
      · exact .inl (.inl h)
      · exact .inl (.inr h)
      · exact .inr ⟨y, hy, h⟩
theorem zdL {Y:Tb}{L:Ws}{i:Nat}{ws:Ws}(hok:Y.Ok)(hi:i<Y.n)(hws:ws.length=8)(j:Nat)(hj:j<512):eO (j7 Y L i ws) j=true↔eO ws j=true∨(only L i≠0∧mC Y L i j):=by
 have hn:=hok.n;unfold j7;by_cases hz:(only L i:Int)=0
 ·rw [if_pos hz];constructor
  ·exact .inl
  ·rintro (h|h)
   ·exact h
   ·exact absurd (show only L i=0 by omega) h.1
 ·rw [if_neg hz];have hp:=(hok.ps i hi).2;have hI:=(hok.inn i hi).2;have hO:=(hok.out i hi).2
  have:=zmE (Y:=Y) (L:=L) (Y.out i) ((Y.inn i).foldl (fun s x=>ef s x.fr.toNat) ((Y.ps i).foldl (fun s x=>ef s (x.a+x.b - (i:Int)).toNat) ws)) (by rw [zdg,zdm,hws]) (fun x hx=>by
   have:=hO x hx
   exact ⟨by omega,fun o ho=>by have:=(hok.inn x.to.toNat a5).2 o ho;omega⟩) j hj
  refine Iff.trans this ?_;rw [zjE (fun x:Ld=>x.fr.toNat) (fun _=>trivial) _ _ (by rw [zdm,hws]) (fun x hx=>by have:=hI x hx;omega) j hj,zjE (fun x:Pr=>(x.a+x.b - (i:Int)).toNat) (fun _=>trivial) _ _ hws (fun x hx=>by have:=hp x hx;omega) j hj];unfold mC;constructor
  ·rintro (((h|h)|h)|h)
   ·exact .inl h
   ·exact .inr ⟨by omega, .inl h⟩
   ·exact .inr ⟨by omega, .inr (.inl h)⟩
   ·exact .inr ⟨by omega, .inr (.inr h)⟩
  ·rintro (h|⟨_,h|h|h⟩)
   ·exact .inl (.inl (.inl h))
   ·exact .inl (.inl (.inr h))
   ·exact .inl (.inr h)
   ·exact .inr h
theorem zhW {Y:Tb}{L L':Ws}{i k:Nat}(hok:Y.Ok)(hi:i<Y.n)(hk:k<Y.n)(hki:k≠i)(hsame:∀j,j≠i→only L' j=only L j)(h0:only L i=0)(hfar:¬mC Y L' i k):Alike Y L L' k where
 ps x hx:=by
  have h1:=(hok.ps k hk).2 x hx;have h2:=hok.psS k hk x hx;constructor
  ·intro ha;by_cases hb:x.b.toNat=i
   ·exact absurd (.inl ⟨x,by rw [←hb];exact h2.2.2,by omega⟩) hfar
   ·exact hsame _ hb
  ·intro ha;by_cases hb:x.a.toNat=i
   ·exact absurd (.inl ⟨x,by rw [←hb];exact h2.2.1,by omega⟩) hfar
   ·exact hsame _ hb
 inn x hx:=by
  have h1:=(hok.inn k hk).2 x hx;by_cases hb:x.fr.toNat=i
  ·exact absurd (.inr (.inr ⟨x,by rw [←hb];exact (hok.innS k hk x hx).2, .inl a5⟩)) hfar
  ·exact hsame _ hb
 out x hx:=by
  have h1:=(hok.out k hk).2 x hx;have h2:=hok.outS k hk x hx;have hto:x.to.toNat≠i:=fun hb=>hfar (.inr (.inl ⟨x,by rw [←hb];exact h2.2,by omega⟩));refine ⟨hsame _ hto,fun hz o ho hok'=>?_⟩;have h3:=(hok.inn x.to.toNat a5).2 o ho;by_cases hb:o.fr.toNat=i
  ·have h4:=(hok.innS x.to.toNat a5 o ho).2;rw [hb] at h4;refine absurd (.inr (.inr ⟨o,h4, .inr ⟨?_,x,?_,by omega⟩⟩)) hfar
   ·rw [show o.to.toNat=x.to.toNat by omega,hsame _ hto];exact hz
   ·rw [show o.to.toNat=x.to.toNat by omega];exact h2.2
  ·exact hsame _ hb
def zkv (L:Ws):Nat:=(L.map fun b=>(dG b).length).sum
theorem dT {b:BitVec 64}{j:Nat}:j∈dG b↔b.getLsbD j=true:=by
 unfold dG;rw [List.mem_filter,List.mem_range'_1];constructor
 ·exact fun h=>h.2
 ·intro h;refine ⟨⟨Nat.zero_le _,?_⟩,h⟩;have:=BitVec.lt_of_getLsbD h;omega
theorem zie {p q:Nat→Bool}:∀(l:List Nat),(∀x∈l,q x=true→p x=true)→(∃x∈l,p x=true∧q x=false)→(l.filter q).length<(l.filter p).length
 | [],_,h=>by obtain ⟨x,hx,_⟩:=h;cases hx
 |y :: r,h,⟨x,hx,hp,hq⟩=>by
  have hle:∀(l:List Nat),(∀x∈l,q x=true→p x=true)→(l.filter q).length≤(l.filter p).length:=by
   intro l
   induction l with
   |nil=>intro _;simp
   |cons z s ih=>
    intro hz;have h1:=ih (fun x hx=>hz x (by simp [hx]));have h2:=hz z a8
    cases hqz:q z <;> cases hpz:p z <;> simp [hqz,hpz] at h2 ⊢ <;> omega
  have h2:=h y a8;rcases List.mem_cons.1 hx with rfl|hx
  ·rw [List.filter_cons_of_neg (by rw [hq];simp),List.filter_cons_of_pos hp];have:=hle r (fun x hx=>h x (by simp [hx]));simp;omega
  ·have:=zie r (fun x hx=>h x (by simp [hx])) ⟨x,hx,hp,hq⟩
   cases hqz:q y <;> cases hpz:p y <;> simp [hqz,hpz] at h2 ⊢ <;> omega
theorem znX {a b:BitVec 64}(h:∀j,a.getLsbD j=true→b.getLsbD j=true)(hne:a≠b):(dG a).length<(dG b).length:=by
 unfold dG;refine zie _ (fun j _=>h j) ?_;apply Classical.byContradiction;intro hno;apply hne;apply BitVec.eq_of_getLsbD_eq;intro j hj
 cases ha:a.getLsbD j with
 |true=>rw [h j ha]
 |false=>
  cases hb:b.getLsbD j with
  |false=>rfl
  |true=>exact absurd ⟨j,List.mem_range'_1.2 ⟨Nat.zero_le _,by omega⟩,hb,ha⟩ hno
theorem zig:∀(L:Ws) (i:Nat) (b:BitVec 64),i<L.length→zkv (L.set i b)+(dG (cQ L i)).length=zkv L+(dG b).length
 | [],i,b,h=>by simp at h
 |x :: r,0,b,h=>by simp [zkv,cQ];omega
 |x :: r,i+1,b,h=>by
  have:=zig r i b (by simpa using h);simp only [zkv,cQ,List.set_cons_succ,List.map_cons,List.sum_cons,List.getD_cons_succ] at this ⊢;omega
inductive Reach (Y:Tb) (L:Ws):Ws→Prop
 |refl:Reach Y L L
 |step {M:Ws} {i:Nat} {b:BitVec 64}:Reach Y L M→i<Y.n→(∀j,b.getLsbD j=true→(jn Y M i).getLsbD j=true)→Reach Y L (M.set i (cQ M i &&& ~~~b))
theorem Reach.len {Y:Tb}{L M:Ws}(h:Reach Y L M):M.length=L.length:=by
 induction h with
 |refl=>rfl
 |step _ _ _ ih=>rw [List.length_set,ih]
theorem Reach.sub {Y:Tb}{L M:Ws}(h:Reach Y L M)(hl:L.length=Y.n):∀i j,(cQ M i).getLsbD j=true→(cQ L i).getLsbD j=true:=by
 induction h with
 |refl=>exact fun _ _ h=>h
 | @step M' k b hr hk _ ih=>
  intro i j hij;rw [kO (by rw [hr.len,hl];exact hk)] at hij
  split at hij
  ·rename_i e;subst e;rw [BitVec.getLsbD_and,Bool.and_eq_true] at hij;exact ih _ _ hij.1
  ·exact ih _ _ hij
structure SInv (Y:Tb) (L0 L:Ws) (q:List Nat) (ws:Ws) (c:Bool):Prop where
 reach:Reach Y L0 L
 len:L.length=Y.n
 ws8:ws.length=8
 wsn:∀j,j<512→eO ws j=true→j<Y.n
 qn:∀j∈q,j<Y.n
 q512:q.length≤512
 bad:c=true→∃i,i<Y.n∧cQ L i=0#64
 good:c=false→∀i,i<Y.n→i∈q∨eO ws i=true∨ziD Y L i
def smu (L:Ws)(q:List Nat)(ws:Ws):Nat:=zkv L*2000+q.length+(if fq ws=[] then 0 else 600)
theorem zlx:fq fB=[]:=zgg fun j _ _=>zd1 j
theorem SInv.refill {Y:Tb}{L0 L:Ws}{ws:Ws}{c:Bool}(h:SInv Y L0 L [] ws c):SInv Y L0 L (fq ws) fB c where
 reach:=h.reach
 len:=h.len
 ws8:=rfl
 wsn j _ hb:=by rw [zd1] at hb;cases hb
 qn j hj:=by obtain ⟨_,h1,h2⟩:=fQ.1 hj;exact h.wsn j h1 h2
 q512:=zf6 ws 0
 bad:=h.bad
 good hc i hi:=by
  rcases h.good hc i hi with h1|h1|h1
  ·cases h1
  ·have:=h.len;by_cases h512:i<512
   ·exact .inl (fQ.2 ⟨Nat.zero_le _,h512,h1⟩)
   ·exfalso;unfold eO cQ at h1;rw [List.getD_eq_getElem?_getD,List.getElem?_eq_none (by rw [h.ws8];omega)] at h1;exact absurd h1 (by show ¬(0#64).getLsbD _=true;rw [BitVec.getLsbD_zero];simp)
  ·exact .inr (.inr h1)
theorem zjZ {L:Ws}{ws:Ws}(h:fq ws≠[]):smu L (fq ws) fB<smu L [] ws:=by
 unfold smu;rw [if_pos zlx,if_neg h];have:(fq ws).length≤512:=zf6 ws 0;simp only [List.length_nil];omega
theorem SInv.calm {Y:Tb}{L0 L:Ws}{ws:Ws}(h:SInv Y L0 L [] ws false)(hm:fq ws=[]):∀i,i<Y.n→ziD Y L i:=fun i hi=>by
 rcases h.refill.good rfl i hi with h1|h1|h1
 ·rw [hm] at h1;cases h1
 ·rw [zd1] at h1;cases h1
 ·exact h1
theorem zjX {Y:Tb}{L0 L:Ws}{i:Nat}{b:BitVec 64}(h:Reach Y L0 L)(hi:i<Y.n)(hb:∀j,b.getLsbD j=true→(jn Y L i).getLsbD j=true):Reach Y L0 (L.set i (cQ L i &&& ~~~b)):= .step h hi hb
theorem znV {Y:Tb}{L:Ws}{i j:Nat}(h:(lR Y L i).getLsbD j=true):(jn Y L i).getLsbD j=true:=by simp [jn,h]
theorem zn1 {Y:Tb}{L:Ws}{i j:Nat}(h:(kK Y L i).getLsbD j=true):(jn Y L i).getLsbD j=true:=by simp [jn,h]
theorem znU {Y:Tb}{L:Ws}{i j:Nat}(h:(lQ Y L i).getLsbD j=true):(jn Y L i).getLsbD j=true:=by simp [jn,h]
def zgW (Y:Tb)(L:Ws)(i k:Nat):BitVec 64:=if k=0 then lR Y L i else if k=1 then kK Y L i else lQ Y L i
theorem znG {Y:Tb}{L:Ws}{i j k:Nat}(h:(zgW Y L i k).getLsbD j=true):(jn Y L i).getLsbD j=true:=by
 unfold zgW at h
 split at h
 ·exact znV h
 ·split at h
  ·exact zn1 h
  ·exact znU h
def eH (Y:Tb)(L:Ws)(i:Nat):Nat→Ws
 |0=>L
 |k+1=>(eH Y L i k).set i (cQ (eH Y L i k) i &&& ~~~(zgW Y (eH Y L i k) i k))
theorem zcd {Y:Tb}{L:Ws}{i:Nat}:∀k,(eH Y L i k).length=L.length
 |0=>rfl
 |k+1=>by rw [eH,List.length_set,zcd k]
theorem zey {Y:Tb}{L0 L:Ws}{i:Nat}(h:Reach Y L0 L)(hi:i<Y.n):∀k,Reach Y L0 (eH Y L i k)
 |0=>h
 |k+1=>zjX (zey h hi k) hi (fun j hj=>znG hj)
theorem zev {Y:Tb}{L:Ws}{i j:Nat}(hi:i<L.length)(hj:j≠i):∀k,cQ (eH Y L i k) j=cQ L j
 |0=>rfl
 |k+1=>by rw [eH,kO (by rw [zcd];exact hi),if_neg hj,zev hi hj k]
theorem zfE {Y:Tb}{L:Ws}{i:Nat}(hi:i<L.length):∀k j,(cQ (eH Y L i k) i).getLsbD j=true→(cQ L i).getLsbD j=true
 |0,_,h=>h
 |k+1,j,h=>by
  rw [eH,kO (by rw [zcd];exact hi),if_pos rfl,BitVec.getLsbD_and,Bool.and_eq_true] at h;exact zfE hi k j h.1
theorem zkw {Y:Tb}{L:Ws}{i:Nat}{b:BitVec 64}(hok:Y.Ok)(hi:i<Y.n)(hl:L.length=Y.n)(m:Nat):zgW Y (L.set i b) i m=zgW Y L i m:=by
 have h1:=zgm (b:=b) hok hi hl;unfold zgW;rw [h1.1,h1.2.1,h1.2.2]
theorem zgM {Y:Tb}{L:Ws}{i:Nat}(hok:Y.Ok)(hi:i<Y.n)(hl:L.length=Y.n):∀k m,zgW Y (eH Y L i k) i m=zgW Y L i m
 |0,_=>rfl
 |k+1,m=>by rw [eH,zkw hok hi (by rw [zcd,hl]),zgM hok hi hl k m]
theorem zkP {Y:Tb}{L:Ws}{i:Nat}(hok:Y.Ok)(hi:i<Y.n)(hl:L.length=Y.n):cQ (eH Y L i 3) i=cQ L i &&& ~~~(lR Y L i) &&& ~~~(kK Y L i) &&& ~~~(lQ Y L i):=by
 have h:∀k,cQ (eH Y L i (k+1)) i=cQ (eH Y L i k) i &&& ~~~(zgW Y L i k):=fun k=>by
  rw [eH,kO (by rw [zcd,hl];exact hi),if_pos rfl,zgM hok hi hl]
 rw [h 2,h 1,h 0]
 rfl
theorem zfG {Y : Tb} {L : Ws} {i : Nat} (hi : i < L.length) : eH Y L i 3 = L.set i (cQ (eH Y L i 3) i) := by
  have h : ∀ k, ∃ b, eH Y L i k = L.set i b := by
    intro k
    induction k with
    | zero => exact ⟨cQ L i, by
        apply List.ext_getElem?; intro j; by_cases hj : j = i
        · subst hj; rw [List.getElem?_set_self hi, eH, List.getElem?_eq_getElem hi, eh hi]
        · rw [List.getElem?_set_ne (fun e => hj e.symm)]; rfl⟩
    | succ k ih =>
      obtain ⟨b, hb⟩ := ih; exact ⟨_, by rw [eH, hb, List.set_set]⟩
  obtain ⟨b, hb⟩ := h 3; rw [hb, kO hi, if_pos rfl]
theorem zhN {a b:BitVec 64}(hs:∀j,a.getLsbD j=true→b.getLsbD j=true)(hne:a≠b)(h0:a≠0#64):iO b=0:=by
 unfold iO;rw [if_neg];rintro ⟨hb,hz⟩
 have h1:∀j,b.getLsbD j=true→j=ctz b:=fun j hj=>by
  have:=zi1 hb j;rw [hz,hj,BitVec.getLsbD_zero,Bool.true_and] at this;simpa using this.symm
 apply hne;apply BitVec.eq_of_getLsbD_eq;intro j hj
 cases hbj:b.getLsbD j with
 |false=>
  cases haj:a.getLsbD j with
  |false=>rfl
  |true=>rw [hs j haj] at hbj;cases hbj
 |true=>
  have e:=h1 j hbj;obtain ⟨k,hk⟩:∃k,a.getLsbD k=true:=⟨ctz a,(zgz h0 0).1⟩;rw [e,←h1 k (hs k hk)];exact hk
theorem SInv.step {Y : Tb} {L0 L : Ws} {i : Nat} {q : List Nat} {ws : Ws} (hok : Y.Ok) (h : SInv Y L0 L (i :: q) ws false) :
    SInv Y L0 (eH Y L i 3) q (if cQ (eH Y L i 3) i = cQ L i then ws else j7 Y (eH Y L i 3) i ws) (decide (cQ (eH Y L i 3) i = 0#64)) := by
  have hi : i < Y.n := h.qn i a8; (have hil : i < L.length := by rw [h.len]; exact hi); have hn := hok.n; have hsub := zfE (Y := Y) hil 3; refine ⟨zey h.reach hi 3, by rw [zcd, h.len], ?_, ?_, fun j hj => h.qn j (by simp [hj]), by have := h.q512; simp at this; omega, ?_, ?_⟩
  · split
    · exact h.ws8
    · rw [zfM, h.ws8]
  · intro j hj hb
    split at hb
    · exact h.wsn j hj hb
    · rcases (zdL hok hi h.ws8 j hj).1 hb with h1 | ⟨_, h1 | h1 | h1⟩
      · exact h.wsn j hj h1
      · obtain ⟨x, hx, he⟩ := h1; have := (hok.ps i hi).2 x hx; omega
      · obtain ⟨x, hx, he⟩ := h1; have := (hok.inn i hi).2 x hx; omega
      · obtain ⟨x, hx, he⟩ := h1; have h2 := (hok.out i hi).2 x hx; rcases he with he | ⟨_, o, ho, he⟩
        · omega
        · have := (hok.inn x.to.toNat a5).2 o ho; omega
  · intro hc; exact ⟨i, hi, of_decide_eq_true hc⟩
  · intro hc k hk; have h0 : cQ (eH Y L i 3) i ≠ 0#64 := of_decide_eq_false hc; by_cases hki : k = i
    · subst hki;refine .inr (.inr ⟨h0, ?_⟩); have e := zgm (b := cQ (eH Y L k 3) k) hok hi h.len; rw [← zfG hil] at e; unfold jn; rw [e.1, e.2.1, e.2.2, zkP hok hi h.len]; apply BitVec.eq_of_getLsbD_eq; intro j hj;simp only [BitVec.getLsbD_and, BitVec.getLsbD_or, BitVec.getLsbD_not, BitVec.getLsbD_zero]
      cases (cQ L k).getLsbD j <;> cases (lR Y L k).getLsbD j <;> cases (kK Y L k).getLsbD j <;> cases (lQ Y L k).getLsbD j <;> simp
    · have hkeep := zev (Y := Y) hil hki 3; by_cases hsame : cQ (eH Y L i 3) i = cQ L i
      · rw [if_pos hsame]
        have e : eH Y L i 3 = L := by
          rw [zfG hil, hsame]; apply List.ext_getElem?; intro j; by_cases hj : j = i
          · subst hj; rw [List.getElem?_set_self hil, List.getElem?_eq_getElem hil, eh hil]
          · rw [List.getElem?_set_ne (fun e => hj e.symm)]
        rw [e]; rcases h.good rfl k hk with h1 | h1 | h1
        · rcases List.mem_cons.1 h1 with h1 | h1
          · exact absurd h1 hki
          · exact .inl h1
        · exact .inr (.inl h1)
        · exact .inr (.inr h1)
      · rw [if_neg hsame]; have h00 : only L i = 0 := zhN hsub hsame h0; (have honly : ∀ j, j ≠ i → only (eH Y L i 3) j = only L j := fun j hj => by unfold only; rw [zev hil hj]); rcases h.good rfl k hk with h1 | h1 | h1
        · rcases List.mem_cons.1 h1 with h1 | h1
          · exact absurd h1 hki
          · exact .inl h1
        · exact .inr (.inl ((zdL hok hi h.ws8 k a5).2 (.inl h1)))
        · by_cases hnear : only (eH Y L i 3) i ≠ 0 ∧ mC Y (eH Y L i 3) i k
          · exact .inr (.inl ((zdL hok hi h.ws8 k a5).2 (.inr hnear)))
          · refine .inr (.inr ⟨by rw [hkeep]; exact h1.1, ?_⟩)
            have ha : Alike Y L (eH Y L i 3) k := by
              by_cases hz : only (eH Y L i 3) i = 0
              · have hall : ∀ j, only (eH Y L i 3) j = only L j := fun j => by
                  by_cases hj : j = i
                  · subst hj; rw [hz, h00]
                  · exact honly j hj
                exact q4J
              · exact zhW hok hi hk hki honly h00 (fun hh => hnear ⟨hz, hh⟩)
            rw [zgG ha (fun x hx => by have := (hok.out k hk).2 x hx; omega), hkeep]; exact h1.2
theorem zlI {Y:Tb}{L:Ws}{i:Nat}{q:List Nat}{ws:Ws}(hi:i<L.length)(hq:q.length≤511):smu (eH Y L i 3) q (if cQ (eH Y L i 3) i=cQ L i then ws else j7 Y (eH Y L i 3) i ws)<smu L (i :: q) ws:=by
 have hb:=zig L i (cQ (eH Y L i 3) i) hi;rw [←zfG hi] at hb;unfold smu;by_cases hs:cQ (eH Y L i 3) i=cQ L i
 ·rw [if_pos hs];rw [hs] at hb;simp only [List.length_cons];omega
 ·rw [if_neg hs];have hlt:=znX (zfE (Y:=Y) hi 3) hs; (have h6:(if fq (j7 Y (eH Y L i 3) i ws)=[] then 0 else 600)≤600:=by split <;> omega);simp only [List.length_cons];omega
def Ne (j:Nat):List Value:=[.int .i64 (j:Int)]
structure QuOk (w:World) (v:Value) (q:List Nat):Prop where
 sl:SlOf w v Ne 1 q
 cap:∀A n c,v= .slice A n c→n≤c
 lt:∀g,v.ownBlock=some g→∃cs t,w.heap[g]?=some (.cells cs t (0,0))
theorem SlOf.loc {α:Type}{w w':World}{v:Value}{enc:α→List Value}{size:Nat}{xs:List α}(h:SlOf w v enc size xs)(hl:∀g,v.ownBlock=some g→w'.heap[g]?=w.heap[g]?):SlOf w' v enc size xs:=by
 obtain ⟨A,cap,rfl,hc⟩:=h;refine ⟨A,cap,rfl,fun hp=>?_⟩;obtain ⟨g,off,rfl,hcs⟩:=hc hp;have hg:=hl g rfl
 exact ⟨g,off,rfl,fun i hi j hj=>by
  rw [←hcs i hi j hj]
  exact World.cell?_of_block (w:=w) hg⟩
@[irreducible] def Ent.qu (v:Value) (q:List Nat):Ent where
 fp g:=v.ownBlock=some g
 ok w:=QuOk w v q
 loc h k:=⟨k.sl.loc h,k.cap,fun g hg=>by rw [h g hg];exact k.lt g hg⟩
 lt h g hg:=by obtain ⟨cs,t,e⟩:=h.lt g hg;exact (Array.getElem?_eq_some_iff.1 e).1
 nd h g hg c:=by obtain ⟨cs,t,e⟩:=h.lt g hg;rw [e];simp
theorem gu {v:Value}{q:List Nat}{g:Nat}:(Ent.qu v q).fp g↔v.ownBlock=some g:=by unfold Ent.qu;exact Iff.rfl
theorem fK {v:Value}{q:List Nat}{w:World}:(Ent.qu v q).ok w↔QuOk w v q:=by unfold Ent.qu;exact Iff.rfl
theorem znw (l:List Nat):jp l=l.flatMap Ne:=by
 unfold jp
 induction l with
 |nil=>rfl
 |cons x r ih=>simp_all [Ne]
theorem zhB {w:World}{v:Value}{e:TypeId}{q:List Nat}{n:Nat}(hn:n=q.length)(h:(Ent.sl v e 1 n (jp q)).ok w):(Ent.qu v q).ok w:=by
 have ho:=c6.1 h;rw [znw] at ho;refine fK.2 ⟨SlOf.own (enc:=Ne) (size:=1) (fun _=>rfl) ho hn,?_,?_⟩
 ·rintro A m c rfl;rcases ho.2 with ⟨e,_⟩|⟨g,cap,cur,e,_,_,h1,_⟩
  ·cases e;exact Nat.le_refl _
  ·cases e;exact h1
 ·intro g hg;rcases ho.2 with ⟨e,_⟩|⟨g',cap,cur,e,_,h1,_⟩
  ·rw [e] at hg;cases hg
  ·rw [e] at hg;simp [Value.ownBlock] at hg;subst hg;exact ⟨_,_,h1⟩
section
variable {F:Fence}{P:Program}{n:Nat}{B D:World}{M:Nat→Prop}{Q:Exit→Act→World→Prop}{fs:dW}{hs:HS}{o:Oper}{ops:Array Oper}{l:List Oper}{c:Code}{e:Exit}
theorem Hp.conv {w:World}{i:Nat}{a b:Ent}(h:Hp B M hs w)(hi:hs[i]?=some a)(hok:a.ok w→b.ok w)(hfp:∀g,b.fp g→a.fp g):Hp B M (hs.set i b) w:=
 h.updAt hi (Only.refl (fun _=>False) w) (fun _ _ h=>h.elim) (hok (h.get hi)) (fun g hg=> .inl (hfp g hg))
theorem TL.conv (i:Nat)(a b:Ent){hs':HS}(hi:hs[i]?=some a)(hok:∀w,a.ok w→b.ok w)(hfp:∀g,b.fp g→a.fp g)[hH:SetAt hs i b hs'](h:TL F P n B D M ops Q l fs hs'):TL F P n B D M ops Q l fs hs:=⟨fun a' w ha hw hm=>h.out a' w ha (by rw [←hH.h];exact hw.conv hi (hok w) hfp) hm⟩
theorem K.conv (i:Nat)(a b:Ent){hs':HS}(hi:hs[i]?=some a)(hok:∀w,a.ok w→b.ok w)(hfp:∀g,b.fp g→a.fp g)[hH:SetAt hs i b hs'](h:K n B D M Q e fs hs'):K n B D M Q e fs hs:=⟨fun a' w ha hw hm=>h.out a' w ha (by rw [←hH.h];exact hw.conv hi (hok w) hfp) hm⟩
theorem Yv.cG (i:Nat){t e:TypeId}{k:Nat}{x:Operand}{v:Value}{q:List Nat}[hT:TySl P t e k](ho:o.op= .call { callee:= .builtin .len,args:= #[x],argTypes:= #[t] })(hx:ev fs x=some v)(hi:hs[i]?=some (.qu v q)):Yv P n B M fs hs o (.int .i64 (q.length:Int)):=fun a w ha hw=>by
 obtain ⟨A,cap,rfl,_⟩:=(fK.1 (hw.get hi)).sl;exact io (B:=B) (M:=M) (hs:=hs) ho hx a w ha hw
theorem T.cm (i:Nat){v:Value}{x:Nat}{q:List Nat}(hi:hs[i]?=some (.qu v (x :: q)))(h:∀g off cap,v= .slice (some ⟨g,off,none⟩) (q.length+1) cap→q.length+1≤cap→T F P n B D M c Q fs hs):T F P n B D M c Q fs hs:=⟨fun a w ha hw hm=>by
 have hq:=fK.1 (hw.get hi);obtain ⟨A,cap,rfl,hc⟩:=hq.sl;obtain ⟨g,off,rfl,_⟩:=hc a8
 exact (h g off cap rfl (hq.cap _ _ _ rfl)).out a w ha hw hm⟩
theorem Yv.cx (i:Nat){t:TypeId}[hT:TyS P t]{g off p cap m:Nat}{x:Nat}{q:List Nat}{y:Operand}(ho:o.op= .load t y)(hy:ev fs y=some (.pointer (some ⟨g,p,none⟩)))(hi:hs[i]?=some (.qu (.slice (some ⟨g,off,none⟩) m cap) (x :: q)))(hp:p=off):Yv P n B M fs hs o (.int .i64 (x:Int)):=fun a w ha hw=>by
 subst hp;obtain ⟨A,cap',e,hc⟩:=(fK.1 (hw.get hi)).sl
 cases e
 obtain ⟨g',off',e,hcs⟩:=hc a8
 cases e
 have:=hcs 0 a8 0 (by simp [Ne]);exact zer ho (ha.ev hy) (by simpa [Ne] using this)
def kL (g off n:Nat):Value:= .slice (if n+1=1 then some ⟨g,off,none⟩ else some ⟨g,off+1,none⟩) n n
theorem Yv.cn {t e:TypeId}{x a b d:Operand}{g off m cap:Nat}[hT:TySl P t e 1](ho:o.op= .slice t x (some a) (some b) (some d))(hx:ev fs x=some (.slice (some ⟨g,off,none⟩) (m+1) cap))(ha:ev fs a=some (.int .i64 1))(hb:ev fs b=some (.int .i64 ((m+1:Nat):Int)))(hd:ev fs d=some (.int .i64 ((m+1:Nat):Int)))(hc:m+1≤cap):Yv P n B M fs hs o (kL g off m):=fun f w hf _=>by
 have hr:(Instr.sliceAt t (.slice (some ⟨g,off,none⟩) (m+1) cap) (some (.int .i64 1)) (some (.int .i64 ((m+1:Nat):Int))) (some (.int .i64 ((m+1:Nat):Int)))).run P w= .ok (kL g off m) w:=by
  have h:=hT.h;unfold zfF at h
  split at h
  ·rename_i el hU
   cases hi':P.info? el with
   |none=>rw [hi'] at h;cases h
   |some inf=>
    rw [hi'] at h;simp only [Option.map,Option.some.injEq,Prod.mk.injEq] at h;obtain ⟨rfl,hsz⟩:=h
    have h1:(Instr.sliceBounds true (m+1) cap (some (.int .i64 1)) (some (.int .i64 ((m+1:Nat):Int))) (some (.int .i64 ((m+1:Nat):Int)))).run P w= .ok (1,m+1,m+1) w:=by
     unfold Instr.sliceBounds;simp only [Sem.run_bind,run_sliceBound w .i64 ((m+1:Nat):Int) cap _ a5 a5,Result.andThen,Int.toNat_natCast,run_sliceBound w .i64 ((m+1:Nat):Int) (m+1) _ a5 a5,run_sliceBound w .i64 1 (m+1) _ a5 a5]
     rfl
    obtain ⟨z,hz⟩:∃z:Int,z=((m+1:Nat):Int):=⟨_,rfl⟩;rw [←hz] at h1 ⊢;simp [Instr.sliceAt,Instr.slice,underlying,hU,h1,sizeOf,typeInfo,hi',hsz,kL,Addr.add,Result.andThen]
  ·cases h
 unfold execOp;simp only [ho,hf.ev hx,hf.ev ha,hf.ev hb,hf.ev hd,Option.map];rw [Sem.run_bind,hr]
 rfl
end
theorem zk7 {g off n b:Nat}(h:(kL g off n).ownBlock=some b):b=g:=by
 unfold kL at h
 split at h <;> (simp [Value.ownBlock] at h;exact h.symm)
theorem zn3 {w:World}{g off cap x:Nat}{q:List Nat}(h:(Ent.qu (.slice (some ⟨g,off,none⟩) (q.length+1) cap) (x :: q)).ok w):(Ent.qu (kL g off q.length) q).ok w:=by
 have hq:=fK.1 h;obtain ⟨A,cap',e,hc⟩:=hq.sl
 cases e
 obtain ⟨g',off',e,hcs⟩:=hc a8
 cases e
 refine fK.2 ⟨⟨_,_,rfl,fun hl=>?_⟩,?_,fun b hb=>?_⟩
 ·refine ⟨g,off+1,by rw [if_neg a5],fun i hi=>?_⟩;have:=hcs (i+1) (by simpa using hi);simp only [List.getElem_cons_succ] at this;rw [show off+1+i*1=off+(i+1) *1 by omega];exact this
 ·intro A n c e;unfold kL at e
  cases e
  exact Nat.le_refl _
 ·rw [zk7 hb];exact hq.lt g rfl
def gB (Y:Tb)(L0 L:Ws)(c:Bool):Prop:=Reach Y L0 L∧L.length=Y.n∧(c=true→∃i,i<Y.n∧cQ L i=0#64)∧(c=false→∀i,i<Y.n→ziD Y L i)
def rid (k:Nat):Nat:=if k=0 then 153 else if k=1 then 154 else 155
instance (k:Nat):Enters Tryz.prog (rid k):=by
 unfold rid;split
 ·exact inferInstance
 ·split <;> exact inferInstance
def ruleFs:List Value:=[.func (.func 153) #[] #[], .func (.func 154) #[] #[], .func (.func 155) #[] #[]]
theorem znD {k:Nat}(h:k<3):ruleFs[k]?=some (.func (.func (rid k)) #[] #[]):=by
 (obtain rfl|rfl|rfl:k=0∨k=1∨k=2:=by omega)
 all_goals rfl
theorem zjr (sp:Nat)(Y:Tb)(L:Ws)(c:Bool)(i:Nat)(z:Int)(hz:z=(i:Int))(hi:i<Y.n)(w:World)(h:StateAt w sp Y L c)(hok:Y.Ok)(k:Nat)(hk:k<3):Calls Tryz.prog (rid k) #[.pointer (some ⟨sp,0,none⟩), .int .i64 z] w fun e w'=>e= .returned (U (zgW Y L i k))∧Below w.heap.size w w':=by
 (obtain rfl|rfl|rfl:k=0∨k=1∨k=2:=by omega)
 ·exact ziN sp Y L c i z hz hi w h hok
 ·exact zkb sp Y L c i z hz hi w h hok
 ·exact zja sp Y L c i z hz hi w h hok
abbrev sV (gl n:Nat):Value:= .slice (some ⟨gl,0,none⟩) n n
abbrev sG (gl:GL)(n:Nat):Value:= .slice (some ⟨gl.b,0,none⟩) n gl.c
abbrev dJ (sp:Nat)(gl:GL)(tp n:Nat)(c:Bool):Ent:= .row sp 188 [.pointer (some ⟨tp,0,none⟩),sG gl n, .bool c]
abbrev fe (gl:GL)(n:Nat)(L:Ws):Ent:= .sl (sG gl n) 80 1 n (Ws.cells L)
theorem zml (L:Ws):Ws.cells L=L.flatMap Le:=by
 induction L with
 |nil=>rfl
 |cons x r ih=>simp_all [Le,Ws.cells]
theorem iq {B w0 w:World}{M:Nat→Prop}{hs:HS}{sp:Nat}{gl:GL}{tp:Nat}{Y:Tb}{L:Ws}{c:Bool}(hw:Hp B M hs w)(ht:TablesAt w0 tp Y)(hfr:Fz w0 w)(htab:Tab w)(i j:Nat)(hi:hs[i]?=some (dJ sp gl tp Y.n c))(hj:hs[j]?=some (fe gl Y.n L))(hl:L.length=Y.n):StF w0 w sp gl tp Y L c:=by
 have h1:=c9.1 (hw.get hi);have h2:=c6.1 (hw.get hj);rw [zml] at h2;have h3:=SlOf.own (enc:=Le) (size:=1) (fun _=>rfl) h2 hl.symm;rw [←hl] at h1 h3;exact ⟨ht,hfr,by rw [jx h1];rfl,by rw [jx h1];rfl,h3,hl,by rw [jx h1];rfl,htab⟩
theorem zgp {L:Ws}{i p:Nat}{b:BitVec 64}(hp:p=i):(Ws.cells L).set p (U b)=Ws.cells (L.set i b):=Ws.put hp
theorem zhb (w0:World)(sp:Nat)(gl:GL)(tp:Nat)(Y:Tb)(L:Ws)(c:Bool)(v:Value)(q:List Nat)(w:World)(ht:TablesAt w0 tp Y)(hok:Y.Ok)(hfr:Fz w0 w)(htab:Tab w)(hes:Hp w (dj [dJ sp gl tp Y.n c,fe gl Y.n L,Ent.qu v q]) [dJ sp gl tp Y.n c,fe gl Y.n L,Ent.qu v q] w)(hMN:∀g,dj [dJ sp gl tp Y.n c,fe gl Y.n L,Ent.qu v q] g→¬jw w0 g)(hM0:¬dj [dJ sp gl tp Y.n c,fe gl Y.n L,Ent.qu v q] 0)(hinv:SInv Y L L q fB c):Calls Tryz.prog 143 #[.pointer (some ⟨sp,0,none⟩),v] w fun e w'=>∃y:Ws×Bool,gB Y L y.1 y.2∧e= .returned (.tuple #[])∧Hp w (dj [dJ sp gl tp Y.n c,fe gl Y.n L,Ent.qu v q]) [dJ sp gl tp Y.n y.2,fe gl Y.n y.1] w':=by
 have hn512:=hok.n;refine dy (M:=dj [dJ sp gl tp Y.n c,fe gl Y.n L,Ent.qu v q]) (hs:=[dJ sp gl tp Y.n c,fe gl Y.n L,Ent.qu v q]) Tryz.func143 rfl rfl rfl hes ?_;refine T.scope ?_;refine dm ?_;refine cR (Yv.bZ rfl rfl) ?_; (refine cU (Wt.none) rfl rfl (Ew.alloc) ?_;rintro _ _ ⟨g4,rfl,rfl⟩); (refine dS (Wt.none) rfl (dF 0) ?_;rintro _ _ ⟨rfl,rfl⟩);refine dR ?_; (refine cU (Wt.none) rfl rfl (Ew.alloc) ?_;rintro _ _ ⟨g5,rfl,rfl⟩);refine gU ?_;refine T.label ?_;refine K.seq (T.block ?_);refine T.loop (ι:=Ws×List Nat×Ws×Bool×Value) (fun x=>[(0, .pointer (some ⟨sp,0,none⟩)),(4, .pointer (some ⟨g4,0,none⟩)),(5, .pointer (some ⟨g5,0,none⟩)),(1,x.2.2.2.2)]) (fun x=>[.row g5 83 (Ws.cells x.2.2.1), .row g4 217 ruleFs,dJ sp gl tp Y.n x.2.2.2.1,fe gl Y.n x.1,Ent.qu x.2.2.2.2 x.2.1]) (fun x=>SInv Y L x.1 x.2.1 x.2.2.1 x.2.2.2.1) (fun x=>smu x.1 x.2.1 x.2.2.1) (L,q,fB,c,v) ?_ ?_ ?_ ?_
 ·exact hinv
 ·exact (by repeat (first|exact Sub.nil|refine Sub.cons rfl ?_))
 ·exact Sx
 ·intro x hphi;obtain ⟨L1,q1,ws1,c1,v1⟩:=x;dsimp only at hphi ⊢;have hws8:=hphi.ws8;refine jS ?_;refine mg ?_;refine dL ?_;refine T.cond rfl (fun h1=>?_) (fun h1=>?_)
  ·have p1:=h1; (try simp only [c7] at p1); (obtain rfl:c1=false:=by simpa using p1);refine T.skip (K.seq (T.block ?_));refine j3 (ι:=List Nat×Ws×Value) (fun y=>[(0, .pointer (some ⟨sp,0,none⟩)),(4, .pointer (some ⟨g4,0,none⟩)),(5, .pointer (some ⟨g5,0,none⟩)),(1,y.2.2)]) (fun y=>[.row g5 83 (Ws.cells y.2.1), .row g4 217 ruleFs,dJ sp gl tp Y.n false,fe gl Y.n L1,Ent.qu y.2.2 y.1]) (fun y=>SInv Y L L1 y.1 y.2.1 false∧y.1≠[]∧smu L1 y.1 y.2.1≤smu L1 q1 ws1) ?_ ?_
   ·skip;refine gh ?_;refine cR (Yv.cG 4 rfl rfl rfl) ?_;refine dL ?_;refine T.cond rfl (fun h2=>?_) (fun h2=>?_)
    ·have p2:=h2; (try simp only [c7] at p2);obtain rfl:q1=[]:=List.eq_nil_of_length_eq_zero a5;refine dm ?_;refine cR (dY 0 rfl rfl rfl (by rw [List.length_map,hws8])) ?_; (refine cU (Wt.none) rfl rfl (jr rfl rfl rfl (fun w hw=>zjM ws1 hws8 w (htab.kept hw hM0))) ?_;rintro v20 _ ⟨_, -,rfl,rfl⟩);refine eS ?_;refine jy ?_;refine dp ?_; (refine dS (Wt.none) rfl (dF 1 rfl rfl rfl rfl rfl (by rw [List.length_map,hws8];rfl)) ?_;rintro _ _ ⟨rfl,rfl⟩);refine l7 ?_;refine cR (jt 0 rfl rfl rfl) ?_;refine dL ?_;refine T.cond rfl (fun h3=>?_) (fun h3=>?_)
     ·have p3:=h3; (try simp only [c7] at p3);have hfin:gB Y L L1 false:=⟨hphi.reach,hphi.len,(fun hh=>by cases hh),fun _=>hphi.calm (List.eq_nil_of_length_eq_zero a5)⟩;refine T.exit (fG ?_);refine K.bb rfl ?_;refine fG (iT ?_);refine K.bm ?_;exact q4A
     ·have p3:=h3; (try simp only [c7] at p3); (have hmem:fq ws1≠[]:=by intro hh;rw [hh] at p3;exact p3 rfl);refine T.skip ?_;refine K.conv 0 _ (Ent.qu v20 (fq ws1)) rfl (fun w hh=>zhB rfl hh) (fun g hg=>dg.2 (gu.1 hg)) ?_;refine K.bM (List.perm_append_comm (l₁:=[Ent.qu v20 (fq ws1)])) ?_;exact c4 (fq ws1,fB,v20) ⟨hphi.refill,hmem,Nat.le_of_lt (zjZ hmem)⟩ (by repeat (first|exact Sub.nil|refine Sub.cons rfl ?_)) Sx
    ·have p2:=h2; (try simp only [c7] at p2);refine T.skip ?_;exact c4 (q1,ws1,v1) ⟨hphi,fun hh=>p2 (by rw [show q1=[] from hh];rfl),Nat.le_refl _⟩ (by repeat (first|exact Sub.nil|refine Sub.cons rfl ?_)) Sx
   ·skip;intro y hphi;obtain ⟨q2,ws2,v2⟩:=y;dsimp only at hphi ⊢;obtain ⟨hinv2,hq2,hmu2⟩:=hphi; (obtain ⟨i,r,rfl⟩:∃i r,q2=i :: r:=by cases q2 with|nil=>exact absurd rfl hq2|cons a b=>exact ⟨a,b,rfl⟩);have hws8:=hinv2.ws8;have hi:i<Y.n:=hinv2.qn i a8;have hl1:=hinv2.len; (have hr511:r.length≤511:=by have:=hinv2.q512;simp at this;omega);have hstep:=hinv2.step hok;have hsmu:=zlI (Y:=Y) (L:=L1) (i:=i) (q:=r) (ws:=ws2) a5 hr511;refine T.cm 4 rfl ?_;rintro gq oq capq rfl hcq;refine gh ?_;refine cR (gE rfl rfl rfl (show (0:Int)=((0:Nat):Int) from rfl) a5) ?_;refine cR (Yv.cx 4 rfl rfl rfl a5) ?_;refine gz ?_;refine ez ?_;refine l8 ?_;refine dp ?_;refine l8 ?_;refine cR (Yv.cn rfl rfl rfl rfl rfl hcq) ?_;refine ki ?_;have hld0:(Ws.cells L1)[0+i*1]?=some (U (cQ L1 i)):=Ws.get a5 a5;refine fg ?_;refine TL.conv 4 _ (Ent.qu (kL gq oq r.length) r) rfl (fun w hh=>zn3 hh) (fun g hg=>by rw [zk7 (gu.1 hg)];exact gu.2 rfl) ?_;refine ez ?_;refine mg ?_;refine lx ?_;refine cR (fu 3 rfl rfl rfl hld0) ?_;refine dL ?_;refine T.cut (gs:=[(0, .pointer (some ⟨sp,0,none⟩)),(4, .pointer (some ⟨g4,0,none⟩)),(5, .pointer (some ⟨g5,0,none⟩)),(1,kL gq oq r.length),(6, .int .i64 (i:Int)),(7,U (cQ L1 i))]) (hs':=[.row g5 83 (Ws.cells ws2), .row g4 217 ruleFs,dJ sp gl tp Y.n false,fe gl Y.n (eH Y L1 i 3),Ent.qu (kL gq oq r.length) r]) ?_ ?_
    ·skip;refine dm ?_;refine m2 ?_;refine dp ?_;refine TL.ns (T.block ?_);refine T.loop (ι:=Nat) (fun k=>[(0, .pointer (some ⟨sp,0,none⟩)),(4, .pointer (some ⟨g4,0,none⟩)),(5, .pointer (some ⟨g5,0,none⟩)),(1,kL gq oq r.length),(6, .int .i64 (i:Int)),(7,U (cQ L1 i)),(41, .agg ruleFs.toArray),(42, .int .i64 (k:Int))]) (fun k=>[.row g5 83 (Ws.cells ws2), .row g4 217 ruleFs,dJ sp gl tp Y.n false,fe gl Y.n (eH Y L1 i k),Ent.qu (kL gq oq r.length) r]) (fun k=>k≤3) (fun k=>3 - k) 0 ?_ ?_ ?_ ?_
     ·omega
     ·exact (by repeat (first|exact Sub.nil|refine Sub.cons rfl ?_))
     ·exact Sx
     ·intro k hphi;refine eR ?_;refine T.cond rfl (fun h4=>?_) (fun h4=>?_)
      ·have p4:=h4; (try simp only [c7] at p4);have hrl:=zcd (Y:=Y) (L:=L1) (i:=i) k;have hld:(Ws.cells (eH Y L1 i k))[0+i*1]?=some (U (cQ (eH Y L1 i k) i)):=Ws.get a5 a5;have hrid:=znD (k:=k) a5;refine fH ?_;refine cR (mQ rfl rfl rfl rfl a5 hrid) ?_;refine i2 ?_;refine ez ?_;refine mg ?_;refine lx ?_;refine cR (fu 3 rfl rfl rfl hld) ?_;refine dL ?_;refine T.cond rfl (fun h5=>?_) (fun h5=>?_)
       ·have p5:=h5; (try simp only [c7] at p5);have hfin:gB Y L (eH Y L1 i k) true:=⟨zey hinv2.reach hi k,by omega,fun _=>⟨i,hi,BitVec.eq_of_toNat_eq (by show _=0;omega)⟩,fun hh=>by cases hh⟩;refine iD ?_;refine fy ?_; (refine dS (Wt.none) rfl (ey 2 rfl rfl rfl rfl b8) ?_;rintro _ _ ⟨rfl,rfl⟩);refine TL.ns (T.exit (fG ?_));refine K.bb rfl ?_;refine fG (fG ?_);refine K.bb rfl ?_;refine fG ?_;refine K.bb rfl ?_;refine fG (iT ?_);refine K.bm ?_;exact q4A
       ·have p5:=h5; (try simp only [c7] at p5);refine kP ?_;refine d8 (.still 0 (.still 1 (.still 2 (.still 3 (.still 4 (.still 5 (.still 7 (.still 8 (.still 9 (.two 6 10 (.eff 10 (sN 11 2 (.eff 13 .done))) (.eff 6 (sN 11 2 (.eff 13 .done))))))))))))) (List.eraseIdx _ 3) a7 (List.eraseIdx_sublist _ _) ?_;refine jl ?_;refine cZ rfl (da 2) ?_;refine gj ?_;refine q2K ?_;refine kj ?_;refine TS.two ?_ ?_
        ·skip;refine eP rfl (Wt.none) rfl rfl (fu 3 rfl rfl rfl hld) Sx ?_;refine dQ ?_; (refine de rfl (Wt.none) rfl rfl (cS rfl rfl rfl (fun w hw=>zjr sp Y (eH Y L1 i k) false i _ rfl hi w (iq hw ht (Fz.hp hfr hw hMN) (htab.kept hw hM0) 2 3 rfl rfl a5).st hok k a5)) ?_;rintro _ _ ⟨rfl,rfl⟩;refine ⟨Sx,?_⟩);refine cZ rfl (lz rfl rfl rfl) ?_;refine q2K ?_;refine dQ ?_; (refine dP rfl (Wt.none) rfl (fA 3 (Ws.cells (eH Y L1 i (k+1))) rfl rfl rfl rfl cL (zgp a5)) ?_;rintro _ _ ⟨rfl,rfl⟩;refine ⟨Sx,?_⟩);refine q1t ?_;exact K.next (k+1) a5 a5 (by repeat (first|exact Sub.nil|refine Sub.cons rfl ?_)) Sx
        ·skip; (refine de rfl (Wt.none) rfl rfl (cS rfl rfl rfl (fun w hw=>zjr sp Y (eH Y L1 i k) false i _ rfl hi w (iq hw ht (Fz.hp hfr hw hMN) (htab.kept hw hM0) 2 3 rfl rfl a5).st hok k a5)) ?_;rintro _ _ ⟨rfl,rfl⟩;refine ⟨Sx,?_⟩);refine dQ ?_;refine eP rfl (Wt.none) rfl rfl (fu 3 rfl rfl rfl hld) Sx ?_;refine cZ rfl (lz rfl rfl rfl) ?_;refine q2K ?_;refine dQ ?_; (refine dP rfl (Wt.none) rfl (fA 3 (Ws.cells (eH Y L1 i (k+1))) rfl rfl rfl rfl cL (zgp a5)) ?_;rintro _ _ ⟨rfl,rfl⟩;refine ⟨Sx,?_⟩);refine q1t ?_;exact K.next (k+1) a5 a5 (by repeat (first|exact Sub.nil|refine Sub.cons rfl ?_)) Sx
      ·have p4:=h4; (try simp only [c7] at p4);refine fi ?_;exact K.at (by repeat (first|exact Sub.nil|refine Sub.cons rfl ?_)) (by rw [show 3=k by omega];exact Sx)
    ·skip;refine T.cut (gs:=[(0, .pointer (some ⟨sp,0,none⟩)),(4, .pointer (some ⟨g4,0,none⟩)),(5, .pointer (some ⟨g5,0,none⟩)),(1,kL gq oq r.length),(6, .int .i64 (i:Int)),(7,U (cQ L1 i))]) (hs':=[.row g5 83 (Ws.cells ws2), .row g4 217 ruleFs,dJ sp gl tp Y.n (decide (cQ (eH Y L1 i 3) i=0#64)),fe gl Y.n (eH Y L1 i 3),Ent.qu (kL gq oq r.length) r]) ?_ ?_
     ·skip;refine T.seq ?_;have hrl3:=zcd (Y:=Y) (L:=L1) (i:=i) 3;have hld3:(Ws.cells (eH Y L1 i 3))[0+i*1]?=some (U (cQ (eH Y L1 i 3) i)):=Ws.get a5 a5;refine gp ?_;refine mg ?_;refine lx ?_;refine cR (fu 3 rfl rfl rfl hld3) ?_;refine dL ?_;refine T.cond rfl (fun h6=>?_) (fun h6=>?_)
      ·have p6:=h6; (try simp only [c7] at p6);have hz3:cQ (eH Y L1 i 3) i=0#64:=BitVec.eq_of_toNat_eq (by show _=0;omega);refine gp ?_;refine fy ?_; (refine dS (Wt.none) rfl (ey 2 rfl rfl rfl rfl b8) ?_;rintro _ _ ⟨rfl,rfl⟩);refine TL.nil ?_; (rw [decide_eq_true hz3];exact K.at (by repeat (first|exact Sub.nil|refine Sub.cons rfl ?_)) Sx)
      ·have p6:=h6; (try simp only [c7] at p6); (have hz3n:¬cQ (eH Y L1 i 3) i=0#64:=fun hh=>by rename_i hh2;exact (by assumption:¬((cQ (eH Y L1 i 3) i).toNat:Int)=0) (by rw [hh];rfl));refine T.skip ?_; (rw [decide_eq_false hz3n];exact K.at (by repeat (first|exact Sub.nil|refine Sub.cons rfl ?_)) Sx)
     ·skip;refine T.seq ?_;have hrl3:=zcd (Y:=Y) (L:=L1) (i:=i) 3;have hld3:(Ws.cells (eH Y L1 i 3))[0+i*1]?=some (U (cQ (eH Y L1 i 3) i)):=Ws.get a5 a5;refine gp ?_;refine mg ?_;refine lx ?_;refine cR (fu 3 rfl rfl rfl hld3) ?_;refine kz ?_;refine T.cond rfl (fun h7=>?_) (fun h7=>?_)
      ·have p7:=h7; (try simp only [c7] at p7);have hch:¬cQ (eH Y L1 i 3) i=cQ L1 i:=fun hh=>(by assumption:¬((cQ (eH Y L1 i 3) i).toNat:Int)=((cQ L1 i).toNat:Int)) (by rw [hh]);refine gp ?_; (refine cU (Wt.none) rfl rfl (ko 0 rfl rfl rfl rfl (fun w hw=>zh5 w0 sp gl tp g5 Y (eH Y L1 i 3) _ ws2 hws8 i _ rfl hi w (iq hw ht (Fz.hp hfr hw hMN) (htab.kept hw hM0) 2 3 rfl rfl a5) hok (by rcases hw.new _ (List.mem_of_getElem? (i:=0) rfl) g5 (cY.2 rfl) with hh|hh;exact hMN _ hh;exact (fun hc=>by have h9:=hfr _ hc;obtain ⟨_,_,_,h8⟩:=hc;rw [h8] at h9;have:=(Array.getElem?_eq_some_iff.1 h9).1;omega)) (by intro hz0;subst hz0;rcases hw.new _ (List.mem_of_getElem? (i:=0) rfl) 0 (cY.2 rfl) with hh|hh;exact hM0 hh;have:=htab.size;omega) (fun hh=>hw.ne (i:=0) (j:=2) a5 rfl rfl (g:=g5) (cY.2 rfl) (cY.2 hh.symm)) (fun hh=>hw.ne (i:=0) (j:=3) a5 rfl rfl (g:=g5) (cY.2 rfl) (dg.2 (congrArg some hh))) (hw.get (i:=0) rfl))) ?_;rintro _ _ ⟨-, -,rfl,rfl⟩);refine TL.nil (fI ?_);exact K.next (eH Y L1 i 3,r,(if cQ (eH Y L1 i 3) i=cQ L1 i then ws2 else j7 Y (eH Y L1 i 3) i ws2),decide (cQ (eH Y L1 i 3) i=0#64),kL gq oq r.length) hstep a9 (by repeat (first|exact Sub.nil|refine Sub.cons rfl ?_)) (by dsimp only;first|(rw [if_neg hch];exact Sx)|(rw [if_pos hsm];exact Sx))
      ·have p7:=h7; (try simp only [c7] at p7);have hsm:cQ (eH Y L1 i 3) i=cQ L1 i:=BitVec.eq_of_toNat_eq a5;refine T.skip (fI ?_);exact K.next (eH Y L1 i 3,r,(if cQ (eH Y L1 i 3) i=cQ L1 i then ws2 else j7 Y (eH Y L1 i 3) i ws2),decide (cQ (eH Y L1 i 3) i=0#64),kL gq oq r.length) hstep a9 (by repeat (first|exact Sub.nil|refine Sub.cons rfl ?_)) (by dsimp only;first|(rw [if_neg hch];exact Sx)|(rw [if_pos hsm];exact Sx))
  ·have p1:=h1; (try simp only [c7] at p1); (obtain rfl:c1=true:=by simpa using p1);have hfin:gB Y L L1 true:=⟨hphi.reach,hphi.len,hphi.bad,fun hh=>by cases hh⟩;refine fi ?_;refine K.bm ?_;exact q4A
def gk (N:Nat)(f:Nat→Int):List Value:=(List.range N).map fun d=> .int .i64 (f d)
theorem mz {N:Nat}{f:Nat→Int}:(gk N f).length=N:=by simp [gk]
theorem zhg {N:Nat}{f:Nat→Int}{d p:Nat}(hp:p=d)(hd:d<N):(gk N f)[p]?=some (.int .i64 (f d)):=by subst hp;simp [gk,hd]
theorem zkc {N:Nat}{f f':Nat→Int}{d p:Nat}{v:Int}(hp:p=d)(hd:d<N)(h1:f' d=v)(h2:∀e,e≠d→f' e=f e):(gk N f).set p (.int .i64 v)=gk N f':=by
 subst hp h1;apply List.ext_getElem?;intro e;unfold gk;by_cases he:e=p
 ·subst he;rw [List.getElem?_set_self (by simpa using hd)];simp [hd]
 ·rw [List.getElem?_set_ne (fun h=>he h.symm)];simp only [List.getElem?_map,List.getElem?_range];by_cases h52:e<N
  ·simp [h52,h2 e he]
  ·simp [h52]
def dr (s:Value)(ix:List Value)(tot:Int)(p c i f:Value):List Value:=s :: (ix++[.int .i64 tot,p,c,i,f])
instance (N:Nat) (f:Nat→Int):OneCs (gk N f):=⟨fun x hx=>by obtain ⟨b,_,rfl⟩:=List.mem_map.1 hx;rfl⟩
instance (s:Value) (ix:List Value) (tot:Int) (p c i f:Value) [h1:OneC s] [h2:OneCs ix] [h3:OneC p] [h4:OneC c] [h5:OneC i] [h6:OneC f]:OneCs (dr s ix tot p c i f):=by unfold dr;exact inferInstance
section
variable {s p c i f:Value}{ix:List Value}{tot:Int}
theorem zhf (hix:ix.length=512):(dr s ix tot p c i f).length=518:=by simp [dr,hix]
theorem lJ (hix:ix.length=512){q j:Nat}(hq:q=513+j:=by exact rfl):(dr s ix tot p c i f)[q]?=[.int .i64 tot,p,c,i,f][j]?:=by
 subst hq;unfold dr;rw [show 513+j=(512+j)+1 by omega,List.getElem?_cons_succ,List.getElem?_append_right a5,hix,Nat.add_sub_cancel_left]
theorem ziC (hix:ix.length=512){q j:Nat}(hj:j<512)(hq:q=1+j):(dr s ix tot p c i f)[q]?=ix[j]?:=by
 subst hq;unfold dr;rw [show 1+j=j+1 by omega,List.getElem?_cons_succ,List.getElem?_append_left a5]
theorem ziG (hix:ix.length=512){q j:Nat}{v:Value}(hj:j<512)(hq:q=1+j):(dr s ix tot p c i f).set q v=dr s (ix.set j v) tot p c i f:=by
 subst hq;unfold dr;rw [show 1+j=j+1 by omega,List.set_cons_succ,List.set_append_left _ _ a5]
theorem zhR (hix:ix.length=512){q:Nat}{t:Int}(hq:q=513):(dr s ix tot p c i f).set q (.int .i64 t)=dr s ix t p c i f:=by
 subst hq;unfold dr;rw [show 513=512+1 from rfl,List.set_cons_succ,List.set_append_right _ _ a5,hix]
 rfl
end
def d9 (ds:List Dx):Nat→Nat→Int
 |0=>fun _=>0
 |k+1=>fun j=>if j=(cQ ds k).st.toNat then (k:Int)+1 else d9 ds k j
def gH (ds:List Dx):Nat→Int
 |0=>0
 |k+1=>gH ds k+((cQ ds k).chs.length:Int)
def upd {α:Type}(f:Nat→α)(a:Nat)(x:α):Nat→α:=fun j=>if j=a then x else f j
def df {α:Type}(e:TypeId)(size n:Nat)(vv:Nat→Value)(enc:α→List Value)(f:Nat→List α):HS:=(List.range n).map fun j=> .sl (vv j) e size (f j).length ((f j).flatMap enc)
theorem zcO {α:Type}{e:TypeId}{size n:Nat}{vv:Nat→Value}{enc:α→List Value}{f:Nat→List α}:(df e size n vv enc f).length=n:=by simp [df]
theorem zeH {α:Type}{e:TypeId}{size n:Nat}{vv:Nat→Value}{enc:α→List Value}{f:Nat→List α}{a:Nat}(h:a<n):(df e size n vv enc f)[a]?=some (.sl (vv a) e size (f a).length ((f a).flatMap enc)):=by simp [df,h]
theorem zcQ {α:Type}{e:TypeId}{size n:Nat}{vv:Nat→Value}{enc:α→List Value}{f:Nat→List α}{a:Nat}{v:Value}{x:α}(h:a<n):(df e size n vv enc f).set a (.sl v e size ((f a).length+1) ((f a).flatMap enc++enc x))=df e size n (upd vv a v) enc (upd f a (f a++[x])):=by
 apply List.ext_getElem?;intro j;unfold df;by_cases hj:j=a
 ·subst hj;rw [List.getElem?_set_self (by simpa using h)];simp [h,upd]
 ·rw [List.getElem?_set_ne (fun e=>hj e.symm)];simp only [List.getElem?_map,List.getElem?_range,upd,if_neg hj];by_cases h52:j<n
  ·simp [h52,hj]
  ·simp [h52]
theorem zdB {n:Nat}{vv:Nat→Value}{a q:Nat}{v:Value}(hq:q=a)(h:a<n):((List.range n).map vv).set q v=(List.range n).map (upd vv a v):=by
 subst hq;apply List.ext_getElem?;intro j;by_cases hj:j=q
 ·subst hj;rw [List.getElem?_set_self (by simpa using h)];simp [h,upd]
 ·rw [List.getElem?_set_ne (fun e=>hj e.symm)];simp only [List.getElem?_map,List.getElem?_range];by_cases h52:j<n
  ·simp [h52,upd,hj]
  ·simp [h52]
theorem zgy {n:Nat}{vv:Nat→Value}{a q:Nat}(hq:q=a)(h:a<n):((List.range n).map vv)[q]?=some (vv a):=by subst hq;simp [h]
theorem zlU (f:Nat→Value)(z:Value)(n:Nat):fM f z n 0=(List.range n).map fun _=>z:=by
 unfold fM;apply List.ext_getElem?;intro j;by_cases h:j<n
 ·simp [h,List.getElem?_replicate]
 ·simp [h,List.getElem?_replicate]
theorem fillT (g1 g3 g5 g7 g9 n:Nat):Fill (zgC Tryz.prog 215) ([.slice none 0 0]++List.replicate 513 (.int .i64 0)++List.replicate 4 (.slice none 0 0)) [(0,sV g1 n),(3,sV g3 n),(4,sV g5 n),(5,sV g7 n),(6,sV g9 n)] (dr (sV g1 n) (gk 512 fun _=>0) 0 (sV g3 n) (sV g5 n) (sV g7 n) (sV g9 n)):=⟨by kernel_rfl⟩
structure Pb.Good (P:Pb):Prop where
 n:P.ds.length≤512
 st:∀d∈P.ds,0≤d.st∧d.st≤511
 chs:∀d∈P.ds,d.chs.length≤52∧∀c∈d.chs,2≤c∧c≤51
 inc:∀i j,i<j→j<P.ds.length→(cQ P.ds i).st<(cQ P.ds j).st
 ps:∀x∈P.ps,x.ok=true∧(∃i,i<P.ds.length∧x.a=(cQ P.ds i).st)∧∃i,i<P.ds.length∧x.b=(cQ P.ds i).st
 ls:∀x∈P.ls,x.ok=true∧(∃i,i<P.ds.length∧x.to=(cQ P.ds i).st)∧∃i,i<P.ds.length∧x.fr=(cQ P.ds i).st
 cs:∀x∈P.cs,x.ok=true∧∃i,i<P.ds.length∧x.st=(cQ P.ds i).st
 lps:P.ps.length≤4096
 lls:P.ls.length≤1024
 lcs:P.cs.length≤1024
theorem znP {xs:List Dx}(h:f9 (fun a b:Dx=>ej a.st b.st) xs=true):∀i j,i<j→j<xs.length→(cQ xs i).st<(cQ xs j).st:=by
 intro i j hij
 induction j with
 |zero=>omega
 |succ j ih=>
  intro hj;have h1:=kn.1 (kE.1 h j hj);rcases Nat.lt_or_ge i j with h2|h2
  ·have:=ih h2 a5;omega
  ·rw [show i=j by omega];exact h1
theorem Pb.good {P:Pb}(h:P.ok=true):P.Good:=by
 simp only [Pb.ok,Pb.rulesOk,Bool.and_eq_true,decide_eq_true_eq] at h;obtain ⟨h1,⟨h2,h3,h4,h5,h6,h7,h8,h9,h10⟩,h11,h12,h13,h14⟩:=h
 have hst:∀d∈P.ds,0≤d.st∧d.st≤511:=fun d hd=>by
  have:=eA.1 h1 d hd;simp only [Dx.ok,inB,Bool.and_eq_true,decide_eq_true_eq] at this;exact this.1
 have hmem:∀x,P.has x=true→∃i,i<P.ds.length∧x=(cQ P.ds i).st:=fun x hx=>by
  unfold Pb.has at hx;have:=(zlc (P.ds.map fun d:Dx=>d.st) (fun y hy=>by obtain ⟨d,hd,rfl⟩:=List.mem_map.1 hy;exact hst d hd) x).1 hx;obtain ⟨d,hd,rfl⟩:=List.mem_map.1 this;obtain ⟨i,hi,rfl⟩:=List.mem_iff_getElem.1 hd;exact ⟨i,hi,by rw [eh hi]⟩
 refine ⟨zkl h11 h1,hst,fun d hd=>?_,znP h11,fun x hx=>?_,fun x hx=>?_,fun x hx=>?_,by omega,by omega,by omega⟩
 ·have:=eA.1 h1 d hd;simp only [Dx.ok,inB,Bool.and_eq_true,decide_eq_true_eq] at this
  have hr:∀c∈d.chs,2≤c∧c≤51:=fun c hc=>by
   have:=eA.1 this.2.1 c hc;simp only [Bool.and_eq_true,decide_eq_true_eq] at this;exact this
  refine ⟨?_,hr⟩;rcases Nat.lt_or_ge 52 d.chs.length with hl|hl
  ·have h1:=zkZ (f:=fun c:Int=>c) this.2.2 (fun c hc=>by have:=hr c hc;omega) 52 hl;have h2:=hr _ (i0 hl);omega
  ·exact hl
 ·have:=eA.1 h12 x hx;simp only [Bool.and_eq_true] at this;exact ⟨eA.1 h3 x hx,hmem _ this.1,hmem _ this.2⟩
 ·have:=eA.1 h13 x hx;simp only [Bool.and_eq_true] at this;exact ⟨eA.1 h6 x hx,hmem _ this.1,hmem _ this.2⟩
 ·exact ⟨eA.1 h9 x hx,hmem _ (eA.1 h14 x hx)⟩
theorem zn6 {P:Pb}(h:P.Good){i:Nat}:∀k,k≤P.ds.length→i<k→d9 P.ds k (cQ P.ds i).st.toNat=(i:Int)+1
 |0,_,hi=>by omega
 |k+1,hk,hi=>by
  show (if (cQ P.ds i).st.toNat=(cQ P.ds k).st.toNat then (k:Int)+1 else d9 P.ds k (cQ P.ds i).st.toNat)=(i:Int)+1
  have h1:=h.st _ (i0 (show i<P.ds.length by omega));by_cases he:i=k
  ·subst he;rw [if_pos rfl]
  ·have:=h.inc i k a5 a5;rw [if_neg a5];exact zn6 h k a5 a5
def Pb.ix (P:Pb)(s:Int):Int:=d9 P.ds P.ds.length s.toNat - 1
theorem eV {P:Pb}(h:P.Good){i:Nat}(hi:i<P.ds.length):P.ix (cQ P.ds i).st=(i:Int):=by
 unfold Pb.ix;rw [zn6 h _ (Nat.le_refl _) hi];omega
theorem zmy {P:Pb}(h:P.Good):∀k,k≤P.ds.length→0≤gH P.ds k∧gH P.ds k≤52* (k:Int)
 |0,_=>by simp [gH]
 |k+1,hk=>by
  have h1:=zmy h k a5;have h2:=(h.chs _ (i0 (show k<P.ds.length by omega))).1;rw [gH];omega
def Pb.rp (P:Pb)(x:Pr):Pr:={ x with a:=P.ix x.a,b:=P.ix x.b }
def Pb.rl (P:Pb)(x:Ld):Ld:={ x with to:=P.ix x.to,fr:=P.ix x.fr }
def Pb.rc (P:Pb)(x:Cp):Cp:={ x with st:=P.ix x.st }
def Pb.psA (P:Pb)(k j:Nat):List Pr:=((P.ps.take k).map P.rp).filter fun x=>decide (x.a=(j:Int))||decide (x.b=(j:Int))
def Pb.inA (P:Pb)(k j:Nat):List Ld:=((P.ls.take k).map P.rl).filter fun x=>decide (x.to=(j:Int))
def Pb.ouA (P:Pb)(k j:Nat):List Ld:=((P.ls.take k).map P.rl).filter fun x=>decide (x.fr=(j:Int))
def Pb.csA (P:Pb)(k j:Nat):List Cp:=((P.cs.take k).map P.rc).filter fun x=>decide (x.st=(j:Int))
theorem zif {α β:Type}[Inhabited α]{l:List α}{r:α→β}{q:β→Bool}{k:Nat}(h:k<l.length):((l.take (k+1)).map r).filter q=((l.take k).map r).filter q++(if q (r (cQ l k)) then [r (cQ l k)] else []):=by
 rw [List.take_succ_eq_append_getElem h,eh h,List.map_append,List.filter_append]
 congr 1
 simp only [List.map_cons,List.map_nil,List.filter_cons,List.filter_nil]
theorem zc2 {α β:Type}{l:List α}{r:α→β}{q:β→Bool}{k:Nat}:(((l.take k).map r).filter q).length≤l.length:=by
 refine Nat.le_trans (List.length_filter_le _ _) ?_;rw [List.length_map,List.length_take];omega
theorem zjp {P:Pb}{k:Nat}(h:k<P.ps.length){a b:Nat}(ha:P.ix (cQ P.ps k).a=(a:Int))(hb:P.ix (cQ P.ps k).b=(b:Int))(hab:a≠b):upd (upd (P.psA k) a (P.psA k a++[P.rp (cQ P.ps k)])) b (upd (P.psA k) a (P.psA k a++[P.rp (cQ P.ps k)]) b++[P.rp (cQ P.ps k)])=P.psA (k+1):=by
 funext j
 have e:P.psA (k+1) j=P.psA k j++(if (decide ((P.rp (cQ P.ps k)).a=(j:Int))||decide ((P.rp (cQ P.ps k)).b=(j:Int)))=true then [P.rp (cQ P.ps k)] else []):=zif h;rw [e];have e1:(P.rp (cQ P.ps k)).a=(a:Int):=ha;have e2:(P.rp (cQ P.ps k)).b=(b:Int):=hb;rw [e1,e2];unfold upd;by_cases hjb:j=b
 ·subst hjb;rw [if_pos rfl,if_neg (fun h=>hab h.symm),if_pos a8]
 ·by_cases hja:j=a
  ·subst hja;rw [if_neg hjb,if_pos rfl,if_pos a8]
  ·rw [if_neg hjb,if_neg hja,if_neg cN,List.append_nil]
theorem zhS {α β:Type}[Inhabited α]{l:List α}{r:α→β}{f:β→Int}{k a:Nat}(h:k<l.length)(ha:f (r (cQ l k))=(a:Int)):upd (fun j:Nat=>((l.take k).map r).filter fun x=>decide (f x=(j:Int))) a (((l.take k).map r).filter (fun x=>decide (f x=(a:Int)))++[r (cQ l k)])=fun j:Nat=>((l.take (k+1)).map r).filter fun x=>decide (f x=(j:Int)):=by
 funext j
 rw [zif h,ha];unfold upd;by_cases hj:j=a
 ·subst hj;rw [if_pos rfl,if_pos a8]
 ·rw [if_neg hj,if_neg cN,List.append_nil]
end Go.Proofs.YtogbggmckmnlfaaGreatDoor
