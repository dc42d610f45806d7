/- G2 H1 Pn H2 J1 J2: shortened and put together by squeeze.py. -/
import Derived.Test.YtbpkdjionfhohaaDoorQ04
set_option maxRecDepth 100000
set_option maxHeartbeats 4000000
set_option linter.unusedVariables false
set_option linter.unusedSectionVars false
set_option linter.unusedSimpArgs false
namespace Go.Proofs.YtbpkdjionfhohaaDoor
open Go.RowKit
theorem zdg {L:Ws}{i d:Nat}{l:List Ld}{k:Nat}(h:k<l.length):zb8 L i d (l.take (k+1))=zaZ L i d (zb8 L i d (l.take k)) (nth l k):=zan _ _ h
theorem zga (sp:Nat)(Y:Tb)(L:Ws)(c:Bool)(i:Nat)(z:Int)(hz:z=(i:Int))(hi:i<Y.n)(w:World)(h:StateAt w sp Y L c)(hok:Y.Ok):Calls Tryd.prog 62 #[.pointer (some ⟨sp,0,none⟩), .int .i64 z] w fun e w'=>e= .returned (U (zb9 Y L i))∧Below w.heap.size w w':=by
 subst hz;obtain ⟨tp,hsp0,hT⟩:=h.tb;obtain ⟨vL,hsp1,hL⟩:=h.left;obtain ⟨AL,capL,rfl,hLs⟩:=hL.op;have hLn:=h.len;obtain ⟨vO,hO0,hO⟩:=hT.out.at';obtain ⟨AO,capO,rfl,hOs⟩:=hO.op;have hOn:=hT.out.len;obtain ⟨gO,oO,rfl,hOc⟩:=hOs (by omega);rw [hOn] at hO0;have hOi:=hOc i (by rw [hOn];exact hi);obtain ⟨BO,cpO,hvO,hslO⟩:=(hT.out.each i hi).op;simp only [hvO] at hOi;obtain ⟨vI,hI0,hI⟩:=hT.inn.at';obtain ⟨AI,capI,rfl,hIs⟩:=hI.op;have hIn:=hT.inn.len;obtain ⟨gI,oI,rfl,hIc⟩:=hIs (by omega);rw [hIn] at hI0;obtain ⟨vC,hC0,hC⟩:=hT.cs.at';obtain ⟨AC,capC,rfl,hCs⟩:=hC.op;have hCn:=hT.cs.len;obtain ⟨gC,oC,rfl,hCc⟩:=hCs (by omega);rw [hCn] at hC0;obtain ⟨hlen,hrng⟩:=hok.out i hi;have hn512:=hok.n;refine zaa (M:=fun _=>False) (hs:=[]) Tryd.func62 rfl rfl rfl (Hp.refl _ _) ?_;refine T.sr ?_;refine TL.run 1 rfl ?_;refine TL.nx ?_;refine TL.run 1 rfl ?_;refine TL.ns (T.seq (T.sr ?_));refine TL.run 2 rfl ?_;refine TL.y (Yv.fieldAddr rfl rfl) ?_;refine TL.y (Yv.ar rfl rfl hsp0 (fun h=>h)) ?_;refine TL.run 1 rfl ?_;refine TL.y (Yv.fieldAddr rfl rfl) ?_;refine TL.y (Yv.ar rfl rfl hO0 (fun h=>h)) ?_;refine TL.run 1 rfl ?_;refine TL.y (Yv.ag rfl rfl rfl rfl (by omega)) ?_;refine TL.y (Yv.loadC (j:=0) rfl rfl hOi rfl rfl (fun h=>h)) ?_;refine TL.y (Yv.aq rfl rfl) ?_;refine TL.run 1 rfl ?_;refine TL.ns (T.block ?_);refine T.loop (ι:=Nat) (fun k=>[(0, .pointer (some ⟨sp,0,none⟩)),(1, .int .i64 (i:Int)),(23, .slice BO (Y.out i).length cpO),(24, .int .i64 ((Y.out i).length:Int)),(25, .int .i64 (k:Int)),(5,U (((Y.out i).take k).foldl (za5 Y L i) 0#64))]) (fun k=>[]) (fun k=>k≤(Y.out i).length) (fun k=>(Y.out i).length - k) 0 ?_ ?_ ?_ ?_
 ·omega
 ·exact (by repeat (first|exact Sub.nil|refine Sub.cons rfl ?_))
 ·exact Sx
 ·intro k hphi;refine T.sr ?_;refine TL.run 1 rfl ?_;refine TL.ns (T.seq ?_);refine T.cond rfl (fun h1=>?_) (fun h1=>?_)
  ·have p1:=h1; (try simp only [nfB] at p1);obtain ⟨g,off,rfl,hc⟩:=hslO (by omega);have hk:=hc k (by omega);simp only [Ld.cells] at hk;have hr:=hrng _ (zaI (xs:=Y.out i) (k:=k) (by omega));have oa:=zeT L (nth (Y.out i) k).to.toNat; (have htn:(nth (Y.out i) k).to.toNat<Y.n:=by omega);obtain ⟨hlenI,hrngI⟩:=hok.inn _ htn;obtain ⟨hlenC,hrngC⟩:=hok.cs _ htn; (have hwt:∀x∈Y.inn (nth (Y.out i) k).to.toNat,1≤x.wt∧x.wt≤1073741824:=fun x hx=>by have:=hrngI x hx;omega);have hIi:=hIc (nth (Y.out i) k).to.toNat (by rw [hIn];exact htn);obtain ⟨BI,cpI,hvI,hslI⟩:=(hT.inn.each (nth (Y.out i) k).to.toNat htn).op;simp only [hvI] at hIi;have hCi:=hCc (nth (Y.out i) k).to.toNat (by rw [hCn];exact htn);obtain ⟨BC,cpC,hvC,hslC⟩:=(hT.cs.each (nth (Y.out i) k).to.toNat htn).op;simp only [hvC] at hCi;refine T.skip (K.seq ?_);refine T.cut (gs:=[(0, .pointer (some ⟨sp,0,none⟩)),(1, .int .i64 (i:Int)),(23, .slice (some ⟨g,off,none⟩) (Y.out i).length cpO),(24, .int .i64 ((Y.out i).length:Int)),(25, .int .i64 (k:Int)),(5,U (((Y.out i).take (k+1)).foldl (za5 Y L i) 0#64))]) (hs':=[]) ?_ ?_
   ·skip;refine T.block (T.sr ?_);refine TL.y (Yv.ag rfl rfl rfl rfl (by omega)) ?_;refine TL.y (Yv.av rfl rfl hk rfl (fun h=>h)) ?_; (refine TL.ew (Wt.none rfl) rfl rfl (Ew.alloc rfl) ?_;rintro _ _ ⟨g7,rfl,rfl⟩); (refine TL.ax (Wt.none rfl) rfl (Ew.aj 0 rfl rfl rfl rfl rfl rfl) ?_;rintro _ _ ⟨rfl,rfl⟩);refine TL.nx ?_;refine TL.run 1 rfl ?_;refine TL.y (Yv.fieldAddr rfl rfl) ?_;refine TL.y (Yv.ac 0 rfl rfl rfl rfl) ?_; (refine TL.ew (Wt.none rfl) rfl rfl (Ew.af rfl rfl rfl (fun w hw=>zbU sp Y L c ((nth (Y.out i) k).to.toNat) _ (by omega) (by omega) w (h.kept hw))) ?_;rintro _ _ ⟨rfl,rfl⟩);refine TL.run 1 rfl ?_;refine TL.ns (T.seq (T.sr ?_));refine TL.run 1 rfl ?_;refine TL.y (Yv.fieldAddr rfl rfl) ?_;refine TL.y (Yv.ac 0 rfl rfl rfl rfl) ?_;refine TL.run 2 rfl ?_;refine TL.ak rfl rfl rfl (fun h2=>?_) (fun h2=>?_)
    ·have p2:=h2; (try simp only [nfB] at p2);refine TL.off (Wt.not rfl rfl rfl h2) rfl rfl ?_;refine TL.off (Wt.not rfl rfl rfl h2) rfl rfl ?_;refine TL.off (Wt.not rfl rfl rfl h2) rfl rfl ?_;refine TL.off (Wt.not rfl rfl rfl h2) rfl rfl ?_;refine TL.y (Yv.am rfl rfl h2 rfl) ?_;refine TL.run 7 rfl ?_;refine TL.ns ?_;refine T.aC rfl rfl ?_;refine T.exit (K.ab (K.ae ?_)); (refine K.at ?_ Sx;rw [zan _ _ (by omega),za5,if_pos (.inl (by omega))];exact (by repeat (first|exact Sub.nil|refine Sub.cons rfl ?_)))
    ·have p2:=h2; (try simp only [nfB] at p2);refine TL.yv (Wt.some rfl rfl rfl h2) rfl rfl (Yv.au rfl) ?_;refine TL.yv (Wt.some rfl rfl rfl h2) rfl rfl (Yv.fieldAddr rfl rfl) ?_;refine TL.yv (Wt.some rfl rfl rfl h2) rfl rfl (Yv.ac 0 rfl rfl rfl rfl) ?_;refine TL.yv (Wt.some rfl rfl rfl h2) rfl rfl (Yv.au rfl) ?_;refine TL.y (Yv.an rfl rfl h2 rfl) ?_;refine TL.run 1 rfl ?_;refine TL.ak rfl rfl rfl (fun h3=>?_) (fun h3=>?_)
     ·have p3:=h3; (try simp only [nfB] at p3);refine TL.off (Wt.not rfl rfl rfl h3) rfl rfl ?_;refine TL.off (Wt.not rfl rfl rfl h3) rfl rfl ?_;refine TL.off (Wt.not rfl rfl rfl h3) rfl rfl ?_;refine TL.off (Wt.not rfl rfl rfl h3) rfl rfl ?_;refine TL.off (Wt.not rfl rfl rfl h3) rfl rfl ?_;refine TL.y (Yv.am rfl rfl h3 rfl) ?_;refine TL.ns ?_;refine T.aC rfl rfl ?_;refine T.exit (K.ab (K.ae ?_)); (refine K.at ?_ Sx;rw [zan _ _ (by omega),za5,if_pos (.inl (by omega))];exact (by repeat (first|exact Sub.nil|refine Sub.cons rfl ?_)))
     ·have p3:=h3; (try simp only [nfB] at p3);refine TL.yv (Wt.some rfl rfl rfl h3) rfl rfl (Yv.au rfl) ?_;refine TL.yv (Wt.some rfl rfl rfl h3) rfl rfl (Yv.au rfl) ?_;refine TL.yv (Wt.some rfl rfl rfl h3) rfl rfl (Yv.aY (only L (nth (Y.out i) k).to.toNat) rfl rfl rfl rfl (by omega)) ?_;refine TL.yv (Wt.some rfl rfl rfl h3) rfl rfl (Yv.aV (b:=1#64) rfl rfl rfl) ?_;refine TL.yv (Wt.some rfl rfl rfl h3) rfl rfl (Yv.au rfl) ?_;refine TL.y (Yv.an rfl rfl h3 rfl) ?_;refine TL.ns ?_;refine T.cond rfl (fun h4=>?_) (fun h4=>?_)
      ·have p4:=h4; (try simp only [nfB] at p4); (have hbit:((((Y.out i).take k).foldl (za5 Y L i) 0#64)).getLsbD (only L (nth (Y.out i) k).to.toNat)=true:=by rw [←ze1];exact decide_eq_true (by assumption));refine T.exit (K.ab (K.ae ?_)); (have hb:=hbit;refine K.at ?_ Sx;rw [zan _ _ (by omega),za5,if_pos (.inr hb)];exact (by repeat (first|exact Sub.nil|refine Sub.cons rfl ?_)))
      ·have p4:=h4; (try simp only [nfB] at p4); (have hno:¬(((only L (nth (Y.out i) k).to.toNat:Int)<(nth (Y.out i) k).lo∨(nth (Y.out i) k).hi<(only L (nth (Y.out i) k).to.toNat:Int))∨((((Y.out i).take k).foldl (za5 Y L i) 0#64)).getLsbD (only L (nth (Y.out i) k).to.toNat)=true):=by rintro ((hh|hh)|hh);omega;omega;rw [←ze1] at hh;exact absurd (of_decide_eq_true hh) (by assumption));refine T.skip (K.seq (T.sr ?_));refine TL.run 1 rfl ?_;refine TL.ns ?_;refine T.cut (gs:=[(0, .pointer (some ⟨sp,0,none⟩)),(1, .int .i64 (i:Int)),(23, .slice (some ⟨g,off,none⟩) (Y.out i).length cpO),(24, .int .i64 ((Y.out i).length:Int)),(25, .int .i64 (k:Int)),(7, .pointer (some ⟨g7,0,none⟩)),(8, .int .i64 (only L (nth (Y.out i) k).to.toNat:Int)),(5,U (((Y.out i).take k).foldl (za5 Y L i) 0#64)),(9, .int .i64 (zb8 L i (only L (nth (Y.out i) k).to.toNat) (Y.inn (nth (Y.out i) k).to.toNat)))]) (hs':=[.row g7 118 [.int .i64 (nth (Y.out i) k).to, .int .i64 (nth (Y.out i) k).fr, .int .i64 (nth (Y.out i) k).wt, .int .i64 (nth (Y.out i) k).lo, .int .i64 (nth (Y.out i) k).hi]]) ?_ ?_
       ·skip;refine T.seq ?_;refine T.ay (.still 0 (.still 1 (.still 2 (.still 3 (.still 4 (.still 5 (.still 6 (.still 7 (.still 8 (.still 9 (.still 10 (.still 11 (.still 12 .done))))))))))))) _ (by kernel_rfl) (List.Sublist.refl _) ?_;refine TS.run 2 rfl ?_;refine TS.y rfl (Yv.fieldAddr rfl rfl) ?_;refine TS.y rfl (Yv.ar rfl rfl hsp0 (fun h=>h)) ?_;refine TS.run 1 rfl ?_;refine TS.y rfl (Yv.fieldAddr rfl rfl) ?_;refine TS.y rfl (Yv.ar rfl rfl hI0 (fun h=>h)) ?_;refine TS.y rfl (Yv.fieldAddr rfl rfl) ?_;refine TS.y rfl (Yv.ac 0 rfl rfl rfl rfl) ?_;refine TS.y rfl (Yv.ag rfl rfl rfl (show (nth (Y.out i) k).to=(((nth (Y.out i) k).to.toNat:Nat):Int) from by omega) (by omega)) ?_;refine TS.y rfl (Yv.loadC (j:=0) rfl rfl hIi rfl rfl (fun h=>h)) ?_;refine TS.y rfl (Yv.aq rfl rfl) ?_;refine TS.run 1 rfl ?_;refine TS.done ?_;refine K.seq (T.block ?_);refine T.loop (ι:=Nat) (fun j=>[(0, .pointer (some ⟨sp,0,none⟩)),(1, .int .i64 (i:Int)),(23, .slice (some ⟨g,off,none⟩) (Y.out i).length cpO),(24, .int .i64 ((Y.out i).length:Int)),(25, .int .i64 (k:Int)),(7, .pointer (some ⟨g7,0,none⟩)),(8, .int .i64 (only L (nth (Y.out i) k).to.toNat:Int)),(5,U (((Y.out i).take k).foldl (za5 Y L i) 0#64)),(9, .int .i64 (zb8 L i (only L (nth (Y.out i) k).to.toNat) ((Y.inn (nth (Y.out i) k).to.toNat).take j))),(60, .slice BI (Y.inn (nth (Y.out i) k).to.toNat).length cpI),(61, .int .i64 ((Y.inn (nth (Y.out i) k).to.toNat).length:Int)),(62, .int .i64 (j:Int))]) (fun j=>[.row g7 118 [.int .i64 (nth (Y.out i) k).to, .int .i64 (nth (Y.out i) k).fr, .int .i64 (nth (Y.out i) k).wt, .int .i64 (nth (Y.out i) k).lo, .int .i64 (nth (Y.out i) k).hi]]) (fun j=>j≤(Y.inn (nth (Y.out i) k).to.toNat).length) (fun j=>(Y.inn (nth (Y.out i) k).to.toNat).length - j) 0 ?_ ?_ ?_ ?_
        ·omega
        ·exact (by repeat (first|exact Sub.nil|refine Sub.cons rfl ?_))
        ·exact Sx
        ·intro j hphi;refine T.sr ?_;refine TL.run 1 rfl ?_;refine TL.ns (T.seq ?_);refine T.cond rfl (fun h5=>?_) (fun h5=>?_)
         ·have p5:=h5; (try simp only [nfB] at p5);obtain ⟨gi,offi,rfl,hci⟩:=hslI (by omega);have hj:=hci j (by omega);simp only [Ld.cells] at hj;have hri:=hrngI _ (zaI (xs:=Y.inn (nth (Y.out i) k).to.toNat) (k:=j) (by omega));have hbd:=zks (L:=L) (i:=i) (d:=only L (nth (Y.out i) k).to.toNat) hlenI hwt j;refine T.skip (K.seq (T.seq (T.block (T.sr ?_))));refine TL.y (Yv.ag rfl rfl rfl rfl (by omega)) ?_;refine TL.y (Yv.av rfl rfl hj rfl (fun h=>h)) ?_; (refine TL.ew (Wt.none rfl) rfl rfl (Ew.alloc rfl) ?_;rintro _ _ ⟨g11,rfl,rfl⟩); (refine TL.ax (Wt.none rfl) rfl (Ew.aj 0 rfl rfl rfl rfl rfl rfl) ?_;rintro _ _ ⟨rfl,rfl⟩);refine TL.nx ?_;refine TL.y (Yv.fieldAddr rfl rfl) ?_;refine TL.y (Yv.ac 0 rfl rfl rfl rfl) ?_;refine TL.run 3 rfl ?_;refine TL.ak rfl rfl rfl (fun h6=>?_) (fun h6=>?_)
          ·have p6:=h6; (try simp only [nfB] at p6);refine TL.yv (Wt.some rfl rfl rfl h6) rfl rfl (Yv.au rfl) ?_;refine TL.yv (Wt.some rfl rfl rfl h6) rfl rfl (Yv.fieldAddr rfl rfl) ?_;refine TL.yv (Wt.some rfl rfl rfl h6) rfl rfl (Yv.ac 0 rfl rfl rfl rfl) ?_;refine TL.yv (Wt.some rfl rfl rfl h6) rfl rfl (Yv.au rfl) ?_;refine TL.y (Yv.am rfl rfl h6 rfl) ?_;refine TL.run 1 rfl ?_;refine TL.ak rfl rfl rfl (fun h7=>?_) (fun h7=>?_)
           ·have p7:=h7; (try simp only [nfB] at p7);refine TL.yv (Wt.some rfl rfl rfl h7) rfl rfl (Yv.fieldAddr rfl rfl) ?_;refine TL.yv (Wt.some rfl rfl rfl h7) rfl rfl (Yv.ac 0 rfl rfl rfl rfl) ?_;refine TL.yv (Wt.some rfl rfl rfl h7) rfl rfl (Yv.au rfl) ?_;refine TL.yv (Wt.some rfl rfl rfl h7) rfl rfl (Yv.au rfl) ?_;refine TL.yv (Wt.some rfl rfl rfl h7) rfl rfl (Yv.au rfl) ?_;refine TL.ak rfl rfl rfl (fun h8=>?_) (fun h8=>?_)
            ·have p8:=h8; (try simp only [nfB] at p8);refine TL.off (Wt.not rfl rfl rfl h8) rfl rfl ?_;refine TL.off (Wt.not rfl rfl rfl h8) rfl rfl ?_;refine TL.off (Wt.not rfl rfl rfl h8) rfl rfl ?_;refine TL.off (Wt.not rfl rfl rfl h8) rfl rfl ?_;refine TL.off (Wt.not rfl rfl rfl h8) rfl rfl ?_;refine TL.off (Wt.not rfl rfl rfl h8) rfl rfl ?_;refine TL.yv (Wt.some rfl rfl rfl h7) rfl rfl (Yv.am rfl rfl h8 rfl) ?_;refine TL.y (Yv.am rfl rfl h7 rfl) ?_;refine TL.ns ?_;refine T.aC rfl rfl ?_;refine T.region ?_;refine TL.run 1 rfl ?_;refine TL.y (Yv.fieldAddr rfl rfl) ?_;refine TL.y (Yv.ac 0 rfl rfl rfl rfl) ?_;refine TL.y (Yv.al rfl rfl rfl (by omega)) ?_;refine TL.run 1 rfl ?_;refine TL.nil (K.ad (K.seq (T.region ?_)));refine TL.y (Yv.al rfl rfl rfl (by omega)) ?_;refine TL.run 1 rfl ?_;refine TL.nil ?_;exact K.next (j+1) (by omega) (by omega) (by rw [zdg (by omega),zaZ];split <;> first|(exfalso;omega)|exact (by repeat (first|exact Sub.nil|refine Sub.cons rfl ?_))) Sx
            ·have p8:=h8; (try simp only [nfB] at p8);refine TL.yv (Wt.some rfl rfl rfl h8) rfl rfl (Yv.au rfl) ?_;refine TL.yv (Wt.some rfl rfl rfl h8) rfl rfl (Yv.fieldAddr rfl rfl) ?_;refine TL.yv (Wt.some rfl rfl rfl h8) rfl rfl (Yv.ac 0 rfl rfl rfl rfl) ?_; (refine TL.ew (Wt.some rfl rfl rfl h8) rfl rfl (Ew.af rfl rfl rfl (fun w hw=>zbU sp Y L c (nth (Y.inn (nth (Y.out i) k).to.toNat) j).fr.toNat _ (by omega) (by omega) w (h.kept hw))) ?_;rintro _ _ ⟨rfl,rfl⟩);refine TL.yv (Wt.some rfl rfl rfl h8) rfl rfl (Yv.au rfl) ?_;refine TL.yv (Wt.some rfl rfl rfl h8) rfl rfl (Yv.au rfl) ?_;refine TL.yv (Wt.some rfl rfl rfl h7) rfl rfl (Yv.an rfl rfl h8 rfl) ?_;refine TL.y (Yv.am rfl rfl h7 rfl) ?_;refine TL.ns ?_;refine T.cond rfl (fun h9=>?_) (fun h9=>?_)
             ·have p9:=h9; (try simp only [nfB] at p9);refine T.region ?_;refine TL.run 1 rfl ?_;refine TL.y (Yv.fieldAddr rfl rfl) ?_;refine TL.y (Yv.ac 0 rfl rfl rfl rfl) ?_;refine TL.y (Yv.al rfl rfl rfl (by omega)) ?_;refine TL.run 1 rfl ?_;refine TL.nil (K.ad (K.seq (T.region ?_)));refine TL.y (Yv.al rfl rfl rfl (by omega)) ?_;refine TL.run 1 rfl ?_;refine TL.nil ?_;exact K.next (j+1) (by omega) (by omega) (by rw [zdg (by omega),zaZ];split <;> first|(exfalso;omega)|exact (by repeat (first|exact Sub.nil|refine Sub.cons rfl ?_))) Sx
             ·have p9:=h9; (try simp only [nfB] at p9);refine T.skip (K.ad (K.seq (T.region ?_)));refine TL.y (Yv.al rfl rfl rfl (by omega)) ?_;refine TL.run 1 rfl ?_;refine TL.nil ?_;exact K.next (j+1) (by omega) (by omega) (by rw [zdg (by omega),zaZ];split <;> first|(exfalso;omega)|exact (by repeat (first|exact Sub.nil|refine Sub.cons rfl ?_))) Sx
           ·have p7:=h7; (try simp only [nfB] at p7);refine TL.off (Wt.not rfl rfl rfl h7) rfl rfl ?_;refine TL.off (Wt.not rfl rfl rfl h7) rfl rfl ?_;refine TL.off (Wt.not rfl rfl rfl h7) rfl rfl ?_;refine TL.off (Wt.not rfl rfl rfl h7) rfl rfl ?_;refine TL.off (Wt.not rfl rfl rfl h7) rfl rfl ?_;refine TL.off (Wt.undef rfl rfl rfl) rfl rfl ?_;refine TL.off (Wt.undef rfl rfl rfl) rfl rfl ?_;refine TL.off (Wt.undef rfl rfl rfl) rfl rfl ?_;refine TL.off (Wt.undef rfl rfl rfl) rfl rfl ?_;refine TL.off (Wt.undef rfl rfl rfl) rfl rfl ?_;refine TL.off (Wt.undef rfl rfl rfl) rfl rfl ?_;refine TL.off (Wt.not rfl rfl rfl h7) rfl rfl ?_;refine TL.y (Yv.an rfl rfl h7 rfl) ?_;refine TL.ns ?_;refine T.aE rfl rfl ?_;refine T.skip (K.ad (K.seq (T.region ?_)));refine TL.y (Yv.al rfl rfl rfl (by omega)) ?_;refine TL.run 1 rfl ?_;refine TL.nil ?_;exact K.next (j+1) (by omega) (by omega) (by rw [zdg (by omega),zaZ];split <;> first|(exfalso;omega)|exact (by repeat (first|exact Sub.nil|refine Sub.cons rfl ?_))) Sx
          ·have p6:=h6; (try simp only [nfB] at p6);refine TL.off (Wt.not rfl rfl rfl h6) rfl rfl ?_;refine TL.off (Wt.not rfl rfl rfl h6) rfl rfl ?_;refine TL.off (Wt.not rfl rfl rfl h6) rfl rfl ?_;refine TL.off (Wt.not rfl rfl rfl h6) rfl rfl ?_;refine TL.y (Yv.an rfl rfl h6 rfl) ?_;refine TL.run 6 rfl ?_;refine TL.off (Wt.undef rfl rfl rfl) rfl rfl ?_;refine TL.off (Wt.undef rfl rfl rfl) rfl rfl ?_;refine TL.off (Wt.undef rfl rfl rfl) rfl rfl ?_;refine TL.off (Wt.undef rfl rfl rfl) rfl rfl ?_;refine TL.off (Wt.undef rfl rfl rfl) rfl rfl ?_;refine TL.off (Wt.undef rfl rfl rfl) rfl rfl ?_;refine TL.run 2 rfl ?_;refine TL.ns ?_;refine T.aE rfl rfl ?_;refine T.skip (K.ad (K.seq (T.region ?_)));refine TL.y (Yv.al rfl rfl rfl (by omega)) ?_;refine TL.run 1 rfl ?_;refine TL.nil ?_;exact K.next (j+1) (by omega) (by omega) (by rw [zdg (by omega),zaZ];split <;> first|(exfalso;omega)|exact (by repeat (first|exact Sub.nil|refine Sub.cons rfl ?_))) Sx
         ·have p5:=h5; (try simp only [nfB] at p5);refine T.exit (K.ab (K.ab (K.ae ?_)));exact K.at (by rw [show (Y.inn (nth (Y.out i) k).to.toNat).take j=Y.inn (nth (Y.out i) k).to.toNat from List.take_of_length_le (by omega)] at *;exact (by repeat (first|exact Sub.nil|refine Sub.cons rfl ?_))) Sx
       ·skip;refine T.seq ?_;refine T.ay (.still 0 (.still 1 (.still 2 (.still 3 (.still 4 (.still 5 (.still 6 (.still 7 (.still 8 (.still 9 (.still 10 (.still 11 (.still 12 .done))))))))))))) _ (by kernel_rfl) (List.Sublist.refl _) ?_;refine TS.run 2 rfl ?_;refine TS.y rfl (Yv.fieldAddr rfl rfl) ?_;refine TS.y rfl (Yv.ar rfl rfl hsp0 (fun h=>h)) ?_;refine TS.run 1 rfl ?_;refine TS.y rfl (Yv.fieldAddr rfl rfl) ?_;refine TS.y rfl (Yv.ar rfl rfl hC0 (fun h=>h)) ?_;refine TS.y rfl (Yv.fieldAddr rfl rfl) ?_;refine TS.y rfl (Yv.ac 0 rfl rfl rfl rfl) ?_;refine TS.y rfl (Yv.ag rfl rfl rfl (show (nth (Y.out i) k).to=(((nth (Y.out i) k).to.toNat:Nat):Int) from by omega) (by omega)) ?_;refine TS.y rfl (Yv.loadC (j:=0) rfl rfl hCi rfl rfl (fun h=>h)) ?_;refine TS.y rfl (Yv.aq rfl rfl) ?_;refine TS.run 1 rfl ?_;refine TS.done ?_;refine K.seq (T.block ?_);refine T.loop (ι:=Nat) (fun j=>[(0, .pointer (some ⟨sp,0,none⟩)),(1, .int .i64 (i:Int)),(23, .slice (some ⟨g,off,none⟩) (Y.out i).length cpO),(24, .int .i64 ((Y.out i).length:Int)),(25, .int .i64 (k:Int)),(7, .pointer (some ⟨g7,0,none⟩)),(8, .int .i64 (only L (nth (Y.out i) k).to.toNat:Int)),(9, .int .i64 (zb8 L i (only L (nth (Y.out i) k).to.toNat) (Y.inn (nth (Y.out i) k).to.toNat))),(5,U (((Y.cs (nth (Y.out i) k).to.toNat).take j).foldl (zcv (zb8 L i (only L (nth (Y.out i) k).to.toNat) (Y.inn (nth (Y.out i) k).to.toNat)) (only L (nth (Y.out i) k).to.toNat)) (((Y.out i).take k).foldl (za5 Y L i) 0#64))),(105, .slice BC (Y.cs (nth (Y.out i) k).to.toNat).length cpC),(106, .int .i64 ((Y.cs (nth (Y.out i) k).to.toNat).length:Int)),(107, .int .i64 (j:Int))]) (fun j=>[.row g7 118 [.int .i64 (nth (Y.out i) k).to, .int .i64 (nth (Y.out i) k).fr, .int .i64 (nth (Y.out i) k).wt, .int .i64 (nth (Y.out i) k).lo, .int .i64 (nth (Y.out i) k).hi]]) (fun j=>j≤(Y.cs (nth (Y.out i) k).to.toNat).length) (fun j=>(Y.cs (nth (Y.out i) k).to.toNat).length - j) 0 ?_ ?_ ?_ ?_
        ·omega
        ·exact (by repeat (first|exact Sub.nil|refine Sub.cons rfl ?_))
        ·exact Sx
        ·intro j hphi;refine T.sr ?_;refine TL.run 1 rfl ?_;refine TL.ns (T.seq ?_);refine T.cond rfl (fun h10=>?_) (fun h10=>?_)
         ·have p10:=h10; (try simp only [nfB] at p10);obtain ⟨gc,offc,rfl,hcc⟩:=hslC (by omega);have hj:=hcc j (by omega);simp only [Cp.cells] at hj;refine T.skip (K.seq (T.seq (T.block (T.sr ?_))));refine TL.y (Yv.ag rfl rfl rfl rfl (by omega)) ?_;refine TL.y (Yv.av rfl rfl hj rfl (fun h=>h)) ?_; (refine TL.ew (Wt.none rfl) rfl rfl (Ew.alloc rfl) ?_;rintro _ _ ⟨g13,rfl,rfl⟩); (refine TL.ax (Wt.none rfl) rfl (Ew.aj 0 rfl rfl rfl rfl rfl rfl) ?_;rintro _ _ ⟨rfl,rfl⟩);refine TL.nx ?_;refine TL.y (Yv.fieldAddr rfl rfl) ?_;refine TL.y (Yv.ac 0 rfl rfl rfl rfl) ?_;refine TL.run 3 rfl ?_;refine TL.ak rfl rfl rfl (fun h11=>?_) (fun h11=>?_)
          ·have p11:=h11; (try simp only [nfB] at p11);refine TL.yv (Wt.some rfl rfl rfl h11) rfl rfl (Yv.au rfl) ?_;refine TL.yv (Wt.some rfl rfl rfl h11) rfl rfl (Yv.fieldAddr rfl rfl) ?_;refine TL.yv (Wt.some rfl rfl rfl h11) rfl rfl (Yv.ac 0 rfl rfl rfl rfl) ?_;refine TL.yv (Wt.some rfl rfl rfl h11) rfl rfl (Yv.au rfl) ?_;refine TL.y (Yv.am rfl rfl h11 rfl) ?_;refine TL.run 1 rfl ?_;refine TL.ak rfl rfl rfl (fun h12=>?_) (fun h12=>?_)
           ·have p12:=h12; (try simp only [nfB] at p12);refine TL.yv (Wt.some rfl rfl rfl h12) rfl rfl (Yv.au rfl) ?_;refine TL.yv (Wt.some rfl rfl rfl h12) rfl rfl (Yv.fieldAddr rfl rfl) ?_;refine TL.yv (Wt.some rfl rfl rfl h12) rfl rfl (Yv.ac 0 rfl rfl rfl rfl) ?_;refine TL.yv (Wt.some rfl rfl rfl h12) rfl rfl (Yv.au rfl) ?_;refine TL.y (Yv.am rfl rfl h12 rfl) ?_;refine TL.ns ?_;refine T.cond rfl (fun h13=>?_) (fun h13=>?_)
            ·have p13:=h13; (try simp only [nfB] at p13);refine T.region ?_;refine TL.run 2 rfl ?_;refine TL.y (Yv.bb (a:=1#64) (only L (nth (Y.out i) k).to.toNat) rfl rfl rfl rfl (by omega)) ?_;refine TL.y (Yv.bC rfl rfl rfl) ?_;refine TL.run 1 rfl ?_;refine TL.nil (K.ad (K.seq (T.region ?_)));refine TL.y (Yv.al rfl rfl rfl (by omega)) ?_;refine TL.run 1 rfl ?_;refine TL.nil ?_;exact K.next (j+1) (by omega) (by omega) (by rw [zan _ _ (by omega),zcv];split <;> first|(exfalso;omega)|exact (by repeat (first|exact Sub.nil|refine Sub.cons rfl ?_))) Sx
            ·have p13:=h13; (try simp only [nfB] at p13);refine T.skip (K.ad (K.seq (T.region ?_)));refine TL.y (Yv.al rfl rfl rfl (by omega)) ?_;refine TL.run 1 rfl ?_;refine TL.nil ?_;exact K.next (j+1) (by omega) (by omega) (by rw [zan _ _ (by omega),zcv];split <;> first|(exfalso;omega)|exact (by repeat (first|exact Sub.nil|refine Sub.cons rfl ?_))) Sx
           ·have p12:=h12; (try simp only [nfB] at p12);refine TL.off (Wt.not rfl rfl rfl h12) rfl rfl ?_;refine TL.off (Wt.not rfl rfl rfl h12) rfl rfl ?_;refine TL.off (Wt.not rfl rfl rfl h12) rfl rfl ?_;refine TL.off (Wt.not rfl rfl rfl h12) rfl rfl ?_;refine TL.y (Yv.an rfl rfl h12 rfl) ?_;refine TL.ns ?_;refine T.aE rfl rfl ?_;refine T.skip (K.ad (K.seq (T.region ?_)));refine TL.y (Yv.al rfl rfl rfl (by omega)) ?_;refine TL.run 1 rfl ?_;refine TL.nil ?_;exact K.next (j+1) (by omega) (by omega) (by rw [zan _ _ (by omega),zcv];split <;> first|(exfalso;omega)|exact (by repeat (first|exact Sub.nil|refine Sub.cons rfl ?_))) Sx
          ·have p11:=h11; (try simp only [nfB] at p11);refine TL.off (Wt.not rfl rfl rfl h11) rfl rfl ?_;refine TL.off (Wt.not rfl rfl rfl h11) rfl rfl ?_;refine TL.off (Wt.not rfl rfl rfl h11) rfl rfl ?_;refine TL.off (Wt.not rfl rfl rfl h11) rfl rfl ?_;refine TL.y (Yv.an rfl rfl h11 rfl) ?_;refine TL.run 6 rfl ?_;refine TL.ns ?_;refine T.aE rfl rfl ?_;refine T.skip (K.ad (K.seq (T.region ?_)));refine TL.y (Yv.al rfl rfl rfl (by omega)) ?_;refine TL.run 1 rfl ?_;refine TL.nil ?_;exact K.next (j+1) (by omega) (by omega) (by rw [zan _ _ (by omega),zcv];split <;> first|(exfalso;omega)|exact (by repeat (first|exact Sub.nil|refine Sub.cons rfl ?_))) Sx
         ·have p10:=h10; (try simp only [nfB] at p10);refine T.exit (K.ab (K.ab (K.ae (K.ad ?_)))); (have hn:=hno;have e:(Y.cs (nth (Y.out i) k).to.toNat).take j=Y.cs (nth (Y.out i) k).to.toNat:=List.take_of_length_le (by omega);refine K.at ?_ Sx;rw [zan _ _ (by omega),za5,if_neg hn,e];exact (by repeat (first|exact Sub.nil|refine Sub.cons rfl ?_)))
   ·skip;refine T.region ?_;refine TL.y (Yv.al rfl rfl rfl (by omega)) ?_;refine TL.run 1 rfl ?_;refine TL.nil ?_;exact K.next (k+1) (by omega) (by omega) (by repeat (first|exact Sub.nil|refine Sub.cons rfl ?_)) Sx
  ·have p1:=h1; (try simp only [nfB] at p1);refine T.exit (K.ab (K.ab (K.ae (K.seq (T.sr ?_)))));refine TL.run 2 rfl ?_;refine TL.ns (T.ret ?_);exact K.ah rfl rfl (fun w' hw=>⟨by rw [zb9,List.take_of_length_le (by omega)],hw.isBelow⟩)
structure GL where
 b:Nat
 c:Nat
structure StF (w0 w:World) (sp:Nat) (gl:GL) (tp:Nat) (Y:Tb) (L:Ws) (c:Bool):Prop where
 tb:TablesAt w0 tp Y
 fr:Fz w0 w
 c0:w.cell? ⟨sp,0,none⟩=some (.pointer (some ⟨tp,0,none⟩))
 c1:w.cell? ⟨sp,1,none⟩=some (.slice (some ⟨gl.b,0,none⟩) L.length gl.c)
 lf:SlOf w (.slice (some ⟨gl.b,0,none⟩) L.length gl.c) Le 1 L
 len:L.length=Y.n
 c2:w.cell? ⟨sp,2,none⟩=some (.bool c)
 tab:Tab w
theorem StF.st {w0 w:World}{sp:Nat}{gl:GL}{tp:Nat}{Y:Tb}{L:Ws}{c:Bool}(h:StF w0 w sp gl tp Y L c):StateAt w sp Y L c:=
 ⟨h.tab,⟨tp,h.c0,h.tb.later h.fr⟩,⟨_,h.c1,h.lf⟩,h.len,h.c2⟩
theorem StF.kept {w0 w w':World}{M:Nat→Prop}{hs:HS}{sp:Nat}{gl:GL}{tp:Nat}{Y:Tb}{L:Ws}{c:Bool}(h:StF w0 w sp gl tp Y L c)(hw:Hp w M hs w')(h0:∀g,M g→¬IsC w0 g)(h1:¬M sp)(h2:¬M gl.b)(h3:¬M 0):StF w0 w' sp gl tp Y L c:=
 ⟨h.tb,Fz.hp h.fr hw h0,hw.cellB h.c0 h1,hw.cellB h.c1 h1,h.lf.keptM hw (fun g hg=>by simp [Value.ownBlock] at hg;subst hg;exact h2),h.len,hw.cellB h.c2 h1,h.tab.kept hw h3⟩
def zbo (Y:Tb)(L:Ws)(i:Nat)(ws:Ws):Ws:=
 if (only L i:Int)=0 then ws else
  (Y.out i).foldl (fun s x=>if (only L x.to.toNat:Int)=0 then sAdd s x.to.toNat else (Y.inn x.to.toNat).foldl (fun s o=>sAdd s o.fr.toNat) (sAdd s x.to.toNat))
   ((Y.inn i).foldl (fun s x=>sAdd s x.fr.toNat) ((Y.ps i).foldl (fun s x=>sAdd s (x.a+x.b - (i:Int)).toNat) ws))
theorem zdR {α:Type}(f:Ws→α→Ws)(hf:∀s x,(f s x).length=s.length):∀(l:List α) (s:Ws),(l.foldl f s).length=s.length
 | [],_=>rfl
 |x :: r,s=>by rw [List.foldl_cons,zdR f hf r,hf]
theorem zbS (l:List Ld)(s:Ws):(l.foldl (fun s x=>sAdd s x.fr.toNat) s).length=s.length:=zdR _ (fun _ _=>za4) l s
theorem zbN (i:Int)(l:List Pr)(s:Ws):(l.foldl (fun s x=>sAdd s (x.a+x.b - (i:Int)).toNat) s).length=s.length:=zdR _ (fun _ _=>za4) l s
def zbp (Y:Tb)(L:Ws)(s:Ws)(x:Ld):Ws:=if (only L x.to.toNat:Int)=0 then sAdd s x.to.toNat else (Y.inn x.to.toNat).foldl (fun s o=>sAdd s o.fr.toNat) (sAdd s x.to.toNat)
theorem zd5 {Y:Tb}{L s:Ws}{x:Ld}:(zbp Y L s x).length=s.length:=by
 unfold zbp;split
 ·exact za4
 ·rw [zbS,za4]
theorem zdE (Y:Tb)(L:Ws)(l:List Ld)(s:Ws):(l.foldl (zbp Y L) s).length=s.length:=zdR _ (fun _ _=>zd5) l s
theorem zds (Y:Tb)(L:Ws)(i:Nat)(ws:Ws):(zbo Y L i ws).length=ws.length:=by
 unfold zbo;split
 ·rfl
 ·exact (zdE Y L _ _).trans ((zbS _ _).trans (zbN _ _ _))
theorem zda (ws:Ws)(hws:ws.length=8)(j:Nat)(hj:j<512)(z:Int)(hz:z=(j:Int))(p q:Nat)(w:World)(hq:w.cell? ⟨q,0,none⟩=some (.pointer (some ⟨p,0,none⟩)))(hqp:q≠p)(hp:(Ent.row p 112 ws.cells).ok w):Calls Tryd.prog 84 #[.int .i64 z, .pointer (some ⟨q,0,none⟩)] w fun e w'=>∃y:Unit,True∧e= .returned (.tuple #[])∧Hp w (Ent.row p 112 ws.cells).fp [.row p 112 (Ws.cells (sAdd ws j))] w':=by
 subst hz;refine zaa (M:=(Ent.row p 112 ws.cells).fp) (hs:=[Ent.row p 112 ws.cells]) Tryd.func84 rfl rfl rfl (Hp.start hp) ?_;refine T.ay (.still 0 (.still 1 (.still 2 (.still 4 (.eff 3 (.eff 5 (.still 6 (.still 7 (.still 8 (.still 9 (.eff 10 .done))))))))))) [] (by kernel_rfl) Sx ?_;refine TS.y rfl (Yv.ar rfl rfl hq (fun hh=>hqp (Ent.row_fp.1 hh))) ?_;refine TS.y rfl (Yv.ar rfl rfl hq (fun hh=>hqp (Ent.row_fp.1 hh))) ?_;refine TS.run 2 rfl ?_;refine TS.eff ?_;refine TSo.yv rfl (Wt.none rfl) rfl rfl (Yv.ao 0 rfl rfl rfl (by rw [List.length_map,hws])) Sx ?_;refine TS.eff ?_; (refine TSo.ew rfl (Wt.none rfl) rfl rfl (Ew.af rfl rfl rfl (fun w hw=>zjQ ws hws j hj w)) ?_;rintro _ _ ⟨rfl,rfl⟩;refine ⟨Sx,?_⟩);refine TS.run 4 rfl ?_;refine TS.eff ?_; (refine TSo.ax rfl (Wt.none rfl) rfl (Ew.aj 0 rfl rfl rfl rfl (by rw [List.length_map,za4,hws]) (by rw [List.length_map,List.length_map,za4])) ?_;rintro _ _ ⟨rfl,rfl⟩;refine ⟨Sx,?_⟩);refine TS.done ?_;exact K.bs rfl (fun w' hw=>⟨(),trivial,rfl,hw⟩)
theorem zfN (w0:World)(sp:Nat)(gl:GL)(tp p:Nat)(Y:Tb)(L:Ws)(c:Bool)(ws:Ws)(hws:ws.length=8)(i:Nat)(z:Int)(hz:z=(i:Int))(hi:i<Y.n)(w:World)(h:StF w0 w sp gl tp Y L c)(hok:Y.Ok)(hpN:¬IsC w0 p)(hp0:p≠0)(hsp:sp≠p)(hgl:gl.b≠p)(hp:(Ent.row p 112 ws.cells).ok w):Calls Tryd.prog 64 #[.pointer (some ⟨sp,0,none⟩), .int .i64 z, .pointer (some ⟨p,0,none⟩)] w fun e w'=>∃y:Unit,True∧e= .returned (.tuple #[])∧Hp w (Ent.row p 112 ws.cells).fp [.row p 112 (Ws.cells (zbo Y L i ws))] w':=by
 subst hz;obtain ⟨hTb,hfr,hsp0,hsp1,hlf,hLn,hsp2,htab⟩:=id h;have hT:=hTb;have hn512:=hok.n;obtain ⟨hlenP,hrngP⟩:=hok.ps i hi;obtain ⟨hlenI,hrngI⟩:=hok.inn i hi;obtain ⟨hlenO,hrngO⟩:=hok.out i hi;obtain ⟨vP,hP0,hP⟩:=hT.ps.at';obtain ⟨AP,capP,rfl,hPs⟩:=hP.op;have hPn:=hT.ps.len;obtain ⟨gP,oP,rfl,hPc⟩:=hPs (by omega);rw [hPn] at hP0;have hPi:=hPc i (by rw [hPn];exact hi);obtain ⟨BP,cpP,hvP,hslP⟩:=(hT.ps.each i hi).op;simp only [hvP] at hPi;obtain ⟨vI,hI0,hI⟩:=hT.inn.at';obtain ⟨AI,capI,rfl,hIs⟩:=hI.op;have hIn:=hT.inn.len;obtain ⟨gI,oI,rfl,hIc⟩:=hIs (by omega);rw [hIn] at hI0;have hIi:=hIc i (by rw [hIn];exact hi);obtain ⟨BI,cpI,hvI,hslI⟩:=(hT.inn.each i hi).op;simp only [hvI] at hIi;obtain ⟨vO,hO0,hO⟩:=hT.out.at';obtain ⟨AO,capO,rfl,hOs⟩:=hO.op;have hOn:=hT.out.len;obtain ⟨gO,oO,rfl,hOc⟩:=hOs (by omega);rw [hOn] at hO0;have hOi:=hOc i (by rw [hOn];exact hi);obtain ⟨BO,cpO,hvO,hslO⟩:=(hT.out.each i hi).op;simp only [hvO] at hOi;have hkeep:∀hs w',Hp w (Ent.row p 112 ws.cells).fp hs w'→StateAt w' sp Y L c:=fun hs w' hw=>(h.kept hw (fun g hg=>by rw [Ent.row_fp.1 hg];exact hpN) (fun hg=>hsp (Ent.row_fp.1 hg)) (fun hg=>hgl (Ent.row_fp.1 hg)) (fun hg=>hp0 (Ent.row_fp.1 hg).symm)).st;refine zaa (M:=(Ent.row p 112 ws.cells).fp) (hs:=[Ent.row p 112 ws.cells]) Tryd.func64 rfl rfl rfl (Hp.start hp) ?_;refine T.sr ?_; (refine TL.ew (Wt.none rfl) rfl rfl (Ew.box rfl rfl) ?_;rintro _ _ ⟨g5,rfl,rfl⟩);refine TL.ns (T.seq (T.sr ?_));refine TL.run 2 rfl ?_; (refine TL.ew (Wt.none rfl) rfl rfl (Ew.af rfl rfl rfl (fun w hw=>zbU sp Y L c i _ rfl hi w (hkeep _ _ hw))) ?_;rintro _ _ ⟨rfl,rfl⟩);refine TL.run 1 rfl ?_;refine TL.ns ?_;refine T.cond rfl (fun h1=>?_) (fun h1=>?_)
 ·have p1:=h1; (try simp only [nfB] at p1);refine T.ret (K.aa ?_);exact K.cj rfl (fun w' hw=>⟨(),trivial,rfl,by rw [zbo,if_pos p1];exact hw.sub Sx⟩)
 ·have p1:=h1; (try simp only [nfB] at p1);refine T.skip (K.seq (T.sr ?_));refine TL.run 2 rfl ?_;refine TL.ns ?_;refine T.cut (gs:=[(0, .pointer (some ⟨sp,0,none⟩)),(1, .int .i64 (i:Int)),(6, .func (.func 84) #[] #[.pointer (some ⟨g5,0,none⟩)])]) (hs':=[.row g5 129 [.pointer (some ⟨p,0,none⟩)], .row p 112 (Ws.cells ((Y.ps i).foldl (fun s x=>sAdd s (x.a+x.b - (i:Int)).toNat) ws))]) ?_ ?_
  ·skip;refine T.sr ?_;refine TL.run 2 rfl ?_;refine TL.y (Yv.fieldAddr rfl rfl) ?_;refine TL.y (Yv.ar rfl rfl hsp0 (fun hh=>hsp (Ent.row_fp.1 hh))) ?_;refine TL.run 1 rfl ?_;refine TL.y (Yv.fieldAddr rfl rfl) ?_;refine TL.y (Yv.ar rfl rfl (hfr.cell hP0) (fun hh=>hpN (by have:=zcK hP0;rw [←Ent.row_fp.1 hh];exact this))) ?_;refine TL.run 1 rfl ?_;refine TL.y (Yv.ag rfl rfl rfl rfl (by omega)) ?_;refine TL.y (Yv.loadC (j:=0) rfl rfl (Fz.cs hfr hPi) rfl rfl (fun hh=>hpN (by have:=Cs.isC hPi (by simp);rw [←Ent.row_fp.1 hh];exact this))) ?_;refine TL.y (Yv.aq rfl rfl) ?_;refine TL.run 1 rfl ?_;refine TL.ns (T.block ?_);refine T.loop (ι:=Nat) (fun k=>[(0, .pointer (some ⟨sp,0,none⟩)),(1, .int .i64 (i:Int)),(6, .func (.func 84) #[] #[.pointer (some ⟨g5,0,none⟩)]),(29, .slice BP (Y.ps i).length cpP),(30, .int .i64 ((Y.ps i).length:Int)),(31, .int .i64 (k:Int))]) (fun k=>[.row g5 129 [.pointer (some ⟨p,0,none⟩)], .row p 112 (Ws.cells (((Y.ps i).take k).foldl (fun s x=>sAdd s (x.a+x.b - (i:Int)).toNat) ws))]) (fun k=>k≤(Y.ps i).length) (fun k=>(Y.ps i).length - k) 0 ?_ ?_ ?_ ?_
   ·omega
   ·exact (by repeat (first|exact Sub.nil|refine Sub.cons rfl ?_))
   ·exact Sx
   ·intro k hphi;refine T.sr ?_;refine TL.run 1 rfl ?_;refine TL.ns (T.seq ?_);refine T.cond rfl (fun h2=>?_) (fun h2=>?_)
    ·have p2:=h2; (try simp only [nfB] at p2);obtain ⟨ghk,offhk,rfl,hc⟩:=hslP (by omega);have hk:=hc k (by omega);simp only [Pr.cells] at hk;have hrhk:=hrngP _ (zaI (xs:=Y.ps i) (k:=k) (by omega));refine T.skip (K.seq (T.seq (T.block (T.sr ?_))));refine TL.y (Yv.ag rfl rfl rfl rfl (by omega)) ?_;refine TL.y (Yv.av rfl rfl (Fz.cs hfr hk) rfl (fun hh=>hpN (by have:=Cs.isC hk (by simp);rw [←Ent.row_fp.1 hh];exact this))) ?_; (refine TL.ew (Wt.none rfl) rfl rfl (Ew.alloc rfl) ?_;rintro _ _ ⟨g8,rfl,rfl⟩); (refine TL.ax (Wt.none rfl) rfl (Ew.aj 0 rfl rfl rfl rfl rfl rfl) ?_;rintro _ _ ⟨rfl,rfl⟩);refine TL.ns (T.region ?_);refine TL.run 1 rfl ?_;refine TL.y (Yv.fieldAddr rfl rfl) ?_;refine TL.y (Yv.ac 0 rfl rfl rfl rfl) ?_;refine TL.y (Yv.fieldAddr rfl rfl) ?_;refine TL.y (Yv.ac 0 rfl rfl rfl rfl) ?_;refine TL.y (Yv.al rfl rfl rfl (by omega)) ?_;refine TL.run 1 rfl ?_;refine TL.y (Yv.aL rfl rfl rfl (by omega)) ?_; (refine TL.ew (Wt.none rfl) rfl rfl (Ew.bl 2 rfl rfl rfl rfl (fun w hw=>zda (((Y.ps i).take k).foldl (fun s x=>sAdd s (x.a+x.b - (i:Int)).toNat) ws) (by rw [zbN,hws]) ((nth (Y.ps i) k).a+(nth (Y.ps i) k).b - (i:Int)).toNat (by omega) _ (by omega) p g5 w (zaE (Ent.row_ok.1 (hw.get (i:=1) rfl)) 0) (fun hh=>hw.ne (i:=1) (j:=2) (by omega) rfl rfl (g:=g5) (Ent.row_fp.2 rfl) (Ent.row_fp.2 hh)) (hw.get (i:=2) rfl))) ?_;rintro _ _ ⟨-, -,rfl,rfl⟩);refine TL.nil (K.ad (K.seq (T.region ?_)));refine TL.y (Yv.al rfl rfl rfl (by omega)) ?_;refine TL.run 1 rfl ?_;refine TL.nil ?_;exact K.next (k+1) (by omega) (by omega) (by repeat (first|exact Sub.nil|refine Sub.cons rfl ?_)) (by rw [zan _ _ (by omega)];exact Sx)
    ·have p2:=h2; (try simp only [nfB] at p2);refine T.exit (K.ab (K.ab (K.ae ?_)));exact K.at (by repeat (first|exact Sub.nil|refine Sub.cons rfl ?_)) (by rw [show (Y.ps i).take k=Y.ps i from List.take_of_length_le (by omega)];exact Sx)
  ·skip;refine T.cut (gs:=[(0, .pointer (some ⟨sp,0,none⟩)),(1, .int .i64 (i:Int)),(6, .func (.func 84) #[] #[.pointer (some ⟨g5,0,none⟩)])]) (hs':=[.row g5 129 [.pointer (some ⟨p,0,none⟩)], .row p 112 (Ws.cells ((Y.inn i).foldl (fun s x=>sAdd s x.fr.toNat) ((Y.ps i).foldl (fun s x=>sAdd s (x.a+x.b - (i:Int)).toNat) ws)))]) ?_ ?_
   ·skip;refine T.sr ?_;refine TL.run 2 rfl ?_;refine TL.y (Yv.fieldAddr rfl rfl) ?_;refine TL.y (Yv.ar rfl rfl hsp0 (fun hh=>hsp (Ent.row_fp.1 hh))) ?_;refine TL.run 1 rfl ?_;refine TL.y (Yv.fieldAddr rfl rfl) ?_;refine TL.y (Yv.ar rfl rfl (hfr.cell hI0) (fun hh=>hpN (by have:=zcK hI0;rw [←Ent.row_fp.1 hh];exact this))) ?_;refine TL.run 1 rfl ?_;refine TL.y (Yv.ag rfl rfl rfl rfl (by omega)) ?_;refine TL.y (Yv.loadC (j:=0) rfl rfl (Fz.cs hfr hIi) rfl rfl (fun hh=>hpN (by have:=Cs.isC hIi (by simp);rw [←Ent.row_fp.1 hh];exact this))) ?_;refine TL.y (Yv.aq rfl rfl) ?_;refine TL.run 1 rfl ?_;refine TL.ns (T.block ?_);refine T.loop (ι:=Nat) (fun k=>[(0, .pointer (some ⟨sp,0,none⟩)),(1, .int .i64 (i:Int)),(6, .func (.func 84) #[] #[.pointer (some ⟨g5,0,none⟩)]),(54, .slice BI (Y.inn i).length cpI),(55, .int .i64 ((Y.inn i).length:Int)),(56, .int .i64 (k:Int))]) (fun k=>[.row g5 129 [.pointer (some ⟨p,0,none⟩)], .row p 112 (Ws.cells (((Y.inn i).take k).foldl (fun s x=>sAdd s x.fr.toNat) ((Y.ps i).foldl (fun s x=>sAdd s (x.a+x.b - (i:Int)).toNat) ws)))]) (fun k=>k≤(Y.inn i).length) (fun k=>(Y.inn i).length - k) 0 ?_ ?_ ?_ ?_
    ·omega
    ·exact (by repeat (first|exact Sub.nil|refine Sub.cons rfl ?_))
    ·exact Sx
    ·intro k hphi;refine T.sr ?_;refine TL.run 1 rfl ?_;refine TL.ns (T.seq ?_);refine T.cond rfl (fun h3=>?_) (fun h3=>?_)
     ·have p3:=h3; (try simp only [nfB] at p3);obtain ⟨ghk,offhk,rfl,hc⟩:=hslI (by omega);have hk:=hc k (by omega);simp only [Ld.cells] at hk;have hrhk:=hrngI _ (zaI (xs:=Y.inn i) (k:=k) (by omega));refine T.skip (K.seq (T.seq (T.block (T.sr ?_))));refine TL.y (Yv.ag rfl rfl rfl rfl (by omega)) ?_;refine TL.y (Yv.av rfl rfl (Fz.cs hfr hk) rfl (fun hh=>hpN (by have:=Cs.isC hk (by simp);rw [←Ent.row_fp.1 hh];exact this))) ?_; (refine TL.ew (Wt.none rfl) rfl rfl (Ew.alloc rfl) ?_;rintro _ _ ⟨g10,rfl,rfl⟩); (refine TL.ax (Wt.none rfl) rfl (Ew.aj 0 rfl rfl rfl rfl rfl rfl) ?_;rintro _ _ ⟨rfl,rfl⟩);refine TL.ns (T.region ?_);refine TL.run 1 rfl ?_;refine TL.y (Yv.fieldAddr rfl rfl) ?_;refine TL.y (Yv.ac 0 rfl rfl rfl rfl) ?_; (refine TL.ew (Wt.none rfl) rfl rfl (Ew.bl 2 rfl rfl rfl rfl (fun w hw=>zda (((Y.inn i).take k).foldl (fun s x=>sAdd s x.fr.toNat) ((Y.ps i).foldl (fun s x=>sAdd s (x.a+x.b - (i:Int)).toNat) ws)) (by rw [zbS,zbN,hws]) (nth (Y.inn i) k).fr.toNat (by omega) _ (by omega) p g5 w (zaE (Ent.row_ok.1 (hw.get (i:=1) rfl)) 0) (fun hh=>hw.ne (i:=1) (j:=2) (by omega) rfl rfl (g:=g5) (Ent.row_fp.2 rfl) (Ent.row_fp.2 hh)) (hw.get (i:=2) rfl))) ?_;rintro _ _ ⟨-, -,rfl,rfl⟩);refine TL.nil (K.ad (K.seq (T.region ?_)));refine TL.y (Yv.al rfl rfl rfl (by omega)) ?_;refine TL.run 1 rfl ?_;refine TL.nil ?_;exact K.next (k+1) (by omega) (by omega) (by repeat (first|exact Sub.nil|refine Sub.cons rfl ?_)) (by rw [zan _ _ (by omega)];exact Sx)
     ·have p3:=h3; (try simp only [nfB] at p3);refine T.exit (K.ab (K.ab (K.ae ?_)));exact K.at (by repeat (first|exact Sub.nil|refine Sub.cons rfl ?_)) (by rw [show (Y.inn i).take k=Y.inn i from List.take_of_length_le (by omega)];exact Sx)
   ·skip;refine T.sr ?_;refine TL.run 2 rfl ?_;refine TL.y (Yv.fieldAddr rfl rfl) ?_;refine TL.y (Yv.ar rfl rfl hsp0 (fun hh=>hsp (Ent.row_fp.1 hh))) ?_;refine TL.run 1 rfl ?_;refine TL.y (Yv.fieldAddr rfl rfl) ?_;refine TL.y (Yv.ar rfl rfl (hfr.cell hO0) (fun hh=>hpN (by have:=zcK hO0;rw [←Ent.row_fp.1 hh];exact this))) ?_;refine TL.run 1 rfl ?_;refine TL.y (Yv.ag rfl rfl rfl rfl (by omega)) ?_;refine TL.y (Yv.loadC (j:=0) rfl rfl (Fz.cs hfr hOi) rfl rfl (fun hh=>hpN (by have:=Cs.isC hOi (by simp);rw [←Ent.row_fp.1 hh];exact this))) ?_;refine TL.y (Yv.aq rfl rfl) ?_;refine TL.run 1 rfl ?_;refine TL.ns (T.block ?_);refine T.loop (ι:=Nat) (fun k=>[(0, .pointer (some ⟨sp,0,none⟩)),(1, .int .i64 (i:Int)),(6, .func (.func 84) #[] #[.pointer (some ⟨g5,0,none⟩)]),(74, .slice BO (Y.out i).length cpO),(75, .int .i64 ((Y.out i).length:Int)),(76, .int .i64 (k:Int))]) (fun k=>[.row g5 129 [.pointer (some ⟨p,0,none⟩)], .row p 112 (Ws.cells (((Y.out i).take k).foldl (zbp Y L) ((Y.inn i).foldl (fun s x=>sAdd s x.fr.toNat) ((Y.ps i).foldl (fun s x=>sAdd s (x.a+x.b - (i:Int)).toNat) ws))))]) (fun k=>k≤(Y.out i).length) (fun k=>(Y.out i).length - k) 0 ?_ ?_ ?_ ?_
    ·omega
    ·exact (by repeat (first|exact Sub.nil|refine Sub.cons rfl ?_))
    ·exact Sx
    ·intro k hphi;refine T.sr ?_;refine TL.run 1 rfl ?_;refine TL.ns (T.seq ?_);refine T.cond rfl (fun h4=>?_) (fun h4=>?_)
     ·have p4:=h4; (try simp only [nfB] at p4);obtain ⟨ghk,offhk,rfl,hc⟩:=hslO (by omega);have hk:=hc k (by omega);simp only [Ld.cells] at hk;have hrhk:=hrngO _ (zaI (xs:=Y.out i) (k:=k) (by omega)); (have htn:(nth (Y.out i) k).to.toNat<Y.n:=by omega);obtain ⟨hlenI2,hrngI2⟩:=hok.inn _ htn;have hIi2:=hIc (nth (Y.out i) k).to.toNat (by rw [hIn];exact htn);obtain ⟨BI2,cpI2,hvI2,hslI2⟩:=(hT.inn.each (nth (Y.out i) k).to.toNat htn).op;simp only [hvI2] at hIi2;refine T.skip (K.seq ?_);refine T.cut (gs:=[(0, .pointer (some ⟨sp,0,none⟩)),(1, .int .i64 (i:Int)),(6, .func (.func 84) #[] #[.pointer (some ⟨g5,0,none⟩)]),(74, .slice (some ⟨ghk,offhk,none⟩) (Y.out i).length cpO),(75, .int .i64 ((Y.out i).length:Int)),(76, .int .i64 (k:Int))]) (hs':=[.row g5 129 [.pointer (some ⟨p,0,none⟩)], .row p 112 (Ws.cells (((Y.out i).take (k+1)).foldl (zbp Y L) ((Y.inn i).foldl (fun s x=>sAdd s x.fr.toNat) ((Y.ps i).foldl (fun s x=>sAdd s (x.a+x.b - (i:Int)).toNat) ws))))]) ?_ ?_
      ·skip;refine T.block (T.sr ?_);refine TL.y (Yv.ag rfl rfl rfl rfl (by omega)) ?_;refine TL.y (Yv.av rfl rfl (Fz.cs hfr hk) rfl (fun hh=>hpN (by have:=Cs.isC hk (by simp);rw [←Ent.row_fp.1 hh];exact this))) ?_; (refine TL.ew (Wt.none rfl) rfl rfl (Ew.alloc rfl) ?_;rintro _ _ ⟨g12,rfl,rfl⟩); (refine TL.ax (Wt.none rfl) rfl (Ew.aj 0 rfl rfl rfl rfl rfl rfl) ?_;rintro _ _ ⟨rfl,rfl⟩);refine TL.nx ?_;refine TL.run 1 rfl ?_;refine TL.y (Yv.fieldAddr rfl rfl) ?_;refine TL.y (Yv.ac 0 rfl rfl rfl rfl) ?_; (refine TL.ew (Wt.none rfl) rfl rfl (Ew.bl 2 rfl rfl rfl rfl (fun w hw=>zda (((Y.out i).take k).foldl (zbp Y L) ((Y.inn i).foldl (fun s x=>sAdd s x.fr.toNat) ((Y.ps i).foldl (fun s x=>sAdd s (x.a+x.b - (i:Int)).toNat) ws))) (by rw [zdE,zbS,zbN,hws]) (nth (Y.out i) k).to.toNat (by omega) _ (by omega) p g5 w (zaE (Ent.row_ok.1 (hw.get (i:=1) rfl)) 0) (fun hh=>hw.ne (i:=1) (j:=2) (by omega) rfl rfl (g:=g5) (Ent.row_fp.2 rfl) (Ent.row_fp.2 hh)) (hw.get (i:=2) rfl))) ?_;rintro _ _ ⟨-, -,rfl,rfl⟩);refine TL.nx ?_;refine TL.run 1 rfl ?_;refine TL.y (Yv.fieldAddr rfl rfl) ?_;refine TL.y (Yv.ac 0 rfl rfl rfl rfl) ?_; (refine TL.ew (Wt.none rfl) rfl rfl (Ew.af rfl rfl rfl (fun w hw=>zbU sp Y L c ((nth (Y.out i) k).to.toNat) _ (by omega) (by omega) w (hkeep _ _ hw))) ?_;rintro _ _ ⟨rfl,rfl⟩);refine TL.run 1 rfl ?_;refine TL.ns ?_;refine T.cond rfl (fun h5=>?_) (fun h5=>?_)
       ·have p5:=h5; (try simp only [nfB] at p5); (have hno:¬(only L ((nth (Y.out i) k).to.toNat):Int)=0:=by assumption);refine T.seq ?_;refine T.ay (.still 0 (.still 1 (.still 2 (.still 3 (.still 4 (.still 5 (.still 6 (.still 7 (.still 8 (.still 9 (.still 10 (.still 11 (.still 12 .done))))))))))))) _ (by kernel_rfl) (List.Sublist.refl _) ?_;refine TS.run 2 rfl ?_;refine TS.y rfl (Yv.fieldAddr rfl rfl) ?_;refine TS.y rfl (Yv.ar rfl rfl hsp0 (fun hh=>hsp (Ent.row_fp.1 hh))) ?_;refine TS.run 1 rfl ?_;refine TS.y rfl (Yv.fieldAddr rfl rfl) ?_;refine TS.y rfl (Yv.ar rfl rfl (hfr.cell hI0) (fun hh=>hpN (by have:=zcK hI0;rw [←Ent.row_fp.1 hh];exact this))) ?_;refine TS.y rfl (Yv.fieldAddr rfl rfl) ?_;refine TS.y rfl (Yv.ac 0 rfl rfl rfl rfl) ?_;refine TS.y rfl (Yv.ag rfl rfl rfl (show (nth (Y.out i) k).to=(((nth (Y.out i) k).to.toNat:Nat):Int) from by omega) (by omega)) ?_;refine TS.y rfl (Yv.loadC (j:=0) rfl rfl (Fz.cs hfr hIi2) rfl rfl (fun hh=>hpN (by have:=Cs.isC hIi2 (by simp);rw [←Ent.row_fp.1 hh];exact this))) ?_;refine TS.y rfl (Yv.aq rfl rfl) ?_;refine TS.run 1 rfl ?_;refine TS.done ?_;refine K.seq (T.block ?_);refine T.loop (ι:=Nat) (fun j=>[(0, .pointer (some ⟨sp,0,none⟩)),(1, .int .i64 (i:Int)),(6, .func (.func 84) #[] #[.pointer (some ⟨g5,0,none⟩)]),(74, .slice (some ⟨ghk,offhk,none⟩) (Y.out i).length cpO),(75, .int .i64 ((Y.out i).length:Int)),(76, .int .i64 (k:Int)),(99, .slice BI2 (Y.inn (nth (Y.out i) k).to.toNat).length cpI2),(100, .int .i64 ((Y.inn (nth (Y.out i) k).to.toNat).length:Int)),(101, .int .i64 (j:Int))]) (fun j=>[.row g5 129 [.pointer (some ⟨p,0,none⟩)], .row p 112 (Ws.cells (((Y.inn (nth (Y.out i) k).to.toNat).take j).foldl (fun s o=>sAdd s o.fr.toNat) (sAdd (((Y.out i).take k).foldl (zbp Y L) ((Y.inn i).foldl (fun s x=>sAdd s x.fr.toNat) ((Y.ps i).foldl (fun s x=>sAdd s (x.a+x.b - (i:Int)).toNat) ws))) (nth (Y.out i) k).to.toNat)))]) (fun j=>j≤(Y.inn (nth (Y.out i) k).to.toNat).length) (fun j=>(Y.inn (nth (Y.out i) k).to.toNat).length - j) 0 ?_ ?_ ?_ ?_
        ·omega
        ·exact (by repeat (first|exact Sub.nil|refine Sub.cons rfl ?_))
        ·exact Sx
        ·intro j hphi;refine T.sr ?_;refine TL.run 1 rfl ?_;refine TL.ns (T.seq ?_);refine T.cond rfl (fun h6=>?_) (fun h6=>?_)
         ·have p6:=h6; (try simp only [nfB] at p6);obtain ⟨ghj,offhj,rfl,hcj⟩:=hslI2 (by omega);have hj:=hcj j (by omega);simp only [Ld.cells] at hj;have hrhj:=hrngI2 _ (zaI (xs:=Y.inn (nth (Y.out i) k).to.toNat) (k:=j) (by omega));refine T.skip (K.seq (T.seq (T.block (T.sr ?_))));refine TL.y (Yv.ag rfl rfl rfl rfl (by omega)) ?_;refine TL.y (Yv.av rfl rfl (Fz.cs hfr hj) rfl (fun hh=>hpN (by have:=Cs.isC hj (by simp);rw [←Ent.row_fp.1 hh];exact this))) ?_; (refine TL.ew (Wt.none rfl) rfl rfl (Ew.alloc rfl) ?_;rintro _ _ ⟨g14,rfl,rfl⟩); (refine TL.ax (Wt.none rfl) rfl (Ew.aj 0 rfl rfl rfl rfl rfl rfl) ?_;rintro _ _ ⟨rfl,rfl⟩);refine TL.ns (T.region ?_);refine TL.run 1 rfl ?_;refine TL.y (Yv.fieldAddr rfl rfl) ?_;refine TL.y (Yv.ac 0 rfl rfl rfl rfl) ?_; (refine TL.ew (Wt.none rfl) rfl rfl (Ew.bl 2 rfl rfl rfl rfl (fun w hw=>zda (((Y.inn (nth (Y.out i) k).to.toNat).take j).foldl (fun s o=>sAdd s o.fr.toNat) (sAdd (((Y.out i).take k).foldl (zbp Y L) ((Y.inn i).foldl (fun s x=>sAdd s x.fr.toNat) ((Y.ps i).foldl (fun s x=>sAdd s (x.a+x.b - (i:Int)).toNat) ws))) (nth (Y.out i) k).to.toNat)) (by rw [zbS,za4,zdE,zbS,zbN,hws]) (nth (Y.inn (nth (Y.out i) k).to.toNat) j).fr.toNat (by omega) _ (by omega) p g5 w (zaE (Ent.row_ok.1 (hw.get (i:=1) rfl)) 0) (fun hh=>hw.ne (i:=1) (j:=2) (by omega) rfl rfl (g:=g5) (Ent.row_fp.2 rfl) (Ent.row_fp.2 hh)) (hw.get (i:=2) rfl))) ?_;rintro _ _ ⟨-, -,rfl,rfl⟩);refine TL.nil (K.ad (K.seq (T.region ?_)));refine TL.y (Yv.al rfl rfl rfl (by omega)) ?_;refine TL.run 1 rfl ?_;refine TL.nil ?_;exact K.next (j+1) (by omega) (by omega) (by repeat (first|exact Sub.nil|refine Sub.cons rfl ?_)) (by rw [zan _ _ (by omega)];exact Sx)
         ·have p6:=h6; (try simp only [nfB] at p6);refine T.exit (K.ab (K.ab (K.ae (K.ad ?_)))); (have hy:=hno;refine K.at (by repeat (first|exact Sub.nil|refine Sub.cons rfl ?_)) ?_;rw [zan _ _ (by omega),zbp,if_neg hy,show (Y.inn (nth (Y.out i) k).to.toNat).take j=Y.inn (nth (Y.out i) k).to.toNat from List.take_of_length_le (by omega)];exact Sx)
       ·have p5:=h5; (try simp only [nfB] at p5); (have hyes:(only L ((nth (Y.out i) k).to.toNat):Int)=0:=by assumption);refine T.skip (K.ad ?_); (have hy:=hyes;refine K.at (by repeat (first|exact Sub.nil|refine Sub.cons rfl ?_)) ?_;rw [zan _ _ (by omega),zbp,if_pos hy];exact Sx)
      ·skip;refine T.region ?_;refine TL.y (Yv.al rfl rfl rfl (by omega)) ?_;refine TL.run 1 rfl ?_;refine TL.nil ?_;exact K.next (k+1) (by omega) (by omega) (by repeat (first|exact Sub.nil|refine Sub.cons rfl ?_)) Sx
     ·have p4:=h4; (try simp only [nfB] at p4);refine T.exit (K.ab (K.ab (K.ae ?_)));exact K.bs rfl (fun w' hw=>⟨(),trivial,rfl,by rw [zbo,if_neg p1];rw [show (Y.out i).take k=Y.out i from List.take_of_length_le (by omega)] at hw;exact hw.sub Sx⟩)
def zbQ (Y:Tb)(L:Ws)(i:Nat):BitVec 64:=zb7 Y L i ||| zcN Y L i ||| zb9 Y L i
theorem zaT {α β:Type}{f g:β→α→β}:∀(l:List α) (z:β),(∀x∈l,∀s,f s x=g s x)→l.foldl f z=l.foldl g z
 | [],_,_=>rfl
 |x :: r,z,h=>by rw [List.foldl_cons,List.foldl_cons,h x (by simp) z];exact zaT r _ (fun y hy=>h y (by simp [hy]))
structure Alike (Y:Tb) (L L':Ws) (k:Nat):Prop where
 ps:∀x∈Y.ps k,(x.a=(k:Int)→only L' x.b.toNat=only L x.b.toNat)∧(x.a≠(k:Int)→only L' x.a.toNat=only L x.a.toNat)
 inn:∀x∈Y.inn k,only L' x.fr.toNat=only L x.fr.toNat
 out:∀x∈Y.out k,only L' x.to.toNat=only L x.to.toNat∧(only L x.to.toNat≠0→∀o∈Y.inn x.to.toNat,o.fr≠(k:Int)→only L' o.fr.toNat=only L o.fr.toNat)
theorem zd0 {Y:Tb}{L L':Ws}{k:Nat}(h:Alike Y L L' k)(hlo:∀x∈Y.out k,2≤x.lo):zbQ Y L' k=zbQ Y L k:=by
 have e1:zb7 Y L' k=zb7 Y L k:=zaT _ _ fun x hx s=>by
  have:=h.ps x hx;unfold zbi;by_cases ha:x.a=(k:Int)
  ·rw [if_pos ha,if_pos ha,this.1 ha]
  ·rw [if_neg ha,if_neg ha,this.2 ha]
 have e2:zcN Y L' k=zcN Y L k:=by
  have:zaN L' (Y.inn k)=zaN L (Y.inn k):=zaT _ _ fun x hx s=>by
   funext d
   unfold zaL;rw [h.inn x hx]
  unfold zcN;rw [this]
 have e3:zb9 Y L' k=zb9 Y L k:=zaT _ _ fun x hx s=>by
  have ho:=h.out x hx;unfold za5;rw [ho.1];by_cases hz:only L x.to.toNat=0
  ·have:=hlo x hx;rw [if_pos (.inl (.inl (by rw [hz];show (0:Int)<_;omega))),if_pos (.inl (.inl (by rw [hz];show (0:Int)<_;omega)))]
  ·have e:zb8 L' k (only L x.to.toNat) (Y.inn x.to.toNat)=zb8 L k (only L x.to.toNat) (Y.inn x.to.toNat):=zaT _ _ fun o ho' s=>by
    unfold zaZ;by_cases hk:o.fr=(k:Int)
    ·simp [hk]
    ·rw [ho.2 hz o ho' hk]
   rw [e]
 unfold zbQ;rw [e1,e2,e3]
theorem zbd {L:Ws}{i j:Nat}{b:BitVec 64}(hi:i<L.length):nth (L.set i b) j=if j=i then b else nth L j:=by
 unfold nth;rw [List.getD_eq_getElem?_getD,List.getD_eq_getElem?_getD];by_cases h:j=i
 ·subst h;rw [List.getElem?_set_self hi,if_pos rfl];rfl
 ·rw [List.getElem?_set_ne (fun e=>h e.symm),if_neg h]
theorem zcJ {L:Ws}{i j:Nat}{b:BitVec 64}(hi:i<L.length)(h:j≠i):only (L.set i b) j=only L j:=by
 unfold only;rw [zbd hi,if_neg h]
theorem zej {Y:Tb}{L:Ws}{i:Nat}{b:BitVec 64}(hok:Y.Ok)(hi:i<Y.n)(hl:L.length=Y.n):zb7 Y (L.set i b) i=zb7 Y L i∧zcN Y (L.set i b) i=zcN Y L i∧zb9 Y (L.set i b) i=zb9 Y L i:=by
 (have hil:i<L.length:=by omega);refine ⟨zaT _ _ fun x hx s=>?_,?_,zaT _ _ fun x hx s=>?_⟩
 ·have h1:=(hok.psS i hi x hx).1;have h2:=(hok.ps i hi).2 x hx;unfold zbi;by_cases ha:x.a=(i:Int)
  ·rw [if_pos ha,if_pos ha,zcJ hil (by omega)]
  ·rw [if_neg ha,if_neg ha,zcJ hil (by omega)]
 ·have:zaN (L.set i b) (Y.inn i)=zaN L (Y.inn i):=zaT _ _ fun x hx s=>by
   have h1:=(hok.innS i hi x hx).1;have h2:=(hok.inn i hi).2 x hx
   funext d
   unfold zaL;rw [zcJ hil (by omega)]
  unfold zcN;rw [this]
 ·have h1:=(hok.outS i hi x hx).1;have h2:=(hok.out i hi).2 x hx;unfold za5;rw [zcJ hil (by omega)]
  have e:zb8 (L.set i b) i (only L x.to.toNat) (Y.inn x.to.toNat)=zb8 L i (only L x.to.toNat) (Y.inn x.to.toNat):=zaT _ _ fun o ho s=>by
   have h3:=(hok.inn _ (by omega)).2 o ho;unfold zaZ;by_cases hk:o.fr=(i:Int)
   ·simp [hk]
   ·rw [zcJ hil (by omega)]
  rw [e]
def zfh (Y:Tb)(L:Ws)(i:Nat):Prop:=nth L i≠0#64∧nth L i &&& zbQ Y L i=0#64
theorem zgK {α:Type}(f:α→Nat)(hf:∀_:α,True):∀(l:List α) (s:Ws),s.length=8→(∀x∈l,f x<512)→∀j,j<512→(sBit (l.foldl (fun s x=>sAdd s (f x)) s) j=true↔sBit s j=true∨∃x∈l,f x=j)
 | [],s,_,_,j,_=>by simp
 |x :: r,s,hs,hx,j,hj=>by
  rw [List.foldl_cons,zgK f hf r _ (by rw [za4,hs]) (fun y hy=>hx y (by simp [hy])) j hj,zdN hs (hx x (by simp)) hj];simp only [Bool.or_eq_true,decide_eq_true_eq,List.mem_cons];constructor
  ·rintro ((h|h)|⟨y,hy,h⟩)
   ·exact .inl h
   ·exact .inr ⟨x, .inl rfl,h⟩
   ·exact .inr ⟨y, .inr hy,h⟩
  ·rintro (h|⟨y,rfl|hy,h⟩)
   ·exact .inl (.inl h)
   ·exact .inl (.inr h)
   ·exact .inr ⟨y,hy,h⟩
def Near (Y:Tb)(L:Ws)(i j:Nat):Prop:=
 (∃x∈Y.ps i,(x.a+x.b - (i:Int)).toNat=j)∨(∃x∈Y.inn i,x.fr.toNat=j)∨(∃x∈Y.out i,x.to.toNat=j∨(only L x.to.toNat≠0∧∃o∈Y.inn x.to.toNat,o.fr.toNat=j))
theorem zjn {Y : Tb} {L : Ws} : ∀ (l : List Ld) (s : Ws), s.length = 8 → (∀ x ∈ l, x.to.toNat < 512 ∧ ∀ o ∈ Y.inn x.to.toNat, o.fr.toNat < 512) → ∀ j, j < 512 →
    (sBit (l.foldl (zbp Y L) s) j = true ↔ sBit s j = true ∨ ∃ x ∈ l, x.to.toNat = j ∨ (only L x.to.toNat ≠ 0 ∧ ∃ o ∈ Y.inn x.to.toNat, o.fr.toNat = j))
  | [], s, _, _, j, _ => by simp
  | x :: r, s, hs, hx, j, hj => by
    have h1 := hx x (by simp); rw [List.foldl_cons, zjn r _ (by rw [zd5, hs]) (fun y hy => hx y (by simp [hy])) j hj]
    have e : sBit (zbp Y L s x) j = true ↔ sBit s j = true ∨ (x.to.toNat = j ∨ (only L x.to.toNat ≠ 0 ∧ ∃ o ∈ Y.inn x.to.toNat, o.fr.toNat = j)) := by
      unfold zbp; by_cases hz : (only L x.to.toNat : Int) = 0
      · rw [if_pos hz, zdN hs h1.1 hj]; simp only [Bool.or_eq_true, decide_eq_true_eq]; constructor
        · rintro (h | h)
          · exact .inl h
          · exact .inr (.inl h)
        · rintro (h | h | h)
          · exact .inl h
          · exact .inr h
          · exact absurd (show only L x.to.toNat = 0 by omega) h.1
      · rw [if_neg hz, zgK (fun o : Ld => o.fr.toNat) (fun _ => trivial) _ _ (by rw [za4, hs]) h1.2 j hj, zdN hs h1.1 hj]; simp only [Bool.or_eq_true, decide_eq_true_eq]; constructor
        · rintro ((h | h) | h)
          · exact .inl h
          · exact .inr (.inl h)
          · exact .inr (.inr ⟨by omega, h⟩)
        · rintro (h | h | h)
          · exact .inl (.inl h)
          · exact .inl (.inr h)
          · exact .inr h.2
    rw [e]; simp only [List.mem_cons]; constructor
    · rintro ((h | h) | ⟨y, hy, h⟩)
      · exact .inl h
      · exact .inr ⟨x, .inl rfl, h⟩
      · exact .inr ⟨y, .inr hy, h⟩
    · rintro (h | ⟨y, rfl | hy, h⟩)
      · exact .inl (.inl h)
      · exact .inl (.inr h)
      · exact .inr ⟨y, hy, h⟩
theorem zcc {Y:Tb}{L:Ws}{i:Nat}{ws:Ws}(hok:Y.Ok)(hi:i<Y.n)(hws:ws.length=8)(j:Nat)(hj:j<512):sBit (zbo Y L i ws) j=true↔sBit ws j=true∨(only L i≠0∧Near Y L i j):=by
 have hn:=hok.n;unfold zbo;by_cases hz:(only L i:Int)=0
 ·rw [if_pos hz];constructor
  ·exact .inl
  ·rintro (h|h)
   ·exact h
   ·exact absurd (show only L i=0 by omega) h.1
 ·rw [if_neg hz];have hp:=(hok.ps i hi).2;have hI:=(hok.inn i hi).2;have hO:=(hok.out i hi).2
  have:=zjn (Y:=Y) (L:=L) (Y.out i) ((Y.inn i).foldl (fun s x=>sAdd s x.fr.toNat) ((Y.ps i).foldl (fun s x=>sAdd s (x.a+x.b - (i:Int)).toNat) ws)) (by rw [zbS,zbN,hws]) (fun x hx=>by
   have:=hO x hx
   exact ⟨by omega,fun o ho=>by have:=(hok.inn x.to.toNat (by omega)).2 o ho;omega⟩) j hj
  refine Iff.trans this ?_;rw [zgK (fun x:Ld=>x.fr.toNat) (fun _=>trivial) _ _ (by rw [zbN,hws]) (fun x hx=>by have:=hI x hx;omega) j hj,zgK (fun x:Pr=>(x.a+x.b - (i:Int)).toNat) (fun _=>trivial) _ _ hws (fun x hx=>by have:=hp x hx;omega) j hj];unfold Near;constructor
  ·rintro (((h|h)|h)|h)
   ·exact .inl h
   ·exact .inr ⟨by omega, .inl h⟩
   ·exact .inr ⟨by omega, .inr (.inl h)⟩
   ·exact .inr ⟨by omega, .inr (.inr h)⟩
  ·rintro (h|⟨_,h|h|h⟩)
   ·exact .inl (.inl (.inl h))
   ·exact .inl (.inl (.inr h))
   ·exact .inl (.inr h)
   ·exact .inr h
theorem zfT {Y:Tb}{L L':Ws}{i k:Nat}(hok:Y.Ok)(hi:i<Y.n)(hk:k<Y.n)(hki:k≠i)(hsame:∀j,j≠i→only L' j=only L j)(h0:only L i=0)(hfar:¬Near Y L' i k):Alike Y L L' k where
 ps x hx:=by
  have h1:=(hok.ps k hk).2 x hx;have h2:=hok.psS k hk x hx;constructor
  ·intro ha;by_cases hb:x.b.toNat=i
   ·exact absurd (.inl ⟨x,by rw [←hb];exact h2.2.2,by omega⟩) hfar
   ·exact hsame _ hb
  ·intro ha;by_cases hb:x.a.toNat=i
   ·exact absurd (.inl ⟨x,by rw [←hb];exact h2.2.1,by omega⟩) hfar
   ·exact hsame _ hb
 inn x hx:=by
  have h1:=(hok.inn k hk).2 x hx;by_cases hb:x.fr.toNat=i
  ·exact absurd (.inr (.inr ⟨x,by rw [←hb];exact (hok.innS k hk x hx).2, .inl (by omega)⟩)) hfar
  ·exact hsame _ hb
 out x hx:=by
  have h1:=(hok.out k hk).2 x hx;have h2:=hok.outS k hk x hx;have hto:x.to.toNat≠i:=fun hb=>hfar (.inr (.inl ⟨x,by rw [←hb];exact h2.2,by omega⟩));refine ⟨hsame _ hto,fun hz o ho hok'=>?_⟩;have h3:=(hok.inn x.to.toNat (by omega)).2 o ho;by_cases hb:o.fr.toNat=i
  ·have h4:=(hok.innS x.to.toNat (by omega) o ho).2;rw [hb] at h4;refine absurd (.inr (.inr ⟨o,h4, .inr ⟨?_,x,?_,by omega⟩⟩)) hfar
   ·rw [show o.to.toNat=x.to.toNat by omega,hsame _ hto];exact hz
   ·rw [show o.to.toNat=x.to.toNat by omega];exact h2.2
  ·exact hsame _ hb
def zir (L:Ws):Nat:=(L.map fun b=>(chansN b).length).sum
theorem chansN_mem {b:BitVec 64}{j:Nat}:j∈chansN b↔b.getLsbD j=true:=by
 unfold chansN;rw [List.mem_filter,List.mem_range'_1];constructor
 ·exact fun h=>h.2
 ·intro h;refine ⟨⟨Nat.zero_le _,?_⟩,h⟩;have:=BitVec.lt_of_getLsbD h;omega
theorem zfL {p q:Nat→Bool}:∀(l:List Nat),(∀x∈l,q x=true→p x=true)→(∃x∈l,p x=true∧q x=false)→(l.filter q).length<(l.filter p).length
 | [],_,h=>by obtain ⟨x,hx,_⟩:=h;cases hx
 |y :: r,h,⟨x,hx,hp,hq⟩=>by
  have hle:∀(l:List Nat),(∀x∈l,q x=true→p x=true)→(l.filter q).length≤(l.filter p).length:=by
   intro l
   induction l with
   |nil=>intro _;simp
   |cons z s ih=>
    intro hz;have h1:=ih (fun x hx=>hz x (by simp [hx]));have h2:=hz z (by simp)
    cases hqz:q z <;> cases hpz:p z <;> simp [hqz,hpz] at h2 ⊢ <;> omega
  have h2:=h y (by simp);rcases List.mem_cons.1 hx with rfl|hx
  ·rw [List.filter_cons_of_neg (by rw [hq];simp),List.filter_cons_of_pos hp];have:=hle r (fun x hx=>h x (by simp [hx]));simp;omega
  ·have:=zfL r (fun x hx=>h x (by simp [hx])) ⟨x,hx,hp,hq⟩
   cases hqz:q y <;> cases hpz:p y <;> simp [hqz,hpz] at h2 ⊢ <;> omega
theorem zko {a b:BitVec 64}(h:∀j,a.getLsbD j=true→b.getLsbD j=true)(hne:a≠b):(chansN a).length<(chansN b).length:=by
 unfold chansN;refine zfL _ (fun j _=>h j) ?_;apply Classical.byContradiction;intro hno;apply hne;apply BitVec.eq_of_getLsbD_eq;intro j hj
 cases ha:a.getLsbD j with
 |true=>rw [h j ha]
 |false=>
  cases hb:b.getLsbD j with
  |false=>rfl
  |true=>exact absurd ⟨j,List.mem_range'_1.2 ⟨Nat.zero_le _,by omega⟩,hb,ha⟩ hno
theorem zfb:∀(L:Ws) (i:Nat) (b:BitVec 64),i<L.length→zir (L.set i b)+(chansN (nth L i)).length=zir L+(chansN b).length
 | [],i,b,h=>by simp at h
 |x :: r,0,b,h=>by simp [zir,nth];omega
 |x :: r,i+1,b,h=>by
  have:=zfb r i b (by simpa using h);simp only [zir,nth,List.set_cons_succ,List.map_cons,List.sum_cons,List.getD_cons_succ] at this ⊢;omega
inductive Reach (Y:Tb) (L:Ws):Ws→Prop
 |refl:Reach Y L L
 |step {M:Ws} {i:Nat} {b:BitVec 64}:Reach Y L M→i<Y.n→(∀j,b.getLsbD j=true→(zbQ Y M i).getLsbD j=true)→Reach Y L (M.set i (nth M i &&& ~~~b))
theorem Reach.len {Y:Tb}{L M:Ws}(h:Reach Y L M):M.length=L.length:=by
 induction h with
 |refl=>rfl
 |step _ _ _ ih=>rw [List.length_set,ih]
theorem Reach.sub {Y:Tb}{L M:Ws}(h:Reach Y L M)(hl:L.length=Y.n):∀i j,(nth M i).getLsbD j=true→(nth L i).getLsbD j=true:=by
 induction h with
 |refl=>exact fun _ _ h=>h
 | @step M' k b hr hk _ ih=>
  intro i j hij;rw [zbd (by rw [hr.len,hl];exact hk)] at hij
  split at hij
  ·rename_i e;subst e;rw [BitVec.getLsbD_and,Bool.and_eq_true] at hij;exact ih _ _ hij.1
  ·exact ih _ _ hij
structure SInv (Y:Tb) (L0 L:Ws) (q:List Nat) (ws:Ws) (c:Bool):Prop where
 reach:Reach Y L0 L
 len:L.length=Y.n
 ws8:ws.length=8
 wsn:∀j,j<512→sBit ws j=true→j<Y.n
 qn:∀j∈q,j<Y.n
 q512:q.length≤512
 bad:c=true→∃i,i<Y.n∧nth L i=0#64
 good:c=false→∀i,i<Y.n→i∈q∨sBit ws i=true∨zfh Y L i
def smu (L:Ws)(q:List Nat)(ws:Ws):Nat:=zir L*2000+q.length+(if memN ws=[] then 0 else 600)
theorem ziP:memN sNil=[]:=zd3 fun j _ _=>zcl j
theorem SInv.refill {Y:Tb}{L0 L:Ws}{ws:Ws}{c:Bool}(h:SInv Y L0 L [] ws c):SInv Y L0 L (memN ws) sNil c where
 reach:=h.reach
 len:=h.len
 ws8:=rfl
 wsn j _ hb:=by rw [zcl] at hb;cases hb
 qn j hj:=by obtain ⟨_,h1,h2⟩:=memF_mem.1 hj;exact h.wsn j h1 h2
 q512:=zdS ws 0
 bad:=h.bad
 good hc i hi:=by
  rcases h.good hc i hi with h1|h1|h1
  ·cases h1
  ·have:=h.len;by_cases h512:i<512
   ·exact .inl (memF_mem.2 ⟨Nat.zero_le _,h512,h1⟩)
   ·exfalso;unfold sBit nth at h1;rw [List.getD_eq_getElem?_getD,List.getElem?_eq_none (by rw [h.ws8];omega)] at h1;exact absurd h1 (by show ¬(0#64).getLsbD _=true;rw [BitVec.getLsbD_zero];simp)
  ·exact .inr (.inr h1)
theorem zg9 {L:Ws}{ws:Ws}(h:memN ws≠[]):smu L (memN ws) sNil<smu L [] ws:=by
 unfold smu;rw [if_pos ziP,if_neg h];have:(memN ws).length≤512:=zdS ws 0;simp only [List.length_nil];omega
theorem SInv.calm {Y:Tb}{L0 L:Ws}{ws:Ws}(h:SInv Y L0 L [] ws false)(hm:memN ws=[]):∀i,i<Y.n→zfh Y L i:=fun i hi=>by
 rcases h.refill.good rfl i hi with h1|h1|h1
 ·rw [hm] at h1;cases h1
 ·rw [zcl] at h1;cases h1
 ·exact h1
theorem zhd {Y:Tb}{L0 L:Ws}{i:Nat}{b:BitVec 64}(h:Reach Y L0 L)(hi:i<Y.n)(hb:∀j,b.getLsbD j=true→(zbQ Y L i).getLsbD j=true):Reach Y L0 (L.set i (nth L i &&& ~~~b)):= .step h hi hb
theorem zj1 {Y:Tb}{L:Ws}{i j:Nat}(h:(zb7 Y L i).getLsbD j=true):(zbQ Y L i).getLsbD j=true:=by simp [zbQ,h]
theorem zkg {Y:Tb}{L:Ws}{i j:Nat}(h:(zcN Y L i).getLsbD j=true):(zbQ Y L i).getLsbD j=true:=by simp [zbQ,h]
theorem zkp {Y:Tb}{L:Ws}{i j:Nat}(h:(zb9 Y L i).getLsbD j=true):(zbQ Y L i).getLsbD j=true:=by simp [zbQ,h]
def zel (Y:Tb)(L:Ws)(i k:Nat):BitVec 64:=if k=0 then zb7 Y L i else if k=1 then zcN Y L i else zb9 Y L i
theorem zj6 {Y:Tb}{L:Ws}{i j k:Nat}(h:(zel Y L i k).getLsbD j=true):(zbQ Y L i).getLsbD j=true:=by
 unfold zel at h
 split at h
 ·exact zj1 h
 ·split at h
  ·exact zkg h
  ·exact zkp h
def zaj (Y:Tb)(L:Ws)(i:Nat):Nat→Ws
 |0=>L
 |k+1=>(zaj Y L i k).set i (nth (zaj Y L i k) i &&& ~~~(zel Y (zaj Y L i k) i k))
theorem zbc {Y:Tb}{L:Ws}{i:Nat}:∀k,(zaj Y L i k).length=L.length
 |0=>rfl
 |k+1=>by rw [zaj,List.length_set,zbc k]
theorem zcD {Y:Tb}{L0 L:Ws}{i:Nat}(h:Reach Y L0 L)(hi:i<Y.n):∀k,Reach Y L0 (zaj Y L i k)
 |0=>h
 |k+1=>zhd (zcD h hi k) hi (fun j hj=>zj6 hj)
theorem zcs {Y:Tb}{L:Ws}{i j:Nat}(hi:i<L.length)(hj:j≠i):∀k,nth (zaj Y L i k) j=nth L j
 |0=>rfl
 |k+1=>by rw [zaj,zbd (by rw [zbc];exact hi),if_neg hj,zcs hi hj k]
theorem zdq {Y:Tb}{L:Ws}{i:Nat}(hi:i<L.length):∀k j,(nth (zaj Y L i k) i).getLsbD j=true→(nth L i).getLsbD j=true
 |0,_,h=>h
 |k+1,j,h=>by
  rw [zaj,zbd (by rw [zbc];exact hi),if_pos rfl,BitVec.getLsbD_and,Bool.and_eq_true] at h;exact zdq hi k j h.1
theorem zhy {Y:Tb}{L:Ws}{i:Nat}{b:BitVec 64}(hok:Y.Ok)(hi:i<Y.n)(hl:L.length=Y.n)(m:Nat):zel Y (L.set i b) i m=zel Y L i m:=by
 have h1:=zej (b:=b) hok hi hl;unfold zel;rw [h1.1,h1.2.1,h1.2.2]
theorem zd2 {Y:Tb}{L:Ws}{i:Nat}(hok:Y.Ok)(hi:i<Y.n)(hl:L.length=Y.n):∀k m,zel Y (zaj Y L i k) i m=zel Y L i m
 |0,_=>rfl
 |k+1,m=>by rw [zaj,zhy hok hi (by rw [zbc,hl]),zd2 hok hi hl k m]
theorem zhL {Y:Tb}{L:Ws}{i:Nat}(hok:Y.Ok)(hi:i<Y.n)(hl:L.length=Y.n):nth (zaj Y L i 3) i=nth L i &&& ~~~(zb7 Y L i) &&& ~~~(zcN Y L i) &&& ~~~(zb9 Y L i):=by
 have h:∀k,nth (zaj Y L i (k+1)) i=nth (zaj Y L i k) i &&& ~~~(zel Y L i k):=fun k=>by
  rw [zaj,zbd (by rw [zbc,hl];exact hi),if_pos rfl,zd2 hok hi hl]
 rw [h 2,h 1,h 0]
 rfl
theorem zdz {Y : Tb} {L : Ws} {i : Nat} (hi : i < L.length) : zaj Y L i 3 = L.set i (nth (zaj Y L i 3) i) := by
  have h : ∀ k, ∃ b, zaj Y L i k = L.set i b := by
    intro k
    induction k with
    | zero => exact ⟨nth L i, by
        apply List.ext_getElem?; intro j; by_cases hj : j = i
        · subst hj; rw [List.getElem?_set_self hi, zaj, List.getElem?_eq_getElem hi, zam hi]
        · rw [List.getElem?_set_ne (fun e => hj e.symm)]; rfl⟩
    | succ k ih =>
      obtain ⟨b, hb⟩ := ih; exact ⟨_, by rw [zaj, hb, List.set_set]⟩
  obtain ⟨b, hb⟩ := h 3; rw [hb, zbd hi, if_pos rfl]
theorem zeX {a b:BitVec 64}(hs:∀j,a.getLsbD j=true→b.getLsbD j=true)(hne:a≠b)(h0:a≠0#64):zbr b=0:=by
 unfold zbr;rw [if_neg];rintro ⟨hb,hz⟩
 have h1:∀j,b.getLsbD j=true→j=ctz b:=fun j hj=>by
  have:=zdy hb j;rw [hz,hj,BitVec.getLsbD_zero,Bool.true_and] at this;simpa using this.symm
 apply hne;apply BitVec.eq_of_getLsbD_eq;intro j hj
 cases hbj:b.getLsbD j with
 |false=>
  cases haj:a.getLsbD j with
  |false=>rfl
  |true=>rw [hs j haj] at hbj;cases hbj
 |true=>
  have e:=h1 j hbj;obtain ⟨k,hk⟩:∃k,a.getLsbD k=true:=⟨ctz a,(zcz h0 0).1⟩;rw [e,←h1 k (hs k hk)];exact hk
theorem SInv.step {Y : Tb} {L0 L : Ws} {i : Nat} {q : List Nat} {ws : Ws} (hok : Y.Ok) (h : SInv Y L0 L (i :: q) ws false) :
    SInv Y L0 (zaj Y L i 3) q (if nth (zaj Y L i 3) i = nth L i then ws else zbo Y (zaj Y L i 3) i ws) (decide (nth (zaj Y L i 3) i = 0#64)) := by
  have hi : i < Y.n := h.qn i (by simp); (have hil : i < L.length := by rw [h.len]; exact hi); have hn := hok.n; have hsub := zdq (Y := Y) hil 3; refine ⟨zcD h.reach hi 3, by rw [zbc, h.len], ?_, ?_, fun j hj => h.qn j (by simp [hj]), by have := h.q512; simp at this; omega, ?_, ?_⟩
  · split
    · exact h.ws8
    · rw [zds, h.ws8]
  · intro j hj hb
    split at hb
    · exact h.wsn j hj hb
    · rcases (zcc hok hi h.ws8 j hj).1 hb with h1 | ⟨_, h1 | h1 | h1⟩
      · exact h.wsn j hj h1
      · obtain ⟨x, hx, he⟩ := h1; have := (hok.ps i hi).2 x hx; omega
      · obtain ⟨x, hx, he⟩ := h1; have := (hok.inn i hi).2 x hx; omega
      · obtain ⟨x, hx, he⟩ := h1; have h2 := (hok.out i hi).2 x hx; rcases he with he | ⟨_, o, ho, he⟩
        · omega
        · have := (hok.inn x.to.toNat (by omega)).2 o ho; omega
  · intro hc; exact ⟨i, hi, of_decide_eq_true hc⟩
  · intro hc k hk; have h0 : nth (zaj Y L i 3) i ≠ 0#64 := of_decide_eq_false hc; by_cases hki : k = i
    · subst hki; refine .inr (.inr ⟨h0, ?_⟩); have e := zej (b := nth (zaj Y L k 3) k) hok hi h.len; rw [← zdz hil] at e; unfold zbQ; rw [e.1, e.2.1, e.2.2, zhL hok hi h.len]; apply BitVec.eq_of_getLsbD_eq; intro j hj; simp only [BitVec.getLsbD_and, BitVec.getLsbD_or, BitVec.getLsbD_not, BitVec.getLsbD_zero]
      cases (nth L k).getLsbD j <;> cases (zb7 Y L k).getLsbD j <;> cases (zcN Y L k).getLsbD j <;> cases (zb9 Y L k).getLsbD j <;> simp
    · have hkeep := zcs (Y := Y) hil hki 3; by_cases hsame : nth (zaj Y L i 3) i = nth L i
      · rw [if_pos hsame]
        have e : zaj Y L i 3 = L := by
          rw [zdz hil, hsame]; apply List.ext_getElem?; intro j; by_cases hj : j = i
          · subst hj; rw [List.getElem?_set_self hil, List.getElem?_eq_getElem hil, zam hil]
          · rw [List.getElem?_set_ne (fun e => hj e.symm)]
        rw [e]; rcases h.good rfl k hk with h1 | h1 | h1
        · rcases List.mem_cons.1 h1 with h1 | h1
          · exact absurd h1 hki
          · exact .inl h1
        · exact .inr (.inl h1)
        · exact .inr (.inr h1)
      · rw [if_neg hsame]; have h00 : only L i = 0 := zeX hsub hsame h0; (have honly : ∀ j, j ≠ i → only (zaj Y L i 3) j = only L j := fun j hj => by unfold only; rw [zcs hil hj]); rcases h.good rfl k hk with h1 | h1 | h1
        · rcases List.mem_cons.1 h1 with h1 | h1
          · exact absurd h1 hki
          · exact .inl h1
        · exact .inr (.inl ((zcc hok hi h.ws8 k (by omega)).2 (.inl h1)))
        · by_cases hnear : only (zaj Y L i 3) i ≠ 0 ∧ Near Y (zaj Y L i 3) i k
          · exact .inr (.inl ((zcc hok hi h.ws8 k (by omega)).2 (.inr hnear)))
          · refine .inr (.inr ⟨by rw [hkeep]; exact h1.1, ?_⟩)
            have ha : Alike Y L (zaj Y L i 3) k := by
              by_cases hz : only (zaj Y L i 3) i = 0
              · have hall : ∀ j, only (zaj Y L i 3) j = only L j := fun j => by
                  by_cases hj : j = i
                  · subst hj; rw [hz, h00]
                  · exact honly j hj
                exact ⟨fun x _ => ⟨fun _ => hall _, fun _ => hall _⟩, fun x _ => hall _, fun x _ => ⟨hall _, fun _ o _ _ => hall _⟩⟩
              · exact zfT hok hi hk hki honly h00 (fun hh => hnear ⟨hz, hh⟩)
            rw [zd0 ha (fun x hx => by have := (hok.out k hk).2 x hx; omega), hkeep]; exact h1.2
theorem zjd {Y:Tb}{L:Ws}{i:Nat}{q:List Nat}{ws:Ws}(hi:i<L.length)(hq:q.length≤511):smu (zaj Y L i 3) q (if nth (zaj Y L i 3) i=nth L i then ws else zbo Y (zaj Y L i 3) i ws)<smu L (i :: q) ws:=by
 have hb:=zfb L i (nth (zaj Y L i 3) i) hi;rw [←zdz hi] at hb;unfold smu;by_cases hs:nth (zaj Y L i 3) i=nth L i
 ·rw [if_pos hs];rw [hs] at hb;simp only [List.length_cons];omega
 ·rw [if_neg hs];have hlt:=zko (zdq (Y:=Y) hi 3) hs; (have h6:(if memN (zbo Y (zaj Y L i 3) i ws)=[] then 0 else 600)≤600:=by split <;> omega);simp only [List.length_cons];omega
def Ne (j:Nat):List Value:=[.int .i64 (j:Int)]
structure QuOk (w:World) (v:Value) (q:List Nat):Prop where
 sl:SlOf w v Ne 1 q
 cap:∀A n c,v= .slice A n c→n≤c
 lt:∀g,v.ownBlock=some g→∃cs t,w.heap[g]?=some (.cells cs t (0,0))
theorem SlOf.loc {α:Type}{w w':World}{v:Value}{enc:α→List Value}{size:Nat}{xs:List α}(h:SlOf w v enc size xs)(hl:∀g,v.ownBlock=some g→w'.heap[g]?=w.heap[g]?):SlOf w' v enc size xs:=by
 obtain ⟨A,cap,rfl,hc⟩:=h;refine ⟨A,cap,rfl,fun hp=>?_⟩;obtain ⟨g,off,rfl,hcs⟩:=hc hp;have hg:=hl g rfl
 exact ⟨g,off,rfl,fun i hi j hj=>by
  rw [←hcs i hi j hj]
  exact World.cell?_of_block (w:=w) hg⟩
@[irreducible] def Ent.qu (v:Value) (q:List Nat):Ent where
 fp g:=v.ownBlock=some g
 ok w:=QuOk w v q
 loc h k:=⟨k.sl.loc h,k.cap,fun g hg=>by rw [h g hg];exact k.lt g hg⟩
 lt h g hg:=by obtain ⟨cs,t,e⟩:=h.lt g hg;exact (Array.getElem?_eq_some_iff.1 e).1
 nd h g hg c:=by obtain ⟨cs,t,e⟩:=h.lt g hg;rw [e];simp
theorem Ent.qu_fp {v:Value}{q:List Nat}{g:Nat}:(Ent.qu v q).fp g↔v.ownBlock=some g:=by unfold Ent.qu;exact Iff.rfl
theorem Ent.qu_ok {v:Value}{q:List Nat}{w:World}:(Ent.qu v q).ok w↔QuOk w v q:=by unfold Ent.qu;exact Iff.rfl
theorem zjH (l:List Nat):nums l=l.flatMap Ne:=by
 unfold nums
 induction l with
 |nil=>rfl
 |cons x r ih=>simp_all [Ne]
theorem zeH {w:World}{v:Value}{e:TypeId}{q:List Nat}{n:Nat}(hn:n=q.length)(h:(Ent.sl v e 1 n (nums q)).ok w):(Ent.qu v q).ok w:=by
 have ho:=Ent.sl_ok.1 h;rw [zjH] at ho;refine Ent.qu_ok.2 ⟨SlOf.own (enc:=Ne) (size:=1) (fun _=>rfl) ho hn,?_,?_⟩
 ·rintro A m c rfl;rcases ho.2 with ⟨e,_⟩|⟨g,cap,cur,e,_,_,h1,_⟩
  ·cases e;exact Nat.le_refl _
  ·cases e;exact h1
 ·intro g hg;rcases ho.2 with ⟨e,_⟩|⟨g',cap,cur,e,_,h1,_⟩
  ·rw [e] at hg;cases hg
  ·rw [e] at hg;simp [Value.ownBlock] at hg;subst hg;exact ⟨_,_,h1⟩
section
variable {F:Fence}{P:Program}{n:Nat}{B D:World}{M:Nat→Prop}{Q:Exit→Act→World→Prop}{fs:SFs}{hs:HS}{o:Oper}{ops:Array Oper}{l:List Oper}{c:Code}{e:Exit}
theorem Hp.conv {w:World}{i:Nat}{a b:Ent}(h:Hp B M hs w)(hi:hs[i]?=some a)(hok:a.ok w→b.ok w)(hfp:∀g,b.fp g→a.fp g):Hp B M (hs.set i b) w:=
 h.updAt hi (Only.refl (fun _=>False) w) (fun _ _ h=>h.elim) (hok (h.get hi)) (fun g hg=> .inl (hfp g hg))
theorem TL.conv (i:Nat)(a b:Ent){hs':HS}(hi:hs[i]?=some a)(hok:∀w,a.ok w→b.ok w)(hfp:∀g,b.fp g→a.fp g)[hH:SetAt hs i b hs'](h:TL F P n B D M ops Q l fs hs'):TL F P n B D M ops Q l fs hs:=⟨fun a' w ha hw hm=>h.out a' w ha (by rw [←hH.h];exact hw.conv hi (hok w) hfp) hm⟩
theorem K.conv (i:Nat)(a b:Ent){hs':HS}(hi:hs[i]?=some a)(hok:∀w,a.ok w→b.ok w)(hfp:∀g,b.fp g→a.fp g)[hH:SetAt hs i b hs'](h:K n B D M Q e fs hs'):K n B D M Q e fs hs:=⟨fun a' w ha hw hm=>h.out a' w ha (by rw [←hH.h];exact hw.conv hi (hok w) hfp) hm⟩
theorem Yv.cw (i:Nat){t e:TypeId}{k:Nat}{x:Operand}{v:Value}{q:List Nat}[hT:TySl P t e k](ho:o.op= .call { callee:= .builtin .len,args:= #[x],argTypes:= #[t] })(hx:ev fs x=some v)(hi:hs[i]?=some (.qu v q)):Yv P n B M fs hs o (.int .i64 (q.length:Int)):=fun a w ha hw=>by
 obtain ⟨A,cap,rfl,_⟩:=(Ent.qu_ok.1 (hw.get hi)).sl;exact Yv.aq (B:=B) (M:=M) (hs:=hs) ho hx a w ha hw
theorem T.ce (i:Nat){v:Value}{x:Nat}{q:List Nat}(hi:hs[i]?=some (.qu v (x :: q)))(h:∀g off cap,v= .slice (some ⟨g,off,none⟩) (q.length+1) cap→q.length+1≤cap→T F P n B D M c Q fs hs):T F P n B D M c Q fs hs:=⟨fun a w ha hw hm=>by
 have hq:=Ent.qu_ok.1 (hw.get hi);obtain ⟨A,cap,rfl,hc⟩:=hq.sl;obtain ⟨g,off,rfl,_⟩:=hc (by simp)
 exact (h g off cap rfl (hq.cap _ _ _ rfl)).out a w ha hw hm⟩
theorem Yv.cp (i:Nat){t:TypeId}[hT:TyS P t]{g off p cap m:Nat}{x:Nat}{q:List Nat}{y:Operand}(ho:o.op= .load t y)(hy:ev fs y=some (.pointer (some ⟨g,p,none⟩)))(hi:hs[i]?=some (.qu (.slice (some ⟨g,off,none⟩) m cap) (x :: q)))(hp:p=off):Yv P n B M fs hs o (.int .i64 (x:Int)):=fun a w ha hw=>by
 subst hp;obtain ⟨A,cap',e,hc⟩:=(Ent.qu_ok.1 (hw.get hi)).sl
 cases e
 obtain ⟨g',off',e,hcs⟩:=hc (by simp)
 cases e
 have:=hcs 0 (by simp) 0 (by simp [Ne]);exact zcd ho (ha.ev hy) (by simpa [Ne] using this)
def sl1 (g off n:Nat):Value:= .slice (if n+1=1 then some ⟨g,off,none⟩ else some ⟨g,off+1,none⟩) n n
theorem Yv.cf {t e:TypeId}{x a b d:Operand}{g off m cap:Nat}[hT:TySl P t e 1](ho:o.op= .slice t x (some a) (some b) (some d))(hx:ev fs x=some (.slice (some ⟨g,off,none⟩) (m+1) cap))(ha:ev fs a=some (.int .i64 1))(hb:ev fs b=some (.int .i64 ((m+1:Nat):Int)))(hd:ev fs d=some (.int .i64 ((m+1:Nat):Int)))(hc:m+1≤cap):Yv P n B M fs hs o (sl1 g off m):=fun f w hf _=>by
 have hr:(Instr.sliceAt t (.slice (some ⟨g,off,none⟩) (m+1) cap) (some (.int .i64 1)) (some (.int .i64 ((m+1:Nat):Int))) (some (.int .i64 ((m+1:Nat):Int)))).run P w= .ok (sl1 g off m) w:=by
  have h:=hT.h;unfold zdt at h
  split at h
  ·rename_i el hU
   cases hi':P.info? el with
   |none=>rw [hi'] at h;cases h
   |some inf=>
    rw [hi'] at h;simp only [Option.map,Option.some.injEq,Prod.mk.injEq] at h;obtain ⟨rfl,hsz⟩:=h
    have h1:(Instr.sliceBounds true (m+1) cap (some (.int .i64 1)) (some (.int .i64 ((m+1:Nat):Int))) (some (.int .i64 ((m+1:Nat):Int)))).run P w= .ok (1,m+1,m+1) w:=by
     unfold Instr.sliceBounds;simp only [Sem.run_bind,run_sliceBound w .i64 ((m+1:Nat):Int) cap _ (by omega) (by omega),Result.andThen,Int.toNat_natCast,run_sliceBound w .i64 ((m+1:Nat):Int) (m+1) _ (by omega) (by omega),run_sliceBound w .i64 1 (m+1) _ (by omega) (by omega)]
     rfl
    obtain ⟨z,hz⟩:∃z:Int,z=((m+1:Nat):Int):=⟨_,rfl⟩;rw [←hz] at h1 ⊢;simp [Instr.sliceAt,Instr.slice,underlying,hU,h1,sizeOf,typeInfo,hi',hsz,sl1,Addr.add,Result.andThen]
  ·cases h
 unfold execOp;simp only [ho,hf.ev hx,hf.ev ha,hf.ev hb,hf.ev hd,Option.map];rw [Sem.run_bind,hr]
 rfl
end
theorem zhD {g off n b:Nat}(h:(sl1 g off n).ownBlock=some b):b=g:=by
 unfold sl1 at h
 split at h <;> (simp [Value.ownBlock] at h;exact h.symm)
theorem zj2 {w:World}{g off cap x:Nat}{q:List Nat}(h:(Ent.qu (.slice (some ⟨g,off,none⟩) (q.length+1) cap) (x :: q)).ok w):(Ent.qu (sl1 g off q.length) q).ok w:=by
 have hq:=Ent.qu_ok.1 h;obtain ⟨A,cap',e,hc⟩:=hq.sl
 cases e
 obtain ⟨g',off',e,hcs⟩:=hc (by simp)
 cases e
 refine Ent.qu_ok.2 ⟨⟨_,_,rfl,fun hl=>?_⟩,?_,fun b hb=>?_⟩
 ·refine ⟨g,off+1,by rw [if_neg (by omega)],fun i hi=>?_⟩;have:=hcs (i+1) (by simpa using hi);simp only [List.getElem_cons_succ] at this;rw [show off+1+i*1=off+(i+1) *1 by omega];exact this
 ·intro A n c e;unfold sl1 at e
  cases e
  exact Nat.le_refl _
 ·rw [zhD hb];exact hq.lt g rfl
def SPost (Y:Tb)(L0 L:Ws)(c:Bool):Prop:=Reach Y L0 L∧L.length=Y.n∧(c=true→∃i,i<Y.n∧nth L i=0#64)∧(c=false→∀i,i<Y.n→zfh Y L i)
def rid (k:Nat):Nat:=if k=0 then 60 else if k=1 then 61 else 62
instance (k:Nat):Enters Tryd.prog (rid k):=by
 unfold rid;split
 ·exact inferInstance
 ·split <;> exact inferInstance
def ruleFs:List Value:=[.func (.func 60) #[] #[], .func (.func 61) #[] #[], .func (.func 62) #[] #[]]
theorem zkt {k:Nat}(h:k<3):ruleFs[k]?=some (.func (.func (rid k)) #[] #[]):=by
 (obtain rfl|rfl|rfl:k=0∨k=1∨k=2:=by omega)
 all_goals rfl
theorem zgN (sp:Nat)(Y:Tb)(L:Ws)(c:Bool)(i:Nat)(z:Int)(hz:z=(i:Int))(hi:i<Y.n)(w:World)(h:StateAt w sp Y L c)(hok:Y.Ok)(k:Nat)(hk:k<3):Calls Tryd.prog (rid k) #[.pointer (some ⟨sp,0,none⟩), .int .i64 z] w fun e w'=>e= .returned (U (zel Y L i k))∧Below w.heap.size w w':=by
 (obtain rfl|rfl|rfl:k=0∨k=1∨k=2:=by omega)
 ·exact zgr sp Y L c i z hz hi w h hok
 ·exact zhi sp Y L c i z hz hi w h hok
 ·exact zga sp Y L c i z hz hi w h hok
abbrev sV (gl n:Nat):Value:= .slice (some ⟨gl,0,none⟩) n n
abbrev sG (gl:GL)(n:Nat):Value:= .slice (some ⟨gl.b,0,none⟩) n gl.c
abbrev sRow (sp:Nat)(gl:GL)(tp n:Nat)(c:Bool):Ent:= .row sp 87 [.pointer (some ⟨tp,0,none⟩),sG gl n, .bool c]
abbrev zaB (gl:GL)(n:Nat)(L:Ws):Ent:= .sl (sG gl n) 25 1 n (Ws.cells L)
theorem zjc (L:Ws):Ws.cells L=L.flatMap Le:=by
 induction L with
 |nil=>rfl
 |cons x r ih=>simp_all [Le,Ws.cells]
theorem StF.of {B w0 w:World}{M:Nat→Prop}{hs:HS}{sp:Nat}{gl:GL}{tp:Nat}{Y:Tb}{L:Ws}{c:Bool}(hw:Hp B M hs w)(ht:TablesAt w0 tp Y)(hfr:Fz w0 w)(htab:Tab w)(i j:Nat)(hi:hs[i]?=some (sRow sp gl tp Y.n c))(hj:hs[j]?=some (zaB gl Y.n L))(hl:L.length=Y.n):StF w0 w sp gl tp Y L c:=by
 have h1:=Ent.row_ok.1 (hw.get hi);have h2:=Ent.sl_ok.1 (hw.get hj);rw [zjc] at h2;have h3:=SlOf.own (enc:=Le) (size:=1) (fun _=>rfl) h2 hl.symm;rw [←hl] at h1 h3;exact ⟨ht,hfr,by rw [zaE h1];rfl,by rw [zaE h1];rfl,h3,hl,by rw [zaE h1];rfl,htab⟩
theorem zd1 {L:Ws}{i p:Nat}{b:BitVec 64}(hp:p=i):(Ws.cells L).set p (U b)=Ws.cells (L.set i b):=Ws.put hp
theorem zeA (w0:World)(sp:Nat)(gl:GL)(tp:Nat)(Y:Tb)(L:Ws)(c:Bool)(v:Value)(q:List Nat)(w:World)(ht:TablesAt w0 tp Y)(hok:Y.Ok)(hfr:Fz w0 w)(htab:Tab w)(hes:Hp w (fps [sRow sp gl tp Y.n c,zaB gl Y.n L,Ent.qu v q]) [sRow sp gl tp Y.n c,zaB gl Y.n L,Ent.qu v q] w)(hMN:∀g,fps [sRow sp gl tp Y.n c,zaB gl Y.n L,Ent.qu v q] g→¬IsC w0 g)(hM0:¬fps [sRow sp gl tp Y.n c,zaB gl Y.n L,Ent.qu v q] 0)(hinv:SInv Y L L q sNil c):Calls Tryd.prog 40 #[.pointer (some ⟨sp,0,none⟩),v] w fun e w'=>∃y:Ws×Bool,SPost Y L y.1 y.2∧e= .returned (.tuple #[])∧Hp w (fps [sRow sp gl tp Y.n c,zaB gl Y.n L,Ent.qu v q]) [sRow sp gl tp Y.n y.2,zaB gl Y.n y.1] w':=by
 have hn512:=hok.n;refine zaa (M:=fps [sRow sp gl tp Y.n c,zaB gl Y.n L,Ent.qu v q]) (hs:=[sRow sp gl tp Y.n c,zaB gl Y.n L,Ent.qu v q]) Tryd.func40 rfl rfl rfl hes ?_;refine T.scope ?_;refine T.sr ?_;refine TL.y (Yv.bT rfl rfl) ?_; (refine TL.ew (Wt.none rfl) rfl rfl (Ew.alloc rfl) ?_;rintro _ _ ⟨g4,rfl,rfl⟩); (refine TL.ax (Wt.none rfl) rfl (Ew.aj 0 rfl rfl rfl rfl rfl rfl) ?_;rintro _ _ ⟨rfl,rfl⟩);refine TL.nx ?_; (refine TL.ew (Wt.none rfl) rfl rfl (Ew.alloc rfl) ?_;rintro _ _ ⟨g5,rfl,rfl⟩);refine TL.ns (T.seq ?_);refine T.label ?_;refine K.seq (T.block ?_);refine T.loop (ι:=Ws×List Nat×Ws×Bool×Value) (fun x=>[(0, .pointer (some ⟨sp,0,none⟩)),(4, .pointer (some ⟨g4,0,none⟩)),(5, .pointer (some ⟨g5,0,none⟩)),(1,x.2.2.2.2)]) (fun x=>[.row g5 112 (Ws.cells x.2.2.1), .row g4 126 ruleFs,sRow sp gl tp Y.n x.2.2.2.1,zaB gl Y.n x.1,Ent.qu x.2.2.2.2 x.2.1]) (fun x=>SInv Y L x.1 x.2.1 x.2.2.1 x.2.2.2.1) (fun x=>smu x.1 x.2.1 x.2.2.1) (L,q,sNil,c,v) ?_ ?_ ?_ ?_
 ·exact hinv
 ·exact (by repeat (first|exact Sub.nil|refine Sub.cons rfl ?_))
 ·exact Sx
 ·intro x hphi;obtain ⟨L1,q1,ws1,c1,v1⟩:=x;dsimp only at hphi ⊢;have hws8:=hphi.ws8;refine T.seq (T.sr ?_);refine TL.run 2 rfl ?_;refine TL.y (Yv.fieldAddr rfl rfl) ?_;refine TL.y (Yv.ac 2 rfl rfl rfl rfl) ?_;refine TL.run 1 rfl ?_;refine TL.ns ?_;refine T.cond rfl (fun h1=>?_) (fun h1=>?_)
  ·have p1:=h1; (try simp only [nfB] at p1); (obtain rfl:c1=false:=by simpa using p1);refine T.skip (K.seq (T.block ?_));refine T.bg (ι:=List Nat×Ws×Value) (fun y=>[(0, .pointer (some ⟨sp,0,none⟩)),(4, .pointer (some ⟨g4,0,none⟩)),(5, .pointer (some ⟨g5,0,none⟩)),(1,y.2.2)]) (fun y=>[.row g5 112 (Ws.cells y.2.1), .row g4 126 ruleFs,sRow sp gl tp Y.n false,zaB gl Y.n L1,Ent.qu y.2.2 y.1]) (fun y=>SInv Y L L1 y.1 y.2.1 false∧y.1≠[]∧smu L1 y.1 y.2.1≤smu L1 q1 ws1) ?_ ?_
   ·skip;refine T.sr ?_;refine TL.run 1 rfl ?_;refine TL.y (Yv.cw 4 rfl rfl rfl) ?_;refine TL.run 1 rfl ?_;refine TL.ns ?_;refine T.cond rfl (fun h2=>?_) (fun h2=>?_)
    ·have p2:=h2; (try simp only [nfB] at p2);obtain rfl:q1=[]:=List.eq_nil_of_length_eq_zero (by omega);refine T.sr ?_;refine TL.y (Yv.ao 0 rfl rfl rfl (by rw [List.length_map,hws8])) ?_; (refine TL.ew (Wt.none rfl) rfl rfl (Ew.bc rfl rfl rfl (fun w hw=>zgJ ws1 hws8 w (htab.kept hw hM0))) ?_;rintro v20 _ ⟨_, -,rfl,rfl⟩);dsimp only [List.cons_append,List.nil_append];refine TL.y (Yv.build rfl rfl) ?_;refine TL.run 1 rfl ?_; (refine TL.ax (Wt.none rfl) rfl (Ew.aj 1 rfl rfl rfl rfl rfl (by rw [List.length_map,hws8];rfl)) ?_;rintro _ _ ⟨rfl,rfl⟩);refine TL.nx ?_;refine TL.run 1 rfl ?_;refine TL.y (Yv.bN 0 rfl rfl rfl) ?_;refine TL.run 1 rfl ?_;refine TL.ns ?_;refine T.cond rfl (fun h3=>?_) (fun h3=>?_)
     ·have p3:=h3; (try simp only [nfB] at p3);have hfin:SPost Y L L1 false:=⟨hphi.reach,hphi.len,(fun hh=>by cases hh),fun _=>hphi.calm (List.eq_nil_of_length_eq_zero (by omega))⟩;refine T.exit (K.ab ?_);refine K.aR rfl ?_;refine K.ab (K.ae ?_);refine K.be ?_;exact K.bs rfl (fun w' hw=>⟨(_,_),hfin,rfl,hw.sub Sx⟩)
     ·have p3:=h3; (try simp only [nfB] at p3); (have hmem:memN ws1≠[]:=by intro hh;rw [hh] at p3;exact p3 rfl);refine T.skip ?_;refine K.conv 0 _ (Ent.qu v20 (memN ws1)) rfl (fun w hh=>zeH rfl hh) (fun g hg=>Ent.sl_fp.2 (Ent.qu_fp.1 hg)) ?_;refine K.bn (List.perm_append_comm (l₁:=[Ent.qu v20 (memN ws1)])) ?_;exact K.aw (memN ws1,sNil,v20) ⟨hphi.refill,hmem,Nat.le_of_lt (zg9 hmem)⟩ (by repeat (first|exact Sub.nil|refine Sub.cons rfl ?_)) Sx
    ·have p2:=h2; (try simp only [nfB] at p2);refine T.skip ?_;exact K.aw (q1,ws1,v1) ⟨hphi,fun hh=>p2 (by rw [show q1=[] from hh];rfl),Nat.le_refl _⟩ (by repeat (first|exact Sub.nil|refine Sub.cons rfl ?_)) Sx
   ·skip;intro y hphi;obtain ⟨q2,ws2,v2⟩:=y;dsimp only at hphi ⊢;obtain ⟨hinv2,hq2,hmu2⟩:=hphi; (obtain ⟨i,r,rfl⟩:∃i r,q2=i :: r:=by cases q2 with|nil=>exact absurd rfl hq2|cons a b=>exact ⟨a,b,rfl⟩);have hws8:=hinv2.ws8;have hi:i<Y.n:=hinv2.qn i (by simp);have hl1:=hinv2.len; (have hr511:r.length≤511:=by have:=hinv2.q512;simp at this;omega);have hstep:=hinv2.step hok;have hsmu:=zjd (Y:=Y) (L:=L1) (i:=i) (q:=r) (ws:=ws2) (by omega) hr511;refine T.ce 4 rfl ?_;rintro gq oq capq rfl hcq;refine T.sr ?_;refine TL.run 1 rfl ?_;refine TL.y (Yv.ag rfl rfl rfl (show (0:Int)=((0:Nat):Int) from rfl) (by omega)) ?_;refine TL.y (Yv.cp 4 rfl rfl rfl (by omega)) ?_;refine TL.run 1 rfl ?_;refine TL.nx ?_;refine TL.run 2 rfl ?_;refine TL.y (Yv.aq rfl rfl) ?_;refine TL.run 1 rfl ?_;refine TL.y (Yv.aq rfl rfl) ?_;refine TL.y (Yv.cf rfl rfl rfl rfl rfl hcq) ?_;refine TL.run 1 rfl ?_;refine TL.ns (T.seq ?_);have hld0:(Ws.cells L1)[0+i*1]?=some (U (nth L1 i)):=Ws.get (by omega) (by omega);refine T.region ?_;refine TL.conv 4 _ (Ent.qu (sl1 gq oq r.length) r) rfl (fun w hh=>zj2 hh) (fun g hg=>by rw [zhD (Ent.qu_fp.1 hg)];exact Ent.qu_fp.2 rfl) ?_;refine TL.run 2 rfl ?_;refine TL.y (Yv.fieldAddr rfl rfl) ?_;refine TL.y (Yv.ac 2 rfl rfl rfl rfl) ?_;refine TL.run 1 rfl ?_;refine TL.y (Yv.ag rfl rfl rfl rfl (by omega)) ?_;refine TL.y (Yv.aI 3 rfl rfl rfl hld0) ?_;refine TL.run 1 rfl ?_;refine TL.ns ?_;refine T.cut (gs:=[(0, .pointer (some ⟨sp,0,none⟩)),(4, .pointer (some ⟨g4,0,none⟩)),(5, .pointer (some ⟨g5,0,none⟩)),(1,sl1 gq oq r.length),(6, .int .i64 (i:Int)),(7,U (nth L1 i))]) (hs':=[.row g5 112 (Ws.cells ws2), .row g4 126 ruleFs,sRow sp gl tp Y.n false,zaB gl Y.n (zaj Y L1 i 3),Ent.qu (sl1 gq oq r.length) r]) ?_ ?_
    ·skip;refine T.sr ?_;refine TL.y (Yv.ao 1 rfl rfl rfl rfl) ?_;refine TL.run 1 rfl ?_;refine TL.ns (T.block ?_);refine T.loop (ι:=Nat) (fun k=>[(0, .pointer (some ⟨sp,0,none⟩)),(4, .pointer (some ⟨g4,0,none⟩)),(5, .pointer (some ⟨g5,0,none⟩)),(1,sl1 gq oq r.length),(6, .int .i64 (i:Int)),(7,U (nth L1 i)),(41, .agg ruleFs.toArray),(42, .int .i64 (k:Int))]) (fun k=>[.row g5 112 (Ws.cells ws2), .row g4 126 ruleFs,sRow sp gl tp Y.n false,zaB gl Y.n (zaj Y L1 i k),Ent.qu (sl1 gq oq r.length) r]) (fun k=>k≤3) (fun k=>3 - k) 0 ?_ ?_ ?_ ?_
     ·omega
     ·exact (by repeat (first|exact Sub.nil|refine Sub.cons rfl ?_))
     ·exact Sx
     ·intro k hphi;refine T.sr ?_;refine TL.run 1 rfl ?_;refine TL.ns (T.seq ?_);refine T.cond rfl (fun h4=>?_) (fun h4=>?_)
      ·have p4:=h4; (try simp only [nfB] at p4);have hrl:=zbc (Y:=Y) (L:=L1) (i:=i) k;have hld:(Ws.cells (zaj Y L1 i k))[0+i*1]?=some (U (nth (zaj Y L1 i k) i)):=Ws.get (by omega) (by omega);have hrid:=zkt (k:=k) (by omega);refine T.skip (K.seq (T.seq (T.block (T.sr ?_))));refine TL.y (Yv.bL rfl rfl rfl rfl (by omega) hrid) ?_;refine TL.run 1 rfl ?_;refine TL.ns (T.seq (T.sr ?_));refine TL.run 2 rfl ?_;refine TL.y (Yv.fieldAddr rfl rfl) ?_;refine TL.y (Yv.ac 2 rfl rfl rfl rfl) ?_;refine TL.run 1 rfl ?_;refine TL.y (Yv.ag rfl rfl rfl rfl (by omega)) ?_;refine TL.y (Yv.aI 3 rfl rfl rfl hld) ?_;refine TL.run 1 rfl ?_;refine TL.ns ?_;refine T.cond rfl (fun h5=>?_) (fun h5=>?_)
       ·have p5:=h5; (try simp only [nfB] at p5);have hfin:SPost Y L (zaj Y L1 i k) true:=⟨zcD hinv2.reach hi k,by omega,fun _=>⟨i,hi,BitVec.eq_of_toNat_eq (by show _=0;omega)⟩,fun hh=>by cases hh⟩;refine T.sr ?_;refine TL.run 2 rfl ?_;refine TL.y (Yv.fieldAddr rfl rfl) ?_; (refine TL.ax (Wt.none rfl) rfl (Ew.aB 2 rfl rfl rfl rfl (by first|omega|simp)) ?_;rintro _ _ ⟨rfl,rfl⟩);refine TL.ns (T.exit (K.ab ?_));refine K.aR rfl ?_;refine K.ab (K.ab ?_);refine K.aR rfl ?_;refine K.ab ?_;refine K.aR rfl ?_;refine K.ab (K.ae ?_);refine K.be ?_;exact K.bs rfl (fun w' hw=>⟨(_,_),hfin,rfl,hw.sub Sx⟩)
       ·have p5:=h5; (try simp only [nfB] at p5);refine T.skip (K.seq ?_);refine T.ay (.still 0 (.still 1 (.still 2 (.still 3 (.still 4 (.still 5 (.still 7 (.still 8 (.still 9 (.two 6 10 (.eff 10 (.still 11 (.still 12 (.eff 13 .done)))) (.eff 6 (.still 11 (.still 12 (.eff 13 .done)))))))))))))) (List.eraseIdx _ 3) (by kernel_rfl) (List.eraseIdx_sublist _ _) ?_;refine TS.run 2 rfl ?_;refine TS.y rfl (Yv.fieldAddr rfl rfl) ?_;refine TS.y rfl (Yv.ac 2 rfl rfl rfl rfl) ?_;refine TS.run 1 rfl ?_;refine TS.y rfl (Yv.ag rfl rfl rfl rfl (by omega)) ?_;refine TS.run 3 rfl ?_;refine TS.two ?_ ?_
        ·skip;refine TSo.yv rfl (Wt.none rfl) rfl rfl (Yv.aI 3 rfl rfl rfl hld) Sx ?_;refine TS.eff ?_; (refine TSo.ew rfl (Wt.none rfl) rfl rfl (Ew.af rfl rfl rfl (fun w hw=>zgN sp Y (zaj Y L1 i k) false i _ rfl hi w (StF.of hw ht (Fz.hp hfr hw hMN) (htab.kept hw hM0) 2 3 rfl rfl (by omega)).st hok k (by omega))) ?_;rintro _ _ ⟨rfl,rfl⟩;refine ⟨Sx,?_⟩);refine TS.y rfl (Yv.bp rfl rfl rfl) ?_;refine TS.y rfl (Yv.ag rfl rfl rfl rfl (by omega)) ?_;refine TS.eff ?_; (refine TSo.ax rfl (Wt.none rfl) rfl (Ew.aF 3 (Ws.cells (zaj Y L1 i (k+1))) rfl rfl rfl rfl (by rw [List.length_map];omega) (zd1 (by omega))) ?_;rintro _ _ ⟨rfl,rfl⟩;refine ⟨Sx,?_⟩);refine TS.done ?_;refine K.ad (K.seq (T.region ?_));refine TL.y (Yv.al rfl rfl rfl (by omega)) ?_;refine TL.run 1 rfl ?_;refine TL.nil ?_;exact K.next (k+1) (by omega) (by omega) (by repeat (first|exact Sub.nil|refine Sub.cons rfl ?_)) Sx
        ·skip; (refine TSo.ew rfl (Wt.none rfl) rfl rfl (Ew.af rfl rfl rfl (fun w hw=>zgN sp Y (zaj Y L1 i k) false i _ rfl hi w (StF.of hw ht (Fz.hp hfr hw hMN) (htab.kept hw hM0) 2 3 rfl rfl (by omega)).st hok k (by omega))) ?_;rintro _ _ ⟨rfl,rfl⟩;refine ⟨Sx,?_⟩);refine TS.eff ?_;refine TSo.yv rfl (Wt.none rfl) rfl rfl (Yv.aI 3 rfl rfl rfl hld) Sx ?_;refine TS.y rfl (Yv.bp rfl rfl rfl) ?_;refine TS.y rfl (Yv.ag rfl rfl rfl rfl (by omega)) ?_;refine TS.eff ?_; (refine TSo.ax rfl (Wt.none rfl) rfl (Ew.aF 3 (Ws.cells (zaj Y L1 i (k+1))) rfl rfl rfl rfl (by rw [List.length_map];omega) (zd1 (by omega))) ?_;rintro _ _ ⟨rfl,rfl⟩;refine ⟨Sx,?_⟩);refine TS.done ?_;refine K.ad (K.seq (T.region ?_));refine TL.y (Yv.al rfl rfl rfl (by omega)) ?_;refine TL.run 1 rfl ?_;refine TL.nil ?_;exact K.next (k+1) (by omega) (by omega) (by repeat (first|exact Sub.nil|refine Sub.cons rfl ?_)) Sx
      ·have p4:=h4; (try simp only [nfB] at p4);refine T.exit (K.ab (K.ab (K.ae ?_)));exact K.at (by repeat (first|exact Sub.nil|refine Sub.cons rfl ?_)) (by rw [show 3=k by omega];exact Sx)
    ·skip;refine T.cut (gs:=[(0, .pointer (some ⟨sp,0,none⟩)),(4, .pointer (some ⟨g4,0,none⟩)),(5, .pointer (some ⟨g5,0,none⟩)),(1,sl1 gq oq r.length),(6, .int .i64 (i:Int)),(7,U (nth L1 i))]) (hs':=[.row g5 112 (Ws.cells ws2), .row g4 126 ruleFs,sRow sp gl tp Y.n (decide (nth (zaj Y L1 i 3) i=0#64)),zaB gl Y.n (zaj Y L1 i 3),Ent.qu (sl1 gq oq r.length) r]) ?_ ?_
     ·skip;refine T.seq ?_;have hrl3:=zbc (Y:=Y) (L:=L1) (i:=i) 3;have hld3:(Ws.cells (zaj Y L1 i 3))[0+i*1]?=some (U (nth (zaj Y L1 i 3) i)):=Ws.get (by omega) (by omega);refine T.region ?_;refine TL.run 2 rfl ?_;refine TL.y (Yv.fieldAddr rfl rfl) ?_;refine TL.y (Yv.ac 2 rfl rfl rfl rfl) ?_;refine TL.run 1 rfl ?_;refine TL.y (Yv.ag rfl rfl rfl rfl (by omega)) ?_;refine TL.y (Yv.aI 3 rfl rfl rfl hld3) ?_;refine TL.run 1 rfl ?_;refine TL.ns ?_;refine T.cond rfl (fun h6=>?_) (fun h6=>?_)
      ·have p6:=h6; (try simp only [nfB] at p6);have hz3:nth (zaj Y L1 i 3) i=0#64:=BitVec.eq_of_toNat_eq (by show _=0;omega);refine T.region ?_;refine TL.run 2 rfl ?_;refine TL.y (Yv.fieldAddr rfl rfl) ?_; (refine TL.ax (Wt.none rfl) rfl (Ew.aB 2 rfl rfl rfl rfl (by first|omega|simp)) ?_;rintro _ _ ⟨rfl,rfl⟩);refine TL.nil ?_; (rw [decide_eq_true hz3];exact K.at (by repeat (first|exact Sub.nil|refine Sub.cons rfl ?_)) Sx)
      ·have p6:=h6; (try simp only [nfB] at p6); (have hz3n:¬nth (zaj Y L1 i 3) i=0#64:=fun hh=>by rename_i hh2;exact (by assumption:¬((nth (zaj Y L1 i 3) i).toNat:Int)=0) (by rw [hh];rfl));refine T.skip ?_; (rw [decide_eq_false hz3n];exact K.at (by repeat (first|exact Sub.nil|refine Sub.cons rfl ?_)) Sx)
     ·skip;refine T.seq ?_;have hrl3:=zbc (Y:=Y) (L:=L1) (i:=i) 3;have hld3:(Ws.cells (zaj Y L1 i 3))[0+i*1]?=some (U (nth (zaj Y L1 i 3) i)):=Ws.get (by omega) (by omega);refine T.region ?_;refine TL.run 2 rfl ?_;refine TL.y (Yv.fieldAddr rfl rfl) ?_;refine TL.y (Yv.ac 2 rfl rfl rfl rfl) ?_;refine TL.run 1 rfl ?_;refine TL.y (Yv.ag rfl rfl rfl rfl (by omega)) ?_;refine TL.y (Yv.aI 3 rfl rfl rfl hld3) ?_;refine TL.run 2 rfl ?_;refine TL.ns ?_;refine T.cond rfl (fun h7=>?_) (fun h7=>?_)
      ·have p7:=h7; (try simp only [nfB] at p7);have hch:¬nth (zaj Y L1 i 3) i=nth L1 i:=fun hh=>(by assumption:¬((nth (zaj Y L1 i 3) i).toNat:Int)=((nth L1 i).toNat:Int)) (by rw [hh]);refine T.region ?_;refine TL.run 2 rfl ?_; (refine TL.ew (Wt.none rfl) rfl rfl (Ew.bv 0 rfl rfl rfl rfl (fun w hw=>zfN w0 sp gl tp g5 Y (zaj Y L1 i 3) _ ws2 hws8 i _ rfl hi w (StF.of hw ht (Fz.hp hfr hw hMN) (htab.kept hw hM0) 2 3 rfl rfl (by omega)) hok (by rcases hw.new _ (List.mem_of_getElem? (i:=0) rfl) g5 (Ent.row_fp.2 rfl) with hh|hh;exact hMN _ hh;exact (fun hc=>by have h9:=hfr _ hc;obtain ⟨_,_,_,h8⟩:=hc;rw [h8] at h9;have:=(Array.getElem?_eq_some_iff.1 h9).1;omega)) (by intro hz0;subst hz0;rcases hw.new _ (List.mem_of_getElem? (i:=0) rfl) 0 (Ent.row_fp.2 rfl) with hh|hh;exact hM0 hh;have:=htab.size;omega) (fun hh=>hw.ne (i:=0) (j:=2) (by omega) rfl rfl (g:=g5) (Ent.row_fp.2 rfl) (Ent.row_fp.2 hh.symm)) (fun hh=>hw.ne (i:=0) (j:=3) (by omega) rfl rfl (g:=g5) (Ent.row_fp.2 rfl) (Ent.sl_fp.2 (congrArg some hh))) (hw.get (i:=0) rfl))) ?_;rintro _ _ ⟨-, -,rfl,rfl⟩);refine TL.nil (K.ad ?_);exact K.next (zaj Y L1 i 3,r,(if nth (zaj Y L1 i 3) i=nth L1 i then ws2 else zbo Y (zaj Y L1 i 3) i ws2),decide (nth (zaj Y L1 i 3) i=0#64),sl1 gq oq r.length) hstep (by dsimp only;omega) (by repeat (first|exact Sub.nil|refine Sub.cons rfl ?_)) (by dsimp only;first|(rw [if_neg hch];exact Sx)|(rw [if_pos hsm];exact Sx))
      ·have p7:=h7; (try simp only [nfB] at p7);have hsm:nth (zaj Y L1 i 3) i=nth L1 i:=BitVec.eq_of_toNat_eq (by omega);refine T.skip (K.ad ?_);exact K.next (zaj Y L1 i 3,r,(if nth (zaj Y L1 i 3) i=nth L1 i then ws2 else zbo Y (zaj Y L1 i 3) i ws2),decide (nth (zaj Y L1 i 3) i=0#64),sl1 gq oq r.length) hstep (by dsimp only;omega) (by repeat (first|exact Sub.nil|refine Sub.cons rfl ?_)) (by dsimp only;first|(rw [if_neg hch];exact Sx)|(rw [if_pos hsm];exact Sx))
  ·have p1:=h1; (try simp only [nfB] at p1); (obtain rfl:c1=true:=by simpa using p1);have hfin:SPost Y L L1 true:=⟨hphi.reach,hphi.len,hphi.bad,fun hh=>by cases hh⟩;refine T.exit (K.ab (K.ab (K.ae ?_)));refine K.be ?_;exact K.bs rfl (fun w' hw=>⟨(_,_),hfin,rfl,hw.sub Sx⟩)
def zaz (N:Nat)(f:Nat→Int):List Value:=(List.range N).map fun d=> .int .i64 (f d)
theorem zaK {N:Nat}{f:Nat→Int}:(zaz N f).length=N:=by simp [zaz]
theorem zev {N:Nat}{f:Nat→Int}{d p:Nat}(hp:p=d)(hd:d<N):(zaz N f)[p]?=some (.int .i64 (f d)):=by subst hp;simp [zaz,hd]
theorem zg5 {N:Nat}{f f':Nat→Int}{d p:Nat}{v:Int}(hp:p=d)(hd:d<N)(h1:f' d=v)(h2:∀e,e≠d→f' e=f e):(zaz N f).set p (.int .i64 v)=zaz N f':=by
 subst hp h1;apply List.ext_getElem?;intro e;unfold zaz;by_cases he:e=p
 ·subst he;rw [List.getElem?_set_self (by simpa using hd)];simp [hd]
 ·rw [List.getElem?_set_ne (fun h=>he h.symm)];simp only [List.getElem?_map,List.getElem?_range];by_cases h52:e<N
  ·simp [h52,h2 e he]
  ·simp [h52]
def tcells (s:Value)(ix:List Value)(tot:Int)(p c i f:Value):List Value:=s :: (ix++[.int .i64 tot,p,c,i,f])
instance (N:Nat) (f:Nat→Int):OneCs (zaz N f):=⟨fun x hx=>by obtain ⟨b,_,rfl⟩:=List.mem_map.1 hx;rfl⟩
instance (s:Value) (ix:List Value) (tot:Int) (p c i f:Value) [h1:OneC s] [h2:OneCs ix] [h3:OneC p] [h4:OneC c] [h5:OneC i] [h6:OneC f]:OneCs (tcells s ix tot p c i f):=by unfold tcells;exact inferInstance
section
variable {s p c i f:Value}{ix:List Value}{tot:Int}
theorem zeu (hix:ix.length=512):(tcells s ix tot p c i f).length=518:=by simp [tcells,hix]
theorem zaM (hix:ix.length=512){q j:Nat}(hq:q=513+j):(tcells s ix tot p c i f)[q]?=[.int .i64 tot,p,c,i,f][j]?:=by
 subst hq;unfold tcells;rw [show 513+j=(512+j)+1 by omega,List.getElem?_cons_succ,List.getElem?_append_right (by omega),hix,Nat.add_sub_cancel_left]
theorem zfQ (hix:ix.length=512){q j:Nat}(hj:j<512)(hq:q=1+j):(tcells s ix tot p c i f)[q]?=ix[j]?:=by
 subst hq;unfold tcells;rw [show 1+j=j+1 by omega,List.getElem?_cons_succ,List.getElem?_append_left (by omega)]
theorem zfD (hix:ix.length=512){q j:Nat}{v:Value}(hj:j<512)(hq:q=1+j):(tcells s ix tot p c i f).set q v=tcells s (ix.set j v) tot p c i f:=by
 subst hq;unfold tcells;rw [show 1+j=j+1 by omega,List.set_cons_succ,List.set_append_left _ _ (by omega)]
theorem zeO (hix:ix.length=512){q:Nat}{t:Int}(hq:q=513):(tcells s ix tot p c i f).set q (.int .i64 t)=tcells s ix t p c i f:=by
 subst hq;unfold tcells;rw [show 513=512+1 from rfl,List.set_cons_succ,List.set_append_right _ _ (by omega),hix]
 rfl
end
def ixAt (ds:List Dx):Nat→Nat→Int
 |0=>fun _=>0
 |k+1=>fun j=>if j=(nth ds k).st.toNat then (k:Int)+1 else ixAt ds k j
def za6 (ds:List Dx):Nat→Int
 |0=>0
 |k+1=>za6 ds k+((nth ds k).chs.length:Int)
def upd {α:Type}(f:Nat→α)(a:Nat)(x:α):Nat→α:=fun j=>if j=a then x else f j
def ents {α:Type}(e:TypeId)(size n:Nat)(vv:Nat→Value)(enc:α→List Value)(f:Nat→List α):HS:=(List.range n).map fun j=> .sl (vv j) e size (f j).length ((f j).flatMap enc)
theorem zbv {α:Type}{e:TypeId}{size n:Nat}{vv:Nat→Value}{enc:α→List Value}{f:Nat→List α}:(ents e size n vv enc f).length=n:=by simp [ents]
theorem zcH {α:Type}{e:TypeId}{size n:Nat}{vv:Nat→Value}{enc:α→List Value}{f:Nat→List α}{a:Nat}(h:a<n):(ents e size n vv enc f)[a]?=some (.sl (vv a) e size (f a).length ((f a).flatMap enc)):=by simp [ents,h]
theorem zbu {α:Type}{e:TypeId}{size n:Nat}{vv:Nat→Value}{enc:α→List Value}{f:Nat→List α}{a:Nat}{v:Value}{x:α}(h:a<n):(ents e size n vv enc f).set a (.sl v e size ((f a).length+1) ((f a).flatMap enc++enc x))=ents e size n (upd vv a v) enc (upd f a (f a++[x])):=by
 apply List.ext_getElem?;intro j;unfold ents;by_cases hj:j=a
 ·subst hj;rw [List.getElem?_set_self (by simpa using h)];simp [h,upd]
 ·rw [List.getElem?_set_ne (fun e=>hj e.symm)];simp only [List.getElem?_map,List.getElem?_range,upd,if_neg hj];by_cases h52:j<n
  ·simp [h52,hj]
  ·simp [h52]
theorem zb0 {n:Nat}{vv:Nat→Value}{a q:Nat}{v:Value}(hq:q=a)(h:a<n):((List.range n).map vv).set q v=(List.range n).map (upd vv a v):=by
 subst hq;apply List.ext_getElem?;intro j;by_cases hj:j=q
 ·subst hj;rw [List.getElem?_set_self (by simpa using h)];simp [h,upd]
 ·rw [List.getElem?_set_ne (fun e=>hj e.symm)];simp only [List.getElem?_map,List.getElem?_range];by_cases h52:j<n
  ·simp [h52,upd,hj]
  ·simp [h52]
theorem zed {n:Nat}{vv:Nat→Value}{a q:Nat}(hq:q=a)(h:a<n):((List.range n).map vv)[q]?=some (vv a):=by subst hq;simp [h]
theorem ziQ (f:Nat→Value)(z:Value)(n:Nat):zaQ f z n 0=(List.range n).map fun _=>z:=by
 unfold zaQ;apply List.ext_getElem?;intro j;by_cases h:j<n
 ·simp [h,List.getElem?_replicate]
 ·simp [h,List.getElem?_replicate]
theorem fillT (g1 g3 g5 g7 g9 n:Nat):Fill (zdW Tryd.prog 92) ([.slice none 0 0]++List.replicate 513 (.int .i64 0)++List.replicate 4 (.slice none 0 0)) [(0,sV g1 n),(3,sV g3 n),(4,sV g5 n),(5,sV g7 n),(6,sV g9 n)] (tcells (sV g1 n) (zaz 512 fun _=>0) 0 (sV g3 n) (sV g5 n) (sV g7 n) (sV g9 n)):=⟨by kernel_rfl⟩
structure Pb.Good (P:Pb):Prop where
 n:P.ds.length≤512
 st:∀d∈P.ds,0≤d.st∧d.st≤511
 chs:∀d∈P.ds,d.chs.length≤52∧∀c∈d.chs,2≤c∧c≤51
 inc:∀i j,i<j→j<P.ds.length→(nth P.ds i).st<(nth P.ds j).st
 ps:∀x∈P.ps,x.ok=true∧(∃i,i<P.ds.length∧x.a=(nth P.ds i).st)∧∃i,i<P.ds.length∧x.b=(nth P.ds i).st
 ls:∀x∈P.ls,x.ok=true∧(∃i,i<P.ds.length∧x.to=(nth P.ds i).st)∧∃i,i<P.ds.length∧x.fr=(nth P.ds i).st
 cs:∀x∈P.cs,x.ok=true∧∃i,i<P.ds.length∧x.st=(nth P.ds i).st
 lps:P.ps.length≤4096
 lls:P.ls.length≤1024
 lcs:P.cs.length≤1024
theorem zj4 {xs:List Dx}(h:incB (fun a b:Dx=>cmpI a.st b.st) xs=true):∀i j,i<j→j<xs.length→(nth xs i).st<(nth xs j).st:=by
 intro i j hij
 induction j with
 |zero=>omega
 |succ j ih=>
  intro hj;have h1:=cmpI_neg.1 (incB_iff.1 h j hj);rcases Nat.lt_or_ge i j with h2|h2
  ·have:=ih h2 (by omega);omega
  ·rw [show i=j by omega];exact h1
theorem Pb.good {P:Pb}(h:P.ok=true):P.Good:=by
 simp only [Pb.ok,Pb.rulesOk,Bool.and_eq_true,decide_eq_true_eq] at h;obtain ⟨h1,⟨h2,h3,h4,h5,h6,h7,h8,h9,h10⟩,h11,h12,h13,h14⟩:=h
 have hst:∀d∈P.ds,0≤d.st∧d.st≤511:=fun d hd=>by
  have:=allB_mem.1 h1 d hd;simp only [Dx.ok,inB,Bool.and_eq_true,decide_eq_true_eq] at this;exact this.1
 have hmem:∀x,P.has x=true→∃i,i<P.ds.length∧x=(nth P.ds i).st:=fun x hx=>by
  unfold Pb.has at hx;have:=(zhO (P.ds.map fun d:Dx=>d.st) (fun y hy=>by obtain ⟨d,hd,rfl⟩:=List.mem_map.1 hy;exact hst d hd) x).1 hx;obtain ⟨d,hd,rfl⟩:=List.mem_map.1 this;obtain ⟨i,hi,rfl⟩:=List.mem_iff_getElem.1 hd;exact ⟨i,hi,by rw [zam hi]⟩
 refine ⟨zhG h11 h1,hst,fun d hd=>?_,zj4 h11,fun x hx=>?_,fun x hx=>?_,fun x hx=>?_,by omega,by omega,by omega⟩
 ·have:=allB_mem.1 h1 d hd;simp only [Dx.ok,inB,Bool.and_eq_true,decide_eq_true_eq] at this
  have hr:∀c∈d.chs,2≤c∧c≤51:=fun c hc=>by
   have:=allB_mem.1 this.2.1 c hc;simp only [Bool.and_eq_true,decide_eq_true_eq] at this;exact this
  refine ⟨?_,hr⟩;rcases Nat.lt_or_ge 52 d.chs.length with hl|hl
  ·have h1:=zhJ (f:=fun c:Int=>c) this.2.2 (fun c hc=>by have:=hr c hc;omega) 52 hl;have h2:=hr _ (zaI hl);omega
  ·exact hl
 ·have:=allB_mem.1 h12 x hx;simp only [Bool.and_eq_true] at this;exact ⟨allB_mem.1 h3 x hx,hmem _ this.1,hmem _ this.2⟩
 ·have:=allB_mem.1 h13 x hx;simp only [Bool.and_eq_true] at this;exact ⟨allB_mem.1 h6 x hx,hmem _ this.1,hmem _ this.2⟩
 ·exact ⟨allB_mem.1 h9 x hx,hmem _ (allB_mem.1 h14 x hx)⟩
theorem zki {P:Pb}(h:P.Good){i:Nat}:∀k,k≤P.ds.length→i<k→ixAt P.ds k (nth P.ds i).st.toNat=(i:Int)+1
 |0,_,hi=>by omega
 |k+1,hk,hi=>by
  show (if (nth P.ds i).st.toNat=(nth P.ds k).st.toNat then (k:Int)+1 else ixAt P.ds k (nth P.ds i).st.toNat)=(i:Int)+1
  have h1:=h.st _ (zaI (show i<P.ds.length by omega));by_cases he:i=k
  ·subst he;rw [if_pos rfl]
  ·have:=h.inc i k (by omega) (by omega);rw [if_neg (by omega)];exact zki h k (by omega) (by omega)
def Pb.ix (P:Pb)(s:Int):Int:=ixAt P.ds P.ds.length s.toNat - 1
theorem Pb.ix_of {P:Pb}(h:P.Good){i:Nat}(hi:i<P.ds.length):P.ix (nth P.ds i).st=(i:Int):=by
 unfold Pb.ix;rw [zki h _ (Nat.le_refl _) hi];omega
theorem zjh {P:Pb}(h:P.Good):∀k,k≤P.ds.length→0≤za6 P.ds k∧za6 P.ds k≤52* (k:Int)
 |0,_=>by simp [za6]
 |k+1,hk=>by
  have h1:=zjh h k (by omega);have h2:=(h.chs _ (zaI (show k<P.ds.length by omega))).1;rw [za6];omega
def Pb.rp (P:Pb)(x:Pr):Pr:={ x with a:=P.ix x.a,b:=P.ix x.b }
def Pb.rl (P:Pb)(x:Ld):Ld:={ x with to:=P.ix x.to,fr:=P.ix x.fr }
def Pb.rc (P:Pb)(x:Cp):Cp:={ x with st:=P.ix x.st }
def Pb.psA (P:Pb)(k j:Nat):List Pr:=((P.ps.take k).map P.rp).filter fun x=>decide (x.a=(j:Int))||decide (x.b=(j:Int))
def Pb.inA (P:Pb)(k j:Nat):List Ld:=((P.ls.take k).map P.rl).filter fun x=>decide (x.to=(j:Int))
def Pb.ouA (P:Pb)(k j:Nat):List Ld:=((P.ls.take k).map P.rl).filter fun x=>decide (x.fr=(j:Int))
def Pb.csA (P:Pb)(k j:Nat):List Cp:=((P.cs.take k).map P.rc).filter fun x=>decide (x.st=(j:Int))
theorem zfC {α β:Type}[Inhabited α]{l:List α}{r:α→β}{q:β→Bool}{k:Nat}(h:k<l.length):((l.take (k+1)).map r).filter q=((l.take k).map r).filter q++(if q (r (nth l k)) then [r (nth l k)] else []):=by
 rw [List.take_succ_eq_append_getElem h,zam h,List.map_append,List.filter_append]
 congr 1
 simp only [List.map_cons,List.map_nil,List.filter_cons,List.filter_nil]
theorem zbC {α β:Type}{l:List α}{r:α→β}{q:β→Bool}{k:Nat}:(((l.take k).map r).filter q).length≤l.length:=by
 refine Nat.le_trans (List.length_filter_le _ _) ?_;rw [List.length_map,List.length_take];omega
theorem zgD {P:Pb}{k:Nat}(h:k<P.ps.length){a b:Nat}(ha:P.ix (nth P.ps k).a=(a:Int))(hb:P.ix (nth P.ps k).b=(b:Int))(hab:a≠b):upd (upd (P.psA k) a (P.psA k a++[P.rp (nth P.ps k)])) b (upd (P.psA k) a (P.psA k a++[P.rp (nth P.ps k)]) b++[P.rp (nth P.ps k)])=P.psA (k+1):=by
 funext j
 have e:P.psA (k+1) j=P.psA k j++(if (decide ((P.rp (nth P.ps k)).a=(j:Int))||decide ((P.rp (nth P.ps k)).b=(j:Int)))=true then [P.rp (nth P.ps k)] else []):=zfC h;rw [e];have e1:(P.rp (nth P.ps k)).a=(a:Int):=ha;have e2:(P.rp (nth P.ps k)).b=(b:Int):=hb;rw [e1,e2];unfold upd;by_cases hjb:j=b
 ·subst hjb;rw [if_pos rfl,if_neg (fun h=>hab h.symm),if_pos (by simp)]
 ·by_cases hja:j=a
  ·subst hja;rw [if_neg hjb,if_pos rfl,if_pos (by simp)]
  ·rw [if_neg hjb,if_neg hja,if_neg (by simp;omega),List.append_nil]
theorem zeY {α β:Type}[Inhabited α]{l:List α}{r:α→β}{f:β→Int}{k a:Nat}(h:k<l.length)(ha:f (r (nth l k))=(a:Int)):upd (fun j:Nat=>((l.take k).map r).filter fun x=>decide (f x=(j:Int))) a (((l.take k).map r).filter (fun x=>decide (f x=(a:Int)))++[r (nth l k)])=fun j:Nat=>((l.take (k+1)).map r).filter fun x=>decide (f x=(j:Int)):=by
 funext j
 rw [zfC h,ha];unfold upd;by_cases hj:j=a
 ·subst hj;rw [if_pos rfl,if_pos (by simp)]
 ·rw [if_neg hj,if_neg (by simp;omega),List.append_nil]
end Go.Proofs.YtbpkdjionfhohaaDoor
