/- H1 Pn H2 J1 J2: shortened and put together by squeeze.py. -/
import Derived.Test.YtgoeeefoinkepaaGreatDoorQ05
set_option maxRecDepth 100000
set_option maxHeartbeats 4000000
set_option linter.unusedVariables false
set_option linter.unusedSectionVars false
set_option linter.unusedSimpArgs false
namespace Go.Proofs.YtgoeeefoinkepaaGreatDoor
open Go.RowKit
theorem cG {p:Prop}(h:p:=by rw [ze8 (by omega)];omega):p:=h
theorem b8 {p:Prop}(h:p:=by simp only [dW,List.length_append,List.length_singleton];omega):p:=h
theorem b3 {p:Prop}(h:p:=by dsimp only;omega):p:=h
structure GL where
 b:Nat
 c:Nat
structure StF (w0 w:World) (sp:Nat) (gl:GL) (tp:Nat) (Y:Tb) (L:Ws) (c:Bool):Prop where
 tb:TablesAt w0 tp Y
 fr:Fz w0 w
 c0:w.cell? ⟨sp,0,none⟩=some (.pointer (some ⟨tp,0,none⟩))
 c1:w.cell? ⟨sp,1,none⟩=some (.slice (some ⟨gl.b,0,none⟩) L.length gl.c)
 lf:SlOf w (.slice (some ⟨gl.b,0,none⟩) L.length gl.c) Le 1 L
 len:L.length=Y.n
 c2:w.cell? ⟨sp,2,none⟩=some (.bool c)
 tab:Tab w
theorem StF.st {w0 w:World}{sp:Nat}{gl:GL}{tp:Nat}{Y:Tb}{L:Ws}{c:Bool}(h:StF w0 w sp gl tp Y L c):StateAt w sp Y L c:=
 ⟨h.tab,⟨tp,h.c0,h.tb.later h.fr⟩,⟨_,h.c1,h.lf⟩,h.len,h.c2⟩
theorem StF.kept {w0 w w':World}{M:Nat→Prop}{hs:HS}{sp:Nat}{gl:GL}{tp:Nat}{Y:Tb}{L:Ws}{c:Bool}(h:StF w0 w sp gl tp Y L c)(hw:Hp w M hs w')(h0:∀g,M g→¬jF w0 g)(h1:¬M sp)(h2:¬M gl.b)(h3:¬M 0):StF w0 w' sp gl tp Y L c:=
 ⟨h.tb,Fz.hp h.fr hw h0,hw.cellB h.c0 h1,hw.cellB h.c1 h1,h.lf.keptM hw (fun g hg=>by simp [Value.ownBlock] at hg;subst hg;exact h2),h.len,hw.cellB h.c2 h1,h.tab.kept hw h3⟩
def kc (Y:Tb)(L:Ws)(i:Nat)(ws:Ws):Ws:=
 if (only L i:Int)=0 then ws else
  (Y.out i).foldl (fun s x=>if (only L x.to.toNat:Int)=0 then dY s x.to.toNat else (Y.inn x.to.toNat).foldl (fun s o=>dY s o.fr.toNat) (dY s x.to.toNat))
   ((Y.inn i).foldl (fun s x=>dY s x.fr.toNat) ((Y.ps i).foldl (fun s x=>dY s (x.a+x.b - (i:Int)).toNat) ws))
theorem zf4 {α:Type}(f:Ws→α→Ws)(hf:∀s x,(f s x).length=s.length):∀(l:List α) (s:Ws),(l.foldl f s).length=s.length
 | [],_=>rfl
 |x :: r,s=>by rw [List.foldl_cons,zf4 f hf r,hf]
theorem zdg (l:List Ld)(s:Ws):(l.foldl (fun s x=>dY s x.fr.toNat) s).length=s.length:=zf4 _ (fun _ _=>lx) l s
theorem zdb (i:Int)(l:List Pr)(s:Ws):(l.foldl (fun s x=>dY s (x.a+x.b - (i:Int)).toNat) s).length=s.length:=zf4 _ (fun _ _=>lx) l s
def ml (Y:Tb)(L:Ws)(s:Ws)(x:Ld):Ws:=if (only L x.to.toNat:Int)=0 then dY s x.to.toNat else (Y.inn x.to.toNat).foldl (fun s o=>dY s o.fr.toNat) (dY s x.to.toNat)
theorem zgi {Y:Tb}{L s:Ws}{x:Ld}:(ml Y L s x).length=s.length:=by
 unfold ml;split
 ·exact lx
 ·rw [zdg,lx]
theorem zfj (Y:Tb)(L:Ws)(l:List Ld)(s:Ws):(l.foldl (ml Y L) s).length=s.length:=zf4 _ (fun _ _=>zgi) l s
theorem zfs (Y:Tb)(L:Ws)(i:Nat)(ws:Ws):(kc Y L i ws).length=ws.length:=by
 unfold kc;split
 ·rfl
 ·exact (zfj Y L _ _).trans ((zdg _ _).trans (zdb _ _ _))
theorem zeW (ws:Ws)(hws:ws.length=8)(j:Nat)(hj:j<512)(z:Int)(hz:z=(j:Int))(p q:Nat)(w:World)(hq:w.cell? ⟨q,0,none⟩=some (.pointer (some ⟨p,0,none⟩)))(hqp:q≠p)(hp:(Ent.row p 101 ws.cells).ok w):Calls Tryz.prog 135 #[.int .i64 z, .pointer (some ⟨q,0,none⟩)] w fun e w'=>∃y:Unit,True∧e= .returned (.tuple #[])∧Hp w (Ent.row p 101 ws.cells).fp [.row p 101 (Ws.cells (dY ws j))] w':=by
 subst hz;refine dA (M:=(Ent.row p 101 ws.cells).fp) (hs:=[Ent.row p 101 ws.cells]) Tryz.func135 rfl rfl rfl (Hp.start hp) ?_;refine dF (sN 0 3 (.still 4 (.eff 3 (.eff 5 (sN 6 4 (.eff 10 .done)))))) [] a8 Sx ?_;refine cO rfl (dP rfl rfl hq (fun hh=>hqp (cQ.1 hh))) ?_;refine cO rfl (dP rfl rfl hq (fun hh=>hqp (cQ.1 hh))) ?_;refine gG ?_;refine dw ?_;refine eE rfl (Wt.none) rfl rfl (gA 0 rfl rfl rfl (by rw [List.length_map,hws])) Sx ?_;refine dw ?_; (refine da rfl (Wt.none) rfl rfl (cM rfl rfl rfl (fun w hw=>zn4 ws hws j hj w)) ?_;rintro _ _ ⟨rfl,rfl⟩;refine ⟨Sx,?_⟩);refine TS.run 4 rfl ?_;refine dw ?_; (refine dJ rfl (Wt.none) rfl (dH 0 rfl rfl rfl rfl (by rw [List.length_map,lx,hws]) (by rw [List.length_map,List.length_map,lx])) ?_;rintro _ _ ⟨rfl,rfl⟩;refine ⟨Sx,?_⟩);refine ij ?_;exact mg rfl (fun w' hw=>⟨(),trivial,rfl,hw⟩)
theorem zin (w0:World)(sp:Nat)(gl:GL)(tp p:Nat)(Y:Tb)(L:Ws)(c:Bool)(ws:Ws)(hws:ws.length=8)(i:Nat)(z:Int)(hz:z=(i:Int))(hi:i<Y.n)(w:World)(h:StF w0 w sp gl tp Y L c)(hok:Y.Ok)(hpN:¬jF w0 p)(hp0:p≠0)(hsp:sp≠p)(hgl:gl.b≠p)(hp:(Ent.row p 101 ws.cells).ok w):Calls Tryz.prog 116 #[.pointer (some ⟨sp,0,none⟩), .int .i64 z, .pointer (some ⟨p,0,none⟩)] w fun e w'=>∃y:Unit,True∧e= .returned (.tuple #[])∧Hp w (Ent.row p 101 ws.cells).fp [.row p 101 (Ws.cells (kc Y L i ws))] w':=by
 subst hz;obtain ⟨hTb,hfr,hsp0,hsp1,hlf,hLn,hsp2,htab⟩:=id h;have hT:=hTb;have hn512:=hok.n;obtain ⟨hlenP,hrngP⟩:=hok.ps i hi;obtain ⟨hlenI,hrngI⟩:=hok.inn i hi;obtain ⟨hlenO,hrngO⟩:=hok.out i hi;obtain ⟨vP,hP0,hP⟩:=hT.ps.at';obtain ⟨AP,capP,rfl,hPs⟩:=hP.op;have hPn:=hT.ps.len;obtain ⟨gP,oP,rfl,hPc⟩:=hPs a6;rw [hPn] at hP0;have hPi:=hPc i (by rw [hPn];exact hi);obtain ⟨BP,cpP,hvP,hslP⟩:=(hT.ps.each i hi).op;simp only [hvP] at hPi;obtain ⟨vI,hI0,hI⟩:=hT.inn.at';obtain ⟨AI,capI,rfl,hIs⟩:=hI.op;have hIn:=hT.inn.len;obtain ⟨gI,oI,rfl,hIc⟩:=hIs a6;rw [hIn] at hI0;have hIi:=hIc i (by rw [hIn];exact hi);obtain ⟨BI,cpI,hvI,hslI⟩:=(hT.inn.each i hi).op;simp only [hvI] at hIi;obtain ⟨vO,hO0,hO⟩:=hT.out.at';obtain ⟨AO,capO,rfl,hOs⟩:=hO.op;have hOn:=hT.out.len;obtain ⟨gO,oO,rfl,hOc⟩:=hOs a6;rw [hOn] at hO0;have hOi:=hOc i (by rw [hOn];exact hi);obtain ⟨BO,cpO,hvO,hslO⟩:=(hT.out.each i hi).op;simp only [hvO] at hOi;have hkeep:∀hs w',Hp w (Ent.row p 101 ws.cells).fp hs w'→StateAt w' sp Y L c:=fun hs w' hw=>(h.kept hw (fun g hg=>by rw [cQ.1 hg];exact hpN) (fun hg=>hsp (cQ.1 hg)) (fun hg=>hgl (cQ.1 hg)) (fun hg=>hp0 (cQ.1 hg).symm)).st;refine dA (M:=(Ent.row p 101 ws.cells).fp) (hs:=[Ent.row p 101 ws.cells]) Tryz.func116 rfl rfl rfl (Hp.start hp) ?_;refine df ?_; (refine cN (Wt.none) rfl rfl (Ew.box rfl rfl) ?_;rintro _ _ ⟨g5,rfl,rfl⟩);refine i7 ?_;refine ef ?_; (refine cN (Wt.none) rfl rfl (cM rfl rfl rfl (fun w hw=>zdp sp Y L c i _ rfl hi w (hkeep _ _ hw))) ?_;rintro _ _ ⟨rfl,rfl⟩);refine dM ?_;refine T.cond rfl (fun h1=>?_) (fun h1=>?_)
 ·have p1:=h1; (try simp only [cT] at p1);refine T.ret (dV ?_);exact K.cg rfl (fun w' hw=>⟨(),trivial,rfl,by rw [kc,if_pos p1];exact hw.sub Sx⟩)
 ·have p1:=h1; (try simp only [cT] at p1);refine ja ?_;refine jm ?_;refine T.cut (gs:=[(0, .pointer (some ⟨sp,0,none⟩)),(1, .int .i64 (i:Int)),(6, .func (.func 135) #[] #[.pointer (some ⟨g5,0,none⟩)])]) (hs':=[.row g5 174 [.pointer (some ⟨p,0,none⟩)], .row p 101 (Ws.cells ((Y.ps i).foldl (fun s x=>dY s (x.a+x.b - (i:Int)).toNat) ws))]) ?_ ?_
  ·skip;refine q2T ?_;refine cL (dP rfl rfl (hfr.cell hP0) (fun hh=>hpN (by have:=zep hP0;rw [←cQ.1 hh];exact this))) ?_;refine lI ?_;refine cL (d4 (j:=0) rfl rfl (Fz.cs hfr hPi) rfl rfl (fun hh=>hpN (by have:=i6 hPi b2;rw [←cQ.1 hh];exact this))) ?_;refine jG ?_;refine T.loop (ι:=Nat) (fun k=>[(0, .pointer (some ⟨sp,0,none⟩)),(1, .int .i64 (i:Int)),(6, .func (.func 135) #[] #[.pointer (some ⟨g5,0,none⟩)]),(29, .slice BP (Y.ps i).length cpP),(30, .int .i64 ((Y.ps i).length:Int)),(31, .int .i64 (k:Int))]) (fun k=>[.row g5 174 [.pointer (some ⟨p,0,none⟩)], .row p 101 (Ws.cells (((Y.ps i).take k).foldl (fun s x=>dY s (x.a+x.b - (i:Int)).toNat) ws))]) (fun k=>k≤(Y.ps i).length) (fun k=>(Y.ps i).length - k) 0 ?_ ?_ ?_ ?_
   ·omega
   ·exact (by repeat (first|exact Sub.nil|refine Sub.cons rfl ?_))
   ·exact Sx
   ·intro k hphi;refine fA ?_;refine T.cond rfl (fun h2=>?_) (fun h2=>?_)
    ·have p2:=h2; (try simp only [cT] at p2);obtain ⟨ghk,offhk,rfl,hc⟩:=hslP a6;have hk:=hc k a6;simp only [Pr.cells] at hk;have hrhk:=hrngP _ (i4 (xs:=Y.ps i) (k:=k) a6);refine fS ?_;refine q2C ?_; (refine cN (Wt.none) rfl rfl (Ew.alloc) ?_;rintro _ _ ⟨g8,rfl,rfl⟩); (refine dO (Wt.none) rfl (dH 0) ?_;rintro _ _ ⟨rfl,rfl⟩);refine cS (T.region ?_);refine iP ?_;refine eB ?_;refine q0e ?_;refine di ?_;refine q2m ?_; (refine cN (Wt.none) rfl rfl (lF 2 rfl rfl rfl rfl (fun w hw=>zeW (((Y.ps i).take k).foldl (fun s x=>dY s (x.a+x.b - (i:Int)).toNat) ws) (by rw [zdb,hws]) ((cI (Y.ps i) k).a+(cI (Y.ps i) k).b - (i:Int)).toNat a6 _ a6 p g5 w (jM (cW.1 (hw.get (i:=1) rfl)) 0) (fun hh=>hw.ne (i:=1) (j:=2) a6 rfl rfl (g:=g5) (cQ.2 rfl) (cQ.2 hh)) (hw.get (i:=2) rfl))) ?_;rintro _ _ ⟨-, -,rfl,rfl⟩);refine mu ?_;exact K.next (k+1) a6 a6 (by repeat (first|exact Sub.nil|refine Sub.cons rfl ?_)) (by rw [ju _ _ a6];exact Sx)
    ·have p2:=h2; (try simp only [cT] at p2);refine fx ?_;exact K.at (by repeat (first|exact Sub.nil|refine Sub.cons rfl ?_)) (by rw [show (Y.ps i).take k=Y.ps i from List.take_of_length_le a6];exact Sx)
  ·skip;refine T.cut (gs:=[(0, .pointer (some ⟨sp,0,none⟩)),(1, .int .i64 (i:Int)),(6, .func (.func 135) #[] #[.pointer (some ⟨g5,0,none⟩)])]) (hs':=[.row g5 174 [.pointer (some ⟨p,0,none⟩)], .row p 101 (Ws.cells ((Y.inn i).foldl (fun s x=>dY s x.fr.toNat) ((Y.ps i).foldl (fun s x=>dY s (x.a+x.b - (i:Int)).toNat) ws)))]) ?_ ?_
   ·skip;refine q2T ?_;refine cL (dP rfl rfl (hfr.cell hI0) (fun hh=>hpN (by have:=zep hI0;rw [←cQ.1 hh];exact this))) ?_;refine lI ?_;refine cL (d4 (j:=0) rfl rfl (Fz.cs hfr hIi) rfl rfl (fun hh=>hpN (by have:=i6 hIi b2;rw [←cQ.1 hh];exact this))) ?_;refine jG ?_;refine T.loop (ι:=Nat) (fun k=>[(0, .pointer (some ⟨sp,0,none⟩)),(1, .int .i64 (i:Int)),(6, .func (.func 135) #[] #[.pointer (some ⟨g5,0,none⟩)]),(54, .slice BI (Y.inn i).length cpI),(55, .int .i64 ((Y.inn i).length:Int)),(56, .int .i64 (k:Int))]) (fun k=>[.row g5 174 [.pointer (some ⟨p,0,none⟩)], .row p 101 (Ws.cells (((Y.inn i).take k).foldl (fun s x=>dY s x.fr.toNat) ((Y.ps i).foldl (fun s x=>dY s (x.a+x.b - (i:Int)).toNat) ws)))]) (fun k=>k≤(Y.inn i).length) (fun k=>(Y.inn i).length - k) 0 ?_ ?_ ?_ ?_
    ·omega
    ·exact (by repeat (first|exact Sub.nil|refine Sub.cons rfl ?_))
    ·exact Sx
    ·intro k hphi;refine fA ?_;refine T.cond rfl (fun h3=>?_) (fun h3=>?_)
     ·have p3:=h3; (try simp only [cT] at p3);obtain ⟨ghk,offhk,rfl,hc⟩:=hslI a6;have hk:=hc k a6;simp only [Ld.cells] at hk;have hrhk:=hrngI _ (i4 (xs:=Y.inn i) (k:=k) a6);refine fS ?_;refine q2C ?_; (refine cN (Wt.none) rfl rfl (Ew.alloc) ?_;rintro _ _ ⟨g10,rfl,rfl⟩); (refine dO (Wt.none) rfl (dH 0) ?_;rintro _ _ ⟨rfl,rfl⟩);refine cS (T.region ?_);refine iP ?_; (refine cN (Wt.none) rfl rfl (lF 2 rfl rfl rfl rfl (fun w hw=>zeW (((Y.inn i).take k).foldl (fun s x=>dY s x.fr.toNat) ((Y.ps i).foldl (fun s x=>dY s (x.a+x.b - (i:Int)).toNat) ws)) (by rw [zdg,zdb,hws]) (cI (Y.inn i) k).fr.toNat a6 _ a6 p g5 w (jM (cW.1 (hw.get (i:=1) rfl)) 0) (fun hh=>hw.ne (i:=1) (j:=2) a6 rfl rfl (g:=g5) (cQ.2 rfl) (cQ.2 hh)) (hw.get (i:=2) rfl))) ?_;rintro _ _ ⟨-, -,rfl,rfl⟩);refine mu ?_;exact K.next (k+1) a6 a6 (by repeat (first|exact Sub.nil|refine Sub.cons rfl ?_)) (by rw [ju _ _ a6];exact Sx)
     ·have p3:=h3; (try simp only [cT] at p3);refine fx ?_;exact K.at (by repeat (first|exact Sub.nil|refine Sub.cons rfl ?_)) (by rw [show (Y.inn i).take k=Y.inn i from List.take_of_length_le a6];exact Sx)
   ·skip;refine q2T ?_;refine cL (dP rfl rfl (hfr.cell hO0) (fun hh=>hpN (by have:=zep hO0;rw [←cQ.1 hh];exact this))) ?_;refine lI ?_;refine cL (d4 (j:=0) rfl rfl (Fz.cs hfr hOi) rfl rfl (fun hh=>hpN (by have:=i6 hOi b2;rw [←cQ.1 hh];exact this))) ?_;refine jG ?_;refine T.loop (ι:=Nat) (fun k=>[(0, .pointer (some ⟨sp,0,none⟩)),(1, .int .i64 (i:Int)),(6, .func (.func 135) #[] #[.pointer (some ⟨g5,0,none⟩)]),(74, .slice BO (Y.out i).length cpO),(75, .int .i64 ((Y.out i).length:Int)),(76, .int .i64 (k:Int))]) (fun k=>[.row g5 174 [.pointer (some ⟨p,0,none⟩)], .row p 101 (Ws.cells (((Y.out i).take k).foldl (ml Y L) ((Y.inn i).foldl (fun s x=>dY s x.fr.toNat) ((Y.ps i).foldl (fun s x=>dY s (x.a+x.b - (i:Int)).toNat) ws))))]) (fun k=>k≤(Y.out i).length) (fun k=>(Y.out i).length - k) 0 ?_ ?_ ?_ ?_
    ·omega
    ·exact (by repeat (first|exact Sub.nil|refine Sub.cons rfl ?_))
    ·exact Sx
    ·intro k hphi;refine fA ?_;refine T.cond rfl (fun h4=>?_) (fun h4=>?_)
     ·have p4:=h4; (try simp only [cT] at p4);obtain ⟨ghk,offhk,rfl,hc⟩:=hslO a6;have hk:=hc k a6;simp only [Ld.cells] at hk;have hrhk:=hrngO _ (i4 (xs:=Y.out i) (k:=k) a6); (have htn:(cI (Y.out i) k).to.toNat<Y.n:=by omega);obtain ⟨hlenI2,hrngI2⟩:=hok.inn _ htn;have hIi2:=hIc (cI (Y.out i) k).to.toNat (by rw [hIn];exact htn);obtain ⟨BI2,cpI2,hvI2,hslI2⟩:=(hT.inn.each (cI (Y.out i) k).to.toNat htn).op;simp only [hvI2] at hIi2;refine T.skip (K.seq ?_);refine T.cut (gs:=[(0, .pointer (some ⟨sp,0,none⟩)),(1, .int .i64 (i:Int)),(6, .func (.func 135) #[] #[.pointer (some ⟨g5,0,none⟩)]),(74, .slice (some ⟨ghk,offhk,none⟩) (Y.out i).length cpO),(75, .int .i64 ((Y.out i).length:Int)),(76, .int .i64 (k:Int))]) (hs':=[.row g5 174 [.pointer (some ⟨p,0,none⟩)], .row p 101 (Ws.cells (((Y.out i).take (k+1)).foldl (ml Y L) ((Y.inn i).foldl (fun s x=>dY s x.fr.toNat) ((Y.ps i).foldl (fun s x=>dY s (x.a+x.b - (i:Int)).toNat) ws))))]) ?_ ?_
      ·skip;refine T.block (df ?_);refine q2C ?_; (refine cN (Wt.none) rfl rfl (Ew.alloc) ?_;rintro _ _ ⟨g12,rfl,rfl⟩); (refine dO (Wt.none) rfl (dH 0) ?_;rintro _ _ ⟨rfl,rfl⟩);refine du ?_;refine iP ?_; (refine cN (Wt.none) rfl rfl (lF 2 rfl rfl rfl rfl (fun w hw=>zeW (((Y.out i).take k).foldl (ml Y L) ((Y.inn i).foldl (fun s x=>dY s x.fr.toNat) ((Y.ps i).foldl (fun s x=>dY s (x.a+x.b - (i:Int)).toNat) ws))) (by rw [zfj,zdg,zdb,hws]) (cI (Y.out i) k).to.toNat a6 _ a6 p g5 w (jM (cW.1 (hw.get (i:=1) rfl)) 0) (fun hh=>hw.ne (i:=1) (j:=2) a6 rfl rfl (g:=g5) (cQ.2 rfl) (cQ.2 hh)) (hw.get (i:=2) rfl))) ?_;rintro _ _ ⟨-, -,rfl,rfl⟩);refine du ?_;refine iP ?_; (refine cN (Wt.none) rfl rfl (cM rfl rfl rfl (fun w hw=>zdp sp Y L c ((cI (Y.out i) k).to.toNat) _ a6 a6 w (hkeep _ _ hw))) ?_;rintro _ _ ⟨rfl,rfl⟩);refine dM ?_;refine T.cond rfl (fun h5=>?_) (fun h5=>?_)
       ·have p5:=h5; (try simp only [cT] at p5); (have hno:¬(only L ((cI (Y.out i) k).to.toNat):Int)=0:=by assumption);refine T.seq ?_;refine q1k ?_;refine jn ?_;refine cO rfl (dP rfl rfl hsp0 (fun hh=>hsp (cQ.1 hh))) ?_;refine nn ?_;refine cO rfl (dP rfl rfl (hfr.cell hI0) (fun hh=>hpN (by have:=zep hI0;rw [←cQ.1 hh];exact this))) ?_;refine q2z ?_;refine cO rfl (d4 (j:=0) rfl rfl (Fz.cs hfr hIi2) rfl rfl (fun hh=>hpN (by have:=i6 hIi2 b2;rw [←cQ.1 hh];exact this))) ?_;refine q4v ?_;refine T.loop (ι:=Nat) (fun j=>[(0, .pointer (some ⟨sp,0,none⟩)),(1, .int .i64 (i:Int)),(6, .func (.func 135) #[] #[.pointer (some ⟨g5,0,none⟩)]),(74, .slice (some ⟨ghk,offhk,none⟩) (Y.out i).length cpO),(75, .int .i64 ((Y.out i).length:Int)),(76, .int .i64 (k:Int)),(99, .slice BI2 (Y.inn (cI (Y.out i) k).to.toNat).length cpI2),(100, .int .i64 ((Y.inn (cI (Y.out i) k).to.toNat).length:Int)),(101, .int .i64 (j:Int))]) (fun j=>[.row g5 174 [.pointer (some ⟨p,0,none⟩)], .row p 101 (Ws.cells (((Y.inn (cI (Y.out i) k).to.toNat).take j).foldl (fun s o=>dY s o.fr.toNat) (dY (((Y.out i).take k).foldl (ml Y L) ((Y.inn i).foldl (fun s x=>dY s x.fr.toNat) ((Y.ps i).foldl (fun s x=>dY s (x.a+x.b - (i:Int)).toNat) ws))) (cI (Y.out i) k).to.toNat)))]) (fun j=>j≤(Y.inn (cI (Y.out i) k).to.toNat).length) (fun j=>(Y.inn (cI (Y.out i) k).to.toNat).length - j) 0 ?_ ?_ ?_ ?_
        ·omega
        ·exact (by repeat (first|exact Sub.nil|refine Sub.cons rfl ?_))
        ·exact Sx
        ·intro j hphi;refine fA ?_;refine T.cond rfl (fun h6=>?_) (fun h6=>?_)
         ·have p6:=h6; (try simp only [cT] at p6);obtain ⟨ghj,offhj,rfl,hcj⟩:=hslI2 a6;have hj:=hcj j a6;simp only [Ld.cells] at hj;have hrhj:=hrngI2 _ (i4 (xs:=Y.inn (cI (Y.out i) k).to.toNat) (k:=j) a6);refine fS ?_;refine q0y ?_;refine cL (iI rfl rfl (Fz.cs hfr hj) rfl (fun hh=>hpN (by have:=i6 hj b2;rw [←cQ.1 hh];exact this))) ?_; (refine cN (Wt.none) rfl rfl (Ew.alloc) ?_;rintro _ _ ⟨g14,rfl,rfl⟩); (refine dO (Wt.none) rfl (dH 0) ?_;rintro _ _ ⟨rfl,rfl⟩);refine cS (T.region ?_);refine iP ?_; (refine cN (Wt.none) rfl rfl (lF 2 rfl rfl rfl rfl (fun w hw=>zeW (((Y.inn (cI (Y.out i) k).to.toNat).take j).foldl (fun s o=>dY s o.fr.toNat) (dY (((Y.out i).take k).foldl (ml Y L) ((Y.inn i).foldl (fun s x=>dY s x.fr.toNat) ((Y.ps i).foldl (fun s x=>dY s (x.a+x.b - (i:Int)).toNat) ws))) (cI (Y.out i) k).to.toNat)) (by rw [zdg,lx,zfj,zdg,zdb,hws]) (cI (Y.inn (cI (Y.out i) k).to.toNat) j).fr.toNat a6 _ a6 p g5 w (jM (cW.1 (hw.get (i:=1) rfl)) 0) (fun hh=>hw.ne (i:=1) (j:=2) a6 rfl rfl (g:=g5) (cQ.2 rfl) (cQ.2 hh)) (hw.get (i:=2) rfl))) ?_;rintro _ _ ⟨-, -,rfl,rfl⟩);refine mu ?_;exact K.next (j+1) a6 a6 (by repeat (first|exact Sub.nil|refine Sub.cons rfl ?_)) (by rw [ju _ _ a6];exact Sx)
         ·have p6:=h6; (try simp only [cT] at p6);refine q3P ?_; (have hy:=hno;refine K.at (by repeat (first|exact Sub.nil|refine Sub.cons rfl ?_)) ?_;rw [ju _ _ a6,ml,if_neg hy,show (Y.inn (cI (Y.out i) k).to.toNat).take j=Y.inn (cI (Y.out i) k).to.toNat from List.take_of_length_le a6];exact Sx)
       ·have p5:=h5; (try simp only [cT] at p5); (have hyes:(only L ((cI (Y.out i) k).to.toNat):Int)=0:=by assumption);refine T.skip (fv ?_); (have hy:=hyes;refine K.at (by repeat (first|exact Sub.nil|refine Sub.cons rfl ?_)) ?_;rw [ju _ _ a6,ml,if_pos hy];exact Sx)
      ·skip;refine fi ?_;refine jQ ?_;exact K.next (k+1) a6 a6 (by repeat (first|exact Sub.nil|refine Sub.cons rfl ?_)) Sx
     ·have p4:=h4; (try simp only [cT] at p4);refine fx ?_;exact mg rfl (fun w' hw=>⟨(),trivial,rfl,by rw [kc,if_neg p1];rw [show (Y.out i).take k=Y.out i from List.take_of_length_le a6] at hw;exact hw.sub Sx⟩)
def jq (Y:Tb)(L:Ws)(i:Nat):BitVec 64:=me Y L i ||| kQ Y L i ||| mb Y L i
theorem zbF {α β:Type}{f g:β→α→β}:∀(l:List α) (z:β),(∀x∈l,∀s,f s x=g s x)→l.foldl f z=l.foldl g z
 | [],_,_=>rfl
 |x :: r,z,h=>by rw [List.foldl_cons,List.foldl_cons,h x b2 z];exact zbF r _ (fun y hy=>h y (by simp [hy]))
structure Alike (Y:Tb) (L L':Ws) (k:Nat):Prop where
 ps:∀x∈Y.ps k,(x.a=(k:Int)→only L' x.b.toNat=only L x.b.toNat)∧(x.a≠(k:Int)→only L' x.a.toNat=only L x.a.toNat)
 inn:∀x∈Y.inn k,only L' x.fr.toNat=only L x.fr.toNat
 out:∀x∈Y.out k,only L' x.to.toNat=only L x.to.toNat∧(only L x.to.toNat≠0→∀o∈Y.inn x.to.toNat,o.fr≠(k:Int)→only L' o.fr.toNat=only L o.fr.toNat)
theorem zge {Y:Tb}{L L':Ws}{k:Nat}(h:Alike Y L L' k)(hlo:∀x∈Y.out k,2≤x.lo):jq Y L' k=jq Y L k:=by
 have e1:me Y L' k=me Y L k:=zbF _ _ fun x hx s=>by
  have:=h.ps x hx;unfold mG;by_cases ha:x.a=(k:Int)
  ·rw [if_pos ha,if_pos ha,this.1 ha]
  ·rw [if_neg ha,if_neg ha,this.2 ha]
 have e2:kQ Y L' k=kQ Y L k:=by
  have:iG L' (Y.inn k)=iG L (Y.inn k):=zbF _ _ fun x hx s=>by
   funext d
   unfold j0;rw [h.inn x hx]
  unfold kQ;rw [this]
 have e3:mb Y L' k=mb Y L k:=zbF _ _ fun x hx s=>by
  have ho:=h.out x hx;unfold lh;rw [ho.1];by_cases hz:only L x.to.toNat=0
  ·have:=hlo x hx;rw [if_pos (.inl (.inl (by rw [hz];show (0:Int)<_;omega))),if_pos (.inl (.inl (by rw [hz];show (0:Int)<_;omega)))]
  ·have e:jU L' k (only L x.to.toNat) (Y.inn x.to.toNat)=jU L k (only L x.to.toNat) (Y.inn x.to.toNat):=zbF _ _ fun o ho' s=>by
    unfold j2;by_cases hk:o.fr=(k:Int)
    ·simp [hk]
    ·rw [ho.2 hz o ho' hk]
   rw [e]
 unfold jq;rw [e1,e2,e3]
theorem kU {L:Ws}{i j:Nat}{b:BitVec 64}(hi:i<L.length):cI (L.set i b) j=if j=i then b else cI L j:=by
 unfold cI;rw [List.getD_eq_getElem?_getD,List.getD_eq_getElem?_getD];by_cases h:j=i
 ·subst h;rw [List.getElem?_set_self hi,if_pos rfl];rfl
 ·rw [List.getElem?_set_ne (fun e=>h e.symm),if_neg h]
theorem zeq {L:Ws}{i j:Nat}{b:BitVec 64}(hi:i<L.length)(h:j≠i):only (L.set i b) j=only L j:=by
 unfold only;rw [kU hi,if_neg h]
theorem zgp {Y:Tb}{L:Ws}{i:Nat}{b:BitVec 64}(hok:Y.Ok)(hi:i<Y.n)(hl:L.length=Y.n):me Y (L.set i b) i=me Y L i∧kQ Y (L.set i b) i=kQ Y L i∧mb Y (L.set i b) i=mb Y L i:=by
 (have hil:i<L.length:=by omega);refine ⟨zbF _ _ fun x hx s=>?_,?_,zbF _ _ fun x hx s=>?_⟩
 ·have h1:=(hok.psS i hi x hx).1;have h2:=(hok.ps i hi).2 x hx;unfold mG;by_cases ha:x.a=(i:Int)
  ·rw [if_pos ha,if_pos ha,zeq hil a6]
  ·rw [if_neg ha,if_neg ha,zeq hil a6]
 ·have:iG (L.set i b) (Y.inn i)=iG L (Y.inn i):=zbF _ _ fun x hx s=>by
   have h1:=(hok.innS i hi x hx).1;have h2:=(hok.inn i hi).2 x hx
   funext d
   unfold j0;rw [zeq hil a6]
  unfold kQ;rw [this]
 ·have h1:=(hok.outS i hi x hx).1;have h2:=(hok.out i hi).2 x hx;unfold lh;rw [zeq hil a6]
  have e:jU (L.set i b) i (only L x.to.toNat) (Y.inn x.to.toNat)=jU L i (only L x.to.toNat) (Y.inn x.to.toNat):=zbF _ _ fun o ho s=>by
   have h3:=(hok.inn _ a6).2 o ho;unfold j2;by_cases hk:o.fr=(i:Int)
   ·simp [hk]
   ·rw [zeq hil a6]
  rw [e]
def zhV (Y:Tb)(L:Ws)(i:Nat):Prop:=cI L i≠0#64∧cI L i &&& jq Y L i=0#64
theorem zkf {α:Type}(f:α→Nat)(hf:∀_:α,True):∀(l:List α) (s:Ws),s.length=8→(∀x∈l,f x<512)→∀j,j<512→(eF (l.foldl (fun s x=>dY s (f x)) s) j=true↔eF s j=true∨∃x∈l,f x=j)
 | [],s,_,_,j,_=>by simp
 |x :: r,s,hs,hx,j,hj=>by
  rw [List.foldl_cons,zkf f hf r _ (by rw [lx,hs]) (fun y hy=>hx y (by simp [hy])) j hj,zf5 hs (hx x b2) hj];simp only [Bool.or_eq_true,decide_eq_true_eq,List.mem_cons];constructor
  ·rintro ((h|h)|⟨y,hy,h⟩)
   ·exact .inl h
   ·exact .inr ⟨x, .inl rfl,h⟩
   ·exact .inr ⟨y, .inr hy,h⟩
  ·rintro (h|⟨y,rfl|hy,h⟩)
   ·exact .inl (.inl h)
   ·exact .inl (.inr h)
   ·exact .inr ⟨y,hy,h⟩
def m5 (Y:Tb)(L:Ws)(i j:Nat):Prop:=
 (∃x∈Y.ps i,(x.a+x.b - (i:Int)).toNat=j)∨(∃x∈Y.inn i,x.fr.toNat=j)∨(∃x∈Y.out i,x.to.toNat=j∨(only L x.to.toNat≠0∧∃o∈Y.inn x.to.toNat,o.fr.toNat=j))
theorem zno {Y : Tb} {L : Ws} : ∀ (l : List Ld) (s : Ws), s.length = 8 → (∀ x ∈ l, x.to.toNat < 512 ∧ ∀ o ∈ Y.inn x.to.toNat, o.fr.toNat < 512) → ∀ j, j < 512 →
    (eF (l.foldl (ml Y L) s) j = true ↔ eF s j = true ∨ ∃ x ∈ l, x.to.toNat = j ∨ (only L x.to.toNat ≠ 0 ∧ ∃ o ∈ Y.inn x.to.toNat, o.fr.toNat = j))
  | [], s, _, _, j, _ => by simp
  | x :: r, s, hs, hx, j, hj => by
    have h1 := hx x b2; rw [List.foldl_cons, zno r _ (by rw [zgi, hs]) (fun y hy => hx y (by simp [hy])) j hj]
    have e : eF (ml Y L s x) j = true ↔ eF s j = true ∨ (x.to.toNat = j ∨ (only L x.to.toNat ≠ 0 ∧ ∃ o ∈ Y.inn x.to.toNat, o.fr.toNat = j)) := by
      unfold ml; by_cases hz : (only L x.to.toNat : Int) = 0
      · rw [if_pos hz, zf5 hs h1.1 hj];simp only [Bool.or_eq_true, decide_eq_true_eq]; constructor
        · rintro (h | h)
          · exact .inl h
          · exact .inr (.inl h)
        · rintro (h | h | h)
          · exact .inl h
          · exact .inr h
          · exact absurd (show only L x.to.toNat = 0 by omega) h.1
      · rw [if_neg hz, zkf (fun o : Ld => o.fr.toNat) (fun _ => trivial) _ _ (by rw [lx, hs]) h1.2 j hj, zf5 hs h1.1 hj];simp only [Bool.or_eq_true, decide_eq_true_eq]; constructor
        · rintro ((h | h) | h)
          · exact .inl h
          · exact .inr (.inl h)
          · exact .inr (.inr ⟨by omega, h⟩)
        · rintro (h | h | h)
          · exact .inl (.inl h)
          · exact .inl (.inr h)
          · exact .inr h.2
    rw [e];simp only [List.mem_cons]; constructor
    · rintro ((h | h) | ⟨y, hy, h⟩)
      · exact .inl h
      · exact .inr ⟨x, .inl rfl, h⟩
      · exact .inr ⟨y, .inr hy, h⟩
    · rintro (h | ⟨y, rfl | hy, h⟩)
      · exact .inl (.inl h)
      · exact .inl (.inr h)
      · exact .inr ⟨y, hy, h⟩
theorem zdI {Y:Tb}{L:Ws}{i:Nat}{ws:Ws}(hok:Y.Ok)(hi:i<Y.n)(hws:ws.length=8)(j:Nat)(hj:j<512):eF (kc Y L i ws) j=true↔eF ws j=true∨(only L i≠0∧m5 Y L i j):=by
 have hn:=hok.n;unfold kc;by_cases hz:(only L i:Int)=0
 ·rw [if_pos hz];constructor
  ·exact .inl
  ·rintro (h|h)
   ·exact h
   ·exact absurd (show only L i=0 by omega) h.1
 ·rw [if_neg hz];have hp:=(hok.ps i hi).2;have hI:=(hok.inn i hi).2;have hO:=(hok.out i hi).2
  have:=zno (Y:=Y) (L:=L) (Y.out i) ((Y.inn i).foldl (fun s x=>dY s x.fr.toNat) ((Y.ps i).foldl (fun s x=>dY s (x.a+x.b - (i:Int)).toNat) ws)) (by rw [zdg,zdb,hws]) (fun x hx=>by
   have:=hO x hx
   exact ⟨by omega,fun o ho=>by have:=(hok.inn x.to.toNat a6).2 o ho;omega⟩) j hj
  refine Iff.trans this ?_;rw [zkf (fun x:Ld=>x.fr.toNat) (fun _=>trivial) _ _ (by rw [zdb,hws]) (fun x hx=>by have:=hI x hx;omega) j hj,zkf (fun x:Pr=>(x.a+x.b - (i:Int)).toNat) (fun _=>trivial) _ _ hws (fun x hx=>by have:=hp x hx;omega) j hj];unfold m5;constructor
  ·rintro (((h|h)|h)|h)
   ·exact .inl h
   ·exact .inr ⟨by omega, .inl h⟩
   ·exact .inr ⟨by omega, .inr (.inl h)⟩
   ·exact .inr ⟨by omega, .inr (.inr h)⟩
  ·rintro (h|⟨_,h|h|h⟩)
   ·exact .inl (.inl (.inl h))
   ·exact .inl (.inl (.inr h))
   ·exact .inl (.inr h)
   ·exact .inr h
theorem zhT {Y:Tb}{L L':Ws}{i k:Nat}(hok:Y.Ok)(hi:i<Y.n)(hk:k<Y.n)(hki:k≠i)(hsame:∀j,j≠i→only L' j=only L j)(h0:only L i=0)(hfar:¬m5 Y L' i k):Alike Y L L' k where
 ps x hx:=by
  have h1:=(hok.ps k hk).2 x hx;have h2:=hok.psS k hk x hx;constructor
  ·intro ha;by_cases hb:x.b.toNat=i
   ·exact absurd (.inl ⟨x,by rw [←hb];exact h2.2.2,by omega⟩) hfar
   ·exact hsame _ hb
  ·intro ha;by_cases hb:x.a.toNat=i
   ·exact absurd (.inl ⟨x,by rw [←hb];exact h2.2.1,by omega⟩) hfar
   ·exact hsame _ hb
 inn x hx:=by
  have h1:=(hok.inn k hk).2 x hx;by_cases hb:x.fr.toNat=i
  ·exact absurd (.inr (.inr ⟨x,by rw [←hb];exact (hok.innS k hk x hx).2, .inl a6⟩)) hfar
  ·exact hsame _ hb
 out x hx:=by
  have h1:=(hok.out k hk).2 x hx;have h2:=hok.outS k hk x hx;have hto:x.to.toNat≠i:=fun hb=>hfar (.inr (.inl ⟨x,by rw [←hb];exact h2.2,by omega⟩));refine ⟨hsame _ hto,fun hz o ho hok'=>?_⟩;have h3:=(hok.inn x.to.toNat a6).2 o ho;by_cases hb:o.fr.toNat=i
  ·have h4:=(hok.innS x.to.toNat a6 o ho).2;rw [hb] at h4;refine absurd (.inr (.inr ⟨o,h4, .inr ⟨?_,x,?_,by omega⟩⟩)) hfar
   ·rw [show o.to.toNat=x.to.toNat by omega,hsame _ hto];exact hz
   ·rw [show o.to.toNat=x.to.toNat by omega];exact h2.2
  ·exact hsame _ hb
def zlR (L:Ws):Nat:=(L.map fun b=>(de b).length).sum
theorem dR {b:BitVec 64}{j:Nat}:j∈de b↔b.getLsbD j=true:=by
 unfold de;rw [List.mem_filter,List.mem_range'_1];constructor
 ·exact fun h=>h.2
 ·intro h;refine ⟨⟨Nat.zero_le _,?_⟩,h⟩;have:=BitVec.lt_of_getLsbD h;omega
theorem zhQ {p q:Nat→Bool}:∀(l:List Nat),(∀x∈l,q x=true→p x=true)→(∃x∈l,p x=true∧q x=false)→(l.filter q).length<(l.filter p).length
 | [],_,h=>by obtain ⟨x,hx,_⟩:=h;cases hx
 |y :: r,h,⟨x,hx,hp,hq⟩=>by
  have hle:∀(l:List Nat),(∀x∈l,q x=true→p x=true)→(l.filter q).length≤(l.filter p).length:=by
   intro l
   induction l with
   |nil=>intro _;simp
   |cons z s ih=>
    intro hz;have h1:=ih (fun x hx=>hz x (by simp [hx]));have h2:=hz z b2
    cases hqz:q z <;> cases hpz:p z <;> simp [hqz,hpz] at h2 ⊢ <;> omega
  have h2:=h y b2;rcases List.mem_cons.1 hx with rfl|hx
  ·rw [List.filter_cons_of_neg (by rw [hq];simp),List.filter_cons_of_pos hp];have:=hle r (fun x hx=>h x (by simp [hx]));simp;omega
  ·have:=zhQ r (fun x hx=>h x (by simp [hx])) ⟨x,hx,hp,hq⟩
   cases hqz:q y <;> cases hpz:p y <;> simp [hqz,hpz] at h2 ⊢ <;> omega
theorem zoR {a b:BitVec 64}(h:∀j,a.getLsbD j=true→b.getLsbD j=true)(hne:a≠b):(de a).length<(de b).length:=by
 unfold de;refine zhQ _ (fun j _=>h j) ?_;apply Classical.byContradiction;intro hno;apply hne;apply BitVec.eq_of_getLsbD_eq;intro j hj
 cases ha:a.getLsbD j with
 |true=>rw [h j ha]
 |false=>
  cases hb:b.getLsbD j with
  |false=>rfl
  |true=>exact absurd ⟨j,List.mem_range'_1.2 ⟨Nat.zero_le _,by omega⟩,hb,ha⟩ hno
theorem ziS:∀(L:Ws) (i:Nat) (b:BitVec 64),i<L.length→zlR (L.set i b)+(de (cI L i)).length=zlR L+(de b).length
 | [],i,b,h=>by simp at h
 |x :: r,0,b,h=>by simp [zlR,cI];omega
 |x :: r,i+1,b,h=>by
  have:=ziS r i b (by simpa using h);simp only [zlR,cI,List.set_cons_succ,List.map_cons,List.sum_cons,List.getD_cons_succ] at this ⊢;omega
inductive Reach (Y:Tb) (L:Ws):Ws→Prop
 |refl:Reach Y L L
 |step {M:Ws} {i:Nat} {b:BitVec 64}:Reach Y L M→i<Y.n→(∀j,b.getLsbD j=true→(jq Y M i).getLsbD j=true)→Reach Y L (M.set i (cI M i &&& ~~~b))
theorem Reach.len {Y:Tb}{L M:Ws}(h:Reach Y L M):M.length=L.length:=by
 induction h with
 |refl=>rfl
 |step _ _ _ ih=>rw [List.length_set,ih]
theorem Reach.sub {Y:Tb}{L M:Ws}(h:Reach Y L M)(hl:L.length=Y.n):∀i j,(cI M i).getLsbD j=true→(cI L i).getLsbD j=true:=by
 induction h with
 |refl=>exact fun _ _ h=>h
 | @step M' k b hr hk _ ih=>
  intro i j hij;rw [kU (by rw [hr.len,hl];exact hk)] at hij
  split at hij
  ·rename_i e;subst e;rw [BitVec.getLsbD_and,Bool.and_eq_true] at hij;exact ih _ _ hij.1
  ·exact ih _ _ hij
structure SInv (Y:Tb) (L0 L:Ws) (q:List Nat) (ws:Ws) (c:Bool):Prop where
 reach:Reach Y L0 L
 len:L.length=Y.n
 ws8:ws.length=8
 wsn:∀j,j<512→eF ws j=true→j<Y.n
 qn:∀j∈q,j<Y.n
 q512:q.length≤512
 bad:c=true→∃i,i<Y.n∧cI L i=0#64
 good:c=false→∀i,i<Y.n→i∈q∨eF ws i=true∨zhV Y L i
def smu (L:Ws)(q:List Nat)(ws:Ws):Nat:=zlR L*2000+q.length+(if fj ws=[] then 0 else 600)
theorem zmM:fj fB=[]:=zgH fun j _ _=>zdN j
theorem SInv.refill {Y:Tb}{L0 L:Ws}{ws:Ws}{c:Bool}(h:SInv Y L0 L [] ws c):SInv Y L0 L (fj ws) fB c where
 reach:=h.reach
 len:=h.len
 ws8:=rfl
 wsn j _ hb:=by rw [zdN] at hb;cases hb
 qn j hj:=by obtain ⟨_,h1,h2⟩:=fX.1 hj;exact h.wsn j h1 h2
 q512:=zf7 ws 0
 bad:=h.bad
 good hc i hi:=by
  rcases h.good hc i hi with h1|h1|h1
  ·cases h1
  ·have:=h.len;by_cases h512:i<512
   ·exact .inl (fX.2 ⟨Nat.zero_le _,h512,h1⟩)
   ·exfalso;unfold eF cI at h1;rw [List.getD_eq_getElem?_getD,List.getElem?_eq_none (by rw [h.ws8];omega)] at h1;exact absurd h1 (by show ¬(0#64).getLsbD _=true;rw [BitVec.getLsbD_zero];simp)
  ·exact .inr (.inr h1)
theorem zkw {L:Ws}{ws:Ws}(h:fj ws≠[]):smu L (fj ws) fB<smu L [] ws:=by
 unfold smu;rw [if_pos zmM,if_neg h];have:(fj ws).length≤512:=zf7 ws 0;simp only [List.length_nil];omega
theorem SInv.calm {Y:Tb}{L0 L:Ws}{ws:Ws}(h:SInv Y L0 L [] ws false)(hm:fj ws=[]):∀i,i<Y.n→zhV Y L i:=fun i hi=>by
 rcases h.refill.good rfl i hi with h1|h1|h1
 ·rw [hm] at h1;cases h1
 ·rw [zdN] at h1;cases h1
 ·exact h1
theorem zkE {Y:Tb}{L0 L:Ws}{i:Nat}{b:BitVec 64}(h:Reach Y L0 L)(hi:i<Y.n)(hb:∀j,b.getLsbD j=true→(jq Y L i).getLsbD j=true):Reach Y L0 (L.set i (cI L i &&& ~~~b)):= .step h hi hb
theorem zoS {Y:Tb}{L:Ws}{i j:Nat}(h:(me Y L i).getLsbD j=true):(jq Y L i).getLsbD j=true:=by simp [jq,h]
theorem zoW {Y:Tb}{L:Ws}{i j:Nat}(h:(kQ Y L i).getLsbD j=true):(jq Y L i).getLsbD j=true:=by simp [jq,h]
theorem zow {Y:Tb}{L:Ws}{i j:Nat}(h:(mb Y L i).getLsbD j=true):(jq Y L i).getLsbD j=true:=by simp [jq,h]
def zgS (Y:Tb)(L:Ws)(i k:Nat):BitVec 64:=if k=0 then me Y L i else if k=1 then kQ Y L i else mb Y L i
theorem zoD {Y:Tb}{L:Ws}{i j k:Nat}(h:(zgS Y L i k).getLsbD j=true):(jq Y L i).getLsbD j=true:=by
 unfold zgS at h
 split at h
 ·exact zoS h
 ·split at h
  ·exact zoW h
  ·exact zow h
def ex (Y:Tb)(L:Ws)(i:Nat):Nat→Ws
 |0=>L
 |k+1=>(ex Y L i k).set i (cI (ex Y L i k) i &&& ~~~(zgS Y (ex Y L i k) i k))
theorem zcg {Y:Tb}{L:Ws}{i:Nat}:∀k,(ex Y L i k).length=L.length
 |0=>rfl
 |k+1=>by rw [ex,List.length_set,zcg k]
theorem zek {Y:Tb}{L0 L:Ws}{i:Nat}(h:Reach Y L0 L)(hi:i<Y.n):∀k,Reach Y L0 (ex Y L i k)
 |0=>h
 |k+1=>zkE (zek h hi k) hi (fun j hj=>zoD hj)
theorem zd3 {Y:Tb}{L:Ws}{i j:Nat}(hi:i<L.length)(hj:j≠i):∀k,cI (ex Y L i k) j=cI L j
 |0=>rfl
 |k+1=>by rw [ex,kU (by rw [zcg];exact hi),if_neg hj,zd3 hi hj k]
theorem zfq {Y:Tb}{L:Ws}{i:Nat}(hi:i<L.length):∀k j,(cI (ex Y L i k) i).getLsbD j=true→(cI L i).getLsbD j=true
 |0,_,h=>h
 |k+1,j,h=>by
  rw [ex,kU (by rw [zcg];exact hi),if_pos rfl,BitVec.getLsbD_and,Bool.and_eq_true] at h;exact zfq hi k j h.1
theorem zl6 {Y:Tb}{L:Ws}{i:Nat}{b:BitVec 64}(hok:Y.Ok)(hi:i<Y.n)(hl:L.length=Y.n)(m:Nat):zgS Y (L.set i b) i m=zgS Y L i m:=by
 have h1:=zgp (b:=b) hok hi hl;unfold zgS;rw [h1.1,h1.2.1,h1.2.2]
theorem zgb {Y:Tb}{L:Ws}{i:Nat}(hok:Y.Ok)(hi:i<Y.n)(hl:L.length=Y.n):∀k m,zgS Y (ex Y L i k) i m=zgS Y L i m
 |0,_=>rfl
 |k+1,m=>by rw [ex,zl6 hok hi (by rw [zcg,hl]),zgb hok hi hl k m]
theorem zlU {Y:Tb}{L:Ws}{i:Nat}(hok:Y.Ok)(hi:i<Y.n)(hl:L.length=Y.n):cI (ex Y L i 3) i=cI L i &&& ~~~(me Y L i) &&& ~~~(kQ Y L i) &&& ~~~(mb Y L i):=by
 have h:∀k,cI (ex Y L i (k+1)) i=cI (ex Y L i k) i &&& ~~~(zgS Y L i k):=fun k=>by
  rw [ex,kU (by rw [zcg,hl];exact hi),if_pos rfl,zgb hok hi hl]
 rw [h 2,h 1,h 0]
 rfl
theorem zfw {Y : Tb} {L : Ws} {i : Nat} (hi : i < L.length) : ex Y L i 3 = L.set i (cI (ex Y L i 3) i) := by
  have h : ∀ k, ∃ b, ex Y L i k = L.set i b := by
    intro k
    induction k with
    | zero => exact ⟨cI L i, by
        apply List.ext_getElem?; intro j; by_cases hj : j = i
        · subst hj; rw [List.getElem?_set_self hi, ex, List.getElem?_eq_getElem hi, d9 hi]
        · rw [List.getElem?_set_ne (fun e => hj e.symm)]; rfl⟩
    | succ k ih =>
      obtain ⟨b, hb⟩ := ih; exact ⟨_, by rw [ex, hb, List.set_set]⟩
  obtain ⟨b, hb⟩ := h 3; rw [hb, kU hi, if_pos rfl]
theorem zhL {a b:BitVec 64}(hs:∀j,a.getLsbD j=true→b.getLsbD j=true)(hne:a≠b)(h0:a≠0#64):i8 b=0:=by
 unfold i8;rw [if_neg];rintro ⟨hb,hz⟩
 have h1:∀j,b.getLsbD j=true→j=ctz b:=fun j hj=>by
  have:=zfo hb j;rw [hz,hj,BitVec.getLsbD_zero,Bool.true_and] at this;simpa using this.symm
 apply hne;apply BitVec.eq_of_getLsbD_eq;intro j hj
 cases hbj:b.getLsbD j with
 |false=>
  cases haj:a.getLsbD j with
  |false=>rfl
  |true=>rw [hs j haj] at hbj;cases hbj
 |true=>
  have e:=h1 j hbj;obtain ⟨k,hk⟩:∃k,a.getLsbD k=true:=⟨ctz a,(zea h0 0).1⟩;rw [e,←h1 k (hs k hk)];exact hk
theorem SInv.step {Y : Tb} {L0 L : Ws} {i : Nat} {q : List Nat} {ws : Ws} (hok : Y.Ok) (h : SInv Y L0 L (i :: q) ws false) :
    SInv Y L0 (ex Y L i 3) q (if cI (ex Y L i 3) i = cI L i then ws else kc Y (ex Y L i 3) i ws) (decide (cI (ex Y L i 3) i = 0#64)) := by
  have hi : i < Y.n := h.qn i b2; (have hil : i < L.length := by rw [h.len]; exact hi); have hn := hok.n; have hsub := zfq (Y := Y) hil 3; refine ⟨zek h.reach hi 3, by rw [zcg, h.len], ?_, ?_, fun j hj => h.qn j (by simp [hj]), by have := h.q512; simp at this; omega, ?_, ?_⟩
  · split
    · exact h.ws8
    · rw [zfs, h.ws8]
  · intro j hj hb
    split at hb
    · exact h.wsn j hj hb
    · rcases (zdI hok hi h.ws8 j hj).1 hb with h1 | ⟨_, h1 | h1 | h1⟩
      · exact h.wsn j hj h1
      · obtain ⟨x, hx, he⟩ := h1; have := (hok.ps i hi).2 x hx; omega
      · obtain ⟨x, hx, he⟩ := h1; have := (hok.inn i hi).2 x hx; omega
      · obtain ⟨x, hx, he⟩ := h1; have h2 := (hok.out i hi).2 x hx; rcases he with he | ⟨_, o, ho, he⟩
        · omega
        · have := (hok.inn x.to.toNat a6).2 o ho; omega
  · intro hc; exact ⟨i, hi, of_decide_eq_true hc⟩
  · intro hc k hk; have h0 : cI (ex Y L i 3) i ≠ 0#64 := of_decide_eq_false hc; by_cases hki : k = i
    · subst hki;refine .inr (.inr ⟨h0, ?_⟩); have e := zgp (b := cI (ex Y L k 3) k) hok hi h.len; rw [← zfw hil] at e; unfold jq; rw [e.1, e.2.1, e.2.2, zlU hok hi h.len]; apply BitVec.eq_of_getLsbD_eq; intro j hj;simp only [BitVec.getLsbD_and, BitVec.getLsbD_or, BitVec.getLsbD_not, BitVec.getLsbD_zero]
      cases (cI L k).getLsbD j <;> cases (me Y L k).getLsbD j <;> cases (kQ Y L k).getLsbD j <;> cases (mb Y L k).getLsbD j <;> simp
    · have hkeep := zd3 (Y := Y) hil hki 3; by_cases hsame : cI (ex Y L i 3) i = cI L i
      · rw [if_pos hsame]
        have e : ex Y L i 3 = L := by
          rw [zfw hil, hsame]; apply List.ext_getElem?; intro j; by_cases hj : j = i
          · subst hj; rw [List.getElem?_set_self hil, List.getElem?_eq_getElem hil, d9 hil]
          · rw [List.getElem?_set_ne (fun e => hj e.symm)]
        rw [e]; rcases h.good rfl k hk with h1 | h1 | h1
        · rcases List.mem_cons.1 h1 with h1 | h1
          · exact absurd h1 hki
          · exact .inl h1
        · exact .inr (.inl h1)
        · exact .inr (.inr h1)
      · rw [if_neg hsame]; have h00 : only L i = 0 := zhL hsub hsame h0; (have honly : ∀ j, j ≠ i → only (ex Y L i 3) j = only L j := fun j hj => by unfold only; rw [zd3 hil hj]); rcases h.good rfl k hk with h1 | h1 | h1
        · rcases List.mem_cons.1 h1 with h1 | h1
          · exact absurd h1 hki
          · exact .inl h1
        · exact .inr (.inl ((zdI hok hi h.ws8 k a6).2 (.inl h1)))
        · by_cases hnear : only (ex Y L i 3) i ≠ 0 ∧ m5 Y (ex Y L i 3) i k
          · exact .inr (.inl ((zdI hok hi h.ws8 k a6).2 (.inr hnear)))
          · refine .inr (.inr ⟨by rw [hkeep]; exact h1.1, ?_⟩)
            have ha : Alike Y L (ex Y L i 3) k := by
              by_cases hz : only (ex Y L i 3) i = 0
              · have hall : ∀ j, only (ex Y L i 3) j = only L j := fun j => by
                  by_cases hj : j = i
                  · subst hj; rw [hz, h00]
                  · exact honly j hj
                exact q5o
              · exact zhT hok hi hk hki honly h00 (fun hh => hnear ⟨hz, hh⟩)
            rw [zge ha (fun x hx => by have := (hok.out k hk).2 x hx; omega), hkeep]; exact h1.2
theorem zmu {Y:Tb}{L:Ws}{i:Nat}{q:List Nat}{ws:Ws}(hi:i<L.length)(hq:q.length≤511):smu (ex Y L i 3) q (if cI (ex Y L i 3) i=cI L i then ws else kc Y (ex Y L i 3) i ws)<smu L (i :: q) ws:=by
 have hb:=ziS L i (cI (ex Y L i 3) i) hi;rw [←zfw hi] at hb;unfold smu;by_cases hs:cI (ex Y L i 3) i=cI L i
 ·rw [if_pos hs];rw [hs] at hb;simp only [List.length_cons];omega
 ·rw [if_neg hs];have hlt:=zoR (zfq (Y:=Y) hi 3) hs; (have h6:(if fj (kc Y (ex Y L i 3) i ws)=[] then 0 else 600)≤600:=by split <;> omega);simp only [List.length_cons];omega
def Ne (j:Nat):List Value:=[.int .i64 (j:Int)]
structure QuOk (w:World) (v:Value) (q:List Nat):Prop where
 sl:SlOf w v Ne 1 q
 cap:∀A n c,v= .slice A n c→n≤c
 lt:∀g,v.ownBlock=some g→∃cs t,w.heap[g]?=some (.cells cs t (0,0))
theorem SlOf.loc {α:Type}{w w':World}{v:Value}{enc:α→List Value}{size:Nat}{xs:List α}(h:SlOf w v enc size xs)(hl:∀g,v.ownBlock=some g→w'.heap[g]?=w.heap[g]?):SlOf w' v enc size xs:=by
 obtain ⟨A,cap,rfl,hc⟩:=h;refine ⟨A,cap,rfl,fun hp=>?_⟩;obtain ⟨g,off,rfl,hcs⟩:=hc hp;have hg:=hl g rfl
 exact ⟨g,off,rfl,fun i hi j hj=>by
  rw [←hcs i hi j hj]
  exact World.cell?_of_block (w:=w) hg⟩
@[irreducible] def Ent.qu (v:Value) (q:List Nat):Ent where
 fp g:=v.ownBlock=some g
 ok w:=QuOk w v q
 loc h k:=⟨k.sl.loc h,k.cap,fun g hg=>by rw [h g hg];exact k.lt g hg⟩
 lt h g hg:=by obtain ⟨cs,t,e⟩:=h.lt g hg;exact (Array.getElem?_eq_some_iff.1 e).1
 nd h g hg c:=by obtain ⟨cs,t,e⟩:=h.lt g hg;rw [e];simp
theorem gr {v:Value}{q:List Nat}{g:Nat}:(Ent.qu v q).fp g↔v.ownBlock=some g:=by unfold Ent.qu;exact Iff.rfl
theorem fP {v:Value}{q:List Nat}{w:World}:(Ent.qu v q).ok w↔QuOk w v q:=by unfold Ent.qu;exact Iff.rfl
theorem znF (l:List Nat):iB l=l.flatMap Ne:=by
 unfold iB
 induction l with
 |nil=>rfl
 |cons x r ih=>simp_all [Ne]
theorem zhP {w:World}{v:Value}{e:TypeId}{q:List Nat}{n:Nat}(hn:n=q.length)(h:(Ent.sl v e 1 n (iB q)).ok w):(Ent.qu v q).ok w:=by
 have ho:=cU.1 h;rw [znF] at ho;refine fP.2 ⟨SlOf.own (enc:=Ne) (size:=1) (fun _=>rfl) ho hn,?_,?_⟩
 ·rintro A m c rfl;rcases ho.2 with ⟨e,_⟩|⟨g,cap,cur,e,_,_,h1,_⟩
  ·cases e;exact Nat.le_refl _
  ·cases e;exact h1
 ·intro g hg;rcases ho.2 with ⟨e,_⟩|⟨g',cap,cur,e,_,h1,_⟩
  ·rw [e] at hg;cases hg
  ·rw [e] at hg;simp [Value.ownBlock] at hg;subst hg;exact ⟨_,_,h1⟩
section
variable {F:Fence}{P:Program}{n:Nat}{B D:World}{M:Nat→Prop}{Q:Exit→Act→World→Prop}{fs:dZ}{hs:HS}{o:Oper}{ops:Array Oper}{l:List Oper}{c:Code}{e:Exit}
theorem Hp.conv {w:World}{i:Nat}{a b:Ent}(h:Hp B M hs w)(hi:hs[i]?=some a)(hok:a.ok w→b.ok w)(hfp:∀g,b.fp g→a.fp g):Hp B M (hs.set i b) w:=
 h.updAt hi (Only.refl (fun _=>False) w) (fun _ _ h=>h.elim) (hok (h.get hi)) (fun g hg=> .inl (hfp g hg))
theorem TL.conv (i:Nat)(a b:Ent){hs':HS}(hi:hs[i]?=some a)(hok:∀w,a.ok w→b.ok w)(hfp:∀g,b.fp g→a.fp g)[hH:SetAt hs i b hs'](h:TL F P n B D M ops Q l fs hs'):TL F P n B D M ops Q l fs hs:=⟨fun a' w ha hw hm=>h.out a' w ha (by rw [←hH.h];exact hw.conv hi (hok w) hfp) hm⟩
theorem K.conv (i:Nat)(a b:Ent){hs':HS}(hi:hs[i]?=some a)(hok:∀w,a.ok w→b.ok w)(hfp:∀g,b.fp g→a.fp g)[hH:SetAt hs i b hs'](h:K n B D M Q e fs hs'):K n B D M Q e fs hs:=⟨fun a' w ha hw hm=>h.out a' w ha (by rw [←hH.h];exact hw.conv hi (hok w) hfp) hm⟩
theorem Yv.cz (i:Nat){t e:TypeId}{k:Nat}{x:Operand}{v:Value}{q:List Nat}[hT:TySl P t e k](ho:o.op= .call { callee:= .builtin .len,args:= #[x],argTypes:= #[t] })(hx:ev fs x=some v)(hi:hs[i]?=some (.qu v q)):Yv P n B M fs hs o (.int .i64 (q.length:Int)):=fun a w ha hw=>by
 obtain ⟨A,cap,rfl,_⟩:=(fP.1 (hw.get hi)).sl;exact iK (B:=B) (M:=M) (hs:=hs) ho hx a w ha hw
theorem T.cd (i:Nat){v:Value}{x:Nat}{q:List Nat}(hi:hs[i]?=some (.qu v (x :: q)))(h:∀g off cap,v= .slice (some ⟨g,off,none⟩) (q.length+1) cap→q.length+1≤cap→T F P n B D M c Q fs hs):T F P n B D M c Q fs hs:=⟨fun a w ha hw hm=>by
 have hq:=fP.1 (hw.get hi);obtain ⟨A,cap,rfl,hc⟩:=hq.sl;obtain ⟨g,off,rfl,_⟩:=hc b2
 exact (h g off cap rfl (hq.cap _ _ _ rfl)).out a w ha hw hm⟩
theorem Yv.cq (i:Nat){t:TypeId}[hT:TyS P t]{g off p cap m:Nat}{x:Nat}{q:List Nat}{y:Operand}(ho:o.op= .load t y)(hy:ev fs y=some (.pointer (some ⟨g,p,none⟩)))(hi:hs[i]?=some (.qu (.slice (some ⟨g,off,none⟩) m cap) (x :: q)))(hp:p=off):Yv P n B M fs hs o (.int .i64 (x:Int)):=fun a w ha hw=>by
 subst hp;obtain ⟨A,cap',e,hc⟩:=(fP.1 (hw.get hi)).sl
 cases e
 obtain ⟨g',off',e,hcs⟩:=hc b2
 cases e
 have:=hcs 0 b2 0 (by simp [Ne]);exact zd2 ho (ha.ev hy) (by simpa [Ne] using this)
def kS (g off n:Nat):Value:= .slice (if n+1=1 then some ⟨g,off,none⟩ else some ⟨g,off+1,none⟩) n n
theorem Yv.ce {t e:TypeId}{x a b d:Operand}{g off m cap:Nat}[hT:TySl P t e 1](ho:o.op= .slice t x (some a) (some b) (some d))(hx:ev fs x=some (.slice (some ⟨g,off,none⟩) (m+1) cap))(ha:ev fs a=some (.int .i64 1))(hb:ev fs b=some (.int .i64 ((m+1:Nat):Int)))(hd:ev fs d=some (.int .i64 ((m+1:Nat):Int)))(hc:m+1≤cap):Yv P n B M fs hs o (kS g off m):=fun f w hf _=>by
 have hr:(Instr.sliceAt t (.slice (some ⟨g,off,none⟩) (m+1) cap) (some (.int .i64 1)) (some (.int .i64 ((m+1:Nat):Int))) (some (.int .i64 ((m+1:Nat):Int)))).run P w= .ok (kS g off m) w:=by
  have h:=hT.h;unfold zfy at h
  split at h
  ·rename_i el hU
   cases hi':P.info? el with
   |none=>rw [hi'] at h;cases h
   |some inf=>
    rw [hi'] at h;simp only [Option.map,Option.some.injEq,Prod.mk.injEq] at h;obtain ⟨rfl,hsz⟩:=h
    have h1:(Instr.sliceBounds true (m+1) cap (some (.int .i64 1)) (some (.int .i64 ((m+1:Nat):Int))) (some (.int .i64 ((m+1:Nat):Int)))).run P w= .ok (1,m+1,m+1) w:=by
     unfold Instr.sliceBounds;simp only [Sem.run_bind,run_sliceBound w .i64 ((m+1:Nat):Int) cap _ a6 a6,Result.andThen,Int.toNat_natCast,run_sliceBound w .i64 ((m+1:Nat):Int) (m+1) _ a6 a6,run_sliceBound w .i64 1 (m+1) _ a6 a6]
     rfl
    obtain ⟨z,hz⟩:∃z:Int,z=((m+1:Nat):Int):=⟨_,rfl⟩;rw [←hz] at h1 ⊢;simp [Instr.sliceAt,Instr.slice,underlying,hU,h1,sizeOf,typeInfo,hi',hsz,kS,Addr.add,Result.andThen]
  ·cases h
 unfold execOp;simp only [ho,hf.ev hx,hf.ev ha,hf.ev hb,hf.ev hd,Option.map];rw [Sem.run_bind,hr]
 rfl
end
theorem zkW {g off n b:Nat}(h:(kS g off n).ownBlock=some b):b=g:=by
 unfold kS at h
 split at h <;> (simp [Value.ownBlock] at h;exact h.symm)
theorem zoB {w:World}{g off cap x:Nat}{q:List Nat}(h:(Ent.qu (.slice (some ⟨g,off,none⟩) (q.length+1) cap) (x :: q)).ok w):(Ent.qu (kS g off q.length) q).ok w:=by
 have hq:=fP.1 h;obtain ⟨A,cap',e,hc⟩:=hq.sl
 cases e
 obtain ⟨g',off',e,hcs⟩:=hc b2
 cases e
 refine fP.2 ⟨⟨_,_,rfl,fun hl=>?_⟩,?_,fun b hb=>?_⟩
 ·refine ⟨g,off+1,by rw [if_neg a6],fun i hi=>?_⟩;have:=hcs (i+1) (by simpa using hi);simp only [List.getElem_cons_succ] at this;rw [show off+1+i*1=off+(i+1) *1 by omega];exact this
 ·intro A n c e;unfold kS at e
  cases e
  exact Nat.le_refl _
 ·rw [zkW hb];exact hq.lt g rfl
def gX (Y:Tb)(L0 L:Ws)(c:Bool):Prop:=Reach Y L0 L∧L.length=Y.n∧(c=true→∃i,i<Y.n∧cI L i=0#64)∧(c=false→∀i,i<Y.n→zhV Y L i)
def rid (k:Nat):Nat:=if k=0 then 112 else if k=1 then 113 else 114
instance (k:Nat):Enters Tryz.prog (rid k):=by
 unfold rid;split
 ·exact inferInstance
 ·split <;> exact inferInstance
def ruleFs:List Value:=[.func (.func 112) #[] #[], .func (.func 113) #[] #[], .func (.func 114) #[] #[]]
theorem zoN {k:Nat}(h:k<3):ruleFs[k]?=some (.func (.func (rid k)) #[] #[]):=by
 (obtain rfl|rfl|rfl:k=0∨k=1∨k=2:=by omega)
 all_goals rfl
theorem zjX (sp:Nat)(Y:Tb)(L:Ws)(c:Bool)(i:Nat)(z:Int)(hz:z=(i:Int))(hi:i<Y.n)(w:World)(h:StateAt w sp Y L c)(hok:Y.Ok)(k:Nat)(hk:k<3):Calls Tryz.prog (rid k) #[.pointer (some ⟨sp,0,none⟩), .int .i64 z] w fun e w'=>e= .returned (U (zgS Y L i k))∧Below w.heap.size w w':=by
 (obtain rfl|rfl|rfl:k=0∨k=1∨k=2:=by omega)
 ·exact zja sp Y L c i z hz hi w h hok
 ·exact zkF sp Y L c i z hz hi w h hok
 ·exact zjh sp Y L c i z hz hi w h hok
abbrev sV (gl n:Nat):Value:= .slice (some ⟨gl,0,none⟩) n n
abbrev sG (gl:GL)(n:Nat):Value:= .slice (some ⟨gl.b,0,none⟩) n gl.c
abbrev dI (sp:Nat)(gl:GL)(tp n:Nat)(c:Bool):Ent:= .row sp 145 [.pointer (some ⟨tp,0,none⟩),sG gl n, .bool c]
abbrev eU (gl:GL)(n:Nat)(L:Ws):Ent:= .sl (sG gl n) 98 1 n (Ws.cells L)
theorem znb (L:Ws):Ws.cells L=L.flatMap Le:=by
 induction L with
 |nil=>rfl
 |cons x r ih=>simp_all [Le,Ws.cells]
theorem iM {B w0 w:World}{M:Nat→Prop}{hs:HS}{sp:Nat}{gl:GL}{tp:Nat}{Y:Tb}{L:Ws}{c:Bool}(hw:Hp B M hs w)(ht:TablesAt w0 tp Y)(hfr:Fz w0 w)(htab:Tab w)(i j:Nat)(hi:hs[i]?=some (dI sp gl tp Y.n c))(hj:hs[j]?=some (eU gl Y.n L))(hl:L.length=Y.n):StF w0 w sp gl tp Y L c:=by
 have h1:=cW.1 (hw.get hi);have h2:=cU.1 (hw.get hj);rw [znb] at h2;have h3:=SlOf.own (enc:=Le) (size:=1) (fun _=>rfl) h2 hl.symm;rw [←hl] at h1 h3;exact ⟨ht,hfr,by rw [jM h1];rfl,by rw [jM h1];rfl,h3,hl,by rw [jM h1];rfl,htab⟩
theorem zgM {L:Ws}{i p:Nat}{b:BitVec 64}(hp:p=i):(Ws.cells L).set p (U b)=Ws.cells (L.set i b):=Ws.put hp
theorem zg3 (w0:World)(sp:Nat)(gl:GL)(tp:Nat)(Y:Tb)(L:Ws)(c:Bool)(v:Value)(q:List Nat)(w:World)(ht:TablesAt w0 tp Y)(hok:Y.Ok)(hfr:Fz w0 w)(htab:Tab w)(hes:Hp w (dG [dI sp gl tp Y.n c,eU gl Y.n L,Ent.qu v q]) [dI sp gl tp Y.n c,eU gl Y.n L,Ent.qu v q] w)(hMN:∀g,dG [dI sp gl tp Y.n c,eU gl Y.n L,Ent.qu v q] g→¬jF w0 g)(hM0:¬dG [dI sp gl tp Y.n c,eU gl Y.n L,Ent.qu v q] 0)(hinv:SInv Y L L q fB c):Calls Tryz.prog 95 #[.pointer (some ⟨sp,0,none⟩),v] w fun e w'=>∃y:Ws×Bool,gX Y L y.1 y.2∧e= .returned (.tuple #[])∧Hp w (dG [dI sp gl tp Y.n c,eU gl Y.n L,Ent.qu v q]) [dI sp gl tp Y.n y.2,eU gl Y.n y.1] w':=by
 have hn512:=hok.n;refine dA (M:=dG [dI sp gl tp Y.n c,eU gl Y.n L,Ent.qu v q]) (hs:=[dI sp gl tp Y.n c,eU gl Y.n L,Ent.qu v q]) Tryz.func95 rfl rfl rfl hes ?_;refine T.scope ?_;refine df ?_;refine cL (Yv.bT rfl rfl) ?_; (refine cN (Wt.none) rfl rfl (Ew.alloc) ?_;rintro _ _ ⟨g4,rfl,rfl⟩); (refine dO (Wt.none) rfl (dH 0) ?_;rintro _ _ ⟨rfl,rfl⟩);refine du ?_; (refine cN (Wt.none) rfl rfl (Ew.alloc) ?_;rintro _ _ ⟨g5,rfl,rfl⟩);refine cS (T.seq ?_);refine T.label ?_;refine K.seq (T.block ?_);refine T.loop (ι:=Ws×List Nat×Ws×Bool×Value) (fun x=>[(0, .pointer (some ⟨sp,0,none⟩)),(4, .pointer (some ⟨g4,0,none⟩)),(5, .pointer (some ⟨g5,0,none⟩)),(1,x.2.2.2.2)]) (fun x=>[.row g5 101 (Ws.cells x.2.2.1), .row g4 171 ruleFs,dI sp gl tp Y.n x.2.2.2.1,eU gl Y.n x.1,Ent.qu x.2.2.2.2 x.2.1]) (fun x=>SInv Y L x.1 x.2.1 x.2.2.1 x.2.2.2.1) (fun x=>smu x.1 x.2.1 x.2.2.1) (L,q,fB,c,v) ?_ ?_ ?_ ?_
 ·exact hinv
 ·exact (by repeat (first|exact Sub.nil|refine Sub.cons rfl ?_))
 ·exact Sx
 ·intro x hphi;obtain ⟨L1,q1,ws1,c1,v1⟩:=x;dsimp only at hphi ⊢;have hws8:=hphi.ws8;refine iZ ?_;refine q2n ?_;refine dM ?_;refine T.cond rfl (fun h1=>?_) (fun h1=>?_)
  ·have p1:=h1; (try simp only [cT] at p1); (obtain rfl:c1=false:=by simpa using p1);refine T.skip (K.seq (T.block ?_));refine kg (ι:=List Nat×Ws×Value) (fun y=>[(0, .pointer (some ⟨sp,0,none⟩)),(4, .pointer (some ⟨g4,0,none⟩)),(5, .pointer (some ⟨g5,0,none⟩)),(1,y.2.2)]) (fun y=>[.row g5 101 (Ws.cells y.2.1), .row g4 171 ruleFs,dI sp gl tp Y.n false,eU gl Y.n L1,Ent.qu y.2.2 y.1]) (fun y=>SInv Y L L1 y.1 y.2.1 false∧y.1≠[]∧smu L1 y.1 y.2.1≤smu L1 q1 ws1) ?_ ?_
   ·skip;refine gM ?_;refine cL (Yv.cz 4 rfl rfl rfl) ?_;refine dM ?_;refine T.cond rfl (fun h2=>?_) (fun h2=>?_)
    ·have p2:=h2; (try simp only [cT] at p2);obtain rfl:q1=[]:=List.eq_nil_of_length_eq_zero a6;refine df ?_;refine cL (gA 0 rfl rfl rfl (by rw [List.length_map,hws8])) ?_; (refine cN (Wt.none) rfl rfl (iU rfl rfl rfl (fun w hw=>zjP ws1 hws8 w (htab.kept hw hM0))) ?_;rintro v20 _ ⟨_, -,rfl,rfl⟩);refine fT ?_;refine jo ?_;refine di ?_; (refine dO (Wt.none) rfl (dH 1 rfl rfl rfl rfl rfl (by rw [List.length_map,hws8];rfl)) ?_;rintro _ _ ⟨rfl,rfl⟩);refine du ?_;refine di ?_;refine cL (jY 0 rfl rfl rfl) ?_;refine dM ?_;refine T.cond rfl (fun h3=>?_) (fun h3=>?_)
     ·have p3:=h3; (try simp only [cT] at p3);have hfin:gX Y L L1 false:=⟨hphi.reach,hphi.len,(fun hh=>by cases hh),fun _=>hphi.calm (List.eq_nil_of_length_eq_zero a6)⟩;refine T.exit (ec ?_);refine jx rfl ?_;refine ec (fU ?_);refine m9 ?_;exact q5c
     ·have p3:=h3; (try simp only [cT] at p3); (have hmem:fj ws1≠[]:=by intro hh;rw [hh] at p3;exact p3 rfl);refine T.skip ?_;refine K.conv 0 _ (Ent.qu v20 (fj ws1)) rfl (fun w hh=>zhP rfl hh) (fun g hg=>c7.2 (gr.1 hg)) ?_;refine K.bu (List.perm_append_comm (l₁:=[Ent.qu v20 (fj ws1)])) ?_;exact cP (fj ws1,fB,v20) ⟨hphi.refill,hmem,Nat.le_of_lt (zkw hmem)⟩ (by repeat (first|exact Sub.nil|refine Sub.cons rfl ?_)) Sx
    ·have p2:=h2; (try simp only [cT] at p2);refine T.skip ?_;exact cP (q1,ws1,v1) ⟨hphi,fun hh=>p2 (by rw [show q1=[] from hh];rfl),Nat.le_refl _⟩ (by repeat (first|exact Sub.nil|refine Sub.cons rfl ?_)) Sx
   ·skip;intro y hphi;obtain ⟨q2,ws2,v2⟩:=y;dsimp only at hphi ⊢;obtain ⟨hinv2,hq2,hmu2⟩:=hphi; (obtain ⟨i,r,rfl⟩:∃i r,q2=i :: r:=by cases q2 with|nil=>exact absurd rfl hq2|cons a b=>exact ⟨a,b,rfl⟩);have hws8:=hinv2.ws8;have hi:i<Y.n:=hinv2.qn i b2;have hl1:=hinv2.len; (have hr511:r.length≤511:=by have:=hinv2.q512;simp at this;omega);have hstep:=hinv2.step hok;have hsmu:=zmu (Y:=Y) (L:=L1) (i:=i) (q:=r) (ws:=ws2) a6 hr511;refine T.cd 4 rfl ?_;rintro gq oq capq rfl hcq;refine gM ?_;refine cL (gy rfl rfl rfl (show (0:Int)=((0:Nat):Int) from rfl) a6) ?_;refine cL (Yv.cq 4 rfl rfl rfl a6) ?_;refine gn ?_;refine ef ?_;refine lK ?_;refine di ?_;refine lK ?_;refine cL (Yv.ce rfl rfl rfl rfl rfl hcq) ?_;refine jr ?_;have hld0:(Ws.cells L1)[0+i*1]?=some (U (cI L1 i)):=Ws.get a6 a6;refine fi ?_;refine TL.conv 4 _ (Ent.qu (kS gq oq r.length) r) rfl (fun w hh=>zoB hh) (fun g hg=>by rw [zkW (gr.1 hg)];exact gr.2 rfl) ?_;refine ef ?_;refine q2n ?_;refine lI ?_;refine cL (fc 3 rfl rfl rfl hld0) ?_;refine dM ?_;refine T.cut (gs:=[(0, .pointer (some ⟨sp,0,none⟩)),(4, .pointer (some ⟨g4,0,none⟩)),(5, .pointer (some ⟨g5,0,none⟩)),(1,kS gq oq r.length),(6, .int .i64 (i:Int)),(7,U (cI L1 i))]) (hs':=[.row g5 101 (Ws.cells ws2), .row g4 171 ruleFs,dI sp gl tp Y.n false,eU gl Y.n (ex Y L1 i 3),Ent.qu (kS gq oq r.length) r]) ?_ ?_
    ·skip;refine df ?_;refine q2I ?_;refine di ?_;refine cS (T.block ?_);refine T.loop (ι:=Nat) (fun k=>[(0, .pointer (some ⟨sp,0,none⟩)),(4, .pointer (some ⟨g4,0,none⟩)),(5, .pointer (some ⟨g5,0,none⟩)),(1,kS gq oq r.length),(6, .int .i64 (i:Int)),(7,U (cI L1 i)),(41, .agg ruleFs.toArray),(42, .int .i64 (k:Int))]) (fun k=>[.row g5 101 (Ws.cells ws2), .row g4 171 ruleFs,dI sp gl tp Y.n false,eU gl Y.n (ex Y L1 i k),Ent.qu (kS gq oq r.length) r]) (fun k=>k≤3) (fun k=>3 - k) 0 ?_ ?_ ?_ ?_
     ·omega
     ·exact (by repeat (first|exact Sub.nil|refine Sub.cons rfl ?_))
     ·exact Sx
     ·intro k hphi;refine fA ?_;refine T.cond rfl (fun h4=>?_) (fun h4=>?_)
      ·have p4:=h4; (try simp only [cT] at p4);have hrl:=zcg (Y:=Y) (L:=L1) (i:=i) k;have hld:(Ws.cells (ex Y L1 i k))[0+i*1]?=some (U (cI (ex Y L1 i k) i)):=Ws.get a6 a6;have hrid:=zoN (k:=k) a6;refine fS ?_;refine cL (Yv.bO rfl rfl rfl rfl a6 hrid) ?_;refine kA ?_;refine ef ?_;refine q2n ?_;refine lI ?_;refine cL (fc 3 rfl rfl rfl hld) ?_;refine dM ?_;refine T.cond rfl (fun h5=>?_) (fun h5=>?_)
       ·have p5:=h5; (try simp only [cT] at p5);have hfin:gX Y L (ex Y L1 i k) true:=⟨zek hinv2.reach hi k,by omega,fun _=>⟨i,hi,BitVec.eq_of_toNat_eq (by show _=0;omega)⟩,fun hh=>by cases hh⟩;refine iv ?_;refine fg ?_; (refine dO (Wt.none) rfl (ed 2 rfl rfl rfl rfl b5) ?_;rintro _ _ ⟨rfl,rfl⟩);refine cS (T.exit (ec ?_));refine jx rfl ?_;refine ec (ec ?_);refine q2M ?_;refine ec (fU ?_);refine m9 ?_;exact q5c
       ·have p5:=h5; (try simp only [cT] at p5);refine T.skip (K.seq ?_);refine dF (.still 0 (.still 1 (.still 2 (.still 3 (.still 4 (.still 5 (.still 7 (.still 8 (.still 9 (.two 6 10 (.eff 10 (sN 11 2 (.eff 13 .done))) (.eff 6 (sN 11 2 (.eff 13 .done))))))))))))) (List.eraseIdx _ 3) a8 (List.eraseIdx_sublist _ _) ?_;refine jn ?_;refine q3Q ?_;refine eY ?_;refine q2s ?_;refine ik ?_;refine TS.two ?_ ?_
        ·skip;refine eE rfl (Wt.none) rfl rfl (fc 3 rfl rfl rfl hld) Sx ?_;refine dw ?_; (refine da rfl (Wt.none) rfl rfl (cM rfl rfl rfl (fun w hw=>zjX sp Y (ex Y L1 i k) false i _ rfl hi w (iM hw ht (Fz.hp hfr hw hMN) (htab.kept hw hM0) 2 3 rfl rfl a6).st hok k a6)) ?_;rintro _ _ ⟨rfl,rfl⟩;refine ⟨Sx,?_⟩);refine cO rfl (mT rfl rfl rfl) ?_;refine q2s ?_;refine dw ?_; (refine dJ rfl (Wt.none) rfl (fD 3 (Ws.cells (ex Y L1 i (k+1))) rfl rfl rfl rfl cC (zgM a6)) ?_;rintro _ _ ⟨rfl,rfl⟩;refine ⟨Sx,?_⟩);refine q2c ?_;exact K.next (k+1) a6 a6 (by repeat (first|exact Sub.nil|refine Sub.cons rfl ?_)) Sx
        ·skip; (refine da rfl (Wt.none) rfl rfl (cM rfl rfl rfl (fun w hw=>zjX sp Y (ex Y L1 i k) false i _ rfl hi w (iM hw ht (Fz.hp hfr hw hMN) (htab.kept hw hM0) 2 3 rfl rfl a6).st hok k a6)) ?_;rintro _ _ ⟨rfl,rfl⟩;refine ⟨Sx,?_⟩);refine dw ?_;refine eE rfl (Wt.none) rfl rfl (fc 3 rfl rfl rfl hld) Sx ?_;refine cO rfl (mT rfl rfl rfl) ?_;refine q2s ?_;refine dw ?_; (refine dJ rfl (Wt.none) rfl (fD 3 (Ws.cells (ex Y L1 i (k+1))) rfl rfl rfl rfl cC (zgM a6)) ?_;rintro _ _ ⟨rfl,rfl⟩;refine ⟨Sx,?_⟩);refine q2c ?_;exact K.next (k+1) a6 a6 (by repeat (first|exact Sub.nil|refine Sub.cons rfl ?_)) Sx
      ·have p4:=h4; (try simp only [cT] at p4);refine fx ?_;exact K.at (by repeat (first|exact Sub.nil|refine Sub.cons rfl ?_)) (by rw [show 3=k by omega];exact Sx)
    ·skip;refine T.cut (gs:=[(0, .pointer (some ⟨sp,0,none⟩)),(4, .pointer (some ⟨g4,0,none⟩)),(5, .pointer (some ⟨g5,0,none⟩)),(1,kS gq oq r.length),(6, .int .i64 (i:Int)),(7,U (cI L1 i))]) (hs':=[.row g5 101 (Ws.cells ws2), .row g4 171 ruleFs,dI sp gl tp Y.n (decide (cI (ex Y L1 i 3) i=0#64)),eU gl Y.n (ex Y L1 i 3),Ent.qu (kS gq oq r.length) r]) ?_ ?_
     ·skip;refine T.seq ?_;have hrl3:=zcg (Y:=Y) (L:=L1) (i:=i) 3;have hld3:(Ws.cells (ex Y L1 i 3))[0+i*1]?=some (U (cI (ex Y L1 i 3) i)):=Ws.get a6 a6;refine ji ?_;refine q2n ?_;refine lI ?_;refine cL (fc 3 rfl rfl rfl hld3) ?_;refine dM ?_;refine T.cond rfl (fun h6=>?_) (fun h6=>?_)
      ·have p6:=h6; (try simp only [cT] at p6);have hz3:cI (ex Y L1 i 3) i=0#64:=BitVec.eq_of_toNat_eq (by show _=0;omega);refine ji ?_;refine fg ?_; (refine dO (Wt.none) rfl (ed 2 rfl rfl rfl rfl b5) ?_;rintro _ _ ⟨rfl,rfl⟩);refine ep ?_; (rw [decide_eq_true hz3];exact K.at (by repeat (first|exact Sub.nil|refine Sub.cons rfl ?_)) Sx)
      ·have p6:=h6; (try simp only [cT] at p6); (have hz3n:¬cI (ex Y L1 i 3) i=0#64:=fun hh=>by rename_i hh2;exact (by assumption:¬((cI (ex Y L1 i 3) i).toNat:Int)=0) (by rw [hh];rfl));refine T.skip ?_; (rw [decide_eq_false hz3n];exact K.at (by repeat (first|exact Sub.nil|refine Sub.cons rfl ?_)) Sx)
     ·skip;refine T.seq ?_;have hrl3:=zcg (Y:=Y) (L:=L1) (i:=i) 3;have hld3:(Ws.cells (ex Y L1 i 3))[0+i*1]?=some (U (cI (ex Y L1 i 3) i)):=Ws.get a6 a6;refine ji ?_;refine q2n ?_;refine lI ?_;refine cL (fc 3 rfl rfl rfl hld3) ?_;refine jm ?_;refine T.cond rfl (fun h7=>?_) (fun h7=>?_)
      ·have p7:=h7; (try simp only [cT] at p7);have hch:¬cI (ex Y L1 i 3) i=cI L1 i:=fun hh=>(by assumption:¬((cI (ex Y L1 i 3) i).toNat:Int)=((cI L1 i).toNat:Int)) (by rw [hh]);refine ji ?_; (refine cN (Wt.none) rfl rfl (lW 0 rfl rfl rfl rfl (fun w hw=>zin w0 sp gl tp g5 Y (ex Y L1 i 3) _ ws2 hws8 i _ rfl hi w (iM hw ht (Fz.hp hfr hw hMN) (htab.kept hw hM0) 2 3 rfl rfl a6) hok (by rcases hw.new _ (List.mem_of_getElem? (i:=0) rfl) g5 (cQ.2 rfl) with hh|hh;exact hMN _ hh;exact (fun hc=>by have h9:=hfr _ hc;obtain ⟨_,_,_,h8⟩:=hc;rw [h8] at h9;have:=(Array.getElem?_eq_some_iff.1 h9).1;omega)) (by intro hz0;subst hz0;rcases hw.new _ (List.mem_of_getElem? (i:=0) rfl) 0 (cQ.2 rfl) with hh|hh;exact hM0 hh;have:=htab.size;omega) (fun hh=>hw.ne (i:=0) (j:=2) a6 rfl rfl (g:=g5) (cQ.2 rfl) (cQ.2 hh.symm)) (fun hh=>hw.ne (i:=0) (j:=3) a6 rfl rfl (g:=g5) (cQ.2 rfl) (c7.2 (congrArg some hh))) (hw.get (i:=0) rfl))) ?_;rintro _ _ ⟨-, -,rfl,rfl⟩);refine TL.nil (fv ?_);exact K.next (ex Y L1 i 3,r,(if cI (ex Y L1 i 3) i=cI L1 i then ws2 else kc Y (ex Y L1 i 3) i ws2),decide (cI (ex Y L1 i 3) i=0#64),kS gq oq r.length) hstep b3 (by repeat (first|exact Sub.nil|refine Sub.cons rfl ?_)) (by dsimp only;first|(rw [if_neg hch];exact Sx)|(rw [if_pos hsm];exact Sx))
      ·have p7:=h7; (try simp only [cT] at p7);have hsm:cI (ex Y L1 i 3) i=cI L1 i:=BitVec.eq_of_toNat_eq a6;refine T.skip (fv ?_);exact K.next (ex Y L1 i 3,r,(if cI (ex Y L1 i 3) i=cI L1 i then ws2 else kc Y (ex Y L1 i 3) i ws2),decide (cI (ex Y L1 i 3) i=0#64),kS gq oq r.length) hstep b3 (by repeat (first|exact Sub.nil|refine Sub.cons rfl ?_)) (by dsimp only;first|(rw [if_neg hch];exact Sx)|(rw [if_pos hsm];exact Sx))
  ·have p1:=h1; (try simp only [cT] at p1); (obtain rfl:c1=true:=by simpa using p1);have hfin:gX Y L L1 true:=⟨hphi.reach,hphi.len,hphi.bad,fun hh=>by cases hh⟩;refine fx ?_;refine m9 ?_;exact q5c
def gD (N:Nat)(f:Nat→Int):List Value:=(List.range N).map fun d=> .int .i64 (f d)
theorem mW {N:Nat}{f:Nat→Int}:(gD N f).length=N:=by simp [gD]
theorem zg2 {N:Nat}{f:Nat→Int}{d p:Nat}(hp:p=d)(hd:d<N):(gD N f)[p]?=some (.int .i64 (f d)):=by subst hp;simp [gD,hd]
theorem zks {N:Nat}{f f':Nat→Int}{d p:Nat}{v:Int}(hp:p=d)(hd:d<N)(h1:f' d=v)(h2:∀e,e≠d→f' e=f e):(gD N f).set p (.int .i64 v)=gD N f':=by
 subst hp h1;apply List.ext_getElem?;intro e;unfold gD;by_cases he:e=p
 ·subst he;rw [List.getElem?_set_self (by simpa using hd)];simp [hd]
 ·rw [List.getElem?_set_ne (fun h=>he h.symm)];simp only [List.getElem?_map,List.getElem?_range];by_cases h52:e<N
  ·simp [h52,h2 e he]
  ·simp [h52]
def dl (s:Value)(ix:List Value)(tot:Int)(p c i f:Value):List Value:=s :: (ix++[.int .i64 tot,p,c,i,f])
instance (N:Nat) (f:Nat→Int):OneCs (gD N f):=⟨fun x hx=>by obtain ⟨b,_,rfl⟩:=List.mem_map.1 hx;rfl⟩
instance (s:Value) (ix:List Value) (tot:Int) (p c i f:Value) [h1:OneC s] [h2:OneCs ix] [h3:OneC p] [h4:OneC c] [h5:OneC i] [h6:OneC f]:OneCs (dl s ix tot p c i f):=by unfold dl;exact inferInstance
section
variable {s p c i f:Value}{ix:List Value}{tot:Int}
theorem zg5 (hix:ix.length=512):(dl s ix tot p c i f).length=518:=by simp [dl,hix]
theorem mo (hix:ix.length=512){q j:Nat}(hq:q=513+j:=by exact rfl):(dl s ix tot p c i f)[q]?=[.int .i64 tot,p,c,i,f][j]?:=by
 subst hq;unfold dl;rw [show 513+j=(512+j)+1 by omega,List.getElem?_cons_succ,List.getElem?_append_right a6,hix,Nat.add_sub_cancel_left]
theorem ziD (hix:ix.length=512){q j:Nat}(hj:j<512)(hq:q=1+j):(dl s ix tot p c i f)[q]?=ix[j]?:=by
 subst hq;unfold dl;rw [show 1+j=j+1 by omega,List.getElem?_cons_succ,List.getElem?_append_left a6]
theorem zic (hix:ix.length=512){q j:Nat}{v:Value}(hj:j<512)(hq:q=1+j):(dl s ix tot p c i f).set q v=dl s (ix.set j v) tot p c i f:=by
 subst hq;unfold dl;rw [show 1+j=j+1 by omega,List.set_cons_succ,List.set_append_left _ _ a6]
theorem zhA (hix:ix.length=512){q:Nat}{t:Int}(hq:q=513):(dl s ix tot p c i f).set q (.int .i64 t)=dl s ix t p c i f:=by
 subst hq;unfold dl;rw [show 513=512+1 from rfl,List.set_cons_succ,List.set_append_right _ _ a6,hix]
 rfl
end
def dX (ds:List Dx):Nat→Nat→Int
 |0=>fun _=>0
 |k+1=>fun j=>if j=(cI ds k).st.toNat then (k:Int)+1 else dX ds k j
def gV (ds:List Dx):Nat→Int
 |0=>0
 |k+1=>gV ds k+((cI ds k).chs.length:Int)
def upd {α:Type}(f:Nat→α)(a:Nat)(x:α):Nat→α:=fun j=>if j=a then x else f j
def db {α:Type}(e:TypeId)(size n:Nat)(vv:Nat→Value)(enc:α→List Value)(f:Nat→List α):HS:=(List.range n).map fun j=> .sl (vv j) e size (f j).length ((f j).flatMap enc)
theorem zcR {α:Type}{e:TypeId}{size n:Nat}{vv:Nat→Value}{enc:α→List Value}{f:Nat→List α}:(db e size n vv enc f).length=n:=by simp [db]
theorem zes {α:Type}{e:TypeId}{size n:Nat}{vv:Nat→Value}{enc:α→List Value}{f:Nat→List α}{a:Nat}(h:a<n):(db e size n vv enc f)[a]?=some (.sl (vv a) e size (f a).length ((f a).flatMap enc)):=by simp [db,h]
theorem zcO {α:Type}{e:TypeId}{size n:Nat}{vv:Nat→Value}{enc:α→List Value}{f:Nat→List α}{a:Nat}{v:Value}{x:α}(h:a<n):(db e size n vv enc f).set a (.sl v e size ((f a).length+1) ((f a).flatMap enc++enc x))=db e size n (upd vv a v) enc (upd f a (f a++[x])):=by
 apply List.ext_getElem?;intro j;unfold db;by_cases hj:j=a
 ·subst hj;rw [List.getElem?_set_self (by simpa using h)];simp [h,upd]
 ·rw [List.getElem?_set_ne (fun e=>hj e.symm)];simp only [List.getElem?_map,List.getElem?_range,upd,if_neg hj];by_cases h52:j<n
  ·simp [h52,hj]
  ·simp [h52]
theorem zdt {n:Nat}{vv:Nat→Value}{a q:Nat}{v:Value}(hq:q=a)(h:a<n):((List.range n).map vv).set q v=(List.range n).map (upd vv a v):=by
 subst hq;apply List.ext_getElem?;intro j;by_cases hj:j=q
 ·subst hj;rw [List.getElem?_set_self (by simpa using h)];simp [h,upd]
 ·rw [List.getElem?_set_ne (fun e=>hj e.symm)];simp only [List.getElem?_map,List.getElem?_range];by_cases h52:j<n
  ·simp [h52,upd,hj]
  ·simp [h52]
theorem zgr {n:Nat}{vv:Nat→Value}{a q:Nat}(hq:q=a)(h:a<n):((List.range n).map vv)[q]?=some (vv a):=by subst hq;simp [h]
theorem zmH (f:Nat→Value)(z:Value)(n:Nat):fV f z n 0=(List.range n).map fun _=>z:=by
 unfold fV;apply List.ext_getElem?;intro j;by_cases h:j<n
 ·simp [h,List.getElem?_replicate]
 ·simp [h,List.getElem?_replicate]
theorem fillT (g1 g3 g5 g7 g9 n:Nat):Fill (zgg Tryz.prog 168) ([.slice none 0 0]++List.replicate 513 (.int .i64 0)++List.replicate 4 (.slice none 0 0)) [(0,sV g1 n),(3,sV g3 n),(4,sV g5 n),(5,sV g7 n),(6,sV g9 n)] (dl (sV g1 n) (gD 512 fun _=>0) 0 (sV g3 n) (sV g5 n) (sV g7 n) (sV g9 n)):=⟨by kernel_rfl⟩
structure Pb.Good (P:Pb):Prop where
 n:P.ds.length≤512
 st:∀d∈P.ds,0≤d.st∧d.st≤511
 chs:∀d∈P.ds,d.chs.length≤52∧∀c∈d.chs,2≤c∧c≤51
 inc:∀i j,i<j→j<P.ds.length→(cI P.ds i).st<(cI P.ds j).st
 ps:∀x∈P.ps,x.ok=true∧(∃i,i<P.ds.length∧x.a=(cI P.ds i).st)∧∃i,i<P.ds.length∧x.b=(cI P.ds i).st
 ls:∀x∈P.ls,x.ok=true∧(∃i,i<P.ds.length∧x.to=(cI P.ds i).st)∧∃i,i<P.ds.length∧x.fr=(cI P.ds i).st
 cs:∀x∈P.cs,x.ok=true∧∃i,i<P.ds.length∧x.st=(cI P.ds i).st
 lps:P.ps.length≤4096
 lls:P.ls.length≤1024
 lcs:P.cs.length≤1024
theorem zoQ {xs:List Dx}(h:fy (fun a b:Dx=>dL a.st b.st) xs=true):∀i j,i<j→j<xs.length→(cI xs i).st<(cI xs j).st:=by
 intro i j hij
 induction j with
 |zero=>omega
 |succ j ih=>
  intro hj;have h1:=kD.1 (io.1 h j hj);rcases Nat.lt_or_ge i j with h2|h2
  ·have:=ih h2 a6;omega
  ·rw [show i=j by omega];exact h1
theorem Pb.good {P:Pb}(h:P.ok=true):P.Good:=by
 simp only [Pb.ok,Pb.rulesOk,Bool.and_eq_true,decide_eq_true_eq] at h;obtain ⟨h1,⟨h2,h3,h4,h5,h6,h7,h8,h9,h10⟩,h11,h12,h13,h14⟩:=h
 have hst:∀d∈P.ds,0≤d.st∧d.st≤511:=fun d hd=>by
  have:=d5.1 h1 d hd;simp only [Dx.ok,inB,Bool.and_eq_true,decide_eq_true_eq] at this;exact this.1
 have hmem:∀x,P.has x=true→∃i,i<P.ds.length∧x=(cI P.ds i).st:=fun x hx=>by
  unfold Pb.has at hx;have:=(ziO (P.ds.map fun d:Dx=>d.st) (fun y hy=>by obtain ⟨d,hd,rfl⟩:=List.mem_map.1 hy;exact hst d hd) x).1 hx;obtain ⟨d,hd,rfl⟩:=List.mem_map.1 this;obtain ⟨i,hi,rfl⟩:=List.mem_iff_getElem.1 hd;exact ⟨i,hi,by rw [d9 hi]⟩
 refine ⟨zl4 h11 h1,hst,fun d hd=>?_,zoQ h11,fun x hx=>?_,fun x hx=>?_,fun x hx=>?_,by omega,by omega,by omega⟩
 ·have:=d5.1 h1 d hd;simp only [Dx.ok,inB,Bool.and_eq_true,decide_eq_true_eq] at this
  have hr:∀c∈d.chs,2≤c∧c≤51:=fun c hc=>by
   have:=d5.1 this.2.1 c hc;simp only [Bool.and_eq_true,decide_eq_true_eq] at this;exact this
  refine ⟨?_,hr⟩;rcases Nat.lt_or_ge 52 d.chs.length with hl|hl
  ·have h1:=zlb (f:=fun c:Int=>c) this.2.2 (fun c hc=>by have:=hr c hc;omega) 52 hl;have h2:=hr _ (i4 hl);omega
  ·exact hl
 ·have:=d5.1 h12 x hx;simp only [Bool.and_eq_true] at this;exact ⟨d5.1 h3 x hx,hmem _ this.1,hmem _ this.2⟩
 ·have:=d5.1 h13 x hx;simp only [Bool.and_eq_true] at this;exact ⟨d5.1 h6 x hx,hmem _ this.1,hmem _ this.2⟩
 ·exact ⟨d5.1 h9 x hx,hmem _ (d5.1 h14 x hx)⟩
theorem zo1 {P:Pb}(h:P.Good){i:Nat}:∀k,k≤P.ds.length→i<k→dX P.ds k (cI P.ds i).st.toNat=(i:Int)+1
 |0,_,hi=>by omega
 |k+1,hk,hi=>by
  show (if (cI P.ds i).st.toNat=(cI P.ds k).st.toNat then (k:Int)+1 else dX P.ds k (cI P.ds i).st.toNat)=(i:Int)+1
  have h1:=h.st _ (i4 (show i<P.ds.length by omega));by_cases he:i=k
  ·subst he;rw [if_pos rfl]
  ·have:=h.inc i k a6 a6;rw [if_neg a6];exact zo1 h k a6 a6
def Pb.ix (P:Pb)(s:Int):Int:=dX P.ds P.ds.length s.toNat - 1
theorem eL {P:Pb}(h:P.Good){i:Nat}(hi:i<P.ds.length):P.ix (cI P.ds i).st=(i:Int):=by
 unfold Pb.ix;rw [zo1 h _ (Nat.le_refl _) hi];omega
theorem znw {P:Pb}(h:P.Good):∀k,k≤P.ds.length→0≤gV P.ds k∧gV P.ds k≤52* (k:Int)
 |0,_=>by simp [gV]
 |k+1,hk=>by
  have h1:=znw h k a6;have h2:=(h.chs _ (i4 (show k<P.ds.length by omega))).1;rw [gV];omega
def Pb.rp (P:Pb)(x:Pr):Pr:={ x with a:=P.ix x.a,b:=P.ix x.b }
def Pb.rl (P:Pb)(x:Ld):Ld:={ x with to:=P.ix x.to,fr:=P.ix x.fr }
def Pb.rc (P:Pb)(x:Cp):Cp:={ x with st:=P.ix x.st }
def Pb.psA (P:Pb)(k j:Nat):List Pr:=((P.ps.take k).map P.rp).filter fun x=>decide (x.a=(j:Int))||decide (x.b=(j:Int))
def Pb.inA (P:Pb)(k j:Nat):List Ld:=((P.ls.take k).map P.rl).filter fun x=>decide (x.to=(j:Int))
def Pb.ouA (P:Pb)(k j:Nat):List Ld:=((P.ls.take k).map P.rl).filter fun x=>decide (x.fr=(j:Int))
def Pb.csA (P:Pb)(k j:Nat):List Cp:=((P.cs.take k).map P.rc).filter fun x=>decide (x.st=(j:Int))
theorem ziT {α β:Type}[Inhabited α]{l:List α}{r:α→β}{q:β→Bool}{k:Nat}(h:k<l.length):((l.take (k+1)).map r).filter q=((l.take k).map r).filter q++(if q (r (cI l k)) then [r (cI l k)] else []):=by
 rw [List.take_succ_eq_append_getElem h,d9 h,List.map_append,List.filter_append]
 congr 1
 simp only [List.map_cons,List.map_nil,List.filter_cons,List.filter_nil]
theorem zc4 {α β:Type}{l:List α}{r:α→β}{q:β→Bool}{k:Nat}:(((l.take k).map r).filter q).length≤l.length:=by
 refine Nat.le_trans (List.length_filter_le _ _) ?_;rw [List.length_map,List.length_take];omega
theorem zjT {P:Pb}{k:Nat}(h:k<P.ps.length){a b:Nat}(ha:P.ix (cI P.ps k).a=(a:Int))(hb:P.ix (cI P.ps k).b=(b:Int))(hab:a≠b):upd (upd (P.psA k) a (P.psA k a++[P.rp (cI P.ps k)])) b (upd (P.psA k) a (P.psA k a++[P.rp (cI P.ps k)]) b++[P.rp (cI P.ps k)])=P.psA (k+1):=by
 funext j
 have e:P.psA (k+1) j=P.psA k j++(if (decide ((P.rp (cI P.ps k)).a=(j:Int))||decide ((P.rp (cI P.ps k)).b=(j:Int)))=true then [P.rp (cI P.ps k)] else []):=ziT h;rw [e];have e1:(P.rp (cI P.ps k)).a=(a:Int):=ha;have e2:(P.rp (cI P.ps k)).b=(b:Int):=hb;rw [e1,e2];unfold upd;by_cases hjb:j=b
 ·subst hjb;rw [if_pos rfl,if_neg (fun h=>hab h.symm),if_pos b2]
 ·by_cases hja:j=a
  ·subst hja;rw [if_neg hjb,if_pos rfl,if_pos b2]
  ·rw [if_neg hjb,if_neg hja,if_neg cF,List.append_nil]
theorem zhr {α β:Type}[Inhabited α]{l:List α}{r:α→β}{f:β→Int}{k a:Nat}(h:k<l.length)(ha:f (r (cI l k))=(a:Int)):upd (fun j:Nat=>((l.take k).map r).filter fun x=>decide (f x=(j:Int))) a (((l.take k).map r).filter (fun x=>decide (f x=(a:Int)))++[r (cI l k)])=fun j:Nat=>((l.take (k+1)).map r).filter fun x=>decide (f x=(j:Int)):=by
 funext j
 rw [ziT h,ha];unfold upd;by_cases hj:j=a
 ·subst hj;rw [if_pos rfl,if_pos b2]
 ·rw [if_neg hj,if_neg cF,List.append_nil]
end Go.Proofs.YtgoeeefoinkepaaGreatDoor
