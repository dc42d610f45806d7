/- Gg Lq Pb Sd M13 Se M14 Ff Fo St Fv Sz Yn Sk: shortened and put together by squeeze.py. -/
import Derived.Test.YtbpbhbkcahcdiaaGreatDoorQ08
import Derived.Laws.Slices
set_option maxRecDepth 100000
set_option maxHeartbeats 4000000
set_option linter.unusedVariables false
set_option linter.unusedSectionVars false
set_option linter.unusedSimpArgs false
namespace Go.Proofs.YtbpbhbkcahcdiaaGreatDoor
open Go.RowKit
structure ValidL (l:List GChoice):Prop where
 good:∀c∈l,0≤c.Station∧c.Station≤511∧2≤c.Channel∧c.Channel≤51
 inc:∀i j,i<j→j<l.length→(nth l i).Station<(nth l j).Station
theorem validL_iff {l:List GChoice}:(List.range l.length).all (zev l)=true↔ValidL l:=by
 rw [List.all_eq_true];simp only [List.mem_range,zev,inB,Bool.and_eq_true,decide_eq_true_eq,Bool.not_eq_true',Bool.and_eq_false_iff,decide_eq_false_iff_not];constructor
 ·intro h;refine ⟨fun c hc=>?_,fun i j hij hj=>?_⟩
  ·obtain ⟨i,hi,rfl⟩:=zaK hc;have:=h i hi;omega
  ·have key:∀m,i+m+1<l.length→(nth l i).Station<(nth l (i+m+1)).Station:=by
    intro m
    induction m with
    |zero=>intro hm;have:=(h (i+1) hm).2.2;rw [show i+1 - 1=i by omega] at this;rw [Nat.add_zero];omega
    |succ m ih=>intro hm;have h1:=ih (by omega);have:=(h (i+(m+1)+1) hm).2.2;rw [show i+(m+1)+1 - 1=i+m+1 by omega] at this;omega
   have:=key (j - i - 1) (by omega)
   rwa [show i+(j - i - 1)+1=j by omega] at this
 ·intro h i hi;have:=h.good _ (zak hi);refine ⟨by omega,by omega,?_⟩;rcases Nat.eq_zero_or_pos i with h0|h0
  ·subst h0;left;omega
  ·right;have:=h.inc (i - 1) i (by omega) hi;omega
theorem ValidL.inj {l:List GChoice}(h:ValidL l){a b:GChoice}(ha:a∈l)(hb:b∈l)(e:a.Station=b.Station):a=b:=by
 obtain ⟨i,hi,rfl⟩:=zaK ha;obtain ⟨j,hj,rfl⟩:=zaK hb;rcases Nat.lt_trichotomy i j with h1|h1|h1
 ·have:=h.inc i j h1 hj;omega
 ·rw [h1]
 ·have:=h.inc j i h1 hi;omega
def orV (k:Int)(o:Option Nat)(r:GViolation):GViolation:=match o with
 |some i=>⟨k,(i:Int)⟩
 |none=>r
theorem zjr {p:GProblem}{s:Int}:decide (zad p s<0)= !zbM p s:=by
 have:=zjL (p:=p) (s:=s);unfold hasS at this;unfold zbM
 cases h:p.Domains.any fun d=>decide (d.Station=s) with
 |true=>
  rw [h] at this;exact decide_eq_false (fun e=>by have:=this.1 e;cases this)
 |false=>exact decide_eq_true (this.2 h)
section
variable {p:GProblem}{f:Int→Int}
end
structure FiltD (f:GDomain→GDomain) (φ:Int→Int→Prop):Prop where
 st:∀x,(f x).Station=x.Station
 mem:∀x q,q∈(f x).Channels↔q∈x.Channels∧φ x.Station q
 sub:∀x,(f x).Channels.Sublist x.Channels
 mono:∀x y,x.Station=y.Station→x.Channels.Sublist y.Channels→(f x).Channels.Sublist (f y).Channels
theorem FiltD.id:FiltD id (fun _ _=>True):=⟨fun _=>rfl,fun _ _=>by simp,fun _=>List.Sublist.refl _,fun _ _ _ h=>h⟩
theorem FiltD.keep (s c:Int):FiltD (zcj s c) (fun t q=>t=s→q=c):=by
 refine ⟨fun _=>rfl,fun _ _=>keepD_mem,fun _=>zg0,fun x y hst hsb=>?_⟩;unfold zcj;dsimp only;rw [hst]
 cases decide (y.Station=s)
 ·exact hsb
 ·cases ha:x.Channels.any (fun k=>decide (k=c))
  ·exact List.nil_sublist _
  ·obtain ⟨k,hk,he⟩:=List.any_eq_true.1 ha;rw [List.any_eq_true.2 ⟨k,hsb.subset hk,he⟩];exact List.Sublist.refl _
theorem FiltD.drop (s c:Int):FiltD (zcD s c) (fun t q=>¬t=s∨¬q=c):=by
 refine ⟨fun _=>rfl,fun x q=>?_,fun _=>List.filter_sublist,fun x y hst hsb=>?_⟩
 ·unfold zcD;simp only [List.mem_filter,Bool.or_eq_true,decide_eq_true_eq]
 ·unfold zcD;dsimp only;rw [hst];exact hsb.filter _
section
variable {p:GProblem}{a b d:List GDomain}{f:GDomain→GDomain}{φ:Int→Int→Prop}
theorem FiltD.subD (h:FiltD f φ):SubD (d.map f) d∧OrdD (d.map f) d:=by
 refine ⟨⟨List.length_map _,fun i hi=>?_⟩,fun i hi=>?_⟩
 ·rw [zaL hi];exact ⟨h.st _,fun c hc=>((h.mem _ _).1 hc).1⟩
 ·rw [zaL hi];exact h.sub _
theorem FiltD.monoD (h:FiltD f φ)(hs:SubD a b):SubD (a.map f) (b.map f):=by
 refine ⟨by rw [List.length_map,List.length_map];exact hs.1,fun i hi=>?_⟩;rw [List.length_map] at hi;rw [zaL hi,zaL (by rw [hs.1];exact hi)];have h2:=hs.2 i hi;refine ⟨by rw [h.st,h.st];exact h2.1,fun c hc=>?_⟩;have h3:=(h.mem _ _).1 hc;exact (h.mem _ _).2 ⟨h2.2 c h3.1,by rw [←h2.1];exact h3.2⟩
theorem PropD.filt {m r:List GDomain×Bool}(hf:FiltD f φ)(h:PropD p d m)(hm:m.2=true)(hr:PropD p (m.1.map f) r):PropD p (d.map f) r:=by
 rcases h with ⟨_,h2,h3,h4⟩|⟨h1,_⟩
 ·have hsup:∀S,ClosedD p S→SubD S (d.map f)→SubD S (m.1.map f):=fun S hS hs=>by
   have h5:=h4 S hS (hs.trans hf.subD.1);refine ⟨by rw [List.length_map];exact h5.1,fun i hi=>?_⟩;rw [List.length_map] at hi; (have hid:i<d.length:=by rw [←h3.1.1];exact hi);rw [zaL hi];have h6:=h5.2 i hi;refine ⟨by rw [hf.st];exact h6.1,fun k hk=>(hf.mem _ _).2 ⟨h6.2 k hk,?_⟩⟩;have h7:=(hs.2 i (by rw [List.length_map];exact hid)).2 k hk;rw [zaL hid] at h7;rw [(h3.1.2 i hid).1];exact ((hf.mem _ _).1 h7).2
  rcases hr with ⟨g1,g2,g3,g4⟩|⟨g1,g2⟩
  ·refine .inl ⟨g1,g2,⟨g3.1.trans (hf.monoD h3.1),fun i hi=>?_⟩,fun S hS hs=>g4 S hS (hsup S hS hs)⟩;rw [List.length_map] at hi; (have hi':i<m.1.length:=by rw [h3.1.1];exact hi);have h8:=g3.2 i (by rw [List.length_map];exact hi');rw [zaL hi'] at h8;rw [zaL hi];exact h8.trans (hf.mono _ _ (h3.1.2 i hi).1 (h3.2 i hi))
  ·exact .inr ⟨g1,fun S hS hs=>g2 S hS (hsup S hS hs)⟩
 ·rw [h1] at hm;cases hm
def actC (keep:Bool)(c:GChoice):GDomain→GDomain:=bif zep c then (bif keep then zcj c.Station c.Channel else zcD c.Station c.Channel) else id
def actQ (keep:Bool)(c:GChoice)(s q:Int):Prop:=zep c=true→s=c.Station→(q=c.Channel↔keep=true)
theorem zek (keep:Bool)(c:GChoice):FiltD (actC keep c) (actQ keep c):=by
 have key:∀ {φ ψ:Int→Int→Prop} {f:GDomain→GDomain},FiltD f φ→(∀s q,φ s q↔ψ s q)→FiltD f ψ:=fun h k=>⟨h.st,fun x q=>by rw [h.mem,k],h.sub,h.mono⟩;unfold actC actQ
 cases zep c
 ·exact key FiltD.id (fun s q=>by simp)
 ·cases keep
  ·exact key (FiltD.drop _ _) (fun s q=>by simp;constructor <;> intro h <;> by_cases e:s=c.Station <;> simp_all)
  ·exact key (FiltD.keep _ _) (fun s q=>by simp)
theorem zkC {fuel:Nat}(hf:100000≤fuel)(hok:okG p=true)(hd:SubD d p.Domains∧OrdD d p.Domains){m:List GDomain×Bool}(h:PropD p d m)(keep:Bool)(c:GChoice):∃r,ze2 fuel p m keep c=some (r,bif !zep c then 2 else bif !m.2 then 8 else bif !zbM p c.Station then 9 else 0)∧PropD p (d.map (actC keep c)) r:=by
 obtain ⟨hw,hbd,ht,hn⟩:=zfj hok;unfold ze2
 cases hg:zep c
 ·refine ⟨m,rfl,?_⟩; (have e:actC keep c=id:=by unfold actC;rw [hg];rfl);rw [e,List.map_id];exact h
 ·cases hm:m.2
  ·exact ⟨m,rfl,h.keepBad hm (zek keep c).subD.1⟩
  ·cases hh:zbM p c.Station
   ·refine ⟨m,rfl,?_⟩
    have e:d.map (actC keep c)=d:=by
     refine (List.map_congr_left (g:=id) fun x hx=>?_).trans (List.map_id _);obtain ⟨i,hi,rfl⟩:=zaK hx; (have hi':i<p.Domains.length:=by rw [←hd.1.1];exact hi)
     have hne:¬(nth d i).Station=c.Station:=by
      rw [(hd.1.2 i hi').1];intro e;have:zbM p c.Station=true:=List.any_eq_true.2 ⟨_,zak hi',by simpa using e⟩;rw [hh] at this;cases this
     unfold actC;rw [hg,cond_true]
     cases keep
     ·show zcD _ _ _=_
      unfold zcD;have:(nth d i).Channels.filter (fun k=>decide (¬(nth d i).Station=c.Station)||decide (¬k=c.Channel))=(nth d i).Channels:=List.filter_eq_self.2 (fun k _=>by simp [hne]);rw [this];rfl
     ·show zcj _ _ _=_
      unfold zcj;rw [decide_eq_false hne];rfl
    rw [e];exact h
   ·have ho:=h.ord hm;have hol:=ho.2.trans hd.2 hd.1.1;have hlen:m.1.length=p.Domains.length:=ho.1.trans hd.1.1;have hb1:=hbd.ord hlen hol;have ht1:=zdh hlen hol;have hs:=(zek keep c).subD (d:=m.1);have hb2:=hb1.ord hs.1.1 hs.2;have ht2:=zdh hs.1.1 hs.2;obtain ⟨r,h5,h6⟩:=zdY (fuel:=fuel) hw hb2 (by rw [hs.1.1];omega) (by omega);refine ⟨r,?_,PropD.filt (zek keep c) h hm h6⟩
    have e:(bif keep then zbE m.1 c.Station c.Channel else zba m.1 c.Station c.Channel)=some (m.1.map (actC keep c)):=by
     unfold actC;rw [hg]
     cases keep
     ·exact zj6 hb1.len (fun x hx=>(hb1.ch x hx).1)
     ·exact zj3 hb1.len (fun x hx=>(hb1.ch x hx).1)
    simp only [Bool.not_true,cond_false];rw [e,Option.bind_some,h5];rfl
end
def hv:List Nat→Nat
 | []=>0
 |d :: r=>d+256*hv r
section
variable {B w:World}{M S0:Nat→Prop}{hs:HS}{F:FzB B M S0}{e:Ent}{i j:Nat}
theorem Hp.newAt (hw:Hp B M hs w)(hi:hs[i]?=some e){g:Nat}(hg:e.fp g):M g∨B.heap.size≤g:=hw.new e (List.mem_of_getElem? hi) g hg
theorem Hp.apartF (hw:Hp B M hs w)(hi:hs[i]?=some e)(hj:hs[j]?=some (.fr F))(hij:i<j):∀g,e.fp g→¬F.toFrz.S g:=fun g hg hS=>
 hw.ne hij hi hj hg (Ent.fr_fp.2 ⟨hS,hw.newAt hi hg⟩)
end
def zfo (Y:Tb)(L:Ws)(c:Bool)(x:Ch):Bool:=if c=true∨x.ch<2∨51<x.ch then false else if (atF Y x.st).2=false then false else (nth L (atF Y x.st).1.toNat).getLsbD x.ch.toNat
theorem zk9 (sp:Nat)(Y:Tb)(L:Ws)(c:Bool)(x:Ch)(w:World)(h:StateAt w sp Y L c)(hok:Y.Ok)(hix:∀j,0≤Y.ix j∧Y.ix j≤Y.n):Calls Tryz.prog 102 #[.pointer (some ⟨sp,0,none⟩), .agg (Ch.cells x).toArray] w fun e w'=>e= .returned (.bool (zfo Y L c x))∧Below w.heap.size w w':=by
 obtain ⟨tp,hsp0,hT⟩:=h.tb;obtain ⟨vL,hsp1,hL⟩:=h.left;obtain ⟨AL,capL,rfl,hLs⟩:=hL.op;have hLn:=h.len;have hcon:=h.con;refine zac (M:=fun _=>False) (hs:=[]) Tryz.func102 rfl rfl rfl (Hp.refl _ _) ?_;simp only [Ch.cells];refine T.sr ?_; (refine TL.ew (Wt.none rfl) rfl rfl (Ew.aA rfl rfl) ?_;rintro _ _ ⟨g3,rfl,rfl⟩);refine TL.run 1 rfl ?_;refine TL.ns (T.seq (T.sr ?_));refine TL.run 1 rfl ?_; (refine TL.ew (Wt.none rfl) rfl rfl (Ew.af rfl rfl rfl (fun w hw=>zbR sp Y L c w (h.kept hw))) ?_;rintro _ _ ⟨rfl,rfl⟩);refine TL.run 1 rfl ?_;refine TL.yv (Wt.some rfl rfl rfl rfl) rfl rfl (Yv.aB rfl) ?_;refine TL.yv (Wt.some rfl rfl rfl rfl) rfl rfl (Yv.aB rfl) ?_;refine TL.yv (Wt.some rfl rfl rfl rfl) rfl rfl (Yv.fieldAddr rfl rfl) ?_;refine TL.yv (Wt.some rfl rfl rfl rfl) rfl rfl (Yv.aw rfl rfl hcon (fun h=>h)) ?_;refine TL.run 2 rfl ?_;refine TL.aq rfl rfl rfl (fun h1=>?_) (fun h1=>?_)
 ·have p1:=h1; (try simp only [nfB] at p1);refine TL.off (Wt.not rfl rfl rfl h1) rfl rfl ?_;refine TL.off (Wt.not rfl rfl rfl h1) rfl rfl ?_;refine TL.off (Wt.not rfl rfl rfl h1) rfl rfl ?_;refine TL.y (Yv.au rfl rfl h1 rfl) ?_;refine TL.run 5 rfl ?_;refine TL.ns ?_;refine T.aK rfl rfl ?_;refine T.sr ?_;refine TL.run 1 rfl ?_;refine TL.ns (T.ret (K.aa ?_));refine K.ah rfl rfl (fun w' hw=>⟨?_,hw.isBelow⟩);exact zah (by rw [zfo,if_pos (by first|(left;assumption)|(right;omega))])
 ·have p1:=h1; (try simp only [nfB] at p1);refine TL.yv (Wt.some rfl rfl rfl h1) rfl rfl (Yv.fieldAddr rfl rfl) ?_;refine TL.yv (Wt.some rfl rfl rfl h1) rfl rfl (Yv.ac 0 rfl rfl rfl rfl) ?_;refine TL.yv (Wt.some rfl rfl rfl h1) rfl rfl (Yv.aB rfl) ?_;refine TL.y (Yv.av rfl rfl h1 rfl) ?_;refine TL.run 1 rfl ?_;refine TL.aq rfl rfl rfl (fun h2=>?_) (fun h2=>?_)
  ·have p2:=h2; (try simp only [nfB] at p2);refine TL.off (Wt.not rfl rfl rfl h2) rfl rfl ?_;refine TL.off (Wt.not rfl rfl rfl h2) rfl rfl ?_;refine TL.off (Wt.not rfl rfl rfl h2) rfl rfl ?_;refine TL.y (Yv.au rfl rfl h2 rfl) ?_;refine TL.ns ?_;refine T.aK rfl rfl ?_;refine T.sr ?_;refine TL.run 1 rfl ?_;refine TL.ns (T.ret (K.aa ?_));refine K.ah rfl rfl (fun w' hw=>⟨?_,hw.isBelow⟩);exact zah (by rw [zfo,if_pos (by first|(left;assumption)|(right;omega))])
  ·have p2:=h2; (try simp only [nfB] at p2);refine TL.yv (Wt.some rfl rfl rfl h2) rfl rfl (Yv.fieldAddr rfl rfl) ?_;refine TL.yv (Wt.some rfl rfl rfl h2) rfl rfl (Yv.ac 0 rfl rfl rfl rfl) ?_;refine TL.yv (Wt.some rfl rfl rfl h2) rfl rfl (Yv.aB rfl) ?_;refine TL.y (Yv.av rfl rfl h2 rfl) ?_;refine TL.ns ?_;refine T.cond rfl (fun h3=>?_) (fun h3=>?_)
   ·have p3:=h3; (try simp only [nfB] at p3);refine T.sr ?_;refine TL.run 1 rfl ?_;refine TL.ns (T.ret (K.aa ?_));refine K.ah rfl rfl (fun w' hw=>⟨?_,hw.isBelow⟩);exact zah (by rw [zfo,if_pos (by first|(left;assumption)|(right;omega))])
   ·have p3:=h3; (try simp only [nfB] at p3);refine T.skip (K.seq (T.seq ?_));refine T.as (.still 0 (.still 1 (.still 2 (.still 3 (.still 4 (.still 5 (.eff 6 (.still 7 (.still 8 (.still 9 (.still 10 (.still 11 .done)))))))))))) _ (by kernel_rfl) (List.Sublist.refl _) ?_;refine TS.run 2 rfl ?_;refine TS.y rfl (Yv.fieldAddr rfl rfl) ?_;refine TS.y rfl (Yv.aw rfl rfl hsp0 (fun h=>h)) ?_;refine TS.y rfl (Yv.fieldAddr rfl rfl) ?_;refine TS.y rfl (Yv.ac 0 rfl rfl rfl rfl) ?_;refine TS.eff ?_; (refine TSo.ew rfl (Wt.none rfl) rfl rfl (Ew.af rfl rfl rfl (fun w hw=>zly tp Y x.st w (hT.later (Fz.of_below hw.isBelow)) (Y.ix512 hok hix))) ?_;rintro _ _ ⟨rfl,rfl⟩;refine ⟨Sx,?_⟩);refine TS.run 5 rfl ?_;refine TS.done ?_;refine K.seq (T.seq ?_);refine T.as (.still 0 (.still 1 (.still 2 (.still 3 (.still 4 (.still 5 (.still 6 (.still 7 (.still 8 (.still 9 (.still 10 (.still 11 (.still 12 (.still 13 (.still 14 (.still 15 .done)))))))))))))))) _ (by kernel_rfl) (List.Sublist.refl _) ?_;refine TS.run 2 rfl ?_;refine TS.aq rfl rfl rfl rfl (fun h4=>?_) (fun h4=>?_)
    ·have p4:=h4; (try simp only [nfB] at p4); (try (have hat:=zgs hix (s:=x.st) (by assumption);obtain ⟨gL,oL,rfl,hc⟩:=hLs (by omega);have hk:=hc (atF Y x.st).1.toNat (by omega);simp only [Le] at hk));refine TS.still rfl (Wt.some rfl rfl rfl h4) rfl rfl (Yv.aB rfl) ?_;refine TS.still rfl (Wt.some rfl rfl rfl h4) rfl rfl (Yv.aB rfl) ?_;refine TS.still rfl (Wt.some rfl rfl rfl h4) rfl rfl (Yv.fieldAddr rfl rfl) ?_;refine TS.still rfl (Wt.some rfl rfl rfl h4) rfl rfl (Yv.aw rfl rfl hsp1 (fun h=>h)) ?_;refine TS.still rfl (Wt.some rfl rfl rfl h4) rfl rfl (Yv.aB rfl) ?_;refine TS.still rfl (Wt.some rfl rfl rfl h4) rfl rfl (Yv.ai rfl rfl rfl (show (atF Y x.st).1=(((atF Y x.st).1.toNat:Nat):Int) from by omega) (by omega)) ?_;refine TS.still rfl (Wt.some rfl rfl rfl h4) rfl rfl (Yv.loadC (j:=0) rfl rfl hk rfl rfl (fun h=>h)) ?_;refine TS.still rfl (Wt.some rfl rfl rfl h4) rfl rfl (Yv.fieldAddr rfl rfl) ?_;refine TS.still rfl (Wt.some rfl rfl rfl h4) rfl rfl (Yv.ac 0 rfl rfl rfl rfl) ?_;refine TS.still rfl (Wt.some rfl rfl rfl h4) rfl rfl (Yv.bf x.ch.toNat rfl rfl rfl (by omega) (by omega)) ?_;refine TS.still rfl (Wt.some rfl rfl rfl h4) rfl rfl (Yv.be (b:=1#64) rfl rfl rfl) ?_;refine TS.still rfl (Wt.some rfl rfl rfl h4) rfl rfl (Yv.aB rfl) ?_;refine TS.y rfl (Yv.au rfl rfl h4 rfl) ?_;refine TS.run 1 rfl ?_;refine TS.done ?_;refine K.seq (T.ret ?_);refine K.ah rfl rfl (fun w' hw=>⟨?_,hw.isBelow⟩);exact zah (by rw [zfo,if_neg (fun h=>by rcases h with h|h|h; (rw [p1] at h;cases h);omega;omega),if_neg (by rw [p4];simp),zgV])
    ·have p4:=h4; (try simp only [nfB] at p4); (try (have hat:=zgs hix (s:=x.st) (by assumption);obtain ⟨gL,oL,rfl,hc⟩:=hLs (by omega);have hk:=hc (atF Y x.st).1.toNat (by omega);simp only [Le] at hk));refine TS.aO rfl (Wt.not rfl rfl rfl h4) rfl rfl ?_;refine TS.aO rfl (Wt.not rfl rfl rfl h4) rfl rfl ?_;refine TS.aO rfl (Wt.not rfl rfl rfl h4) rfl rfl ?_;refine TS.aO rfl (Wt.not rfl rfl rfl h4) rfl rfl ?_;refine TS.aO rfl (Wt.not rfl rfl rfl h4) rfl rfl ?_;refine TS.aO rfl (Wt.not rfl rfl rfl h4) rfl rfl ?_;refine TS.aO rfl (Wt.not rfl rfl rfl h4) rfl rfl ?_;refine TS.aO rfl (Wt.not rfl rfl rfl h4) rfl rfl ?_;refine TS.aO rfl (Wt.not rfl rfl rfl h4) rfl rfl ?_;refine TS.aO rfl (Wt.not rfl rfl rfl h4) rfl rfl ?_;refine TS.aO rfl (Wt.not rfl rfl rfl h4) rfl rfl ?_;refine TS.aO rfl (Wt.not rfl rfl rfl h4) rfl rfl ?_;refine TS.y rfl (Yv.av rfl rfl h4 rfl) ?_;refine TS.run 1 rfl ?_;refine TS.done ?_;refine K.seq (T.ret ?_);refine K.ah rfl rfl (fun w' hw=>⟨?_,hw.isBelow⟩);exact zah (by rw [zfo,if_neg (fun h=>by rcases h with h|h|h; (rw [p1] at h;cases h);omega;omega),if_pos (by assumption)])
theorem zkk (sp:Nat)(Y:Tb)(L:Ws)(w:World)(h:StateAt w sp Y L true):Calls Tryz.prog 101 #[.pointer (some ⟨sp,0,none⟩)] w fun e w'=>e= .returned (.slice none 0 0)∧Below w.heap.size w w':=by
 have hcon:=h.con;refine zac (M:=fun _=>False) (hs:=[]) Tryz.func101 rfl rfl rfl (Hp.refl _ _) ?_;refine T.sr ?_;refine TL.run 1 rfl ?_;refine TL.ns (T.seq (T.sr ?_));refine TL.run 1 rfl ?_; (refine TL.ew (Wt.none rfl) rfl rfl (Ew.af rfl rfl rfl (fun w hw=>zbR sp Y L true w (h.kept hw))) ?_;rintro _ _ ⟨rfl,rfl⟩);refine TL.run 1 rfl ?_;refine TL.yv (Wt.some rfl rfl rfl rfl) rfl rfl (Yv.aB rfl) ?_;refine TL.yv (Wt.some rfl rfl rfl rfl) rfl rfl (Yv.aB rfl) ?_;refine TL.yv (Wt.some rfl rfl rfl rfl) rfl rfl (Yv.fieldAddr rfl rfl) ?_;refine TL.yv (Wt.some rfl rfl rfl rfl) rfl rfl (Yv.aw rfl rfl hcon (fun h=>h)) ?_;refine TL.run 1 rfl ?_;refine TL.ns ?_;refine T.aK rfl rfl ?_;refine T.sr ?_;refine TL.run 1 rfl ?_;refine TL.ns (T.ret (K.aa ?_));refine K.ah rfl rfl (fun w' hw=>⟨?_,hw.isBelow⟩)
 rfl
def fixD (d:List GDomain):List GChoice:=(d.filter fun x=>decide (x.Channels.length=1)).map fun x=>⟨x.Station,nth x.Channels 0⟩
def zcv (m:List GDomain×Bool):List GChoice:=bif m.2 then fixD m.1 else []
def zfN (m:List GDomain×Bool)(c:GChoice):Bool:=m.2&&m.1.any fun x=>decide (x.Station=c.Station)&&x.Channels.any fun k=>decide (k=c.Channel)
theorem zkf {d:List GDomain}{x:GDomain}:fixD (d++[x])=fixD d++(if x.Channels.length=1 then [⟨x.Station,nth x.Channels 0⟩] else []):=by
 unfold fixD;rw [List.filter_append,List.map_append]
 congr 1
 by_cases h:x.Channels.length=1 <;> simp [h]
theorem zli {b:BitVec 64}(hb:b≠0#64)(h0:b.getLsbD 0=false):(zch b≠0↔(chansN b).length=1)∧(zch b≠0→chansN b=[zch b]):=by
 have key:zch b≠0→chansN b=[zch b]:=fun h=>by
  have h1:=(zgE hb (c:=((zch b:Nat):Int)) (by omega)).2 rfl
  cases hc:chansN b with
  |nil=>exact absurd hc (zhi hb)
  |cons j r=>
   have hj:=h1 j (by rw [hc];simp)
   cases r with
   |nil=>rw [show j=zch b by omega]
   |cons k s=>
    have hk:=h1 k (by rw [hc];simp);have hn:=zdw b;rw [hc,List.nodup_cons] at hn;exact absurd (by simp;left;omega) hn.1
 refine ⟨⟨fun h=>by rw [key h];rfl,fun h hz=>?_⟩,key⟩;obtain ⟨j,hj⟩:=List.length_eq_one_iff.1 h
 have hj0:j≠0:=fun e=>by
  (have:j∈chansN b:=by rw [hj];simp);rw [chansN_mem,e,h0] at this
  cases this
 have:=(zgE hb (c:=(j:Int)) (by omega)).1 (fun k hk=>by rw [hj] at hk;simp at hk;omega);omega
theorem zlD {Y:Tb}{L:Ws}(hl:L.length=Y.n)(hne:∀i,i<Y.n→nth L i≠0#64)(hb:In51 L):∀k,k≤Y.n→(fixF Y L k).map Ch.er=fixD ((gd Y L).take k)
 |0,_=>by simp [fixF,fixD]
 |k+1,h=>by
  have h0:(nth L k).getLsbD 0=false:=by
   cases e:(nth L k).getLsbD 0 with
   |false=>rfl
   |true=>have:=hb k 0 e;omega
  obtain ⟨h1,h2⟩:=zli (hne k (by omega)) h0;rw [zfh,List.map_append,zlD hl hne hb k (by omega),List.take_succ_eq_append_getElem (by rw [zbf];omega),←zat (by rw [zbf];omega),zbK (by omega),zkf]
  congr 1
  show List.map Ch.er (if zch (nth L k)≠0 then [⟨nth Y.st k,(zch (nth L k):Int)⟩] else [])=_
  dsimp only;rw [List.length_map];by_cases e:zch (nth L k)=0
  ·rw [if_neg (by simpa using e),if_neg (fun q=>(h1.2 q) e)];rfl
  ·rw [if_pos e,if_pos (h1.1 e),h2 e];rfl
section
variable {p:GProblem}{m:List GDomain×Bool}{k:SK}{L:Ws}{w:World}{F0:Frz}
theorem SI.ne (h:SI p m k L)(hm:m.2=true):∀i,i<k.Y.n→nth L i≠0#64:=fun i hi=>(h.good hm).1.ne i hi
theorem zjI (hF0:F0.At w)(h:SI p m k L)(hs:StateAt w k.sp k.Y L (!m.2)):Calls Tryz.prog 101 #[.pointer (some ⟨k.sp,0,none⟩)] w fun e w'=>∃(y:Value) (G:Frz),SlC G y 2 ((zcv m).map GChoice.enc)∧e= .returned y∧Fx F0 w G w':=by
 cases hm:m.2 with
 |false=>
  rw [hm] at hs;refine (zkk k.sp k.Y L w hs).mono ?_;rintro e w' ⟨rfl,hb⟩;exact ⟨.slice none 0 0,F0,by unfold zcv;rw [hm];exact SlC.nil _ 2,rfl,Fx.refl hF0 hb⟩
 |true=>
  rw [hm] at hs;refine (zki k.sp k.Y L w hs h.ok).mono ?_;rintro e w' ⟨v, -,rfl,hw⟩;obtain ⟨G,h1,h2⟩:=zl9 hF0 hw;refine ⟨v,G,?_,rfl,h1⟩
  have e:zcv m=(fixF k.Y L k.Y.n).map Ch.er:=by
   unfold zcv;rw [hm,cond_true,zlD h.len (h.ne hm) (h.good hm).2.1 _ (Nat.le_refl _),(h.good hm).2.2,List.take_of_length_le (by rw [zbf];exact Nat.le_refl _)]
  rw [e];exact h2
theorem zl0 (h:SI p m k L)(hs:StateAt w k.sp k.Y L (!m.2))(c:GChoice):Calls Tryz.prog 102 #[.pointer (some ⟨k.sp,0,none⟩), .agg [.int .i64 c.Station, .int .i64 c.Channel].toArray] w fun e w'=>e= .returned (.bool (zfN m c))∧Below w.heap.size w w':=by
 obtain ⟨P,hP,hok',hY⟩:=h.pb;have hG:=Pb.good hok';refine (zk9 k.sp k.Y L (!m.2) c.b w hs h.ok hY.ixn).mono ?_;rintro e w' ⟨rfl,hb⟩;refine ⟨?_,hb⟩
 congr 2
 unfold zfo zfN
 cases hm:m.2 with
 |false=>rw [if_pos (.inl rfl)];rfl
 |true=>
  obtain ⟨-,h51,hd⟩:=h.good hm;rw [Bool.true_and,hd]
  have hany:∀q,(gd k.Y L).any (fun x=>decide (x.Station=c.Station)&&x.Channels.any fun k=>decide (k=c.Channel))=q↔((∃ i,i<k.Y.n∧nth k.Y.st i=c.Station∧∃j:Nat,(nth L i).getLsbD j=true∧(j:Int)=c.Channel)↔q=true):=fun q=>by
   have e1:(gd k.Y L).any (fun x=>decide (x.Station=c.Station)&&x.Channels.any fun k=>decide (k=c.Channel))=true↔(∃i,i<k.Y.n∧nth k.Y.st i=c.Station∧∃j:Nat,(nth L i).getLsbD j=true∧(j:Int)=c.Channel):=by
    rw [List.any_eq_true];constructor
    ·rintro ⟨x,hx,hh⟩;obtain ⟨i,hi,rfl⟩:=zaK hx;rw [zbf] at hi;rw [Bool.and_eq_true,decide_eq_true_eq,List.any_eq_true] at hh;obtain ⟨h1,q,hq,h2⟩:=hh;obtain ⟨j,hj,rfl⟩:=(zfx hi).1 hq;rw [zbK hi] at h1;exact ⟨i,hi,h1,j,hj,of_decide_eq_true h2⟩
    ·rintro ⟨i,hi,h1,j,hj,h2⟩;refine ⟨_,zak (by rw [zbf];exact hi),?_⟩;rw [Bool.and_eq_true,decide_eq_true_eq,List.any_eq_true];exact ⟨by rw [zbK hi];exact h1,(j:Int),(zfx hi).2 ⟨j,hj,rfl⟩,decide_eq_true h2⟩
   rw [←e1]
   cases (gd k.Y L).any (fun x=>decide (x.Station=c.Station)&&x.Channels.any fun k=>decide (k=c.Channel)) <;> cases q <;> simp
  symm
  rw [hany]
  show _↔(if (!true)=true∨c.Channel<2∨51<c.Channel then false else if (atF k.Y c.Station).2=false then false else (nth L (atF k.Y c.Station).1.toNat).getLsbD c.Channel.toNat)=true
  by_cases hc:c.Channel<2∨51<c.Channel
  ·rw [if_pos (.inr hc)];refine ⟨fun ⟨i,hi,_,j,hj,h2⟩=>?_,fun h=>by cases h⟩;have:=h51 i j hj;omega
  ·rw [if_neg (by simpa using hc)]
   cases hh:zbM P.er c.Station with
   |true=>
    obtain ⟨i,hi,e⟩:=(zc9 hY).1 hh;rw [←e,zjt hok' hY hi];simp only [Bool.true_eq_false,if_false,Int.toNat_natCast];constructor
    ·rintro ⟨i',hi',h1,j,hj,h2⟩;rw [zet hG hY hi hi' h1.symm,←h2,Int.toNat_natCast];exact hj
    ·intro h;exact ⟨i,hi,rfl,c.Channel.toNat,h,by omega⟩
   |false=>
    (have hno:∀i,i<k.Y.n→nth k.Y.st i≠c.Station:=fun i hi e=>by rw [(zc9 hY).2 ⟨i,hi,e⟩] at hh;cases hh);rw [zmD hok' hY hno];simp only [if_true];exact ⟨fun ⟨i,hi,h1,_⟩=>absurd h1 (hno i hi),fun h=>by cases h⟩
end
def zcZ (v:Value)(l h k:Nat):Value:=match v with
 | .slice a _ cap=>sliced a l h cap k
 |x=>x
theorem SlC.slice {F:Frz}{v:Value}{size:Nat}{cs:List (List Value)}(h:SlC F v size cs){l i:Nat}(hl:l≤i)(hi:i≤cs.length):SlC F (zcZ v l i size) size ((cs.take i).drop l):=by
 obtain ⟨A,cap,rfl,h2,h3,h4,h5⟩:=h; (have hlen:((cs.take i).drop l).length=i - l:=by rw [List.length_drop,List.length_take];omega);have hmem:∀c∈(cs.take i).drop l,c∈cs:=fun c hc=>List.mem_of_mem_take (List.mem_of_mem_drop hc);refine ⟨if cap=l then A else A.map (·.add (l*size)),cap - l,?_,by omega,by omega,fun c hc=>h4 c (hmem c hc),fun hp=>?_⟩
 ·rw [hlen];rfl
 ·rw [hlen] at hp;obtain ⟨g,off,rfl,hg,hc⟩:=h5 (by omega);rw [if_neg (by omega)];refine ⟨g,off+l*size,by simp [zc0],hg,fun j hj=>?_⟩;rw [hlen] at hj;have h6:=hc (l+j) (by omega)
  have e:nth ((cs.take i).drop l) j=nth cs (l+j):=by
   rw [zat (by omega),zat (by omega),List.getElem_drop,List.getElem_take]
  rw [e,show off+l*size+j*size=off+(l+j) *size by rw [Nat.add_mul];omega];exact h6
theorem SlD.slice {α:Type}[Inhabited α]{rep:Frz→List Value→α→Prop}{F:Frz}{v:Value}{size:Nat}{cs:List (List Value)}{xs:List α}(h:SlD rep F v size cs xs){l i:Nat}(hl:l≤i)(hi:i≤xs.length):SlD rep F (zcZ v l i size) size ((cs.take i).drop l) ((xs.take i).drop l):=by
 refine ⟨h.1.slice hl (by rw [h.2.1];exact hi),?_,fun j hj=>?_⟩
 ·rw [List.length_drop,List.length_take,List.length_drop,List.length_take,h.2.1]
 ·have hj':=hj;rw [List.length_drop,List.length_take] at hj'
  have e:nth ((cs.take i).drop l) j=nth cs (l+j):=by
   rw [zat (by rw [List.length_drop,List.length_take,h.2.1];omega),zat (by rw [h.2.1];omega),List.getElem_drop,List.getElem_take]
  have e':nth ((xs.take i).drop l) j=nth xs (l+j):=by
   rw [zat hj,zat (by omega),List.getElem_drop,List.getElem_take]
  rw [e,e'];exact h.2.2 _ (by omega)
section
variable {F:Frz}{v:Value}{size:Nat}
theorem SlC.sliceh {α:Type}{enc:α→List Value}{xs:List α}(h:SlC F v size (xs.map enc)){i:Nat}(hi:i≤xs.length):SlC F (zcZ v 0 i size) size ((xs.take i).map enc):=by
 have:=h.slice (l:=0) (i:=i) (Nat.zero_le _) (by rw [List.length_map];exact hi)
 rwa [List.drop_zero,←List.map_take] at this
variable {α:Type}[Inhabited α]{rep:Frz→List Value→α→Prop}{cs:List (List Value)}{xs:List α}
theorem SlD.sliceh (h:SlD rep F v size cs xs){i:Nat}(hi:i≤xs.length):SlD rep F (zcZ v 0 i size) size (cs.take i) (xs.take i):=by
 have:=h.slice (l:=0) (Nat.zero_le _) hi
 rwa [List.drop_zero,List.drop_zero] at this
end
section
variable {P:Program}{n:Nat}{B:World}{M:Nat→Prop}{fs:SFs}{hs:HS}{o:Oper}{v:Value}
theorem TySl.elem {t e k:Nat}(h:TySl P t e k):P.underlying t=some (.slice (P.elem t))∧∀w,(sizeOf (P.elem t)).run P w= .ok k w:=by
 have h:=h.h;unfold zeC at h
 split at h
 ·rename_i el hU; (have he:P.elem t=el:=by unfold Program.elem;rw [hU])
  cases hi':P.info? el with
  |none=>rw [hi'] at h;cases h
  |some inf=>
   rw [hi'] at h
   cases h
   refine ⟨by rw [he];exact hU,fun w=>?_⟩;rw [he];simp [sizeOf,typeInfo,hi']
 ·cases h
theorem Yv.bT {F:Frz}{t e k i m:Nat}{z:Int}{q:IntKind}{cs:List (List Value)}{x y:Operand}[hT:TySl P t e k](ho:o.op= .slice t x none (some y) none)(hx:ev fs x=some v)(hy:ev fs y=some (.int q z))(h:SlC F v k cs)(hm:cs.length=m)(hz:z=(i:Int))(hi:i≤m):Yv P n B M fs hs o (zcZ v 0 i k):=fun a w ha _=>by
 subst hm hz;obtain ⟨A,cap,rfl,h2,h3,h4,h5⟩:=h;unfold execOp;have:=run_slice_h (P:=P) w t A cs.length cap hT.elem.1 q (i:Int) (by omega) (by omega);simp [ho,ha.ev hx,ha.ev hy,run_sliceAt_slice w t _ _ _ _ hT.elem.1,this,hT.elem.2,zcZ]
end
structure FxM (F:Frz) (w:World) (M:Nat→Prop) (G:Frz) (es:HS) (w':World):Prop where
 le:F.Le G
 at_:G.At w'
 hp:Hp w M es w'
 new:∀g,G.S g→F.S g∨M g∨w.heap.size≤g
 ap:∀e∈es,∀g,e.fp g→¬G.S g
theorem zgG:fps []=fun _=>False:=by funext g;unfold fps;simp
section
variable {B w w':World}{M S0:Nat→Prop}{hs:HS}{F:FzB B M S0}
theorem FxM.of {F0:Frz}{es:HS}{G:FzB B M S0}(hw:Hp B M (es++[Ent.fr G]) w')(hS:∀g,S0 g→F0.S g)(hle:F0.Le G.toFrz):FxM F0 B M G.toFrz es w':=by
 have h1:=hw;have h2:=List.pairwise_append.1 h1.apart;refine ⟨hle,hw.fr (i:=es.length) (by simp),hw.sub (List.sublist_append_left _ _),fun g hg=>(G.new g hg).imp (hS g) id,fun e he g hg hS=>?_⟩;refine h2.2.2 e he (.fr G) (by simp) g hg (Ent.fr_fp.2 ⟨hS,?_⟩);exact h1.new e (List.mem_append_left _ he) g hg
theorem FxM.up {M':Nat→Prop}{G:Frz}{es:HS}(h:FxM F.toFrz w M' G es w')(hw:Hp B M hs w)(hM:∀g,M' g→M g∨B.heap.size≤g):∃G':FzB B M S0,G'.toFrz=G:=by
 refine ⟨⟨G,fun g hg hb hm=>?_,fun g hg=>?_⟩,rfl⟩
 ·rcases h.new g hg with h1|h1|h1
  ·rw [(h.le g h1).2,F.base g h1 hb hm]
  ·rcases hM g h1 with h2|h2
   ·exact absurd h2 hm
   ·omega
  ·have:=hw.size;omega
 ·rcases h.new g hg with h1|h1|h1
  ·exact F.new g h1
  ·exact .inr (hM g h1)
  ·have:=hw.size;exact .inr (.inr (by omega))
end
section
variable {P:Program}{n:Nat}{B D:World}{M S0:Nat→Prop}{fs:SFs}{hs:HS}{o:Oper}{v:Value}
theorem Ew.aH (idx : List Nat) (bs rest : HS) {ι : Type} {F : FzB B M S0} {φ : ι → Frz → Prop} {val : ι → Value} {es : ι → HS} {c : Operand} {xs : Array Operand} {ts : Array TypeId} {f : FuncId} {fst caps : Array Value} {vs : List Value} [hE : Enters P f]
    (ho : o.op = .call { callee := .value c, args := xs, argTypes := ts }) (hc : ev fs c = some (.func (.func f) fst caps)) (hv : evs fs xs.toList = some vs) (hp : zeZ hs idx = some (bs ++ .fr F :: rest)) (hn : idx.Nodup)
    (C : ∀ w, Hp B M hs w → Hp B M (bs ++ .fr F :: rest) w → F.toFrz.At w → Calls P f (fst.toList ++ vs ++ caps.toList).toArray w (fun e w' => ∃ y G, φ y G ∧ e = .returned (val y) ∧ FxM F.toFrz w (fps bs) G (es y) w')) :
    Ew P n B M fs hs o (fun v hs'' => ∃ y, ∃ G : FzB B M S0, F.toFrz.Le G.toFrz ∧ φ y G.toFrz ∧ v = val y ∧ hs'' = es y ++ .fr G :: rest) :=
  Ew.call ho hc hv fun w hw => by
    have hw2 := hw.pick hp hn; have hF : F.toFrz.At w := hw2.fr (i := bs.length) (by simp); refine (C w hw hw2 hF).mono fun e w' ⟨y, G, hy, he, hx⟩ => ?_; have hM : ∀ g, fps bs g → M g ∨ B.heap.size ≤ g := fun g ⟨e, he, hg⟩ => hw2.new e (List.mem_append_left _ he) g hg; obtain ⟨G', rfl⟩ := hx.up hw2 hM; refine ⟨val y, es y ++ .fr G' :: rest, he, Kp.only hx.hp.only (fun g hg c => ?_), ?_, y, G', hx.le, hy, rfl, rfl⟩
    · obtain ⟨e, h1, h2⟩ := hg; exact e.nd (hw2.own e (List.mem_append_left _ h1)) g h2 c
    · (have h3 : Hp B M ((bs ++ [.fr F]) ++ rest) w := by rw [List.append_assoc]; exact hw2); have h4 := Hp.go (es := bs ++ [.fr F]) (es' := es y ++ [.fr G']) h3 hx.hp.only (fun g _ ⟨e, he, hg⟩ => ⟨e, List.mem_append_left _ he, hg⟩) (fun e he => ?_) (fun e he g hg => ?_) ?_
      · rw [List.append_assoc] at h4; exact h4
      · rcases List.mem_append.1 he with he | he
        · exact hx.hp.own e he
        · simp at he; subst he; exact Ent.fr_ok.2 (fun g hg => hx.at_ g hg.1)
      · rcases List.mem_append.1 he with he | he
        · rcases hx.hp.new e he g hg with ⟨f, hf, hfg⟩ | h5
          · exact .inl ⟨f, List.mem_append_left _ hf, hfg⟩
          · exact .inr h5
        · simp at he; subst he; have h6 := Ent.fr_fp.1 hg; rcases hx.new g h6.1 with h7 | ⟨f, hf, hfg⟩ | h7
          · exact .inl ⟨.fr F, by simp, Ent.fr_fp.2 ⟨h7, h6.2⟩⟩
          · exact .inl ⟨f, List.mem_append_left _ hf, hfg⟩
          · exact .inr h7
      · exact List.pairwise_append.2 ⟨hx.hp.apart, List.pairwise_singleton _ _, fun e he f hf g hg hfg => by
          simp at hf; subst hf
          exact hx.ap e he g hg (Ent.fr_fp.1 hfg).1⟩
theorem Ew.aU (idx : List Nat) (bs rest : HS) {ι : Type} {F : FzB B M S0} {φ : ι → Prop} {val : ι → Value} {es : ι → HS} {c : Operand} {xs : Array Operand} {ts : Array TypeId} {f : FuncId} {fst caps : Array Value} {vs : List Value} [hE : Enters P f]
    (ho : o.op = .call { callee := .value c, args := xs, argTypes := ts }) (hc : ev fs c = some (.func (.func f) fst caps)) (hv : evs fs xs.toList = some vs) (hp : zeZ hs idx = some (bs ++ .fr F :: rest)) (hn : idx.Nodup)
    (C : ∀ w, Hp B M hs w → Hp B M (bs ++ .fr F :: rest) w → F.toFrz.At w → Calls P f (fst.toList ++ vs ++ caps.toList).toArray w (fun e w' => ∃ y, φ y ∧ e = .returned (val y) ∧ FxM F.toFrz w (fps bs) F.toFrz (es y) w')) :
    Ew P n B M fs hs o (fun v hs'' => ∃ y, φ y ∧ v = val y ∧ hs'' = es y ++ .fr F :: rest) :=
  Ew.call ho hc hv fun w hw => by
    have hw2 := hw.pick hp hn; have hF : F.toFrz.At w := hw2.fr (i := bs.length) (by simp); refine (C w hw hw2 hF).mono fun e w' ⟨y, hy, he, hx⟩ => ?_; refine ⟨val y, es y ++ .fr F :: rest, he, Kp.only hx.hp.only (fun g hg c => ?_), ?_, y, hy, rfl, rfl⟩
    · obtain ⟨e, h1, h2⟩ := hg; exact e.nd (hw2.own e (List.mem_append_left _ h1)) g h2 c
    · exact Hp.go (es := bs) (es' := es y) hw2 hx.hp.only (fun g _ ⟨e, he, hg⟩ => ⟨e, he, hg⟩) hx.hp.own (fun e he g hg => hx.hp.new e he g hg) hx.hp.apart
end
section
variable {w:World}{bs:HS}{F:Frz}
theorem zbz (hF:F.At w)(h:Hp w (fps bs) bs w)(hA:∀g,fps bs g→¬F.S g):∃(S0:Nat→Prop) (G:FzB w (fps bs) S0),G.toFrz=F∧(∀g,S0 g→F.S g)∧Hp w (fps bs) (bs++[Ent.fr G]) w:=⟨F.S,Frz.inB hF _,rfl,fun _ h=>h,Hp.startFM hF h hA⟩
variable {B:World}{M S0:Nat→Prop}{G:FzB B M S0}{rest:HS}
theorem Hp.takes (h:Hp B M (bs++ .fr G :: rest) w):Hp w (fps bs) bs w∧∀g,fps bs g→¬G.toFrz.S g:=by
 have h1:Hp B M bs w:=h.sub (List.sublist_append_left _ _);refine ⟨Hp.startL h1.own h1.apart,fun g ⟨e,he,hg⟩ hS=>?_⟩;exact (List.pairwise_append.1 h.apart).2.2 e he (.fr G) (by simp) g hg (Ent.fr_fp.2 ⟨hS,h1.new e he g hg⟩)
theorem Hp.takes0 (h:Hp B M (bs++ .fr G :: rest) w)(h0:¬M 0)(hB:0<B.heap.size):¬fps bs 0:=fun ⟨e,he,hg⟩=>by
 rcases h.new e (List.mem_append_left _ he) 0 hg with h1|h1
 ·exact h0 h1
 ·omega
end
theorem Tab.pos {w:World}(h:Tab w):0<w.heap.size:=by
 have h0:=h 0 (by decide);unfold World.cell? at h0;rcases Nat.eq_zero_or_pos w.heap.size with e|e
 ·rw [Array.getElem?_eq_none (by omega)] at h0;simp at h0
 ·exact e
abbrev st2L (k:SK)(v:Value)(L:Ws)(b:Bool):HS:=[.row k.sp 116 [.pointer (some ⟨k.tp,0,none⟩),v, .bool b], .sl v 88 1 k.Y.n (Ws.cells L)]
abbrev st2 (k:SK)(v:Value)(L:Ws)(b:Bool):Ent:= .bag (st2L k v L b)
def TbF (F:Frz)(k:SK):Prop:=∀g,IsC k.w0 g→F.S g∧F.w.heap[g]?=k.w0.heap[g]?
theorem TbF.mono {F G:Frz}{k:SK}(h:TbF F k)(hle:F.Le G):TbF G k:=fun g hg=>⟨(hle g (h g hg).1).1,(hle g (h g hg).1).2.trans (h g hg).2⟩
theorem TbF.fz {F:Frz}{k:SK}{w:World}(h:TbF F k)(hF:F.At w):Fz k.w0 w:=fun g hg=>(hF g (h g hg).1).trans (h g hg).2
theorem zfa:∀L:Ws,L.flatMap Le=Ws.cells L
 | []=>rfl
 |b :: r=>by
  rw [List.flatMap_cons,zfa r];rfl
section
variable {p:GProblem}{m:List GDomain×Bool}{k:SK}{v:Value}{L:Ws}{b:Bool}{w w':World}{F F0:Frz}
theorem SI.gl (h:SI p m k L)(gl:GL):SI p m { k with gl:=gl } L:=⟨h.pb,h.tb,h.len,h.good,h.bad⟩
theorem SI.sp (h:SI p m k L)(sp:Nat):SI p m { k with sp:=sp } L:=⟨h.pb,h.tb,h.len,h.good,h.bad⟩
theorem SI.n512 (h:SI p m k L):k.Y.n≤512:=h.ok.n
theorem zcm {g:Nat}{t:TypeId}{l:List Value}{i:Nat}{x:Value}(h:(Ent.row g t l).ok w)(hx:l[i]?=some x):w.cell? ⟨g,i,none⟩=some x:=by rw [za1 (Ent.row_ok.1 h)];exact hx
theorem zfI (h:SI p m k L)(hok:(st2 k v L b).ok w)(hf:Fz k.w0 w)(htab:Tab w):StateAt w k.sp k.Y L b:=by
 have h1:=(Ent.bag_ok.1 hok).1;have hr:=h1 (.row k.sp 116 [.pointer (some ⟨k.tp,0,none⟩),v, .bool b]) (by simp);have hl:=Ent.sl_ok.1 (h1 (.sl v 88 1 k.Y.n (Ws.cells L)) (by simp));refine ⟨htab,⟨k.tp,zcm hr rfl,h.tb.later hf⟩,⟨v,zcm hr rfl,?_⟩,h.len,zcm hr rfl⟩;refine SlOf.own (enc:=Le) (size:=1) (fun _=>rfl) (xs:=L) (e:=88) (k:=k.Y.n) ?_ h.len.symm;rw [zfa];exact hl
theorem zmt (h:SI p m k L)(hok:(st2 k v L b).ok w)(hn:0<k.Y.n):∃gl:GL,v=sG gl k.Y.n:=by
 have h1:=(Ent.bag_ok.1 hok).1;have hl:=Ent.sl_ok.1 (h1 (.sl v 88 1 k.Y.n (Ws.cells L)) (by simp));rcases hl.2 with ⟨_,h0⟩|⟨g,cap,cur,rfl,_⟩
 ·omega
 ·exact ⟨⟨g,cap⟩,rfl⟩
theorem zlU {gl:GL}(hok:(st2 k (sG gl k.Y.n) L b).ok w)(hf:Fz k.w0 w)(hap:∀g,(st2 k (sG gl k.Y.n) L b).fp g→¬IsC k.w0 g):(stE { k with gl:=gl } L b).ok w:=by
 obtain ⟨h1,h2⟩:=Ent.bag_ok.1 hok;refine Ent.bag_ok.2 ⟨fun e he=>?_,?_⟩
 ·simp at he;rcases he with rfl|rfl|rfl
  ·exact h1 _ (by simp)
  ·exact h1 _ (by simp)
  ·exact Ent.fz_ok.2 hf
 ·show ([sRow k.sp gl k.tp k.Y.n b,zaT gl k.Y.n L]++[Ent.fz k.w0]).Pairwise _
  refine List.pairwise_append.2 ⟨h2,List.pairwise_singleton _ _,fun e he f hf' g hg hfg=>?_⟩;simp only [List.mem_singleton] at hf';subst hf';exact hap g (Ent.bag_fp.2 ⟨e,he,hg⟩) (Ent.fz_fp.1 hfg)
theorem zmE {gl:GL}{L':Ws}{b':Bool}(hf:Fz k.w0 w)(h:Hp w (stE { k with gl:=gl } L b).fp [stE { k with gl:=gl } L' b'] w'):Hp w (st2 k (sG gl k.Y.n) L b).fp [st2 k (sG gl k.Y.n) L' b'] w':=by
 have hok:=h.own (stE { k with gl:=gl } L' b') (by simp);obtain ⟨h1,h2⟩:=Ent.bag_ok.1 hok;have h3:([sRow k.sp gl k.tp k.Y.n b',zaT gl k.Y.n L']++[Ent.fz k.w0]).Pairwise fun e f=>∀g,e.fp g→¬f.fp g:=h2;obtain ⟨a1,a2,a3⟩:=List.pairwise_append.1 h3;have hf':Fz k.w0 w':=Ent.fz_ok.1 (h1 (.fz k.w0) (by simp));have hsp:∀g,(st2 k (sG gl k.Y.n) L' b').fp g↔∃e∈[sRow k.sp gl k.tp k.Y.n b',zaT gl k.Y.n L'],e.fp g:=fun g=>Ent.bag_fp;have hfp:∀g,(st2 k (sG gl k.Y.n) L b).fp g↔∃e∈[sRow k.sp gl k.tp k.Y.n b,zaT gl k.Y.n L],e.fp g:=fun g=>Ent.bag_fp
 have hE:∀g,(stE { k with gl:=gl } L b).fp g↔(st2 k (sG gl k.Y.n) L b).fp g∨IsC k.w0 g:=fun g=>by
  rw [hfp,Ent.bag_fp];simp only [List.mem_cons,List.not_mem_nil,or_false,exists_eq_or_imp,exists_eq_left,Ent.fz_fp];exact or_assoc.symm
 refine ⟨h.os,h.tape,h.output,h.size,fun g hg hn=>?_,fun e he=>?_,fun e he g hg=>?_,List.pairwise_singleton _ _⟩
 ·by_cases hc:IsC k.w0 g
  ·rw [hf' g hc,hf g hc]
  ·exact h.base g hg (fun hh=>((hE g).1 hh).elim hn hc)
 ·simp at he;subst he;exact Ent.bag_ok.2 ⟨fun e he=>h1 e (by simp at he ⊢;rcases he with h|h <;> simp [h]),a1⟩
 ·simp at he;subst he;have hg':=(hsp g).1 hg;obtain ⟨x,hx,hxg⟩:=hg';rcases h.new (stE { k with gl:=gl } L' b') (by simp) g (Ent.bag_fp.2 ⟨x,by simp at hx ⊢;rcases hx with h|h <;> simp [h],hxg⟩) with h4|h4
  ·rcases (hE g).1 h4 with h5|h5
   ·exact .inl h5
   ·exact absurd (Ent.fz_fp.2 h5) (a3 x hx (.fz k.w0) (by simp) g hxg)
  ·exact .inr h4
theorem zd8 (h:SI p m k L)(tf:TbF F k)(hok:(st2 k v L (!m.2)).ok w)(hF:F.At w)(htab:Tab w):Calls Tryz.prog 68 #[.pointer (some ⟨k.sp,0,none⟩)] w fun e w'=>e= .returned (.bool (!m.2))∧Below w.heap.size w w':=zgM (zfI h hok (tf.fz hF) htab)
theorem ziZ (h:SI p m k L)(tf:TbF F k)(hok:(st2 k v L (!m.2)).ok w)(hF:F.At w)(htab:Tab w):Calls Tryz.prog 48 #[.pointer (some ⟨k.sp,0,none⟩)] w fun e w'=>∃(y:Value×List (List Value)) (G:Frz),SlD GDomain.rep G y.1 2 y.2 m.1∧e= .returned y.1∧Fx F w G w':=zhV hF h (zfI h hok (tf.fz hF) htab)
theorem zlm (h:SI p m k L)(tf:TbF F k)(hok:(st2 k v L (!m.2)).ok w)(hF:F.At w)(htab:Tab w):Calls Tryz.prog 101 #[.pointer (some ⟨k.sp,0,none⟩)] w fun e w'=>∃(y:Value) (G:Frz),SlC G y 2 ((zcv m).map GChoice.enc)∧e= .returned y∧Fx F w G w':=zjI hF h (zfI h hok (tf.fz hF) htab)
theorem zmA (h:SI p m k L)(tf:TbF F k)(hok:(st2 k v L (!m.2)).ok w)(hF:F.At w)(htab:Tab w)(c:GChoice):Calls Tryz.prog 102 #[.pointer (some ⟨k.sp,0,none⟩), .agg [.int .i64 c.Station, .int .i64 c.Channel].toArray] w fun e w'=>e= .returned (.bool (zfN m c))∧Below w.heap.size w w':=zl0 h (zfI h hok (tf.fz hF) htab) c
theorem zlC (kp : Bool) (num : FuncId) (h : SI p m k L) (tf : TbF F k) (hok : (st2 k v L (!m.2)).ok w) (hF : F.At w) (hap : ∀ g, (st2 k v L (!m.2)).fp g → ¬ F.S g) (htab : Tab w) {fuel : Nat} (c : GChoice) {r : (List GDomain × Bool) × Int} (hr : ze2 fuel p m kp c = some r)
    (hE : (zaW k.Y (!m.2) c.b).2 ≠ 0 → Calls Tryz.prog num #[.pointer (some ⟨k.sp, 0, none⟩), .agg (Ch.cells c.b).toArray] w fun e w' => e = .returned (.int .i64 (zaW k.Y (!m.2) c.b).2) ∧ Below w.heap.size w w')
    (hO : ∀ gl : GL, SI p m { k with gl := gl } L → (stE { k with gl := gl } L (!m.2)).ok w → Calls Tryz.prog num #[.pointer (some ⟨k.sp, 0, none⟩), .agg [.int .i64 c.Station, .int .i64 c.Channel].toArray] w fun e w' => ∃ L', SI p r.1 { k with gl := gl } L' ∧ e = .returned (.int .i64 r.2) ∧ Hp w (stE { k with gl := gl } L (!m.2)).fp [stE { k with gl := gl } L' (!r.1.2)] w') :
    Calls Tryz.prog num #[.pointer (some ⟨k.sp, 0, none⟩), .agg [.int .i64 c.Station, .int .i64 c.Channel].toArray] w fun e w' => ∃ L', SI p r.1 k L' ∧ e = .returned (.int .i64 r.2) ∧ Hp w (st2 k v L (!m.2)).fp [st2 k v L' (!r.1.2)] w' := by
  have hfit := zjw h (c := c)
  have keepE : ∀ {n : Int}, r = (m, n) → (zaW k.Y (!m.2) c.b).2 = n → n ≠ 0 → Calls Tryz.prog num #[.pointer (some ⟨k.sp, 0, none⟩), .agg [.int .i64 c.Station, .int .i64 c.Channel].toArray] w fun e w' => ∃ L', SI p r.1 k L' ∧ e = .returned (.int .i64 r.2) ∧ Hp w (st2 k v L (!m.2)).fp [st2 k v L' (!r.1.2)] w' := by
    intro n hr hc hn; subst hr; refine (hE (by rw [hc]; exact hn)).mono ?_; rintro e w' ⟨rfl, hb⟩; exact ⟨L, h, by rw [hc], (Hp.start hok).below hb⟩
  by_cases hn : 0 < k.Y.n
  · obtain ⟨gl, rfl⟩ := zmt h hok hn; refine (hO gl (h.gl gl) (zlU hok (tf.fz hF) (fun g hg hc => hap g hg (tf g hc).1))).mono ?_; rintro e w' ⟨L', h1, rfl, h2⟩; exact ⟨L', ⟨h1.pb, h1.tb, h1.len, h1.good, h1.bad⟩, rfl, zmE (tf.fz hF) h2⟩
  · unfold ze2 at hr
    cases hg : zep c with
    | false => rw [hg] at hr hfit; exact keepE (Option.some.inj hr).symm (by rw [hfit]; rfl) (by decide)
    | true =>
      rw [hg] at hr hfit; simp only [Bool.not_true, cond_false] at hr hfit
      cases hm : m.2 with
      | false => rw [hm] at hr hfit; rw [← hm]; exact keepE (Option.some.inj hr).symm (by rw [hm]; rw [hfit]; rfl) (by decide)
      | true =>
        rw [hm] at hr hfit; simp only [Bool.not_true, cond_false] at hr hfit
        cases hh : zbM p c.Station with
        | false => rw [hh] at hr hfit; rw [← hm]; exact keepE (Option.some.inj hr).symm (by rw [hm, Bool.not_true, hfit]; rfl) (by decide)
        | true =>
          obtain ⟨P, rfl, _, hY⟩ := h.pb; obtain ⟨i, hi, _⟩ := (zc9 hY).1 hh; omega
theorem zjT (h : SI p m k L) (tf : TbF F k) (hok : (st2 k v L (!m.2)).ok w) (hF : F.At w) (hap : ∀ g, (st2 k v L (!m.2)).fp g → ¬ F.S g) (htab : Tab w) {fuel : Nat} (hf : 100000 ≤ fuel) (c : GChoice) {r : (List GDomain × Bool) × Int} (hr : ze2 fuel p m true c = some r) :
    Calls Tryz.prog 69 #[.pointer (some ⟨k.sp, 0, none⟩), .agg [.int .i64 c.Station, .int .i64 c.Channel].toArray] w fun e w' => ∃ L', SI p r.1 k L' ∧ e = .returned (.int .i64 r.2) ∧ Hp w (st2 k v L (!m.2)).fp [st2 k v L' (!r.1.2)] w' := by
  obtain ⟨P, hP, hok', hY⟩ := h.pb; exact zlC true _ h tf hok hF hap htab c hr (fun he => zgb k.sp k.Y L (!m.2) c.b w (zfI h hok (tf.fz hF) htab) (k.Y.ix512 h.ok hY.ixn) he) (fun gl h1 h2 => zjv h1 h2 htab hf c hr)
theorem zkp (h : SI p m k L) (tf : TbF F k) (hok : (st2 k v L (!m.2)).ok w) (hF : F.At w) (hap : ∀ g, (st2 k v L (!m.2)).fp g → ¬ F.S g) (htab : Tab w) {fuel : Nat} (hf : 100000 ≤ fuel) (c : GChoice) {r : (List GDomain × Bool) × Int} (hr : ze2 fuel p m false c = some r) :
    Calls Tryz.prog 72 #[.pointer (some ⟨k.sp, 0, none⟩), .agg [.int .i64 c.Station, .int .i64 c.Channel].toArray] w fun e w' => ∃ L', SI p r.1 k L' ∧ e = .returned (.int .i64 r.2) ∧ Hp w (st2 k v L (!m.2)).fp [st2 k v L' (!r.1.2)] w' := by
  obtain ⟨P, hP, hok', hY⟩ := h.pb; exact zlC false _ h tf hok hF hap htab c hr (fun he => zf1 k.sp k.Y L (!m.2) c.b w (zfI h hok (tf.fz hF) htab) (k.Y.ix512 h.ok hY.ixn) he) (fun gl h1 h2 => zkw h1 h2 htab hf c hr)
theorem zl3 (hF:F0.At w)(h:SI p m k L)(hw:Hp w (fun _=>False) [stE k L b] w'):∃G,TbF G k∧FxM F0 w (fps []) G [st2 k (sG k.gl k.Y.n) L b] w':=by
 have hok:=hw.own (stE k L b) (by simp);obtain ⟨h1,h2⟩:=Ent.bag_ok.1 hok;have h3:([sRow k.sp k.gl k.tp k.Y.n b,zaT k.gl k.Y.n L]++[Ent.fz k.w0]).Pairwise fun e f=>∀g,e.fp g→¬f.fp g:=h2;obtain ⟨a1,a2,a3⟩:=List.pairwise_append.1 h3;have hf':Fz k.w0 w':=Ent.fz_ok.1 (h1 (.fz k.w0) (by simp));have hb:=hw.isBelow;have hF':=hF.below hb;have hnew:∀g,IsC k.w0 g→w.heap.size≤g:=fun g hg=>(hw.new (stE k L b) (by simp) g (Ent.bag_fp.2 ⟨.fz k.w0,by simp,Ent.fz_fp.2 hg⟩)).elim (fun h=>h.elim) id
 have hnew2:∀g,(st2 k (sG k.gl k.Y.n) L b).fp g→w.heap.size≤g:=fun g hg=>by
  obtain ⟨e,he,hg⟩:=Ent.bag_fp.1 hg;exact (hw.new (stE k L b) (by simp) g (Ent.bag_fp.2 ⟨e,by simp at he ⊢;rcases he with h|h <;> simp [h],hg⟩)).elim (fun h=>h.elim) id
 refine ⟨⟨fun g=>F0.S g∨IsC k.w0 g,w',fun g hg=>?_⟩,fun g hg=>⟨.inr hg,hf' g hg⟩,⟨fun g hg=>⟨.inl hg,hF' g hg⟩,fun g _=>rfl,?_,fun g hg=>hg.imp id (fun h=> .inr (hnew g h)),fun e he g hg hS=>?_⟩⟩
 ·rcases hg with hg|hg
  ·exact hF'.cb hg
  ·obtain ⟨cs,t,q,e⟩:=hg;exact ⟨cs,t,q,(hf' g ⟨cs,t,q,e⟩).trans e⟩
 ·rw [zgG];refine ⟨hw.os,hw.tape,hw.output,hw.size,hw.base,fun e he=>?_,fun e he g hg=>?_,List.pairwise_singleton _ _⟩
  ·simp at he;subst he;exact Ent.bag_ok.2 ⟨fun e he=>h1 e (by simp at he ⊢;rcases he with h|h <;> simp [h]),a1⟩
  ·simp at he;subst he;exact .inr (hnew2 g hg)
 ·simp at he;subst he;rcases hS with hS|hS
  ·have:=(hF.cb hS).lt;have:=hnew2 g hg;omega
  ·obtain ⟨e,he,hg⟩:=Ent.bag_fp.1 hg;exact a3 e he (.fz k.w0) (by simp) g hg (Ent.fz_fp.2 hS)
theorem zmJ {vd vp vl vc : Value} {cd : List (List Value)} (hF0 : F0.At w) (h : PbF F0 vd cd vp vl vc p) (htab : Tab w) (hv : okG p = true) {fuel : Nat} (hf : 100000 ≤ fuel) {r : List GDomain × Bool} (hr : za2 fuel p p.Domains = some r) :
    Calls Tryz.prog 40 #[.agg [vd, vp, vl, vc].toArray] w fun e w' => ∃ (y : SK × Value × Ws) (G : Frz), (SI p r y.1 y.2.2 ∧ TbF G y.1) ∧ e = .returned (.tuple #[.pointer (some ⟨y.1.sp, 0, none⟩), .int .i64 0]) ∧ FxM F0 w (fps []) G [st2 y.1 y.2.1 y.2.2 (!r.2)] w' := by
  refine (zmL hF0 h htab hv hf hr).mono ?_; rintro e w' ⟨⟨k, L⟩, hs, rfl, hw⟩; obtain ⟨G, h1, h2⟩ := zl3 hF0 hs hw; exact ⟨(k, sG k.gl k.Y.n, L), G, ⟨hs, h1⟩, rfl, h2⟩
theorem zlX (h : SI p m k L) (tf : TbF F k) (hok : (st2 k v L (!m.2)).ok w) (hF : F.At w) (htab : Tab w) : Calls Tryz.prog 52 #[.pointer (some ⟨k.sp, 0, none⟩)] w fun e w' => ∃ (y : SK × Value) (G : Frz), (SI p m y.1 L ∧ TbF G y.1) ∧ e = .returned (.pointer (some ⟨y.1.sp, 0, none⟩)) ∧ FxM F w (fps []) G [st2 y.1 y.2 L (!m.2)] w' := by
  have hs := zfI h hok (tf.fz hF) htab; have h1 := (Ent.bag_ok.1 hok).1; have hr := h1 (.row k.sp 116 [.pointer (some ⟨k.tp, 0, none⟩), v, .bool (!m.2)]) (by simp); have hl := h1 (.sl v 88 1 k.Y.n (Ws.cells L)) (by simp); have hn := h.n512
  -- what is there is frozen for the time of the call
  have hC : SlC (Frz.all w) v 1 (L.map Le) := by
    have hl2 := hl; rw [← zfa] at hl2; exact (SlK.ent (G := Frz.all w) hl2 rfl (fun g _ hc => hc)).toF h.len.symm (fun _ => rfl)
  haveI := hC.oneC; refine Calls.mono (R := fun e w' => ∃ (y : Nat × Value), OneC y.2 ∧ e = .returned (.pointer (some ⟨y.1, 0, none⟩)) ∧ Hp w (fun _ => False) [.row y.1 116 [.pointer (some ⟨k.tp, 0, none⟩), y.2, .bool (!m.2)], .sl y.2 88 1 k.Y.n (Ws.cells L)] w') ?_ ?_
  · obtain ⟨S0, F1, hF1, hS0, hp0⟩ := zan (Frz.all_at w); rw [← hF1] at hC; refine zac (M := fun _ => False) (hs := [.fr F1]) Tryz.func52 rfl rfl rfl hp0 ?_; refine T.sr ?_; refine TL.run 1 rfl ?_; refine TL.ns (T.seq (T.sr ?_)); refine TL.run 1 rfl ?_; refine TL.e (Ew.af rfl rfl rfl (fun w' hw => zbR k.sp k.Y L (!m.2) w' (hs.kept hw))) ?_; rintro _ _ ⟨rfl, rfl⟩; refine TL.ns ?_; refine T.aJ rfl rfl ?_; refine T.skip (K.seq (T.seq ?_)); refine T.as (.still 0 (.still 1 (.still 2 (.still 3 (.still 4 (.still 5 (.still 6 (.still 7 (.still 9 (.still 10 (.still 11 (.still 12 (.eff 8 (.still 13 (.eff 14 (.still 15 .done)))))))))))))))) [.fr F1] (by kernel_rfl) (List.Sublist.refl _) ?_; refine TS.run 2 rfl ?_; refine TS.y rfl (Yv.fieldAddr rfl rfl) ?_; refine TS.y rfl (Yv.aw rfl rfl (zcm (i := 0) hr rfl) (fun h => h)) ?_; refine TS.run 2 rfl ?_; refine TS.y rfl (Yv.fieldAddr rfl rfl) ?_; refine TS.y rfl (Yv.aw rfl rfl (zcm (i := 1) hr rfl) (fun h => h)) ?_; refine TS.run 2 rfl ?_; refine TS.y rfl (Yv.fieldAddr rfl rfl) ?_; refine TS.y rfl (Yv.aw rfl rfl (zcm (i := 2) hr rfl) (fun h => h)) ?_; refine TS.slNil 88 1 ?_; refine TS.eff ?_; refine TSo.aD rfl (Wt.none rfl) rfl rfl (Ew.bj 0 1 (F := F1) (k' := k.Y.n) (l' := Ws.cells L) (zfw (enc := Le) (fun x => inferInstanceAs (OneCs [U x]))) rfl rfl rfl rfl rfl hC (by rw [List.length_map, h.len]; omega) (by rw [List.nil_append, ← List.flatMap_def, zfa]) (by omega) (by decide)) ?_; rintro v' _ ⟨hv', rfl⟩; refine ⟨fun w hw => hw.sub (List.sublist_cons_self _ _), ?_⟩; refine TS.y rfl (Yv.build rfl rfl) ?_; refine TS.eff ?_; refine TSo.aD rfl (Wt.none rfl) rfl rfl (Ew.aA rfl rfl) ?_; rintro _ _ ⟨g, rfl, rfl⟩; refine ⟨fun w hw => hw.sub Sx, ?_⟩; refine TS.run 1 rfl ?_; refine TS.done ?_; refine K.seq (T.ret ?_); exact K.ah rfl rfl (fun w' hw => ⟨(g, v'), hv', rfl, hw.sub Sx⟩)
  · rintro e w' ⟨⟨g, v'⟩, hv', rfl, hw⟩; refine ⟨({ k with sp := g }, v'), F, ⟨h.sp g, tf⟩, rfl, ⟨Frz.Le.refl _, hF.below hw.isBelow, ?_, fun g hg => .inl hg, fun e he q hq hS => ?_⟩⟩
    · rw [zgG]; exact zhY hw
    · simp at he; subst he; have h2 := (zhY hw).new _ (by simp) q hq; have := (hF.cb hS).lt; rcases h2 with h2 | h2
      · exact h2
      · omega
end
abbrev vI (z:Int):Value:= .int .i64 z
abbrev Vec (n:Nat)(α:Type):={ l:List α // l.length=n }
def Vec.fill {α:Type}(n:Nat)(v:α):Vec n α:=⟨List.replicate n v,List.length_replicate⟩
instance {n:Nat} {α:Type} [Inhabited α]:Inhabited (Vec n α):=⟨Vec.fill n default⟩
def Vec.get {n:Nat}{α:Type}[Inhabited α](x:Vec n α)(i:Nat):α:=nth x.1 i
def Vec.put {n:Nat}{α:Type}(x:Vec n α)(i:Nat)(v:α):Vec n α:=⟨x.1.set i v,by rw [List.length_set,x.2]⟩
theorem Vec.get_fill {α:Type}[Inhabited α]{n i:Nat}{v:α}(h:i<n):(Vec.fill n v).get i=v:=by
 unfold Vec.get Vec.fill;rw [zat (by simpa using h)];simp
theorem Vec.get_put {α:Type}[Inhabited α]{n i j:Nat}{x:Vec n α}{v:α}(h:i<n):(x.put i v).get j=if j=i then v else x.get j:=by
 unfold Vec.get Vec.put; (have hx:i<x.1.length:=by rw [x.2];exact h);unfold nth;rw [List.getD_eq_getElem?_getD,List.getD_eq_getElem?_getD];by_cases e:j=i
 ·rw [if_pos e,e,List.getElem?_set_self hx];rfl
 ·rw [if_neg e,List.getElem?_set_ne (fun h=>e h.symm)]
section
variable {α:Type}[Inhabited α]{n i j m p:Nat}{x:Vec n α}{f:α→Value}{a b l r:List Value}{v:Value}
theorem Vec.len:(x.1.map f).length=n:=by rw [List.length_map,x.2]
theorem Vec.cell (h:i<n):(x.1.map f)[i]?=some (f (x.get i)):=by
 unfold Vec.get;rw [List.getElem?_map,List.getElem?_eq_getElem (by rw [x.2];exact h),zat (by rw [x.2];exact h)];rfl
theorem Vec.upd {v:α}(h:i<n):(x.1.map f).set i (f v)=(x.put i v).1.map f:=by
 show _=(x.1.set i v).map f
 rw [List.map_set]
theorem zb8 (hp:p=i)(h:l[i]?=some v):l[p]?=some v:=by rw [hp];exact h
theorem zfT {u:Value}(hp:p=i)(h:l.set i u=r):l.set p u=r:=by rw [hp];exact h
theorem zj4 (ha:a.length=m)(hi:i<m)(h:a[i]?=some v):(a++b)[i]?=some v:=by
 rw [List.getElem?_append_left (by omega)];exact h
theorem zb2 (ha:a.length=m)(h:b[j]?=some v):(a++b)[m+j]?=some v:=by
 rw [List.getElem?_append_right (by omega),ha,show m+j - m=j by omega];exact h
theorem zfE {u:Value}(ha:a.length=m)(h:b.set j u=r):(a++b).set (m+j) u=a++r:=by
 rw [List.set_append_right _ _ (by omega),ha,show m+j - m=j by omega,h]
theorem zde {k:Nat}(ha:a.length=m)(hb:b.length=k):(a++b).length=m+k:=by rw [List.length_append,ha,hb]
instance OneCs.vmap {β:Type} {g:β→Value} {y:List β} [h:∀z,OneC (g z)]:OneCs (y.map g):=⟨fun z hz=>by obtain ⟨b,_,rfl⟩:=List.mem_map.1 hz;exact (h b).h⟩
instance OneCs.cat [h:OneCs a] [k:OneCs b]:OneCs (a++b):=⟨fun z hz=>(List.mem_append.1 hz).elim (h.h z) (k.h z)⟩
end
section
variable {P:Program}{n:Nat}{B D:World}{M:Nat→Prop}{fs:SFs}{hs:HS}{o:Oper}{v:Value}
theorem Ew.bp {t:TypeId}{z l:List Value}[hT:TyZ P t z](ho:o.op= .alloc t)(hz:z=l):Ew P n B M fs hs o (fun v hs'=>∃g,v= .pointer (some ⟨g,0,none⟩)∧hs'= .row g t l :: hs):=by
 subst hz;exact Ew.alloc ho
theorem zhD {place:Nat→Option (Nat×Nat)}{l l1 m:List Value}{l2:Array Value}{i off size:Nat}{v:Value}{ps:List (Nat×Value)}(hp:place i=some (off,size))(hc:v.cells=m.toArray)(hs:m.length=size)(h1:zdf l off m=l1)(hb:off+m.length≤l.length)(h2:Instr.fill place l1.toArray ps=some l2):Instr.fill place l.toArray ((i,v) :: ps)=some l2:=by
 obtain ⟨l2'⟩:=l2;haveI:Place place i off size:=⟨hp⟩;haveI:Cells v m:=⟨hc⟩;haveI:Splice l off m l1:=⟨h1,hb⟩;haveI:Fill place l1 ps l2':=⟨h2⟩;haveI:LenIs m size:=⟨hs⟩;exact (inferInstance:Fill place l ((i,v) :: ps) l2').h
theorem zjf {l r:List Value}{off:Nat}{v:Value}(h:off<l.length)(hr:l.set off v=r):zdf l off [v]=r:=by
 rw [←hr];exact zeB l off v h
theorem ziX {a b m:List Value}(h:a.length=m.length):zdf (a++b) 0 m=m++b:=by
 simp [zdf,←h]
theorem Yv.cm {t:TypeId}{ps:Array (Nat×Operand)}{vs:List (Nat×Value)}{z l0 l:List Value}[hS:TySt P t][hZ:TyZ P t z](ho:o.op= .build t ps)(hv:evPs fs ps.toList=some vs)(hz:z=l0)(hF:Instr.fill (zfy P t) l0.toArray vs=some l.toArray):Yv P n B M fs hs o (.agg l.toArray):=by
 subst hz;haveI:Fill (zfy P t) z vs l:=⟨hF⟩;exact Yv.build ho hv
end
section
variable {B:World}{M S0:Nat→Prop}{hs:HS}{F:FzB B M S0}
def FzB.addE {w:World}(F:FzB B M S0)(hF:F.toFrz.At w)(T:Nat→Prop)(hc:∀g,T g→Cb w g)(hb:∀g,T g→M g∨B.heap.size≤g):FzB B M S0 where
 S k:=F.S k∨T k
 w:=w
 c k hk:=hk.elim (fun h=>hF.cb h) (hc k)
 base k hk h1 h2:=by
  rcases hk with h|h
  ·rw [hF k h,F.base k h h1 h2]
  ·rcases hb k h with h3|h3
   ·exact absurd h3 h2
   ·omega
 new k hk:=hk.elim (F.new k) (fun h=> .inr (hb k h))
theorem Hp.freezeE {w : World} {i j : Nat} {e : Ent} (hw : Hp B M hs w) (hij : i ≠ j) (hi : hs[i]? = some (.fr F)) (hj : hs[j]? = some e) (hc : ∀ g, e.fp g → Cb w g) :
    ∃ G : FzB B M S0, F.toFrz.Le G.toFrz ∧ (∀ w', G.toFrz.At w' → e.ok w') ∧ Hp B M ((hs.set i (.fr G)).eraseIdx j) w := by
  have hF := hw.fr hi; have hb := hw.new e (List.mem_of_getElem? hj); refine ⟨F.addE hF e.fp hc hb, fun k hk => ⟨.inl hk, hF k hk⟩, fun w' hw' => e.loc (fun g hg => hw' g (.inr hg)) (hw.get hj), ?_⟩; obtain ⟨r, h1, h2⟩ := zdV (a' := .fr (F.addE hF e.fp hc hb)) hij hi hj; refine Hp.perm ?_ h2.symm; refine Hp.repl (hw.perm h1) ?_ ?_ (List.pairwise_singleton _ _)
  · intro x hx; simp at hx; subst hx; exact Ent.fr_ok.2 (fun k hk => rfl)
  · intro x hx k hk; simp at hx; subst hx; have h := Ent.fr_fp.1 hk; rcases h.1 with h3 | h3
    · exact ⟨_, by simp, Ent.fr_fp.2 ⟨h3, h.2⟩⟩
    · exact ⟨e, by simp, h3⟩
end
theorem zmz {k:SK}{v:Value}{L:Ws}{b:Bool}{w:World}(h:(st2 k v L b).ok w):∀g,(st2 k v L b).fp g→Cb w g:=fun g hg=>by
 have h1:=(Ent.bag_ok.1 h).1;obtain ⟨e,he,hg⟩:=Ent.bag_fp.1 hg;simp at he;rcases he with rfl|rfl
 ·have:=Ent.row_fp.1 hg;subst this;exact ⟨_,_,_,Ent.row_ok.1 (h1 _ (List.mem_cons_self ..))⟩
 ·have h2:=Ent.sl_fp.1 hg;rcases (Ent.sl_ok.1 (h1 (.sl v 88 1 k.Y.n (Ws.cells L)) (by simp))).2 with ⟨rfl,_⟩|⟨g',cap,cur,rfl,_,hgg,_⟩
  ·cases h2
  ·simp [Value.ownBlock] at h2;subst h2;exact ⟨_,_,_,hgg⟩
def SzF (F:Frz)(k:SK)(v:Value)(L:Ws)(b:Bool):Prop:=∀w,F.At w→(st2 k v L b).ok w
theorem SzF.mono {F G:Frz}{k:SK}{v:Value}{L:Ws}{b:Bool}(h:SzF F k v L b)(hle:F.Le G):SzF G k v L b:=fun w hw=>h w (hw.le hle)
theorem Hp.freezeSt {B w : World} {M S0 : Nat → Prop} {hs : HS} {F : FzB B M S0} {i j : Nat} {k : SK} {v : Value} {L : Ws} {b : Bool} (hw : Hp B M hs w) (hij : i ≠ j) (hi : hs[i]? = some (.fr F)) (hj : hs[j]? = some (st2 k v L b)) :
    ∃ G : FzB B M S0, (F.toFrz.Le G.toFrz ∧ SzF G.toFrz k v L b) ∧ Hp B M ((hs.set i (.fr G)).eraseIdx j) w := by
  obtain ⟨G, h1, h2, h3⟩ := hw.freezeE hij hi hj (zmz (hw.get hj)); exact ⟨G, ⟨h1, h2⟩, h3⟩
def R_List_GChoice.rep (F:Frz)(c:List Value)(x:List GChoice):Prop:=∃(v0:Value),c=[v0]∧SlC F v0 2 (x.map GChoice.enc)
theorem R_List_GChoice.mono {F G:Frz}{c:List Value}{x:List GChoice}(hle:F.Le G)(h:R_List_GChoice.rep F c x):R_List_GChoice.rep G c x:=by
 obtain ⟨v0,h0,h1⟩:=h;exact ⟨v0,h0,h1.mono hle⟩
theorem R_List_GChoice.len {F:Frz}{c:List Value}{x:List GChoice}(h:R_List_GChoice.rep F c x):c.length=1:=by
 obtain ⟨v0,h0,h1⟩:=h;subst h0;rfl
theorem R_List_GChoice.one {F:Frz}{c:List Value}{x:List GChoice}(h:R_List_GChoice.rep F c x):OneCs c:=by
 obtain ⟨v0,h0,h1⟩:=h;subst h0;haveI:=h1.oneC
 infer_instance
theorem R_List_GChoice.c0 {F:Frz}{c:List Value}{x:List GChoice}(h:R_List_GChoice.rep F c x):c[0]?=some (nth c 0)∧SlC F (nth c 0) 2 (x.map GChoice.enc):=by
 obtain ⟨v0,h0,h1⟩:=h;subst h0;exact ⟨rfl,h1⟩
theorem R_List_GChoice.form {F:Frz}{c:List Value}{x:List GChoice}(h:R_List_GChoice.rep F c x):(c.drop 0).take 1=[nth c 0]:=by
 obtain ⟨v0,h0,h1⟩:=h;subst h0;rfl
def zbm (d:List GDomain)(g_:List GChoice)(s:Int)(c:Int):Bool:=
 zax (fun (has_1:Bool)=>
  has_1)
 (fun k2=>
  zai (fun (i_5:Nat) (next4:Bool→Bool) (has_3:Bool)=>
   (bif decide ((nth g_ i_5).Station=s) then
    next4 (decide ((nth g_ i_5).Channel=c))
    else
    (bif !(zaO d ((nth g_ i_5).Station) ((nth g_ i_5).Channel)) then
     false
     else
     next4 has_3)))
  (fun (has_3:Bool)=>
   k2 has_3) (g_.length - 0) 0 false)
theorem zeX (F0:Frz)(w:World)(hF0:F0.At w)(d:List GDomain)(vd:Value)(cd:List (List Value))(hd:SlD GDomain.rep F0 vd 2 cd d)(g_:List GChoice)(vg_:Value)(hg_:SlC F0 vg_ 2 (g_.map GChoice.enc))(s:Int)(c:Int):Calls Tryz.prog 104 #[vd,vg_, .int .i64 s, .int .i64 c] w fun e w'=>e= .returned (.bool (zbm d g_ s c))∧Below w.heap.size w w':=by
 obtain ⟨r,hk⟩:∃r,zbm d g_ s c=r:=⟨_,rfl⟩;rw [hk];unfold zbm at hk;haveI:=hd.1.oneC;haveI:=hg_.oneC;obtain ⟨S0,F1,rfl,hS0,hp0⟩:=zan hF0;refine zac Tryz.func104 rfl rfl rfl hp0 ?_;refine T.sr ?_;refine TL.run 1 rfl ?_;refine TL.nx ?_;refine TL.run 1 rfl ?_;refine TL.ns (T.seq (T.sr ?_));refine TL.run 1 rfl ?_;refine TL.ns ?_;have hq:=zae hk;clear hk;obtain ⟨k2,hk2,hk⟩:=hq; (try dsimp only at hk);refine T.al (ι:=Bool) (fun z=>[(9, .bool z)]) (fun z=>[.fr F1]) (fun z=>k2 z=r) ?_ ?_
 ·have hq:=zaj hk;clear hk;obtain ⟨f4,kk4,hf4,hkk4,hk⟩:=hq;refine T.block ?_;refine T.loop (ι:=Nat×Bool) (fun z=>[(0,vd),(1,vg_),(2, .int .i64 s),(3, .int .i64 c),(9, .bool z.2),(10, .int .i64 (z.1:Int))]) (fun z=>[.fr F1]) (fun z=>zai f4 kk4 (g_.length - z.1) z.1 z.2=r) (fun z=>g_.length - z.1) (0,false) ?_ ?_ ?_ ?_
  ·exact hk
  ·exact (.c (.c (.c (.c (.c (.c .nil))))))
  ·exact List.Sublist.refl _
  ·rintro ⟨i_5,has_3⟩ hk; (try dsimp only at *);refine T.seq (T.sr ?_);refine TL.run 2 rfl ?_;refine TL.y (Yv.ar rfl rfl hg_ (List.length_map _)) ?_;have hm13:g_.length≤9223372036854775807:=(List.length_map _)▸hg_.max;refine TL.run 1 rfl ?_;refine TL.ns ?_;refine T.cond rfl (fun h6=>?_) (fun h6=>?_)
   ·have p6:=of_decide_eq_true h6;rw [zar (by omega)] at hk;generalize hn4:zai f4 kk4 (g_.length - (i_5+1)) (i_5+1)=next4 at hk;rw [←hf4] at hk; (try dsimp only at hk);refine T.skip (K.seq (T.seq (T.block (T.sr ?_))));refine TL.run 2 rfl ?_;refine TL.y (Yv.ao (i:=i_5) rfl rfl rfl hg_ (List.length_map _) rfl (by omega)) ?_;refine TL.y (Yv.aG rfl rfl hg_ (List.length_map _) (by omega)) ?_;refine TL.y (Yv.az 0 (i:=i_5) (j:=0) rfl rfl rfl hg_ (by omega) rfl rfl) ?_;refine TL.run 2 rfl ?_;refine TL.ns ?_;refine T.cond rfl (fun h7=>?_) (fun h7=>?_)
    ·have p7:=of_decide_eq_true h7;replace hk:=zab hk h7;refine T.region ?_;refine TL.run 2 rfl ?_;refine TL.y (Yv.ao (i:=i_5) rfl rfl rfl hg_ (List.length_map _) rfl (by omega)) ?_;refine TL.y (Yv.aG rfl rfl hg_ (List.length_map _) (by omega)) ?_;refine TL.y (Yv.az 0 (i:=i_5) (j:=1) rfl rfl rfl hg_ (by omega) rfl rfl) ?_;refine TL.run 3 rfl ?_;refine TL.nil (K.ad (K.seq (T.region ?_)));refine TL.run 1 rfl ?_;refine TL.y (Yv.an rfl rfl rfl (by omega)) ?_;refine TL.run 1 rfl ?_;refine TL.nil ?_;rw [←hn4] at hk;exact K.next ((i_5+1),decide ((nth g_ i_5).Channel=c)) hk (by dsimp only;omega) (.c (.c (.c (.c (.c (.c .nil)))))) (List.Sublist.refl _)
    ·have p7:=of_decide_eq_false h7;replace hk:=zaa hk h7;refine T.seq ?_;refine T.as (.still 0 (.still 1 (.still 2 (.still 3 (.still 4 (.still 5 (.still 6 (.still 7 (.still 8 (.still 9 (.still 10 (.eff 11 (.still 12 .done))))))))))))) _ (by kernel_rfl) (List.Sublist.refl _) ?_;refine TS.run 3 rfl ?_;refine TS.y rfl (Yv.ao (i:=i_5) rfl rfl rfl hg_ (List.length_map _) rfl (by omega)) ?_;refine TS.y rfl (Yv.aG rfl rfl hg_ (List.length_map _) (by omega)) ?_;refine TS.y rfl (Yv.az 0 (i:=i_5) (j:=0) rfl rfl rfl hg_ (by omega) rfl rfl) ?_;refine TS.run 2 rfl ?_;refine TS.y rfl (Yv.ao (i:=i_5) rfl rfl rfl hg_ (List.length_map _) rfl (by omega)) ?_;refine TS.y rfl (Yv.aG rfl rfl hg_ (List.length_map _) (by omega)) ?_;refine TS.y rfl (Yv.az 0 (i:=i_5) (j:=1) rfl rfl rfl hg_ (by omega) rfl rfl) ?_;refine TS.eff ?_;refine TSo.aD rfl (Wt.none rfl) rfl rfl (Ew.af rfl rfl rfl (fun w hw=>zcx _ w (hw.fr (i:=0) rfl) d vd cd hd ((nth g_ i_5).Station) ((nth g_ i_5).Channel))) ?_;rintro _ _ ⟨rfl,rfl⟩;refine ⟨(fun w hw=>hw.sub Sx),?_⟩;refine TS.run 1 rfl ?_;refine TS.done ?_;refine K.seq ?_;refine T.cond rfl (fun h8=>?_) (fun h8=>?_)
     ·replace hk:=zab hk h8;refine T.sr ?_;refine TL.run 1 rfl ?_;refine TL.ns (T.ret (K.ag (K.aa (K.aa (K.ag (K.aa ?_))))));subst hk;exact K.ah rfl rfl (fun w' hw=>⟨rfl,hw.isBelow⟩)
     ·replace hk:=zaa hk h8;refine T.skip (K.ad (K.seq (T.region ?_)));refine TL.run 1 rfl ?_;refine TL.y (Yv.an rfl rfl rfl (by omega)) ?_;refine TL.run 1 rfl ?_;refine TL.nil ?_;rw [←hn4] at hk;exact K.next ((i_5+1),has_3) hk (by dsimp only;omega) (.c (.c (.c (.c (.c (.c .nil)))))) (List.Sublist.refl _)
   ·have p6:=of_decide_eq_false h6;rw [zas (by omega),←hkk4] at hk; (try dsimp only at hk);refine T.exit (K.ab (K.ab (K.ae ?_)));exact K.aj has_3 hk (.c .nil) (List.Sublist.refl _)
 ·rintro has_1 hk;rw [←hk2] at hk; (try dsimp only at hk);refine T.sr ?_;refine TL.run 2 rfl ?_;refine TL.ns (T.ret ?_);subst hk;exact K.ah rfl rfl (fun w' hw=>⟨rfl,hw.isBelow⟩)
def zbw (p:GProblem)(store:List (List GChoice))(d:List GDomain)(s:Int)(c:Int):Bool:=
 zax (fun (_:Unit)=>
  (zbj p d s c))
 (fun k1=>
  zai (fun (i_3:Nat) (next2:Unit→Bool) (_:Unit)=>
   (bif (zbm d (nth store i_3) s c) then
    true
    else
    next2 ()))
  (fun (_:Unit)=>
   k1 ()) (store.length - 0) 0 ())
theorem zfk (F0:Frz)(w:World)(hF0:F0.At w)(p:GProblem)(vp_0:Value)(cp_0:List (List Value))(hp_0:SlD GDomain.rep F0 vp_0 2 cp_0 p.Domains)(vp_1:Value)(hp_1:SlC F0 vp_1 5 (p.Rules.Pairs.map GPair.enc))(vp_2:Value)(hp_2:SlC F0 vp_2 5 (p.Rules.Loads.map GLoad.enc))(vp_3:Value)(hp_3:SlC F0 vp_3 4 (p.Rules.Caps.map GCap.enc))(store:List (List GChoice))(vstore:Value)(cstore:List (List Value))(hstore:SlD R_List_GChoice.rep F0 vstore 1 cstore store)(d:List GDomain)(vd:Value)(cd:List (List Value))(hd:SlD GDomain.rep F0 vd 2 cd d)(s:Int)(c:Int):Calls Tryz.prog 77 #[.agg [vp_0,vp_1,vp_2,vp_3].toArray,vstore,vd, .int .i64 s, .int .i64 c] w fun e w'=>e= .returned (.bool (zbw p store d s c))∧Below w.heap.size w w':=by
 obtain ⟨r,hk⟩:∃r,zbw p store d s c=r:=⟨_,rfl⟩;rw [hk];unfold zbw at hk;haveI:=hp_0.1.oneC;haveI:=hp_1.oneC;haveI:=hp_2.oneC;haveI:=hp_3.oneC;haveI:=hstore.1.oneC;haveI:=hd.1.oneC;obtain ⟨S0,F1,rfl,hS0,hp0⟩:=zan hF0;refine zac Tryz.func77 rfl rfl rfl hp0 ?_;refine T.sr ?_;refine TL.e (Ew.aA rfl rfl) ?_;rintro _ _ ⟨g5,rfl,rfl⟩;refine TL.run 1 rfl ?_;refine TL.ns (T.seq (T.sr ?_));refine TL.run 1 rfl ?_;refine TL.ns ?_;have hq:=zae hk;clear hk;obtain ⟨k1,hk1,hk⟩:=hq; (try dsimp only at hk);refine T.al (ι:=Unit) (fun z=>[(2,vd),(3, .int .i64 s),(4, .int .i64 c),(5, .pointer (some ⟨g5,0,none⟩))]) (fun z=>[.row g5 29 [vp_0,vp_1,vp_2,vp_3], .fr F1]) (fun z=>k1 ()=r) ?_ ?_
 ·have hq:=zaj hk;clear hk;obtain ⟨f2,kk2,hf2,hkk2,hk⟩:=hq;refine T.block ?_;refine T.loop (ι:=Nat) (fun z=>[(1,vstore),(2,vd),(3, .int .i64 s),(4, .int .i64 c),(5, .pointer (some ⟨g5,0,none⟩)),(11, .int .i64 (z:Int))]) (fun z=>[.row g5 29 [vp_0,vp_1,vp_2,vp_3], .fr F1]) (fun z=>zai f2 kk2 (store.length - z) z ()=r) (fun z=>store.length - z) 0 ?_ ?_ ?_ ?_
  ·exact hk
  ·exact (.c (.c (.c (.c (.c (.c .nil))))))
  ·exact List.Sublist.refl _
  ·rintro i_3 hk;refine T.seq (T.sr ?_);refine TL.run 2 rfl ?_;refine TL.y (Yv.ar rfl rfl hstore.1 hstore.2.1) ?_;have hm14:store.length≤9223372036854775807:=hstore.2.1▸hstore.1.max;refine TL.run 1 rfl ?_;refine TL.ns ?_;refine T.cond rfl (fun h4=>?_) (fun h4=>?_)
   ·have p4:=of_decide_eq_true h4;rw [zar (by omega)] at hk;generalize hn2:zai f2 kk2 (store.length - (i_3+1)) (i_3+1)=next2 at hk;rw [←hf2] at hk; (try dsimp only at hk);refine T.skip (K.seq (T.seq (T.block (T.sr ?_))));refine TL.run 3 rfl ?_;refine TL.y (Yv.ao (i:=i_3) rfl rfl rfl hstore.1 hstore.2.1 rfl (by omega)) ?_;refine TL.y (Yv.loadR 1 (i:=i_3) (j:=0) rfl rfl rfl hstore.1 hstore.2.1 (by omega) rfl (R_List_GChoice.c0 (hstore.2.2 i_3 (by omega))).1) ?_;have hd22_0:=(R_List_GChoice.c0 (hstore.2.2 i_3 (by omega))).2;haveI:=hd22_0.oneC;refine TL.run 2 rfl ?_;refine TL.e (Ew.af rfl rfl rfl (fun w hw=>zeX _ w (hw.fr (i:=1) rfl) d vd cd hd (nth store i_3) (nth (nth cstore i_3) 0) hd22_0 s c)) ?_;rintro _ _ ⟨rfl,rfl⟩;refine TL.ns ?_;refine T.cond rfl (fun h5=>?_) (fun h5=>?_)
    ·replace hk:=zab hk h5;refine T.sr ?_;refine TL.run 1 rfl ?_;refine TL.ns (T.ret (K.ag (K.aa (K.aa (K.ag (K.aa ?_))))));subst hk;exact K.ah rfl rfl (fun w' hw=>⟨rfl,hw.isBelow⟩)
    ·replace hk:=zaa hk h5;refine T.skip (K.ad (K.seq (T.region ?_)));refine TL.run 1 rfl ?_;refine TL.y (Yv.an rfl rfl rfl (by omega)) ?_;refine TL.run 1 rfl ?_;refine TL.nil ?_;rw [←hn2] at hk;exact K.next (i_3+1) hk (by omega) (.c (.c (.c (.c (.c (.c .nil)))))) (List.Sublist.refl _)
   ·have p4:=of_decide_eq_false h4;rw [zas (by omega),←hkk2] at hk; (try dsimp only at hk);refine T.exit (K.ab (K.ab (K.ae ?_)));exact K.aj () hk (.c (.c (.c (.c .nil)))) (List.Sublist.refl _)
 ·rintro _ hk;rw [←hk1] at hk; (try dsimp only at hk);refine T.sr ?_;refine TL.y (Yv.am 0 rfl rfl rfl rfl) ?_;refine TL.run 3 rfl ?_;refine TL.e (Ew.af rfl rfl rfl (fun w hw=>zfH _ w (hw.fr (i:=1) rfl) p vp_0 cp_0 hp_0 vp_1 hp_1 vp_2 hp_2 vp_3 hp_3 d vd cd hd s c)) ?_;rintro _ _ ⟨rfl,rfl⟩;refine TL.run 1 rfl ?_;refine TL.ns (T.ret ?_);subst hk;exact K.ah rfl rfl (fun w' hw=>⟨rfl,hw.isBelow⟩)
def zby (fuel:Nat)(p:GProblem)(store:List (List GChoice))(d:List GDomain):Option (List GDomain×Bool):=
 zax (fun (d_1:List GDomain)=>
  zax (fun (_:Unit)=>
   zax (fun (_:Unit)=>
    some (d_1,true))
   (fun k25=>
    zai (fun (i_27:Nat) (next26:Unit→Option (List GDomain×Bool)) (_:Unit)=>
     (bif decide (((nth store i_27).length:Int)=0) then
      some ([],false)
      else
      next26 ()))
    (fun (_:Unit)=>
     k25 ()) (store.length - 0) 0 ()))
  (fun k20=>
   zai (fun (i_22:Nat) (next21:Unit→Option (List GDomain×Bool)) (_:Unit)=>
    (bif decide ((((nth d_1 i_22).Channels).length:Int)=0) then
     some ([],false)
     else
     next21 ()))
   (fun (_:Unit)=>
    k20 ()) (d_1.length - 0) 0 ()))
 (fun k2=>
  zbd (fun (next5:(List GDomain×Bool)→Option (List GDomain×Bool)) (s5:List GDomain×Bool)=>
   (bif s5.2 then
    zbd (fun (next11:(List GDomain×Bool×Int)→Option (List GDomain×Bool)) (s11:List GDomain×Bool×Int)=>
     (bif decide (s11.2.2<(s11.1.length:Int)) then
      grd (0≤s11.2.2∧s11.2.2<(s11.1.length:Int)) <|
      zfC (fun (k_17:Nat) (next16:(List GDomain×Bool)→Option (List GDomain×Bool)) (s16:List GDomain×Bool)=>
       grd (0≤s11.2.2∧s11.2.2<(s16.1.length:Int)) <|
       grd (0≤(k_17:Int)∧(k_17:Int)<(((nth s16.1 s11.2.2.toNat).Channels).length:Int)) <|
       (bif (zbw p store s16.1 ((nth s16.1 s11.2.2.toNat).Station) (nth ((nth s16.1 s11.2.2.toNat).Channels) k_17)) then
        (zba s16.1 ((nth s16.1 s11.2.2.toNat).Station) (nth ((nth s16.1 s11.2.2.toNat).Channels) k_17)).bind fun r55=>
        next16 (r55,true)
        else
        next16 (s16.1,s16.2)))
      (fun (s16:List GDomain×Bool)=>
       next11 (s16.1,s16.2,(s11.2.2+1))) (((nth s11.1 s11.2.2.toNat).Channels).length) (s11.1,s11.2.1)
      else
      next5 (s11.1,s11.2.1))) fuel (s5.1,false,0)
    else
    k2 s5.1)) fuel (d,true))
theorem zeI (F0:Frz)(w:World)(hF0:F0.At w)(p:GProblem)(vp_0:Value)(cp_0:List (List Value))(hp_0:SlD GDomain.rep F0 vp_0 2 cp_0 p.Domains)(vp_1:Value)(hp_1:SlC F0 vp_1 5 (p.Rules.Pairs.map GPair.enc))(vp_2:Value)(hp_2:SlC F0 vp_2 5 (p.Rules.Loads.map GLoad.enc))(vp_3:Value)(hp_3:SlC F0 vp_3 4 (p.Rules.Caps.map GCap.enc))(store:List (List GChoice))(vstore:Value)(cstore:List (List Value))(hstore:SlD R_List_GChoice.rep F0 vstore 1 cstore store)(d:List GDomain)(vd:Value)(cd:List (List Value))(hd:SlD GDomain.rep F0 vd 2 cd d)(fuel:Nat)(r:List GDomain×Bool)(hr:zby fuel p store d=some r):Calls Tryz.prog 50 #[.agg [vp_0,vp_1,vp_2,vp_3].toArray,vstore,vd] w fun e w'=>∃(y:Value×List (List Value)) (G:Frz),(SlD GDomain.rep G y.1 2 y.2 r.1)∧e= .returned (.tuple #[y.1, .bool r.2])∧Fx F0 w G w':=by
 have hk:=hr;unfold zby at hk;haveI:=hp_0.1.oneC;haveI:=hp_1.oneC;haveI:=hp_2.oneC;haveI:=hp_3.oneC;haveI:=hstore.1.oneC;haveI:=hd.1.oneC;obtain ⟨S0,F1,rfl,hS0,hp0⟩:=zan hF0;refine zac Tryz.func50 rfl rfl rfl hp0 ?_;refine T.sr ?_;refine TL.e (Ew.aA rfl rfl) ?_;rintro _ _ ⟨g3,rfl,rfl⟩;refine TL.run 2 rfl ?_;refine TL.ns (T.seq (T.sr ?_));refine TL.run 1 rfl ?_;refine TL.ns ?_;have hq:=zae hk;clear hk;obtain ⟨k2,hk2,hk⟩:=hq; (try dsimp only at hk);refine T.al (ι:=List GDomain×Value×List (List Value)×FzB w (fun _=>False) S0) (fun z=>[(1,vstore),(2,z.2.1)]) (fun z=>[.fr z.2.2.2]) (fun z=>k2 z.1=some r∧SlD GDomain.rep z.2.2.2.toFrz z.2.1 2 z.2.2.1 z.1∧F1.toFrz.Le z.2.2.2.toFrz) ?_ ?_
 ·have hq:=zb3 hk;clear hk;obtain ⟨f5,hf5,hk⟩:=hq;refine T.block ?_;refine T.loop (ι:=Nat×List GDomain×Value×List (List Value)×Bool×FzB w (fun _=>False) S0) (fun z=>[(1,vstore),(2,z.2.2.1),(3, .pointer (some ⟨g3,0,none⟩)),(8, .bool z.2.2.2.2.1)]) (fun z=>[.row g3 29 [vp_0,vp_1,vp_2,vp_3], .fr z.2.2.2.2.2]) (fun z=>zbd f5 z.1 (z.2.1,z.2.2.2.2.1)=some r∧SlD GDomain.rep z.2.2.2.2.2.toFrz z.2.2.1 2 z.2.2.2.1 z.2.1∧F1.toFrz.Le z.2.2.2.2.2.toFrz) (fun z=>z.1) (fuel,d,vd,cd,true,F1) ?_ ?_ ?_ ?_
  ·exact ⟨hk,hd,(Frz.Le.refl _)⟩
  ·exact (.c (.c (.c (.c .nil))))
  ·exact List.Sublist.refl _
  ·rintro ⟨m_6,d_3,vd_3,cd_3,again_4,F3⟩ ⟨hk,hd_3,le1_3⟩; (try dsimp only at *);haveI:=hd_3.1.oneC;have hq:=zco hk;clear hk;obtain ⟨m_6',rfl,hk⟩:=hq;generalize hn5:zbd f5 m_6'=next5 at hk;rw [←hf5] at hk; (try dsimp only at hk);refine T.seq (T.sr ?_);refine TL.run 1 rfl ?_;refine TL.ns ?_;refine T.cond rfl (fun h7=>?_) (fun h7=>?_)
   ·replace hk:=zab hk h7;refine T.skip (K.seq (T.block (T.sr ?_)));refine TL.run 1 rfl ?_;refine TL.nx ?_;refine TL.run 1 rfl ?_;refine TL.ns ?_;have hq:=zb3 hk;clear hk;obtain ⟨f11,hf11,hk⟩:=hq;refine T.block ?_;refine T.loop (ι:=Nat×List GDomain×Value×List (List Value)×Bool×Int×FzB w (fun _=>False) S0) (fun z=>[(1,vstore),(2,z.2.2.1),(3, .pointer (some ⟨g3,0,none⟩)),(8, .bool z.2.2.2.2.1),(9, .int .i64 z.2.2.2.2.2.1)]) (fun z=>[.row g3 29 [vp_0,vp_1,vp_2,vp_3], .fr z.2.2.2.2.2.2]) (fun z=>zbd f11 z.1 (z.2.1,z.2.2.2.2.1,z.2.2.2.2.2.1)=some r∧SlD GDomain.rep z.2.2.2.2.2.2.toFrz z.2.2.1 2 z.2.2.2.1 z.2.1∧F3.toFrz.Le z.2.2.2.2.2.2.toFrz) (fun z=>z.1) (fuel,d_3,vd_3,cd_3,false,0,F3) ?_ ?_ ?_ ?_
    ·exact ⟨hk,hd_3,(Frz.Le.refl _)⟩
    ·exact (.c (.c (.c (.c (.c .nil)))))
    ·exact List.Sublist.refl _
    ·rintro ⟨m_12,d_8,vd_8,cd_8,again_9,i_10,F4⟩ ⟨hk,hd_8,le3_4⟩; (try dsimp only at *);have le1_4:=le1_3.trans le3_4;haveI:=hd_8.1.oneC;have hq:=zco hk;clear hk;obtain ⟨m_12',rfl,hk⟩:=hq;generalize hn11:zbd f11 m_12'=next11 at hk;rw [←hf11] at hk; (try dsimp only at hk);refine T.seq (T.sr ?_);refine TL.run 2 rfl ?_;refine TL.y (Yv.ar rfl rfl hd_8.1 hd_8.2.1) ?_;have hm18:d_8.length≤9223372036854775807:=hd_8.2.1▸hd_8.1.max;refine TL.run 1 rfl ?_;refine TL.ns ?_;refine T.cond rfl (fun h13=>?_) (fun h13=>?_)
     ·have p13:=of_decide_eq_true h13;replace hk:=zab hk h13;refine T.skip (K.seq (T.seq (T.block (T.seq ?_))));have hq:(0≤i_10∧i_10<(d_8.length:Int))∧_:=zaE hk;clear hk;obtain ⟨g24,hk⟩:=hq; (try dsimp only at hk);refine T.region ?_;refine TL.run 2 rfl ?_;refine TL.y (Yv.ao (i:=i_10.toNat) rfl rfl rfl hd_8.1 hd_8.2.1 (by omega) (by omega)) ?_;refine TL.y (Yv.aG rfl rfl hd_8.1 hd_8.2.1 (by omega)) ?_;refine TL.y (Yv.loadR 1 (i:=i_10.toNat) (j:=1) rfl rfl rfl hd_8.1 hd_8.2.1 (by omega) rfl (GDomain.c1 (hd_8.2.2 i_10.toNat (by omega))).1) ?_;have hd26_1:=(GDomain.c1 (hd_8.2.2 i_10.toNat (by omega))).2;haveI:=hd26_1.oneC;refine TL.y (Yv.ar rfl rfl hd26_1 (List.length_map _)) ?_;have hm27:((nth d_8 i_10.toNat).Channels).length≤9223372036854775807:=(List.length_map _)▸hd26_1.max;refine TL.y (Yv.aP rfl rfl rfl (by omega)) ?_;refine TL.run 1 rfl ?_;refine TL.ns ?_;have hq:=zjl hk;clear hk;obtain ⟨f16,kk16,hf16,hkk16,hk⟩:=hq;refine T.block ?_;refine T.loop (ι:=Nat×List GDomain×Value×List (List Value)×Bool×FzB w (fun _=>False) S0) (fun z=>[(1,vstore),(2,z.2.2.1),(3, .pointer (some ⟨g3,0,none⟩)),(8, .bool z.2.2.2.2.1),(9, .int .i64 i_10),(10, .int .i64 ((z.1:Int) - 1))]) (fun z=>[.row g3 29 [vp_0,vp_1,vp_2,vp_3], .fr z.2.2.2.2.2]) (fun z=>zfC f16 kk16 z.1 (z.2.1,z.2.2.2.2.1)=some r∧z.1≤((nth d_8 i_10.toNat).Channels).length∧SlD GDomain.rep z.2.2.2.2.2.toFrz z.2.2.1 2 z.2.2.2.1 z.2.1∧F4.toFrz.Le z.2.2.2.2.2.toFrz) (fun z=>z.1) (((nth d_8 i_10.toNat).Channels).length,d_8,vd_8,cd_8,again_9,F4) ?_ ?_ ?_ ?_
      ·exact ⟨hk,(Nat.le_refl _),hd_8,(Frz.Le.refl _)⟩
      ·exact (.c (.c (.c (.c (.c (.c .nil))))))
      ·exact List.Sublist.refl _
      ·rintro ⟨k_17,d_14,vd_14,cd_14,again_15,F5⟩ ⟨hk,hle16,hd_14,le4_5⟩; (try dsimp only at *);have le1_5:=le1_4.trans le4_5;have le3_5:=le3_4.trans le4_5;haveI:=hd_14.1.oneC;refine T.seq (T.sr ?_);refine TL.run 2 rfl ?_;refine TL.ns ?_;refine T.cond rfl (fun h18=>?_) (fun h18=>?_)
       ·have p18:=of_decide_eq_true h18;obtain ⟨k_17',rfl⟩:∃q,k_17=q+1:=⟨k_17 - 1,by omega⟩;replace hk:f16 k_17' (zfC f16 kk16 k_17') (d_14,again_15)=some r:=hk;generalize hn16:zfC f16 kk16 k_17'=next16 at hk;rw [←hf16] at hk; (try dsimp only at hk);refine T.aM (gs:=[(1,vstore),(2,vd_14),(3, .pointer (some ⟨g3,0,none⟩)),(8, .bool again_15),(9, .int .i64 i_10),(10, .int .i64 (k_17':Int))]) (by repeat (first|exact Sub.nil|refine Sub.cons rfl ?_|refine Sub.consI rfl (by omega) ?_|refine Sub.consB rfl (by assumption) ?_)) (List.Sublist.refl _) ?_;refine T.skip (K.seq (T.seq (T.block (T.seq ?_))));have hq:(0≤i_10∧i_10<(d_14.length:Int))∧_:=zaE hk;clear hk;obtain ⟨g35,hk⟩:=hq;have hq:(0≤(k_17':Int)∧(k_17':Int)<(((nth d_14 i_10.toNat).Channels).length:Int))∧_:=zaE hk;clear hk;obtain ⟨g44,hk⟩:=hq; (try dsimp only at hk);refine T.as (.still 0 (.still 1 (.still 2 (.still 3 (.still 4 (.still 5 (.still 6 (.still 7 (.still 8 (.still 9 (.still 10 (.still 11 (.still 12 (.still 13 (.still 14 .done))))))))))))))) _ (by kernel_rfl) (List.Sublist.refl _) ?_;refine TS.run 2 rfl ?_;refine TS.y rfl (Yv.ao (i:=i_10.toNat) rfl rfl rfl hd_14.1 hd_14.2.1 (by omega) (by omega)) ?_;refine TS.y rfl (Yv.aG rfl rfl hd_14.1 hd_14.2.1 (by omega)) ?_;refine TS.y rfl (Yv.loadR 1 (i:=i_10.toNat) (j:=0) rfl rfl rfl hd_14.1 hd_14.2.1 (by omega) rfl (GDomain.c0 (hd_14.2.2 i_10.toNat (by omega)))) ?_;refine TS.run 2 rfl ?_;refine TS.y rfl (Yv.ao (i:=i_10.toNat) rfl rfl rfl hd_14.1 hd_14.2.1 (by omega) (by omega)) ?_;refine TS.y rfl (Yv.aG rfl rfl hd_14.1 hd_14.2.1 (by omega)) ?_;refine TS.y rfl (Yv.loadR 1 (i:=i_10.toNat) (j:=1) rfl rfl rfl hd_14.1 hd_14.2.1 (by omega) rfl (GDomain.c1 (hd_14.2.2 i_10.toNat (by omega))).1) ?_;have hd42_1:=(GDomain.c1 (hd_14.2.2 i_10.toNat (by omega))).2;haveI:=hd42_1.oneC;refine TS.run 1 rfl ?_;refine TS.y rfl (Yv.ao (i:=k_17') rfl rfl rfl hd42_1 (List.length_map _) rfl (by omega)) ?_;refine TS.y rfl (Yv.az 1 (i:=k_17') (j:=0) rfl rfl rfl hd42_1 (by omega) rfl rfl) ?_;refine TS.run 2 rfl ?_;refine TS.done ?_;refine K.seq (T.sr ?_);refine TL.y (Yv.am 0 rfl rfl rfl rfl) ?_;refine TL.run 4 rfl ?_;refine TL.e (Ew.af rfl rfl rfl (fun w hw=>zfk _ w (hw.fr (i:=1) rfl) p vp_0 cp_0 (SlD.mono (rep:=GDomain.rep) (fun _ _ _ _=>GDomain.mono) hp_0 le1_5) vp_1 (SlC.mono hp_1 le1_5) vp_2 (SlC.mono hp_2 le1_5) vp_3 (SlC.mono hp_3 le1_5) store vstore cstore (SlD.mono (rep:=R_List_GChoice.rep) (fun _ _ _ _=>R_List_GChoice.mono) hstore le1_5) d_14 vd_14 cd_14 hd_14 ((nth d_14 i_10.toNat).Station) (nth ((nth d_14 i_10.toNat).Channels) k_17'))) ?_;rintro _ _ ⟨rfl,rfl⟩;refine TL.ns ?_;refine T.cond rfl (fun h19=>?_) (fun h19=>?_)
        ·replace hk:=zab hk h19;have hq:=zal hk;clear hk;obtain ⟨r55,hr55,hk⟩:=hq; (try dsimp only at hk);refine T.region ?_;refine TL.run 3 rfl ?_;refine TL.e (Ew.aS 1 rfl rfl rfl rfl (fun w hw hF=>zg4 _ w hF d_14 vd_14 cd_14 hd_14 ((nth d_14 i_10.toNat).Station) (nth ((nth d_14 i_10.toNat).Channels) k_17') r55 hr55)) ?_;rintro _ _ ⟨⟨v55_0_0,cs55_0_0⟩,F6,le5_6,hf55_0_0,hq,rfl⟩;obtain rfl:=hq.symm;dsimp only at hf55_0_0 ⊢;have le4_6:=le4_5.trans le5_6;haveI:=hf55_0_0.1.oneC;refine TL.run 2 rfl ?_;refine TL.nil (K.ad (K.seq (T.region ?_)));refine TL.run 1 rfl ?_;refine TL.y (Yv.aP rfl rfl rfl (by omega)) ?_;refine TL.run 1 rfl ?_;refine TL.nil ?_;rw [←hn16] at hk;exact K.next (k_17',r55,v55_0_0,cs55_0_0,true,F6) ⟨hk,(by dsimp only;omega),hf55_0_0,le4_6⟩ (by dsimp only;omega) (.c (.c (.c (.c (.c (.c .nil)))))) (List.Sublist.refl _)
        ·replace hk:=zaa hk h19;refine T.skip (K.ad (K.seq (T.region ?_)));refine TL.run 1 rfl ?_;refine TL.y (Yv.aP rfl rfl rfl (by omega)) ?_;refine TL.run 1 rfl ?_;refine TL.nil ?_;rw [←hn16] at hk;exact K.next (k_17',d_14,vd_14,cd_14,again_15,F5) ⟨hk,(by dsimp only;omega),hd_14,le4_5⟩ (by dsimp only;omega) (.c (.c (.c (.c (.c (.c .nil)))))) (List.Sublist.refl _)
       ·have p18:=of_decide_eq_false h18;obtain rfl:k_17=0:=(by omega);replace hk:kk16 (d_14,again_15)=some r:=hk;rw [←hkk16] at hk; (try dsimp only at hk);refine T.exit (K.ab (K.ab (K.ae (K.ad (K.seq (T.region ?_))))));refine TL.run 1 rfl ?_;refine TL.y (Yv.an rfl rfl rfl (by omega)) ?_;refine TL.run 1 rfl ?_;refine TL.nil ?_;rw [←hn11] at hk;exact K.next (m_12',d_14,vd_14,cd_14,again_15,(i_10+1),F5) ⟨hk,hd_14,le3_5⟩ (by dsimp only;omega) (.c (.c (.c (.c (.c .nil))))) (List.Sublist.refl _)
     ·have p13:=of_decide_eq_false h13;replace hk:=zaa hk h13;refine T.exit (K.ab (K.ab (K.ae (K.ad ?_))));rw [←hn5] at hk;exact K.next (m_6',d_8,vd_8,cd_8,again_9,F4) ⟨hk,hd_8,le1_4⟩ (by dsimp only;omega) (.c (.c (.c (.c .nil)))) (List.Sublist.refl _)
   ·replace hk:=zaa hk h7;refine T.exit (K.ab (K.ab (K.ae ?_)));refine K.pick [1] rfl (by decide) ?_;exact K.aj (d_3,vd_3,cd_3,F3) ⟨hk,hd_3,le1_3⟩ (.c (.c .nil)) (List.Sublist.refl _)
 ·rintro ⟨d_1,vd_1,cd_1,F2⟩ ⟨hk,hd_1,le1_2⟩; (try dsimp only at *);rw [←hk2] at hk; (try dsimp only at hk);haveI:=hd_1.1.oneC;refine T.seq (T.sr ?_);refine TL.run 1 rfl ?_;refine TL.ns ?_;have hq:=zae hk;clear hk;obtain ⟨k20,hk20,hk⟩:=hq; (try dsimp only at hk);refine T.al (ι:=Unit) (fun z=>[(1,vstore),(2,vd_1)]) (fun z=>[.fr F2]) (fun z=>k20 ()=some r) ?_ ?_
  ·have hq:=zaj hk;clear hk;obtain ⟨f21,kk21,hf21,hkk21,hk⟩:=hq;refine T.block ?_;refine T.loop (ι:=Nat) (fun z=>[(1,vstore),(2,vd_1),(13, .int .i64 (z:Int))]) (fun z=>[.fr F2]) (fun z=>zai f21 kk21 (d_1.length - z) z ()=some r) (fun z=>d_1.length - z) 0 ?_ ?_ ?_ ?_
   ·exact hk
   ·exact (.c (.c (.c .nil)))
   ·exact List.Sublist.refl _
   ·rintro i_22 hk;refine T.seq (T.sr ?_);refine TL.run 2 rfl ?_;refine TL.y (Yv.ar rfl rfl hd_1.1 hd_1.2.1) ?_;have hm58:d_1.length≤9223372036854775807:=hd_1.2.1▸hd_1.1.max;refine TL.run 1 rfl ?_;refine TL.ns ?_;refine T.cond rfl (fun h23=>?_) (fun h23=>?_)
    ·have p23:=of_decide_eq_true h23;rw [zar (by omega)] at hk;generalize hn21:zai f21 kk21 (d_1.length - (i_22+1)) (i_22+1)=next21 at hk;rw [←hf21] at hk; (try dsimp only at hk);refine T.skip (K.seq (T.seq (T.block (T.sr ?_))));refine TL.run 2 rfl ?_;refine TL.y (Yv.ao (i:=i_22) rfl rfl rfl hd_1.1 hd_1.2.1 rfl (by omega)) ?_;refine TL.y (Yv.aG rfl rfl hd_1.1 hd_1.2.1 (by omega)) ?_;refine TL.y (Yv.loadR 0 (i:=i_22) (j:=1) rfl rfl rfl hd_1.1 hd_1.2.1 (by omega) rfl (GDomain.c1 (hd_1.2.2 i_22 (by omega))).1) ?_;have hd66_1:=(GDomain.c1 (hd_1.2.2 i_22 (by omega))).2;haveI:=hd66_1.oneC;refine TL.y (Yv.ar rfl rfl hd66_1 (List.length_map _)) ?_;have hm67:((nth d_1 i_22).Channels).length≤9223372036854775807:=(List.length_map _)▸hd66_1.max;refine TL.run 1 rfl ?_;refine TL.ns ?_;refine T.cond rfl (fun h24=>?_) (fun h24=>?_)
     ·have p24:=of_decide_eq_true h24;replace hk:=zab hk h24;refine T.sr ?_;refine TL.run 2 rfl ?_;refine TL.ns (T.ret (K.ag (K.aa (K.aa (K.ag (K.aa ?_))))));obtain rfl:=Option.some.inj hk;exact K.aN rfl rfl rfl (fun w' hw=>⟨((.slice none 0 0),[]),F2.toFrz,(SlD.nil _ _ 2),rfl,Fx.of hw (i:=0) rfl hS0 le1_2⟩)
     ·have p24:=of_decide_eq_false h24;replace hk:=zaa hk h24;refine T.skip (K.ad (K.seq (T.region ?_)));refine TL.run 1 rfl ?_;refine TL.y (Yv.an rfl rfl rfl (by omega)) ?_;refine TL.run 1 rfl ?_;refine TL.nil ?_;rw [←hn21] at hk;exact K.next (i_22+1) hk (by omega) (.c (.c (.c .nil))) (List.Sublist.refl _)
    ·have p23:=of_decide_eq_false h23;rw [zas (by omega),←hkk21] at hk; (try dsimp only at hk);refine T.exit (K.ab (K.ab (K.ae ?_)));exact K.aj () hk (.c (.c .nil)) (List.Sublist.refl _)
  ·rintro _ hk;rw [←hk20] at hk; (try dsimp only at hk);refine T.seq (T.sr ?_);refine TL.run 1 rfl ?_;refine TL.ns ?_;have hq:=zae hk;clear hk;obtain ⟨k25,hk25,hk⟩:=hq; (try dsimp only at hk);refine T.al (ι:=Unit) (fun z=>[(2,vd_1)]) (fun z=>[.fr F2]) (fun z=>k25 ()=some r) ?_ ?_
   ·have hq:=zaj hk;clear hk;obtain ⟨f26,kk26,hf26,hkk26,hk⟩:=hq;refine T.block ?_;refine T.loop (ι:=Nat) (fun z=>[(1,vstore),(2,vd_1),(14, .int .i64 (z:Int))]) (fun z=>[.fr F2]) (fun z=>zai f26 kk26 (store.length - z) z ()=some r) (fun z=>store.length - z) 0 ?_ ?_ ?_ ?_
    ·exact hk
    ·exact (.c (.c (.c .nil)))
    ·exact List.Sublist.refl _
    ·rintro i_27 hk;refine T.seq (T.sr ?_);refine TL.run 2 rfl ?_;refine TL.y (Yv.ar rfl rfl (SlD.mono (rep:=R_List_GChoice.rep) (fun _ _ _ _=>R_List_GChoice.mono) hstore le1_2).1 (SlD.mono (rep:=R_List_GChoice.rep) (fun _ _ _ _=>R_List_GChoice.mono) hstore le1_2).2.1) ?_;have hm71:store.length≤9223372036854775807:=(SlD.mono (rep:=R_List_GChoice.rep) (fun _ _ _ _=>R_List_GChoice.mono) hstore le1_2).2.1▸(SlD.mono (rep:=R_List_GChoice.rep) (fun _ _ _ _=>R_List_GChoice.mono) hstore le1_2).1.max;refine TL.run 1 rfl ?_;refine TL.ns ?_;refine T.cond rfl (fun h28=>?_) (fun h28=>?_)
     ·have p28:=of_decide_eq_true h28;rw [zar (by omega)] at hk;generalize hn26:zai f26 kk26 (store.length - (i_27+1)) (i_27+1)=next26 at hk;rw [←hf26] at hk; (try dsimp only at hk);refine T.skip (K.seq (T.seq (T.block (T.sr ?_))));refine TL.run 2 rfl ?_;refine TL.y (Yv.ao (i:=i_27) rfl rfl rfl (SlD.mono (rep:=R_List_GChoice.rep) (fun _ _ _ _=>R_List_GChoice.mono) hstore le1_2).1 (SlD.mono (rep:=R_List_GChoice.rep) (fun _ _ _ _=>R_List_GChoice.mono) hstore le1_2).2.1 rfl (by omega)) ?_;refine TL.y (Yv.loadR 0 (i:=i_27) (j:=0) rfl rfl rfl (SlD.mono (rep:=R_List_GChoice.rep) (fun _ _ _ _=>R_List_GChoice.mono) hstore le1_2).1 (SlD.mono (rep:=R_List_GChoice.rep) (fun _ _ _ _=>R_List_GChoice.mono) hstore le1_2).2.1 (by omega) rfl (R_List_GChoice.c0 ((SlD.mono (rep:=R_List_GChoice.rep) (fun _ _ _ _=>R_List_GChoice.mono) hstore le1_2).2.2 i_27 (by omega))).1) ?_;have hd78_0:=(R_List_GChoice.c0 ((SlD.mono (rep:=R_List_GChoice.rep) (fun _ _ _ _=>R_List_GChoice.mono) hstore le1_2).2.2 i_27 (by omega))).2;haveI:=hd78_0.oneC;refine TL.y (Yv.ar rfl rfl hd78_0 (List.length_map _)) ?_;have hm79:(nth store i_27).length≤9223372036854775807:=(List.length_map _)▸hd78_0.max;refine TL.run 1 rfl ?_;refine TL.ns ?_;refine T.cond rfl (fun h29=>?_) (fun h29=>?_)
      ·have p29:=of_decide_eq_true h29;replace hk:=zab hk h29;refine T.sr ?_;refine TL.run 2 rfl ?_;refine TL.ns (T.ret (K.ag (K.aa (K.aa (K.ag (K.aa ?_))))));obtain rfl:=Option.some.inj hk;exact K.aN rfl rfl rfl (fun w' hw=>⟨((.slice none 0 0),[]),F2.toFrz,(SlD.nil _ _ 2),rfl,Fx.of hw (i:=0) rfl hS0 le1_2⟩)
      ·have p29:=of_decide_eq_false h29;replace hk:=zaa hk h29;refine T.skip (K.ad (K.seq (T.region ?_)));refine TL.run 1 rfl ?_;refine TL.y (Yv.an rfl rfl rfl (by omega)) ?_;refine TL.run 1 rfl ?_;refine TL.nil ?_;rw [←hn26] at hk;exact K.next (i_27+1) hk (by omega) (.c (.c (.c .nil))) (List.Sublist.refl _)
     ·have p28:=of_decide_eq_false h28;rw [zas (by omega),←hkk26] at hk; (try dsimp only at hk);refine T.exit (K.ab (K.ab (K.ae ?_)));exact K.aj () hk (.c .nil) (List.Sublist.refl _)
   ·rintro _ hk;rw [←hk25] at hk; (try dsimp only at hk);refine T.sr ?_;refine TL.run 3 rfl ?_;refine TL.ns (T.ret ?_);obtain rfl:=Option.some.inj hk;exact K.aN rfl rfl rfl (fun w' hw=>⟨(vd_1,cd_1),F2.toFrz,hd_1,rfl,Fx.of hw (i:=0) rfl hS0 le1_2⟩)
def zcQ (fuel:Nat)(p:GProblem)(store:List (List GChoice))(l:List GChoice):Option (List GDomain×Bool):=
 zax (fun (d_1:List GDomain)=>
  (zby fuel p store d_1).bind fun r33=>
  some (r33.1,r33.2))
 (fun k2=>
  zai (fun (i_5:Nat) (next4:List GDomain→Option (List GDomain×Bool)) (d_3:List GDomain)=>
   (zbE d_3 ((nth l i_5).Station) ((nth l i_5).Channel)).bind fun r29=>
   next4 r29)
  (fun (d_3:List GDomain)=>
   k2 d_3) (l.length - 0) 0 p.Domains)
theorem zie (F0:Frz)(w:World)(hF0:F0.At w)(p:GProblem)(vp_0:Value)(cp_0:List (List Value))(hp_0:SlD GDomain.rep F0 vp_0 2 cp_0 p.Domains)(vp_1:Value)(hp_1:SlC F0 vp_1 5 (p.Rules.Pairs.map GPair.enc))(vp_2:Value)(hp_2:SlC F0 vp_2 5 (p.Rules.Loads.map GLoad.enc))(vp_3:Value)(hp_3:SlC F0 vp_3 4 (p.Rules.Caps.map GCap.enc))(store:List (List GChoice))(vstore:Value)(cstore:List (List Value))(hstore:SlD R_List_GChoice.rep F0 vstore 1 cstore store)(l:List GChoice)(vl:Value)(hl:SlC F0 vl 2 (l.map GChoice.enc))(fuel:Nat)(r:List GDomain×Bool)(hr:zcQ fuel p store l=some r):Calls Tryz.prog 22 #[.agg [vp_0,vp_1,vp_2,vp_3].toArray,vstore,vl] w fun e w'=>∃(y:Value×List (List Value)) (G:Frz),(SlD GDomain.rep G y.1 2 y.2 r.1)∧e= .returned (.tuple #[y.1, .bool r.2])∧Fx F0 w G w':=by
 have hk:=hr;unfold zcQ at hk;haveI:=hp_0.1.oneC;haveI:=hp_1.oneC;haveI:=hp_2.oneC;haveI:=hp_3.oneC;haveI:=hstore.1.oneC;haveI:=hl.oneC;obtain ⟨S0,F1,rfl,hS0,hp0⟩:=zan hF0;refine zac Tryz.func22 rfl rfl rfl hp0 ?_;refine T.sr ?_;refine TL.e (Ew.aA rfl rfl) ?_;rintro _ _ ⟨g3,rfl,rfl⟩;refine TL.run 2 rfl ?_;refine TL.nx ?_;refine TL.y (Yv.fieldAddr rfl rfl) ?_;refine TL.y (Yv.ac 0 rfl rfl rfl rfl) ?_;refine TL.run 1 rfl ?_;refine TL.ns (T.seq (T.sr ?_));refine TL.run 1 rfl ?_;refine TL.ns ?_;have hq:=zae hk;clear hk;obtain ⟨k2,hk2,hk⟩:=hq; (try dsimp only at hk);refine T.al (ι:=List GDomain×Value×List (List Value)×FzB w (fun _=>False) S0) (fun z=>[(1,vstore),(3, .pointer (some ⟨g3,0,none⟩)),(8,z.2.1)]) (fun z=>[.row g3 29 [vp_0,vp_1,vp_2,vp_3], .fr z.2.2.2]) (fun z=>k2 z.1=some r∧SlD GDomain.rep z.2.2.2.toFrz z.2.1 2 z.2.2.1 z.1∧F1.toFrz.Le z.2.2.2.toFrz) ?_ ?_
 ·have hq:=zaj hk;clear hk;obtain ⟨f4,kk4,hf4,hkk4,hk⟩:=hq;refine T.block ?_;refine T.loop (ι:=Nat×List GDomain×Value×List (List Value)×FzB w (fun _=>False) S0) (fun z=>[(1,vstore),(2,vl),(3, .pointer (some ⟨g3,0,none⟩)),(8,z.2.2.1),(9, .int .i64 (z.1:Int))]) (fun z=>[.row g3 29 [vp_0,vp_1,vp_2,vp_3], .fr z.2.2.2.2]) (fun z=>zai f4 kk4 (l.length - z.1) z.1 z.2.1=some r∧SlD GDomain.rep z.2.2.2.2.toFrz z.2.2.1 2 z.2.2.2.1 z.2.1∧F1.toFrz.Le z.2.2.2.2.toFrz) (fun z=>l.length - z.1) (0,p.Domains,vp_0,cp_0,F1) ?_ ?_ ?_ ?_
  ·exact ⟨hk,hp_0,(Frz.Le.refl _)⟩
  ·exact (.c (.c (.c (.c (.c .nil)))))
  ·exact List.Sublist.refl _
  ·rintro ⟨i_5,d_3,vd_3,cd_3,F3⟩ ⟨hk,hd_3,le1_3⟩; (try dsimp only at *);haveI:=hd_3.1.oneC;refine T.seq (T.sr ?_);refine TL.run 2 rfl ?_;refine TL.y (Yv.ar rfl rfl (SlC.mono hl le1_3) (List.length_map _)) ?_;have hm14:l.length≤9223372036854775807:=(List.length_map _)▸(SlC.mono hl le1_3).max;refine TL.run 1 rfl ?_;refine TL.ns ?_;refine T.cond rfl (fun h6=>?_) (fun h6=>?_)
   ·have p6:=of_decide_eq_true h6;rw [zar (by omega)] at hk;generalize hn4:zai f4 kk4 (l.length - (i_5+1)) (i_5+1)=next4 at hk;rw [←hf4] at hk; (try dsimp only at hk);refine T.skip (K.seq (T.seq (T.block ?_)));have hq:=zal hk;clear hk;obtain ⟨r29,hr29,hk⟩:=hq; (try dsimp only at hk);refine T.as (.still 0 (.still 1 (.still 2 (.still 3 (.still 4 (.still 5 (.still 6 (.still 7 (.still 8 (.still 9 (.still 10 (.eff 11 (.still 12 .done))))))))))))) _ (by kernel_rfl) (List.Sublist.refl _) ?_;refine TS.run 3 rfl ?_;refine TS.y rfl (Yv.ao (i:=i_5) rfl rfl rfl (SlC.mono hl le1_3) (List.length_map _) rfl (by omega)) ?_;refine TS.y rfl (Yv.aG rfl rfl (SlC.mono hl le1_3) (List.length_map _) (by omega)) ?_;refine TS.y rfl (Yv.az 1 (i:=i_5) (j:=0) rfl rfl rfl (SlC.mono hl le1_3) (by omega) rfl rfl) ?_;refine TS.run 2 rfl ?_;refine TS.y rfl (Yv.ao (i:=i_5) rfl rfl rfl (SlC.mono hl le1_3) (List.length_map _) rfl (by omega)) ?_;refine TS.y rfl (Yv.aG rfl rfl (SlC.mono hl le1_3) (List.length_map _) (by omega)) ?_;refine TS.y rfl (Yv.az 1 (i:=i_5) (j:=1) rfl rfl rfl (SlC.mono hl le1_3) (by omega) rfl rfl) ?_;refine TS.eff ?_;refine TSo.aD rfl (Wt.none rfl) rfl rfl (Ew.aS 1 rfl rfl rfl rfl (fun w hw hF=>zgR _ w hF d_3 vd_3 cd_3 hd_3 ((nth l i_5).Station) ((nth l i_5).Channel) r29 hr29)) ?_;rintro _ _ ⟨⟨v29_0_0,cs29_0_0⟩,F4,le3_4,hf29_0_0,hq,rfl⟩;obtain rfl:=hq.symm;dsimp only at hf29_0_0 ⊢;have le1_4:=le1_3.trans le3_4;haveI:=hf29_0_0.1.oneC;refine ⟨(fun w hw=>(hw.frLe (i:=1) rfl le3_4).sub Sx),?_⟩;refine TS.run 1 rfl ?_;refine TS.done ?_;refine K.ad (K.seq (T.region ?_));refine TL.run 1 rfl ?_;refine TL.y (Yv.an rfl rfl rfl (by omega)) ?_;refine TL.run 1 rfl ?_;refine TL.nil ?_;rw [←hn4] at hk;exact K.next ((i_5+1),r29,v29_0_0,cs29_0_0,F4) ⟨hk,hf29_0_0,le1_4⟩ (by dsimp only;omega) (.c (.c (.c (.c (.c .nil))))) (List.Sublist.refl _)
   ·have p6:=of_decide_eq_false h6;rw [zas (by omega),←hkk4] at hk; (try dsimp only at hk);refine T.exit (K.ab (K.ab (K.ae ?_)));exact K.aj (d_3,vd_3,cd_3,F3) ⟨hk,hd_3,le1_3⟩ (.c (.c (.c .nil))) (List.Sublist.refl _)
 ·rintro ⟨d_1,vd_1,cd_1,F2⟩ ⟨hk,hd_1,le1_2⟩; (try dsimp only at *);rw [←hk2] at hk; (try dsimp only at hk);haveI:=hd_1.1.oneC;refine T.seq ?_;have hq:=zal hk;clear hk;obtain ⟨r33,hr33,hk⟩:=hq; (try dsimp only at hk);refine T.region ?_;refine TL.y (Yv.am 0 rfl rfl rfl rfl) ?_;refine TL.run 2 rfl ?_;refine TL.e (Ew.aS 1 rfl rfl rfl rfl (fun w hw hF=>zeI _ w hF p vp_0 cp_0 (SlD.mono (rep:=GDomain.rep) (fun _ _ _ _=>GDomain.mono) hp_0 le1_2) vp_1 (SlC.mono hp_1 le1_2) vp_2 (SlC.mono hp_2 le1_2) vp_3 (SlC.mono hp_3 le1_2) store vstore cstore (SlD.mono (rep:=R_List_GChoice.rep) (fun _ _ _ _=>R_List_GChoice.mono) hstore le1_2) d_1 vd_1 cd_1 hd_1 fuel r33 hr33)) ?_;rintro _ _ ⟨⟨v33_0_0,cs33_0_0⟩,F5,le2_5,hf33_0_0,rfl,rfl⟩;dsimp only at hf33_0_0 ⊢;have le1_5:=le1_2.trans le2_5;haveI:=hf33_0_0.1.oneC;refine TL.run 4 rfl ?_;refine TL.ns (T.ret ?_);obtain rfl:=Option.some.inj hk;exact K.aN rfl rfl rfl (fun w' hw=>⟨(v33_0_0,cs33_0_0),F5.toFrz,hf33_0_0,rfl,Fx.of hw (i:=1) rfl hS0 le1_5⟩)
def zca (p:GProblem)(g_:List GChoice):Option Bool:=
 (zbV p).bind fun r8=>
 (bif ((!r8)||(!(zaS g_))) then
  some false
  else
  zax (fun (_:Unit)=>
   some true)
  (fun k3=>
   zai (fun (i_5:Nat) (next4:Unit→Option Bool) (_:Unit)=>
    zax (fun (x_7:Bool)=>
     (bif x_7 then
      some false
      else
      next4 ()))
    (fun k8=>
     (bif decide ((zad p ((nth g_ i_5).Station))<0) then
      k8 true
      else
      grd (0≤(zad p ((nth g_ i_5).Station))∧(zad p ((nth g_ i_5).Station))<(p.Domains.length:Int)) <|
      k8 (!(zbF ((nth p.Domains ((zad p ((nth g_ i_5).Station)).toNat)).Channels) ((nth g_ i_5).Channel))))))
   (fun (_:Unit)=>
    k3 ()) (g_.length - 0) 0 ()))
theorem zgk (F0:Frz)(w:World)(hF0:F0.At w)(p:GProblem)(vp_0:Value)(cp_0:List (List Value))(hp_0:SlD GDomain.rep F0 vp_0 2 cp_0 p.Domains)(vp_1:Value)(hp_1:SlC F0 vp_1 5 (p.Rules.Pairs.map GPair.enc))(vp_2:Value)(hp_2:SlC F0 vp_2 5 (p.Rules.Loads.map GLoad.enc))(vp_3:Value)(hp_3:SlC F0 vp_3 4 (p.Rules.Caps.map GCap.enc))(g_:List GChoice)(vg_:Value)(hg_:SlC F0 vg_ 2 (g_.map GChoice.enc))(r:Bool)(hr:zca p g_=some r):Calls Tryz.prog 24 #[.agg [vp_0,vp_1,vp_2,vp_3].toArray,vg_] w fun e w'=>e= .returned (.bool r)∧Below w.heap.size w w':=by
 have hk:=hr;unfold zca at hk;haveI:=hp_0.1.oneC;haveI:=hp_1.oneC;haveI:=hp_2.oneC;haveI:=hp_3.oneC;haveI:=hg_.oneC;obtain ⟨S0,F1,rfl,hS0,hp0⟩:=zan hF0;refine zac Tryz.func24 rfl rfl rfl hp0 ?_;refine T.sr ?_;refine TL.e (Ew.aA rfl rfl) ?_;rintro _ _ ⟨g2,rfl,rfl⟩;refine TL.run 1 rfl ?_;refine TL.ns (T.seq (T.seq ?_));have hq:=zal hk;clear hk;obtain ⟨r8,hr8,hk⟩:=hq; (try dsimp only at hk);refine T.al (ι:=Unit) (fun z=>[(1,vg_),(2, .pointer (some ⟨g2,0,none⟩)),(14, .bool ((!r8)||(!(zaS g_))))]) (fun z=>[.row g2 29 [vp_0,vp_1,vp_2,vp_3], .fr F1]) (fun z=>True) ?_ ?_
 ·refine T.region ?_;refine TL.y (Yv.am 0 rfl rfl rfl rfl) ?_;refine TL.e (Ew.af rfl rfl rfl (fun w hw=>zeg _ w (hw.fr (i:=1) rfl) p vp_0 cp_0 hp_0 vp_1 hp_1 vp_2 hp_2 vp_3 hp_3 r8 hr8)) ?_;rintro _ _ ⟨rfl,rfl⟩;refine TL.run 2 rfl ?_;refine TL.gs rfl rfl rfl (fun h1=>?_) (fun h1=>?_)
  ·refine TL.run 4 rfl ?_;refine TL.nil ?_;exact K.aj () trivial (.c (.c (.b (zbN h1).symm .nil))) (List.Sublist.refl _)
  ·refine TL.run 1 rfl ?_;refine TL.e (Ew.af rfl rfl rfl (fun w hw=>zc8 _ w (hw.fr (i:=1) rfl) g_ vg_ hg_)) ?_;rintro _ _ ⟨rfl,rfl⟩;refine TL.run 2 rfl ?_;refine TL.nil ?_;exact K.aj () trivial (.c (.c (.b (or_f h1) .nil))) (List.Sublist.refl _)
 ·rintro _ _;refine T.cond rfl (fun h2=>?_) (fun h2=>?_)
  ·replace hk:=zab hk h2;refine T.sr ?_;refine TL.run 1 rfl ?_;refine TL.ns (T.ret (K.aa ?_));obtain rfl:=Option.some.inj hk;exact K.ah rfl rfl (fun w' hw=>⟨rfl,hw.isBelow⟩)
  ·replace hk:=zaa hk h2;refine T.skip (K.seq (T.seq (T.sr ?_)));refine TL.run 1 rfl ?_;refine TL.ns ?_;have hq:=zae hk;clear hk;obtain ⟨k3,hk3,hk⟩:=hq; (try dsimp only at hk);refine T.al (ι:=Unit) (fun z=>[]) (fun z=>[.fr F1]) (fun z=>k3 ()=some r) ?_ ?_
   ·have hq:=zaj hk;clear hk;obtain ⟨f4,kk4,hf4,hkk4,hk⟩:=hq;refine T.block ?_;refine T.loop (ι:=Nat) (fun z=>[(1,vg_),(2, .pointer (some ⟨g2,0,none⟩)),(5, .int .i64 (z:Int))]) (fun z=>[.row g2 29 [vp_0,vp_1,vp_2,vp_3], .fr F1]) (fun z=>zai f4 kk4 (g_.length - z) z ()=some r) (fun z=>g_.length - z) 0 ?_ ?_ ?_ ?_
    ·exact hk
    ·exact (.c (.c (.c .nil)))
    ·exact List.Sublist.refl _
    ·rintro i_5 hk;refine T.seq (T.sr ?_);refine TL.run 2 rfl ?_;refine TL.y (Yv.ar rfl rfl hg_ (List.length_map _)) ?_;have hm17:g_.length≤9223372036854775807:=(List.length_map _)▸hg_.max;refine TL.run 1 rfl ?_;refine TL.ns ?_;refine T.cond rfl (fun h6=>?_) (fun h6=>?_)
     ·have p6:=of_decide_eq_true h6;rw [zar (by omega)] at hk;generalize hn4:zai f4 kk4 (g_.length - (i_5+1)) (i_5+1)=next4 at hk;rw [←hf4] at hk; (try dsimp only at hk);refine T.skip (K.seq (T.seq (T.block (T.seq ?_))));refine T.as (.still 0 (.still 1 (.still 2 (.still 3 (.still 4 (.still 5 (.eff 6 (.still 7 .done)))))))) _ (by kernel_rfl) (List.Sublist.refl _) ?_;refine TS.y rfl (Yv.am 0 rfl rfl rfl rfl) ?_;refine TS.run 2 rfl ?_;refine TS.y rfl (Yv.ao (i:=i_5) rfl rfl rfl hg_ (List.length_map _) rfl (by omega)) ?_;refine TS.y rfl (Yv.aG rfl rfl hg_ (List.length_map _) (by omega)) ?_;refine TS.y rfl (Yv.az 1 (i:=i_5) (j:=0) rfl rfl rfl hg_ (by omega) rfl rfl) ?_;refine TS.eff ?_;refine TSo.aD rfl (Wt.none rfl) rfl rfl (Ew.af rfl rfl rfl (fun w hw=>zbT _ w (hw.fr (i:=1) rfl) p vp_0 cp_0 hp_0 vp_1 hp_1 vp_2 hp_2 vp_3 hp_3 ((nth g_ i_5).Station))) ?_;rintro _ _ ⟨rfl,rfl⟩;refine ⟨(fun w hw=>hw.sub Sx),?_⟩;refine TS.run 1 rfl ?_;refine TS.done ?_;refine K.seq (T.seq ?_); (try dsimp only at hk);have hq:=zae hk;clear hk;obtain ⟨k8,hk8,hk⟩:=hq; (try dsimp only at hk);refine T.al (ι:=Bool) (fun z=>[(1,vg_),(2, .pointer (some ⟨g2,0,none⟩)),(5, .int .i64 (i_5:Int)),(44, .bool z)]) (fun z=>[.row g2 29 [vp_0,vp_1,vp_2,vp_3], .fr F1]) (fun z=>k8 z=some r) ?_ ?_
      ·refine T.as (.still 0 (.still 1 (.still 2 (.still 3 (.still 4 (.still 5 (.still 6 (.still 7 (.still 8 (.still 9 (.still 10 (.still 11 (.still 12 (.still 13 (.eff 14 (.still 15 (.still 16 .done))))))))))))))))) _ (by kernel_rfl) (List.Sublist.refl _) ?_;refine TS.run 3 rfl ?_;refine TS.gs rfl rfl rfl rfl (fun h9=>?_) (fun h9=>?_)
       ·have p9:=of_decide_eq_true h9;replace hk:=zab hk h9;refine TS.run 11 rfl ?_;refine TS.eff ?_;refine TSo.off rfl (Wt.not rfl rfl rfl rfl) rfl rfl ?_;refine TS.run 2 rfl ?_;refine TS.done ?_;exact K.aj true hk (.c (.c (.c (.c .nil)))) (List.Sublist.refl _)
       ·have p9:=of_decide_eq_false h9;replace hk:=zaa hk h9;refine TS.y rfl (Yv.fieldAddr rfl rfl) ?_;refine TS.y rfl (Yv.ac 0 rfl rfl rfl rfl) ?_;refine TS.run 1 rfl ?_;have hq:(0≤(zad p ((nth g_ i_5).Station))∧(zad p ((nth g_ i_5).Station))<(p.Domains.length:Int))∧_:=zaE hk;clear hk;obtain ⟨g34,hk⟩:=hq;refine TS.y rfl (Yv.ao (i:=(zad p ((nth g_ i_5).Station)).toNat) rfl rfl rfl hp_0.1 hp_0.2.1 (by omega) (by omega)) ?_;refine TS.y rfl (Yv.aG rfl rfl hp_0.1 hp_0.2.1 (by omega)) ?_;refine TS.y rfl (Yv.loadR 1 (i:=(zad p ((nth g_ i_5).Station)).toNat) (j:=1) rfl rfl rfl hp_0.1 hp_0.2.1 (by omega) rfl (GDomain.c1 (hp_0.2.2 ((zad p ((nth g_ i_5).Station)).toNat) (by omega))).1) ?_;have hd36_1:=(GDomain.c1 (hp_0.2.2 ((zad p ((nth g_ i_5).Station)).toNat) (by omega))).2;haveI:=hd36_1.oneC;refine TS.run 2 rfl ?_;refine TS.y rfl (Yv.ao (i:=i_5) rfl rfl rfl hg_ (List.length_map _) rfl (by omega)) ?_;refine TS.y rfl (Yv.aG rfl rfl hg_ (List.length_map _) (by omega)) ?_;refine TS.y rfl (Yv.az 1 (i:=i_5) (j:=1) rfl rfl rfl hg_ (by omega) rfl rfl) ?_;refine TS.eff ?_;refine TSo.aD rfl (Wt.some rfl rfl rfl rfl) rfl rfl (Ew.af rfl rfl rfl (fun w hw=>zfu _ w (hw.fr (i:=1) rfl) ((nth p.Domains ((zad p ((nth g_ i_5).Station)).toNat)).Channels) (nth (nth cp_0 ((zad p ((nth g_ i_5).Station)).toNat)) 1) hd36_1 ((nth g_ i_5).Channel))) ?_;rintro _ _ ⟨rfl,rfl⟩;refine ⟨(fun w hw=>hw.sub Sx),?_⟩;refine TS.run 2 rfl ?_;refine TS.done ?_;exact K.aj (!(zbF ((nth p.Domains ((zad p ((nth g_ i_5).Station)).toNat)).Channels) ((nth g_ i_5).Channel))) hk (.c (.c (.c (.c .nil)))) (List.Sublist.refl _)
      ·rintro x_7 hk;rw [←hk8] at hk; (try dsimp only at hk);refine T.cond rfl (fun h10=>?_) (fun h10=>?_)
       ·replace hk:=zab hk h10;refine T.sr ?_;refine TL.run 1 rfl ?_;refine TL.ns (T.ret (K.ag (K.aa (K.aa (K.ag (K.aa ?_))))));obtain rfl:=Option.some.inj hk;exact K.ah rfl rfl (fun w' hw=>⟨rfl,hw.isBelow⟩)
       ·replace hk:=zaa hk h10;refine T.skip (K.ad (K.seq (T.region ?_)));refine TL.run 1 rfl ?_;refine TL.y (Yv.an rfl rfl rfl (by omega)) ?_;refine TL.run 1 rfl ?_;refine TL.nil ?_;rw [←hn4] at hk;exact K.next (i_5+1) hk (by omega) (.c (.c (.c .nil))) (List.Sublist.refl _)
     ·have p6:=of_decide_eq_false h6;rw [zas (by omega),←hkk4] at hk; (try dsimp only at hk);refine T.exit (K.ab (K.ab (K.ae ?_)));refine K.pick [1] rfl (by decide) ?_;exact K.aj () hk .nil (List.Sublist.refl _)
   ·rintro _ hk;rw [←hk3] at hk; (try dsimp only at hk);refine T.sr ?_;refine TL.run 1 rfl ?_;refine TL.ns (T.ret ?_);obtain rfl:=Option.some.inj hk;exact K.ah rfl rfl (fun w' hw=>⟨rfl,hw.isBelow⟩)
def zbU (a:List (List GChoice))(b:List (List GChoice)):Bool:=
 (bif decide (¬(a.length:Int)=(b.length:Int)) then
  false
  else
  zax (fun (_:Unit)=>
   true)
  (fun k2=>
   zai (fun (i_4:Nat) (next3:Unit→Bool) (_:Unit)=>
    (bif !(zbl (nth a i_4) (nth b i_4)) then
     false
     else
     next3 ()))
   (fun (_:Unit)=>
    k2 ()) (a.length - 0) 0 ()))
theorem zhn (F0:Frz)(w:World)(hF0:F0.At w)(a:List (List GChoice))(va:Value)(ca:List (List Value))(ha:SlD R_List_GChoice.rep F0 va 1 ca a)(b:List (List GChoice))(vb:Value)(cb:List (List Value))(hb:SlD R_List_GChoice.rep F0 vb 1 cb b):Calls Tryz.prog 33 #[va,vb] w fun e w'=>e= .returned (.bool (zbU a b))∧Below w.heap.size w w':=by
 obtain ⟨r,hk⟩:∃r,zbU a b=r:=⟨_,rfl⟩;rw [hk];unfold zbU at hk;haveI:=ha.1.oneC;haveI:=hb.1.oneC;obtain ⟨S0,F1,rfl,hS0,hp0⟩:=zan hF0;refine zac Tryz.func33 rfl rfl rfl hp0 ?_;refine T.sr ?_;refine TL.run 1 rfl ?_;refine TL.ns (T.seq (T.sr ?_));refine TL.run 1 rfl ?_;refine TL.y (Yv.ar rfl rfl ha.1 ha.2.1) ?_;have hm7:a.length≤9223372036854775807:=ha.2.1▸ha.1.max;refine TL.run 1 rfl ?_;refine TL.y (Yv.ar rfl rfl hb.1 hb.2.1) ?_;have hm9:b.length≤9223372036854775807:=hb.2.1▸hb.1.max;refine TL.run 1 rfl ?_;refine TL.ns ?_;refine T.cond rfl (fun h1=>?_) (fun h1=>?_)
 ·have p1:=of_decide_eq_true h1;replace hk:=zab hk h1;refine T.sr ?_;refine TL.run 1 rfl ?_;refine TL.ns (T.ret (K.aa ?_));subst hk;exact K.ah rfl rfl (fun w' hw=>⟨rfl,hw.isBelow⟩)
 ·have p1:=of_decide_eq_false h1;replace hk:=zaa hk h1;refine T.skip (K.seq (T.seq (T.sr ?_)));refine TL.run 1 rfl ?_;refine TL.ns ?_;have hq:=zae hk;clear hk;obtain ⟨k2,hk2,hk⟩:=hq; (try dsimp only at hk);refine T.al (ι:=Unit) (fun z=>[]) (fun z=>[.fr F1]) (fun z=>k2 ()=r) ?_ ?_
  ·have hq:=zaj hk;clear hk;obtain ⟨f3,kk3,hf3,hkk3,hk⟩:=hq;refine T.block ?_;refine T.loop (ι:=Nat) (fun z=>[(0,va),(1,vb),(5, .int .i64 (z:Int))]) (fun z=>[.fr F1]) (fun z=>zai f3 kk3 (a.length - z) z ()=r) (fun z=>a.length - z) 0 ?_ ?_ ?_ ?_
   ·exact hk
   ·exact (.c (.c (.c .nil)))
   ·exact List.Sublist.refl _
   ·rintro i_4 hk;refine T.seq (T.sr ?_);refine TL.run 2 rfl ?_;refine TL.y (Yv.ar rfl rfl ha.1 ha.2.1) ?_;refine TL.run 1 rfl ?_;refine TL.ns ?_;refine T.cond rfl (fun h5=>?_) (fun h5=>?_)
    ·have p5:=of_decide_eq_true h5;rw [zar (by omega)] at hk;generalize hn3:zai f3 kk3 (a.length - (i_4+1)) (i_4+1)=next3 at hk;rw [←hf3] at hk; (try dsimp only at hk);refine T.skip (K.seq (T.seq (T.block (T.seq ?_))));refine T.as (.still 0 (.still 1 (.still 2 (.still 3 (.still 4 (.still 5 (.still 6 (.still 7 (.eff 8 (.still 9 .done)))))))))) _ (by kernel_rfl) (List.Sublist.refl _) ?_;refine TS.run 2 rfl ?_;refine TS.y rfl (Yv.ao (i:=i_4) rfl rfl rfl ha.1 ha.2.1 rfl (by omega)) ?_;refine TS.y rfl (Yv.loadR 0 (i:=i_4) (j:=0) rfl rfl rfl ha.1 ha.2.1 (by omega) rfl (R_List_GChoice.c0 (ha.2.2 i_4 (by omega))).1) ?_;have hd20_0:=(R_List_GChoice.c0 (ha.2.2 i_4 (by omega))).2;haveI:=hd20_0.oneC;refine TS.run 2 rfl ?_;refine TS.y rfl (Yv.ao (i:=i_4) rfl rfl rfl hb.1 hb.2.1 rfl (by omega)) ?_;refine TS.y rfl (Yv.loadR 0 (i:=i_4) (j:=0) rfl rfl rfl hb.1 hb.2.1 (by omega) rfl (R_List_GChoice.c0 (hb.2.2 i_4 (by omega))).1) ?_;have hd24_0:=(R_List_GChoice.c0 (hb.2.2 i_4 (by omega))).2;haveI:=hd24_0.oneC;refine TS.eff ?_;refine TSo.aD rfl (Wt.none rfl) rfl rfl (Ew.af rfl rfl rfl (fun w hw=>ze1 _ w (hw.fr (i:=0) rfl) (nth a i_4) (nth (nth ca i_4) 0) hd20_0 (nth b i_4) (nth (nth cb i_4) 0) hd24_0)) ?_;rintro _ _ ⟨rfl,rfl⟩;refine ⟨(fun w hw=>hw.sub Sx),?_⟩;refine TS.run 1 rfl ?_;refine TS.done ?_;refine K.seq ?_;refine T.cond rfl (fun h6=>?_) (fun h6=>?_)
     ·replace hk:=zab hk h6;refine T.sr ?_;refine TL.run 1 rfl ?_;refine TL.ns (T.ret (K.ag (K.aa (K.aa (K.ag (K.aa ?_))))));subst hk;exact K.ah rfl rfl (fun w' hw=>⟨rfl,hw.isBelow⟩)
     ·replace hk:=zaa hk h6;refine T.skip (K.ad (K.seq (T.region ?_)));refine TL.run 1 rfl ?_;refine TL.y (Yv.an rfl rfl rfl (by omega)) ?_;refine TL.run 1 rfl ?_;refine TL.nil ?_;rw [←hn3] at hk;exact K.next (i_4+1) hk (by omega) (.c (.c (.c .nil))) (List.Sublist.refl _)
    ·have p5:=of_decide_eq_false h5;rw [zas (by omega),←hkk3] at hk; (try dsimp only at hk);refine T.exit (K.ab (K.ab (K.ae ?_)));exact K.aj () hk .nil (List.Sublist.refl _)
  ·rintro _ hk;rw [←hk2] at hk; (try dsimp only at hk);refine T.sr ?_;refine TL.run 1 rfl ?_;refine TL.ns (T.ret ?_);subst hk;exact K.ah rfl rfl (fun w' hw=>⟨rfl,hw.isBelow⟩)
def zcb (fuel:Nat)(l:List (List GChoice))(most:Int):Option Bool:=
 zax (fun (_:Unit)=>
  some (decide ((l.length:Int)≤most)))
 (fun k1=>
  zbd (fun (next3:Int→Option Bool) (i_2:Int)=>
   (bif ((decide (i_2<(l.length:Int)))&&(decide (i_2≤most))) then
    grd (0≤i_2∧i_2<(l.length:Int)) <|
    (bif decide (20<((nth l i_2.toNat).length:Int)) then
     some false
     else
     next3 (i_2+1))
    else
    k1 ())) fuel 0)
theorem zgA (F0:Frz)(w:World)(hF0:F0.At w)(l:List (List GChoice))(vl:Value)(cl:List (List Value))(hl:SlD R_List_GChoice.rep F0 vl 1 cl l)(most:Int)(fuel:Nat)(r:Bool)(hr:zcb fuel l most=some r):Calls Tryz.prog 34 #[vl, .int .i64 most] w fun e w'=>e= .returned (.bool r)∧Below w.heap.size w w':=by
 have hk:=hr;unfold zcb at hk;haveI:=hl.1.oneC;obtain ⟨S0,F1,rfl,hS0,hp0⟩:=zan hF0;refine zac Tryz.func34 rfl rfl rfl hp0 ?_;refine T.sr ?_;refine TL.run 1 rfl ?_;refine TL.ns (T.seq (T.sr ?_));refine TL.run 1 rfl ?_;refine TL.ns ?_;have hq:=zae hk;clear hk;obtain ⟨k1,hk1,hk⟩:=hq; (try dsimp only at hk);refine T.al (ι:=Unit) (fun z=>[(0,vl),(1, .int .i64 most)]) (fun z=>[.fr F1]) (fun z=>k1 ()=some r) ?_ ?_
 ·have hq:=zb3 hk;clear hk;obtain ⟨f3,hf3,hk⟩:=hq;refine T.block ?_;refine T.loop (ι:=Nat×Int) (fun z=>[(0,vl),(1, .int .i64 most),(5, .int .i64 z.2)]) (fun z=>[.fr F1]) (fun z=>zbd f3 z.1 z.2=some r) (fun z=>z.1) (fuel,0) ?_ ?_ ?_ ?_
  ·exact hk
  ·exact (.c (.c (.c .nil)))
  ·exact List.Sublist.refl _
  ·rintro ⟨m_4,i_2⟩ hk; (try dsimp only at *);have hq:=zco hk;clear hk;obtain ⟨m_4',rfl,hk⟩:=hq;generalize hn3:zbd f3 m_4'=next3 at hk;rw [←hf3] at hk; (try dsimp only at hk);refine T.seq (T.seq ?_);refine T.al (ι:=Unit) (fun z=>[(0,vl),(1, .int .i64 most),(5, .int .i64 i_2),(14, .bool ((decide (i_2<(l.length:Int)))&&(decide (i_2≤most))))]) (fun z=>[.fr F1]) (fun z=>True) ?_ ?_
   ·refine T.region ?_;refine TL.run 2 rfl ?_;refine TL.y (Yv.ar rfl rfl hl.1 hl.2.1) ?_;have hm8:l.length≤9223372036854775807:=hl.2.1▸hl.1.max;refine TL.run 2 rfl ?_;refine TL.gs rfl rfl rfl (fun h5=>?_) (fun h5=>?_)
    ·have p5:=of_decide_eq_true h5;refine TL.run 4 rfl ?_;refine TL.nil ?_;exact K.aj () trivial (.c (.c (.c (.b (zdi h5) .nil)))) (List.Sublist.refl _)
    ·have p5:=of_decide_eq_false h5;refine TL.run 4 rfl ?_;refine TL.nil ?_;exact K.aj () trivial (.c (.c (.c (.b (zaJ h5).symm .nil)))) (List.Sublist.refl _)
   ·rintro _ _;have hm8:l.length≤9223372036854775807:=hl.2.1▸hl.1.max;refine T.cond rfl (fun h6=>?_) (fun h6=>?_)
    ·have p6:=h6; (try simp only [nfB] at p6);replace hk:=zab hk h6;refine T.skip (K.seq (T.seq (T.block (T.seq ?_))));have hq:(0≤i_2∧i_2<(l.length:Int))∧_:=zaE hk;clear hk;obtain ⟨g19,hk⟩:=hq; (try dsimp only at hk);refine T.region ?_;refine TL.run 2 rfl ?_;refine TL.y (Yv.ao (i:=i_2.toNat) rfl rfl rfl hl.1 hl.2.1 (by omega) (by omega)) ?_;refine TL.y (Yv.loadR 0 (i:=i_2.toNat) (j:=0) rfl rfl rfl hl.1 hl.2.1 (by omega) rfl (R_List_GChoice.c0 (hl.2.2 i_2.toNat (by omega))).1) ?_;have hd20_0:=(R_List_GChoice.c0 (hl.2.2 i_2.toNat (by omega))).2;haveI:=hd20_0.oneC;refine TL.y (Yv.ar rfl rfl hd20_0 (List.length_map _)) ?_;have hm21:(nth l i_2.toNat).length≤9223372036854775807:=(List.length_map _)▸hd20_0.max;refine TL.run 1 rfl ?_;refine TL.ns ?_;refine T.cond rfl (fun h7=>?_) (fun h7=>?_)
     ·have p7:=of_decide_eq_true h7;replace hk:=zab hk h7;refine T.sr ?_;refine TL.run 1 rfl ?_;refine TL.ns (T.ret (K.ag (K.aa (K.aa (K.ag (K.aa ?_))))));obtain rfl:=Option.some.inj hk;exact K.ah rfl rfl (fun w' hw=>⟨rfl,hw.isBelow⟩)
     ·have p7:=of_decide_eq_false h7;replace hk:=zaa hk h7;refine T.skip (K.ad (K.seq (T.region ?_)));refine TL.run 1 rfl ?_;refine TL.y (Yv.an rfl rfl rfl (by omega)) ?_;refine TL.run 1 rfl ?_;refine TL.nil ?_;rw [←hn3] at hk;exact K.next (m_4',(i_2+1)) hk (by dsimp only;omega) (.c (.c (.c .nil))) (List.Sublist.refl _)
    ·replace hk:=zaa hk h6;refine T.exit (K.ab (K.ab (K.ae ?_)));exact K.aj () hk (.c (.c .nil)) (List.Sublist.refl _)
 ·rintro _ hk;rw [←hk1] at hk; (try dsimp only at hk);refine T.sr ?_;refine TL.run 1 rfl ?_;refine TL.y (Yv.ar rfl rfl hl.1 hl.2.1) ?_;have hm24:l.length≤9223372036854775807:=hl.2.1▸hl.1.max;refine TL.run 3 rfl ?_;refine TL.ns (T.ret ?_);obtain rfl:=Option.some.inj hk;exact K.ah rfl rfl (fun w' hw=>⟨rfl,hw.isBelow⟩)
section
variable {P:Program}{n:Nat}{B:World}{M:Nat→Prop}{fs:SFs}{hs:HS}{o:Oper}
theorem zcu {w:World}{v:Value}{e:TypeId}{size k:Nat}{l:List Value}(h:(Ent.sl v e size k l).ok w):k≤9223372036854775807:=by
 have ho:=Ent.sl_ok.1 h;rcases ho.2 with ⟨rfl,h0⟩|⟨g,cap,cur,rfl,hb,hg,hnc,hcm,hcs,htake⟩
 ·omega
 ·unfold maxLen at hcm;omega
theorem Ew.bE {t e:TypeId}{size bytes:Nat}{z:List Value}[hT:TyE P t e size bytes z](ho:o.op= .buildSlice t 0 #[]):Ew P n B M fs hs o (fun v hs'=>∃g,v= .slice (some ⟨g,0,none⟩) 0 0∧hs'= .sl (.slice (some ⟨g,0,none⟩) 0 0) e size 0 [] :: hs):=Ew.aW fun a w ha hp=>by
 obtain ⟨i,zv,hU,hi,hz,hzc,rfl,rfl,hzs,hpos⟩:=hT.get;refine ⟨_,w.alloc (.cells #[] e),_,?_,Kp.alloc w _,hp.fresh ((Below.refl _ _).alloc (Nat.le_refl _) _) (Ent.sl_ok.2 (World.ownsRow_made (base:=0) (e:=e) (size:=i.size) w #[] 0 (Nat.zero_le _) (by unfold maxLen;omega) (by simp))) (fun g hg=>?_),w.heap.size,rfl,rfl⟩
 ·unfold execOp;simp [ho,Instr.buildSlice,underlying,hU,sizeOf,typeInfo,hi,Instr.fill,newRow];rw [show Array.range 0= #[] from by simp [Array.range]];simp
 ·have:=Ent.sl_fp.1 hg;simp [Value.ownBlock] at this;omega
end
section
variable {Fe:Fence}[hFe:Calm Fe]{P:Program}{n:Nat}{B D:World}{M S0:Nat→Prop}{Q:Exit→Act→World→Prop}{fs:SFs}{hs:HS}{ops:Array Oper}
theorem TL.aZ {l:List Oper}{v:Value}{e:TypeId}{size k:Nat}{cs:List Value}(j:Nat)(hj:hs[j]?=some (.sl v e size k cs))(h:OneC v→k≤9223372036854775807→TL Fe P n B D M ops Q l fs hs):TL Fe P n B D M ops Q l fs hs:=
 TL.aX (ι:=Unit) (φ:=fun _=>OneC v∧k≤9223372036854775807) (hs':=fun _=>hs) (fun w hw=>⟨(),⟨zcG (hw.get hj),zcu (hw.get hj)⟩,hw⟩) (fun _ hx=>h hx.1 hx.2)
theorem TS.aZ {hs0:HS}{r:Ord}{v:Value}{e:TypeId}{size k:Nat}{cs:List Value}(j:Nat)(hj:hs[j]?=some (.sl v e size k cs))(h:OneC v→k≤9223372036854775807→TS Fe P n B D M ops Q hs0 r fs hs):TS Fe P n B D M ops Q hs0 r fs hs:=
 TS.aX (ι:=Unit) (φ:=fun _=>OneC v∧k≤9223372036854775807) (hs':=fun _=>hs) (fun w hw=>⟨(),⟨zcG (hw.get hj),zcu (hw.get hj)⟩,hw⟩) (fun _ hx=>h hx.1 hx.2)
end
theorem zeq (F0:Frz)(w:World)(hF0:F0.At w)(l:List GChoice)(vl:Value)(hl:SlC F0 vl 2 (l.map GChoice.enc))(hr:room l.length 16):Calls Tryz.prog 46 #[vl] w fun e w'=>∃v':Value,True∧e= .returned v'∧Hp w (fun _=>False) [.sl v' 50 2 l.length (l.flatMap GChoice.enc)] w':=by
 haveI:=hl.oneC;have hl0:=hl;obtain ⟨A,cap,hv,hlc,hcm,hcl,hcs⟩:=hl0;have hlen:(l.map GChoice.enc).length=l.length:=List.length_map _;obtain ⟨S0,F1,hF1,hS0,hp0⟩:=zan hF0
 cases hA:A with
 |none=>
  have h0:l=[]:=by
   cases l with
   |nil=>rfl
   |cons x r=>
    obtain ⟨g,off,h1,_⟩:=hcs (by simp);rw [hA] at h1;cases h1
  subst h0;refine zac (M:=fun _=>False) (hs:=[.fr F1]) Tryz.func46 rfl rfl rfl hp0 ?_;refine T.sr ?_;refine TL.run 1 rfl ?_;refine TL.ns (T.seq (T.sr ?_));refine TL.run 1 rfl ?_;refine TL.y (Yv.bJ (v:= .bool true) rfl rfl rfl (fun w=>by rw [hv,hA];kernel_rfl)) ?_;refine TL.ns ?_;refine T.aK rfl rfl ?_;refine T.sr ?_;refine TL.run 1 rfl ?_;refine TL.slNil 50 2 ?_;refine TL.ns (T.ret (K.aa ?_));exact K.ah rfl rfl (fun w' hw=>⟨.slice none 0 0,trivial,rfl,hw.sub Sx⟩)
 |some a=>
  rw [←hF1] at hl;refine zac (M:=fun _=>False) (hs:=[.fr F1]) Tryz.func46 rfl rfl rfl hp0 ?_;refine T.sr ?_;refine TL.run 1 rfl ?_;refine TL.ns (T.seq (T.sr ?_));refine TL.run 1 rfl ?_;refine TL.y (Yv.bJ (v:= .bool false) rfl rfl rfl (fun w=>by rw [hv,hA];kernel_rfl)) ?_;refine TL.ns ?_;refine T.aJ rfl rfl ?_;refine T.skip (K.seq (T.sr ?_));refine TL.e (Ew.bE rfl) ?_;rintro _ _ ⟨g,rfl,rfl⟩;refine TL.run 1 rfl ?_;refine TL.e (Ew.bj 0 1 (k':=l.length) (l':=l.flatMap GChoice.enc) (zfw (enc:=GChoice.enc) (fun _=>inferInstance)) rfl rfl rfl rfl rfl hl (by rw [List.length_map];omega) (by rw [List.nil_append,←List.flatMap_def]) hr (by decide)) ?_;rintro v' _ ⟨hv',rfl⟩;refine TL.run 1 rfl ?_;refine TL.ns (T.ret ?_);exact K.ah rfl rfl (fun w' hw=>⟨v',trivial,rfl,hw.sub Sx⟩)
theorem zgZ (F0:Frz)(w:World)(hF0:F0.At w)(l:List GChoice)(vl:Value)(hl:SlC F0 vl 2 (l.map GChoice.enc))(hr:room l.length 16):Calls Tryz.prog 46 #[vl] w fun e w'=>∃(y:Value) (G:Frz),SlC G y 2 (l.map GChoice.enc)∧e= .returned y∧Fx F0 w G w':=by
 refine (zeq F0 w hF0 l vl hl hr).mono ?_;rintro e w' ⟨v',_,rfl,hw⟩;obtain ⟨G,h1,h2,h3⟩:=Fx.hp hF0 hw;have h4:=SlK.ent (G:=G) (hw.own (.sl v' 50 2 l.length (l.flatMap GChoice.enc)) (by simp)) h2 (h3 _ (by simp));exact ⟨v',G,h4.toF rfl (fun _=>rfl),rfl,h1⟩
end Go.Proofs.YtbpbhbkcahcdiaaGreatDoor
