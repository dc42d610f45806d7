/- M3 M4 M5 M6 M7 Pm M8 Pf Cd Ce Sa Sb Sc Pb Sd M13 Se M14 Ff: shortened and put together by squeeze.py. -/
import Derived.Test.YtgoeeefoinkepaaGreatDoorQ06
import Derived.Laws.Slices
set_option maxRecDepth 100000
set_option maxHeartbeats 4000000
set_option linter.unusedVariables false
set_option linter.unusedSectionVars false
set_option linter.unusedSimpArgs false
namespace Go.Proofs.YtgoeeefoinkepaaGreatDoor
open Go.RowKit
theorem zeU (sp:Nat)(Y:Tb)(L:Ws)(c:Bool)(x:Ch)(w:World)(h:StateAt w sp Y L c)(hix:∀j,0≤Y.ix j∧Y.ix j≤512):Calls Tryz.prog 137 #[.pointer (some ⟨sp,0,none⟩), .agg (Ch.cells x).toArray] w fun e w'=>e= .returned (.tuple #[.int .i64 (gv Y c x).1, .int .i64 (gv Y c x).2])∧Below w.heap.size w w':=by
 obtain ⟨tp,hsp0,hT⟩:=h.tb;have hcon:=h.con;refine dB (M:=fun _=>False) (hs:=[]) Tryz.func137 rfl rfl rfl (Hp.refl _ _) ?_;simp only [Ch.cells];refine dd ?_; (refine cM (Wt.none) rfl rfl (dv) ?_;rintro _ _ ⟨g3,rfl,rfl⟩);refine ec ?_;refine ij ?_;refine dc ?_; (refine cM (Wt.none) rfl rfl (cL rfl rfl rfl (fun w hw=>zbY sp Y L c w (h.kept hw))) ?_;rintro _ _ ⟨rfl,rfl⟩);refine mJ ?_;refine kh ?_;refine em ?_;refine ec ?_;refine dp rfl rfl rfl (fun h1=>?_) (fun h1=>?_)
 ·have p1:=h1; (try simp only [cT] at p1);refine kb ?_;refine TL.off (Wt.not rfl rfl rfl h1) rfl rfl ?_;refine kH ?_;refine TL.run 10 rfl ?_;refine mi ?_;refine mf ?_;refine fP rfl rfl rfl (fun w' hw=>⟨?_,hw.isBelow⟩); (rw [show gv Y c x=(0,2) from if_pos a6])
 ·have p1:=h1; (try simp only [cT] at p1);refine q0I ?_;refine jT ?_;refine q2Q ?_;refine dc ?_;refine dp rfl rfl rfl (fun h2=>?_) (fun h2=>?_)
  ·have p2:=h2; (try simp only [cT] at p2);refine q0j ?_;refine q2E ?_;refine TL.run 5 rfl ?_;refine mi ?_;refine mf ?_;refine fP rfl rfl rfl (fun w' hw=>⟨?_,hw.isBelow⟩); (rw [show gv Y c x=(0,2) from if_pos a6])
  ·have p2:=h2; (try simp only [cT] at p2);refine mw ?_;refine mp ?_;refine q3T ?_;refine dc ?_;refine dp rfl rfl rfl (fun h3=>?_) (fun h3=>?_)
   ·have p3:=h3; (try simp only [cT] at p3);refine q0q ?_;refine q3u ?_;refine mi ?_;refine mf ?_;refine fP rfl rfl rfl (fun w' hw=>⟨?_,hw.isBelow⟩); (rw [show gv Y c x=(0,2) from if_pos a6])
   ·have p3:=h3; (try simp only [cT] at p3);refine q0O ?_;refine q1K ?_;refine cK (ef rfl rfl h3) ?_;refine cR ?_;refine T.cond rfl (fun h4=>?_) (fun h4=>?_)
    ·have p4:=h4; (try simp only [cT] at p4);refine mf ?_;refine fP rfl rfl rfl (fun w' hw=>⟨?_,hw.isBelow⟩); (rw [show gv Y c x=(0,2) from if_pos a6])
    ·have p4:=h4; (try simp only [cT] at p4);refine kh ?_;refine ec ?_;refine ft ?_;refine cK (dM rfl rfl hcon (fun h=>h)) ?_;refine cR ?_;refine T.cond rfl (fun h5=>?_) (fun h5=>?_)
     ·have p5:=h5; (try simp only [cT] at p5);refine mf ?_;refine fP rfl rfl rfl (fun w' hw=>⟨?_,hw.isBelow⟩); (rw [show gv Y c x=(0,8) from by rw [gv,if_neg a6,if_pos cB]])
     ·have p5:=h5; (try simp only [cT] at p5);refine q19 ?_; (refine cZ rfl (Wt.none) rfl rfl (cL rfl rfl rfl (fun w hw=>znd tp Y x.st w (hT.later (gR hw.isBelow)) hix)) ?_;rintro _ _ ⟨rfl,rfl⟩;refine ⟨Sx,?_⟩);refine TS.run 5 rfl ?_;refine fv ?_;refine K.seq (T.seq (dd ?_));refine ji ?_;refine T.cond rfl (fun h6=>?_) (fun h6=>?_)
      ·have p6:=h6; (try simp only [cT] at p6);refine mf ?_;refine fP rfl rfl rfl (fun w' hw=>⟨?_,hw.isBelow⟩); (rw [show gv Y c x=(0,9) from by rw [gv,if_neg a6,if_neg (by simp_all),if_pos cB]])
      ·have p6:=h6; (try simp only [cT] at p6);refine i1 ?_;refine fb ?_;refine gM ?_;refine fP rfl rfl rfl (fun w' hw=>⟨?_,hw.isBelow⟩); (rw [show gv Y c x=((i6 Y x.st).1,0) from by rw [gv,if_neg a6,if_neg (by simp_all),if_neg (by simp_all)]])
def dr (L:Ws)(i:Nat)(g:BitVec 64):Ws:=L.set i (cH L i &&& ~~~g)
theorem zlP {L:Ws}{i:Nat}{g:BitVec 64}(hi:i<L.length)(h:cH L i &&& g=0#64):dr L i g=L:=by
 have e:cH L i &&& ~~~g=cH L i:=by
  apply BitVec.eq_of_getLsbD_eq;intro j hj;have:=congrArg (fun b=>BitVec.getLsbD b j) h;simp only [BitVec.getLsbD_and,BitVec.getLsbD_zero] at this;simp only [BitVec.getLsbD_and,BitVec.getLsbD_not]
  cases h1:(cH L i).getLsbD j <;> cases h2:g.getLsbD j <;> simp_all
 unfold dr;rw [e];apply List.ext_getElem?;intro j;by_cases hj:j=i
 ·subst hj;rw [List.getElem?_set_self hi,List.getElem?_eq_getElem hi,d4 hi]
 ·rw [List.getElem?_set_ne (fun e=>hj e.symm)]
theorem znE {L:Ws}{i:Nat}{g:BitVec 64}(hi:i<L.length):cH (dr L i g) i=cH L i &&& ~~~g:=by unfold dr;rw [kG hi,if_pos rfl]
theorem SInv.cut {Y : Tb} {L : Ws} {i : Nat} {g : BitVec 64} (hok : Y.Ok) (hi : i < Y.n) (hl : L.length = Y.n) (hcalm : ∀ k, k < Y.n → zhP Y L k) (hne : cH L i &&& g ≠ 0#64) :
    SInv Y (dr L i g) (dr L i g) (eZ (j8 Y (dr L i g) i fj)) fj (decide (cH (dr L i g) i = 0#64)) := by
  (have hil : i < L.length := by omega); have hn := hok.n; have hat := znE (g := g) hil; (have hlen : (dr L i g).length = Y.n := by unfold dr; rw [List.length_set, hl])
  have hsub : ∀ j, (cH (dr L i g) i).getLsbD j = true → (cH L i).getLsbD j = true := fun j hj => by
    rw [hat, BitVec.getLsbD_and, Bool.and_eq_true] at hj; exact hj.1
  have hchg : cH (dr L i g) i ≠ cH L i := fun e => hne (by
    rw [hat] at e; apply BitVec.eq_of_getLsbD_eq; intro j hj; have := congrArg (fun b => BitVec.getLsbD b j) e; simp only [BitVec.getLsbD_and, BitVec.getLsbD_not] at this;simp only [BitVec.getLsbD_and, BitVec.getLsbD_zero]
    cases h1 : (cH L i).getLsbD j <;> cases h2 : g.getLsbD j <;> simp_all)
  (have ht8 : (j8 Y (dr L i g) i fj).length = 8 := by rw [zfs]; rfl); refine ⟨.refl, hlen, rfl, (fun j _ hb => by rw [zdL] at hb; cases hb), fun j hj => ?_, zfV _ 0, fun hc => ⟨i, hi, of_decide_eq_true hc⟩, fun hc k hk => ?_⟩
  · obtain ⟨_, h5, hb⟩ := fJ.1 hj; rcases (zds hok hi (by rfl) j h5).1 hb with h1 | ⟨_, h1 | h1 | h1⟩
    · rw [zdL] at h1; cases h1
    · obtain ⟨x, hx, he⟩ := h1; have := (hok.ps i hi).2 x hx; omega
    · obtain ⟨x, hx, he⟩ := h1; have := (hok.inn i hi).2 x hx; omega
    · obtain ⟨x, hx, he⟩ := h1; have h2 := (hok.out i hi).2 x hx; rcases he with he | ⟨_, o, ho, he⟩
      · omega
      · have := (hok.inn x.to.toNat a6).2 o ho; omega
  · have h0 : cH (dr L i g) i ≠ 0#64 := of_decide_eq_false hc; by_cases hki : k = i
    · subst hki;refine .inr (.inr ⟨h0, ?_⟩); have e := zgi (b := cH L k &&& ~~~g) hok hi hl; (have hg : jo Y (dr L k g) k = jo Y L k := by unfold jo dr; rw [e.1, e.2.1, e.2.2]); rw [hg]; have hc := (hcalm k hk).2; apply BitVec.eq_of_getLsbD_eq; intro j hj; have := congrArg (fun b => BitVec.getLsbD b j) hc; simp only [BitVec.getLsbD_and, BitVec.getLsbD_zero] at this ⊢
      cases h1 : (cH (dr L k g) k).getLsbD j
      · rfl
      · rw [hsub j h1] at this; simpa using this
    · (have hkeep : cH (dr L i g) k = cH L k := by unfold dr; rw [kG hil, if_neg hki]); have h00 : only L i = 0 := zhs hsub hchg h0; (have honly : ∀ j, j ≠ i → only (dr L i g) j = only L j := fun j hj => by unfold dr; exact zel hil hj); by_cases hnear : only (dr L i g) i ≠ 0 ∧ mT Y (dr L i g) i k
      · exact .inl (fJ.2 ⟨Nat.zero_le _, by omega, (zds hok hi (by rfl) k a6).2 (.inr hnear)⟩)
      · refine .inr (.inr ⟨by rw [hkeep]; exact (hcalm k hk).1, ?_⟩)
        have ha : Alike Y L (dr L i g) k := by
          by_cases hz : only (dr L i g) i = 0
          · have hall : ∀ j, only (dr L i g) j = only L j := fun j => by
              by_cases hj : j = i
              · subst hj; rw [hz, h00]
              · exact honly j hj
            exact q4A
          · exact ziu hok hi hk hki honly h00 (fun hh => hnear ⟨hz, hh⟩)
        rw [zgu ha (fun x hx => by have := (hok.out k hk).2 x hx; omega), hkeep]; exact (hcalm k hk).2
theorem znJ (a b c d:Ent):[a,b,c,d].Perm ([c,d,a]++[b]):=by
 have h1:[a,b,c,d].Perm ([c,d]++[a,b]):=List.perm_append_comm (l₁:=[a,b]) (l₂:=[c,d]);exact h1
theorem zoa {w0 w w1:World}{M:Nat→Prop}{es rest:HS}(hfr:Fz w0 w)(h:Hp w M (es++rest) w1)(hMN:∀g,M g→¬jx w0 g)(g:Nat)(hg:dy es g):¬jx w0 g:=fun hc=>by
 obtain ⟨e,he,hf⟩:=hg;rcases h.new e (List.mem_append_left _ he) g hf with hh|hh
 ·exact hMN g hh hc
 ·have h9:=hfr g hc;obtain ⟨_,_,_,h8⟩:=hc;rw [h8] at h9;have:=(Array.getElem?_eq_some_iff.1 h9).1;omega
theorem znH {w w1:World}{M:Nat→Prop}{es rest:HS}(htab:Tab w)(h:Hp w M (es++rest) w1)(hM0:¬M 0)(hg:dy es 0):False:=by
 obtain ⟨e,he,hf⟩:=hg;rcases h.new e (List.mem_append_left _ he) 0 hf with hh|hh
 ·exact hM0 hh
 ·have:=htab.size;omega
theorem zl5 (w0:World)(sp:Nat)(gl:GL)(tp:Nat)(Y:Tb)(L:Ws)(w:World)(ht:TablesAt w0 tp Y)(hok:Y.Ok)(hfr:Fz w0 w)(htab:Tab w)(hes:Hp w (dy [dA sp gl tp Y.n false,eH gl Y.n L]) [dA sp gl tp Y.n false,eH gl Y.n L] w)(hMN:∀g,dy [dA sp gl tp Y.n false,eH gl Y.n L] g→¬jx w0 g)(hM0:¬dy [dA sp gl tp Y.n false,eH gl Y.n L] 0)(hl:L.length=Y.n)(hcalm:∀k,k<Y.n→zhP Y L k)(i:Nat)(z:Int)(hz:z=(i:Int))(hi:i<Y.n)(gone:BitVec 64):Calls Tryz.prog 138 #[.pointer (some ⟨sp,0,none⟩), .int .i64 z,U gone] w fun e w'=>∃y:Ws×Bool,gD Y (dr L i gone) y.1 y.2∧e= .returned (.tuple #[])∧Hp w (dy [dA sp gl tp Y.n false,eH gl Y.n L]) [dA sp gl tp Y.n y.2,eH gl Y.n y.1] w':=by
 subst hz;have hld:(Ws.cells L)[0+i*1]?=some (U (cH L i)):=Ws.get a6 a6; (have hcl:(dr L i gone).length=Y.n:=by unfold dr;rw [List.length_set,hl]);have hld1:(Ws.cells (dr L i gone))[0+i*1]?=some (U (cH (dr L i gone) i)):=Ws.get a6 a6; (have ht8:(j8 Y (dr L i gone) i fj).length=8:=by rw [zfs];rfl);refine dB (M:=dy [dA sp gl tp Y.n false,eH gl Y.n L]) (hs:=[dA sp gl tp Y.n false,eH gl Y.n L]) Tryz.func138 rfl rfl rfl hes ?_;refine iX ?_;refine ec ?_;refine em ?_;refine lu ?_;refine cK (eS 1 rfl rfl rfl hld) ?_;refine dc ?_;refine cK (f9) ?_;refine dR ?_;refine T.cond rfl (fun h1=>?_) (fun h1=>?_)
 ·have p1:=h1; (try simp only [cT] at p1);have hz0:cH L i &&& gone=0#64:=BitVec.eq_of_toNat_eq (by show _=0;omega);refine T.ret (dZ ?_);exact K.cg rfl (fun w' hw=>⟨(L,false),⟨by rw [zlP a6 hz0];exact .refl,hl,(fun hh=>by cases hh),fun _=>hcalm⟩,rfl,hw⟩)
 ·have p1:=h1; (try simp only [cT] at p1);have hz1:cH L i &&& gone≠0#64:=fun hh=>p1 (by rw [hh];rfl);have hinv:=SInv.cut hok hi hl hcalm hz1;refine i1 ?_;refine ec ?_;refine em ?_;refine lu ?_;refine cK (eS 1 rfl rfl rfl hld) ?_;refine dc ?_;refine cK (mH rfl rfl rfl) ?_;refine q0x ?_; (refine dJ (Wt.none) rfl (fh 1 (Ws.cells (dr L i gone)) rfl rfl rfl rfl cC (zgA a6)) ?_;rintro _ _ ⟨rfl,rfl⟩);refine dq ?_; (refine cM (Wt.none) rfl rfl (Ew.alloc) ?_;rintro _ _ ⟨g6,rfl,rfl⟩);refine dq ?_;refine ec ?_; (refine cM (Wt.none) rfl rfl (lr 0 rfl rfl rfl rfl (fun w hw=>zir w0 sp gl tp g6 Y (dr L i gone) _ fj rfl i _ rfl hi w (iw hw ht (Fz.hp hfr hw hMN) (htab.kept hw hM0) 1 2 rfl rfl (by unfold dr;rw [List.length_set,hl])) hok (by rcases hw.new _ (List.mem_of_getElem? (i:=0) rfl) g6 (cO.2 rfl) with hh|hh;exact hMN _ hh;exact (fun hc=>by have h9:=hfr _ hc;obtain ⟨_,_,_,h8⟩:=hc;rw [h8] at h9;have:=(Array.getElem?_eq_some_iff.1 h9).1;omega)) (by intro hz0;subst hz0;rcases hw.new _ (List.mem_of_getElem? (i:=0) rfl) 0 (cO.2 rfl) with hh|hh;exact hM0 hh;have:=htab.size;omega) (fun hh=>hw.ne (i:=0) (j:=1) a6 rfl rfl (g:=g6) (cO.2 rfl) (cO.2 hh.symm)) (fun hh=>hw.ne (i:=0) (j:=2) a6 rfl rfl (g:=g6) (cO.2 rfl) (cY.2 (congrArg some hh))) (hw.get (i:=0) rfl))) ?_;rintro _ _ ⟨-, -,rfl,rfl⟩);refine cR ?_;refine T.cut (gs:=[(0, .pointer (some ⟨sp,0,none⟩)),(6, .pointer (some ⟨g6,0,none⟩))]) (hs':=[.row g6 101 (Ws.cells (j8 Y (dr L i gone) i fj)),dA sp gl tp Y.n (decide (cH (dr L i gone) i=0#64)),eH gl Y.n (dr L i gone)]) ?_ ?_
  ·skip;refine i4 ?_;refine kS ?_;refine lu ?_;refine cK (eS 2 rfl rfl rfl hld1) ?_;refine dR ?_;refine T.cond rfl (fun h2=>?_) (fun h2=>?_)
   ·have p2:=h2; (try simp only [cT] at p2);have hd0:decide (cH (dr L i gone) i=0#64)=true:=decide_eq_true (BitVec.eq_of_toNat_eq (by show _=0;omega));refine jO ?_;refine ft ?_; (refine dJ (Wt.none) rfl (ei 1 rfl rfl rfl rfl b5) ?_;rintro _ _ ⟨rfl,rfl⟩);refine fO ?_; (rw [hd0];exact K.at (by repeat (first|exact Sub.nil|refine Sub.cons rfl ?_)) Sx)
   ·have p2:=h2; (try simp only [cT] at p2);have hd1:decide (cH (dr L i gone) i=0#64)=false:=decide_eq_false (fun hh=>p2 (by rw [hh];rfl));refine T.skip ?_; (rw [hd1];exact K.at (by repeat (first|exact Sub.nil|refine Sub.cons rfl ?_)) Sx)
  ·skip;refine kd ?_;refine cK (fx 0 rfl rfl rfl (by rw [List.length_map,ht8])) ?_; (refine cM (Wt.none) rfl rfl (iG rfl rfl rfl (fun w hw=>zj0 _ ht8 w (htab.kept hw hM0))) ?_;rintro v43 _ ⟨_, -,rfl,rfl⟩);refine fH ?_;refine TL.conv 0 _ (Ent.qu v43 (eZ (j8 Y (dr L i gone) i fj))) rfl (fun w hh=>zhw rfl hh) (fun g hg=>cY.2 (gk.1 hg)) ?_; (refine cM (Wt.none) rfl rfl (lm [dA sp gl tp Y.n (decide (cH (dr L i gone) i=0#64)),eH gl Y.n (dr L i gone),Ent.qu v43 (eZ (j8 Y (dr L i gone) i fj))] [.row g6 101 (Ws.cells (j8 Y (dr L i gone) i fj))] rfl rfl rfl (znJ _ _ _ _) (fun w hw hw2=>zg1 w0 sp gl tp Y (dr L i gone) _ _ _ w ht hok (Fz.hp hfr hw hMN) (htab.kept hw hM0) hw2.part (fun g hg=>zoa hfr hw2 hMN g hg) (fun hg=>znH htab hw2 hM0 hg) hinv)) ?_;rintro _ _ ⟨y44,hpost,rfl,rfl⟩);refine fH ?_;refine fO ?_;exact lW rfl (fun w' hw=>⟨y44,hpost,rfl,hw.sub Sx⟩)
theorem zhp {Y:Tb}(hix:∀j,0≤Y.ix j∧Y.ix j≤Y.n){s:Int}(h:(i6 Y s).2=true):0≤(i6 Y s).1∧(i6 Y s).1<Y.n:=by
 unfold i6 at h ⊢
 split
 ·rename_i hh;rw [if_pos hh] at h;cases h
 ·have:=hix s.toNat;simp only;omega
theorem zcX {Y:Tb}{c:Bool}(hix:∀j,0≤Y.ix j∧Y.ix j≤Y.n){x:Ch}(h:(gv Y c x).2=0):0≤(gv Y c x).1∧(gv Y c x).1<Y.n∧2≤x.ch∧x.ch≤51:=by
 unfold gv at h ⊢
 split
 ·rename_i hh;rw [if_pos hh] at h;cases h
 ·rename_i hh;rw [if_neg hh] at h
  split
  ·rename_i h2;rw [if_pos h2] at h;cases h
  ·rename_i h2;rw [if_neg h2] at h
   split
   ·rename_i h3;rw [if_pos h3] at h;cases h
   ·rename_i h3;have:=zhp hix (s:=x.st) (by simpa using h3);simp only;omega
theorem Tb.ix512 {Y:Tb}(hok:Y.Ok)(hix:∀j,0≤Y.ix j∧Y.ix j≤Y.n):∀j,0≤Y.ix j∧Y.ix j≤512:=fun j=>by have:=hix j;have:=hok.n;omega
theorem zg5 (sp:Nat)(Y:Tb)(L:Ws)(c:Bool)(x:Ch)(w:World)(h:StateAt w sp Y L c)(hix:∀j,0≤Y.ix j∧Y.ix j≤512)(he:(gv Y c x).2≠0):Calls Tryz.prog 119 #[.pointer (some ⟨sp,0,none⟩), .agg (Ch.cells x).toArray] w fun e w'=>e= .returned (.int .i64 (gv Y c x).2)∧Below w.heap.size w w':=by
 refine dB (M:=fun _=>False) (hs:=[]) Tryz.func119 rfl rfl rfl (Hp.refl _ _) ?_;simp only [Ch.cells];refine dd ?_; (refine cM (Wt.none) rfl rfl (dv) ?_;rintro _ _ ⟨g3,rfl,rfl⟩);refine mZ ?_;refine jd ?_; (refine cM (Wt.none) rfl rfl (cL rfl rfl rfl (fun w hw=>zeU sp Y L c x w (h.kept hw) hix)) ?_;rintro _ _ ⟨rfl,rfl⟩);refine q2p ?_;refine iq rfl (decide_eq_false he) ?_;refine i1 ?_;refine jE ?_;refine cU rfl rfl (fun w' hw=>⟨?_,hw.isBelow⟩)
 rfl
theorem zle (w0:World)(sp:Nat)(gl:GL)(tp:Nat)(Y:Tb)(L:Ws)(w:World)(ht:TablesAt w0 tp Y)(hok:Y.Ok)(hfr:Fz w0 w)(htab:Tab w)(hes:Hp w (dy [dA sp gl tp Y.n false,eH gl Y.n L]) [dA sp gl tp Y.n false,eH gl Y.n L] w)(hMN:∀g,dy [dA sp gl tp Y.n false,eH gl Y.n L] g→¬jx w0 g)(hM0:¬dy [dA sp gl tp Y.n false,eH gl Y.n L] 0)(hl:L.length=Y.n)(hcalm:∀k,k<Y.n→zhP Y L k)(hix:∀j,0≤Y.ix j∧Y.ix j≤Y.n)(x:Ch)(he:(gv Y false x).2=0):Calls Tryz.prog 119 #[.pointer (some ⟨sp,0,none⟩), .agg (Ch.cells x).toArray] w fun e w'=>∃y:Ws×Bool,gD Y (dr L (gv Y false x).1.toNat (~~~(1#64 <<< x.ch.toNat))) y.1 y.2∧e= .returned (.int .i64 0)∧Hp w (dy [dA sp gl tp Y.n false,eH gl Y.n L]) [dA sp gl tp Y.n y.2,eH gl Y.n y.1] w':=by
 obtain ⟨hc1,hc2,hc3,hc4⟩:=zcX hix he;refine dB (M:=dy [dA sp gl tp Y.n false,eH gl Y.n L]) (hs:=[dA sp gl tp Y.n false,eH gl Y.n L]) Tryz.func119 rfl rfl rfl hes ?_;simp only [Ch.cells];refine dd ?_; (refine cM (Wt.none) rfl rfl (dv) ?_;rintro _ _ ⟨g3,rfl,rfl⟩);refine mZ ?_;refine jd ?_; (refine cM (Wt.none) rfl rfl (cL rfl rfl rfl (fun w hw=>zeU sp Y L false x w (iw hw ht (Fz.hp hfr hw hMN) (htab.kept hw hM0) 1 2 rfl rfl hl).st (Y.ix512 hok hix))) ?_;rintro _ _ ⟨rfl,rfl⟩);refine q3t ?_;refine cK (Yv.bY rfl rfl) ?_; (refine cM (Wt.none) rfl rfl (lm [dA sp gl tp Y.n false,eH gl Y.n L] [Ent.row g3 34 [.int .i64 x.st, .int .i64 x.ch]] rfl rfl rfl (List.perm_append_comm (l₁:=[Ent.row g3 34 [.int .i64 x.st, .int .i64 x.ch]])) (fun w hw hw2=>zl5 w0 sp gl tp Y L w ht hok (Fz.hp hfr hw hMN) (htab.kept hw hM0) hw2.part (fun g hg=>zoa hfr hw2 hMN g hg) (fun hg=>znH htab hw2 hM0 hg) hl hcalm (gv Y false x).1.toNat _ a6 a6 (~~~(1#64 <<< x.ch.toNat)))) ?_;rintro _ _ ⟨y,hpost,rfl,rfl⟩);refine fH ?_;refine dq ?_;refine jE ?_;exact cU rfl rfl (fun w' hw=>⟨y,hpost,by rw [he],hw.sub Sx⟩)
theorem zgR (sp:Nat)(Y:Tb)(L:Ws)(c:Bool)(x:Ch)(w:World)(h:StateAt w sp Y L c)(hix:∀j,0≤Y.ix j∧Y.ix j≤512)(he:(gv Y c x).2≠0):Calls Tryz.prog 122 #[.pointer (some ⟨sp,0,none⟩), .agg (Ch.cells x).toArray] w fun e w'=>e= .returned (.int .i64 (gv Y c x).2)∧Below w.heap.size w w':=by
 refine dB (M:=fun _=>False) (hs:=[]) Tryz.func122 rfl rfl rfl (Hp.refl _ _) ?_;simp only [Ch.cells];refine dd ?_; (refine cM (Wt.none) rfl rfl (dv) ?_;rintro _ _ ⟨g3,rfl,rfl⟩);refine mZ ?_;refine jd ?_; (refine cM (Wt.none) rfl rfl (cL rfl rfl rfl (fun w hw=>zeU sp Y L c x w (h.kept hw) hix)) ?_;rintro _ _ ⟨rfl,rfl⟩);refine q2p ?_;refine iq rfl (decide_eq_false he) ?_;refine i1 ?_;refine jE ?_;refine cU rfl rfl (fun w' hw=>⟨?_,hw.isBelow⟩)
 rfl
theorem zkQ (w0:World)(sp:Nat)(gl:GL)(tp:Nat)(Y:Tb)(L:Ws)(w:World)(ht:TablesAt w0 tp Y)(hok:Y.Ok)(hfr:Fz w0 w)(htab:Tab w)(hes:Hp w (dy [dA sp gl tp Y.n false,eH gl Y.n L]) [dA sp gl tp Y.n false,eH gl Y.n L] w)(hMN:∀g,dy [dA sp gl tp Y.n false,eH gl Y.n L] g→¬jx w0 g)(hM0:¬dy [dA sp gl tp Y.n false,eH gl Y.n L] 0)(hl:L.length=Y.n)(hcalm:∀k,k<Y.n→zhP Y L k)(hix:∀j,0≤Y.ix j∧Y.ix j≤Y.n)(x:Ch)(he:(gv Y false x).2=0):Calls Tryz.prog 122 #[.pointer (some ⟨sp,0,none⟩), .agg (Ch.cells x).toArray] w fun e w'=>∃y:Ws×Bool,gD Y (dr L (gv Y false x).1.toNat (1#64 <<< x.ch.toNat)) y.1 y.2∧e= .returned (.int .i64 0)∧Hp w (dy [dA sp gl tp Y.n false,eH gl Y.n L]) [dA sp gl tp Y.n y.2,eH gl Y.n y.1] w':=by
 obtain ⟨hc1,hc2,hc3,hc4⟩:=zcX hix he;refine dB (M:=dy [dA sp gl tp Y.n false,eH gl Y.n L]) (hs:=[dA sp gl tp Y.n false,eH gl Y.n L]) Tryz.func122 rfl rfl rfl hes ?_;simp only [Ch.cells];refine dd ?_; (refine cM (Wt.none) rfl rfl (dv) ?_;rintro _ _ ⟨g3,rfl,rfl⟩);refine mZ ?_;refine jd ?_; (refine cM (Wt.none) rfl rfl (cL rfl rfl rfl (fun w hw=>zeU sp Y L false x w (iw hw ht (Fz.hp hfr hw hMN) (htab.kept hw hM0) 1 2 rfl rfl hl).st (Y.ix512 hok hix))) ?_;rintro _ _ ⟨rfl,rfl⟩);refine q3t ?_; (refine cM (Wt.none) rfl rfl (lm [dA sp gl tp Y.n false,eH gl Y.n L] [Ent.row g3 34 [.int .i64 x.st, .int .i64 x.ch]] rfl rfl rfl (List.perm_append_comm (l₁:=[Ent.row g3 34 [.int .i64 x.st, .int .i64 x.ch]])) (fun w hw hw2=>zl5 w0 sp gl tp Y L w ht hok (Fz.hp hfr hw hMN) (htab.kept hw hM0) hw2.part (fun g hg=>zoa hfr hw2 hMN g hg) (fun hg=>znH htab hw2 hM0 hg) hl hcalm (gv Y false x).1.toNat _ a6 a6 (1#64 <<< x.ch.toNat))) ?_;rintro _ _ ⟨y,hpost,rfl,rfl⟩);refine fH ?_;refine dq ?_;refine jE ?_;exact cU rfl rfl (fun w' hw=>⟨y,hpost,by rw [he],hw.sub Sx⟩)
def jb (Y:Tb)(L:Ws)(k:Nat):List Ch:=((List.range k).filter fun i=>decide (only L i≠0)).map fun i=>⟨cH Y.st i,(only L i:Int)⟩
theorem zf9 {Y:Tb}{L:Ws}{k:Nat}:jb Y L (k+1)=jb Y L k++(if only L k≠0 then [⟨cH Y.st k,(only L k:Int)⟩] else []):=by
 unfold jb;rw [List.range_succ,List.filter_append,List.map_append]
 congr 1
 by_cases h:only L k=0 <;> simp [h]
theorem zmG {Y:Tb}{L:Ws}{k:Nat}:(jb Y L k).length≤k:=by
 unfold jb;rw [List.length_map];have:=List.length_filter_le (fun i=>decide (only L i≠0)) (List.range k);rw [List.length_range] at this;exact this
theorem zlg (sp:Nat)(Y:Tb)(L:Ws)(w:World)(h:StateAt w sp Y L false)(hok:Y.Ok):Calls Tryz.prog 139 #[.pointer (some ⟨sp,0,none⟩)] w fun e w'=>∃v:Value,True∧e= .returned v∧Hp w (fun _=>False) [.sl v 34 2 (jb Y L Y.n).length ((jb Y L Y.n).flatMap Ch.cells)] w':=by
 obtain ⟨tp,hsp0,hT⟩:=h.tb;obtain ⟨vL,hsp1,hL⟩:=h.left;obtain ⟨AL,capL,rfl,hLs⟩:=hL.op;have hLn:=h.len;have hcon:=h.con;obtain ⟨vS,hS0,hS⟩:=hT.st;obtain ⟨AS,capS,rfl,hSs⟩:=hS.op;have hn512:=hok.n;have hstn:Y.st.length=Y.n:=rfl;refine dB (M:=fun _=>False) (hs:=[]) Tryz.func139 rfl rfl rfl (Hp.refl _ _) ?_;refine jB ?_; (refine cM (Wt.none) rfl rfl (cL rfl rfl rfl (fun w hw=>zbY sp Y L false w (h.kept hw))) ?_;rintro _ _ ⟨rfl,rfl⟩);refine q1G ?_;refine dR ?_;refine iq rfl rfl ?_;refine i1 ?_;refine jD ?_;refine ec ?_;refine ft ?_;refine cK (dM rfl rfl hsp1 (fun h=>h)) ?_;refine jz ?_;refine T.slNil 34 2 ?_;refine T.loop (ι:=Nat×Value) (fun x=>[(0, .pointer (some ⟨sp,0,none⟩)),(3,x.2),(18, .int .i64 (L.length:Int)),(19, .int .i64 (x.1:Int))]) (fun x=>[.sl x.2 34 2 (jb Y L x.1).length ((jb Y L x.1).flatMap Ch.cells)]) (fun x=>x.1≤L.length) (fun x=>L.length - x.1) (0, .slice none 0 0) ?_ ?_ ?_ ?_
 ·exact Nat.zero_le _
 ·exact (by repeat (first|exact Sub.nil|refine Sub.cons rfl ?_))
 ·exact Sx
 ·intro x hphi;obtain ⟨k,v⟩:=x;dsimp only at hphi ⊢;have hfl:=zmG (Y:=Y) (L:=L) (k:=k);refine fk ?_;refine T.cond rfl (fun h1=>?_) (fun h1=>?_)
  ·have p1:=h1; (try simp only [cT] at p1);obtain ⟨gS,oS,rfl,hc⟩:=hSs a6;have hk:=hc k a6;simp only [Ie] at hk;refine fT ?_;refine ec ?_;refine dq ?_;refine ec ?_; (refine cM (Wt.none) rfl rfl (cL rfl rfl rfl (fun w hw=>zc9 sp Y L false k _ rfl a6 w (h.kept hw))) ?_;rintro _ _ ⟨rfl,rfl⟩);refine gN ?_;refine ji ?_;refine T.cond rfl (fun h2=>?_) (fun h2=>?_)
   ·have p2:=h2; (try simp only [cT] at p2);refine q3L ?_;refine q1L ?_;refine cK (dM rfl rfl hS0 (fun h=>h)) ?_;refine dc ?_;refine q1H ?_;refine dc ?_;refine jm ?_; (refine cM (Wt.none) rfl rfl (Ew.buildSlice rfl rfl rfl a7) ?_;rintro _ _ ⟨g40,rfl,rfl⟩); (refine cM (Wt.none) rfl rfl (Ew.append 1 0 rfl rfl rfl rfl rfl rfl a6 a6) ?_;rintro v41 _ ⟨hv41,rfl⟩);refine dc ?_;refine lN ?_;exact K.next (k+1,v41) b3 b3 (by repeat (first|exact Sub.nil|refine Sub.cons rfl ?_)) (by dsimp only;rw [zf9,if_pos a6,List.length_append,List.flatMap_append];exact Sx)
   ·have p2:=h2; (try simp only [cT] at p2);refine iK ?_;exact K.next (k+1,v) b3 b3 (by repeat (first|exact Sub.nil|refine Sub.cons rfl ?_)) (by dsimp only;rw [zf9,if_neg a6,List.append_nil];exact Sx)
  ·have p1:=h1; (try simp only [cT] at p1);refine mh ?_;refine jE ?_;exact cU rfl rfl (fun w' hw=>⟨_,trivial,rfl,by rw [show k=Y.n by omega] at hw;exact hw.sub Sx⟩)
def dE (d:Dx):Ent:= .sl d.v 3 1 d.chs.length (d.chs.flatMap Ie)
def zjb (Y:Tb)(L:Ws)(k:Nat):List (Int×List Int):=(List.range k).map fun i=>(cH Y.st i,(c7 (cH L i)).map fun j:Nat=>(j:Int))
def lw (d:Dx):Int×List Int:=(d.st,d.chs)
def lP (xs:List Dx)(n:Nat):List Value:=xs.flatMap Dx.cells++(List.replicate (n - xs.length) (default:Dx)).flatMap Dx.cells
theorem zdn (xs:List Dx):(xs.flatMap Dx.cells).length=xs.length*2:=zdb Dx.cells 2 (fun _=>rfl) xs
theorem zlZ {xs:List Dx}{n:Nat}(h:xs.length≤n):(lP xs n).length=n*2:=by
 unfold lP;rw [List.length_append,zdn,zdn,List.length_replicate];omega
theorem zi0 {xs:List Dx}{n p:Nat}{d:Dx}(h:xs.length<n)(hp:p=xs.length*2):(lP xs n).take p++[.int .i64 d.st,d.v]++(lP xs n).drop (p+[Value.int .i64 d.st,d.v].length)=lP (xs++[d]) n:=by
 subst hp
 have e:lP xs n=xs.flatMap Dx.cells++(Dx.cells default++(List.replicate (n - (xs.length+1)) (default:Dx)).flatMap Dx.cells):=by
  unfold lP;rw [show n - xs.length=(n - (xs.length+1))+1 by omega,List.replicate_succ,List.flatMap_cons]
 rw [e,List.take_left' (zdn xs),←List.append_assoc,List.drop_left' (by rw [List.length_append,zdn];rfl)];unfold lP;rw [List.flatMap_append,List.length_append]
 rfl
theorem zm3 (n:Nat):(madeCells [Value.int .i64 0, .slice none 0 0].toArray (n*2)).toList=lP [] n:=by
 apply List.ext_getElem?;intro i;unfold lP;simp only [List.flatMap_nil,List.nil_append,List.length_nil,Nat.sub_zero];by_cases h:i<n*2
 ·have h2:=ze1 Dx.cells 2 (fun _=>rfl) (List.replicate n (default:Dx)) (i / 2) (by rw [List.length_replicate];omega) (i % 2) a6;rw [show i / 2*2+i % 2=i by omega] at h2;rw [h2,List.getElem_replicate];simp only [madeCells];rcases Nat.mod_two_eq_zero_or_one i with hm|hm <;> simp [h,hm,Dx.cells,default,instInhabitedDx]
 ·rw [List.getElem?_eq_none (by simp [madeCells];omega),List.getElem?_eq_none (by rw [zdn,List.length_replicate];omega)]
theorem domsF_succ {Y:Tb}{L:Ws}{k:Nat}:zjb Y L (k+1)=zjb Y L k++[(cH Y.st k,(c7 (cH L k)).map fun j:Nat=>(j:Int))]:=by
 unfold zjb;rw [List.range_succ,List.map_append];rfl
theorem DomsAt.own {B w:World}{M:Nat→Prop}{hs:HS}{v:Value}{xs:List Dx}{e:TypeId}(hw:Hp B M hs w)(i j:Nat)(hi:hs[i]?=some (.sl v e 2 xs.length (xs.flatMap Dx.cells)))(hj:hs[j]?=some (.bag (xs.map dE))):DomsAt w v xs where
 sl:=SlOf.own (enc:=Dx.cells) (size:=2) (fun _=>rfl) (cS.1 (hw.get hi)) rfl
 each d hd:=by
  have h1:(Ent.sl d.v 3 1 d.chs.length (d.chs.flatMap Ie)).ok w:=(c8.1 (hw.get hj)).1 (dE d) (List.mem_map.2 ⟨d,hd,rfl⟩);exact SlOf.own (enc:=Ie) (size:=1) (fun _=>rfl) (cS.1 h1) rfl
theorem zka {xs:List Dx}:lP xs xs.length=xs.flatMap Dx.cells:=by unfold lP;simp
theorem ziN (sp:Nat)(Y:Tb)(L:Ws)(w:World)(h:StateAt w sp Y L true):Calls Tryz.prog 98 #[.pointer (some ⟨sp,0,none⟩)] w fun e w'=>e= .returned (.slice none 0 0)∧Below w.heap.size w w':=by
 have hcon:=h.con;refine dB (M:=fun _=>False) (hs:=[]) Tryz.func98 rfl rfl rfl (Hp.refl _ _) ?_;refine jB ?_; (refine cM (Wt.none) rfl rfl (cL rfl rfl rfl (fun w hw=>zbY sp Y L true w (h.kept hw))) ?_;rintro _ _ ⟨rfl,rfl⟩);refine q1G ?_;refine dR ?_;refine j7 rfl rfl ?_;refine ja ?_;refine cU rfl rfl (fun w' hw=>⟨?_,hw.isBelow⟩)
 rfl
theorem zky (sp:Nat)(Y:Tb)(L:Ws)(w:World)(h:StateAt w sp Y L false)(hok:Y.Ok):Calls Tryz.prog 98 #[.pointer (some ⟨sp,0,none⟩)] w fun e w'=>∃y:Value×List Dx,y.2.map lw=zjb Y L Y.n∧e= .returned y.1∧Hp w (fun _=>False) [.sl y.1 59 2 y.2.length (y.2.flatMap Dx.cells), .bag (y.2.map dE)] w':=by
 obtain ⟨tp,hsp0,hT⟩:=h.tb;obtain ⟨vL,hsp1,hL⟩:=h.left;obtain ⟨AL,capL,rfl,hLs⟩:=hL.op;have hLn:=h.len;have hcon:=h.con;obtain ⟨vS,hS0,hS⟩:=hT.st;obtain ⟨AS,capS,rfl,hSs⟩:=hS.op;have hn512:=hok.n;have hstn:Y.st.length=Y.n:=rfl;refine dB (M:=fun _=>False) (hs:=[]) Tryz.func98 rfl rfl rfl (Hp.refl _ _) ?_;refine jB ?_; (refine cM (Wt.none) rfl rfl (cL rfl rfl rfl (fun w hw=>zbY sp Y L false w (h.kept hw))) ?_;rintro _ _ ⟨rfl,rfl⟩);refine q1G ?_;refine dR ?_;refine iq rfl rfl ?_;refine i1 ?_;refine ec ?_;refine ft ?_;refine cK (dM rfl rfl hsp1 (fun h=>h)) ?_;refine q3B ?_; (refine cM (Wt.none) rfl rfl (Ew.makeSlice rfl rfl rfl rfl rfl a6 a6) ?_;rintro _ _ ⟨g19,rfl,rfl⟩);refine q2q ?_;rw [zm3];refine T.bag0 [] (fun _ _ he=>by cases he) (fun _ he=>by cases he) ?_;refine T.bu (List.Perm.swap _ _ _) ?_;refine jO ?_;refine ft ?_;refine cK (dM rfl rfl hsp1 (fun h=>h)) ?_;refine jz ?_;refine T.loop (ι:=List Dx) (fun xs=>[(0, .pointer (some ⟨sp,0,none⟩)),(3,sV g19 L.length),(23, .slice AL L.length capL),(24, .int .i64 (L.length:Int)),(25, .int .i64 (xs.length:Int))]) (fun xs=>[.sl (sV g19 L.length) 59 2 L.length (lP xs L.length), .bag (xs.map dE)]) (fun xs=>xs.length≤L.length∧xs.map lw=zjb Y L xs.length) (fun xs=>L.length - xs.length) [] ?_ ?_ ?_ ?_
 ·exact ⟨Nat.zero_le _,rfl⟩
 ·exact (by repeat (first|exact Sub.nil|refine Sub.cons rfl ?_))
 ·exact Sx
 ·intro xs hphi;obtain ⟨hxl,hxs⟩:=hphi;refine fk ?_;refine T.cond rfl (fun h1=>?_) (fun h1=>?_)
  ·have p1:=h1; (try simp only [cT] at p1);obtain ⟨gL,oL,rfl,hc⟩:=hLs a6;have hk:=hc xs.length a6;simp only [Le] at hk;obtain ⟨gS,oS,rfl,hcS⟩:=hSs a6;have hkS:=hcS xs.length a6;simp only [Ie] at hkS;refine fT ?_;refine dc ?_;refine q1H ?_;refine ji ?_;refine dF (sN 0 13 (.eff 13 (sN 14 2 (.eff 16 .done)))) [.bag (xs.map dE)] a8 Sx ?_;refine TS.run 4 rfl ?_;refine gu ?_;refine cN rfl (dM rfl rfl hsp0 (fun h=>h)) ?_;refine lg ?_;refine cN rfl (dM rfl rfl hS0 (fun h=>h)) ?_;refine eR ?_;refine q2f ?_;refine cN rfl (dW (j:=0) rfl rfl hkS rfl rfl (fun h=>h)) ?_;refine eR ?_;refine dx ?_; (refine cZ rfl (Wt.none) rfl rfl (iG rfl rfl rfl (fun w hw=>zic _ w (h.tab.keptF hw))) ?_;rintro v43 _ ⟨_,hv43,rfl,rfl⟩;refine ⟨Sx,?_⟩);refine cN rfl (Yv.build) ?_;refine q2f ?_;refine dx ?_; (refine dD rfl (Wt.none) rfl (Ew.bU 1 rfl rfl rfl rfl rfl (by rw [zlZ a6];simp;omega)) ?_;rintro _ _ ⟨rfl,rfl⟩;refine ⟨Sx,?_⟩);refine q1W ?_;refine K.bZ 1 ((xs++[(Dx.mk (cH Y.st xs.length) v43 ((c7 (cH L xs.length)).map fun j:Nat=>(j:Int)))]).map dE) rfl (by rw [List.map_append];simp only [List.map_cons,List.map_nil,dE,List.length_map];rw [←zll]) ?_;exact K.next (xs++[(Dx.mk (cH Y.st xs.length) v43 ((c7 (cH L xs.length)).map fun j:Nat=>(j:Int)))]) ⟨by simp;omega,by rw [List.map_append,hxs,List.length_append];exact domsF_succ.symm⟩ cE (by repeat (first|exact Sub.nil|refine Sub.cons rfl ?_|(refine dU rfl b2 ?_))) (by rw [←zi0 (p:=0+xs.length*2) (d:=(Dx.mk (cH Y.st xs.length) v43 ((c7 (cH L xs.length)).map fun j:Nat=>(j:Int)))) a6 a6];exact Sx)
  ·have p1:=h1; (try simp only [cT] at p1);refine mh ?_;refine jE ?_;exact cU rfl rfl (fun w' hw=>⟨(sV g19 L.length,xs),by rw [hxs,show xs.length=Y.n by omega],rfl,by rw [show L.length=xs.length by omega,zka] at hw;rw [show L.length=xs.length by omega];exact hw⟩)
section
variable {n:Nat}{B:World}{M:Nat→Prop}{fs:dV}{hs:HS}{o:Oper}
end
instance:Inhabited (Int×List Int):=⟨(0,[])⟩
def smp (a b c:Value):Pb:={ ds:=[⟨1,a,[14,15]⟩,⟨2,b,[14,15]⟩,⟨3,c,[14,15,16]⟩],ps:=[⟨1,2,0,14,51⟩,⟨2,3,0,14,51⟩],ls:=[⟨3,1,2,14,51⟩,⟨3,2,2,14,51⟩],cs:=[⟨3,1,14,51⟩] }
abbrev sL (g n:Nat):Value:= .slice (some ⟨g,0,none⟩) n n
structure Smp where
 a:Nat
 b:Nat
 c:Nat
 d:Nat
 p:Nat
 l:Nat
 k:Nat
def Smp.pb (s:Smp):Pb:=smp (sL s.a 2) (sL s.b 2) (sL s.c 3)
def Smp.val (s:Smp):List Value:=[sL s.d 3,sL s.p 2,sL s.l 2,sL s.k 1]
def Smp.hs (s:Smp):HS:=[.row s.k 73 (s.pb.cs.flatMap Cp.cells), .row s.l 71 (s.pb.ls.flatMap Ld.cells), .row s.p 69 (s.pb.ps.flatMap Pr.cells), .row s.d 59 (s.pb.ds.flatMap Dx.cells), .row s.c 3 ([14,15,16].flatMap Ie), .row s.b 3 ([14,15].flatMap Ie), .row s.a 3 ([14,15].flatMap Ie)]
theorem zgb {α:Type}{f:BitVec 64→α→BitVec 64}{h:α→Bool}{j:Nat}(hf:∀g x,(f g x).getLsbD j=(g.getLsbD j||h x)):∀(l:List α) (g:BitVec 64),(l.foldl f g).getLsbD j=(g.getLsbD j||l.any h)
 | [],g=>by simp
 |x :: r,g=>by rw [List.foldl_cons,zgb hf r,hf,List.any_cons,Bool.or_assoc]
theorem zj4 {α:Type}{f:BitVec 64→α→BitVec 64}{h:α→Bool}{j:Nat}:∀(l:List α) (g:BitVec 64),(∀x∈l,∀g,(f g x).getLsbD j=(g.getLsbD j||h x))→(l.foldl f g).getLsbD j=(g.getLsbD j||l.any h)
 | [],g,_=>by simp
 |x :: r,g,hf=>by rw [List.foldl_cons,zj4 r _ (fun y hy=>hf y (by simp [hy])),hf x b2,List.any_cons,Bool.or_assoc]
theorem zi8 {c j:Nat}(hj:j<64):(1#64 <<< c).getLsbD j=decide (c=j):=by
 rw [BitVec.getLsbD_shiftLeft,BitVec.getLsbD_one];by_cases h:c=j
 ·subst h;simp [hj]
 ·by_cases h2:j<c
  ·simp [h2,h]
  ·simp [hj,h];omega
theorem zio {g:BitVec 64}{c j:Nat}(hj:j<64):(g ||| 1#64 <<< c).getLsbD j=(g.getLsbD j||decide (c=j)):=by rw [BitVec.getLsbD_or,zi8 hj]
def zeN (L:Ws)(i j:Nat)(x:Pr):Bool:=
 if x.a=(i:Int) then decide ((only L x.b.toNat:Int)≠0∧x.lo≤(only L x.b.toNat:Int) - x.off∧(only L x.b.toNat:Int) - x.off≤x.hi∧((only L x.b.toNat:Int) - x.off).toNat=j)
 else decide (x.lo≤(only L x.a.toNat:Int)∧(only L x.a.toNat:Int)≤x.hi∧((only L x.a.toNat:Int)+x.off).toNat=j)
theorem zin {Y:Tb}{L:Ws}{i j:Nat}(hj:j<64):(lX Y L i).getLsbD j=(Y.ps i).any (zeN L i j):=by
 unfold lX;rw [zgb (h:=zeN L i j) (fun g x=>?_),BitVec.getLsbD_zero,Bool.false_or];unfold mj zeN
 split
 ·split
  ·rename_i h;rw [zio hj];congr 1;exact decide_eq_decide.2 ⟨fun hh=>⟨h.1,h.2.1,h.2.2,hh⟩,fun hh=>hh.2.2.2⟩
  ·rename_i h;have:¬((only L x.b.toNat:Int)≠0∧x.lo≤(only L x.b.toNat:Int) - x.off∧(only L x.b.toNat:Int) - x.off≤x.hi∧((only L x.b.toNat:Int) - x.off).toNat=j):=fun hh=>h ⟨hh.1,hh.2.1,hh.2.2.1⟩;rw [decide_eq_false this,Bool.or_false]
 ·split
  ·rename_i h;rw [zio hj];simp [h]
  ·rename_i h;have:¬(x.lo≤(only L x.a.toNat:Int)∧(only L x.a.toNat:Int)≤x.hi∧((only L x.a.toNat:Int)+x.off).toNat=j):=fun hh=>h ⟨hh.1,hh.2.1⟩;rw [decide_eq_false this,Bool.or_false]
theorem ziY {f:Nat→Int}{g:BitVec 64}{x:Cp}{j:Nat}(hj:j<64)(hlo:0≤x.lo)(hhi:0≤x.hi):(zeJ f g x).getLsbD j=(g.getLsbD j||decide (x.lo≤(j:Int)∧(j:Int)≤x.hi∧x.mx<f j)):=by
 unfold zeJ;rw [zgb (h:=fun d=>decide (x.mx<f d)&&decide (d=j)) (fun g d=>?_)]
 ·congr 1
  rw [Bool.eq_iff_iff,List.any_eq_true,decide_eq_true_eq];constructor
  ·rintro ⟨d,hd,h⟩;obtain ⟨h1,h2⟩:=List.mem_range'_1.1 hd;simp only [Bool.and_eq_true,decide_eq_true_eq] at h;obtain ⟨h3,rfl⟩:=h;exact ⟨by omega,by omega,h3⟩
  ·rintro ⟨h1,h2,h3⟩;exact ⟨j,List.mem_range'_1.2 ⟨by omega,by omega⟩,by simp [h3]⟩
 ·unfold ziG
  split
  ·rename_i h;rw [zio hj];simp [h]
  ·rename_i h;simp [h]
theorem zjE {Y:Tb}{L:Ws}{i j:Nat}(hok:Y.Ok)(hi:i<Y.n)(hj:j<64):(kN Y L i).getLsbD j=(Y.cs i).any fun x=>decide (x.lo≤(j:Int)∧(j:Int)≤x.hi∧x.mx<iu L (Y.inn i) j):=by
 unfold kN;rw [zj4 (h:=fun x=>decide (x.lo≤(j:Int)∧(j:Int)≤x.hi∧x.mx<iu L (Y.inn i) j)) _ _ (fun x hx g=>by have:=(hok.cs i hi).2 x hx;exact ziY hj a6 a6),BitVec.getLsbD_zero,Bool.false_or]
def zeC (Y:Tb)(L:Ws)(i j:Nat)(x:Ld):Bool:=decide (x.lo≤(only L x.to.toNat:Int)∧(only L x.to.toNat:Int)≤x.hi∧only L x.to.toNat=j∧∃c∈Y.cs x.to.toNat,(c.lo≤(j:Int)∧(j:Int)≤c.hi)∧c.mx<jU L i j (Y.inn x.to.toNat))
theorem znF {lost:Int}{d j:Nat}{l:List Cp}{g:BitVec 64}(hj:j<64):(l.foldl (zdU lost d) g).getLsbD j=(g.getLsbD j||(decide (d=j)&&decide (∃c∈l,(c.lo≤(d:Int)∧(d:Int)≤c.hi)∧c.mx<lost))):=by
 rw [zgb (h:=fun c=>decide (d=j)&&decide ((c.lo≤(d:Int)∧(d:Int)≤c.hi)∧c.mx<lost)) (fun g c=>?_)]
 ·congr 1
  rw [Bool.eq_iff_iff,List.any_eq_true];simp only [Bool.and_eq_true,decide_eq_true_eq];constructor
  ·rintro ⟨c,hc,h1,h2⟩;exact ⟨h1,c,hc,h2⟩
  ·rintro ⟨h1,c,hc,h2⟩;exact ⟨c,hc,h1,h2⟩
 ·unfold zdU
  split
  ·rename_i h;rw [zio hj];simp [h]
  ·rename_i h;simp [h]
theorem zhV {Y:Tb}{L:Ws}{i j:Nat}(hj:j<64):(mb Y L i).getLsbD j=(Y.out i).any (zeC Y L i j):=by
 unfold mb;rw [zgb (h:=zeC Y L i j) (fun g x=>?_),BitVec.getLsbD_zero,Bool.false_or];unfold kV
 split
 ·rename_i h;rcases h with h|h
  ·rw [show zeC Y L i j x=false from decide_eq_false (fun hh=>by omega),Bool.or_false]
  ·cases hh:zeC Y L i j x with
   |false=>rw [Bool.or_false]
   |true=>
    have:=of_decide_eq_true hh;rw [this.2.2.1] at h;rw [h];rfl
 ·rename_i h;rw [znF hj]
  congr 1
  unfold zeC;rw [Bool.eq_iff_iff];simp only [Bool.and_eq_true,decide_eq_true_eq];constructor
  ·rintro ⟨rfl,hc⟩;exact ⟨by omega,by omega,rfl,hc⟩
  ·rintro ⟨_,_,rfl,hc⟩;exact ⟨rfl,hc⟩
def Le' (S M:Ws):Prop:=∀i j,(cH S i).getLsbD j=true→(cH M i).getLsbD j=true
theorem zli {a b:BitVec 64}(hs:∀j,a.getLsbD j=true→b.getLsbD j=true)(ha:a≠0#64)(h:iV b≠0):iV a=iV b:=by
 by_cases e:a=b
 ·rw [e]
 ·exact absurd (zhs hs e ha) h
section
variable {Y:Tb}{S M:Ws}
theorem zk4 (hle:Le' S M)(hne:∀i,i<Y.n→cH S i≠0#64){k:Nat}(hk:k<Y.n)(h:only M k≠0):only S k=only M k:=zli (hle k) (hne k hk) h
theorem ziC (hok:Y.Ok)(hle:Le' S M)(hne:∀i,i<Y.n→cH S i≠0#64){d:Nat}(hd:d≠0):∀(l:List Ld),(∀x∈l,0≤x.fr∧x.fr<Y.n∧1≤x.wt)→∀f f':Nat→Int,f d≤f' d→l.foldl (jS M) f d≤l.foldl (jS S) f' d
 | [],_,f,f',h=>h
 |x :: r,hx,f,f',h=>by
  rw [List.foldl_cons,List.foldl_cons];refine ziC hok hle hne hd r (fun y hy=>hx y (by simp [hy])) _ _ ?_;have h1:=hx x b2;unfold jS;by_cases hh:x.lo≤(only M x.fr.toNat:Int)∧(only M x.fr.toNat:Int)≤x.hi∧only M x.fr.toNat=d
  ·have e:=zk4 (Y:=Y) hle hne (k:=x.fr.toNat) a6 a6;rw [if_pos hh,if_pos (by rw [e];exact hh)];omega
  ·rw [if_neg hh];split <;> omega
theorem zjW (hok:Y.Ok)(hle:Le' S M)(hne:∀i,i<Y.n→cH S i≠0#64){i d:Nat}(hd:d≠0):∀(l:List Ld),(∀x∈l,0≤x.fr∧x.fr<Y.n∧1≤x.wt)→∀s s':Int,s≤s'→l.foldl (jR M i d) s≤l.foldl (jR S i d) s'
 | [],_,s,s',h=>h
 |x :: r,hx,s,s',h=>by
  rw [List.foldl_cons,List.foldl_cons];refine zjW hok hle hne hd r (fun y hy=>hx y (by simp [hy])) _ _ ?_;have h1:=hx x b2;unfold jR;by_cases hh:(x.lo≤(d:Int)∧(d:Int)≤x.hi)∧(x.fr=(i:Int)∨only M x.fr.toNat=d)
  ·rw [if_pos hh,if_pos ⟨hh.1,by
    rcases hh.2 with h2|h2
    ·exact .inl h2
    ·exact .inr (by rw [zk4 (Y:=Y) hle hne (k:=x.fr.toNat) a6 a6];exact h2)⟩]
   omega
  ·rw [if_neg hh];split <;> omega
theorem zlv (hok:Y.Ok)(hle:Le' S M)(hne:∀i,i<Y.n→cH S i≠0#64){i j:Nat}(hi:i<Y.n)(h:(jo Y M i).getLsbD j=true):(jo Y S i).getLsbD j=true:=by
 have hj:j<64:=BitVec.lt_of_getLsbD h;unfold jo at h ⊢;rw [BitVec.getLsbD_or,BitVec.getLsbD_or,zin hj,zjE hok hi hj,zhV hj,Bool.or_eq_true,Bool.or_eq_true,List.any_eq_true,List.any_eq_true,List.any_eq_true] at h ⊢;rcases h with (⟨x,hx,h⟩|⟨x,hx,h⟩)|⟨x,hx,h⟩
 ·refine .inl (.inl ⟨x,hx,?_⟩);have hr:=(hok.ps i hi).2 x hx;unfold zeN at h ⊢
  split at h
  ·rename_i ha;rw [if_pos ha];have h1:=of_decide_eq_true h;have e:=zk4 (Y:=Y) hle hne (k:=x.b.toNat) a6 a6;rw [e];exact h
  ·rename_i ha;rw [if_neg ha];have h1:=of_decide_eq_true h;have e:=zk4 (Y:=Y) hle hne (k:=x.a.toNat) a6 a6;rw [e];exact h
 ·refine .inl (.inr ⟨x,hx,?_⟩);have hr:=(hok.cs i hi).2 x hx;have h1:=of_decide_eq_true h;have hm:=ziC hok hle hne (d:=j) a6 (Y.inn i) (fun y hy=>by have:=(hok.inn i hi).2 y hy;omega) (fun _=>0) (fun _=>0) (Int.le_refl _);exact decide_eq_true ⟨h1.1,h1.2.1,by have:iu M (Y.inn i) j≤iu S (Y.inn i) j:=hm;omega⟩
 ·refine .inr ⟨x,hx,?_⟩;have hr:=(hok.out i hi).2 x hx;have h1:=of_decide_eq_true h;obtain ⟨h2,h3,h4,c,hc,h5,h6⟩:=h1;have e:=zk4 (Y:=Y) hle hne (k:=x.to.toNat) a6 a6;have hm:=zjW hok hle hne (i:=i) (d:=j) a6 (Y.inn x.to.toNat) (fun y hy=>by have:=(hok.inn _ (show x.to.toNat<Y.n by omega)).2 y hy;omega) 0 0 (Int.le_refl _);exact decide_eq_true ⟨by rw [e];exact h2,by rw [e];exact h3,by rw [e];exact h4,c,hc,h5,by have:jU M i j (Y.inn x.to.toNat)≤jU S i j (Y.inn x.to.toNat):=hm;omega⟩
structure Closed (Y:Tb) (S:Ws):Prop where
 len:S.length=Y.n
 calm:∀i,i<Y.n→zhP Y S i
theorem Closed.ne (h:Closed Y S):∀i,i<Y.n→cH S i≠0#64:=fun i hi=>(h.calm i hi).1
theorem Closed.keep (hok:Y.Ok)(h:Closed Y S){L:Ws}(hl:L.length=Y.n)(hle:Le' S L)(hr:Reach Y L M):Le' S M:=by
 induction hr with
 |refl=>exact hle
 | @step M' k b hr hk hb ih=>
  intro i j hij;rw [kG (by rw [hr.len,hl];exact hk)]
  split
  ·rename_i e;subst e;rw [BitVec.getLsbD_and,ih i j hij,BitVec.getLsbD_not,Bool.true_and];have hj:j<64:=BitVec.lt_of_getLsbD hij
   cases hbj:b.getLsbD j with
   |false=>simp [hj]
   |true=>
    have h1:=zlv hok ih h.ne hk (hb j hbj);have h2:=congrArg (fun v=>BitVec.getLsbD v j) (h.calm i hk).2;simp only [BitVec.getLsbD_and,BitVec.getLsbD_zero] at h2;rw [hij,h1] at h2
    cases h2
  ·exact ih i j hij
structure Is (Y:Tb) (T L:Ws) (c:Bool):Prop where
 tlen:T.length=Y.n
 len:L.length=Y.n
 sub:Le' L T
 best:∀S,Closed Y S→Le' S T→Le' S L
 bad:c=true→∃i,i<Y.n∧cH L i=0#64
 good:c=false→Closed Y L
theorem my {T L:Ws}{c:Bool}(hok:Y.Ok)(hl:T.length=Y.n)(h:gD Y T L c):Is Y T L c:=
 ⟨hl,h.2.1,h.1.sub hl,fun S hS hle=>hS.keep hok hl hle h.1,h.2.2.1,fun hc=>⟨h.2.1,h.2.2.2 hc⟩⟩
theorem iN (h1:Le' S M)(h2:Le' M S)(hl:S.length=M.length):S=M:=by
 apply List.ext_getElem hl;intro i hi1 hi2;have a1:=h1 i;have a2:=h2 i;rw [d4 hi1,d4 hi2] at a1 a2;apply BitVec.eq_of_getLsbD_eq;intro j _
 cases h:S[i].getLsbD j with
 |true=>rw [a1 j h]
 |false=>
  cases h':M[i].getLsbD j with
  |false=>rfl
  |true=>rw [a2 j h'] at h;cases h
theorem Is.cut {T L L':Ws}{c:Bool}{i:Nat}{g:BitVec 64}(hok:Y.Ok)(hi:i<Y.n)(h:Is Y T L false)(k:Is Y (dr L i g) L' c):Is Y (dr T i g) L' c where
 tlen:=by unfold dr;rw [List.length_set,h.tlen]
 len:=k.len
 sub a j hj:=by
  have h1:=k.sub a j hj;unfold dr at h1 ⊢;rw [kG (by rw [h.len];exact hi)] at h1;rw [kG (by rw [h.tlen];exact hi)]
  split at h1
  ·rename_i e;rw [if_pos e];rw [BitVec.getLsbD_and,Bool.and_eq_true] at h1 ⊢;exact ⟨h.sub _ _ h1.1,h1.2⟩
  ·rename_i e;rw [if_neg e];exact h.sub _ _ h1
 best S hS hle:=k.best S hS (fun a j hj=>by
  have h0:Le' S T:=fun a j hj=>by
   have:=hle a j hj;unfold dr at this;rw [kG (by rw [h.tlen];exact hi)] at this
   split at this
   ·rename_i e;subst e;rw [BitVec.getLsbD_and,Bool.and_eq_true] at this;exact this.1
   ·exact this
  have h1:=h.best S hS h0 a j hj;have h2:=hle a j hj;unfold dr at h2 ⊢;rw [kG (by rw [h.tlen];exact hi)] at h2;rw [kG (by rw [h.len];exact hi)]
  split at h2
  ·rename_i e;rw [if_pos e];subst e;rw [BitVec.getLsbD_and,Bool.and_eq_true] at h2 ⊢;exact ⟨h1,h2.2⟩
  ·rename_i e;rw [if_neg e];exact h1)
 bad:=k.bad
 good:=k.good
theorem Is.eq {T L K:Ws}{c:Bool}(hok:Y.Ok)(h:Is Y T L c)(hK:Closed Y K)(hr:Reach Y T K):L=K∧c=false:=by
 have hKT:Le' K T:=hr.sub h.tlen;have h1:=h.best K hK hKT
 have hc:c=false:=by
  cases c with
  |false=>rfl
  |true=>
   obtain ⟨i,hi,h0⟩:=h.bad rfl;exfalso;apply hK.ne i hi;apply BitVec.eq_of_getLsbD_eq;intro j _
   cases hh:(cH K i).getLsbD j with
   |false=>rw [BitVec.getLsbD_zero]
   |true=>have:=h1 i j hh;rw [h0,BitVec.getLsbD_zero] at this;cases this
 subst hc;exact ⟨iN ((h.good rfl).keep hok h.tlen h.sub hr) h1 (by rw [h.len,hK.len]),rfl⟩
theorem Is.conflict {T L K:Ws}{c:Bool}{i:Nat}(hok:Y.Ok)(h:Is Y T L c)(hi:i<Y.n)(h0:cH K i=0#64)(hr:Reach Y T K):c=true:=by
 cases c with
 |true=>rfl
 |false=>
  have hL:=h.good rfl;have h1:=hL.keep hok h.tlen h.sub hr;exfalso;apply hL.ne i hi;apply BitVec.eq_of_getLsbD_eq;intro j _
  cases hh:(cH L i).getLsbD j with
  |false=>rw [BitVec.getLsbD_zero]
  |true=>have:=h1 i j hh;rw [h0,BitVec.getLsbD_zero] at this;cases this
end
theorem zol (ds:List Dx):∀k j,0≤dS ds k j∧dS ds k j≤(k:Int)
 |0,j=>by simp [dS]
 |k+1,j=>by
  have:=zol ds k j
  show 0≤(if j=(cH ds k).st.toNat then (k:Int)+1 else dS ds k j)∧(if j=(cH ds k).st.toNat then (k:Int)+1 else dS ds k j)≤((k+1:Nat):Int)
  split <;> omega
theorem TbOf.n {P:Pb}{Y:Tb}(h:TbOf P Y):Y.n=P.ds.length:=by unfold Tb.n;rw [h.st];simp
theorem TbOf.ixn {P:Pb}{Y:Tb}(h:TbOf P Y):∀j,0≤Y.ix j∧Y.ix j≤Y.n:=fun j=>by rw [h.ix,h.n];exact zol _ _ _
theorem NewIs.is {P:Pb}{Y:Tb}{L:Ws}{c:Bool}{tp:Nat}{w0:World}(hG:P.Good)(h:NewIs P Y L c tp w0):Is Y P.left L c:=my (h.tb.ok hG) (by rw [h.tb.n];simp [Pb.left]) h.post
theorem zmf {Y:Tb}{T L L':Ws}{c:Bool}{i:Nat}{g:BitVec 64}(hok:Y.Ok)(hi:i<Y.n)(h:Is Y T L false)(k:gD Y (dr L i g) L' c):Is Y (dr T i g) L' c:=
 h.cut hok hi (my hok (by unfold dr;rw [List.length_set,h.len]) k)
structure Ac where
 kind:Int
 ch:Ch
deriving DecidableEq,Inhabited
def Ac.cells (a:Ac):List Value:=[.int .i64 a.kind, .int .i64 a.ch.st, .int .i64 a.ch.ch]
def Ac.bits (a:Ac):BitVec 64:=if a.kind=0 then ~~~(1#64 <<< a.ch.ch.toNat) else 1#64 <<< a.ch.ch.toNat
def kX (Y:Tb)(T:Ws)(a:Ac):Ws:=if (gv Y false a.ch).2=0 then dr T (gv Y false a.ch).1.toNat a.bits else T
structure Fin (Y:Tb) (T L:Ws) (c:Bool):Prop where
 tlen:T.length=Y.n
 len:L.length=Y.n
 good:c=false→Is Y T L false
 bad:c=true→∀S,Closed Y S→¬Le' S T
section
variable {Y:Tb}{T L L':Ws}{c c':Bool}
theorem Is.fin (h:Is Y T L c):Fin Y T L c where
 tlen:=h.tlen
 len:=h.len
 good hc:=hc▸h
 bad hc S hS hle:=by
  obtain ⟨i,hi,h0⟩:=h.bad hc;apply hS.ne i hi;apply BitVec.eq_of_getLsbD_eq;intro j _
  cases hh:(cH S i).getLsbD j with
  |false=>rw [BitVec.getLsbD_zero]
  |true=>have:=h.best S hS hle i j hh;rw [h0,BitVec.getLsbD_zero] at this;cases this
theorem zkT {i:Nat}{g:BitVec 64}:Le' (dr T i g) T:=fun a j hj=>by
 unfold dr at hj;by_cases hi:i<T.length
 ·rw [kG hi] at hj
  split at hj
  ·rename_i e;subst e;rw [BitVec.getLsbD_and,Bool.and_eq_true] at hj;exact hj.1
  ·exact hj
 ·rw [List.set_eq_of_length_le a6] at hj;exact hj
theorem zn1 {a:Ac}:Le' (kX Y T a) T:=by
 unfold kX;split
 ·exact zkT
 ·exact fun _ _ h=>h
theorem zmO {a:Ac}:(kX Y T a).length=T.length:=by
 unfold kX dr;split <;> simp
theorem Fin.skip {a:Ac}(h:Fin Y T L true):Fin Y (kX Y T a) L true:=
 ⟨by rw [zmO,h.tlen],h.len,(fun hh=>by cases hh),fun _ S hS hle=>h.bad rfl S hS (fun i j hj=>zn1 i j (hle i j hj))⟩
theorem Fin.step {a:Ac}(hok:Y.Ok)(hix:∀j,0≤Y.ix j∧Y.ix j≤Y.n)(h:Fin Y T L false)(he:(gv Y false a.ch).2=0)(hp:gD Y (dr L (gv Y false a.ch).1.toNat a.bits) L' c'):Fin Y (kX Y T a) L' c':=by
 unfold kX;rw [if_pos he];have:=zcX hix he;exact (zmf hok a6 (h.good rfl) hp).fin
theorem Fin.same (h:Fin Y T L c)(h':Fin Y T L' c'):c=c'∧(c=false→L=L'):=by
 have hc:c=c':=by
  cases c with
  |true=>
   cases c' with
   |true=>rfl
   |false=>exact absurd (h'.good rfl).sub (h.bad rfl L' ((h'.good rfl).good rfl))
  |false=>
   cases c' with
   |false=>rfl
   |true=>exact absurd (h.good rfl).sub (h'.bad rfl L ((h.good rfl).good rfl))
 subst hc;refine ⟨rfl,fun hf=>?_⟩;have a:=h.good hf;have b:=h'.good hf;exact iN (b.best L (a.good rfl) a.sub) (a.best L' (b.good rfl) b.sub) (by rw [h.len,h'.len])
end
def Pr.er (x:Pr):GPair:=⟨x.a,x.b,x.off,x.lo,x.hi⟩
def Ld.er (x:Ld):GLoad:=⟨x.to,x.fr,x.wt,x.lo,x.hi⟩
def Cp.er (x:Cp):GCap:=⟨x.st,x.mx,x.lo,x.hi⟩
def Dx.er (x:Dx):GDomain:=⟨x.st,x.chs⟩
def Pb.er (P:Pb):GProblem:=⟨P.ds.map Dx.er,⟨P.ps.map Pr.er,P.ls.map Ld.er,P.cs.map Cp.er⟩⟩
def gd (Y:Tb)(L:Ws):List GDomain:=(List.range Y.n).map fun i=>⟨cH Y.st i,(c7 (cH L i)).map fun j:Nat=>(j:Int)⟩
theorem iB {Y:Tb}{L:Ws}:(gd Y L).length=Y.n:=by simp [gd]
theorem i8 {Y:Tb}{L:Ws}{i:Nat}(h:i<Y.n):cH (gd Y L) i=⟨cH Y.st i,(c7 (cH L i)).map fun j:Nat=>(j:Int)⟩:=by
 rw [d4 (by rw [iB];exact h)];simp [gd]
theorem zg8 {b:BitVec 64}(hb:b≠0#64){c:Int}(hc:c≠0):(∀j∈c7 b,(j:Int)=c)↔((iV b:Nat):Int)=c:=by
 have hz:=(zeb hb 0).1;constructor
 ·intro h;have h1:=h (ctz b) (dN.2 hz)
  have h2:b &&& (b - 1#64)=0#64:=by
   apply BitVec.eq_of_getLsbD_eq;intro j _;rw [zfh hb,BitVec.getLsbD_zero]
   cases hj:b.getLsbD j with
   |false=>rfl
   |true=>have:=h j (dN.2 hj);simp;omega
  unfold iV;rw [if_pos ⟨hb,h2⟩];exact h1
 ·intro h j hj;unfold iV at h
  split at h
  ·rename_i h2;have h3:=congrArg (fun v=>BitVec.getLsbD v j) h2.2;simp only [zfh hb,BitVec.getLsbD_zero,dN.1 hj,Bool.true_and,Bool.not_eq_false',decide_eq_true_eq] at h3;rw [h3];exact h
  ·exact absurd h.symm hc
theorem zfn {α:Type}{p q:α→Bool}:∀ {l:List α},(∀x∈l,p x=q x)→l.any p=l.any q
 | [],_=>rfl
 |x :: r,h=>by rw [List.any_cons,List.any_cons,h x b2,zfn (l:=r) (fun y hy=>h y (by simp [hy]))]
theorem zn6 {P:Pb}(h:P.ok=true):P.ls.length≤1024:=by
 simp only [Pb.ok,Pb.rulesOk,Bool.and_eq_true,decide_eq_true_eq] at h;omega
section
variable {P:Pb}{Y:Tb}{L:Ws}
theorem TbOf.nth_st (hY:TbOf P Y){i:Nat}(hi:i<Y.n):cH Y.st i=(cH P.ds i).st:=by
 rw [hY.st];exact jy (by rw [←hY.n];exact hi)
theorem zeZ (hG:P.Good)(hY:TbOf P Y){i j:Nat}(hi:i<Y.n)(hj:j<Y.n)(h:cH Y.st i=cH Y.st j):i=j:=by
 rw [hY.nth_st hi,hY.nth_st hj] at h;have hn:=hY.n;rcases Nat.lt_trichotomy i j with h1|h1|h1
 ·have:=hG.inc i j h1 a6;omega
 ·exact h1
 ·have:=hG.inc j i h1 a6;omega
theorem zeD (hG:P.Good)(hY:TbOf P Y)(hne:∀i,i<Y.n→cH L i≠0#64){k:Nat}(hk:k<Y.n){c:Int}(hc:c≠0):iC (gd Y L) (cH Y.st k) c=true↔((only L k:Nat):Int)=c:=by
 rw [eO];unfold only;rw [←zg8 (hne k hk) hc];constructor
 ·intro h j hj;exact h (cH (gd Y L) k) (eh (by rw [iB];exact hk)) (by rw [i8 hk]) j (by rw [i8 hk];exact List.mem_map.2 ⟨j,hj,rfl⟩)
 ·intro h x hx hs q hq;obtain ⟨i,hi,rfl⟩:=fW hx;rw [iB] at hi;rw [i8 hi] at hs hq;obtain rfl:=zeZ hG hY hi hk hs;obtain ⟨j,hj,rfl⟩:=List.mem_map.1 hq;exact h j hj
theorem zjp (hG:P.Good)(hY:TbOf P Y){i:Nat}(hi:i<Y.n):P.ix (cH Y.st i)=(i:Int):=by
 rw [hY.nth_st hi];exact eE hG (by rw [←hY.n];exact hi)
theorem zmV (hG:P.Good)(hY:TbOf P Y)(hne:∀i,i<Y.n→cH L i≠0#64){i j:Nat}(hi:i<Y.n)(hj:j<64):P.er.Rules.Pairs.any (me (gd Y L) (cH Y.st i) j)=(Y.ps i).any (zeN L i j):=by
 have hn:=hY.n
 have key:∀x∈P.ps,((decide ((P.rp x).a=(i:Int))||decide ((P.rp x).b=(i:Int)))&&zeN L i j (P.rp x))=me (gd Y L) (cH Y.st i) j x.er:=by
  intro x hx;obtain ⟨hok,⟨ia,hia,ha⟩,⟨ib,hib,hb⟩⟩:=hG.ps x hx;simp only [Pr.ok,eY,inB,Bool.and_eq_true,decide_eq_true_eq] at hok; (have hsa:x.a=cH Y.st ia:=by rw [hY.nth_st a6];exact ha); (have hsb:x.b=cH Y.st ib:=by rw [hY.nth_st a6];exact hb); (have e1:(P.rp x).a=(ia:Int):=by unfold Pb.rp;dsimp only;rw [hsa,zjp hG hY a6]); (have e2:(P.rp x).b=(ib:Int):=by unfold Pb.rp;dsimp only;rw [hsb,zjp hG hY a6]);have e3:(P.rp x).off=x.off:=rfl;have e4:(P.rp x).lo=x.lo:=rfl;have e5:(P.rp x).hi=x.hi:=rfl;have ea:x.a=cH Y.st i↔ia=i:=⟨fun h=>zeZ hG hY a6 hi (hsa.symm.trans h),fun h=>by rw [hsa,h]⟩;have eb:x.b=cH Y.st i↔ib=i:=⟨fun h=>zeZ hG hY a6 hi (hsb.symm.trans h),fun h=>by rw [hsb,h]⟩;have w1:wI ((j:Int)+x.off)=(j:Int)+x.off:=zgE a6;have w2:wI ((j:Int) - x.off)=(j:Int) - x.off:=zgE a6;rw [Bool.eq_iff_iff];unfold zeN me Pr.er;simp only [e1,e2,e3,e4,e5,w1,w2,Bool.and_eq_true,Bool.or_eq_true,decide_eq_true_eq,ea,eb,Int.toNat_natCast]; (have hab:ia≠ib:=fun h=>by subst h;omega);by_cases h1:ia=i
  ·subst h1;rw [if_pos rfl];simp only [decide_eq_true_eq];rw [hsb];constructor
   ·rintro ⟨_,h2,h3,h4,h5⟩;exact .inl ⟨⟨trivial,by omega,by omega⟩,(zeD hG hY hne a6 a6).2 a6⟩
   ·rintro (⟨⟨_,h2⟩,h3⟩|⟨⟨h2,_⟩,_⟩)
    ·have:=(zeD hG hY hne (k:=ib) a6 a6).1 h3;exact ⟨.inl trivial,by omega,by omega,by omega,by omega⟩
    ·exact absurd h2.symm hab
  ·rw [if_neg a6];simp only [decide_eq_true_eq];rw [hsa];constructor
   ·rintro ⟨h2,h3,h4,h5⟩;exact .inr ⟨⟨by omega,by omega,by omega⟩,(zeD hG hY hne a6 a6).2 a6⟩
   ·rintro (⟨⟨h2,_⟩,_⟩|⟨⟨h2,h3⟩,h4⟩)
    ·exact absurd h2 h1
    ·have:=(zeD hG hY hne (k:=ia) a6 a6).1 h4;exact ⟨.inr a6,by omega,by omega,by omega⟩
 show (P.ps.map Pr.er).any _=_
 rw [hY.ps];unfold Pb.psA;rw [List.take_length,List.any_map,List.any_filter,List.any_map];exact zfn fun x hx=>(key x hx).symm
theorem zjo (hG:P.Good)(hY:TbOf P Y){x:Ld}(hx:x∈P.ls):∃a b,a<Y.n∧b<Y.n∧x.to=cH Y.st a∧x.fr=cH Y.st b∧(P.rl x).to=(a:Int)∧(P.rl x).fr=(b:Int)∧0≤x.fr∧1≤x.wt∧x.wt≤1073741824∧2≤x.lo:=by
 have hn:=hY.n;obtain ⟨hok,⟨ia,hia,ha⟩,⟨ib,hib,hb⟩⟩:=hG.ls x hx;simp only [Ld.ok,eY,inB,Bool.and_eq_true,decide_eq_true_eq] at hok; (have hsa:x.to=cH Y.st ia:=by rw [hY.nth_st a6];exact ha); (have hsb:x.fr=cH Y.st ib:=by rw [hY.nth_st a6];exact hb);refine ⟨ia,ib,by omega,by omega,hsa,hsb,?_,?_,by omega,by omega,by omega,by omega⟩
 ·unfold Pb.rl;dsimp only;rw [hsa,zjp hG hY a6]
 ·unfold Pb.rl;dsimp only;rw [hsb,zjp hG hY a6]
theorem ziO (hG : P.Good) (hY : TbOf P Y) (hne : ∀ i, i < Y.n → cH L i ≠ 0#64) {t j : Nat} (ht : t < Y.n) (hj0 : j ≠ 0) : ∀ (l : List Ld), (∀ x ∈ l, x ∈ P.ls) → ∀ (f : Nat → Int), 0 ≤ f j → f j + 1073741824 * (l.length : Int) ≤ 4611686018427387904 →
    (l.map Ld.er).foldl (fun n x => bif loadC (gd Y L) (cH Y.st t) j (-1) x then wI (n + x.Weight) else n) (f j) = ((l.map P.rl).filter fun x => decide (x.to = (t : Int))).foldl (jS L) f j
  | [], _, f, _, _ => rfl
  | x :: r, hl, f, h0, hb => by
    obtain ⟨a, b, ha, hbn, hsa, hsb, e1, e2, h1, h2, h3, h4⟩ := zjo hG hY (hl x b2); simp only [List.length_cons] at hb; have hw : wI (f j + x.wt) = f j + x.wt := zgE a6; have hto : x.to = cH Y.st t ↔ a = t := ⟨fun h => zeZ hG hY ha ht (hsa.symm.trans h), fun h => by rw [hsa, h]⟩
    have hon : iC (gd Y L) x.fr j = true ↔ only L b = j := by
      rw [hsb, zeD hG hY hne hbn a6]; omega
    rw [List.map_cons, List.map_cons, List.foldl_cons, List.filter_cons]
    have hc : loadC (gd Y L) (cH Y.st t) j (-1) x.er = decide (a = t ∧ (x.lo ≤ (j : Int) ∧ (j : Int) ≤ x.hi) ∧ only L b = j) := by
      rw [Bool.eq_iff_iff]; unfold loadC Ld.er;simp only [Bool.and_eq_true, Bool.or_eq_true, decide_eq_true_eq, hto, hon]; constructor
      · rintro ⟨⟨h5, h6⟩, h7 | h7⟩
        · omega
        · exact ⟨h5, h6, h7⟩
      · rintro ⟨h5, h6, h7⟩; exact ⟨⟨h5, h6⟩, .inr h7⟩
    rw [hc]; by_cases hat : a = t
    · subst hat; rw [if_pos (by rw [e1]; simp), List.foldl_cons]
      have hs : jS L f (P.rl x) j = bif decide (a = a ∧ (x.lo ≤ (j : Int) ∧ (j : Int) ≤ x.hi) ∧ only L b = j) then wI (f j + x.er.Weight) else f j := by
        show (if x.lo ≤ (only L (P.rl x).fr.toNat : Int) ∧ (only L (P.rl x).fr.toNat : Int) ≤ x.hi ∧ only L (P.rl x).fr.toNat = j then f j + x.wt else f j) = _
        rw [e2, Int.toNat_natCast]; by_cases h5 : (x.lo ≤ (j : Int) ∧ (j : Int) ≤ x.hi) ∧ only L b = j
        · rw [if_pos ⟨by rw [h5.2]; omega, by rw [h5.2]; omega, h5.2⟩, decide_eq_true ⟨rfl, h5⟩, cond_true]; exact hw.symm
        · rw [if_neg (fun h6 => h5 ⟨by rw [← h6.2.2]; omega, h6.2.2⟩), decide_eq_false (fun h6 => h5 h6.2), cond_false]
      rw [← hs]; refine ziO hG hY hne ht hj0 r (fun y hy => hl y (by simp [hy])) (jS L f (P.rl x)) ?_ ?_
      · rw [hs]; cases decide (a = a ∧ (x.lo ≤ (j : Int) ∧ (j : Int) ≤ x.hi) ∧ only L b = j)
        · exact h0
        · show 0 ≤ wI (f j + x.wt); rw [hw]; omega
      · rw [hs]; cases decide (a = a ∧ (x.lo ≤ (j : Int) ∧ (j : Int) ≤ x.hi) ∧ only L b = j)
        · rw [cond_false]; omega
        · show wI (f j + x.wt) + _ ≤ _; rw [hw]; omega
    · rw [if_neg (by rw [e1]; simp; omega), decide_eq_false (fun h => hat h.1), cond_false]; exact ziO hG hY hne ht hj0 r (fun y hy => hl y (by simp [hy])) f h0 a6
theorem zlh (hG : P.Good) (hY : TbOf P Y) (hne : ∀ i, i < Y.n → cH L i ≠ 0#64) {t i j : Nat} (ht : t < Y.n) (hi : i < Y.n) (hj0 : j ≠ 0) : ∀ (l : List Ld), (∀ x ∈ l, x ∈ P.ls) → ∀ (n : Int), 0 ≤ n → n + 1073741824 * (l.length : Int) ≤ 4611686018427387904 →
    (l.map Ld.er).foldl (fun n x => bif loadC (gd Y L) (cH Y.st t) j (cH Y.st i) x then wI (n + x.Weight) else n) n = ((l.map P.rl).filter fun x => decide (x.to = (t : Int))).foldl (jR L i j) n
  | [], _, n, _, _ => rfl
  | x :: r, hl, n, h0, hb => by
    obtain ⟨a, b, ha, hbn, hsa, hsb, e1, e2, h1, h2, h3, h4⟩ := zjo hG hY (hl x b2); simp only [List.length_cons] at hb; have hw : wI (n + x.wt) = n + x.wt := zgE a6; have hto : x.to = cH Y.st t ↔ a = t := ⟨fun h => zeZ hG hY ha ht (hsa.symm.trans h), fun h => by rw [hsa, h]⟩; have hfr : x.fr = cH Y.st i ↔ b = i := ⟨fun h => zeZ hG hY hbn hi (hsb.symm.trans h), fun h => by rw [hsb, h]⟩
    have hon : iC (gd Y L) x.fr j = true ↔ only L b = j := by
      rw [hsb, zeD hG hY hne hbn a6]; omega
    rw [List.map_cons, List.map_cons, List.foldl_cons, List.filter_cons]
    have hc : loadC (gd Y L) (cH Y.st t) j (cH Y.st i) x.er = decide (a = t ∧ (x.lo ≤ (j : Int) ∧ (j : Int) ≤ x.hi) ∧ (b = i ∨ only L b = j)) := by
      rw [Bool.eq_iff_iff]; unfold loadC Ld.er;simp only [Bool.and_eq_true, Bool.or_eq_true, decide_eq_true_eq, hto, hon, hfr, and_assoc]
    rw [hc]; by_cases hat : a = t
    · subst hat; rw [if_pos (by rw [e1]; simp), List.foldl_cons]
      have hs : jR L i j n (P.rl x) = bif decide (a = a ∧ (x.lo ≤ (j : Int) ∧ (j : Int) ≤ x.hi) ∧ (b = i ∨ only L b = j)) then wI (n + x.er.Weight) else n := by
        show (if (x.lo ≤ (j : Int) ∧ (j : Int) ≤ x.hi) ∧ ((P.rl x).fr = (i : Int) ∨ only L (P.rl x).fr.toNat = j) then n + x.wt else n) = _
        rw [e2, Int.toNat_natCast]; by_cases h5 : (x.lo ≤ (j : Int) ∧ (j : Int) ≤ x.hi) ∧ (b = i ∨ only L b = j)
        · rw [if_pos ⟨h5.1, h5.2.imp (fun h => by omega) id⟩, decide_eq_true ⟨rfl, h5⟩, cond_true]; exact hw.symm
        · rw [if_neg (fun h6 => h5 ⟨h6.1, h6.2.imp (fun h => by omega) id⟩), decide_eq_false (fun h6 => h5 h6.2), cond_false]
      rw [← hs]; refine zlh hG hY hne ht hi hj0 r (fun y hy => hl y (by simp [hy])) _ ?_ ?_
      · rw [hs]; cases decide (a = a ∧ (x.lo ≤ (j : Int) ∧ (j : Int) ≤ x.hi) ∧ (b = i ∨ only L b = j))
        · exact h0
        · show 0 ≤ wI (n + x.wt); rw [hw]; omega
      · rw [hs]; cases decide (a = a ∧ (x.lo ≤ (j : Int) ∧ (j : Int) ≤ x.hi) ∧ (b = i ∨ only L b = j))
        · rw [cond_false]; omega
        · show wI (n + x.wt) + _ ≤ _; rw [hw]; omega
    · rw [if_neg (by rw [e1]; simp; omega), decide_eq_false (fun h => hat h.1), cond_false]; exact zlh hG hY hne ht hi hj0 r (fun y hy => hl y (by simp [hy])) n h0 a6
theorem zlA (hG:P.Good)(hY:TbOf P Y){t j:Nat}(ht:t<Y.n){l:Int}:kz P.er (cH Y.st t) j l=true↔∃x∈Y.cs t,(x.lo≤(j:Int)∧(j:Int)≤x.hi)∧x.mx<l:=by
 have hn:=hY.n;unfold kz
 show (P.cs.map Cp.er).any _=true↔_
 rw [hY.cs,List.any_eq_true];unfold Pb.csA;rw [List.take_length];constructor
 ·rintro ⟨y,hy,h⟩;obtain ⟨x,hx,rfl⟩:=List.mem_map.1 hy;rw [Bool.and_eq_true,Bool.and_eq_true] at h;have h1:x.st=cH Y.st t:=of_decide_eq_true h.1.1;refine ⟨P.rc x,List.mem_filter.2 ⟨List.mem_map.2 ⟨x,hx,rfl⟩,?_⟩,of_decide_eq_true h.1.2,of_decide_eq_true h.2⟩;unfold Pb.rc;dsimp only;rw [h1,zjp hG hY ht];simp
 ·rintro ⟨y,hy,h⟩;obtain ⟨h1,h2⟩:=List.mem_filter.1 hy;obtain ⟨x,hx,rfl⟩:=List.mem_map.1 h1;refine ⟨x.er,List.mem_map.2 ⟨x,hx,rfl⟩,?_⟩;obtain ⟨_,k,hk,hs⟩:=hG.cs x hx; (have hs':x.st=cH Y.st k:=by rw [hY.nth_st a6];exact hs);have h3:P.ix x.st=(t:Int):=of_decide_eq_true h2;rw [hs',zjp hG hY a6] at h3; (have:k=t:=by omega);subst this;rw [Bool.and_eq_true,Bool.and_eq_true];exact ⟨⟨decide_eq_true hs',decide_eq_true h.1⟩,decide_eq_true h.2⟩
theorem zlm (hG:P.Good)(hok:P.ok=true)(hY:TbOf P Y)(hne:∀i,i<Y.n→cH L i≠0#64){t j:Nat}(ht:t<Y.n)(hj0:j≠0):gQ P.er (gd Y L) (cH Y.st t) j (-1)=iu L (Y.inn t) j:=by
 have hl:=zn6 hok;unfold gQ iu;rw [hY.inn];unfold Pb.inA;rw [List.take_length];exact ziO hG hY hne ht hj0 P.ls (fun _ h=>h) (fun _=>0) (Int.le_refl _) a6
theorem zmo (hG:P.Good)(hok:P.ok=true)(hY:TbOf P Y)(hne:∀i,i<Y.n→cH L i≠0#64){t i j:Nat}(ht:t<Y.n)(hi:i<Y.n)(hj0:j≠0):gQ P.er (gd Y L) (cH Y.st t) j (cH Y.st i)=jU L i j (Y.inn t):=by
 have hl:=zn6 hok;unfold gQ jU;rw [hY.inn];unfold Pb.inA;rw [List.take_length];exact zlh hG hY hne ht hi hj0 P.ls (fun _ h=>h) 0 (Int.le_refl _) a6
theorem zjx (hok:P.ok=true)(hY:TbOf P Y)(hne:∀i,i<Y.n→cH L i≠0#64){i j:Nat}(hi:i<Y.n)(hj0:j≠0)(hj:j<64):ir P.er (gd Y L) (cH Y.st i) j=(jo Y L i).getLsbD j:=by
 have hG:=Pb.good hok;have hYo:=hY.ok hG;unfold ir jo;rw [BitVec.getLsbD_or,BitVec.getLsbD_or,zin hj,zjE hYo hi hj,zhV hj,zmV hG hY hne hi hj]
 congr 1
 ·congr 1
  rw [Bool.eq_iff_iff,zlm hG hok hY hne hi hj0,zlA hG hY hi,List.any_eq_true];simp only [decide_eq_true_eq,and_assoc]
 ·have key:∀x∈P.ls,(decide ((P.rl x).fr=(i:Int))&&zeC Y L i j (P.rl x))=loadR P.er (gd Y L) (cH Y.st i) j x.er:=by
   intro x hx;obtain ⟨a,b,ha,hbn,hsa,hsb,e1,e2,h1,h2,h3,h4⟩:=zjo hG hY hx;have hfr:x.fr=cH Y.st i↔b=i:=⟨fun h=>zeZ hG hY hbn hi (hsb.symm.trans h),fun h=>by rw [hsb,h]⟩
   have hon:iC (gd Y L) x.to j=true↔only L a=j:=by
    rw [hsa,zeD hG hY hne ha a6];omega
   have hov:kz P.er x.to j (gQ P.er (gd Y L) x.to j (cH Y.st i))=true↔∃c∈Y.cs a,(c.lo≤(j:Int)∧(j:Int)≤c.hi)∧c.mx<jU L i j (Y.inn a):=by
    rw [hsa,zmo hG hok hY hne ha hi hj0,zlA hG hY ha]
   rw [Bool.eq_iff_iff];unfold loadR;simp only [Bool.and_eq_true,decide_eq_true_eq]
   show _↔((x.fr=cH Y.st i∧x.lo≤(j:Int)∧(j:Int)≤x.hi)∧iC (gd Y L) x.to j=true)∧kz P.er x.to j (gQ P.er (gd Y L) x.to j (cH Y.st i))=true
   rw [hfr,hon,hov];unfold zeC;rw [decide_eq_true_eq,e1,e2,Int.toNat_natCast]
   show _∧x.lo≤(only L a:Int)∧(only L a:Int)≤x.hi∧_↔_
   constructor
   ·rintro ⟨h5,h6,h7,h8,h9⟩;exact ⟨⟨⟨by omega,by omega,by omega⟩,h8⟩,h9⟩
   ·rintro ⟨⟨⟨h5,h6,h7⟩,h8⟩,h9⟩;exact ⟨by omega,by omega,by omega,h8,h9⟩
  show (P.ls.map Ld.er).any _=_
  rw [hY.out];unfold Pb.ouA;rw [List.take_length,List.any_map,List.any_filter,List.any_map];exact zfn fun x hx=>(key x hx).symm
end
theorem chansN_sub {b:BitVec 64}:(c7 b).Sublist (List.range' 0 64):=by unfold c7;exact List.filter_sublist
theorem zed (b:BitVec 64):(c7 b).Nodup:=List.Nodup.sublist chansN_sub List.nodup_range'
theorem zhF (b:BitVec 64):(c7 b).length≤64:=by have:=(chansN_sub (b:=b)).length_le;simpa using this
theorem ziA {b:BitVec 64}(h:b≠0#64):c7 b≠[]:=fun e=>by
 have:=dN.2 (zeb h 0).1;rw [e] at this;cases this
theorem zeW {b c:BitVec 64}(h:∀j,c.getLsbD j=true→b.getLsbD j=true):c7 c=(c7 b).filter c.getLsbD:=by
 unfold c7;rw [List.filter_filter];apply List.filter_congr;intro j _
 cases hc:c.getLsbD j with
 |false=>rfl
 |true=>rw [h j hc];rfl
theorem zcF {α:Type}[DecidableEq α]:∀ {a l:List α},a.Sublist l→l.Nodup→a=l.filter fun x=>decide (x∈a)
 |a,[],h,_=>by cases h;rfl
 |a,y :: l,h,hn=>by
  rw [List.nodup_cons] at hn
  cases h with
  |cons _ h=>
   have:y∉a:=fun hy=>hn.1 (h.subset hy);rw [List.filter_cons,if_neg (by simpa using this)];exact zcF h hn.2
  |cons_cons _ h=>
   rename_i a';rw [List.filter_cons,if_pos b2]
   congr 1
   conv=>lhs;rw [zcF h hn.2]
   apply List.filter_congr;intro x hx;have:x≠y:=fun e=>hn.1 (e▸hx);simp [this]
theorem zc4 {α:Type}[DecidableEq α]{a b l:List α}(ha:a.Sublist l)(hb:b.Sublist l)(hn:l.Nodup)(h:∀x,x∈a↔x∈b):a=b:=by
 rw [zcF ha hn,zcF hb hn];apply List.filter_congr;intro x _;exact decide_eq_decide.2 (h x)
theorem iH {l:List Nat}{c:Int}:c∈l.map (fun j:Nat=>(j:Int))↔∃j∈l,c=(j:Int):=by
 rw [List.mem_map];exact ⟨fun ⟨j,h,e⟩=>⟨j,h,e.symm⟩,fun ⟨j,h,e⟩=>⟨j,h,e.symm⟩⟩
theorem zei {l:List Nat}(h:l.Nodup):(l.map fun j:Nat=>(j:Int)).Nodup:=List.Pairwise.map _ (fun a b h e=>h a6) h
theorem zgc (j:Nat)(hj:j<64):∀(l:List Int) (m:BitVec 64),(l.foldl (fun m c=>m ||| 1#64 <<< c.toNat) m).getLsbD j=(m.getLsbD j||l.any fun c=>decide (c.toNat=j))
 | [],m=>by simp
 |x :: r,m=>by rw [List.foldl_cons,zgc j hj r,zio hj,List.any_cons,Bool.or_assoc]
theorem zeo {l:List Int}{j:Nat}(hl:∀c∈l,0≤c∧c<64):(jQ l).getLsbD j=true↔(j:Int)∈l:=by
 constructor
 ·intro h;have hj:=BitVec.lt_of_getLsbD h;unfold jQ at h;rw [zgc j hj,BitVec.getLsbD_zero,Bool.false_or,List.any_eq_true] at h;obtain ⟨c,hc,h⟩:=h;have:=hl c hc;have h2:=of_decide_eq_true h;rw [show (j:Int)=c by omega];exact hc
 ·intro h;have:=hl _ h;unfold jQ;rw [zgc j a6,BitVec.getLsbD_zero,Bool.false_or,List.any_eq_true];exact ⟨_,h,by simp⟩
section
variable {P:Pb}{Y:Tb}{L T:Ws}{c:Bool}
def In51 (T:Ws):Prop:=∀i j,(cH T i).getLsbD j=true→2≤j∧j≤51
theorem In51.le {S:Ws}(h:In51 T)(k:Le' S T):In51 S:=fun i j hj=>h i j (k i j hj)
theorem zgl {i:Nat}(hi:i<Y.n){q:Int}:q∈(cH (gd Y L) i).Channels↔∃j:Nat,(cH L i).getLsbD j=true∧q=(j:Int):=by
 rw [i8 hi]
 show q∈(c7 (cH L i)).map (fun j:Nat=>(j:Int))↔_
 rw [iH];exact ⟨fun ⟨j,h,e⟩=>⟨j,dN.1 h,e⟩,fun ⟨j,h,e⟩=>⟨j,dN.2 h,e⟩⟩
theorem zlp {S:Ws}(h:Le' S T):SubD (gd Y S) (gd Y T):=by
 refine ⟨by rw [iB,iB],fun i hi=>?_⟩;rw [iB] at hi;refine ⟨by rw [i8 hi,i8 hi],fun q hq=>?_⟩;obtain ⟨j,hj,rfl⟩:=(zgl hi).1 hq;exact (zgl hi).2 ⟨j,h i j hj,rfl⟩
theorem zoD (hn:Y.n≤512):Bd (gd Y L):=by
 refine ⟨by rw [iB];omega,fun x hx=>?_⟩;obtain ⟨i,hi,rfl⟩:=fW hx;rw [iB] at hi;rw [i8 hi];refine ⟨?_,zei (zed _)⟩;have:=zhF (cH L i);simp;omega
theorem znz (hok:P.ok=true):WtP P.er:=by
 refine ⟨?_,fun x hx=>?_⟩
 ·show (P.ls.map Ld.er).length≤1024
  rw [List.length_map];exact zn6 hok
 ·obtain ⟨y,hy,rfl⟩:=List.mem_map.1 hx;have hok':=((Pb.good hok).ls y hy).1;simp only [Ld.ok,eY,inB,Bool.and_eq_true,decide_eq_true_eq] at hok'
  show 0≤y.wt∧y.wt≤1073741824
  omega
theorem zhG (hok:P.ok=true)(hY:TbOf P Y)(h:Closed Y L)(hb:In51 L):ClosedD P.er (gd Y L):=by
 refine ⟨fun x hx=>?_,fun x hx q hq=>?_⟩
 ·obtain ⟨i,hi,rfl⟩:=fW hx;rw [iB] at hi;rw [i8 hi];have:=ziA (h.ne i hi);simpa using this
 ·obtain ⟨i,hi,rfl⟩:=fW hx;rw [iB] at hi;obtain ⟨j,hj,rfl⟩:=(zgl hi).1 hq;have h2:=hb i j hj;rw [i8 hi]
  show ir P.er (gd Y L) (cH Y.st i) j=false
  rw [zjx hok hY h.ne hi a6 a6];have h3:=congrArg (fun v=>BitVec.getLsbD v j) (h.calm i hi).2;simp only [BitVec.getLsbD_and,BitVec.getLsbD_zero,hj,Bool.true_and] at h3;exact h3
theorem zih (hok:P.ok=true)(hY:TbOf P Y)(hb:In51 T){S:List GDomain}(hS:ClosedD P.er S)(hs:SubD S (gd Y T)):∃S':Ws,Closed Y S'∧Le' S' T∧SubD S (gd Y S'):=by
 (have hl:S.length=Y.n:=by rw [hs.1,iB]);have hch:∀i,i<Y.n→∀q∈(cH S i).Channels,∃j:Nat,(cH T i).getLsbD j=true∧q=(j:Int):=fun i hi q hq=>(zgl hi).1 ((hs.2 i (by rw [iB];exact hi)).2 q hq)
 have hbit:∀i j,i<Y.n→((cH (S.map fun x=>jQ x.Channels) i).getLsbD j=true↔(j:Int)∈(cH S i).Channels):=fun i j hi=>by
  rw [gr (by rw [hl];exact hi)];refine zeo fun q hq=>?_;obtain ⟨k,hk,rfl⟩:=hch i hi q hq;have:=hb i k hk;omega
 (have hlen:(S.map fun x=>jQ x.Channels).length=Y.n:=by rw [List.length_map,hl])
 have hle:Le' (S.map fun x=>jQ x.Channels) T:=fun i j hj=>by
  rcases Nat.lt_or_ge i Y.n with hi|hi
  ·obtain ⟨k,hk,e⟩:=hch i hi _ ((hbit i j hi).1 hj);rw [show j=k by omega];exact hk
  ·unfold cH at hj;rw [List.getD_eq_getElem?_getD,List.getElem?_eq_none (by rw [hlen];exact hi)] at hj;have hj':(0#64).getLsbD j=true:=hj;rw [BitVec.getLsbD_zero] at hj'
   cases hj'
 have hsub:SubD S (gd Y (S.map fun x=>jQ x.Channels)):=by
  refine ⟨by rw [hl,iB],fun i hi=>?_⟩;rw [iB] at hi;refine ⟨?_,fun q hq=>?_⟩
  ·rw [(hs.2 i (by rw [iB];exact hi)).1,i8 hi,i8 hi]
  ·obtain ⟨j,hj,rfl⟩:=hch i hi q hq;exact (zgl hi).2 ⟨j,(hbit i j hi).2 hq,rfl⟩
 have hne:∀i,i<Y.n→cH (S.map fun x=>jQ x.Channels) i≠0#64:=fun i hi e=>by
  have h1:=hS.ne _ (eh (show i<S.length by rw [hl];exact hi))
  cases hc:(cH S i).Channels with
  |nil=>exact h1 hc
  |cons q r=>
   (have hq:q∈(cH S i).Channels:=by rw [hc];simp);obtain ⟨j,hj,rfl⟩:=hch i hi q hq;have:=(hbit i j hi).2 hq;rw [e,BitVec.getLsbD_zero] at this
   cases this
 refine ⟨_,⟨hlen,fun i hi=>⟨hne i hi,?_⟩⟩,hle,hsub⟩;apply BitVec.eq_of_getLsbD_eq;intro j hj;rw [BitVec.getLsbD_and,BitVec.getLsbD_zero]
 cases h1:(cH (S.map fun x=>jQ x.Channels) i).getLsbD j with
 |false=>rfl
 |true=>
  have h2:=(hb.le hle) i j h1
  cases h3:(jo Y (S.map fun x=>jQ x.Channels) i).getLsbD j with
  |false=>rfl
  |true=>
   rw [←zjx hok hY hne hi a6 a6] at h3;have h4:=zgk (znz hok) hsub h3;have h5:=hS.calm _ (eh (show i<S.length by rw [hl];exact hi)) _ ((hbit i j hi).1 h1);rw [(hs.2 i (by rw [iB];exact hi)).1,i8 hi] at h5;rw [h4] at h5
   cases h5
theorem zmS (hok:P.ok=true)(hY:TbOf P Y)(hb:In51 T)(hF:Fin Y T L c){r:List GDomain×Bool}(hr:PropD P.er (gd Y T) r):r=if c then ([],false) else (gd Y L,true):=by
 cases c with
 |true=>
  rcases hr with ⟨_,h2,h3,_⟩|⟨h,_⟩
  ·obtain ⟨S',h4,h5,_⟩:=zih hok hY hb h2 h3.1;exact absurd h5 (hF.bad rfl S' h4)
  ·exact h
 |false=>
  have hI:=hF.good rfl;have hC:=hI.good rfl;have hbL:=hb.le hI.sub;rcases hr with ⟨h1,h2,h3,h4⟩|⟨_,h⟩
  ·have h5:=h4 _ (zhG hok hY hC hbL) (zlp hI.sub);obtain ⟨S',h6,h7,h8⟩:=zih hok hY hb h2 h3.1;have h9:SubD r.1 (gd Y L):=h8.trans (zlp (hI.best S' h6 h7))
   have e:r.1=gd Y L:=by
    refine zdG (by rw [h9.1]) fun i hi=>?_; (have hi':i<Y.n:=by rw [h9.1,iB] at hi;exact hi);have a1:=h9.2 i (by rw [iB];exact hi');have a2:=h5.2 i hi
    have hsub:(cH (gd Y L) i).Channels.Sublist (cH (gd Y T) i).Channels:=by
     rw [i8 hi',i8 hi']
     show ((c7 (cH L i)).map _).Sublist ((c7 (cH T i)).map _)
     rw [zeW (hI.sub i)];exact List.filter_sublist.map _
    have hch:(cH r.1 i).Channels=(cH (gd Y L) i).Channels:=by
     refine zc4 (h3.2 i (by rw [iB];exact hi')) hsub ?_ (fun x=>⟨a1.2 x,a2.2 x⟩);rw [i8 hi'];exact zei (zed _)
    cases hx:cH r.1 i with
    |mk s1 c1=>
     cases hy:cH (gd Y L) i with
     |mk s2 c2=>
      have b1:=a1.1;rw [hx,hy] at b1 hch;simp only at b1 hch;rw [b1,hch]
   rw [if_neg b2,←e,←h1]
  ·exact absurd (zlp hI.sub) (h _ (zhG hok hY hC hbL))
end
theorem SlC.slof {α:Type}[Inhabited α]{F:Frz}{w:World}{v:Value}{size:Nat}{enc:α→List Value}{xs:List α}(h:SlC F v size (xs.map enc))(hF:F.At w):SlOf w v enc size xs:=by
 obtain ⟨A,cap,h1,h2,h3,h4,h5⟩:=h;rw [List.length_map] at h1 h5;refine ⟨A,cap,h1,fun hl=>?_⟩;obtain ⟨g,off,rfl,hg,hc⟩:=h5 hl;refine ⟨g,off,rfl,fun i hi=>?_⟩;have:=Cs.at hF hg (hc i hi)
 rwa [jy hi,d4 hi] at this
def GPair.b (x:GPair):Pr:=⟨x.A,x.B,x.Offset,x.Low,x.High⟩
def GLoad.b (x:GLoad):Ld:=⟨x.To,x.From,x.Weight,x.Low,x.High⟩
def GCap.b (x:GCap):Cp:=⟨x.Station,x.Max,x.Low,x.High⟩
def GChoice.b (x:GChoice):Ch:=⟨x.Station,x.Channel⟩
def Ch.er (x:Ch):GChoice:=⟨x.st,x.ch⟩
theorem zex {α β:Type}{f:α→β}{g:β→α}(h:∀x,g (f x)=x)(l:List α):(l.map f).map g=l:=by
 rw [List.map_map]
 conv=>rhs;rw [←List.map_id l]
 congr 1
 funext x
 exact h x
theorem SlOf.ofMap {α β:Type}{w:World}{v:Value}{size:Nat}{enc:α→List Value}{enc':β→List Value}{f:α→β}(he:∀x,enc' (f x)=enc x){xs:List α}(h:SlOf w v enc size xs):SlOf w v enc' size (xs.map f):=by
 obtain ⟨A,cap,h1,h2⟩:=h;refine ⟨A,cap,by rw [List.length_map];exact h1,fun hl=>?_⟩;rw [List.length_map] at hl;obtain ⟨g,off,hA,hc⟩:=h2 hl;refine ⟨g,off,hA,fun i hi=>?_⟩;rw [List.length_map] at hi;rw [List.getElem_map,he];exact hc i hi
structure PbF (F:Frz) (vd:Value) (cd:List (List Value)) (vp vl vc:Value) (p:GProblem):Prop where
 ds:SlD cJ F vd 2 cd p.Domains
 ps:SlC F vp 5 (p.Rules.Pairs.map da)
 ls:SlC F vl 5 (p.Rules.Loads.map de)
 cs:SlC F vc 4 (p.Rules.Caps.map dk)
theorem zjf {F:Frz}{w:World}{vd vp vl vc:Value}{cd:List (List Value)}{p:GProblem}(h:PbF F vd cd vp vl vc p)(hF:F.At w):∃P:Pb,P.er=p∧ProbAt w vd vp vl vc P:=by
 obtain ⟨hd,hp,hl,hc⟩:=h;have hlen:=hd.2.1
 have hrow:∀i,i<p.Domains.length→cH cd i=[.int .i64 (cH p.Domains i).Station,cH (cH cd i) 1]∧SlC F (cH (cH cd i) 1) 1 ((cH p.Domains i).Channels.map eI):=fun i hi=>by
  obtain ⟨v1,h0,h1⟩:=hd.2.2 i hi;rw [h0];exact ⟨rfl,h1⟩
 have eds:((List.range p.Domains.length).map fun i=>(⟨(cH p.Domains i).Station,cH (cH cd i) 1,(cH p.Domains i).Channels⟩:Dx)).map Dx.er=p.Domains:=by
  refine zdG b2 fun i hi=>?_;simp at hi;rw [gr (by simpa using hi),d4 (by simpa using hi)];simp [Dx.er]
 refine ⟨⟨(List.range p.Domains.length).map fun i=>⟨(cH p.Domains i).Station,cH (cH cd i) 1,(cH p.Domains i).Channels⟩,p.Rules.Pairs.map GPair.b,p.Rules.Loads.map GLoad.b,p.Rules.Caps.map GCap.b⟩,?_,?_⟩
 ·unfold Pb.er;dsimp only;rw [eds,zex (g:=Pr.er) (fun _=>rfl),zex (g:=Ld.er) (fun _=>rfl),zex (g:=Cp.er) (fun _=>rfl)]
 ·refine ⟨⟨?_,?_⟩,⟨(hp.slof hF).ofMap (f:=GPair.b) (enc':=Pr.cells) (fun _=>rfl),(hl.slof hF).ofMap (f:=GLoad.b) (enc':=Ld.cells) (fun _=>rfl),(hc.slof hF).ofMap (f:=GCap.b) (enc':=Cp.cells) (fun _=>rfl),?_,?_,?_⟩,?_,?_⟩
  ·obtain ⟨A,cap,h1,h2,h3,h4,h5⟩:=hd.1;dsimp only;refine ⟨A,cap,by rw [h1,hlen];simp,fun hl0=>?_⟩;simp at hl0;obtain ⟨g,off,rfl,hg,hcs⟩:=h5 a6;refine ⟨g,off,rfl,fun i hi=>?_⟩;simp at hi;have:=Cs.at hF hg (hcs i a6);rw [(hrow i hi).1] at this;simpa [Dx.cells] using this
  ·intro d hd';obtain ⟨i,hi,rfl⟩:=List.mem_map.1 hd';have hi':=List.mem_range.1 hi; (exact ((hrow i hi').2.slof hF).ofMap (f:=fun x=>x) (enc':=Ie) (fun _=>rfl) |> fun q=>by simpa using q)
  ·have:=hp.max;simpa using this
  ·have:=hl.max;simpa using this
  ·have:=hc.max;simpa using this
  ·have:=hd.1.max;simp;omega
  ·intro d hd';obtain ⟨i,hi,rfl⟩:=List.mem_map.1 hd';have:=(hrow i (List.mem_range.1 hi)).2.max;simpa using this
theorem Fx.hp {F:Frz}{w w':World}{es:HS}(hF:F.At w)(h:Hp w (fun _=>False) es w'):∃G:Frz,Fx F w G w'∧G.w=w'∧∀e∈es,∀g,e.fp g→Cb w' g→G.S g:=by
 have hb:=h.isBelow;have hF':=hF.below hb;refine ⟨⟨fun g=>F.S g∨((∃ e∈es,e.fp g)∧Cb w' g),w',fun g hg=>hg.elim (fun h=>hF'.cb h) (fun h=>h.2)⟩,⟨fun g hg=>⟨.inl hg,hF' g hg⟩,fun g _=>rfl,fun g hg=>?_,hb⟩,rfl,fun e he g hg hc=> .inr ⟨⟨e,he,hg⟩,hc⟩⟩;rcases hg with h1|⟨⟨e,he,hg⟩,_⟩
 ·exact .inl h1
 ·exact .inr ((h.new e he g hg).elim (fun h=>h.elim) id)
theorem iF {G:Frz}{w':World}{v:Value}{e:TypeId}{size k:Nat}{l:List Value}(hok:(Ent.sl v e size k l).ok w')(hw:G.w=w')(hS:∀g,(Ent.sl v e size k l).fp g→Cb w' g→G.S g):SlK G v size k l:=by
 have ho:=cS.1 hok;rcases ho.2 with ⟨rfl,h0⟩|⟨g,cap,cur,rfl,hb,hg,hnc,hcm,hcs,htake⟩
 ·subst h0;exact ⟨ho.1,none,0,rfl,Nat.le_refl _,by omega,fun h=>by omega⟩
 ·refine ⟨ho.1,_,cap,rfl,hnc,by unfold maxLen at hcm;omega,fun _=>⟨g,rfl,hS g (cY.2 rfl) ⟨_,_,_,hg⟩,fun q hq=>?_⟩⟩;rw [hw,Nat.zero_add,World.ownsRow.cellAt ho q (by rw [←ho.1];exact hq)]
theorem zmY {F:Frz}{w w':World}{v:Value}{xs:List Dx}(hF:F.At w)(h:Hp w (fun _=>False) [.sl v 59 2 xs.length (xs.flatMap Dx.cells), .bag (xs.map dE)] w'):∃G:Frz,Fx F w G w'∧∃cs,SlD cJ G v 2 cs (xs.map Dx.er):=by
 obtain ⟨G,h1,h2,h3⟩:=Fx.hp hF h;refine ⟨G,h1,xs.map Dx.cells,?_⟩;have h4:=iF (G:=G) (h.own (.sl v 59 2 xs.length (xs.flatMap Dx.cells)) b2) h2 (h3 _ b2);have hb:=c8.1 (h.own (.bag (xs.map dE)) b2);have h5:=h4.toC (cs:=xs.map Dx.cells) (List.flatMap_def ..) b2 (fun c hc=>by obtain ⟨x,_,rfl⟩:=List.mem_map.1 hc;rfl);refine ⟨h5,by simp,fun i hi=>?_⟩;simp at hi;rw [jy hi,jy hi];have hm:cH xs i∈xs:=eh hi;have h6:=hb.1 (dE (cH xs i)) (List.mem_map.2 ⟨_,hm,rfl⟩);have h7:=iF (G:=G) h6 h2 (fun g hg hc=>h3 (.bag (xs.map dE)) b2 g (c6.2 ⟨_,List.mem_map.2 ⟨_,hm,rfl⟩,hg⟩) hc);exact ⟨(cH xs i).v,rfl,h7.toF rfl (fun _=>rfl)⟩
theorem znK {F:Frz}{w w':World}{v:Value}{xs:List Ch}(hF:F.At w)(h:Hp w (fun _=>False) [.sl v 34 2 xs.length (xs.flatMap Ch.cells)] w'):∃G:Frz,Fx F w G w'∧SlC G v 2 ((xs.map Ch.er).map cG):=by
 obtain ⟨G,h1,h2,h3⟩:=Fx.hp hF h;refine ⟨G,h1,?_⟩;have h4:=iF (G:=G) (h.own (.sl v 34 2 xs.length (xs.flatMap Ch.cells)) b2) h2 (h3 _ b2)
 have e:xs.flatMap Ch.cells=(xs.map Ch.er).flatMap cG:=by
  rw [List.flatMap_map];rfl
 rw [e] at h4;exact h4.toF b2 GChoice.len
theorem zm6 {w w':World}{es es' rest:HS}(h:(Ent.bag (es++rest)).ok w)(hk:Hp w (dy es) es' w'):Hp w (Ent.bag (es++rest)).fp [.bag (es'++rest)] w':=by
 obtain ⟨hok,hap⟩:=c8.1 h;obtain ⟨a1,a2,a3⟩:=List.pairwise_append.1 hap;have hold:∀e∈rest,∀g,e.fp g→w'.heap[g]?=w.heap[g]?:=fun e he g hg=>hk.base g (e.lt (hok e (List.mem_append_right _ he)) g hg) (fun ⟨f,hf,hfg⟩=>a3 f hf e he g hfg hg);refine ⟨hk.os,hk.tape,hk.output,hk.size,fun k hk1 hk2=>hk.base k hk1 (fun ⟨e,he,hg⟩=>hk2 (c6.2 ⟨e,List.mem_append_left _ he,hg⟩)),?_,?_,List.pairwise_singleton _ _⟩
 ·intro e he;simp at he;subst he;refine c8.2 ⟨fun e he=>?_,List.pairwise_append.2 ⟨hk.apart,a2,fun e he f hf g hg hfg=>?_⟩⟩
  ·rcases List.mem_append.1 he with he|he
   ·exact hk.own e he
   ·exact e.loc (hold e he) (hok e (List.mem_append_right _ he))
  ·rcases hk.new e he g hg with ⟨x,hx,hxg⟩|hn
   ·exact a3 x hx f hf g hxg hfg
   ·have:=f.lt (hok f (List.mem_append_right _ hf)) g hfg;omega
 ·intro e he g hg;simp at he;subst he;obtain ⟨f,hf,hfg⟩:=c6.1 hg;rcases List.mem_append.1 hf with hf|hf
  ·rcases hk.new f hf g hfg with ⟨x,hx,hxg⟩|hn
   ·exact .inl (c6.2 ⟨x,List.mem_append_left _ hx,hxg⟩)
   ·exact .inr hn
  ·exact .inl (c6.2 ⟨f,List.mem_append_right _ hf,hfg⟩)
theorem ziQ {w w':World}{es:HS}(h:Hp w (fun _=>False) es w'):Hp w (fun _=>False) [.bag es] w':=
 ⟨h.os,h.tape,h.output,h.size,h.base,fun e he=>by simp at he;subst he;exact c8.2 ⟨h.own,h.apart⟩,fun e he g hg=>by
  simp at he;subst he;obtain ⟨f,hf,hfg⟩:=c6.1 hg
  exact h.new f hf g hfg,List.pairwise_singleton _ _⟩
theorem zfp {α:Type}{p q:α→Bool}:∀ {l:List α},(∀x∈l,p x=q x)→l.all p=l.all q
 | [],_=>rfl
 |x :: r,h=>by rw [List.all_cons,List.all_cons,h x b2,zfp (l:=r) (fun y hy=>h y (by simp [hy]))]
theorem zoR {Y:Tb}{L:Ws}:ep (gd Y L)≤Y.n*64:=by
 unfold ep gd;rw [List.map_map]
 have:∀l:List Nat,(l.map ((fun x:GDomain=>x.Channels.length)∘fun i=>(⟨cH Y.st i,(c7 (cH L i)).map fun j:Nat=>(j:Int)⟩:GDomain))).sum≤l.length*64:=by
  intro l
  induction l with
  |nil=>simp
  |cons i r ih=>
   have:=zhF (cH L i);simp only [List.map_cons,List.sum_cons,List.length_cons,Function.comp,List.length_map] at ih ⊢;omega
 have h:=this (List.range Y.n)
 rwa [List.length_range] at h
theorem zeH:∀(n a:Nat) (l:List Int),(∀q∈l,(a:Int)≤q∧q<(a:Int)+n)→l.Pairwise (· < ·)→l.Sublist ((List.range' a n).map fun j:Nat=>(j:Int))
 |0,a,l,h,_=>by
  cases l with
  |nil=>exact List.Sublist.refl _
  |cons q r=>have:=h q b2;omega
 |n+1,a,l,h,hp=>by
  rw [List.range'_succ,List.map_cons]
  cases l with
  |nil=>exact List.nil_sublist _
  |cons q r=>
   have hq:=h q b2;have hr:=List.pairwise_cons.1 hp;by_cases e:q=(a:Int)
   ·subst e;refine List.Sublist.cons_cons _ (zeH n (a+1) r (fun x hx=>?_) hr.2);have h1:=h x (by simp [hx]);have h2:=hr.1 x hx;omega
   ·refine List.Sublist.cons _ (zeH n (a+1) (q :: r) (fun x hx=>?_) hp);have h1:=h x hx;rcases List.mem_cons.1 hx with rfl|hx
    ·omega
    ·have h2:=hr.1 x hx;omega
theorem zlB {l:List Int}(h:fg dC l=true):l.Pairwise (· < ·):=by
 unfold fg at h;rw [List.all_eq_true] at h
 have step:∀k,k+1<l.length→cH l k<cH l (k+1):=fun k hk=>by
  have:=h (k+1) (List.mem_range.2 hk);simp only [Bool.or_eq_true,decide_eq_true_eq,Bool.not_eq_true',decide_eq_false_iff_not,Nat.add_sub_cancel] at this;rcases this with h1|h1
  ·omega
  ·unfold dC at h1;split at h1
   ·assumption
   ·split at h1 <;> omega
 rw [List.pairwise_iff_getElem];intro i j hi hj hij
 have key:∀m,i+m+1<l.length→cH l i<cH l (i+m+1):=by
  intro m
  induction m with
  |zero=>intro h;exact step i h
  |succ m ih=>intro h;exact Int.lt_trans (ih a6) (step (i+m+1) a6)
 have:=key (j - i - 1) a6;rw [show i+(j - i - 1)+1=j by omega,d4 hi,d4 hj] at this;exact this
theorem zl4 {P:Pb}(hok:P.ok=true){i:Nat}(hi:i<P.ds.length):(cH P.ds i).chs.Sublist ((List.range' 0 64).map fun j:Nat=>(j:Int)):=by
 have hb:=((Pb.good hok).chs _ (eh hi)).2;refine zeH 64 0 _ (fun q hq=>by have:=hb q hq;omega) (zlB ?_);simp only [Pb.ok,Bool.and_eq_true] at hok;have:=dX.1 hok.1 _ (eh hi);simp only [Dx.ok,Bool.and_eq_true] at this;exact this.2.2
def GDomain.b (x:GDomain):Dx:=⟨x.Station, .slice none 0 0,x.Channels⟩
def d6 (p:GProblem):Pb:=⟨p.Domains.map GDomain.b,p.Rules.Pairs.map GPair.b,p.Rules.Loads.map GLoad.b,p.Rules.Caps.map GCap.b⟩
def eF (p:GProblem):Bool:=(d6 p).ok
theorem znP (P:Pb):P.ok=eF P.er:=by
 have e1:(d6 P.er).ps=P.ps:=zex (fun _=>rfl) P.ps;have e2:(d6 P.er).ls=P.ls:=zex (fun _=>rfl) P.ls;have e3:(d6 P.er).cs=P.cs:=zex (fun _=>rfl) P.cs
 have e4:(d6 P.er).ds=P.ds.map fun d=>⟨d.st, .slice none 0 0,d.chs⟩:=by
  show (P.ds.map Dx.er).map GDomain.b=_
  rw [List.map_map];rfl
 (have e5:(d6 P.er).ds.map (·.st)=P.ds.map (·.st):=by rw [e4,List.map_map];rfl); (have e6:(d6 P.er).has=P.has:=by funext i;unfold Pb.has;rw [e5]); (have hn:∀k,k<P.ds.length→cH (d6 P.er).ds k=⟨(cH P.ds k).st, .slice none 0 0,(cH P.ds k).chs⟩:=fun k hk=>by rw [e4,jy hk]); (have hl:(d6 P.er).ds.length=P.ds.length:=by rw [e4,List.length_map])
 have e7:fm Dx.ok (d6 P.er).ds=fm Dx.ok P.ds:=by
  unfold fm;rw [hl];refine zfp fun k hk=>?_;rw [hn k (List.mem_range.1 hk)];rfl
 have e8:fg (fun a b=>dC a.st b.st) (d6 P.er).ds=fg (fun a b=>dC a.st b.st) P.ds:=by
  unfold fg;rw [hl];refine zfp fun k hk=>?_;have:=List.mem_range.1 hk;rw [hn k this,hn (k - 1) a6]
 unfold eF Pb.ok Pb.rulesOk;rw [e1,e2,e3,e6,e7,e8]
theorem znr {P : Pb} {Y : Tb} (hok : P.ok = true) (hY : TbOf P Y) : gd Y P.left = P.er.Domains ∧ In51 P.left := by
  have hG := Pb.good hok; have hn := hY.n; have hb : ∀ i, i < P.ds.length → ∀ q ∈ (cH P.ds i).chs, 2 ≤ q ∧ q ≤ 51 := fun i hi => (hG.chs _ (eh hi)).2; (have hleft : ∀ i, i < P.ds.length → cH P.left i = jQ (cH P.ds i).chs := fun i hi => by unfold Pb.left; rw [jy hi]); constructor
  · refine zdG (by rw [iB, hn]; simp [Pb.er]) fun i hi => ?_; rw [iB] at hi; (have hi' : i < P.ds.length := by omega); rw [i8 hi, hleft i hi']
    show _ = cH (P.ds.map Dx.er) i
    rw [gr hi', hY.nth_st hi]; unfold Dx.er
    congr 1
    -- the channels of the word are the channels
    refine zc4 (l := (List.range' 0 64).map fun j : Nat => (j : Int)) (chansN_sub.map _) ?_ (zei List.nodup_range') (fun q => ?_)
    · exact zl4 hok hi'
    · rw [iH]; constructor
      · rintro ⟨j, hj, rfl⟩; exact (zeo (fun c hc => by have := hb i hi' c hc; omega)).1 (dN.1 hj)
      · intro hq; have h2 := hb i hi' q hq;refine ⟨q.toNat, dN.2 ((zeo (fun c hc => by have := hb i hi' c hc; omega)).2 ?_), by omega⟩; rw [Int.toNat_of_nonneg a6]; exact hq
  · intro i j hj; rcases Nat.lt_or_ge i P.ds.length with hi | hi
    · rw [hleft i hi] at hj; have := hb i hi _ ((zeo (fun c hc => by have := hb i hi c hc; omega)).1 hj); omega
    · unfold cH at hj; rw [List.getD_eq_getElem?_getD, List.getElem?_eq_none (by unfold Pb.left; rw [List.length_map]; exact hi)] at hj; have hj' : (0#64).getLsbD j = true := hj; rw [BitVec.getLsbD_zero] at hj'
      cases hj'
structure SK where
 sp:Nat
 gl:GL
 tp:Nat
 w0:World
 Y:Tb
abbrev stL (k:SK)(L:Ws)(b:Bool):HS:=[dA k.sp k.gl k.tp k.Y.n b,eH k.gl k.Y.n L,Ent.fz k.w0]
abbrev iW (k:SK)(L:Ws)(b:Bool):Ent:= .bag (stL k L b)
structure SI (p:GProblem) (m:List GDomain×Bool) (k:SK) (L:Ws):Prop where
 pb:∃P:Pb,P.er=p∧P.ok=true∧TbOf P k.Y
 tb:TablesAt k.w0 k.tp k.Y
 len:L.length=k.Y.n
 good:m.2=true→Closed k.Y L∧In51 L∧m.1=gd k.Y L
 bad:m.2=false→m.1=[]
theorem SI.of {P:Pb}{k:SK}{T L:Ws}{c:Bool}(hok:P.ok=true)(hY:TbOf P k.Y)(ht:TablesAt k.w0 k.tp k.Y)(hT:T.length=k.Y.n)(hb:In51 T)(hI:Is k.Y T L c){fuel:Nat}(hf:100000≤fuel){r:List GDomain×Bool}(hr:za4 fuel P.er (gd k.Y T)=some r):SI P.er r k L∧c= !r.2:=by
 have hG:=Pb.good hok;have hn:=hY.n;have h512:=hG.n
 obtain ⟨r',h1,h2⟩:=zeM (fuel:=fuel) (znz hok) (zoD (Y:=k.Y) (L:=T) a6) (by rw [iB];omega) (by
  have:ep (gd k.Y T)≤k.Y.n*64:=zoR
  omega)
 rw [hr] at h1;obtain rfl:=Option.some.inj h1;have h3:=zmS hok hY hb hI.fin h2
 cases c with
 |true=>
  rw [if_pos rfl] at h3;subst h3;exact ⟨⟨⟨P,rfl,hok,hY⟩,ht,hI.len,(fun h=>by cases h),fun _=>rfl⟩,rfl⟩
 |false=>
  rw [if_neg b2] at h3;subst h3;exact ⟨⟨⟨P,rfl,hok,hY⟩,ht,hI.len,fun _=>⟨hI.good rfl,hb.le hI.sub,rfl⟩,(fun h=>by cases h)⟩,rfl⟩
section
variable {F0:Frz}{w:World}
theorem zos {vd vp vl vc : Value} {cd : List (List Value)} {p : GProblem} (hF0 : F0.At w) (h : PbF F0 vd cd vp vl vc p) (htab : Tab w) (hv : eF p = true) {fuel : Nat} (hf : 100000 ≤ fuel) {r : List GDomain × Bool} (hr : za4 fuel p p.Domains = some r) :
    Calls Tryz.prog 67 #[.agg [vd, vp, vl, vc].toArray] w fun e w' => ∃ y : SK × Ws, SI p r y.1 y.2 ∧ e = .returned (.tuple #[.pointer (some ⟨y.1.sp, 0, none⟩), .int .i64 0]) ∧ Hp w (fun _ => False) [iW y.1 y.2 (!r.2)] w' := by
  obtain ⟨P, rfl, hP⟩ := zjf h hF0; (have hok : P.ok = true := by rw [znP]; exact hv);refine (zow P vd vp vl vc w hP htab hok).mono ?_; rintro e w' ⟨⟨sp, gl, tp, Y, L, c, w0⟩, hN, rfl, hw⟩; dsimp only at hN hw ⊢; have hI := hN.is (Pb.good hok); obtain ⟨h1, h2⟩ := znr hok hN.tb; rw [← h1] at hr; obtain ⟨h3, h4⟩ := SI.of (k := ⟨sp, gl, tp, w0, Y⟩) hok hN.tb hN.at' hI.tlen h2 hI hf hr;refine ⟨⟨⟨sp, gl, tp, w0, Y⟩, L⟩, h3, rfl, ziQ ?_⟩
  show Hp w (fun _ => False) [dA sp gl tp Y.n (!r.2), eH gl Y.n L, Ent.fz w0] w'
  rw [hN.tb.n, ← h4]; exact hw
theorem zlk {vd vp vl vc : Value} {cd : List (List Value)} {p : GProblem} (hF0 : F0.At w) (h : PbF F0 vd cd vp vl vc p) (hv : eF p = false) :
    Calls Tryz.prog 67 #[.agg [vd, vp, vl, vc].toArray] w fun e w' => e = .returned (.tuple #[.pointer none, .int .i64 2]) ∧ Below w.heap.size w w' := by
  obtain ⟨P, rfl, hP⟩ := zjf h hF0; exact znN P vd vp vl vc w hP (by rw [znP]; exact hv)
end
def fS (p:GProblem)(s:Int):Bool:=p.Domains.any fun d=>decide (d.Station=s)
def j3 (c:GChoice):Bool:=decide (0≤c.Station∧c.Station<512∧2≤c.Channel∧c.Channel≤51)
def mm (fuel:Nat)(p:GProblem)(m:List GDomain×Bool)(keep:Bool)(c:GChoice):Option ((List GDomain×Bool)×Int):=
 bif !j3 c then some (m,2) else
 bif !m.2 then some (m,8) else
 bif !fS p c.Station then some (m,9) else
 (bif keep then zbW m.1 c.Station c.Channel else zby m.1 c.Station c.Channel).bind fun d=>(za4 fuel p d).bind fun r=>some (r,0)
section
variable {p:GProblem}{m:List GDomain×Bool}{k:SK}{L:Ws}{w:World}{F0:Frz}
theorem SI.stF (h:SI p m k L){b:Bool}(hok:(iW k L b).ok w)(htab:Tab w):StF k.w0 w k.sp k.gl k.tp k.Y L b:=by
 obtain ⟨h1,h2⟩:=c8.1 hok;exact iw (il h1 h2) h.tb (fc.1 (h1 _ b2)) htab 0 1 rfl rfl h.len
theorem zix (hs:StateAt w k.sp k.Y L (!m.2)):Calls Tryz.prog 118 #[.pointer (some ⟨k.sp,0,none⟩)] w fun e w'=>e= .returned (.bool (!m.2))∧Below w.heap.size w w':=
 zh1 k.sp k.Y L (!m.2) w hs
theorem SI.ok (h:SI p m k L):k.Y.Ok:=by obtain ⟨P,_,hok,hY⟩:=h.pb;exact hY.ok (Pb.good hok)
theorem er_pl {xs:List Dx}{Y:Tb}{L:Ws}(h:xs.map lw=zjb Y L Y.n):xs.map Dx.er=gd Y L:=by
 (have e:xs.map Dx.er=(xs.map lw).map fun q=>(⟨q.1,q.2⟩:GDomain):=by rw [List.map_map];rfl);rw [e,h];unfold zjb gd;rw [List.map_map];rfl
theorem zjj (hF0:F0.At w)(h:SI p m k L)(hs:StateAt w k.sp k.Y L (!m.2)):Calls Tryz.prog 98 #[.pointer (some ⟨k.sp,0,none⟩)] w fun e w'=>∃(y:Value×List (List Value)) (G:Frz),SlD cJ G y.1 2 y.2 m.1∧e= .returned y.1∧Fx F0 w G w':=by
 cases hm:m.2 with
 |false=>
  rw [hm] at hs;refine (ziN k.sp k.Y L w hs).mono ?_;rintro e w' ⟨rfl,hb⟩;exact ⟨(.slice none 0 0,[]),F0,by rw [h.bad hm];exact SlD.nil _ _ 2,rfl,Fx.refl hF0 hb⟩
 |true=>
  rw [hm] at hs;refine (zky k.sp k.Y L w hs h.ok).mono ?_;rintro e w' ⟨⟨v,xs⟩,hp,rfl,hw⟩;obtain ⟨G,h1,cs,h2⟩:=zmY hF0 hw;refine ⟨(v,cs),G,?_,rfl,h1⟩;rw [(h.good hm).2.2,←er_pl hp];exact h2
theorem zlb {ds:List Dx}{j:Nat}:∀k,(∀i,i<k→(cH ds i).st.toNat≠j)→dS ds k j=0
 |0,_=>rfl
 |k+1,h=>by
  unfold dS;rw [if_neg (fun e=>h k a6 e.symm)];exact zlb k (fun i hi=>h i a6)
theorem zk9 {P:Pb}{Y:Tb}(hok:P.ok=true)(hY:TbOf P Y){i:Nat}(hi:i<Y.n):i6 Y (cH Y.st i)=((i:Int),true):=by
 have hG:=Pb.good hok;have h1:=hG.st (cH P.ds i) (eh (by rw [←hY.n];exact hi));rw [←hY.nth_st hi] at h1;have h2:=zjp hG hY hi;unfold Pb.ix at h2;unfold i6;rw [hY.ix,if_neg a6]
 congr 1
theorem zoO {P:Pb}{Y:Tb}(hok:P.ok=true)(hY:TbOf P Y){s:Int}(h:∀i,i<Y.n→cH Y.st i≠s):i6 Y s=(0,false):=by
 have hG:=Pb.good hok;unfold i6;by_cases hs:s<0∨512≤s
 ·rw [if_pos (by rcases hs with h1|h1;exact .inl h1;exact .inr (.inl h1))]
 ·have h0:Y.ix s.toNat=0:=by
   rw [hY.ix];refine zlb _ fun i hi e=>?_; (have hi':i<Y.n:=by rw [hY.n];exact hi);have h1:=hG.st (cH P.ds i) (eh hi);apply h i hi';rw [hY.nth_st hi'];omega
  rw [if_pos (.inr (.inr h0))]
theorem zdv {P:Pb}{Y:Tb}(hY:TbOf P Y){s:Int}:fS P.er s=true↔∃i,i<Y.n∧cH Y.st i=s:=by
 unfold fS;rw [List.any_eq_true]
 show (∃x∈P.ds.map Dx.er,_)↔_
 constructor
 ·rintro ⟨x,hx,h⟩;obtain ⟨i,hi,rfl⟩:=fW hx;rw [List.length_map] at hi;rw [gr hi] at h; (have hi':i<Y.n:=by rw [hY.n];exact hi);exact ⟨i,hi',by rw [hY.nth_st hi'];exact of_decide_eq_true h⟩
 ·rintro ⟨i,hi,rfl⟩; (have hi':i<P.ds.length:=by rw [←hY.n];exact hi);exact ⟨Dx.er (cH P.ds i),List.mem_map.2 ⟨_,eh hi',rfl⟩,decide_eq_true (hY.nth_st hi).symm⟩
theorem znb {Y:Tb}{L:Ws}{i:Nat}{g:BitVec 64}{f:GDomain→GDomain}(hl:L.length=Y.n)(hi:i<Y.n)(h1:f (cH (gd Y L) i)=⟨cH Y.st i,(c7 (cH L i &&& ~~~g)).map fun j:Nat=>(j:Int)⟩)(h2:∀j,j<Y.n→j≠i→f (cH (gd Y L) j)=cH (gd Y L) j):(gd Y L).map f=gd Y (dr L i g):=by
 refine zdG (by rw [List.length_map,iB,iB]) fun j hj=>?_;rw [List.length_map,iB] at hj;rw [gr (by rw [iB];exact hj),i8 (L:=dr L i g) hj];unfold dr;rw [kG a6];by_cases e:j=i
 ·subst e;rw [if_pos rfl,h1]
 ·rw [if_neg e,h2 j hj e,i8 hj]
theorem zmR {b:BitVec 64}{c j:Nat}(hc:c<64):(b &&& ~~~(~~~(1#64 <<< c))).getLsbD j=(b.getLsbD j&&decide (c=j)):=by
 rw [BitVec.not_not,BitVec.getLsbD_and];by_cases hj:j<64
 ·rw [zi8 hj]
 ·rw [BitVec.getLsbD_of_ge b j a6];simp
theorem zjT {b:BitVec 64}{c j:Nat}(hc:c<64):(b &&& ~~~(1#64 <<< c)).getLsbD j=(b.getLsbD j&& !decide (c=j)):=by
 rw [BitVec.getLsbD_and];by_cases hj:j<64
 ·rw [BitVec.getLsbD_not,zi8 hj];simp [hj]
 ·rw [BitVec.getLsbD_of_ge b j a6];simp
theorem zkj {b:BitVec 64}{c:Nat}(hc:c<64):c7 (b &&& ~~~(~~~(1#64 <<< c)))=if b.getLsbD c then [c] else []:=by
 have h:∀j,j∈c7 (b &&& ~~~(~~~(1#64 <<< c)))↔j∈(if b.getLsbD c then [c] else []):=fun j=>by
  rw [dN,zmR hc]
  cases hb:b.getLsbD c with
  |false=>
   simp;intro h e;subst e;rw [hb] at h;cases h
  |true=>
   simp;constructor
   ·rintro ⟨_,rfl⟩;rfl
   ·rintro rfl;exact ⟨hb,rfl⟩
 refine zc4 chansN_sub ?_ List.nodup_range' h
 split
 ·exact List.singleton_sublist.2 (List.mem_range'_1.2 ⟨by omega,by omega⟩)
 ·exact List.nil_sublist _
theorem zmM {Y:Tb}{L:Ws}{i c:Nat}(hl:L.length=Y.n)(hi:i<Y.n)(hinj:∀j,j<Y.n→cH Y.st j=cH Y.st i→j=i)(hc:c<64):(gd Y L).map (iQ (cH Y.st i) c)=gd Y (dr L i (~~~(1#64 <<< c))):=by
 refine znb hl hi ?_ (fun j hj hne=>?_)
 ·rw [i8 hi,zkj hc];unfold iQ;dsimp only;rw [decide_eq_true rfl,cond_true]
  congr 1
  have e:((c7 (cH L i)).map fun j:Nat=>(j:Int)).any (fun k=>decide (k=(c:Int)))=(cH L i).getLsbD c:=by
   rw [Bool.eq_iff_iff,List.any_eq_true];constructor
   ·rintro ⟨q,hq,h⟩;obtain ⟨j,hj,rfl⟩:=iH.1 hq;have:=of_decide_eq_true h;rw [show c=j by omega];exact dN.1 hj
   ·intro h;exact ⟨c,iH.2 ⟨c,dN.2 h,rfl⟩,by simp⟩
  rw [e]
  cases (cH L i).getLsbD c <;> rfl
 ·rw [i8 hj];unfold iQ;dsimp only;rw [decide_eq_false (fun e=>hne (hinj j hj e)),cond_false]
theorem zm4 {Y:Tb}{L:Ws}{i c:Nat}(hl:L.length=Y.n)(hi:i<Y.n)(hinj:∀j,j<Y.n→cH Y.st j=cH Y.st i→j=i)(hc:c<64):(gd Y L).map (i3 (cH Y.st i) c)=gd Y (dr L i (1#64 <<< c)):=by
 refine znb hl hi ?_ (fun j hj hne=>?_)
 ·rw [i8 hi];unfold i3;dsimp only
  congr 1
  rw [zeW (b:=cH L i) (c:=cH L i &&& ~~~(1#64 <<< c)) (fun j hj=>by rw [zjT hc,Bool.and_eq_true] at hj;exact hj.1),List.filter_map]
  congr 1
  apply List.filter_congr;intro j hj;rw [zjT hc,dN.1 hj];simp only [Function.comp,Bool.true_and,not_true_eq_false,decide_false,Bool.false_or];by_cases e:c=j
  ·subst e;simp
  ·(have:¬(j:Int)=(c:Int):=by omega);simp [e,this]
 ·rw [i8 hj];unfold i3;dsimp only
  congr 1
  rw [List.filter_eq_self];intro q _;rw [Bool.or_eq_true];exact .inl (decide_eq_true (fun e=>hne (hinj j hj e)))
theorem SI.two (h:SI p m k L){b:Bool}(hok:(iW k L b).ok w)(htab:Tab w)(hn0:0<k.Y.n):Hp w (dy [dA k.sp k.gl k.tp k.Y.n b,eH k.gl k.Y.n L]) [dA k.sp k.gl k.tp k.Y.n b,eH k.gl k.Y.n L] w∧(∀g,dy [dA k.sp k.gl k.tp k.Y.n b,eH k.gl k.Y.n L] g→¬jx k.w0 g)∧¬dy [dA k.sp k.gl k.tp k.Y.n b,eH k.gl k.Y.n L] 0∧Fz k.w0 w:=by
 obtain ⟨h1,h2⟩:=c8.1 hok;have h3:([dA k.sp k.gl k.tp k.Y.n b,eH k.gl k.Y.n L]++[Ent.fz k.w0]).Pairwise fun e f=>∀g,e.fp g→¬f.fp g:=h2;obtain ⟨a1,a2,a3⟩:=List.pairwise_append.1 h3;refine ⟨il (fun e he=>h1 e (by simp at he ⊢;rcases he with h|h <;> simp [h])) a1,fun g ⟨e,he,hg⟩ hc=>a3 e he _ b2 g hg (eM.2 hc),?_,fc.1 (h1 _ b2)⟩;rintro ⟨e,he,hg⟩;have hT:=htab 0 a7;simp at he;rcases he with rfl|rfl
 ·have h4:=cO.1 hg;have h5:=cV.1 (h1 (dA k.sp k.gl k.tp k.Y.n b) b2);rw [←h4] at h5;rw [jK h5] at hT
  cases hT
 ·have h4:=cY.1 hg;have h5:=cS.1 (h1 (eH k.gl k.Y.n L) b2); (have e0:k.gl.b=0:=by simpa [sG,Value.ownBlock] using h4);have h9:=World.ownsRow.cellAt (by have:=h5;unfold sG at this;exact this) 0 a6;rw [e0] at h9;rw [hT] at h9
  cases L with
  |nil=>have:=h.len;simp at this;omega
  |cons x r=>simp [Ws.cells] at h9
theorem zlr (h:SI p m k L){c:GChoice}:gv k.Y (!m.2) c.b=bif !j3 c then (0,2) else bif !m.2 then (0,8) else bif !fS p c.Station then (0,9) else ((i6 k.Y c.Station).1,0):=by
 obtain ⟨P,rfl,hok,hY⟩:=h.pb;unfold gv GChoice.b j3;dsimp only;by_cases h1:c.Station<0∨512≤c.Station∨c.Channel<2∨51<c.Channel
 ·rw [if_pos h1,decide_eq_false a6];rfl
 ·rw [if_neg h1,decide_eq_true a6];simp only [Bool.not_true,cond_false]
  cases m.2 with
  |false=>rfl
  |true=>
   simp only [Bool.not_true,cond_false,Bool.false_eq_true,if_false]
   cases hh:fS P.er c.Station with
   |true=>
    obtain ⟨i,hi,e⟩:=(zdv hY).1 hh;rw [←e,zk9 hok hY hi];rfl
   |false=>
    rw [zoO hok hY (s:=c.Station) (fun i hi e=>by rw [(zdv hY).2 ⟨i,hi,e⟩] at hh;cases hh)];rfl
theorem zna (kp : Bool) (num : FuncId) (h : SI p m k L) (hok : (iW k L (!m.2)).ok w) (htab : Tab w) {fuel : Nat} (hf : 100000 ≤ fuel) (c : GChoice) {r : (List GDomain × Bool) × Int} (hr : mm fuel p m kp c = some r)
    (hE : (gv k.Y (!m.2) c.b).2 ≠ 0 → Calls Tryz.prog num #[.pointer (some ⟨k.sp, 0, none⟩), .agg (Ch.cells c.b).toArray] w fun e w' => e = .returned (.int .i64 (gv k.Y (!m.2) c.b).2) ∧ Below w.heap.size w w')
    (hO : m.2 = true → (gv k.Y false c.b).2 = 0 → Calls Tryz.prog num #[.pointer (some ⟨k.sp, 0, none⟩), .agg (Ch.cells c.b).toArray] w fun e w' => ∃ y : Ws × Bool, gD k.Y (dr L (gv k.Y false c.b).1.toNat (bif kp then ~~~(1#64 <<< c.Channel.toNat) else 1#64 <<< c.Channel.toNat)) y.1 y.2 ∧ e = .returned (.int .i64 0) ∧ Hp w (dy [dA k.sp k.gl k.tp k.Y.n false, eH k.gl k.Y.n L]) [dA k.sp k.gl k.tp k.Y.n y.2, eH k.gl k.Y.n y.1] w') :
    Calls Tryz.prog num #[.pointer (some ⟨k.sp, 0, none⟩), .agg [.int .i64 c.Station, .int .i64 c.Channel].toArray] w fun e w' => ∃ L', SI p r.1 k L' ∧ e = .returned (.int .i64 r.2) ∧ Hp w (iW k L (!m.2)).fp [iW k L' (!r.1.2)] w' := by
  have hfit := zlr h (c := c)
  have keepE : ∀ {n : Int}, r = (m, n) → (gv k.Y (!m.2) c.b).2 = n → n ≠ 0 → Calls Tryz.prog num #[.pointer (some ⟨k.sp, 0, none⟩), .agg [.int .i64 c.Station, .int .i64 c.Channel].toArray] w fun e w' => ∃ L', SI p r.1 k L' ∧ e = .returned (.int .i64 r.2) ∧ Hp w (iW k L (!m.2)).fp [iW k L' (!r.1.2)] w' := by
    intro n hr hc hn; subst hr;refine (hE (by rw [hc]; exact hn)).mono ?_; rintro e w' ⟨rfl, hb⟩; exact ⟨L, h, by rw [hc], (Hp.start hok).below hb⟩
  unfold mm at hr
  cases hg : j3 c with
  | false => rw [hg] at hr hfit; exact keepE (Option.some.inj hr).symm (by rw [hfit]; rfl) a7
  | true =>
    rw [hg] at hr hfit; simp only [Bool.not_true, cond_false] at hr hfit
    cases hm : m.2 with
    | false => rw [hm] at hr hfit; rw [← hm]; exact keepE (Option.some.inj hr).symm (by rw [hm]; rw [hfit]; rfl) a7
    | true =>
      rw [hm] at hr hfit; simp only [Bool.not_true, cond_false] at hr hfit
      cases hh : fS p c.Station with
      | false => rw [hh] at hr hfit; rw [← hm]; exact keepE (Option.some.inj hr).symm (by rw [hm, Bool.not_true, hfit]; rfl) a7
      | true =>
        rw [hh] at hr hfit; simp only [Bool.not_true, cond_false] at hr hfit; obtain ⟨P, rfl, hok', hY⟩ := h.pb; have hG := Pb.good hok'; obtain ⟨i, hi, e⟩ := (zdv hY).1 hh; rw [← e, zk9 hok' hY hi] at hfit; obtain ⟨hC, hb, hd⟩ := h.good hm; (have hch : 2 ≤ c.Channel ∧ c.Channel ≤ 51 := by have := of_decide_eq_true hg; omega); have hn := hY.n; have h512 := hG.n; have hbd : Bd (gd k.Y L) := zoD a6; have hinj : ∀ j, j < k.Y.n → cH k.Y.st j = cH k.Y.st i → j = i := fun j hj e' => zeZ hG hY hj hi e'; have hcn : ((c.Channel.toNat : Nat) : Int) = c.Channel := Int.toNat_of_nonneg a6
        -- the domains after the cut
        have hdom : (bif kp then zbW m.1 c.Station c.Channel else zby m.1 c.Station c.Channel) = some (gd k.Y (dr L i (bif kp then ~~~(1#64 <<< c.Channel.toNat) else 1#64 <<< c.Channel.toNat))) := by
          rw [hd, ← e]
          cases kp with
          | true => rw [cond_true, cond_true, zkU hbd.len (fun x hx => (hbd.ch x hx).1), ← zmM h.len hi hinj a6, hcn]
          | false => rw [cond_false, cond_false, zl0 hbd.len (fun x hx => (hbd.ch x hx).1), ← zm4 h.len hi hinj a6, hcn]
        rw [hdom, Option.bind_some] at hr; obtain ⟨q, hq, hr⟩ := fD hr; obtain rfl := Option.some.inj hr;refine (hO hm (by rw [hfit])).mono ?_; rintro e' w' ⟨⟨L', c'⟩, hp, rfl, hw⟩; rw [hfit] at hp; dsimp only at hp hw ⊢; rw [Int.toNat_natCast] at hp; (have hlen : (dr L i (bif kp then ~~~(1#64 <<< c.Channel.toNat) else 1#64 <<< c.Channel.toNat)).length = k.Y.n := by unfold dr; rw [List.length_set, h.len]); obtain ⟨h3, h4⟩ := SI.of hok' hY h.tb hlen (hb.le zkT) (my (hY.ok hG) hlen hp) hf hq;refine ⟨L', h3, rfl, ?_⟩; rw [← h4]; (have hok2 : (Ent.bag ([dA k.sp k.gl k.tp k.Y.n false, eH k.gl k.Y.n L] ++ [Ent.fz k.w0])).ok w := by rw [hm] at hok; exact hok); exact zm6 hok2 hw
theorem zls (h : SI p m k L) (hok : (iW k L (!m.2)).ok w) (htab : Tab w) {fuel : Nat} (hf : 100000 ≤ fuel) (c : GChoice) {r : (List GDomain × Bool) × Int} (hr : mm fuel p m true c = some r) :
    Calls Tryz.prog 119 #[.pointer (some ⟨k.sp, 0, none⟩), .agg [.int .i64 c.Station, .int .i64 c.Channel].toArray] w fun e w' => ∃ L', SI p r.1 k L' ∧ e = .returned (.int .i64 r.2) ∧ Hp w (iW k L (!m.2)).fp [iW k L' (!r.1.2)] w' := by
  have hs := (h.stF hok htab).st; obtain ⟨P, hP, hok', hY⟩ := h.pb; have hix := hY.ixn; refine zna true _ h hok htab hf c hr (fun he => zg5 k.sp k.Y L (!m.2) c.b w hs (k.Y.ix512 h.ok hix) he) (fun hm he => ?_); have hok2 := hok; rw [hm] at hok2; (have hn0 : 0 < k.Y.n := by have := zcX (Y := k.Y) hix he; omega); obtain ⟨h1, h2, h3, h4⟩ := h.two hok2 htab hn0; exact zle k.w0 k.sp k.gl k.tp k.Y L w h.tb h.ok h4 htab h1 h2 h3 h.len (h.good hm).1.calm hix c.b he
theorem zlJ (h : SI p m k L) (hok : (iW k L (!m.2)).ok w) (htab : Tab w) {fuel : Nat} (hf : 100000 ≤ fuel) (c : GChoice) {r : (List GDomain × Bool) × Int} (hr : mm fuel p m false c = some r) :
    Calls Tryz.prog 122 #[.pointer (some ⟨k.sp, 0, none⟩), .agg [.int .i64 c.Station, .int .i64 c.Channel].toArray] w fun e w' => ∃ L', SI p r.1 k L' ∧ e = .returned (.int .i64 r.2) ∧ Hp w (iW k L (!m.2)).fp [iW k L' (!r.1.2)] w' := by
  have hs := (h.stF hok htab).st; obtain ⟨P, hP, hok', hY⟩ := h.pb; have hix := hY.ixn; refine zna false _ h hok htab hf c hr (fun he => zgR k.sp k.Y L (!m.2) c.b w hs (k.Y.ix512 h.ok hix) he) (fun hm he => ?_); have hok2 := hok; rw [hm] at hok2; (have hn0 : 0 < k.Y.n := by have := zcX (Y := k.Y) hix he; omega); obtain ⟨h1, h2, h3, h4⟩ := h.two hok2 htab hn0; exact zkQ k.w0 k.sp k.gl k.tp k.Y L w h.tb h.ok h4 htab h1 h2 h3 h.len (h.good hm).1.calm hix c.b he
end
def hv:List Nat→Nat
 | []=>0
 |d :: r=>d+256*hv r
section
variable {B w:World}{M S0:Nat→Prop}{hs:HS}{F:FzB B M S0}{e:Ent}{i j:Nat}
theorem Hp.newAt (hw:Hp B M hs w)(hi:hs[i]?=some e){g:Nat}(hg:e.fp g):M g∨B.heap.size≤g:=hw.new e (List.mem_of_getElem? hi) g hg
theorem Hp.apartF (hw:Hp B M hs w)(hi:hs[i]?=some e)(hj:hs[j]?=some (.fr F))(hij:i<j):∀g,e.fp g→¬F.toFrz.S g:=fun g hg hS=>
 hw.ne hij hi hj hg (dt.2 ⟨hS,hw.newAt hi hg⟩)
end
def zgg (Y:Tb)(L:Ws)(c:Bool)(x:Ch):Bool:=if c=true∨x.ch<2∨51<x.ch then false else if (i6 Y x.st).2=false then false else (cH L (i6 Y x.st).1.toNat).getLsbD x.ch.toNat
theorem zmJ (sp:Nat)(Y:Tb)(L:Ws)(c:Bool)(x:Ch)(w:World)(h:StateAt w sp Y L c)(hok:Y.Ok)(hix:∀j,0≤Y.ix j∧Y.ix j≤Y.n):Calls Tryz.prog 140 #[.pointer (some ⟨sp,0,none⟩), .agg (Ch.cells x).toArray] w fun e w'=>e= .returned (.bool (zgg Y L c x))∧Below w.heap.size w w':=by
 obtain ⟨tp,hsp0,hT⟩:=h.tb;obtain ⟨vL,hsp1,hL⟩:=h.left;obtain ⟨AL,capL,rfl,hLs⟩:=hL.op;have hLn:=h.len;have hcon:=h.con;refine dB (M:=fun _=>False) (hs:=[]) Tryz.func140 rfl rfl rfl (Hp.refl _ _) ?_;simp only [Ch.cells];refine dd ?_; (refine cM (Wt.none) rfl rfl (dv) ?_;rintro _ _ ⟨g3,rfl,rfl⟩);refine jD ?_;refine dc ?_; (refine cM (Wt.none) rfl rfl (cL rfl rfl rfl (fun w hw=>zbY sp Y L c w (h.kept hw))) ?_;rintro _ _ ⟨rfl,rfl⟩);refine q1G ?_;refine ec ?_;refine dp rfl rfl rfl (fun h1=>?_) (fun h1=>?_)
 ·have p1:=h1; (try simp only [cT] at p1);refine kb ?_;refine TL.off (Wt.not rfl rfl rfl h1) rfl rfl ?_;refine kH ?_;refine TL.run 5 rfl ?_;refine mi ?_;refine ja ?_;refine cU rfl rfl (fun w' hw=>⟨?_,hw.isBelow⟩);exact q4r
 ·have p1:=h1; (try simp only [cT] at p1);refine q0I ?_;refine jT ?_;refine q2Q ?_;refine dc ?_;refine dp rfl rfl rfl (fun h2=>?_) (fun h2=>?_)
  ·have p2:=h2; (try simp only [cT] at p2);refine q0j ?_;refine q2E ?_;refine mi ?_;refine ja ?_;refine cU rfl rfl (fun w' hw=>⟨?_,hw.isBelow⟩);exact q4r
  ·have p2:=h2; (try simp only [cT] at p2);refine mw ?_;refine mp ?_;refine q3T ?_;refine cR ?_;refine T.cond rfl (fun h3=>?_) (fun h3=>?_)
   ·have p3:=h3; (try simp only [cT] at p3);refine ja ?_;refine cU rfl rfl (fun w' hw=>⟨?_,hw.isBelow⟩);exact q4r
   ·have p3:=h3; (try simp only [cT] at p3);refine q19 ?_; (refine cZ rfl (Wt.none) rfl rfl (cL rfl rfl rfl (fun w hw=>znd tp Y x.st w (hT.later (gR hw.isBelow)) (Y.ix512 hok hix))) ?_;rintro _ _ ⟨rfl,rfl⟩;refine ⟨Sx,?_⟩);refine TS.run 5 rfl ?_;refine fv ?_;refine K.seq (T.seq ?_);refine dF (sN 0 15 (.still 15 .done)) _ a8 (List.Sublist.refl _) ?_;refine gE ?_;refine TS.ao rfl rfl rfl rfl (fun h4=>?_) (fun h4=>?_)
    ·have p4:=h4; (try simp only [cT] at p4); (try (have hat:=zhp hix (s:=x.st) cB;obtain ⟨gL,oL,rfl,hc⟩:=hLs a6;have hk:=hc (i6 Y x.st).1.toNat a6;simp only [Le] at hk));refine q3h ?_;refine q3h ?_;refine TS.still rfl (Wt.some rfl rfl rfl h4) rfl rfl (Yv.fieldAddr) ?_;refine TS.still rfl (Wt.some rfl rfl rfl h4) rfl rfl (dM rfl rfl hsp1 (fun h=>h)) ?_;refine q3h ?_;refine TS.still rfl (Wt.some rfl rfl rfl h4) rfl rfl (gm rfl rfl rfl (show (i6 Y x.st).1=(((i6 Y x.st).1.toNat:Nat):Int) from by omega) a6) ?_;refine TS.still rfl (Wt.some rfl rfl rfl h4) rfl rfl (dW (j:=0) rfl rfl hk rfl rfl (fun h=>h)) ?_;refine TS.still rfl (Wt.some rfl rfl rfl h4) rfl rfl (Yv.fieldAddr) ?_;refine TS.still rfl (Wt.some rfl rfl rfl h4) rfl rfl (cX 0) ?_;refine TS.still rfl (Wt.some rfl rfl rfl h4) rfl rfl (gz x.ch.toNat rfl rfl rfl a6 a6) ?_;refine TS.still rfl (Wt.some rfl rfl rfl h4) rfl rfl (f9 (b:=1#64)) ?_;refine q3h ?_;refine cN rfl (eC rfl rfl h4) ?_;refine q3V ?_;refine cU rfl rfl (fun w' hw=>⟨?_,hw.isBelow⟩);exact j0 (by rw [zgg,if_neg (fun h=>by rcases h with h|h|h; (rw [p1] at h;cases h);omega;omega),if_neg (by rw [p4];simp),ziI])
    ·have p4:=h4; (try simp only [cT] at p4); (try (have hat:=zhp hix (s:=x.st) cB;obtain ⟨gL,oL,rfl,hc⟩:=hLs a6;have hk:=hc (i6 Y x.st).1.toNat a6;simp only [Le] at hk));refine q0t ?_;refine q0t ?_;refine cN rfl (ef rfl rfl h4) ?_;refine q3V ?_;refine cU rfl rfl (fun w' hw=>⟨?_,hw.isBelow⟩);exact j0 (by rw [zgg,if_neg (fun h=>by rcases h with h|h|h; (rw [p1] at h;cases h);omega;omega),if_pos cB])
theorem zlw (sp:Nat)(Y:Tb)(L:Ws)(w:World)(h:StateAt w sp Y L true):Calls Tryz.prog 139 #[.pointer (some ⟨sp,0,none⟩)] w fun e w'=>e= .returned (.slice none 0 0)∧Below w.heap.size w w':=by
 have hcon:=h.con;refine dB (M:=fun _=>False) (hs:=[]) Tryz.func139 rfl rfl rfl (Hp.refl _ _) ?_;refine jB ?_; (refine cM (Wt.none) rfl rfl (cL rfl rfl rfl (fun w hw=>zbY sp Y L true w (h.kept hw))) ?_;rintro _ _ ⟨rfl,rfl⟩);refine q1G ?_;refine dR ?_;refine j7 rfl rfl ?_;refine ja ?_;refine cU rfl rfl (fun w' hw=>⟨?_,hw.isBelow⟩)
 rfl
def fe (d:List GDomain):List GChoice:=(d.filter fun x=>decide (x.Channels.length=1)).map fun x=>⟨x.Station,cH x.Channels 0⟩
def gp (m:List GDomain×Bool):List GChoice:=bif m.2 then fe m.1 else []
def zgC (m:List GDomain×Bool)(c:GChoice):Bool:=m.2&&m.1.any fun x=>decide (x.Station=c.Station)&&x.Channels.any fun k=>decide (k=c.Channel)
theorem zlV {d:List GDomain}{x:GDomain}:fe (d++[x])=fe d++(if x.Channels.length=1 then [⟨x.Station,cH x.Channels 0⟩] else []):=by
 unfold fe;rw [List.filter_append,List.map_append]
 congr 1
 by_cases h:x.Channels.length=1 <;> simp [h]
theorem zmw {b:BitVec 64}(hb:b≠0#64)(h0:b.getLsbD 0=false):(iV b≠0↔(c7 b).length=1)∧(iV b≠0→c7 b=[iV b]):=by
 have key:iV b≠0→c7 b=[iV b]:=fun h=>by
  have h1:=(zg8 hb (c:=((iV b:Nat):Int)) a6).2 rfl
  cases hc:c7 b with
  |nil=>exact absurd hc (ziA hb)
  |cons j r=>
   have hj:=h1 j (by rw [hc];simp)
   cases r with
   |nil=>rw [show j=iV b by omega]
   |cons k s=>
    have hk:=h1 k (by rw [hc];simp);have hn:=zed b;rw [hc,List.nodup_cons] at hn;exact absurd (by simp;left;omega) hn.1
 refine ⟨⟨fun h=>by rw [key h];rfl,fun h hz=>?_⟩,key⟩;obtain ⟨j,hj⟩:=List.length_eq_one_iff.1 h
 have hj0:j≠0:=fun e=>by
  (have:j∈c7 b:=by rw [hj];simp);rw [dN,e,h0] at this
  cases this
 have:=(zg8 hb (c:=(j:Int)) a6).1 (fun k hk=>by rw [hj] at hk;simp at hk;omega);omega
theorem zne {Y:Tb}{L:Ws}(hl:L.length=Y.n)(hne:∀i,i<Y.n→cH L i≠0#64)(hb:In51 L):∀k,k≤Y.n→(jb Y L k).map Ch.er=fe ((gd Y L).take k)
 |0,_=>by simp [jb,fe]
 |k+1,h=>by
  have h0:(cH L k).getLsbD 0=false:=by
   cases e:(cH L k).getLsbD 0 with
   |false=>rfl
   |true=>have:=hb k 0 e;omega
  obtain ⟨h1,h2⟩:=zmw (hne k a6) h0;rw [zf9,List.map_append,zne hl hne hb k a6,List.take_succ_eq_append_getElem (by rw [iB];omega),←d4 (by rw [iB];omega),i8 a6,zlV]
  congr 1
  show List.map Ch.er (if iV (cH L k)≠0 then [⟨cH Y.st k,(iV (cH L k):Int)⟩] else [])=_
  dsimp only;rw [List.length_map];by_cases e:iV (cH L k)=0
  ·rw [if_neg (by simpa using e),if_neg (fun q=>(h1.2 q) e)];rfl
  ·rw [if_pos e,if_pos (h1.1 e),h2 e];rfl
section
variable {p:GProblem}{m:List GDomain×Bool}{k:SK}{L:Ws}{w:World}{F0:Frz}
theorem SI.ne (h:SI p m k L)(hm:m.2=true):∀i,i<k.Y.n→cH L i≠0#64:=fun i hi=>(h.good hm).1.ne i hi
theorem zkF (hF0:F0.At w)(h:SI p m k L)(hs:StateAt w k.sp k.Y L (!m.2)):Calls Tryz.prog 139 #[.pointer (some ⟨k.sp,0,none⟩)] w fun e w'=>∃(y:Value) (G:Frz),SlC G y 2 ((gp m).map cG)∧e= .returned y∧Fx F0 w G w':=by
 cases hm:m.2 with
 |false=>
  rw [hm] at hs;refine (zlw k.sp k.Y L w hs).mono ?_;rintro e w' ⟨rfl,hb⟩;exact ⟨.slice none 0 0,F0,by unfold gp;rw [hm];exact SlC.nil _ 2,rfl,Fx.refl hF0 hb⟩
 |true=>
  rw [hm] at hs;refine (zlg k.sp k.Y L w hs h.ok).mono ?_;rintro e w' ⟨v, -,rfl,hw⟩;obtain ⟨G,h1,h2⟩:=znK hF0 hw;refine ⟨v,G,?_,rfl,h1⟩
  have e:gp m=(jb k.Y L k.Y.n).map Ch.er:=by
   unfold gp;rw [hm,cond_true,zne h.len (h.ne hm) (h.good hm).2.1 _ (Nat.le_refl _),(h.good hm).2.2,List.take_of_length_le (by rw [iB];exact Nat.le_refl _)]
  rw [e];exact h2
theorem znY (h:SI p m k L)(hs:StateAt w k.sp k.Y L (!m.2))(c:GChoice):Calls Tryz.prog 140 #[.pointer (some ⟨k.sp,0,none⟩), .agg [.int .i64 c.Station, .int .i64 c.Channel].toArray] w fun e w'=>e= .returned (.bool (zgC m c))∧Below w.heap.size w w':=by
 obtain ⟨P,hP,hok',hY⟩:=h.pb;have hG:=Pb.good hok';refine (zmJ k.sp k.Y L (!m.2) c.b w hs h.ok hY.ixn).mono ?_;rintro e w' ⟨rfl,hb⟩;refine ⟨?_,hb⟩
 congr 2
 unfold zgg zgC
 cases hm:m.2 with
 |false=>rw [if_pos (.inl rfl)];rfl
 |true=>
  obtain ⟨-,h51,hd⟩:=h.good hm;rw [Bool.true_and,hd]
  have hany:∀q,(gd k.Y L).any (fun x=>decide (x.Station=c.Station)&&x.Channels.any fun k=>decide (k=c.Channel))=q↔((∃ i,i<k.Y.n∧cH k.Y.st i=c.Station∧∃j:Nat,(cH L i).getLsbD j=true∧(j:Int)=c.Channel)↔q=true):=fun q=>by
   have e1:(gd k.Y L).any (fun x=>decide (x.Station=c.Station)&&x.Channels.any fun k=>decide (k=c.Channel))=true↔(∃i,i<k.Y.n∧cH k.Y.st i=c.Station∧∃j:Nat,(cH L i).getLsbD j=true∧(j:Int)=c.Channel):=by
    rw [List.any_eq_true];constructor
    ·rintro ⟨x,hx,hh⟩;obtain ⟨i,hi,rfl⟩:=fW hx;rw [iB] at hi;rw [Bool.and_eq_true,decide_eq_true_eq,List.any_eq_true] at hh;obtain ⟨h1,q,hq,h2⟩:=hh;obtain ⟨j,hj,rfl⟩:=(zgl hi).1 hq;rw [i8 hi] at h1;exact ⟨i,hi,h1,j,hj,of_decide_eq_true h2⟩
    ·rintro ⟨i,hi,h1,j,hj,h2⟩;refine ⟨_,eh (by rw [iB];exact hi),?_⟩;rw [Bool.and_eq_true,decide_eq_true_eq,List.any_eq_true];exact ⟨by rw [i8 hi];exact h1,(j:Int),(zgl hi).2 ⟨j,hj,rfl⟩,decide_eq_true h2⟩
   rw [←e1]
   cases (gd k.Y L).any (fun x=>decide (x.Station=c.Station)&&x.Channels.any fun k=>decide (k=c.Channel)) <;> cases q <;> simp
  symm
  rw [hany]
  show _↔(if (!true)=true∨c.Channel<2∨51<c.Channel then false else if (i6 k.Y c.Station).2=false then false else (cH L (i6 k.Y c.Station).1.toNat).getLsbD c.Channel.toNat)=true
  by_cases hc:c.Channel<2∨51<c.Channel
  ·rw [if_pos (.inr hc)];refine ⟨fun ⟨i,hi,_,j,hj,h2⟩=>?_,fun h=>by cases h⟩;have:=h51 i j hj;omega
  ·rw [if_neg (by simpa using hc)]
   cases hh:fS P.er c.Station with
   |true=>
    obtain ⟨i,hi,e⟩:=(zdv hY).1 hh;rw [←e,zk9 hok' hY hi];simp only [Bool.true_eq_false,if_false,Int.toNat_natCast];constructor
    ·rintro ⟨i',hi',h1,j,hj,h2⟩;rw [zeZ hG hY hi hi' h1.symm,←h2,Int.toNat_natCast];exact hj
    ·intro h;exact ⟨i,hi,rfl,c.Channel.toNat,h,by omega⟩
   |false=>
    (have hno:∀i,i<k.Y.n→cH k.Y.st i≠c.Station:=fun i hi e=>by rw [(zdv hY).2 ⟨i,hi,e⟩] at hh;cases hh);rw [zoO hok' hY hno];simp only [if_true];exact ⟨fun ⟨i,hi,h1,_⟩=>absurd h1 (hno i hi),fun h=>by cases h⟩
end
def jC (v:Value)(l h k:Nat):Value:=match v with
 | .slice a _ cap=>sliced a l h cap k
 |x=>x
theorem SlC.slice {F:Frz}{v:Value}{size:Nat}{cs:List (List Value)}(h:SlC F v size cs){l i:Nat}(hl:l≤i)(hi:i≤cs.length):SlC F (jC v l i size) size ((cs.take i).drop l):=by
 obtain ⟨A,cap,rfl,h2,h3,h4,h5⟩:=h; (have hlen:((cs.take i).drop l).length=i - l:=by rw [List.length_drop,List.length_take];omega);have hmem:∀c∈(cs.take i).drop l,c∈cs:=fun c hc=>List.mem_of_mem_take (List.mem_of_mem_drop hc);refine ⟨if cap=l then A else A.map (·.add (l*size)),cap - l,?_,by omega,by omega,fun c hc=>h4 c (hmem c hc),fun hp=>?_⟩
 ·rw [hlen];rfl
 ·rw [hlen] at hp;obtain ⟨g,off,rfl,hg,hc⟩:=h5 a6;rw [if_neg a6];refine ⟨g,off+l*size,by simp [l4],hg,fun j hj=>?_⟩;rw [hlen] at hj;have h6:=hc (l+j) a6
  have e:cH ((cs.take i).drop l) j=cH cs (l+j):=by
   rw [d4 a6,d4 a6,List.getElem_drop,List.getElem_take]
  rw [e,show off+l*size+j*size=off+(l+j) *size by rw [Nat.add_mul];omega];exact h6
theorem SlD.slice {α:Type}[Inhabited α]{rep:Frz→List Value→α→Prop}{F:Frz}{v:Value}{size:Nat}{cs:List (List Value)}{xs:List α}(h:SlD rep F v size cs xs){l i:Nat}(hl:l≤i)(hi:i≤xs.length):SlD rep F (jC v l i size) size ((cs.take i).drop l) ((xs.take i).drop l):=by
 refine ⟨h.1.slice hl (by rw [h.2.1];exact hi),?_,fun j hj=>?_⟩
 ·rw [List.length_drop,List.length_take,List.length_drop,List.length_take,h.2.1]
 ·have hj':=hj;rw [List.length_drop,List.length_take] at hj'
  have e:cH ((cs.take i).drop l) j=cH cs (l+j):=by
   rw [d4 (by rw [List.length_drop,List.length_take,h.2.1];omega),d4 (by rw [h.2.1];omega),List.getElem_drop,List.getElem_take]
  have e':cH ((xs.take i).drop l) j=cH xs (l+j):=by
   rw [d4 hj,d4 a6,List.getElem_drop,List.getElem_take]
  rw [e,e'];exact h.2.2 _ a6
section
variable {F:Frz}{v:Value}{size:Nat}
theorem SlC.sliceh {α:Type}{enc:α→List Value}{xs:List α}(h:SlC F v size (xs.map enc)){i:Nat}(hi:i≤xs.length):SlC F (jC v 0 i size) size ((xs.take i).map enc):=by
 have:=h.slice (l:=0) (i:=i) (Nat.zero_le _) (by rw [List.length_map];exact hi)
 rwa [List.drop_zero,←List.map_take] at this
variable {α:Type}[Inhabited α]{rep:Frz→List Value→α→Prop}{cs:List (List Value)}{xs:List α}
theorem SlD.sliceh (h:SlD rep F v size cs xs){i:Nat}(hi:i≤xs.length):SlD rep F (jC v 0 i size) size (cs.take i) (xs.take i):=by
 have:=h.slice (l:=0) (Nat.zero_le _) hi
 rwa [List.drop_zero,List.drop_zero] at this
end
section
variable {P:Program}{n:Nat}{B:World}{M:Nat→Prop}{fs:dV}{hs:HS}{o:Oper}{v:Value}
theorem TySl.elem {t e k:Nat}(h:TySl P t e k):P.underlying t=some (.slice (P.elem t))∧∀w,(sizeOf (P.elem t)).run P w= .ok k w:=by
 have h:=h.h;unfold zfq at h
 split at h
 ·rename_i el hU; (have he:P.elem t=el:=by unfold Program.elem;rw [hU])
  cases hi':P.info? el with
  |none=>rw [hi'] at h;cases h
  |some inf=>
   rw [hi'] at h
   cases h
   refine ⟨by rw [he];exact hU,fun w=>?_⟩;rw [he];simp [sizeOf,typeInfo,hi']
 ·cases h
theorem lC {F:Frz}{t e k i m:Nat}{z:Int}{q:IntKind}{cs:List (List Value)}{x y:Operand}[hT:TySl P t e k](ho:o.op= .slice t x none (some y) none)(hx:ev fs x=some v)(hy:ev fs y=some (.int q z))(h:SlC F v k cs)(hm:cs.length=m)(hz:z=(i:Int))(hi:i≤m):Yv P n B M fs hs o (jC v 0 i k):=fun a w ha _=>by
 subst hm hz;obtain ⟨A,cap,rfl,h2,h3,h4,h5⟩:=h;unfold execOp;have:=run_slice_h (P:=P) w t A cs.length cap hT.elem.1 q (i:Int) a6 a6;simp [ho,ha.ev hx,ha.ev hy,run_sliceAt_slice w t _ _ _ _ hT.elem.1,this,hT.elem.2,jC]
end
end Go.Proofs.YtgoeeefoinkepaaGreatDoor
