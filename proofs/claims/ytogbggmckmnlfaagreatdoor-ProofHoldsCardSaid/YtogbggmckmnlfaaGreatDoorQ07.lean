/- M3 M4 M5 M6 M7 Pm M8 Pf Cd Ce Sa Sb Sc Pb Sd M13 Se M14 Ff Fo: shortened and put together by squeeze.py. -/
import Derived.Test.YtogbggmckmnlfaaGreatDoorQ06
import Derived.Laws.Slices
set_option maxRecDepth 100000
set_option maxHeartbeats 4000000
set_option linter.unusedVariables false
set_option linter.unusedSectionVars false
set_option linter.unusedSimpArgs false
namespace Go.Proofs.YtogbggmckmnlfaaGreatDoor
open Go.RowKit
theorem zfm (sp:Nat)(Y:Tb)(L:Ws)(c:Bool)(x:Ch)(w:World)(h:StateAt w sp Y L c)(hix:∀j,0≤Y.ix j∧Y.ix j≤512):Calls Tryz.prog 158 #[.pointer (some ⟨sp,0,none⟩), .agg (Ch.cells x).toArray] w fun e w'=>e= .returned (.tuple #[.int .i64 (gJ Y c x).1, .int .i64 (gJ Y c x).2])∧Below w.heap.size w w':=by
 obtain ⟨tp,hsp0,hT⟩:=h.tb;have hcon:=h.con;refine dv (M:=fun _=>False) (hs:=[]) Tryz.func158 rfl rfl rfl (Hp.refl _ _) ?_;simp only [Ch.cells];refine dq ?_; (refine cO (Wt.none) rfl rfl (dI) ?_;rintro _ _ ⟨g3,rfl,rfl⟩);refine eg ?_;refine i5 ?_;refine df ?_; (refine cO (Wt.none) rfl rfl (cN rfl rfl rfl (fun w hw=>zcP sp Y L c w (h.kept hw))) ?_;rintro _ _ ⟨rfl,rfl⟩);refine nH ?_;refine ka ?_;refine ei ?_;refine eg ?_;refine du rfl rfl rfl (fun h1=>?_) (fun h1=>?_)
 ·have p1:=h1; (try simp only [cY] at p1);refine ku ?_;refine TL.off (Wt.not rfl rfl rfl h1) rfl rfl ?_;refine lx ?_;refine TL.run 10 rfl ?_;refine mU ?_;refine lO ?_;refine eP rfl rfl rfl (fun w' hw=>⟨?_,hw.isBelow⟩); (rw [show gJ Y c x=(0,2) from if_pos a5])
 ·have p1:=h1; (try simp only [cY] at p1);refine q0G ?_;refine kh ?_;refine q27 ?_;refine df ?_;refine du rfl rfl rfl (fun h2=>?_) (fun h2=>?_)
  ·have p2:=h2; (try simp only [cY] at p2);refine q0k ?_;refine q2O ?_;refine TL.run 5 rfl ?_;refine mU ?_;refine lO ?_;refine eP rfl rfl rfl (fun w' hw=>⟨?_,hw.isBelow⟩); (rw [show gJ Y c x=(0,2) from if_pos a5])
  ·have p2:=h2; (try simp only [cY] at p2);refine nq ?_;refine m9 ?_;refine q4o ?_;refine df ?_;refine du rfl rfl rfl (fun h3=>?_) (fun h3=>?_)
   ·have p3:=h3; (try simp only [cY] at p3);refine q0r ?_;refine q3U ?_;refine mU ?_;refine lO ?_;refine eP rfl rfl rfl (fun w' hw=>⟨?_,hw.isBelow⟩); (rw [show gJ Y c x=(0,2) from if_pos a5])
   ·have p3:=h3; (try simp only [cY] at p3);refine q0U ?_;refine q1V ?_;refine cM (eu rfl rfl h3) ?_;refine db ?_;refine T.cond rfl (fun h4=>?_) (fun h4=>?_)
    ·have p4:=h4; (try simp only [cY] at p4);refine lO ?_;refine eP rfl rfl rfl (fun w' hw=>⟨?_,hw.isBelow⟩); (rw [show gJ Y c x=(0,2) from if_pos a5])
    ·have p4:=h4; (try simp only [cY] at p4);refine ka ?_;refine eg ?_;refine fC ?_;refine cM (dV rfl rfl hcon (fun h=>h)) ?_;refine db ?_;refine T.cond rfl (fun h5=>?_) (fun h5=>?_)
     ·have p5:=h5; (try simp only [cY] at p5);refine lO ?_;refine eP rfl rfl rfl (fun w' hw=>⟨?_,hw.isBelow⟩); (rw [show gJ Y c x=(0,8) from by rw [gJ,if_neg a5,if_pos b8]])
     ·have p5:=h5; (try simp only [cY] at p5);refine q2o ?_; (refine dd rfl (Wt.none) rfl rfl (cN rfl rfl rfl (fun w hw=>zoa tp Y x.st w (hT.later (ii hw.isBelow)) hix)) ?_;rintro _ _ ⟨rfl,rfl⟩;refine ⟨Sx,?_⟩);refine TS.run 5 rfl ?_;refine fQ ?_;refine K.seq (T.seq (dq ?_));refine jB ?_;refine T.cond rfl (fun h6=>?_) (fun h6=>?_)
      ·have p6:=h6; (try simp only [cY] at p6);refine lO ?_;refine eP rfl rfl rfl (fun w' hw=>⟨?_,hw.isBelow⟩); (rw [show gJ Y c x=(0,9) from by rw [gJ,if_neg a5,if_neg (by simp_all),if_pos b8]])
      ·have p6:=h6; (try simp only [cY] at p6);refine i7 ?_;refine eR ?_;refine gH ?_;refine eP rfl rfl rfl (fun w' hw=>⟨?_,hw.isBelow⟩); (rw [show gJ Y c x=((jk Y x.st).1,0) from by rw [gJ,if_neg a5,if_neg (by simp_all),if_neg (by simp_all)]])
def dw (L:Ws)(i:Nat)(g:BitVec 64):Ws:=L.set i (cK L i &&& ~~~g)
theorem zms {L:Ws}{i:Nat}{g:BitVec 64}(hi:i<L.length)(h:cK L i &&& g=0#64):dw L i g=L:=by
 have e:cK L i &&& ~~~g=cK L i:=by
  apply BitVec.eq_of_getLsbD_eq;intro j hj;have:=congrArg (fun b=>BitVec.getLsbD b j) h;simp only [BitVec.getLsbD_and,BitVec.getLsbD_zero] at this;simp only [BitVec.getLsbD_and,BitVec.getLsbD_not]
  cases h1:(cK L i).getLsbD j <;> cases h2:g.getLsbD j <;> simp_all
 unfold dw;rw [e];apply List.ext_getElem?;intro j;by_cases hj:j=i
 ·subst hj;rw [List.getElem?_set_self hi,List.getElem?_eq_getElem hi,dQ hi]
 ·rw [List.getElem?_set_ne (fun e=>hj e.symm)]
theorem zoX {L:Ws}{i:Nat}{g:BitVec 64}(hi:i<L.length):cK (dw L i g) i=cK L i &&& ~~~g:=by unfold dw;rw [lq hi,if_pos rfl]
theorem SInv.cut {Y : Tb} {L : Ws} {i : Nat} {g : BitVec 64} (hok : Y.Ok) (hi : i < Y.n) (hl : L.length = Y.n) (hcalm : ∀ k, k < Y.n → ziD Y L k) (hne : cK L i &&& g ≠ 0#64) :
    SInv Y (dw L i g) (dw L i g) (fu (kz Y (dw L i g) i fL)) fL (decide (cK (dw L i g) i = 0#64)) := by
  (have hil : i < L.length := by omega); have hn := hok.n; have hat := zoX (g := g) hil; (have hlen : (dw L i g).length = Y.n := by unfold dw; rw [List.length_set, hl])
  have hsub : ∀ j, (cK (dw L i g) i).getLsbD j = true → (cK L i).getLsbD j = true := fun j hj => by
    rw [hat, BitVec.getLsbD_and, Bool.and_eq_true] at hj; exact hj.1
  have hchg : cK (dw L i g) i ≠ cK L i := fun e => hne (by
    rw [hat] at e; apply BitVec.eq_of_getLsbD_eq; intro j hj; have := congrArg (fun b => BitVec.getLsbD b j) e; simp only [BitVec.getLsbD_and, BitVec.getLsbD_not] at this;simp only [BitVec.getLsbD_and, BitVec.getLsbD_zero]
    cases h1 : (cK L i).getLsbD j <;> cases h2 : g.getLsbD j <;> simp_all)
  (have ht8 : (kz Y (dw L i g) i fL).length = 8 := by rw [zfW]; rfl); refine ⟨.refl, hlen, rfl, (fun j _ hb => by rw [zdY] at hb; cases hb), fun j hj => ?_, zgC _ 0, fun hc => ⟨i, hi, of_decide_eq_true hc⟩, fun hc k hk => ?_⟩
  · obtain ⟨_, h5, hb⟩ := f9.1 hj; rcases (zdP hok hi (by rfl) j h5).1 hb with h1 | ⟨_, h1 | h1 | h1⟩
    · rw [zdY] at h1; cases h1
    · obtain ⟨x, hx, he⟩ := h1; have := (hok.ps i hi).2 x hx; omega
    · obtain ⟨x, hx, he⟩ := h1; have := (hok.inn i hi).2 x hx; omega
    · obtain ⟨x, hx, he⟩ := h1; have h2 := (hok.out i hi).2 x hx; rcases he with he | ⟨_, o, ho, he⟩
      · omega
      · have := (hok.inn x.to.toNat a5).2 o ho; omega
  · have h0 : cK (dw L i g) i ≠ 0#64 := of_decide_eq_false hc; by_cases hki : k = i
    · subst hki;refine .inr (.inr ⟨h0, ?_⟩); have e := zhn (b := cK L k &&& ~~~g) hok hi hl; (have hg : jA Y (dw L k g) k = jA Y L k := by unfold jA dw; rw [e.1, e.2.1, e.2.2]); rw [hg]; have hc := (hcalm k hk).2; apply BitVec.eq_of_getLsbD_eq; intro j hj; have := congrArg (fun b => BitVec.getLsbD b j) hc; simp only [BitVec.getLsbD_and, BitVec.getLsbD_zero] at this ⊢
      cases h1 : (cK (dw L k g) k).getLsbD j
      · rfl
      · rw [hsub j h1] at this; simpa using this
    · (have hkeep : cK (dw L i g) k = cK L k := by unfold dw; rw [lq hil, if_neg hki]); have h00 : only L i = 0 := zie hsub hchg h0; (have honly : ∀ j, j ≠ i → only (dw L i g) j = only L j := fun j hj => by unfold dw; exact zeK hil hj); by_cases hnear : only (dw L i g) i ≠ 0 ∧ nf Y (dw L i g) i k
      · exact .inl (f9.2 ⟨Nat.zero_le _, by omega, (zdP hok hi (by rfl) k a5).2 (.inr hnear)⟩)
      · refine .inr (.inr ⟨by rw [hkeep]; exact (hcalm k hk).1, ?_⟩)
        have ha : Alike Y L (dw L i g) k := by
          by_cases hz : only (dw L i g) i = 0
          · have hall : ∀ j, only (dw L i g) j = only L j := fun j => by
              by_cases hj : j = i
              · subst hj; rw [hz, h00]
              · exact honly j hj
            exact q49
          · exact zjw hok hi hk hki honly h00 (fun hh => hnear ⟨hz, hh⟩)
        rw [zgO ha (fun x hx => by have := (hok.out k hk).2 x hx; omega), hkeep]; exact (hcalm k hk).2
theorem zoQ (a b c d:Ent):[a,b,c,d].Perm ([c,d,a]++[b]):=by
 have h1:[a,b,c,d].Perm ([c,d]++[a,b]):=List.perm_append_comm (l₁:=[a,b]) (l₂:=[c,d]);exact h1
theorem zoV {w0 w w1:World}{M:Nat→Prop}{es rest:HS}(hfr:Fz w0 w)(h:Hp w M (es++rest) w1)(hMN:∀g,M g→¬jK w0 g)(g:Nat)(hg:dF es g):¬jK w0 g:=fun hc=>by
 obtain ⟨e,he,hf⟩:=hg;rcases h.new e (List.mem_append_left _ he) g hf with hh|hh
 ·exact hMN g hh hc
 ·have h9:=hfr g hc;obtain ⟨_,_,_,h8⟩:=hc;rw [h8] at h9;have:=(Array.getElem?_eq_some_iff.1 h9).1;omega
theorem zpf {w w1:World}{M:Nat→Prop}{es rest:HS}(htab:Tab w)(h:Hp w M (es++rest) w1)(hM0:¬M 0)(hg:dF es 0):False:=by
 obtain ⟨e,he,hf⟩:=hg;rcases h.new e (List.mem_append_left _ he) 0 hf with hh|hh
 ·exact hM0 hh
 ·have:=htab.size;omega
theorem zmW (w0:World)(sp:Nat)(gl:GL)(tp:Nat)(Y:Tb)(L:Ws)(w:World)(ht:TablesAt w0 tp Y)(hok:Y.Ok)(hfr:Fz w0 w)(htab:Tab w)(hes:Hp w (dF [dH sp gl tp Y.n false,fe gl Y.n L]) [dH sp gl tp Y.n false,fe gl Y.n L] w)(hMN:∀g,dF [dH sp gl tp Y.n false,fe gl Y.n L] g→¬jK w0 g)(hM0:¬dF [dH sp gl tp Y.n false,fe gl Y.n L] 0)(hl:L.length=Y.n)(hcalm:∀k,k<Y.n→ziD Y L k)(i:Nat)(z:Int)(hz:z=(i:Int))(hi:i<Y.n)(gone:BitVec 64):Calls Tryz.prog 159 #[.pointer (some ⟨sp,0,none⟩), .int .i64 z,U gone] w fun e w'=>∃y:Ws×Bool,gX Y (dw L i gone) y.1 y.2∧e= .returned (.tuple #[])∧Hp w (dF [dH sp gl tp Y.n false,fe gl Y.n L]) [dH sp gl tp Y.n y.2,fe gl Y.n y.1] w':=by
 subst hz;have hld:(Ws.cells L)[0+i*1]?=some (U (cK L i)):=Ws.get a5 a5; (have hcl:(dw L i gone).length=Y.n:=by unfold dw;rw [List.length_set,hl]);have hld1:(Ws.cells (dw L i gone))[0+i*1]?=some (U (cK (dw L i gone) i)):=Ws.get a5 a5; (have ht8:(kz Y (dw L i gone) i fL).length=8:=by rw [zfW];rfl);refine dv (M:=dF [dH sp gl tp Y.n false,fe gl Y.n L]) (hs:=[dH sp gl tp Y.n false,fe gl Y.n L]) Tryz.func159 rfl rfl rfl hes ?_;refine kn ?_;refine ei ?_;refine mf ?_;refine cM (fy 1 rfl rfl rfl hld) ?_;refine df ?_;refine cM (gE) ?_;refine dB ?_;refine T.cond rfl (fun h1=>?_) (fun h1=>?_)
 ·have p1:=h1; (try simp only [cY] at p1);have hz0:cK L i &&& gone=0#64:=BitVec.eq_of_toNat_eq (by show _=0;omega);refine T.ret (d6 ?_);exact K.bS rfl (fun w' hw=>⟨(L,false),⟨by rw [zms a5 hz0];exact .refl,hl,(fun hh=>by cases hh),fun _=>hcalm⟩,rfl,hw⟩)
 ·have p1:=h1; (try simp only [cY] at p1);have hz1:cK L i &&& gone≠0#64:=fun hh=>p1 (by rw [hh];rfl);have hinv:=SInv.cut hok hi hl hcalm hz1;refine i7 ?_;refine eg ?_;refine ei ?_;refine mf ?_;refine cM (fy 1 rfl rfl rfl hld) ?_;refine df ?_;refine cM (l8 rfl rfl rfl) ?_;refine q0A ?_; (refine dN (Wt.none) rfl (fI 1 (Ws.cells (dw L i gone)) rfl rfl rfl rfl cF (zg0 a5)) ?_;rintro _ _ ⟨rfl,rfl⟩);refine d8 ?_; (refine cO (Wt.none) rfl rfl (Ew.alloc) ?_;rintro _ _ ⟨g6,rfl,rfl⟩);refine d8 ?_;refine eg ?_; (refine cO (Wt.none) rfl rfl (mb 0 rfl rfl rfl rfl (fun w hw=>ziB w0 sp gl tp g6 Y (dw L i gone) _ fL rfl i _ rfl hi w (iQ hw ht (Fz.hp hfr hw hMN) (htab.kept hw hM0) 1 2 rfl rfl (by unfold dw;rw [List.length_set,hl])) hok (by rcases hw.new _ (List.mem_of_getElem? (i:=0) rfl) g6 (cU.2 rfl) with hh|hh;exact hMN _ hh;exact (fun hc=>by have h9:=hfr _ hc;obtain ⟨_,_,_,h8⟩:=hc;rw [h8] at h9;have:=(Array.getElem?_eq_some_iff.1 h9).1;omega)) (by intro hz0;subst hz0;rcases hw.new _ (List.mem_of_getElem? (i:=0) rfl) 0 (cU.2 rfl) with hh|hh;exact hM0 hh;have:=htab.size;omega) (fun hh=>hw.ne (i:=0) (j:=1) a5 rfl rfl (g:=g6) (cU.2 rfl) (cU.2 hh.symm)) (fun hh=>hw.ne (i:=0) (j:=2) a5 rfl rfl (g:=g6) (cU.2 rfl) (de.2 (congrArg some hh))) (hw.get (i:=0) rfl))) ?_;rintro _ _ ⟨-, -,rfl,rfl⟩);refine db ?_;refine T.cut (gs:=[(0, .pointer (some ⟨sp,0,none⟩)),(6, .pointer (some ⟨g6,0,none⟩))]) (hs':=[.row g6 83 (Ws.cells (kz Y (dw L i gone) i fL)),dH sp gl tp Y.n (decide (cK (dw L i gone) i=0#64)),fe gl Y.n (dw L i gone)]) ?_ ?_
  ·skip;refine jO ?_;refine jZ ?_;refine mf ?_;refine cM (fy 2 rfl rfl rfl hld1) ?_;refine dB ?_;refine T.cond rfl (fun h2=>?_) (fun h2=>?_)
   ·have p2:=h2; (try simp only [cY] at p2);have hd0:decide (cK (dw L i gone) i=0#64)=true:=decide_eq_true (BitVec.eq_of_toNat_eq (by show _=0;omega));refine ji ?_;refine fC ?_; (refine dN (Wt.none) rfl (eJ 1 rfl rfl rfl rfl b5) ?_;rintro _ _ ⟨rfl,rfl⟩);refine ff ?_; (rw [hd0];exact K.at (by repeat (first|exact Sub.nil|refine Sub.cons rfl ?_)) Sx)
   ·have p2:=h2; (try simp only [cY] at p2);have hd1:decide (cK (dw L i gone) i=0#64)=false:=decide_eq_false (fun hh=>p2 (by rw [hh];rfl));refine T.skip ?_; (rw [hd1];exact K.at (by repeat (first|exact Sub.nil|refine Sub.cons rfl ?_)) Sx)
  ·skip;refine iV ?_;refine cM (d7 0 rfl rfl rfl (by rw [List.length_map,ht8])) ?_; (refine cO (Wt.none) rfl rfl (jE rfl rfl rfl (fun w hw=>zkP _ ht8 w (htab.kept hw hM0))) ?_;rintro v43 _ ⟨_, -,rfl,rfl⟩);refine fX ?_;refine TL.conv 0 _ (Ent.qu v43 (fu (kz Y (dw L i gone) i fL))) rfl (fun w hh=>zit rfl hh) (fun g hg=>de.2 (gz.1 hg)) ?_; (refine cO (Wt.none) rfl rfl (mg [dH sp gl tp Y.n (decide (cK (dw L i gone) i=0#64)),fe gl Y.n (dw L i gone),Ent.qu v43 (fu (kz Y (dw L i gone) i fL))] [.row g6 83 (Ws.cells (kz Y (dw L i gone) i fL))] rfl rfl rfl (zoQ _ _ _ _) (fun w hw hw2=>zhA w0 sp gl tp Y (dw L i gone) _ _ _ w ht hok (Fz.hp hfr hw hMN) (htab.kept hw hM0) hw2.part (fun g hg=>zoV hfr hw2 hMN g hg) (fun hg=>zpf htab hw2 hM0 hg) hinv)) ?_;rintro _ _ ⟨y44,hpost,rfl,rfl⟩);refine fX ?_;refine ff ?_;exact mB rfl (fun w' hw=>⟨y44,hpost,rfl,hw.sub Sx⟩)
theorem zh8 {Y:Tb}(hix:∀j,0≤Y.ix j∧Y.ix j≤Y.n){s:Int}(h:(jk Y s).2=true):0≤(jk Y s).1∧(jk Y s).1<Y.n:=by
 unfold jk at h ⊢
 split
 ·rename_i hh;rw [if_pos hh] at h;cases h
 ·have:=hix s.toNat;simp only;omega
theorem zdq {Y:Tb}{c:Bool}(hix:∀j,0≤Y.ix j∧Y.ix j≤Y.n){x:Ch}(h:(gJ Y c x).2=0):0≤(gJ Y c x).1∧(gJ Y c x).1<Y.n∧2≤x.ch∧x.ch≤51:=by
 unfold gJ at h ⊢
 split
 ·rename_i hh;rw [if_pos hh] at h;cases h
 ·rename_i hh;rw [if_neg hh] at h
  split
  ·rename_i h2;rw [if_pos h2] at h;cases h
  ·rename_i h2;rw [if_neg h2] at h
   split
   ·rename_i h3;rw [if_pos h3] at h;cases h
   ·rename_i h3;have:=zh8 hix (s:=x.st) (by simpa using h3);simp only;omega
theorem Tb.ix512 {Y:Tb}(hok:Y.Ok)(hix:∀j,0≤Y.ix j∧Y.ix j≤Y.n):∀j,0≤Y.ix j∧Y.ix j≤512:=fun j=>by have:=hix j;have:=hok.n;omega
theorem zhL (sp:Nat)(Y:Tb)(L:Ws)(c:Bool)(x:Ch)(w:World)(h:StateAt w sp Y L c)(hix:∀j,0≤Y.ix j∧Y.ix j≤512)(he:(gJ Y c x).2≠0):Calls Tryz.prog 145 #[.pointer (some ⟨sp,0,none⟩), .agg (Ch.cells x).toArray] w fun e w'=>e= .returned (.int .i64 (gJ Y c x).2)∧Below w.heap.size w w':=by
 refine dv (M:=fun _=>False) (hs:=[]) Tryz.func145 rfl rfl rfl (Hp.refl _ _) ?_;simp only [Ch.cells];refine dq ?_; (refine cO (Wt.none) rfl rfl (dI) ?_;rintro _ _ ⟨g3,rfl,rfl⟩);refine li ?_;refine iv ?_; (refine cO (Wt.none) rfl rfl (cN rfl rfl rfl (fun w hw=>zfm sp Y L c x w (h.kept hw) hix)) ?_;rintro _ _ ⟨rfl,rfl⟩);refine q18 ?_;refine iP rfl (decide_eq_false he) ?_;refine i7 ?_;refine kv ?_;refine cZ rfl rfl (fun w' hw=>⟨?_,hw.isBelow⟩)
 rfl
theorem zlJ (w0:World)(sp:Nat)(gl:GL)(tp:Nat)(Y:Tb)(L:Ws)(w:World)(ht:TablesAt w0 tp Y)(hok:Y.Ok)(hfr:Fz w0 w)(htab:Tab w)(hes:Hp w (dF [dH sp gl tp Y.n false,fe gl Y.n L]) [dH sp gl tp Y.n false,fe gl Y.n L] w)(hMN:∀g,dF [dH sp gl tp Y.n false,fe gl Y.n L] g→¬jK w0 g)(hM0:¬dF [dH sp gl tp Y.n false,fe gl Y.n L] 0)(hl:L.length=Y.n)(hcalm:∀k,k<Y.n→ziD Y L k)(hix:∀j,0≤Y.ix j∧Y.ix j≤Y.n)(x:Ch)(he:(gJ Y false x).2=0):Calls Tryz.prog 145 #[.pointer (some ⟨sp,0,none⟩), .agg (Ch.cells x).toArray] w fun e w'=>∃y:Ws×Bool,gX Y (dw L (gJ Y false x).1.toNat (~~~(1#64 <<< x.ch.toNat))) y.1 y.2∧e= .returned (.int .i64 0)∧Hp w (dF [dH sp gl tp Y.n false,fe gl Y.n L]) [dH sp gl tp Y.n y.2,fe gl Y.n y.1] w':=by
 obtain ⟨hc1,hc2,hc3,hc4⟩:=zdq hix he;refine dv (M:=dF [dH sp gl tp Y.n false,fe gl Y.n L]) (hs:=[dH sp gl tp Y.n false,fe gl Y.n L]) Tryz.func145 rfl rfl rfl hes ?_;simp only [Ch.cells];refine dq ?_; (refine cO (Wt.none) rfl rfl (dI) ?_;rintro _ _ ⟨g3,rfl,rfl⟩);refine li ?_;refine iv ?_; (refine cO (Wt.none) rfl rfl (cN rfl rfl rfl (fun w hw=>zfm sp Y L false x w (iQ hw ht (Fz.hp hfr hw hMN) (htab.kept hw hM0) 1 2 rfl rfl hl).st (Y.ix512 hok hix))) ?_;rintro _ _ ⟨rfl,rfl⟩);refine q3S ?_;refine cM (Yv.bZ rfl rfl) ?_; (refine cO (Wt.none) rfl rfl (mg [dH sp gl tp Y.n false,fe gl Y.n L] [Ent.row g3 68 [.int .i64 x.st, .int .i64 x.ch]] rfl rfl rfl (List.perm_append_comm (l₁:=[Ent.row g3 68 [.int .i64 x.st, .int .i64 x.ch]])) (fun w hw hw2=>zmW w0 sp gl tp Y L w ht hok (Fz.hp hfr hw hMN) (htab.kept hw hM0) hw2.part (fun g hg=>zoV hfr hw2 hMN g hg) (fun hg=>zpf htab hw2 hM0 hg) hl hcalm (gJ Y false x).1.toNat _ a5 a5 (~~~(1#64 <<< x.ch.toNat)))) ?_;rintro _ _ ⟨y,hpost,rfl,rfl⟩);refine fX ?_;refine d8 ?_;refine kv ?_;exact cZ rfl rfl (fun w' hw=>⟨y,hpost,by rw [he],hw.sub Sx⟩)
theorem zhK (sp:Nat)(Y:Tb)(L:Ws)(c:Bool)(x:Ch)(w:World)(h:StateAt w sp Y L c)(hix:∀j,0≤Y.ix j∧Y.ix j≤512)(he:(gJ Y c x).2≠0):Calls Tryz.prog 148 #[.pointer (some ⟨sp,0,none⟩), .agg (Ch.cells x).toArray] w fun e w'=>e= .returned (.int .i64 (gJ Y c x).2)∧Below w.heap.size w w':=by
 refine dv (M:=fun _=>False) (hs:=[]) Tryz.func148 rfl rfl rfl (Hp.refl _ _) ?_;simp only [Ch.cells];refine dq ?_; (refine cO (Wt.none) rfl rfl (dI) ?_;rintro _ _ ⟨g3,rfl,rfl⟩);refine li ?_;refine iv ?_; (refine cO (Wt.none) rfl rfl (cN rfl rfl rfl (fun w hw=>zfm sp Y L c x w (h.kept hw) hix)) ?_;rintro _ _ ⟨rfl,rfl⟩);refine q18 ?_;refine iP rfl (decide_eq_false he) ?_;refine i7 ?_;refine kv ?_;refine cZ rfl rfl (fun w' hw=>⟨?_,hw.isBelow⟩)
 rfl
theorem zmh (w0:World)(sp:Nat)(gl:GL)(tp:Nat)(Y:Tb)(L:Ws)(w:World)(ht:TablesAt w0 tp Y)(hok:Y.Ok)(hfr:Fz w0 w)(htab:Tab w)(hes:Hp w (dF [dH sp gl tp Y.n false,fe gl Y.n L]) [dH sp gl tp Y.n false,fe gl Y.n L] w)(hMN:∀g,dF [dH sp gl tp Y.n false,fe gl Y.n L] g→¬jK w0 g)(hM0:¬dF [dH sp gl tp Y.n false,fe gl Y.n L] 0)(hl:L.length=Y.n)(hcalm:∀k,k<Y.n→ziD Y L k)(hix:∀j,0≤Y.ix j∧Y.ix j≤Y.n)(x:Ch)(he:(gJ Y false x).2=0):Calls Tryz.prog 148 #[.pointer (some ⟨sp,0,none⟩), .agg (Ch.cells x).toArray] w fun e w'=>∃y:Ws×Bool,gX Y (dw L (gJ Y false x).1.toNat (1#64 <<< x.ch.toNat)) y.1 y.2∧e= .returned (.int .i64 0)∧Hp w (dF [dH sp gl tp Y.n false,fe gl Y.n L]) [dH sp gl tp Y.n y.2,fe gl Y.n y.1] w':=by
 obtain ⟨hc1,hc2,hc3,hc4⟩:=zdq hix he;refine dv (M:=dF [dH sp gl tp Y.n false,fe gl Y.n L]) (hs:=[dH sp gl tp Y.n false,fe gl Y.n L]) Tryz.func148 rfl rfl rfl hes ?_;simp only [Ch.cells];refine dq ?_; (refine cO (Wt.none) rfl rfl (dI) ?_;rintro _ _ ⟨g3,rfl,rfl⟩);refine li ?_;refine iv ?_; (refine cO (Wt.none) rfl rfl (cN rfl rfl rfl (fun w hw=>zfm sp Y L false x w (iQ hw ht (Fz.hp hfr hw hMN) (htab.kept hw hM0) 1 2 rfl rfl hl).st (Y.ix512 hok hix))) ?_;rintro _ _ ⟨rfl,rfl⟩);refine q3S ?_; (refine cO (Wt.none) rfl rfl (mg [dH sp gl tp Y.n false,fe gl Y.n L] [Ent.row g3 68 [.int .i64 x.st, .int .i64 x.ch]] rfl rfl rfl (List.perm_append_comm (l₁:=[Ent.row g3 68 [.int .i64 x.st, .int .i64 x.ch]])) (fun w hw hw2=>zmW w0 sp gl tp Y L w ht hok (Fz.hp hfr hw hMN) (htab.kept hw hM0) hw2.part (fun g hg=>zoV hfr hw2 hMN g hg) (fun hg=>zpf htab hw2 hM0 hg) hl hcalm (gJ Y false x).1.toNat _ a5 a5 (1#64 <<< x.ch.toNat))) ?_;rintro _ _ ⟨y,hpost,rfl,rfl⟩);refine fX ?_;refine d8 ?_;refine kv ?_;exact cZ rfl rfl (fun w' hw=>⟨y,hpost,by rw [he],hw.sub Sx⟩)
def jo (Y:Tb)(L:Ws)(k:Nat):List Ch:=((List.range k).filter fun i=>decide (only L i≠0)).map fun i=>⟨cK Y.st i,(only L i:Int)⟩
theorem zhe {Y:Tb}{L:Ws}{k:Nat}:jo Y L (k+1)=jo Y L k++(if only L k≠0 then [⟨cK Y.st k,(only L k:Int)⟩] else []):=by
 unfold jo;rw [List.range_succ,List.filter_append,List.map_append]
 congr 1
 by_cases h:only L k=0 <;> simp [h]
theorem znN {Y:Tb}{L:Ws}{k:Nat}:(jo Y L k).length≤k:=by
 unfold jo;rw [List.length_map];have:=List.length_filter_le (fun i=>decide (only L i≠0)) (List.range k);rw [List.length_range] at this;exact this
theorem zmQ (sp:Nat)(Y:Tb)(L:Ws)(w:World)(h:StateAt w sp Y L false)(hok:Y.Ok):Calls Tryz.prog 160 #[.pointer (some ⟨sp,0,none⟩)] w fun e w'=>∃v:Value,True∧e= .returned v∧Hp w (fun _=>False) [.sl v 68 2 (jo Y L Y.n).length ((jo Y L Y.n).flatMap Ch.cells)] w':=by
 obtain ⟨tp,hsp0,hT⟩:=h.tb;obtain ⟨vL,hsp1,hL⟩:=h.left;obtain ⟨AL,fU,rfl,hLs⟩:=hL.op;have hLn:=h.len;have hcon:=h.con;obtain ⟨vS,hS0,hS⟩:=hT.st;obtain ⟨AS,capS,rfl,hSs⟩:=hS.op;have hn512:=hok.n;have hstn:Y.st.length=Y.n:=rfl;refine dv (M:=fun _=>False) (hs:=[]) Tryz.func160 rfl rfl rfl (Hp.refl _ _) ?_;refine ju ?_; (refine cO (Wt.none) rfl rfl (cN rfl rfl rfl (fun w hw=>zcP sp Y L false w (h.kept hw))) ?_;rintro _ _ ⟨rfl,rfl⟩);refine q3m ?_;refine dB ?_;refine iP rfl rfl ?_;refine i7 ?_;refine jN ?_;refine eg ?_;refine fC ?_;refine cM (dV rfl rfl hsp1 (fun h=>h)) ?_;refine ki ?_;refine T.slNil 68 2 ?_;refine T.loop (ι:=Nat×Value) (fun x=>[(0, .pointer (some ⟨sp,0,none⟩)),(3,x.2),(18, .int .i64 (L.length:Int)),(19, .int .i64 (x.1:Int))]) (fun x=>[.sl x.2 68 2 (jo Y L x.1).length ((jo Y L x.1).flatMap Ch.cells)]) (fun x=>x.1≤L.length) (fun x=>L.length - x.1) (0, .slice none 0 0) ?_ ?_ ?_ ?_
 ·exact Nat.zero_le _
 ·exact (by repeat (first|exact Sub.nil|refine Sub.cons rfl ?_))
 ·exact Sx
 ·intro x hphi;obtain ⟨k,v⟩:=x;dsimp only at hphi ⊢;have hfl:=znN (Y:=Y) (L:=L) (k:=k);refine fh ?_;refine T.cond rfl (fun h1=>?_) (fun h1=>?_)
  ·have p1:=h1; (try simp only [cY] at p1);obtain ⟨gS,oS,rfl,hc⟩:=hSs a5;have hk:=hc k a5;simp only [Ie] at hk;refine fS ?_;refine eg ?_;refine d8 ?_;refine eg ?_; (refine cO (Wt.none) rfl rfl (cN rfl rfl rfl (fun w hw=>zdE sp Y L false k _ rfl a5 w (h.kept hw))) ?_;rintro _ _ ⟨rfl,rfl⟩);refine ig ?_;refine jB ?_;refine T.cond rfl (fun h2=>?_) (fun h2=>?_)
   ·have p2:=h2; (try simp only [cY] at p2);refine m7 ?_;refine q1W ?_;refine cM (dV rfl rfl hS0 (fun h=>h)) ?_;refine df ?_;refine q2b ?_;refine df ?_;refine ll ?_; (refine cO (Wt.none) rfl rfl (Ew.buildSlice rfl rfl rfl a6) ?_;rintro _ _ ⟨g40,rfl,rfl⟩); (refine cO (Wt.none) rfl rfl (Ew.append 1 0 rfl rfl rfl rfl rfl rfl a5 a5) ?_;rintro v41 _ ⟨hv41,rfl⟩);refine df ?_;refine kA ?_;exact K.next (k+1,v41) a9 a9 (by repeat (first|exact Sub.nil|refine Sub.cons rfl ?_)) (by dsimp only;rw [zhe,if_pos a5,List.length_append,List.flatMap_append];exact Sx)
   ·have p2:=h2; (try simp only [cY] at p2);refine iE ?_;exact K.next (k+1,v) a9 a9 (by repeat (first|exact Sub.nil|refine Sub.cons rfl ?_)) (by dsimp only;rw [zhe,if_neg a5,List.append_nil];exact Sx)
  ·have p1:=h1; (try simp only [cY] at p1);refine q04 ?_;refine kv ?_;exact cZ rfl rfl (fun w' hw=>⟨_,trivial,rfl,by rw [show k=Y.n by omega] at hw;exact hw.sub Sx⟩)
def dE (d:Dx):Ent:= .sl d.v 3 1 d.chs.length (d.chs.flatMap Ie)
theorem DomsAt.own {B w:World}{M:Nat→Prop}{hs:HS}{v:Value}{xs:List Dx}{e:TypeId}(hw:Hp B M hs w)(i j:Nat)(hi:hs[i]?=some (.sl v e 2 xs.length (xs.flatMap Dx.cells)))(hj:hs[j]?=some (.bag (xs.map dE))):DomsAt w v xs where
 sl:=SlOf.own (enc:=Dx.cells) (size:=2) (fun _=>rfl) (cX.1 (hw.get hi)) rfl
 each d hd:=by
  have h1:(Ent.sl d.v 3 1 d.chs.length (d.chs.flatMap Ie)).ok w:=(dp.1 (hw.get hj)).1 (dE d) (List.mem_map.2 ⟨d,hd,rfl⟩);exact SlOf.own (enc:=Ie) (size:=1) (fun _=>rfl) (cX.1 h1) rfl
section
variable {n:Nat}{B:World}{M:Nat→Prop}{fs:dY}{hs:HS}{o:Oper}
end
instance:Inhabited (Int×List Int):=⟨(0,[])⟩
def smp (a b c:Value):Pb:={ ds:=[⟨1,a,[14,15]⟩,⟨2,b,[14,15]⟩,⟨3,c,[14,15,16]⟩],ps:=[⟨1,2,0,14,51⟩,⟨2,3,0,14,51⟩],ls:=[⟨3,1,2,14,51⟩,⟨3,2,2,14,51⟩],cs:=[⟨3,1,14,51⟩] }
abbrev sL (g n:Nat):Value:= .slice (some ⟨g,0,none⟩) n n
structure Smp where
 a:Nat
 b:Nat
 c:Nat
 d:Nat
 p:Nat
 l:Nat
 k:Nat
def Smp.pb (s:Smp):Pb:=smp (sL s.a 2) (sL s.b 2) (sL s.c 3)
def Smp.val (s:Smp):List Value:=[sL s.d 3,sL s.p 2,sL s.l 2,sL s.k 1]
def Smp.hs (s:Smp):HS:=[.row s.k 104 (s.pb.cs.flatMap Cp.cells), .row s.l 102 (s.pb.ls.flatMap Ld.cells), .row s.p 100 (s.pb.ps.flatMap Pr.cells), .row s.d 98 (s.pb.ds.flatMap Dx.cells), .row s.c 3 ([14,15,16].flatMap Ie), .row s.b 3 ([14,15].flatMap Ie), .row s.a 3 ([14,15].flatMap Ie)]
theorem zhm {α:Type}{f:BitVec 64→α→BitVec 64}{h:α→Bool}{j:Nat}(hf:∀g x,(f g x).getLsbD j=(g.getLsbD j||h x)):∀(l:List α) (g:BitVec 64),(l.foldl f g).getLsbD j=(g.getLsbD j||l.any h)
 | [],g=>by simp
 |x :: r,g=>by rw [List.foldl_cons,zhm hf r,hf,List.any_cons,Bool.or_assoc]
theorem zku {α:Type}{f:BitVec 64→α→BitVec 64}{h:α→Bool}{j:Nat}:∀(l:List α) (g:BitVec 64),(∀x∈l,∀g,(f g x).getLsbD j=(g.getLsbD j||h x))→(l.foldl f g).getLsbD j=(g.getLsbD j||l.any h)
 | [],g,_=>by simp
 |x :: r,g,hf=>by rw [List.foldl_cons,zku r _ (fun y hy=>hf y (by simp [hy])),hf x a8,List.any_cons,Bool.or_assoc]
theorem zj3 {c j:Nat}(hj:j<64):(1#64 <<< c).getLsbD j=decide (c=j):=by
 rw [BitVec.getLsbD_shiftLeft,BitVec.getLsbD_one];by_cases h:c=j
 ·subst h;simp [hj]
 ·by_cases h2:j<c
  ·simp [h2,h]
  ·simp [hj,h];omega
theorem ziN {g:BitVec 64}{c j:Nat}(hj:j<64):(g ||| 1#64 <<< c).getLsbD j=(g.getLsbD j||decide (c=j)):=by rw [BitVec.getLsbD_or,zj3 hj]
def ze7 (L:Ws)(i j:Nat)(x:Pr):Bool:=
 if x.a=(i:Int) then decide ((only L x.b.toNat:Int)≠0∧x.lo≤(only L x.b.toNat:Int) - x.off∧(only L x.b.toNat:Int) - x.off≤x.hi∧((only L x.b.toNat:Int) - x.off).toNat=j)
 else decide (x.lo≤(only L x.a.toNat:Int)∧(only L x.a.toNat:Int)≤x.hi∧((only L x.a.toNat:Int)+x.off).toNat=j)
theorem ziR {Y:Tb}{L:Ws}{i j:Nat}(hj:j<64):(mI Y L i).getLsbD j=(Y.ps i).any (ze7 L i j):=by
 unfold mI;rw [zhm (h:=ze7 L i j) (fun g x=>?_),BitVec.getLsbD_zero,Bool.false_or];unfold mT ze7
 split
 ·split
  ·rename_i h;rw [ziN hj];congr 1;exact decide_eq_decide.2 ⟨fun hh=>⟨h.1,h.2.1,h.2.2,hh⟩,fun hh=>hh.2.2.2⟩
  ·rename_i h;have:¬((only L x.b.toNat:Int)≠0∧x.lo≤(only L x.b.toNat:Int) - x.off∧(only L x.b.toNat:Int) - x.off≤x.hi∧((only L x.b.toNat:Int) - x.off).toNat=j):=fun hh=>h ⟨hh.1,hh.2.1,hh.2.2.1⟩;rw [decide_eq_false this,Bool.or_false]
 ·split
  ·rename_i h;rw [ziN hj];simp [h]
  ·rename_i h;have:¬(x.lo≤(only L x.a.toNat:Int)∧(only L x.a.toNat:Int)≤x.hi∧((only L x.a.toNat:Int)+x.off).toNat=j):=fun hh=>h ⟨hh.1,hh.2.1⟩;rw [decide_eq_false this,Bool.or_false]
theorem zjL {f:Nat→Int}{g:BitVec 64}{x:Cp}{j:Nat}(hj:j<64)(hlo:0≤x.lo)(hhi:0≤x.hi):(ze8 f g x).getLsbD j=(g.getLsbD j||decide (x.lo≤(j:Int)∧(j:Int)≤x.hi∧x.mx<f j)):=by
 unfold ze8;rw [zhm (h:=fun d=>decide (x.mx<f d)&&decide (d=j)) (fun g d=>?_)]
 ·congr 1
  rw [Bool.eq_iff_iff,List.any_eq_true,decide_eq_true_eq];constructor
  ·rintro ⟨d,hd,h⟩;obtain ⟨h1,h2⟩:=List.mem_range'_1.1 hd;simp only [Bool.and_eq_true,decide_eq_true_eq] at h;obtain ⟨h3,rfl⟩:=h;exact ⟨by omega,by omega,h3⟩
  ·rintro ⟨h1,h2,h3⟩;exact ⟨j,List.mem_range'_1.2 ⟨by omega,by omega⟩,by simp [h3]⟩
 ·unfold ziz
  split
  ·rename_i h;rw [ziN hj];simp [h]
  ·rename_i h;simp [h]
theorem zkm {Y:Tb}{L:Ws}{i j:Nat}(hok:Y.Ok)(hi:i<Y.n)(hj:j<64):(lj Y L i).getLsbD j=(Y.cs i).any fun x=>decide (x.lo≤(j:Int)∧(j:Int)≤x.hi∧x.mx<iF L (Y.inn i) j):=by
 unfold lj;rw [zku (h:=fun x=>decide (x.lo≤(j:Int)∧(j:Int)≤x.hi∧x.mx<iF L (Y.inn i) j)) _ _ (fun x hx g=>by have:=(hok.cs i hi).2 x hx;exact zjL hj a5 a5),BitVec.getLsbD_zero,Bool.false_or]
def ze9 (Y:Tb)(L:Ws)(i j:Nat)(x:Ld):Bool:=decide (x.lo≤(only L x.to.toNat:Int)∧(only L x.to.toNat:Int)≤x.hi∧only L x.to.toNat=j∧∃c∈Y.cs x.to.toNat,(c.lo≤(j:Int)∧(j:Int)≤c.hi)∧c.mx<j6 L i j (Y.inn x.to.toNat))
theorem zo5 {lost:Int}{d j:Nat}{l:List Cp}{g:BitVec 64}(hj:j<64):(l.foldl (zeu lost d) g).getLsbD j=(g.getLsbD j||(decide (d=j)&&decide (∃c∈l,(c.lo≤(d:Int)∧(d:Int)≤c.hi)∧c.mx<lost))):=by
 rw [zhm (h:=fun c=>decide (d=j)&&decide ((c.lo≤(d:Int)∧(d:Int)≤c.hi)∧c.mx<lost)) (fun g c=>?_)]
 ·congr 1
  rw [Bool.eq_iff_iff,List.any_eq_true];simp only [Bool.and_eq_true,decide_eq_true_eq];constructor
  ·rintro ⟨c,hc,h1,h2⟩;exact ⟨h1,c,hc,h2⟩
  ·rintro ⟨h1,c,hc,h2⟩;exact ⟨c,hc,h1,h2⟩
 ·unfold zeu
  split
  ·rename_i h;rw [ziN hj];simp [h]
  ·rename_i h;simp [h]
theorem ziV {Y:Tb}{L:Ws}{i j:Nat}(hj:j<64):(mD Y L i).getLsbD j=(Y.out i).any (ze9 Y L i j):=by
 unfold mD;rw [zhm (h:=ze9 Y L i j) (fun g x=>?_),BitVec.getLsbD_zero,Bool.false_or];unfold lT
 split
 ·rename_i h;rcases h with h|h
  ·rw [show ze9 Y L i j x=false from decide_eq_false (fun hh=>by omega),Bool.or_false]
  ·cases hh:ze9 Y L i j x with
   |false=>rw [Bool.or_false]
   |true=>
    have:=of_decide_eq_true hh;rw [this.2.2.1] at h;rw [h];rfl
 ·rename_i h;rw [zo5 hj]
  congr 1
  unfold ze9;rw [Bool.eq_iff_iff];simp only [Bool.and_eq_true,decide_eq_true_eq];constructor
  ·rintro ⟨rfl,hc⟩;exact ⟨by omega,by omega,rfl,hc⟩
  ·rintro ⟨_,_,rfl,hc⟩;exact ⟨rfl,hc⟩
def Le' (S M:Ws):Prop:=∀i j,(cK S i).getLsbD j=true→(cK M i).getLsbD j=true
theorem zlB {a b:BitVec 64}(hs:∀j,a.getLsbD j=true→b.getLsbD j=true)(ha:a≠0#64)(h:i8 b≠0):i8 a=i8 b:=by
 by_cases e:a=b
 ·rw [e]
 ·exact absurd (zie hs e ha) h
section
variable {Y:Tb}{S M:Ws}
theorem zmJ (hle:Le' S M)(hne:∀i,i<Y.n→cK S i≠0#64){k:Nat}(hk:k<Y.n)(h:only M k≠0):only S k=only M k:=zlB (hle k) (hne k hk) h
theorem zja (hok:Y.Ok)(hle:Le' S M)(hne:∀i,i<Y.n→cK S i≠0#64){d:Nat}(hd:d≠0):∀(l:List Ld),(∀x∈l,0≤x.fr∧x.fr<Y.n∧1≤x.wt)→∀f f':Nat→Int,f d≤f' d→l.foldl (kg M) f d≤l.foldl (kg S) f' d
 | [],_,f,f',h=>h
 |x :: r,hx,f,f',h=>by
  rw [List.foldl_cons,List.foldl_cons];refine zja hok hle hne hd r (fun y hy=>hx y (by simp [hy])) _ _ ?_;have h1:=hx x a8;unfold kg;by_cases hh:x.lo≤(only M x.fr.toNat:Int)∧(only M x.fr.toNat:Int)≤x.hi∧only M x.fr.toNat=d
  ·have e:=zmJ (Y:=Y) hle hne (k:=x.fr.toNat) a5 a5;rw [if_pos hh,if_pos (by rw [e];exact hh)];omega
  ·rw [if_neg hh];split <;> omega
theorem zkr (hok:Y.Ok)(hle:Le' S M)(hne:∀i,i<Y.n→cK S i≠0#64){i d:Nat}(hd:d≠0):∀(l:List Ld),(∀x∈l,0≤x.fr∧x.fr<Y.n∧1≤x.wt)→∀s s':Int,s≤s'→l.foldl (j4 M i d) s≤l.foldl (j4 S i d) s'
 | [],_,s,s',h=>h
 |x :: r,hx,s,s',h=>by
  rw [List.foldl_cons,List.foldl_cons];refine zkr hok hle hne hd r (fun y hy=>hx y (by simp [hy])) _ _ ?_;have h1:=hx x a8;unfold j4;by_cases hh:(x.lo≤(d:Int)∧(d:Int)≤x.hi)∧(x.fr=(i:Int)∨only M x.fr.toNat=d)
  ·rw [if_pos hh,if_pos ⟨hh.1,by
    rcases hh.2 with h2|h2
    ·exact .inl h2
    ·exact .inr (by rw [zmJ (Y:=Y) hle hne (k:=x.fr.toNat) a5 a5];exact h2)⟩]
   omega
  ·rw [if_neg hh];split <;> omega
theorem zl2 (hok:Y.Ok)(hle:Le' S M)(hne:∀i,i<Y.n→cK S i≠0#64){i j:Nat}(hi:i<Y.n)(h:(jA Y M i).getLsbD j=true):(jA Y S i).getLsbD j=true:=by
 have hj:j<64:=BitVec.lt_of_getLsbD h;unfold jA at h ⊢;rw [BitVec.getLsbD_or,BitVec.getLsbD_or,ziR hj,zkm hok hi hj,ziV hj,Bool.or_eq_true,Bool.or_eq_true,List.any_eq_true,List.any_eq_true,List.any_eq_true] at h ⊢;rcases h with (⟨x,hx,h⟩|⟨x,hx,h⟩)|⟨x,hx,h⟩
 ·refine .inl (.inl ⟨x,hx,?_⟩);have hr:=(hok.ps i hi).2 x hx;unfold ze7 at h ⊢
  split at h
  ·rename_i ha;rw [if_pos ha];have h1:=of_decide_eq_true h;have e:=zmJ (Y:=Y) hle hne (k:=x.b.toNat) a5 a5;rw [e];exact h
  ·rename_i ha;rw [if_neg ha];have h1:=of_decide_eq_true h;have e:=zmJ (Y:=Y) hle hne (k:=x.a.toNat) a5 a5;rw [e];exact h
 ·refine .inl (.inr ⟨x,hx,?_⟩);have hr:=(hok.cs i hi).2 x hx;have h1:=of_decide_eq_true h;have hm:=zja hok hle hne (d:=j) a5 (Y.inn i) (fun y hy=>by have:=(hok.inn i hi).2 y hy;omega) (fun _=>0) (fun _=>0) (Int.le_refl _);exact decide_eq_true ⟨h1.1,h1.2.1,by have:iF M (Y.inn i) j≤iF S (Y.inn i) j:=hm;omega⟩
 ·refine .inr ⟨x,hx,?_⟩;have hr:=(hok.out i hi).2 x hx;have h1:=of_decide_eq_true h;obtain ⟨h2,h3,h4,c,hc,h5,h6⟩:=h1;have e:=zmJ (Y:=Y) hle hne (k:=x.to.toNat) a5 a5;have hm:=zkr hok hle hne (i:=i) (d:=j) a5 (Y.inn x.to.toNat) (fun y hy=>by have:=(hok.inn _ (show x.to.toNat<Y.n by omega)).2 y hy;omega) 0 0 (Int.le_refl _);exact decide_eq_true ⟨by rw [e];exact h2,by rw [e];exact h3,by rw [e];exact h4,c,hc,h5,by have:j6 M i j (Y.inn x.to.toNat)≤j6 S i j (Y.inn x.to.toNat):=hm;omega⟩
structure Closed (Y:Tb) (S:Ws):Prop where
 len:S.length=Y.n
 calm:∀i,i<Y.n→ziD Y S i
theorem Closed.ne (h:Closed Y S):∀i,i<Y.n→cK S i≠0#64:=fun i hi=>(h.calm i hi).1
theorem Closed.keep (hok:Y.Ok)(h:Closed Y S){L:Ws}(hl:L.length=Y.n)(hle:Le' S L)(hr:Reach Y L M):Le' S M:=by
 induction hr with
 |refl=>exact hle
 | @step M' k b hr hk hb ih=>
  intro i j hij;rw [lq (by rw [hr.len,hl];exact hk)]
  split
  ·rename_i e;subst e;rw [BitVec.getLsbD_and,ih i j hij,BitVec.getLsbD_not,Bool.true_and];have hj:j<64:=BitVec.lt_of_getLsbD hij
   cases hbj:b.getLsbD j with
   |false=>simp [hj]
   |true=>
    have h1:=zl2 hok ih h.ne hk (hb j hbj);have h2:=congrArg (fun v=>BitVec.getLsbD v j) (h.calm i hk).2;simp only [BitVec.getLsbD_and,BitVec.getLsbD_zero] at h2;rw [hij,h1] at h2
    cases h2
  ·exact ih i j hij
structure Is (Y:Tb) (T L:Ws) (c:Bool):Prop where
 tlen:T.length=Y.n
 len:L.length=Y.n
 sub:Le' L T
 best:∀S,Closed Y S→Le' S T→Le' S L
 bad:c=true→∃i,i<Y.n∧cK L i=0#64
 good:c=false→Closed Y L
theorem nZ {T L:Ws}{c:Bool}(hok:Y.Ok)(hl:T.length=Y.n)(h:gX Y T L c):Is Y T L c:=
 ⟨hl,h.2.1,h.1.sub hl,fun S hS hle=>hS.keep hok hl hle h.1,h.2.2.1,fun hc=>⟨h.2.1,h.2.2.2 hc⟩⟩
theorem iY (h1:Le' S M)(h2:Le' M S)(hl:S.length=M.length):S=M:=by
 apply List.ext_getElem hl;intro i hi1 hi2;have a1:=h1 i;have a2:=h2 i;rw [dQ hi1,dQ hi2] at a1 a2;apply BitVec.eq_of_getLsbD_eq;intro j _
 cases h:S[i].getLsbD j with
 |true=>rw [a1 j h]
 |false=>
  cases h':M[i].getLsbD j with
  |false=>rfl
  |true=>rw [a2 j h'] at h;cases h
theorem Is.cut {T L L':Ws}{c:Bool}{i:Nat}{g:BitVec 64}(hok:Y.Ok)(hi:i<Y.n)(h:Is Y T L false)(k:Is Y (dw L i g) L' c):Is Y (dw T i g) L' c where
 tlen:=by unfold dw;rw [List.length_set,h.tlen]
 len:=k.len
 sub a j hj:=by
  have h1:=k.sub a j hj;unfold dw at h1 ⊢;rw [lq (by rw [h.len];exact hi)] at h1;rw [lq (by rw [h.tlen];exact hi)]
  split at h1
  ·rename_i e;rw [if_pos e];rw [BitVec.getLsbD_and,Bool.and_eq_true] at h1 ⊢;exact ⟨h.sub _ _ h1.1,h1.2⟩
  ·rename_i e;rw [if_neg e];exact h.sub _ _ h1
 best S hS hle:=k.best S hS (fun a j hj=>by
  have h0:Le' S T:=fun a j hj=>by
   have:=hle a j hj;unfold dw at this;rw [lq (by rw [h.tlen];exact hi)] at this
   split at this
   ·rename_i e;subst e;rw [BitVec.getLsbD_and,Bool.and_eq_true] at this;exact this.1
   ·exact this
  have h1:=h.best S hS h0 a j hj;have h2:=hle a j hj;unfold dw at h2 ⊢;rw [lq (by rw [h.tlen];exact hi)] at h2;rw [lq (by rw [h.len];exact hi)]
  split at h2
  ·rename_i e;rw [if_pos e];subst e;rw [BitVec.getLsbD_and,Bool.and_eq_true] at h2 ⊢;exact ⟨h1,h2.2⟩
  ·rename_i e;rw [if_neg e];exact h1)
 bad:=k.bad
 good:=k.good
theorem Is.eq {T L K:Ws}{c:Bool}(hok:Y.Ok)(h:Is Y T L c)(hK:Closed Y K)(hr:Reach Y T K):L=K∧c=false:=by
 have hKT:Le' K T:=hr.sub h.tlen;have h1:=h.best K hK hKT
 have hc:c=false:=by
  cases c with
  |false=>rfl
  |true=>
   obtain ⟨i,hi,h0⟩:=h.bad rfl;exfalso;apply hK.ne i hi;apply BitVec.eq_of_getLsbD_eq;intro j _
   cases hh:(cK K i).getLsbD j with
   |false=>rw [BitVec.getLsbD_zero]
   |true=>have:=h1 i j hh;rw [h0,BitVec.getLsbD_zero] at this;cases this
 subst hc;exact ⟨iY ((h.good rfl).keep hok h.tlen h.sub hr) h1 (by rw [h.len,hK.len]),rfl⟩
end
theorem zpD (ds:List Dx):∀k j,0≤dW ds k j∧dW ds k j≤(k:Int)
 |0,j=>by simp [dW]
 |k+1,j=>by
  have:=zpD ds k j
  show 0≤(if j=(cK ds k).st.toNat then (k:Int)+1 else dW ds k j)∧(if j=(cK ds k).st.toNat then (k:Int)+1 else dW ds k j)≤((k+1:Nat):Int)
  split <;> omega
theorem TbOf.n {P:Pb}{Y:Tb}(h:TbOf P Y):Y.n=P.ds.length:=by unfold Tb.n;rw [h.st];simp
theorem TbOf.ixn {P:Pb}{Y:Tb}(h:TbOf P Y):∀j,0≤Y.ix j∧Y.ix j≤Y.n:=fun j=>by rw [h.ix,h.n];exact zpD _ _ _
theorem NewIs.is {P:Pb}{Y:Tb}{L:Ws}{c:Bool}{tp:Nat}{w0:World}(hG:P.Good)(h:NewIs P Y L c tp w0):Is Y P.left L c:=nZ (h.tb.ok hG) (by rw [h.tb.n];simp [Pb.left]) h.post
theorem zmo {Y:Tb}{T L L':Ws}{c:Bool}{i:Nat}{g:BitVec 64}(hok:Y.Ok)(hi:i<Y.n)(h:Is Y T L false)(k:gX Y (dw L i g) L' c):Is Y (dw T i g) L' c:=
 h.cut hok hi (nZ hok (by unfold dw;rw [List.length_set,h.len]) k)
structure Ac where
 kind:Int
 ch:Ch
deriving DecidableEq,Inhabited
def Ac.cells (a:Ac):List Value:=[.int .i64 a.kind, .int .i64 a.ch.st, .int .i64 a.ch.ch]
def Ac.bits (a:Ac):BitVec 64:=if a.kind=0 then ~~~(1#64 <<< a.ch.ch.toNat) else 1#64 <<< a.ch.ch.toNat
def lW (Y:Tb)(T:Ws)(a:Ac):Ws:=if (gJ Y false a.ch).2=0 then dw T (gJ Y false a.ch).1.toNat a.bits else T
structure Fin (Y:Tb) (T L:Ws) (c:Bool):Prop where
 tlen:T.length=Y.n
 len:L.length=Y.n
 good:c=false→Is Y T L false
 bad:c=true→∀S,Closed Y S→¬Le' S T
section
variable {Y:Tb}{T L L':Ws}{c c':Bool}
theorem Is.fin (h:Is Y T L c):Fin Y T L c where
 tlen:=h.tlen
 len:=h.len
 good hc:=hc▸h
 bad hc S hS hle:=by
  obtain ⟨i,hi,h0⟩:=h.bad hc;apply hS.ne i hi;apply BitVec.eq_of_getLsbD_eq;intro j _
  cases hh:(cK S i).getLsbD j with
  |false=>rw [BitVec.getLsbD_zero]
  |true=>have:=h.best S hS hle i j hh;rw [h0,BitVec.getLsbD_zero] at this;cases this
theorem zma {i:Nat}{g:BitVec 64}:Le' (dw T i g) T:=fun a j hj=>by
 unfold dw at hj;by_cases hi:i<T.length
 ·rw [lq hi] at hj
  split at hj
  ·rename_i e;subst e;rw [BitVec.getLsbD_and,Bool.and_eq_true] at hj;exact hj.1
  ·exact hj
 ·rw [List.set_eq_of_length_le a5] at hj;exact hj
theorem zoT {a:Ac}:Le' (lW Y T a) T:=by
 unfold lW;split
 ·exact zma
 ·exact fun _ _ h=>h
theorem zm5 {a:Ac}:(lW Y T a).length=T.length:=by
 unfold lW dw;split <;> simp
theorem Fin.skip {a:Ac}(h:Fin Y T L true):Fin Y (lW Y T a) L true:=
 ⟨by rw [zm5,h.tlen],h.len,(fun hh=>by cases hh),fun _ S hS hle=>h.bad rfl S hS (fun i j hj=>zoT i j (hle i j hj))⟩
theorem Fin.step {a:Ac}(hok:Y.Ok)(hix:∀j,0≤Y.ix j∧Y.ix j≤Y.n)(h:Fin Y T L false)(he:(gJ Y false a.ch).2=0)(hp:gX Y (dw L (gJ Y false a.ch).1.toNat a.bits) L' c'):Fin Y (lW Y T a) L' c':=by
 unfold lW;rw [if_pos he];have:=zdq hix he;exact (zmo hok a5 (h.good rfl) hp).fin
theorem Fin.same (h:Fin Y T L c)(h':Fin Y T L' c'):c=c'∧(c=false→L=L'):=by
 have hc:c=c':=by
  cases c with
  |true=>
   cases c' with
   |true=>rfl
   |false=>exact absurd (h'.good rfl).sub (h.bad rfl L' ((h'.good rfl).good rfl))
  |false=>
   cases c' with
   |false=>rfl
   |true=>exact absurd (h.good rfl).sub (h'.bad rfl L ((h.good rfl).good rfl))
 subst hc;refine ⟨rfl,fun hf=>?_⟩;have a:=h.good hf;have b:=h'.good hf;exact iY (b.best L (a.good rfl) a.sub) (a.best L' (b.good rfl) b.sub) (by rw [h.len,h'.len])
end
def Pr.er (x:Pr):GPair:=⟨x.a,x.b,x.off,x.lo,x.hi⟩
def Ld.er (x:Ld):GLoad:=⟨x.to,x.fr,x.wt,x.lo,x.hi⟩
def Cp.er (x:Cp):GCap:=⟨x.st,x.mx,x.lo,x.hi⟩
def Dx.er (x:Dx):GDomain:=⟨x.st,x.chs⟩
def Pb.er (P:Pb):GProblem:=⟨P.ds.map Dx.er,⟨P.ps.map Pr.er,P.ls.map Ld.er,P.cs.map Cp.er⟩⟩
def gd (Y:Tb)(L:Ws):List GDomain:=(List.range Y.n).map fun i=>⟨cK Y.st i,(dC (cK L i)).map fun j:Nat=>(j:Int)⟩
theorem iM {Y:Tb}{L:Ws}:(gd Y L).length=Y.n:=by simp [gd]
theorem jp {Y:Tb}{L:Ws}{i:Nat}(h:i<Y.n):cK (gd Y L) i=⟨cK Y.st i,(dC (cK L i)).map fun j:Nat=>(j:Int)⟩:=by
 rw [dQ (by rw [iM];exact h)];simp [gd]
theorem zio {b:BitVec 64}(hb:b≠0#64){c:Int}(hc:c≠0):(∀j∈dC b,(j:Int)=c)↔((i8 b:Nat):Int)=c:=by
 have hz:=(zg2 hb 0).1;constructor
 ·intro h;have h1:=h (ctz b) (dO.2 hz)
  have h2:b &&& (b - 1#64)=0#64:=by
   apply BitVec.eq_of_getLsbD_eq;intro j _;rw [zkf hb,BitVec.getLsbD_zero]
   cases hj:b.getLsbD j with
   |false=>rfl
   |true=>have:=h j (dO.2 hj);simp;omega
  unfold i8;rw [if_pos ⟨hb,h2⟩];exact h1
 ·intro h j hj;unfold i8 at h
  split at h
  ·rename_i h2;have h3:=congrArg (fun v=>BitVec.getLsbD v j) h2.2;simp only [zkf hb,BitVec.getLsbD_zero,dO.1 hj,Bool.true_and,Bool.not_eq_false',decide_eq_true_eq] at h3;rw [h3];exact h
  ·exact absurd h.symm hc
theorem zfM {α:Type}{p q:α→Bool}:∀ {l:List α},(∀x∈l,p x=q x)→l.any p=l.any q
 | [],_=>rfl
 |x :: r,h=>by rw [List.any_cons,List.any_cons,h x a8,zfM (l:=r) (fun y hy=>h y (by simp [hy]))]
theorem zo6 {P:Pb}(h:P.ok=true):P.ls.length≤1024:=by
 simp only [Pb.ok,Pb.rulesOk,Bool.and_eq_true,decide_eq_true_eq] at h;omega
section
variable {P:Pb}{Y:Tb}{L:Ws}
theorem TbOf.nth_st (hY:TbOf P Y){i:Nat}(hi:i<Y.n):cK Y.st i=(cK P.ds i).st:=by
 rw [hY.st];exact jJ (by rw [←hY.n];exact hi)
theorem zfL (hG:P.Good)(hY:TbOf P Y){i j:Nat}(hi:i<Y.n)(hj:j<Y.n)(h:cK Y.st i=cK Y.st j):i=j:=by
 rw [hY.nth_st hi,hY.nth_st hj] at h;have hn:=hY.n;rcases Nat.lt_trichotomy i j with h1|h1|h1
 ·have:=hG.inc i j h1 a5;omega
 ·exact h1
 ·have:=hG.inc j i h1 a5;omega
theorem zfd (hG:P.Good)(hY:TbOf P Y)(hne:∀i,i<Y.n→cK L i≠0#64){k:Nat}(hk:k<Y.n){c:Int}(hc:c≠0):jq (gd Y L) (cK Y.st k) c=true↔((only L k:Nat):Int)=c:=by
 rw [gG];unfold only;rw [←zio (hne k hk) hc];constructor
 ·intro h j hj;exact h (cK (gd Y L) k) (fG (by rw [iM];exact hk)) (by rw [jp hk]) j (by rw [jp hk];exact List.mem_map.2 ⟨j,hj,rfl⟩)
 ·intro h x hx hs q hq;obtain ⟨i,hi,rfl⟩:=iS hx;rw [iM] at hi;rw [jp hi] at hs hq;obtain rfl:=zfL hG hY hi hk hs;obtain ⟨j,hj,rfl⟩:=List.mem_map.1 hq;exact h j hj
theorem zjY (hG:P.Good)(hY:TbOf P Y){i:Nat}(hi:i<Y.n):P.ix (cK Y.st i)=(i:Int):=by
 rw [hY.nth_st hi];exact eV hG (by rw [←hY.n];exact hi)
theorem zm9 (hG:P.Good)(hY:TbOf P Y)(hne:∀i,i<Y.n→cK L i≠0#64){i j:Nat}(hi:i<Y.n)(hj:j<64):P.er.Rules.Pairs.any (mZ (gd Y L) (cK Y.st i) j)=(Y.ps i).any (ze7 L i j):=by
 have hn:=hY.n
 have key:∀x∈P.ps,((decide ((P.rp x).a=(i:Int))||decide ((P.rp x).b=(i:Int)))&&ze7 L i j (P.rp x))=mZ (gd Y L) (cK Y.st i) j x.er:=by
  intro x hx;obtain ⟨hok,⟨ia,hia,ha⟩,⟨ib,hib,hb⟩⟩:=hG.ps x hx;simp only [Pr.ok,ft,inB,Bool.and_eq_true,decide_eq_true_eq] at hok; (have hsa:x.a=cK Y.st ia:=by rw [hY.nth_st a5];exact ha); (have hsb:x.b=cK Y.st ib:=by rw [hY.nth_st a5];exact hb); (have e1:(P.rp x).a=(ia:Int):=by unfold Pb.rp;dsimp only;rw [hsa,zjY hG hY a5]); (have e2:(P.rp x).b=(ib:Int):=by unfold Pb.rp;dsimp only;rw [hsb,zjY hG hY a5]);have e3:(P.rp x).off=x.off:=rfl;have e4:(P.rp x).lo=x.lo:=rfl;have e5:(P.rp x).hi=x.hi:=rfl;have ea:x.a=cK Y.st i↔ia=i:=⟨fun h=>zfL hG hY a5 hi (hsa.symm.trans h),fun h=>by rw [hsa,h]⟩;have eb:x.b=cK Y.st i↔ib=i:=⟨fun h=>zfL hG hY a5 hi (hsb.symm.trans h),fun h=>by rw [hsb,h]⟩;have w1:wI ((j:Int)+x.off)=(j:Int)+x.off:=mG a5;have w2:wI ((j:Int) - x.off)=(j:Int) - x.off:=mG a5;rw [Bool.eq_iff_iff];unfold ze7 mZ Pr.er;simp only [e1,e2,e3,e4,e5,w1,w2,Bool.and_eq_true,Bool.or_eq_true,decide_eq_true_eq,ea,eb,Int.toNat_natCast]; (have hab:ia≠ib:=fun h=>by subst h;omega);by_cases h1:ia=i
  ·subst h1;rw [if_pos rfl];simp only [decide_eq_true_eq];rw [hsb];constructor
   ·rintro ⟨_,h2,h3,h4,h5⟩;exact .inl ⟨⟨trivial,by omega,by omega⟩,(zfd hG hY hne a5 a5).2 a5⟩
   ·rintro (⟨⟨_,h2⟩,h3⟩|⟨⟨h2,_⟩,_⟩)
    ·have:=(zfd hG hY hne (k:=ib) a5 a5).1 h3;exact ⟨.inl trivial,by omega,by omega,by omega,by omega⟩
    ·exact absurd h2.symm hab
  ·rw [if_neg a5];simp only [decide_eq_true_eq];rw [hsa];constructor
   ·rintro ⟨h2,h3,h4,h5⟩;exact .inr ⟨⟨by omega,by omega,by omega⟩,(zfd hG hY hne a5 a5).2 a5⟩
   ·rintro (⟨⟨h2,_⟩,_⟩|⟨⟨h2,h3⟩,h4⟩)
    ·exact absurd h2 h1
    ·have:=(zfd hG hY hne (k:=ia) a5 a5).1 h4;exact ⟨.inr a5,by omega,by omega,by omega⟩
 show (P.ps.map Pr.er).any _=_
 rw [hY.ps];unfold Pb.psA;rw [List.take_length,List.any_map,List.any_filter,List.any_map];exact zfM fun x hx=>(key x hx).symm
theorem zj6 (hG:P.Good)(hY:TbOf P Y){x:Ld}(hx:x∈P.ls):∃a b,a<Y.n∧b<Y.n∧x.to=cK Y.st a∧x.fr=cK Y.st b∧(P.rl x).to=(a:Int)∧(P.rl x).fr=(b:Int)∧0≤x.fr∧1≤x.wt∧x.wt≤1073741824∧2≤x.lo:=by
 have hn:=hY.n;obtain ⟨hok,⟨ia,hia,ha⟩,⟨ib,hib,hb⟩⟩:=hG.ls x hx;simp only [Ld.ok,ft,inB,Bool.and_eq_true,decide_eq_true_eq] at hok; (have hsa:x.to=cK Y.st ia:=by rw [hY.nth_st a5];exact ha); (have hsb:x.fr=cK Y.st ib:=by rw [hY.nth_st a5];exact hb);refine ⟨ia,ib,by omega,by omega,hsa,hsb,?_,?_,by omega,by omega,by omega,by omega⟩
 ·unfold Pb.rl;dsimp only;rw [hsa,zjY hG hY a5]
 ·unfold Pb.rl;dsimp only;rw [hsb,zjY hG hY a5]
theorem zjU (hG : P.Good) (hY : TbOf P Y) (hne : ∀ i, i < Y.n → cK L i ≠ 0#64) {t j : Nat} (ht : t < Y.n) (hj0 : j ≠ 0) : ∀ (l : List Ld), (∀ x ∈ l, x ∈ P.ls) → ∀ (f : Nat → Int), 0 ≤ f j → f j + 1073741824 * (l.length : Int) ≤ 4611686018427387904 →
    (l.map Ld.er).foldl (fun n x => bif loadC (gd Y L) (cK Y.st t) j (-1) x then wI (n + x.Weight) else n) (f j) = ((l.map P.rl).filter fun x => decide (x.to = (t : Int))).foldl (kg L) f j
  | [], _, f, _, _ => rfl
  | x :: r, hl, f, h0, hb => by
    obtain ⟨a, b, ha, hbn, hsa, hsb, e1, e2, h1, h2, h3, h4⟩ := zj6 hG hY (hl x a8); simp only [List.length_cons] at hb; have hw : wI (f j + x.wt) = f j + x.wt := mG a5; have hto : x.to = cK Y.st t ↔ a = t := ⟨fun h => zfL hG hY ha ht (hsa.symm.trans h), fun h => by rw [hsa, h]⟩
    have hon : jq (gd Y L) x.fr j = true ↔ only L b = j := by
      rw [hsb, zfd hG hY hne hbn a5]; omega
    rw [List.map_cons, List.map_cons, List.foldl_cons, List.filter_cons]
    have hc : loadC (gd Y L) (cK Y.st t) j (-1) x.er = decide (a = t ∧ (x.lo ≤ (j : Int) ∧ (j : Int) ≤ x.hi) ∧ only L b = j) := by
      rw [Bool.eq_iff_iff]; unfold loadC Ld.er;simp only [Bool.and_eq_true, Bool.or_eq_true, decide_eq_true_eq, hto, hon]; constructor
      · rintro ⟨⟨h5, h6⟩, h7 | h7⟩
        · omega
        · exact ⟨h5, h6, h7⟩
      · rintro ⟨h5, h6, h7⟩; exact ⟨⟨h5, h6⟩, .inr h7⟩
    rw [hc]; by_cases hat : a = t
    · subst hat; rw [if_pos (by rw [e1]; simp), List.foldl_cons]
      have hs : kg L f (P.rl x) j = bif decide (a = a ∧ (x.lo ≤ (j : Int) ∧ (j : Int) ≤ x.hi) ∧ only L b = j) then wI (f j + x.er.Weight) else f j := by
        show (if x.lo ≤ (only L (P.rl x).fr.toNat : Int) ∧ (only L (P.rl x).fr.toNat : Int) ≤ x.hi ∧ only L (P.rl x).fr.toNat = j then f j + x.wt else f j) = _
        rw [e2, Int.toNat_natCast]; by_cases h5 : (x.lo ≤ (j : Int) ∧ (j : Int) ≤ x.hi) ∧ only L b = j
        · rw [if_pos ⟨by rw [h5.2]; omega, by rw [h5.2]; omega, h5.2⟩, decide_eq_true ⟨rfl, h5⟩, cond_true]; exact hw.symm
        · rw [if_neg (fun h6 => h5 ⟨by rw [← h6.2.2]; omega, h6.2.2⟩), decide_eq_false (fun h6 => h5 h6.2), cond_false]
      rw [← hs]; refine zjU hG hY hne ht hj0 r (fun y hy => hl y (by simp [hy])) (kg L f (P.rl x)) ?_ ?_
      · rw [hs]; cases decide (a = a ∧ (x.lo ≤ (j : Int) ∧ (j : Int) ≤ x.hi) ∧ only L b = j)
        · exact h0
        · show 0 ≤ wI (f j + x.wt); rw [hw]; omega
      · rw [hs]; cases decide (a = a ∧ (x.lo ≤ (j : Int) ∧ (j : Int) ≤ x.hi) ∧ only L b = j)
        · rw [cond_false]; omega
        · show wI (f j + x.wt) + _ ≤ _; rw [hw]; omega
    · rw [if_neg (by rw [e1]; simp; omega), decide_eq_false (fun h => hat h.1), cond_false]; exact zjU hG hY hne ht hj0 r (fun y hy => hl y (by simp [hy])) f h0 a5
theorem zmz (hG : P.Good) (hY : TbOf P Y) (hne : ∀ i, i < Y.n → cK L i ≠ 0#64) {t i j : Nat} (ht : t < Y.n) (hi : i < Y.n) (hj0 : j ≠ 0) : ∀ (l : List Ld), (∀ x ∈ l, x ∈ P.ls) → ∀ (n : Int), 0 ≤ n → n + 1073741824 * (l.length : Int) ≤ 4611686018427387904 →
    (l.map Ld.er).foldl (fun n x => bif loadC (gd Y L) (cK Y.st t) j (cK Y.st i) x then wI (n + x.Weight) else n) n = ((l.map P.rl).filter fun x => decide (x.to = (t : Int))).foldl (j4 L i j) n
  | [], _, n, _, _ => rfl
  | x :: r, hl, n, h0, hb => by
    obtain ⟨a, b, ha, hbn, hsa, hsb, e1, e2, h1, h2, h3, h4⟩ := zj6 hG hY (hl x a8); simp only [List.length_cons] at hb; have hw : wI (n + x.wt) = n + x.wt := mG a5; have hto : x.to = cK Y.st t ↔ a = t := ⟨fun h => zfL hG hY ha ht (hsa.symm.trans h), fun h => by rw [hsa, h]⟩; have hfr : x.fr = cK Y.st i ↔ b = i := ⟨fun h => zfL hG hY hbn hi (hsb.symm.trans h), fun h => by rw [hsb, h]⟩
    have hon : jq (gd Y L) x.fr j = true ↔ only L b = j := by
      rw [hsb, zfd hG hY hne hbn a5]; omega
    rw [List.map_cons, List.map_cons, List.foldl_cons, List.filter_cons]
    have hc : loadC (gd Y L) (cK Y.st t) j (cK Y.st i) x.er = decide (a = t ∧ (x.lo ≤ (j : Int) ∧ (j : Int) ≤ x.hi) ∧ (b = i ∨ only L b = j)) := by
      rw [Bool.eq_iff_iff]; unfold loadC Ld.er;simp only [Bool.and_eq_true, Bool.or_eq_true, decide_eq_true_eq, hto, hon, hfr, and_assoc]
    rw [hc]; by_cases hat : a = t
    · subst hat; rw [if_pos (by rw [e1]; simp), List.foldl_cons]
      have hs : j4 L i j n (P.rl x) = bif decide (a = a ∧ (x.lo ≤ (j : Int) ∧ (j : Int) ≤ x.hi) ∧ (b = i ∨ only L b = j)) then wI (n + x.er.Weight) else n := by
        show (if (x.lo ≤ (j : Int) ∧ (j : Int) ≤ x.hi) ∧ ((P.rl x).fr = (i : Int) ∨ only L (P.rl x).fr.toNat = j) then n + x.wt else n) = _
        rw [e2, Int.toNat_natCast]; by_cases h5 : (x.lo ≤ (j : Int) ∧ (j : Int) ≤ x.hi) ∧ (b = i ∨ only L b = j)
        · rw [if_pos ⟨h5.1, h5.2.imp (fun h => by omega) id⟩, decide_eq_true ⟨rfl, h5⟩, cond_true]; exact hw.symm
        · rw [if_neg (fun h6 => h5 ⟨h6.1, h6.2.imp (fun h => by omega) id⟩), decide_eq_false (fun h6 => h5 h6.2), cond_false]
      rw [← hs]; refine zmz hG hY hne ht hi hj0 r (fun y hy => hl y (by simp [hy])) _ ?_ ?_
      · rw [hs]; cases decide (a = a ∧ (x.lo ≤ (j : Int) ∧ (j : Int) ≤ x.hi) ∧ (b = i ∨ only L b = j))
        · exact h0
        · show 0 ≤ wI (n + x.wt); rw [hw]; omega
      · rw [hs]; cases decide (a = a ∧ (x.lo ≤ (j : Int) ∧ (j : Int) ≤ x.hi) ∧ (b = i ∨ only L b = j))
        · rw [cond_false]; omega
        · show wI (n + x.wt) + _ ≤ _; rw [hw]; omega
    · rw [if_neg (by rw [e1]; simp; omega), decide_eq_false (fun h => hat h.1), cond_false]; exact zmz hG hY hne ht hi hj0 r (fun y hy => hl y (by simp [hy])) n h0 a5
theorem zl4 (hG:P.Good)(hY:TbOf P Y){t j:Nat}(ht:t<Y.n){l:Int}:kY P.er (cK Y.st t) j l=true↔∃x∈Y.cs t,(x.lo≤(j:Int)∧(j:Int)≤x.hi)∧x.mx<l:=by
 have hn:=hY.n;unfold kY
 show (P.cs.map Cp.er).any _=true↔_
 rw [hY.cs,List.any_eq_true];unfold Pb.csA;rw [List.take_length];constructor
 ·rintro ⟨y,hy,h⟩;obtain ⟨x,hx,rfl⟩:=List.mem_map.1 hy;rw [Bool.and_eq_true,Bool.and_eq_true] at h;have h1:x.st=cK Y.st t:=of_decide_eq_true h.1.1;refine ⟨P.rc x,List.mem_filter.2 ⟨List.mem_map.2 ⟨x,hx,rfl⟩,?_⟩,of_decide_eq_true h.1.2,of_decide_eq_true h.2⟩;unfold Pb.rc;dsimp only;rw [h1,zjY hG hY ht];simp
 ·rintro ⟨y,hy,h⟩;obtain ⟨h1,h2⟩:=List.mem_filter.1 hy;obtain ⟨x,hx,rfl⟩:=List.mem_map.1 h1;refine ⟨x.er,List.mem_map.2 ⟨x,hx,rfl⟩,?_⟩;obtain ⟨_,k,hk,hs⟩:=hG.cs x hx; (have hs':x.st=cK Y.st k:=by rw [hY.nth_st a5];exact hs);have h3:P.ix x.st=(t:Int):=of_decide_eq_true h2;rw [hs',zjY hG hY a5] at h3; (have:k=t:=by omega);subst this;rw [Bool.and_eq_true,Bool.and_eq_true];exact ⟨⟨decide_eq_true hs',decide_eq_true h.1⟩,decide_eq_true h.2⟩
theorem zlS (hG:P.Good)(hok:P.ok=true)(hY:TbOf P Y)(hne:∀i,i<Y.n→cK L i≠0#64){t j:Nat}(ht:t<Y.n)(hj0:j≠0):ik P.er (gd Y L) (cK Y.st t) j (-1)=iF L (Y.inn t) j:=by
 have hl:=zo6 hok;unfold ik iF;rw [hY.inn];unfold Pb.inA;rw [List.take_length];exact zjU hG hY hne ht hj0 P.ls (fun _ h=>h) (fun _=>0) (Int.le_refl _) a5
theorem znM (hG:P.Good)(hok:P.ok=true)(hY:TbOf P Y)(hne:∀i,i<Y.n→cK L i≠0#64){t i j:Nat}(ht:t<Y.n)(hi:i<Y.n)(hj0:j≠0):ik P.er (gd Y L) (cK Y.st t) j (cK Y.st i)=j6 L i j (Y.inn t):=by
 have hl:=zo6 hok;unfold ik j6;rw [hY.inn];unfold Pb.inA;rw [List.take_length];exact zmz hG hY hne ht hi hj0 P.ls (fun _ h=>h) 0 (Int.le_refl _) a5
theorem zkx (hok:P.ok=true)(hY:TbOf P Y)(hne:∀i,i<Y.n→cK L i≠0#64){i j:Nat}(hi:i<Y.n)(hj0:j≠0)(hj:j<64):iA P.er (gd Y L) (cK Y.st i) j=(jA Y L i).getLsbD j:=by
 have hG:=Pb.good hok;have hYo:=hY.ok hG;unfold iA jA;rw [BitVec.getLsbD_or,BitVec.getLsbD_or,ziR hj,zkm hYo hi hj,ziV hj,zm9 hG hY hne hi hj]
 congr 1
 ·congr 1
  rw [Bool.eq_iff_iff,zlS hG hok hY hne hi hj0,zl4 hG hY hi,List.any_eq_true];simp only [decide_eq_true_eq,and_assoc]
 ·have key:∀x∈P.ls,(decide ((P.rl x).fr=(i:Int))&&ze9 Y L i j (P.rl x))=loadR P.er (gd Y L) (cK Y.st i) j x.er:=by
   intro x hx;obtain ⟨a,b,ha,hbn,hsa,hsb,e1,e2,h1,h2,h3,h4⟩:=zj6 hG hY hx;have hfr:x.fr=cK Y.st i↔b=i:=⟨fun h=>zfL hG hY hbn hi (hsb.symm.trans h),fun h=>by rw [hsb,h]⟩
   have hon:jq (gd Y L) x.to j=true↔only L a=j:=by
    rw [hsa,zfd hG hY hne ha a5];omega
   have hov:kY P.er x.to j (ik P.er (gd Y L) x.to j (cK Y.st i))=true↔∃c∈Y.cs a,(c.lo≤(j:Int)∧(j:Int)≤c.hi)∧c.mx<j6 L i j (Y.inn a):=by
    rw [hsa,znM hG hok hY hne ha hi hj0,zl4 hG hY ha]
   rw [Bool.eq_iff_iff];unfold loadR;simp only [Bool.and_eq_true,decide_eq_true_eq]
   show _↔((x.fr=cK Y.st i∧x.lo≤(j:Int)∧(j:Int)≤x.hi)∧jq (gd Y L) x.to j=true)∧kY P.er x.to j (ik P.er (gd Y L) x.to j (cK Y.st i))=true
   rw [hfr,hon,hov];unfold ze9;rw [decide_eq_true_eq,e1,e2,Int.toNat_natCast]
   show _∧x.lo≤(only L a:Int)∧(only L a:Int)≤x.hi∧_↔_
   constructor
   ·rintro ⟨h5,h6,h7,h8,h9⟩;exact ⟨⟨⟨by omega,by omega,by omega⟩,h8⟩,h9⟩
   ·rintro ⟨⟨⟨h5,h6,h7⟩,h8⟩,h9⟩;exact ⟨by omega,by omega,by omega,h8,h9⟩
  show (P.ls.map Ld.er).any _=_
  rw [hY.out];unfold Pb.ouA;rw [List.take_length,List.any_map,List.any_filter,List.any_map];exact zfM fun x hx=>(key x hx).symm
end
theorem chansN_sub {b:BitVec 64}:(dC b).Sublist (List.range' 0 64):=by unfold dC;exact List.filter_sublist
theorem zeB (b:BitVec 64):(dC b).Nodup:=List.Nodup.sublist chansN_sub List.nodup_range'
theorem zjf (b:BitVec 64):(dC b).length≤64:=by have:=(chansN_sub (b:=b)).length_le;simpa using this
theorem ziG {b:BitVec 64}(h:b≠0#64):dC b≠[]:=fun e=>by
 have:=dO.2 (zg2 h 0).1;rw [e] at this;cases this
theorem zfr {b c:BitVec 64}(h:∀j,c.getLsbD j=true→b.getLsbD j=true):dC c=(dC b).filter c.getLsbD:=by
 unfold dC;rw [List.filter_filter];apply List.filter_congr;intro j _
 cases hc:c.getLsbD j with
 |false=>rfl
 |true=>rw [h j hc];rfl
theorem zcZ {α:Type}[DecidableEq α]:∀ {a l:List α},a.Sublist l→l.Nodup→a=l.filter fun x=>decide (x∈a)
 |a,[],h,_=>by cases h;rfl
 |a,y :: l,h,hn=>by
  rw [List.nodup_cons] at hn
  cases h with
  |cons _ h=>
   have:y∉a:=fun hy=>hn.1 (h.subset hy);rw [List.filter_cons,if_neg (by simpa using this)];exact zcZ h hn.2
  |cons_cons _ h=>
   rename_i a';rw [List.filter_cons,if_pos a8]
   congr 1
   conv=>lhs;rw [zcZ h hn.2]
   apply List.filter_congr;intro x hx;have:x≠y:=fun e=>hn.1 (e▸hx);simp [this]
theorem zdB {α:Type}[DecidableEq α]{a b l:List α}(ha:a.Sublist l)(hb:b.Sublist l)(hn:l.Nodup)(h:∀x,x∈a↔x∈b):a=b:=by
 rw [zcZ ha hn,zcZ hb hn];apply List.filter_congr;intro x _;exact decide_eq_decide.2 (h x)
theorem i3 {l:List Nat}{c:Int}:c∈l.map (fun j:Nat=>(j:Int))↔∃j∈l,c=(j:Int):=by
 rw [List.mem_map];exact ⟨fun ⟨j,h,e⟩=>⟨j,h,e.symm⟩,fun ⟨j,h,e⟩=>⟨j,h,e.symm⟩⟩
theorem zeQ {l:List Nat}(h:l.Nodup):(l.map fun j:Nat=>(j:Int)).Nodup:=List.Pairwise.map _ (fun a b h e=>h a5) h
theorem zgT (j:Nat)(hj:j<64):∀(l:List Int) (m:BitVec 64),(l.foldl (fun m c=>m ||| 1#64 <<< c.toNat) m).getLsbD j=(m.getLsbD j||l.any fun c=>decide (c.toNat=j))
 | [],m=>by simp
 |x :: r,m=>by rw [List.foldl_cons,zgT j hj r,ziN hj,List.any_cons,Bool.or_assoc]
theorem zeO {l:List Int}{j:Nat}(hl:∀c∈l,0≤c∧c<64):(jY l).getLsbD j=true↔(j:Int)∈l:=by
 constructor
 ·intro h;have hj:=BitVec.lt_of_getLsbD h;unfold jY at h;rw [zgT j hj,BitVec.getLsbD_zero,Bool.false_or,List.any_eq_true] at h;obtain ⟨c,hc,h⟩:=h;have:=hl c hc;have h2:=of_decide_eq_true h;rw [show (j:Int)=c by omega];exact hc
 ·intro h;have:=hl _ h;unfold jY;rw [zgT j a5,BitVec.getLsbD_zero,Bool.false_or,List.any_eq_true];exact ⟨_,h,by simp⟩
section
variable {P:Pb}{Y:Tb}{L T:Ws}{c:Bool}
def In51 (T:Ws):Prop:=∀i j,(cK T i).getLsbD j=true→2≤j∧j≤51
theorem In51.le {S:Ws}(h:In51 T)(k:Le' S T):In51 S:=fun i j hj=>h i j (k i j hj)
theorem zhp {i:Nat}(hi:i<Y.n){q:Int}:q∈(cK (gd Y L) i).Channels↔∃j:Nat,(cK L i).getLsbD j=true∧q=(j:Int):=by
 rw [jp hi]
 show q∈(dC (cK L i)).map (fun j:Nat=>(j:Int))↔_
 rw [i3];exact ⟨fun ⟨j,h,e⟩=>⟨j,dO.1 h,e⟩,fun ⟨j,h,e⟩=>⟨j,dO.2 h,e⟩⟩
theorem zlL {S:Ws}(h:Le' S T):SubD (gd Y S) (gd Y T):=by
 refine ⟨by rw [iM,iM],fun i hi=>?_⟩;rw [iM] at hi;refine ⟨by rw [jp hi,jp hi],fun q hq=>?_⟩;obtain ⟨j,hj,rfl⟩:=(zhp hi).1 hq;exact (zhp hi).2 ⟨j,h i j hj,rfl⟩
theorem zp0 (hn:Y.n≤512):Bd (gd Y L):=by
 refine ⟨by rw [iM];omega,fun x hx=>?_⟩;obtain ⟨i,hi,rfl⟩:=iS hx;rw [iM] at hi;rw [jp hi];refine ⟨?_,zeQ (zeB _)⟩;have:=zjf (cK L i);simp;omega
theorem zoJ (hok:P.ok=true):WtP P.er:=by
 refine ⟨?_,fun x hx=>?_⟩
 ·show (P.ls.map Ld.er).length≤1024
  rw [List.length_map];exact zo6 hok
 ·obtain ⟨y,hy,rfl⟩:=List.mem_map.1 hx;have hok':=((Pb.good hok).ls y hy).1;simp only [Ld.ok,ft,inB,Bool.and_eq_true,decide_eq_true_eq] at hok'
  show 0≤y.wt∧y.wt≤1073741824
  omega
theorem zjt (hok:P.ok=true)(hY:TbOf P Y)(h:Closed Y L)(hb:In51 L):ClosedD P.er (gd Y L):=by
 refine ⟨fun x hx=>?_,fun x hx q hq=>?_⟩
 ·obtain ⟨i,hi,rfl⟩:=iS hx;rw [iM] at hi;rw [jp hi];have:=ziG (h.ne i hi);simpa using this
 ·obtain ⟨i,hi,rfl⟩:=iS hx;rw [iM] at hi;obtain ⟨j,hj,rfl⟩:=(zhp hi).1 hq;have h2:=hb i j hj;rw [jp hi]
  show iA P.er (gd Y L) (cK Y.st i) j=false
  rw [zkx hok hY h.ne hi a5 a5];have h3:=congrArg (fun v=>BitVec.getLsbD v j) (h.calm i hi).2;simp only [BitVec.getLsbD_and,BitVec.getLsbD_zero,hj,Bool.true_and] at h3;exact h3
theorem zjB (hok:P.ok=true)(hY:TbOf P Y)(hb:In51 T){S:List GDomain}(hS:ClosedD P.er S)(hs:SubD S (gd Y T)):∃S':Ws,Closed Y S'∧Le' S' T∧SubD S (gd Y S'):=by
 (have hl:S.length=Y.n:=by rw [hs.1,iM]);have hch:∀i,i<Y.n→∀q∈(cK S i).Channels,∃j:Nat,(cK T i).getLsbD j=true∧q=(j:Int):=fun i hi q hq=>(zhp hi).1 ((hs.2 i (by rw [iM];exact hi)).2 q hq)
 have hbit:∀i j,i<Y.n→((cK (S.map fun x=>jY x.Channels) i).getLsbD j=true↔(j:Int)∈(cK S i).Channels):=fun i j hi=>by
  rw [iU (by rw [hl];exact hi)];refine zeO fun q hq=>?_;obtain ⟨k,hk,rfl⟩:=hch i hi q hq;have:=hb i k hk;omega
 (have hlen:(S.map fun x=>jY x.Channels).length=Y.n:=by rw [List.length_map,hl])
 have hle:Le' (S.map fun x=>jY x.Channels) T:=fun i j hj=>by
  rcases Nat.lt_or_ge i Y.n with hi|hi
  ·obtain ⟨k,hk,e⟩:=hch i hi _ ((hbit i j hi).1 hj);rw [show j=k by omega];exact hk
  ·unfold cK at hj;rw [List.getD_eq_getElem?_getD,List.getElem?_eq_none (by rw [hlen];exact hi)] at hj;have hj':(0#64).getLsbD j=true:=hj;rw [BitVec.getLsbD_zero] at hj'
   cases hj'
 have hsub:SubD S (gd Y (S.map fun x=>jY x.Channels)):=by
  refine ⟨by rw [hl,iM],fun i hi=>?_⟩;rw [iM] at hi;refine ⟨?_,fun q hq=>?_⟩
  ·rw [(hs.2 i (by rw [iM];exact hi)).1,jp hi,jp hi]
  ·obtain ⟨j,hj,rfl⟩:=hch i hi q hq;exact (zhp hi).2 ⟨j,(hbit i j hi).2 hq,rfl⟩
 have hne:∀i,i<Y.n→cK (S.map fun x=>jY x.Channels) i≠0#64:=fun i hi e=>by
  have h1:=hS.ne _ (fG (show i<S.length by rw [hl];exact hi))
  cases hc:(cK S i).Channels with
  |nil=>exact h1 hc
  |cons q r=>
   (have hq:q∈(cK S i).Channels:=by rw [hc];simp);obtain ⟨j,hj,rfl⟩:=hch i hi q hq;have:=(hbit i j hi).2 hq;rw [e,BitVec.getLsbD_zero] at this
   cases this
 refine ⟨_,⟨hlen,fun i hi=>⟨hne i hi,?_⟩⟩,hle,hsub⟩;apply BitVec.eq_of_getLsbD_eq;intro j hj;rw [BitVec.getLsbD_and,BitVec.getLsbD_zero]
 cases h1:(cK (S.map fun x=>jY x.Channels) i).getLsbD j with
 |false=>rfl
 |true=>
  have h2:=(hb.le hle) i j h1
  cases h3:(jA Y (S.map fun x=>jY x.Channels) i).getLsbD j with
  |false=>rfl
  |true=>
   rw [←zkx hok hY hne hi a5 a5] at h3;have h4:=zhj (zoJ hok) hsub h3;have h5:=hS.calm _ (fG (show i<S.length by rw [hl];exact hi)) _ ((hbit i j hi).1 h1);rw [(hs.2 i (by rw [iM];exact hi)).1,jp hi] at h5;rw [h4] at h5
   cases h5
theorem znG (hok:P.ok=true)(hY:TbOf P Y)(hb:In51 T)(hF:Fin Y T L c){r:List GDomain×Bool}(hr:PropD P.er (gd Y T) r):r=if c then ([],false) else (gd Y L,true):=by
 cases c with
 |true=>
  rcases hr with ⟨_,h2,h3,_⟩|⟨h,_⟩
  ·obtain ⟨S',h4,h5,_⟩:=zjB hok hY hb h2 h3.1;exact absurd h5 (hF.bad rfl S' h4)
  ·exact h
 |false=>
  have hI:=hF.good rfl;have hC:=hI.good rfl;have hbL:=hb.le hI.sub;rcases hr with ⟨h1,h2,h3,h4⟩|⟨_,h⟩
  ·have h5:=h4 _ (zjt hok hY hC hbL) (zlL hI.sub);obtain ⟨S',h6,h7,h8⟩:=zjB hok hY hb h2 h3.1;have h9:SubD r.1 (gd Y L):=h8.trans (zlL (hI.best S' h6 h7))
   have e:r.1=gd Y L:=by
    refine zfa (by rw [h9.1]) fun i hi=>?_; (have hi':i<Y.n:=by rw [h9.1,iM] at hi;exact hi);have a1:=h9.2 i (by rw [iM];exact hi');have a2:=h5.2 i hi
    have hsub:(cK (gd Y L) i).Channels.Sublist (cK (gd Y T) i).Channels:=by
     rw [jp hi',jp hi']
     show ((dC (cK L i)).map _).Sublist ((dC (cK T i)).map _)
     rw [zfr (hI.sub i)];exact List.filter_sublist.map _
    have hch:(cK r.1 i).Channels=(cK (gd Y L) i).Channels:=by
     refine zdB (h3.2 i (by rw [iM];exact hi')) hsub ?_ (fun x=>⟨a1.2 x,a2.2 x⟩);rw [jp hi'];exact zeQ (zeB _)
    cases hx:cK r.1 i with
    |mk s1 c1=>
     cases hy:cK (gd Y L) i with
     |mk s2 c2=>
      have b1:=a1.1;rw [hx,hy] at b1 hch;simp only at b1 hch;rw [b1,hch]
   rw [if_neg a8,←e,←h1]
  ·exact absurd (zlL hI.sub) (h _ (zjt hok hY hC hbL))
end
theorem SlC.slof {α:Type}[Inhabited α]{F:Frz}{w:World}{v:Value}{size:Nat}{enc:α→List Value}{xs:List α}(h:SlC F v size (xs.map enc))(hF:F.At w):SlOf w v enc size xs:=by
 obtain ⟨A,cap,h1,h2,h3,h4,h5⟩:=h;rw [List.length_map] at h1 h5;refine ⟨A,cap,h1,fun hl=>?_⟩;obtain ⟨g,off,rfl,hg,hc⟩:=h5 hl;refine ⟨g,off,rfl,fun i hi=>?_⟩;have:=Cs.at hF hg (hc i hi)
 rwa [jJ hi,dQ hi] at this
def GPair.b (x:GPair):Pr:=⟨x.A,x.B,x.Offset,x.Low,x.High⟩
def GLoad.b (x:GLoad):Ld:=⟨x.To,x.From,x.Weight,x.Low,x.High⟩
def GCap.b (x:GCap):Cp:=⟨x.Station,x.Max,x.Low,x.High⟩
def GChoice.b (x:GChoice):Ch:=⟨x.Station,x.Channel⟩
def Ch.er (x:Ch):GChoice:=⟨x.st,x.ch⟩
theorem ze2 {α β:Type}{f:α→β}{g:β→α}(h:∀x,g (f x)=x)(l:List α):(l.map f).map g=l:=by
 rw [List.map_map]
 conv=>rhs;rw [←List.map_id l]
 congr 1
 funext x
 exact h x
theorem SlOf.ofMap {α β:Type}{w:World}{v:Value}{size:Nat}{enc:α→List Value}{enc':β→List Value}{f:α→β}(he:∀x,enc' (f x)=enc x){xs:List α}(h:SlOf w v enc size xs):SlOf w v enc' size (xs.map f):=by
 obtain ⟨A,cap,h1,h2⟩:=h;refine ⟨A,cap,by rw [List.length_map];exact h1,fun hl=>?_⟩;rw [List.length_map] at hl;obtain ⟨g,off,hA,hc⟩:=h2 hl;refine ⟨g,off,hA,fun i hi=>?_⟩;rw [List.length_map] at hi;rw [List.getElem_map,he];exact hc i hi
structure PbF (F:Frz) (vd:Value) (cd:List (List Value)) (vp vl vc:Value) (p:GProblem):Prop where
 ds:SlD cL F vd 2 cd p.Domains
 ps:SlC F vp 5 (p.Rules.Pairs.map cP)
 ls:SlC F vl 5 (p.Rules.Loads.map cR)
 cs:SlC F vc 4 (p.Rules.Caps.map cV)
theorem zjH {F:Frz}{w:World}{vd vp vl vc:Value}{cd:List (List Value)}{p:GProblem}(h:PbF F vd cd vp vl vc p)(hF:F.At w):∃P:Pb,P.er=p∧ProbAt w vd vp vl vc P:=by
 obtain ⟨hd,hp,hl,hc⟩:=h;have hlen:=hd.2.1
 have hrow:∀i,i<p.Domains.length→cK cd i=[.int .i64 (cK p.Domains i).Station,cK (cK cd i) 1]∧SlC F (cK (cK cd i) 1) 1 ((cK p.Domains i).Channels.map eI):=fun i hi=>by
  obtain ⟨v1,h0,h1⟩:=hd.2.2 i hi;rw [h0];exact ⟨rfl,h1⟩
 have eds:((List.range p.Domains.length).map fun i=>(⟨(cK p.Domains i).Station,cK (cK cd i) 1,(cK p.Domains i).Channels⟩:Dx)).map Dx.er=p.Domains:=by
  refine zfa a8 fun i hi=>?_;simp at hi;rw [iU (by simpa using hi),dQ (by simpa using hi)];simp [Dx.er]
 refine ⟨⟨(List.range p.Domains.length).map fun i=>⟨(cK p.Domains i).Station,cK (cK cd i) 1,(cK p.Domains i).Channels⟩,p.Rules.Pairs.map GPair.b,p.Rules.Loads.map GLoad.b,p.Rules.Caps.map GCap.b⟩,?_,?_⟩
 ·unfold Pb.er;dsimp only;rw [eds,ze2 (g:=Pr.er) (fun _=>rfl),ze2 (g:=Ld.er) (fun _=>rfl),ze2 (g:=Cp.er) (fun _=>rfl)]
 ·refine ⟨⟨?_,?_⟩,⟨(hp.slof hF).ofMap (f:=GPair.b) (enc':=Pr.cells) (fun _=>rfl),(hl.slof hF).ofMap (f:=GLoad.b) (enc':=Ld.cells) (fun _=>rfl),(hc.slof hF).ofMap (f:=GCap.b) (enc':=Cp.cells) (fun _=>rfl),?_,?_,?_⟩,?_,?_⟩
  ·obtain ⟨A,cap,h1,h2,h3,h4,h5⟩:=hd.1;dsimp only;refine ⟨A,cap,by rw [h1,hlen];simp,fun hl0=>?_⟩;simp at hl0;obtain ⟨g,off,rfl,hg,hcs⟩:=h5 a5;refine ⟨g,off,rfl,fun i hi=>?_⟩;simp at hi;have:=Cs.at hF hg (hcs i a5);rw [(hrow i hi).1] at this;simpa [Dx.cells] using this
  ·intro d hd';obtain ⟨i,hi,rfl⟩:=List.mem_map.1 hd';have hi':=List.mem_range.1 hi; (exact ((hrow i hi').2.slof hF).ofMap (f:=fun x=>x) (enc':=Ie) (fun _=>rfl) |> fun q=>by simpa using q)
  ·have:=hp.max;simpa using this
  ·have:=hl.max;simpa using this
  ·have:=hc.max;simpa using this
  ·have:=hd.1.max;simp;omega
  ·intro d hd';obtain ⟨i,hi,rfl⟩:=List.mem_map.1 hd';have:=(hrow i (List.mem_range.1 hi)).2.max;simpa using this
theorem Fx.hp {F:Frz}{w w':World}{es:HS}(hF:F.At w)(h:Hp w (fun _=>False) es w'):∃G:Frz,Fx F w G w'∧G.w=w'∧∀e∈es,∀g,e.fp g→Cb w' g→G.S g:=by
 have hb:=h.isBelow;have hF':=hF.below hb;refine ⟨⟨fun g=>F.S g∨((∃ e∈es,e.fp g)∧Cb w' g),w',fun g hg=>hg.elim (fun h=>hF'.cb h) (fun h=>h.2)⟩,⟨fun g hg=>⟨.inl hg,hF' g hg⟩,fun g _=>rfl,fun g hg=>?_,hb⟩,rfl,fun e he g hg hc=> .inr ⟨⟨e,he,hg⟩,hc⟩⟩;rcases hg with h1|⟨⟨e,he,hg⟩,_⟩
 ·exact .inl h1
 ·exact .inr ((h.new e he g hg).elim (fun h=>h.elim) id)
theorem jw {G:Frz}{w':World}{v:Value}{e:TypeId}{size k:Nat}{l:List Value}(hok:(Ent.sl v e size k l).ok w')(hw:G.w=w')(hS:∀g,(Ent.sl v e size k l).fp g→Cb w' g→G.S g):SlK G v size k l:=by
 have ho:=cX.1 hok;rcases ho.2 with ⟨rfl,h0⟩|⟨g,cap,cur,rfl,hb,hg,hnc,hcm,hcs,htake⟩
 ·subst h0;exact ⟨ho.1,none,0,rfl,Nat.le_refl _,by omega,fun h=>by omega⟩
 ·refine ⟨ho.1,_,cap,rfl,hnc,by unfold maxLen at hcm;omega,fun _=>⟨g,rfl,hS g (de.2 rfl) ⟨_,_,_,hg⟩,fun q hq=>?_⟩⟩;rw [hw,Nat.zero_add,World.ownsRow.cellAt ho q (by rw [←ho.1];exact hq)]
theorem zoO {F:Frz}{w w':World}{v:Value}{xs:List Ch}(hF:F.At w)(h:Hp w (fun _=>False) [.sl v 68 2 xs.length (xs.flatMap Ch.cells)] w'):∃G:Frz,Fx F w G w'∧SlC G v 2 ((xs.map Ch.er).map cQ):=by
 obtain ⟨G,h1,h2,h3⟩:=Fx.hp hF h;refine ⟨G,h1,?_⟩;have h4:=jw (G:=G) (h.own (.sl v 68 2 xs.length (xs.flatMap Ch.cells)) a8) h2 (h3 _ a8)
 have e:xs.flatMap Ch.cells=(xs.map Ch.er).flatMap cQ:=by
  rw [List.flatMap_map];rfl
 rw [e] at h4;exact h4.toF a8 GChoice.len
theorem znI {w w':World}{es es' rest:HS}(h:(Ent.bag (es++rest)).ok w)(hk:Hp w (dF es) es' w'):Hp w (Ent.bag (es++rest)).fp [.bag (es'++rest)] w':=by
 obtain ⟨hok,hap⟩:=dp.1 h;obtain ⟨a1,a2,a3⟩:=List.pairwise_append.1 hap;have hold:∀e∈rest,∀g,e.fp g→w'.heap[g]?=w.heap[g]?:=fun e he g hg=>hk.base g (e.lt (hok e (List.mem_append_right _ he)) g hg) (fun ⟨f,hf,hfg⟩=>a3 f hf e he g hfg hg);refine ⟨hk.os,hk.tape,hk.output,hk.size,fun k hk1 hk2=>hk.base k hk1 (fun ⟨e,he,hg⟩=>hk2 (dk.2 ⟨e,List.mem_append_left _ he,hg⟩)),?_,?_,List.pairwise_singleton _ _⟩
 ·intro e he;simp at he;subst he;refine dp.2 ⟨fun e he=>?_,List.pairwise_append.2 ⟨hk.apart,a2,fun e he f hf g hg hfg=>?_⟩⟩
  ·rcases List.mem_append.1 he with he|he
   ·exact hk.own e he
   ·exact e.loc (hold e he) (hok e (List.mem_append_right _ he))
  ·rcases hk.new e he g hg with ⟨x,hx,hxg⟩|hn
   ·exact a3 x hx f hf g hxg hfg
   ·have:=f.lt (hok f (List.mem_append_right _ hf)) g hfg;omega
 ·intro e he g hg;simp at he;subst he;obtain ⟨f,hf,hfg⟩:=dk.1 hg;rcases List.mem_append.1 hf with hf|hf
  ·rcases hk.new f hf g hfg with ⟨x,hx,hxg⟩|hn
   ·exact .inl (dk.2 ⟨x,List.mem_append_left _ hx,hxg⟩)
   ·exact .inr hn
  ·exact .inl (dk.2 ⟨f,List.mem_append_right _ hf,hfg⟩)
theorem zjO {w w':World}{es:HS}(h:Hp w (fun _=>False) es w'):Hp w (fun _=>False) [.bag es] w':=
 ⟨h.os,h.tape,h.output,h.size,h.base,fun e he=>by simp at he;subst he;exact dp.2 ⟨h.own,h.apart⟩,fun e he g hg=>by
  simp at he;subst he;obtain ⟨f,hf,hfg⟩:=dk.1 hg
  exact h.new f hf g hfg,List.pairwise_singleton _ _⟩
theorem zf1 {α:Type}{p q:α→Bool}:∀ {l:List α},(∀x∈l,p x=q x)→l.all p=l.all q
 | [],_=>rfl
 |x :: r,h=>by rw [List.all_cons,List.all_cons,h x a8,zf1 (l:=r) (fun y hy=>h y (by simp [hy]))]
theorem zpR {Y:Tb}{L:Ws}:eA (gd Y L)≤Y.n*64:=by
 unfold eA gd;rw [List.map_map]
 have:∀l:List Nat,(l.map ((fun x:GDomain=>x.Channels.length)∘fun i=>(⟨cK Y.st i,(dC (cK L i)).map fun j:Nat=>(j:Int)⟩:GDomain))).sum≤l.length*64:=by
  intro l
  induction l with
  |nil=>simp
  |cons i r ih=>
   have:=zjf (cK L i);simp only [List.map_cons,List.sum_cons,List.length_cons,Function.comp,List.length_map] at ih ⊢;omega
 have h:=this (List.range Y.n)
 rwa [List.length_range] at h
theorem zff:∀(n a:Nat) (l:List Int),(∀q∈l,(a:Int)≤q∧q<(a:Int)+n)→l.Pairwise (· < ·)→l.Sublist ((List.range' a n).map fun j:Nat=>(j:Int))
 |0,a,l,h,_=>by
  cases l with
  |nil=>exact List.Sublist.refl _
  |cons q r=>have:=h q a8;omega
 |n+1,a,l,h,hp=>by
  rw [List.range'_succ,List.map_cons]
  cases l with
  |nil=>exact List.nil_sublist _
  |cons q r=>
   have hq:=h q a8;have hr:=List.pairwise_cons.1 hp;by_cases e:q=(a:Int)
   ·subst e;refine List.Sublist.cons_cons _ (zff n (a+1) r (fun x hx=>?_) hr.2);have h1:=h x (by simp [hx]);have h2:=hr.1 x hx;omega
   ·refine List.Sublist.cons _ (zff n (a+1) (q :: r) (fun x hx=>?_) hp);have h1:=h x hx;rcases List.mem_cons.1 hx with rfl|hx
    ·omega
    ·have h2:=hr.1 x hx;omega
theorem zo4 {l:List Int}(h:fR dR l=true):l.Pairwise (· < ·):=by
 unfold fR at h;rw [List.all_eq_true] at h
 have step:∀k,k+1<l.length→cK l k<cK l (k+1):=fun k hk=>by
  have:=h (k+1) (List.mem_range.2 hk);simp only [Bool.or_eq_true,decide_eq_true_eq,Bool.not_eq_true',decide_eq_false_iff_not,Nat.add_sub_cancel] at this;rcases this with h1|h1
  ·omega
  ·unfold dR at h1;split at h1
   ·assumption
   ·split at h1 <;> omega
 rw [List.pairwise_iff_getElem];intro i j hi hj hij
 have key:∀m,i+m+1<l.length→cK l i<cK l (i+m+1):=by
  intro m
  induction m with
  |zero=>intro h;exact step i h
  |succ m ih=>intro h;exact Int.lt_trans (ih a5) (step (i+m+1) a5)
 have:=key (j - i - 1) a5;rw [show i+(j - i - 1)+1=j by omega,dQ hi,dQ hj] at this;exact this
theorem zmY {P:Pb}(hok:P.ok=true){i:Nat}(hi:i<P.ds.length):(cK P.ds i).chs.Sublist ((List.range' 0 64).map fun j:Nat=>(j:Int)):=by
 have hb:=((Pb.good hok).chs _ (fG hi)).2;refine zff 64 0 _ (fun q hq=>by have:=hb q hq;omega) (zo4 ?_);simp only [Pb.ok,Bool.and_eq_true] at hok;have:=ex.1 hok.1 _ (fG hi);simp only [Dx.ok,Bool.and_eq_true] at this;exact this.2.2
def GDomain.b (x:GDomain):Dx:=⟨x.Station, .slice none 0 0,x.Channels⟩
def eF (p:GProblem):Pb:=⟨p.Domains.map GDomain.b,p.Rules.Pairs.map GPair.b,p.Rules.Loads.map GLoad.b,p.Rules.Caps.map GCap.b⟩
def gW (p:GProblem):Bool:=(eF p).ok
theorem zpa (P:Pb):P.ok=gW P.er:=by
 have e1:(eF P.er).ps=P.ps:=ze2 (fun _=>rfl) P.ps;have e2:(eF P.er).ls=P.ls:=ze2 (fun _=>rfl) P.ls;have e3:(eF P.er).cs=P.cs:=ze2 (fun _=>rfl) P.cs
 have e4:(eF P.er).ds=P.ds.map fun d=>⟨d.st, .slice none 0 0,d.chs⟩:=by
  show (P.ds.map Dx.er).map GDomain.b=_
  rw [List.map_map];rfl
 (have e5:(eF P.er).ds.map (·.st)=P.ds.map (·.st):=by rw [e4,List.map_map];rfl); (have e6:(eF P.er).has=P.has:=by funext i;unfold Pb.has;rw [e5]); (have hn:∀k,k<P.ds.length→cK (eF P.er).ds k=⟨(cK P.ds k).st, .slice none 0 0,(cK P.ds k).chs⟩:=fun k hk=>by rw [e4,jJ hk]); (have hl:(eF P.er).ds.length=P.ds.length:=by rw [e4,List.length_map])
 have e7:gk Dx.ok (eF P.er).ds=gk Dx.ok P.ds:=by
  unfold gk;rw [hl];refine zf1 fun k hk=>?_;rw [hn k (List.mem_range.1 hk)];rfl
 have e8:fR (fun a b=>dR a.st b.st) (eF P.er).ds=fR (fun a b=>dR a.st b.st) P.ds:=by
  unfold fR;rw [hl];refine zf1 fun k hk=>?_;have:=List.mem_range.1 hk;rw [hn k this,hn (k - 1) a5]
 unfold gW Pb.ok Pb.rulesOk;rw [e1,e2,e3,e6,e7,e8]
theorem zoD {P : Pb} {Y : Tb} (hok : P.ok = true) (hY : TbOf P Y) : gd Y P.left = P.er.Domains ∧ In51 P.left := by
  have hG := Pb.good hok; have hn := hY.n; have hb : ∀ i, i < P.ds.length → ∀ q ∈ (cK P.ds i).chs, 2 ≤ q ∧ q ≤ 51 := fun i hi => (hG.chs _ (fG hi)).2; (have hleft : ∀ i, i < P.ds.length → cK P.left i = jY (cK P.ds i).chs := fun i hi => by unfold Pb.left; rw [jJ hi]); constructor
  · refine zfa (by rw [iM, hn]; simp [Pb.er]) fun i hi => ?_; rw [iM] at hi; (have hi' : i < P.ds.length := by omega); rw [jp hi, hleft i hi']
    show _ = cK (P.ds.map Dx.er) i
    rw [iU hi', hY.nth_st hi]; unfold Dx.er
    congr 1
    -- the channels of the word are the channels
    refine zdB (l := (List.range' 0 64).map fun j : Nat => (j : Int)) (chansN_sub.map _) ?_ (zeQ List.nodup_range') (fun q => ?_)
    · exact zmY hok hi'
    · rw [i3]; constructor
      · rintro ⟨j, hj, rfl⟩; exact (zeO (fun c hc => by have := hb i hi' c hc; omega)).1 (dO.1 hj)
      · intro hq; have h2 := hb i hi' q hq;refine ⟨q.toNat, dO.2 ((zeO (fun c hc => by have := hb i hi' c hc; omega)).2 ?_), by omega⟩; rw [Int.toNat_of_nonneg a5]; exact hq
  · intro i j hj; rcases Nat.lt_or_ge i P.ds.length with hi | hi
    · rw [hleft i hi] at hj; have := hb i hi _ ((zeO (fun c hc => by have := hb i hi c hc; omega)).1 hj); omega
    · unfold cK at hj; rw [List.getD_eq_getElem?_getD, List.getElem?_eq_none (by unfold Pb.left; rw [List.length_map]; exact hi)] at hj; have hj' : (0#64).getLsbD j = true := hj; rw [BitVec.getLsbD_zero] at hj'
      cases hj'
structure SK where
 sp:Nat
 gl:GL
 tp:Nat
 w0:World
 Y:Tb
abbrev stL (k:SK)(L:Ws)(b:Bool):HS:=[dH k.sp k.gl k.tp k.Y.n b,fe k.gl k.Y.n L,Ent.fz k.w0]
abbrev jb (k:SK)(L:Ws)(b:Bool):Ent:= .bag (stL k L b)
structure SI (p:GProblem) (m:List GDomain×Bool) (k:SK) (L:Ws):Prop where
 pb:∃P:Pb,P.er=p∧P.ok=true∧TbOf P k.Y
 tb:TablesAt k.w0 k.tp k.Y
 len:L.length=k.Y.n
 good:m.2=true→Closed k.Y L∧In51 L∧m.1=gd k.Y L
 bad:m.2=false→m.1=[]
theorem SI.of {P:Pb}{k:SK}{T L:Ws}{c:Bool}(hok:P.ok=true)(hY:TbOf P k.Y)(ht:TablesAt k.w0 k.tp k.Y)(hT:T.length=k.Y.n)(hb:In51 T)(hI:Is k.Y T L c){fuel:Nat}(hf:100000≤fuel){r:List GDomain×Bool}(hr:zbl fuel P.er (gd k.Y T)=some r):SI P.er r k L∧c= !r.2:=by
 have hG:=Pb.good hok;have hn:=hY.n;have h512:=hG.n
 obtain ⟨r',h1,h2⟩:=zfi (fuel:=fuel) (zoJ hok) (zp0 (Y:=k.Y) (L:=T) a5) (by rw [iM];omega) (by
  have:eA (gd k.Y T)≤k.Y.n*64:=zpR
  omega)
 rw [hr] at h1;obtain rfl:=Option.some.inj h1;have h3:=znG hok hY hb hI.fin h2
 cases c with
 |true=>
  rw [if_pos rfl] at h3;subst h3;exact ⟨⟨⟨P,rfl,hok,hY⟩,ht,hI.len,(fun h=>by cases h),fun _=>rfl⟩,rfl⟩
 |false=>
  rw [if_neg a8] at h3;subst h3;exact ⟨⟨⟨P,rfl,hok,hY⟩,ht,hI.len,fun _=>⟨hI.good rfl,hb.le hI.sub,rfl⟩,(fun h=>by cases h)⟩,rfl⟩
section
variable {F0:Frz}{w:World}
theorem zpr {vd vp vl vc : Value} {cd : List (List Value)} {p : GProblem} (hF0 : F0.At w) (h : PbF F0 vd cd vp vl vc p) (htab : Tab w) (hv : gW p = true) {fuel : Nat} (hf : 100000 ≤ fuel) {r : List GDomain × Bool} (hr : zbl fuel p p.Domains = some r) :
    Calls Tryz.prog 117 #[.agg [vd, vp, vl, vc].toArray] w fun e w' => ∃ y : SK × Ws, SI p r y.1 y.2 ∧ e = .returned (.tuple #[.pointer (some ⟨y.1.sp, 0, none⟩), .int .i64 0]) ∧ Hp w (fun _ => False) [jb y.1 y.2 (!r.2)] w' := by
  obtain ⟨P, rfl, hP⟩ := zjH h hF0; (have hok : P.ok = true := by rw [zpa]; exact hv);refine (zpE P vd vp vl vc w hP htab hok).mono ?_; rintro e w' ⟨⟨sp, gl, tp, Y, L, c, w0⟩, hN, rfl, hw⟩; dsimp only at hN hw ⊢; have hI := hN.is (Pb.good hok); obtain ⟨h1, h2⟩ := zoD hok hN.tb; rw [← h1] at hr; obtain ⟨h3, h4⟩ := SI.of (k := ⟨sp, gl, tp, w0, Y⟩) hok hN.tb hN.at' hI.tlen h2 hI hf hr;refine ⟨⟨⟨sp, gl, tp, w0, Y⟩, L⟩, h3, rfl, zjO ?_⟩
  show Hp w (fun _ => False) [dH sp gl tp Y.n (!r.2), fe gl Y.n L, Ent.fz w0] w'
  rw [hN.tb.n, ← h4]; exact hw
theorem zmX {vd vp vl vc : Value} {cd : List (List Value)} {p : GProblem} (hF0 : F0.At w) (h : PbF F0 vd cd vp vl vc p) (hv : gW p = false) :
    Calls Tryz.prog 117 #[.agg [vd, vp, vl, vc].toArray] w fun e w' => e = .returned (.tuple #[.pointer none, .int .i64 2]) ∧ Below w.heap.size w w' := by
  obtain ⟨P, rfl, hP⟩ := zjH h hF0; exact zoZ P vd vp vl vc w hP (by rw [zpa]; exact hv)
end
def gy (p:GProblem)(s:Int):Bool:=p.Domains.any fun d=>decide (d.Station=s)
def mO (c:GChoice):Bool:=decide (0≤c.Station∧c.Station<512∧2≤c.Channel∧c.Channel≤51)
def na (fuel:Nat)(p:GProblem)(m:List GDomain×Bool)(keep:Bool)(c:GChoice):Option ((List GDomain×Bool)×Int):=
 bif !mO c then some (m,2) else
 bif !m.2 then some (m,8) else
 bif !gy p c.Station then some (m,9) else
 (bif keep then zc4 m.1 c.Station c.Channel else zcc m.1 c.Station c.Channel).bind fun d=>(zbl fuel p d).bind fun r=>some (r,0)
section
variable {p:GProblem}{m:List GDomain×Bool}{k:SK}{L:Ws}{w:World}{F0:Frz}
theorem SI.stF (h:SI p m k L){b:Bool}(hok:(jb k L b).ok w)(htab:Tab w):StF k.w0 w k.sp k.gl k.tp k.Y L b:=by
 obtain ⟨h1,h2⟩:=dp.1 hok;exact iQ (iw h1 h2) h.tb (fD.1 (h1 _ a8)) htab 0 1 rfl rfl h.len
theorem zi2 (hs:StateAt w k.sp k.Y L (!m.2)):Calls Tryz.prog 144 #[.pointer (some ⟨k.sp,0,none⟩)] w fun e w'=>e= .returned (.bool (!m.2))∧Below w.heap.size w w':=
 zi4 k.sp k.Y L (!m.2) w hs
theorem SI.ok (h:SI p m k L):k.Y.Ok:=by obtain ⟨P,_,hok,hY⟩:=h.pb;exact hY.ok (Pb.good hok)
theorem zmw {ds:List Dx}{j:Nat}:∀k,(∀i,i<k→(cK ds i).st.toNat≠j)→dW ds k j=0
 |0,_=>rfl
 |k+1,h=>by
  unfold dW;rw [if_neg (fun e=>h k a5 e.symm)];exact zmw k (fun i hi=>h i a5)
theorem zm1 {P:Pb}{Y:Tb}(hok:P.ok=true)(hY:TbOf P Y){i:Nat}(hi:i<Y.n):jk Y (cK Y.st i)=((i:Int),true):=by
 have hG:=Pb.good hok;have h1:=hG.st (cK P.ds i) (fG (by rw [←hY.n];exact hi));rw [←hY.nth_st hi] at h1;have h2:=zjY hG hY hi;unfold Pb.ix at h2;unfold jk;rw [hY.ix,if_neg a5]
 congr 1
theorem zpW {P:Pb}{Y:Tb}(hok:P.ok=true)(hY:TbOf P Y){s:Int}(h:∀i,i<Y.n→cK Y.st i≠s):jk Y s=(0,false):=by
 have hG:=Pb.good hok;unfold jk;by_cases hs:s<0∨512≤s
 ·rw [if_pos (by rcases hs with h1|h1;exact .inl h1;exact .inr (.inl h1))]
 ·have h0:Y.ix s.toNat=0:=by
   rw [hY.ix];refine zmw _ fun i hi e=>?_; (have hi':i<Y.n:=by rw [hY.n];exact hi);have h1:=hG.st (cK P.ds i) (fG hi);apply h i hi';rw [hY.nth_st hi'];omega
  rw [if_pos (.inr (.inr h0))]
theorem zdO {P:Pb}{Y:Tb}(hY:TbOf P Y){s:Int}:gy P.er s=true↔∃i,i<Y.n∧cK Y.st i=s:=by
 unfold gy;rw [List.any_eq_true]
 show (∃x∈P.ds.map Dx.er,_)↔_
 constructor
 ·rintro ⟨x,hx,h⟩;obtain ⟨i,hi,rfl⟩:=iS hx;rw [List.length_map] at hi;rw [iU hi] at h; (have hi':i<Y.n:=by rw [hY.n];exact hi);exact ⟨i,hi',by rw [hY.nth_st hi'];exact of_decide_eq_true h⟩
 ·rintro ⟨i,hi,rfl⟩; (have hi':i<P.ds.length:=by rw [←hY.n];exact hi);exact ⟨Dx.er (cK P.ds i),List.mem_map.2 ⟨_,fG hi',rfl⟩,decide_eq_true (hY.nth_st hi).symm⟩
theorem zn3 {Y:Tb}{L:Ws}{i:Nat}{g:BitVec 64}{f:GDomain→GDomain}(hl:L.length=Y.n)(hi:i<Y.n)(h1:f (cK (gd Y L) i)=⟨cK Y.st i,(dC (cK L i &&& ~~~g)).map fun j:Nat=>(j:Int)⟩)(h2:∀j,j<Y.n→j≠i→f (cK (gd Y L) j)=cK (gd Y L) j):(gd Y L).map f=gd Y (dw L i g):=by
 refine zfa (by rw [List.length_map,iM,iM]) fun j hj=>?_;rw [List.length_map,iM] at hj;rw [iU (by rw [iM];exact hj),jp (L:=dw L i g) hj];unfold dw;rw [lq a5];by_cases e:j=i
 ·subst e;rw [if_pos rfl,h1]
 ·rw [if_neg e,h2 j hj e,jp hj]
theorem znU {b:BitVec 64}{c j:Nat}(hc:c<64):(b &&& ~~~(~~~(1#64 <<< c))).getLsbD j=(b.getLsbD j&&decide (c=j)):=by
 rw [BitVec.not_not,BitVec.getLsbD_and];by_cases hj:j<64
 ·rw [zj3 hj]
 ·rw [BitVec.getLsbD_of_ge b j a5];simp
theorem zkG {b:BitVec 64}{c j:Nat}(hc:c<64):(b &&& ~~~(1#64 <<< c)).getLsbD j=(b.getLsbD j&& !decide (c=j)):=by
 rw [BitVec.getLsbD_and];by_cases hj:j<64
 ·rw [BitVec.getLsbD_not,zj3 hj];simp [hj]
 ·rw [BitVec.getLsbD_of_ge b j a5];simp
theorem zln {b:BitVec 64}{c:Nat}(hc:c<64):dC (b &&& ~~~(~~~(1#64 <<< c)))=if b.getLsbD c then [c] else []:=by
 have h:∀j,j∈dC (b &&& ~~~(~~~(1#64 <<< c)))↔j∈(if b.getLsbD c then [c] else []):=fun j=>by
  rw [dO,znU hc]
  cases hb:b.getLsbD c with
  |false=>
   simp;intro h e;subst e;rw [hb] at h;cases h
  |true=>
   simp;constructor
   ·rintro ⟨_,rfl⟩;rfl
   ·rintro rfl;exact ⟨hb,rfl⟩
 refine zdB chansN_sub ?_ List.nodup_range' h
 split
 ·exact List.singleton_sublist.2 (List.mem_range'_1.2 ⟨by omega,by omega⟩)
 ·exact List.nil_sublist _
theorem znE {Y:Tb}{L:Ws}{i c:Nat}(hl:L.length=Y.n)(hi:i<Y.n)(hinj:∀j,j<Y.n→cK Y.st j=cK Y.st i→j=i)(hc:c<64):(gd Y L).map (ja (cK Y.st i) c)=gd Y (dw L i (~~~(1#64 <<< c))):=by
 refine zn3 hl hi ?_ (fun j hj hne=>?_)
 ·rw [jp hi,zln hc];unfold ja;dsimp only;rw [decide_eq_true rfl,cond_true]
  congr 1
  have e:((dC (cK L i)).map fun j:Nat=>(j:Int)).any (fun k=>decide (k=(c:Int)))=(cK L i).getLsbD c:=by
   rw [Bool.eq_iff_iff,List.any_eq_true];constructor
   ·rintro ⟨q,hq,h⟩;obtain ⟨j,hj,rfl⟩:=i3.1 hq;have:=of_decide_eq_true h;rw [show c=j by omega];exact dO.1 hj
   ·intro h;exact ⟨c,i3.2 ⟨c,dO.2 h,rfl⟩,by simp⟩
  rw [e]
  cases (cK L i).getLsbD c <;> rfl
 ·rw [jp hj];unfold ja;dsimp only;rw [decide_eq_false (fun e=>hne (hinj j hj e)),cond_false]
theorem znf {Y:Tb}{L:Ws}{i c:Nat}(hl:L.length=Y.n)(hi:i<Y.n)(hinj:∀j,j<Y.n→cK Y.st j=cK Y.st i→j=i)(hc:c<64):(gd Y L).map (jh (cK Y.st i) c)=gd Y (dw L i (1#64 <<< c)):=by
 refine zn3 hl hi ?_ (fun j hj hne=>?_)
 ·rw [jp hi];unfold jh;dsimp only
  congr 1
  rw [zfr (b:=cK L i) (c:=cK L i &&& ~~~(1#64 <<< c)) (fun j hj=>by rw [zkG hc,Bool.and_eq_true] at hj;exact hj.1),List.filter_map]
  congr 1
  apply List.filter_congr;intro j hj;rw [zkG hc,dO.1 hj];simp only [Function.comp,Bool.true_and,not_true_eq_false,decide_false,Bool.false_or];by_cases e:c=j
  ·subst e;simp
  ·(have:¬(j:Int)=(c:Int):=by omega);simp [e,this]
 ·rw [jp hj];unfold jh;dsimp only
  congr 1
  rw [List.filter_eq_self];intro q _;rw [Bool.or_eq_true];exact .inl (decide_eq_true (fun e=>hne (hinj j hj e)))
theorem SI.two (h:SI p m k L){b:Bool}(hok:(jb k L b).ok w)(htab:Tab w)(hn0:0<k.Y.n):Hp w (dF [dH k.sp k.gl k.tp k.Y.n b,fe k.gl k.Y.n L]) [dH k.sp k.gl k.tp k.Y.n b,fe k.gl k.Y.n L] w∧(∀g,dF [dH k.sp k.gl k.tp k.Y.n b,fe k.gl k.Y.n L] g→¬jK k.w0 g)∧¬dF [dH k.sp k.gl k.tp k.Y.n b,fe k.gl k.Y.n L] 0∧Fz k.w0 w:=by
 obtain ⟨h1,h2⟩:=dp.1 hok;have h3:([dH k.sp k.gl k.tp k.Y.n b,fe k.gl k.Y.n L]++[Ent.fz k.w0]).Pairwise fun e f=>∀g,e.fp g→¬f.fp g:=h2;obtain ⟨a1,a2,a3⟩:=List.pairwise_append.1 h3;refine ⟨iw (fun e he=>h1 e (by simp at he ⊢;rcases he with h|h <;> simp [h])) a1,fun g ⟨e,he,hg⟩ hc=>a3 e he _ a8 g hg (eZ.2 hc),?_,fD.1 (h1 _ a8)⟩;rintro ⟨e,he,hg⟩;have hT:=htab 0 a6;simp at he;rcases he with rfl|rfl
 ·have h4:=cU.1 hg;have h5:=c4.1 (h1 (dH k.sp k.gl k.tp k.Y.n b) a8);rw [←h4] at h5;rw [jS h5] at hT
  cases hT
 ·have h4:=de.1 hg;have h5:=cX.1 (h1 (fe k.gl k.Y.n L) a8); (have e0:k.gl.b=0:=by simpa [sG,Value.ownBlock] using h4);have h9:=World.ownsRow.cellAt (by have:=h5;unfold sG at this;exact this) 0 a5;rw [e0] at h9;rw [hT] at h9
  cases L with
  |nil=>have:=h.len;simp at this;omega
  |cons x r=>simp [Ws.cells] at h9
theorem zmp (h:SI p m k L){c:GChoice}:gJ k.Y (!m.2) c.b=bif !mO c then (0,2) else bif !m.2 then (0,8) else bif !gy p c.Station then (0,9) else ((jk k.Y c.Station).1,0):=by
 obtain ⟨P,rfl,hok,hY⟩:=h.pb;unfold gJ GChoice.b mO;dsimp only;by_cases h1:c.Station<0∨512≤c.Station∨c.Channel<2∨51<c.Channel
 ·rw [if_pos h1,decide_eq_false a5];rfl
 ·rw [if_neg h1,decide_eq_true a5];simp only [Bool.not_true,cond_false]
  cases m.2 with
  |false=>rfl
  |true=>
   simp only [Bool.not_true,cond_false,Bool.false_eq_true,if_false]
   cases hh:gy P.er c.Station with
   |true=>
    obtain ⟨i,hi,e⟩:=(zdO hY).1 hh;rw [←e,zm1 hok hY hi];rfl
   |false=>
    rw [zpW hok hY (s:=c.Station) (fun i hi e=>by rw [(zdO hY).2 ⟨i,hi,e⟩] at hh;cases hh)];rfl
theorem zn8 (kp : Bool) (num : FuncId) (h : SI p m k L) (hok : (jb k L (!m.2)).ok w) (htab : Tab w) {fuel : Nat} (hf : 100000 ≤ fuel) (c : GChoice) {r : (List GDomain × Bool) × Int} (hr : na fuel p m kp c = some r)
    (hE : (gJ k.Y (!m.2) c.b).2 ≠ 0 → Calls Tryz.prog num #[.pointer (some ⟨k.sp, 0, none⟩), .agg (Ch.cells c.b).toArray] w fun e w' => e = .returned (.int .i64 (gJ k.Y (!m.2) c.b).2) ∧ Below w.heap.size w w')
    (hO : m.2 = true → (gJ k.Y false c.b).2 = 0 → Calls Tryz.prog num #[.pointer (some ⟨k.sp, 0, none⟩), .agg (Ch.cells c.b).toArray] w fun e w' => ∃ y : Ws × Bool, gX k.Y (dw L (gJ k.Y false c.b).1.toNat (bif kp then ~~~(1#64 <<< c.Channel.toNat) else 1#64 <<< c.Channel.toNat)) y.1 y.2 ∧ e = .returned (.int .i64 0) ∧ Hp w (dF [dH k.sp k.gl k.tp k.Y.n false, fe k.gl k.Y.n L]) [dH k.sp k.gl k.tp k.Y.n y.2, fe k.gl k.Y.n y.1] w') :
    Calls Tryz.prog num #[.pointer (some ⟨k.sp, 0, none⟩), .agg [.int .i64 c.Station, .int .i64 c.Channel].toArray] w fun e w' => ∃ L', SI p r.1 k L' ∧ e = .returned (.int .i64 r.2) ∧ Hp w (jb k L (!m.2)).fp [jb k L' (!r.1.2)] w' := by
  have hfit := zmp h (c := c)
  have keepE : ∀ {n : Int}, r = (m, n) → (gJ k.Y (!m.2) c.b).2 = n → n ≠ 0 → Calls Tryz.prog num #[.pointer (some ⟨k.sp, 0, none⟩), .agg [.int .i64 c.Station, .int .i64 c.Channel].toArray] w fun e w' => ∃ L', SI p r.1 k L' ∧ e = .returned (.int .i64 r.2) ∧ Hp w (jb k L (!m.2)).fp [jb k L' (!r.1.2)] w' := by
    intro n hr hc hn; subst hr;refine (hE (by rw [hc]; exact hn)).mono ?_; rintro e w' ⟨rfl, hb⟩; exact ⟨L, h, by rw [hc], (Hp.start hok).below hb⟩
  unfold na at hr
  cases hg : mO c with
  | false => rw [hg] at hr hfit; exact keepE (Option.some.inj hr).symm (by rw [hfit]; rfl) a6
  | true =>
    rw [hg] at hr hfit; simp only [Bool.not_true, cond_false] at hr hfit
    cases hm : m.2 with
    | false => rw [hm] at hr hfit; rw [← hm]; exact keepE (Option.some.inj hr).symm (by rw [hm]; rw [hfit]; rfl) a6
    | true =>
      rw [hm] at hr hfit; simp only [Bool.not_true, cond_false] at hr hfit
      cases hh : gy p c.Station with
      | false => rw [hh] at hr hfit; rw [← hm]; exact keepE (Option.some.inj hr).symm (by rw [hm, Bool.not_true, hfit]; rfl) a6
      | true =>
        rw [hh] at hr hfit; simp only [Bool.not_true, cond_false] at hr hfit; obtain ⟨P, rfl, hok', hY⟩ := h.pb; have hG := Pb.good hok'; obtain ⟨i, hi, e⟩ := (zdO hY).1 hh; rw [← e, zm1 hok' hY hi] at hfit; obtain ⟨hC, hb, hd⟩ := h.good hm; (have hch : 2 ≤ c.Channel ∧ c.Channel ≤ 51 := by have := of_decide_eq_true hg; omega); have hn := hY.n; have h512 := hG.n; have hbd : Bd (gd k.Y L) := zp0 a5; have hinj : ∀ j, j < k.Y.n → cK k.Y.st j = cK k.Y.st i → j = i := fun j hj e' => zfL hG hY hj hi e'; have hcn : ((c.Channel.toNat : Nat) : Int) = c.Channel := Int.toNat_of_nonneg a5
        -- the domains after the cut
        have hdom : (bif kp then zc4 m.1 c.Station c.Channel else zcc m.1 c.Station c.Channel) = some (gd k.Y (dw L i (bif kp then ~~~(1#64 <<< c.Channel.toNat) else 1#64 <<< c.Channel.toNat))) := by
          rw [hd, ← e]
          cases kp with
          | true => rw [cond_true, cond_true, zn6 hbd.len (fun x hx => (hbd.ch x hx).1), ← znE h.len hi hinj a5, hcn]
          | false => rw [cond_false, cond_false, zlA hbd.len (fun x hx => (hbd.ch x hx).1), ← znf h.len hi hinj a5, hcn]
        rw [hdom, Option.bind_some] at hr; obtain ⟨q, hq, hr⟩ := ee hr; obtain rfl := Option.some.inj hr;refine (hO hm (by rw [hfit])).mono ?_; rintro e' w' ⟨⟨L', c'⟩, hp, rfl, hw⟩; rw [hfit] at hp; dsimp only at hp hw ⊢; rw [Int.toNat_natCast] at hp; (have hlen : (dw L i (bif kp then ~~~(1#64 <<< c.Channel.toNat) else 1#64 <<< c.Channel.toNat)).length = k.Y.n := by unfold dw; rw [List.length_set, h.len]); obtain ⟨h3, h4⟩ := SI.of hok' hY h.tb hlen (hb.le zma) (nZ (hY.ok hG) hlen hp) hf hq;refine ⟨L', h3, rfl, ?_⟩; rw [← h4]; (have hok2 : (Ent.bag ([dH k.sp k.gl k.tp k.Y.n false, fe k.gl k.Y.n L] ++ [Ent.fz k.w0])).ok w := by rw [hm] at hok; exact hok); exact znI hok2 hw
theorem zmI (h : SI p m k L) (hok : (jb k L (!m.2)).ok w) (htab : Tab w) {fuel : Nat} (hf : 100000 ≤ fuel) (c : GChoice) {r : (List GDomain × Bool) × Int} (hr : na fuel p m true c = some r) :
    Calls Tryz.prog 145 #[.pointer (some ⟨k.sp, 0, none⟩), .agg [.int .i64 c.Station, .int .i64 c.Channel].toArray] w fun e w' => ∃ L', SI p r.1 k L' ∧ e = .returned (.int .i64 r.2) ∧ Hp w (jb k L (!m.2)).fp [jb k L' (!r.1.2)] w' := by
  have hs := (h.stF hok htab).st; obtain ⟨P, hP, hok', hY⟩ := h.pb; have hix := hY.ixn; refine zn8 true _ h hok htab hf c hr (fun he => zhL k.sp k.Y L (!m.2) c.b w hs (k.Y.ix512 h.ok hix) he) (fun hm he => ?_); have hok2 := hok; rw [hm] at hok2; (have hn0 : 0 < k.Y.n := by have := zdq (Y := k.Y) hix he; omega); obtain ⟨h1, h2, h3, h4⟩ := h.two hok2 htab hn0; exact zlJ k.w0 k.sp k.gl k.tp k.Y L w h.tb h.ok h4 htab h1 h2 h3 h.len (h.good hm).1.calm hix c.b he
theorem zmj (h : SI p m k L) (hok : (jb k L (!m.2)).ok w) (htab : Tab w) {fuel : Nat} (hf : 100000 ≤ fuel) (c : GChoice) {r : (List GDomain × Bool) × Int} (hr : na fuel p m false c = some r) :
    Calls Tryz.prog 148 #[.pointer (some ⟨k.sp, 0, none⟩), .agg [.int .i64 c.Station, .int .i64 c.Channel].toArray] w fun e w' => ∃ L', SI p r.1 k L' ∧ e = .returned (.int .i64 r.2) ∧ Hp w (jb k L (!m.2)).fp [jb k L' (!r.1.2)] w' := by
  have hs := (h.stF hok htab).st; obtain ⟨P, hP, hok', hY⟩ := h.pb; have hix := hY.ixn; refine zn8 false _ h hok htab hf c hr (fun he => zhK k.sp k.Y L (!m.2) c.b w hs (k.Y.ix512 h.ok hix) he) (fun hm he => ?_); have hok2 := hok; rw [hm] at hok2; (have hn0 : 0 < k.Y.n := by have := zdq (Y := k.Y) hix he; omega); obtain ⟨h1, h2, h3, h4⟩ := h.two hok2 htab hn0; exact zmh k.w0 k.sp k.gl k.tp k.Y L w h.tb h.ok h4 htab h1 h2 h3 h.len (h.good hm).1.calm hix c.b he
end
def hv:List Nat→Nat
 | []=>0
 |d :: r=>d+256*hv r
section
variable {B w:World}{M S0:Nat→Prop}{hs:HS}{F:FzB B M S0}{e:Ent}{i j:Nat}
theorem Hp.newAt (hw:Hp B M hs w)(hi:hs[i]?=some e){g:Nat}(hg:e.fp g):M g∨B.heap.size≤g:=hw.new e (List.mem_of_getElem? hi) g hg
theorem Hp.apartF (hw:Hp B M hs w)(hi:hs[i]?=some e)(hj:hs[j]?=some (.fr F))(hij:i<j):∀g,e.fp g→¬F.toFrz.S g:=fun g hg hS=>
 hw.ne hij hi hj hg (dz.2 ⟨hS,hw.newAt hi hg⟩)
end
def zgQ (Y:Tb)(L:Ws)(c:Bool)(x:Ch):Bool:=if c=true∨x.ch<2∨51<x.ch then false else if (jk Y x.st).2=false then false else (cK L (jk Y x.st).1.toNat).getLsbD x.ch.toNat
theorem znq (sp:Nat)(Y:Tb)(L:Ws)(c:Bool)(x:Ch)(w:World)(h:StateAt w sp Y L c)(hok:Y.Ok)(hix:∀j,0≤Y.ix j∧Y.ix j≤Y.n):Calls Tryz.prog 161 #[.pointer (some ⟨sp,0,none⟩), .agg (Ch.cells x).toArray] w fun e w'=>e= .returned (.bool (zgQ Y L c x))∧Below w.heap.size w w':=by
 obtain ⟨tp,hsp0,hT⟩:=h.tb;obtain ⟨vL,hsp1,hL⟩:=h.left;obtain ⟨AL,fU,rfl,hLs⟩:=hL.op;have hLn:=h.len;have hcon:=h.con;refine dv (M:=fun _=>False) (hs:=[]) Tryz.func161 rfl rfl rfl (Hp.refl _ _) ?_;simp only [Ch.cells];refine dq ?_; (refine cO (Wt.none) rfl rfl (dI) ?_;rintro _ _ ⟨g3,rfl,rfl⟩);refine no ?_; (refine cO (Wt.none) rfl rfl (cN rfl rfl rfl (fun w hw=>zcP sp Y L c w (h.kept hw))) ?_;rintro _ _ ⟨rfl,rfl⟩);refine q3m ?_;refine eg ?_;refine du rfl rfl rfl (fun h1=>?_) (fun h1=>?_)
 ·have p1:=h1; (try simp only [cY] at p1);refine ku ?_;refine TL.off (Wt.not rfl rfl rfl h1) rfl rfl ?_;refine lx ?_;refine TL.run 5 rfl ?_;refine mU ?_;refine iN ?_;refine cZ rfl rfl (fun w' hw=>⟨?_,hw.isBelow⟩);exact q41
 ·have p1:=h1; (try simp only [cY] at p1);refine q0G ?_;refine kh ?_;refine q27 ?_;refine df ?_;refine du rfl rfl rfl (fun h2=>?_) (fun h2=>?_)
  ·have p2:=h2; (try simp only [cY] at p2);refine q0k ?_;refine q2O ?_;refine mU ?_;refine iN ?_;refine cZ rfl rfl (fun w' hw=>⟨?_,hw.isBelow⟩);exact q41
  ·have p2:=h2; (try simp only [cY] at p2);refine nq ?_;refine m9 ?_;refine q4o ?_;refine db ?_;refine T.cond rfl (fun h3=>?_) (fun h3=>?_)
   ·have p3:=h3; (try simp only [cY] at p3);refine iN ?_;refine cZ rfl rfl (fun w' hw=>⟨?_,hw.isBelow⟩);exact q41
   ·have p3:=h3; (try simp only [cY] at p3);refine q2o ?_; (refine dd rfl (Wt.none) rfl rfl (cN rfl rfl rfl (fun w hw=>zoa tp Y x.st w (hT.later (ii hw.isBelow)) (Y.ix512 hok hix))) ?_;rintro _ _ ⟨rfl,rfl⟩;refine ⟨Sx,?_⟩);refine TS.run 5 rfl ?_;refine fQ ?_;refine K.seq (T.seq ?_);refine dM (sN 0 15 (.still 15 .done)) _ a7 (List.Sublist.refl _) ?_;refine gQ ?_;refine TS.ar rfl rfl rfl rfl (fun h4=>?_) (fun h4=>?_)
    ·have p4:=h4; (try simp only [cY] at p4); (try (have hat:=zh8 hix (s:=x.st) b8;obtain ⟨gL,oL,rfl,hc⟩:=hLs a5;have hk:=hc (jk Y x.st).1.toNat a5;simp only [Le] at hk));refine q3B ?_;refine q3B ?_;refine TS.still rfl (Wt.some rfl rfl rfl h4) rfl rfl (Yv.fieldAddr) ?_;refine TS.still rfl (Wt.some rfl rfl rfl h4) rfl rfl (dV rfl rfl hsp1 (fun h=>h)) ?_;refine q3B ?_;refine TS.still rfl (Wt.some rfl rfl rfl h4) rfl rfl (gU rfl rfl rfl (show (jk Y x.st).1=(((jk Y x.st).1.toNat:Nat):Int) from by omega) a5) ?_;refine TS.still rfl (Wt.some rfl rfl rfl h4) rfl rfl (ed (j:=0) rfl rfl hk rfl rfl (fun h=>h)) ?_;refine TS.still rfl (Wt.some rfl rfl rfl h4) rfl rfl (Yv.fieldAddr) ?_;refine TS.still rfl (Wt.some rfl rfl rfl h4) rfl rfl (c9 0) ?_;refine TS.still rfl (Wt.some rfl rfl rfl h4) rfl rfl (gn x.ch.toNat rfl rfl rfl a5 a5) ?_;refine TS.still rfl (Wt.some rfl rfl rfl h4) rfl rfl (gE (b:=1#64)) ?_;refine q3B ?_;refine cT rfl (eT rfl rfl h4) ?_;refine q4q ?_;refine cZ rfl rfl (fun w' hw=>⟨?_,hw.isBelow⟩);exact kr (by rw [zgQ,if_neg (fun h=>by rcases h with h|h|h; (rw [p1] at h;cases h);omega;omega),if_neg (by rw [p4];simp),zjh])
    ·have p4:=h4; (try simp only [cY] at p4); (try (have hat:=zh8 hix (s:=x.st) b8;obtain ⟨gL,oL,rfl,hc⟩:=hLs a5;have hk:=hc (jk Y x.st).1.toNat a5;simp only [Le] at hk));refine q0u ?_;refine q0u ?_;refine cT rfl (eu rfl rfl h4) ?_;refine q4q ?_;refine cZ rfl rfl (fun w' hw=>⟨?_,hw.isBelow⟩);exact kr (by rw [zgQ,if_neg (fun h=>by rcases h with h|h|h; (rw [p1] at h;cases h);omega;omega),if_pos b8])
theorem zl8 (sp:Nat)(Y:Tb)(L:Ws)(w:World)(h:StateAt w sp Y L true):Calls Tryz.prog 160 #[.pointer (some ⟨sp,0,none⟩)] w fun e w'=>e= .returned (.slice none 0 0)∧Below w.heap.size w w':=by
 have hcon:=h.con;refine dv (M:=fun _=>False) (hs:=[]) Tryz.func160 rfl rfl rfl (Hp.refl _ _) ?_;refine ju ?_; (refine cO (Wt.none) rfl rfl (cN rfl rfl rfl (fun w hw=>zcP sp Y L true w (h.kept hw))) ?_;rintro _ _ ⟨rfl,rfl⟩);refine q3m ?_;refine dB ?_;refine my rfl rfl ?_;refine iN ?_;refine cZ rfl rfl (fun w' hw=>⟨?_,hw.isBelow⟩)
 rfl
def iD (d:List GDomain):List GChoice:=(d.filter fun x=>decide (x.Channels.length=1)).map fun x=>⟨x.Station,cK x.Channels 0⟩
def jj (m:List GDomain×Bool):List GChoice:=bif m.2 then iD m.1 else []
def zhu (m:List GDomain×Bool)(c:GChoice):Bool:=m.2&&m.1.any fun x=>decide (x.Station=c.Station)&&x.Channels.any fun k=>decide (k=c.Channel)
theorem zlT {d:List GDomain}{x:GDomain}:iD (d++[x])=iD d++(if x.Channels.length=1 then [⟨x.Station,cK x.Channels 0⟩] else []):=by
 unfold iD;rw [List.filter_append,List.map_append]
 congr 1
 by_cases h:x.Channels.length=1 <;> simp [h]
theorem zng {b:BitVec 64}(hb:b≠0#64)(h0:b.getLsbD 0=false):(i8 b≠0↔(dC b).length=1)∧(i8 b≠0→dC b=[i8 b]):=by
 have key:i8 b≠0→dC b=[i8 b]:=fun h=>by
  have h1:=(zio hb (c:=((i8 b:Nat):Int)) a5).2 rfl
  cases hc:dC b with
  |nil=>exact absurd hc (ziG hb)
  |cons j r=>
   have hj:=h1 j (by rw [hc];simp)
   cases r with
   |nil=>rw [show j=i8 b by omega]
   |cons k s=>
    have hk:=h1 k (by rw [hc];simp);have hn:=zeB b;rw [hc,List.nodup_cons] at hn;exact absurd (by simp;left;omega) hn.1
 refine ⟨⟨fun h=>by rw [key h];rfl,fun h hz=>?_⟩,key⟩;obtain ⟨j,hj⟩:=List.length_eq_one_iff.1 h
 have hj0:j≠0:=fun e=>by
  (have:j∈dC b:=by rw [hj];simp);rw [dO,e,h0] at this
  cases this
 have:=(zio hb (c:=(j:Int)) a5).1 (fun k hk=>by rw [hj] at hk;simp at hk;omega);omega
theorem znV {Y:Tb}{L:Ws}(hl:L.length=Y.n)(hne:∀i,i<Y.n→cK L i≠0#64)(hb:In51 L):∀k,k≤Y.n→(jo Y L k).map Ch.er=iD ((gd Y L).take k)
 |0,_=>by simp [jo,iD]
 |k+1,h=>by
  have h0:(cK L k).getLsbD 0=false:=by
   cases e:(cK L k).getLsbD 0 with
   |false=>rfl
   |true=>have:=hb k 0 e;omega
  obtain ⟨h1,h2⟩:=zng (hne k a5) h0;rw [zhe,List.map_append,znV hl hne hb k a5,List.take_succ_eq_append_getElem (by rw [iM];omega),←dQ (by rw [iM];omega),jp a5,zlT]
  congr 1
  show List.map Ch.er (if i8 (cK L k)≠0 then [⟨cK Y.st k,(i8 (cK L k):Int)⟩] else [])=_
  dsimp only;rw [List.length_map];by_cases e:i8 (cK L k)=0
  ·rw [if_neg (by simpa using e),if_neg (fun q=>(h1.2 q) e)];rfl
  ·rw [if_pos e,if_pos (h1.1 e),h2 e];rfl
section
variable {p:GProblem}{m:List GDomain×Bool}{k:SK}{L:Ws}{w:World}{F0:Frz}
theorem SI.ne (h:SI p m k L)(hm:m.2=true):∀i,i<k.Y.n→cK L i≠0#64:=fun i hi=>(h.good hm).1.ne i hi
theorem zmg (hF0:F0.At w)(h:SI p m k L)(hs:StateAt w k.sp k.Y L (!m.2)):Calls Tryz.prog 160 #[.pointer (some ⟨k.sp,0,none⟩)] w fun e w'=>∃(y:Value) (G:Frz),SlC G y 2 ((jj m).map cQ)∧e= .returned y∧Fx F0 w G w':=by
 cases hm:m.2 with
 |false=>
  rw [hm] at hs;refine (zl8 k.sp k.Y L w hs).mono ?_;rintro e w' ⟨rfl,hb⟩;exact ⟨.slice none 0 0,F0,by unfold jj;rw [hm];exact SlC.nil _ 2,rfl,Fx.refl hF0 hb⟩
 |true=>
  rw [hm] at hs;refine (zmQ k.sp k.Y L w hs h.ok).mono ?_;rintro e w' ⟨v, -,rfl,hw⟩;obtain ⟨G,h1,h2⟩:=zoO hF0 hw;refine ⟨v,G,?_,rfl,h1⟩
  have e:jj m=(jo k.Y L k.Y.n).map Ch.er:=by
   unfold jj;rw [hm,cond_true,znV h.len (h.ne hm) (h.good hm).2.1 _ (Nat.le_refl _),(h.good hm).2.2,List.take_of_length_le (by rw [iM];exact Nat.le_refl _)]
  rw [e];exact h2
theorem zoz (h:SI p m k L)(hs:StateAt w k.sp k.Y L (!m.2))(c:GChoice):Calls Tryz.prog 161 #[.pointer (some ⟨k.sp,0,none⟩), .agg [.int .i64 c.Station, .int .i64 c.Channel].toArray] w fun e w'=>e= .returned (.bool (zhu m c))∧Below w.heap.size w w':=by
 obtain ⟨P,hP,hok',hY⟩:=h.pb;have hG:=Pb.good hok';refine (znq k.sp k.Y L (!m.2) c.b w hs h.ok hY.ixn).mono ?_;rintro e w' ⟨rfl,hb⟩;refine ⟨?_,hb⟩
 congr 2
 unfold zgQ zhu
 cases hm:m.2 with
 |false=>rw [if_pos (.inl rfl)];rfl
 |true=>
  obtain ⟨-,h51,hd⟩:=h.good hm;rw [Bool.true_and,hd]
  have hany:∀q,(gd k.Y L).any (fun x=>decide (x.Station=c.Station)&&x.Channels.any fun k=>decide (k=c.Channel))=q↔((∃ i,i<k.Y.n∧cK k.Y.st i=c.Station∧∃j:Nat,(cK L i).getLsbD j=true∧(j:Int)=c.Channel)↔q=true):=fun q=>by
   have e1:(gd k.Y L).any (fun x=>decide (x.Station=c.Station)&&x.Channels.any fun k=>decide (k=c.Channel))=true↔(∃i,i<k.Y.n∧cK k.Y.st i=c.Station∧∃j:Nat,(cK L i).getLsbD j=true∧(j:Int)=c.Channel):=by
    rw [List.any_eq_true];constructor
    ·rintro ⟨x,hx,hh⟩;obtain ⟨i,hi,rfl⟩:=iS hx;rw [iM] at hi;rw [Bool.and_eq_true,decide_eq_true_eq,List.any_eq_true] at hh;obtain ⟨h1,q,hq,h2⟩:=hh;obtain ⟨j,hj,rfl⟩:=(zhp hi).1 hq;rw [jp hi] at h1;exact ⟨i,hi,h1,j,hj,of_decide_eq_true h2⟩
    ·rintro ⟨i,hi,h1,j,hj,h2⟩;refine ⟨_,fG (by rw [iM];exact hi),?_⟩;rw [Bool.and_eq_true,decide_eq_true_eq,List.any_eq_true];exact ⟨by rw [jp hi];exact h1,(j:Int),(zhp hi).2 ⟨j,hj,rfl⟩,decide_eq_true h2⟩
   rw [←e1]
   cases (gd k.Y L).any (fun x=>decide (x.Station=c.Station)&&x.Channels.any fun k=>decide (k=c.Channel)) <;> cases q <;> simp
  symm
  rw [hany]
  show _↔(if (!true)=true∨c.Channel<2∨51<c.Channel then false else if (jk k.Y c.Station).2=false then false else (cK L (jk k.Y c.Station).1.toNat).getLsbD c.Channel.toNat)=true
  by_cases hc:c.Channel<2∨51<c.Channel
  ·rw [if_pos (.inr hc)];refine ⟨fun ⟨i,hi,_,j,hj,h2⟩=>?_,fun h=>by cases h⟩;have:=h51 i j hj;omega
  ·rw [if_neg (by simpa using hc)]
   cases hh:gy P.er c.Station with
   |true=>
    obtain ⟨i,hi,e⟩:=(zdO hY).1 hh;rw [←e,zm1 hok' hY hi];simp only [Bool.true_eq_false,if_false,Int.toNat_natCast];constructor
    ·rintro ⟨i',hi',h1,j,hj,h2⟩;rw [zfL hG hY hi hi' h1.symm,←h2,Int.toNat_natCast];exact hj
    ·intro h;exact ⟨i,hi,rfl,c.Channel.toNat,h,by omega⟩
   |false=>
    (have hno:∀i,i<k.Y.n→cK k.Y.st i≠c.Station:=fun i hi e=>by rw [(zdO hY).2 ⟨i,hi,e⟩] at hh;cases hh);rw [zpW hok' hY hno];simp only [if_true];exact ⟨fun ⟨i,hi,h1,_⟩=>absurd h1 (hno i hi),fun h=>by cases h⟩
end
def ze4 (v:Value)(l h k:Nat):Value:=match v with
 | .slice a _ cap=>sliced a l h cap k
 |x=>x
theorem SlC.slice {F:Frz}{v:Value}{size:Nat}{cs:List (List Value)}(h:SlC F v size cs){l i:Nat}(hl:l≤i)(hi:i≤cs.length):SlC F (ze4 v l i size) size ((cs.take i).drop l):=by
 obtain ⟨A,cap,rfl,h2,h3,h4,h5⟩:=h; (have hlen:((cs.take i).drop l).length=i - l:=by rw [List.length_drop,List.length_take];omega);have hmem:∀c∈(cs.take i).drop l,c∈cs:=fun c hc=>List.mem_of_mem_take (List.mem_of_mem_drop hc);refine ⟨if cap=l then A else A.map (·.add (l*size)),cap - l,?_,by omega,by omega,fun c hc=>h4 c (hmem c hc),fun hp=>?_⟩
 ·rw [hlen];rfl
 ·rw [hlen] at hp;obtain ⟨g,off,rfl,hg,hc⟩:=h5 a5;rw [if_neg a5];refine ⟨g,off+l*size,by simp [zd7],hg,fun j hj=>?_⟩;rw [hlen] at hj;have h6:=hc (l+j) a5
  have e:cK ((cs.take i).drop l) j=cK cs (l+j):=by
   rw [dQ a5,dQ a5,List.getElem_drop,List.getElem_take]
  rw [e,show off+l*size+j*size=off+(l+j) *size by rw [Nat.add_mul];omega];exact h6
theorem SlD.slice {α:Type}[Inhabited α]{rep:Frz→List Value→α→Prop}{F:Frz}{v:Value}{size:Nat}{cs:List (List Value)}{xs:List α}(h:SlD rep F v size cs xs){l i:Nat}(hl:l≤i)(hi:i≤xs.length):SlD rep F (ze4 v l i size) size ((cs.take i).drop l) ((xs.take i).drop l):=by
 refine ⟨h.1.slice hl (by rw [h.2.1];exact hi),?_,fun j hj=>?_⟩
 ·rw [List.length_drop,List.length_take,List.length_drop,List.length_take,h.2.1]
 ·have hj':=hj;rw [List.length_drop,List.length_take] at hj'
  have e:cK ((cs.take i).drop l) j=cK cs (l+j):=by
   rw [dQ (by rw [List.length_drop,List.length_take,h.2.1];omega),dQ (by rw [h.2.1];omega),List.getElem_drop,List.getElem_take]
  have e':cK ((xs.take i).drop l) j=cK xs (l+j):=by
   rw [dQ hj,dQ a5,List.getElem_drop,List.getElem_take]
  rw [e,e'];exact h.2.2 _ a5
section
variable {F:Frz}{v:Value}{size:Nat}
theorem SlC.sliceh {α:Type}{enc:α→List Value}{xs:List α}(h:SlC F v size (xs.map enc)){i:Nat}(hi:i≤xs.length):SlC F (ze4 v 0 i size) size ((xs.take i).map enc):=by
 have:=h.slice (l:=0) (i:=i) (Nat.zero_le _) (by rw [List.length_map];exact hi)
 rwa [List.drop_zero,←List.map_take] at this
variable {α:Type}[Inhabited α]{rep:Frz→List Value→α→Prop}{cs:List (List Value)}{xs:List α}
theorem SlD.sliceh (h:SlD rep F v size cs xs){i:Nat}(hi:i≤xs.length):SlD rep F (ze4 v 0 i size) size (cs.take i) (xs.take i):=by
 have:=h.slice (l:=0) (Nat.zero_le _) hi
 rwa [List.drop_zero,List.drop_zero] at this
end
section
variable {P:Program}{n:Nat}{B:World}{M:Nat→Prop}{fs:dY}{hs:HS}{o:Oper}{v:Value}
theorem TySl.elem {t e k:Nat}(h:TySl P t e k):P.underlying t=some (.slice (P.elem t))∧∀w,(sizeOf (P.elem t)).run P w= .ok k w:=by
 have h:=h.h;unfold zfS at h
 split at h
 ·rename_i el hU; (have he:P.elem t=el:=by unfold Program.elem;rw [hU])
  cases hi':P.info? el with
  |none=>rw [hi'] at h;cases h
  |some inf=>
   rw [hi'] at h
   cases h
   refine ⟨by rw [he];exact hU,fun w=>?_⟩;rw [he];simp [sizeOf,typeInfo,hi']
 ·cases h
theorem Yv.ci {F:Frz}{t e k i m:Nat}{z:Int}{q:IntKind}{cs:List (List Value)}{x y:Operand}[hT:TySl P t e k](ho:o.op= .slice t x none (some y) none)(hx:ev fs x=some v)(hy:ev fs y=some (.int q z))(h:SlC F v k cs)(hm:cs.length=m)(hz:z=(i:Int))(hi:i≤m):Yv P n B M fs hs o (ze4 v 0 i k):=fun a w ha _=>by
 subst hm hz;obtain ⟨A,cap,rfl,h2,h3,h4,h5⟩:=h;unfold execOp;have:=run_slice_h (P:=P) w t A cs.length cap hT.elem.1 q (i:Int) a5 a5;simp [ho,ha.ev hx,ha.ev hy,run_sliceAt_slice w t _ _ _ _ hT.elem.1,this,hT.elem.2,ze4]
end
structure FxM (F:Frz) (w:World) (M:Nat→Prop) (G:Frz) (es:HS) (w':World):Prop where
 le:F.Le G
 at_:G.At w'
 hp:Hp w M es w'
 new:∀g,G.S g→F.S g∨M g∨w.heap.size≤g
 ap:∀e∈es,∀g,e.fp g→¬G.S g
theorem zg5:dF []=fun _=>False:=by funext g;unfold dF;simp
section
variable {B w w':World}{M S0:Nat→Prop}{hs:HS}{F:FzB B M S0}
theorem dy {F0:Frz}{es:HS}{G:FzB B M S0}(hw:Hp B M (es++[Ent.fr G]) w')(hS:∀g,S0 g→F0.S g)(hle:F0.Le G.toFrz):FxM F0 B M G.toFrz es w':=by
 have h1:=hw;have h2:=List.pairwise_append.1 h1.apart;refine ⟨hle,hw.fr (i:=es.length) a8,hw.sub (List.sublist_append_left _ _),fun g hg=>(G.new g hg).imp (hS g) id,fun e he g hg hS=>?_⟩;refine h2.2.2 e he (.fr G) a8 g hg (dz.2 ⟨hS,?_⟩);exact h1.new e (List.mem_append_left _ he) g hg
theorem FxM.up {M':Nat→Prop}{G:Frz}{es:HS}(h:FxM F.toFrz w M' G es w')(hw:Hp B M hs w)(hM:∀g,M' g→M g∨B.heap.size≤g):∃G':FzB B M S0,G'.toFrz=G:=by
 refine ⟨⟨G,fun g hg hb hm=>?_,fun g hg=>?_⟩,rfl⟩
 ·rcases h.new g hg with h1|h1|h1
  ·rw [(h.le g h1).2,F.base g h1 hb hm]
  ·rcases hM g h1 with h2|h2
   ·exact absurd h2 hm
   ·omega
  ·have:=hw.size;omega
 ·rcases h.new g hg with h1|h1|h1
  ·exact F.new g h1
  ·exact .inr (hM g h1)
  ·have:=hw.size;exact .inr (.inr a5)
end
section
variable {P:Program}{n:Nat}{B D:World}{M S0:Nat→Prop}{fs:dY}{hs:HS}{o:Oper}{v:Value}
theorem eM (idx : List Nat) (bs rest : HS) {ι : Type} {F : FzB B M S0} {φ : ι → Frz → Prop} {val : ι → Value} {es : ι → HS} {c : Operand} {xs : Array Operand} {ts : Array TypeId} {f : FuncId} {fst caps : Array Value} {vs : List Value} [hE : Enters P f]
    (ho : o.op = .call { callee := .value c, args := xs, argTypes := ts }) (hc : ev fs c = some (.func (.func f) fst caps)) (hv : evs fs xs.toList = some vs) (hp : m5 hs idx = some (bs ++ .fr F :: rest)) (hn : idx.Nodup)
    (C : ∀ w, Hp B M hs w → Hp B M (bs ++ .fr F :: rest) w → F.toFrz.At w → Calls P f (fst.toList ++ vs ++ caps.toList).toArray w (fun e w' => ∃ y G, φ y G ∧ e = .returned (val y) ∧ FxM F.toFrz w (dF bs) G (es y) w')) :
    Ew P n B M fs hs o (fun v hs'' => ∃ y, ∃ G : FzB B M S0, F.toFrz.Le G.toFrz ∧ φ y G.toFrz ∧ v = val y ∧ hs'' = es y ++ .fr G :: rest) :=
  Ew.call ho hc hv fun w hw => by
    have hw2 := hw.pick hp hn; have hF : F.toFrz.At w := hw2.fr (i := bs.length) a8; refine (C w hw hw2 hF).mono fun e w' ⟨y, G, hy, he, hx⟩ => ?_; have hM : ∀ g, dF bs g → M g ∨ B.heap.size ≤ g := fun g ⟨e, he, hg⟩ => hw2.new e (List.mem_append_left _ he) g hg; obtain ⟨G', rfl⟩ := hx.up hw2 hM; refine ⟨val y, es y ++ .fr G' :: rest, he, Kp.only hx.hp.only (fun g hg c => ?_), ?_, y, G', hx.le, hy, rfl, rfl⟩
    · obtain ⟨e, h1, h2⟩ := hg; exact e.nd (hw2.own e (List.mem_append_left _ h1)) g h2 c
    · (have h3 : Hp B M ((bs ++ [.fr F]) ++ rest) w := by rw [List.append_assoc]; exact hw2); have h4 := i0 (es := bs ++ [.fr F]) (es' := es y ++ [.fr G']) h3 hx.hp.only (fun g _ ⟨e, he, hg⟩ => ⟨e, List.mem_append_left _ he, hg⟩) (fun e he => ?_) (fun e he g hg => ?_) ?_
      · rw [List.append_assoc] at h4; exact h4
      · rcases List.mem_append.1 he with he | he
        · exact hx.hp.own e he
        · simp at he; subst he; exact fc.2 (fun g hg => hx.at_ g hg.1)
      · rcases List.mem_append.1 he with he | he
        · rcases hx.hp.new e he g hg with ⟨f, hf, hfg⟩ | h5
          · exact .inl ⟨f, List.mem_append_left _ hf, hfg⟩
          · exact .inr h5
        · simp at he; subst he; have h6 := dz.1 hg; rcases hx.new g h6.1 with h7 | ⟨f, hf, hfg⟩ | h7
          · exact .inl ⟨.fr F, by simp, dz.2 ⟨h7, h6.2⟩⟩
          · exact .inl ⟨f, List.mem_append_left _ hf, hfg⟩
          · exact .inr h7
      · exact List.pairwise_append.2 ⟨hx.hp.apart, List.pairwise_singleton _ _, fun e he f hf g hg hfg => by
          simp at hf; subst hf
          exact hx.ap e he g hg (dz.1 hfg).1⟩
theorem fA (idx : List Nat) (bs rest : HS) {ι : Type} {F : FzB B M S0} {φ : ι → Prop} {val : ι → Value} {es : ι → HS} {c : Operand} {xs : Array Operand} {ts : Array TypeId} {f : FuncId} {fst caps : Array Value} {vs : List Value} [hE : Enters P f]
    (ho : o.op = .call { callee := .value c, args := xs, argTypes := ts }) (hc : ev fs c = some (.func (.func f) fst caps)) (hv : evs fs xs.toList = some vs) (hp : m5 hs idx = some (bs ++ .fr F :: rest)) (hn : idx.Nodup)
    (C : ∀ w, Hp B M hs w → Hp B M (bs ++ .fr F :: rest) w → F.toFrz.At w → Calls P f (fst.toList ++ vs ++ caps.toList).toArray w (fun e w' => ∃ y, φ y ∧ e = .returned (val y) ∧ FxM F.toFrz w (dF bs) F.toFrz (es y) w')) :
    Ew P n B M fs hs o (fun v hs'' => ∃ y, φ y ∧ v = val y ∧ hs'' = es y ++ .fr F :: rest) :=
  Ew.call ho hc hv fun w hw => by
    have hw2 := hw.pick hp hn; have hF : F.toFrz.At w := hw2.fr (i := bs.length) a8; refine (C w hw hw2 hF).mono fun e w' ⟨y, hy, he, hx⟩ => ?_; refine ⟨val y, es y ++ .fr F :: rest, he, Kp.only hx.hp.only (fun g hg c => ?_), ?_, y, hy, rfl, rfl⟩
    · obtain ⟨e, h1, h2⟩ := hg; exact e.nd (hw2.own e (List.mem_append_left _ h1)) g h2 c
    · exact i0 (es := bs) (es' := es y) hw2 hx.hp.only (fun g _ ⟨e, he, hg⟩ => ⟨e, he, hg⟩) hx.hp.own (fun e he g hg => hx.hp.new e he g hg) hx.hp.apart
end
section
variable {w:World}{bs:HS}{F:Frz}
theorem lV (hF:F.At w)(h:Hp w (dF bs) bs w)(hA:∀g,dF bs g→¬F.S g):∃(S0:Nat→Prop) (G:FzB w (dF bs) S0),G.toFrz=F∧(∀g,S0 g→F.S g)∧Hp w (dF bs) (bs++[Ent.fr G]) w:=⟨F.S,it hF _,rfl,fun _ h=>h,lJ hF h hA⟩
variable {B:World}{M S0:Nat→Prop}{G:FzB B M S0}{rest:HS}
theorem Hp.takes (h:Hp B M (bs++ .fr G :: rest) w):Hp w (dF bs) bs w∧∀g,dF bs g→¬G.toFrz.S g:=by
 have h1:Hp B M bs w:=h.sub (List.sublist_append_left _ _);refine ⟨iw h1.own h1.apart,fun g ⟨e,he,hg⟩ hS=>?_⟩;exact (List.pairwise_append.1 h.apart).2.2 e he (.fr G) a8 g hg (dz.2 ⟨hS,h1.new e he g hg⟩)
theorem Hp.takes0 (h:Hp B M (bs++ .fr G :: rest) w)(h0:¬M 0)(hB:0<B.heap.size):¬dF bs 0:=fun ⟨e,he,hg⟩=>by
 rcases h.new e (List.mem_append_left _ he) 0 hg with h1|h1
 ·exact h0 h1
 ·omega
end
theorem Tab.pos {w:World}(h:Tab w):0<w.heap.size:=by
 have h0:=h 0 a6;unfold World.cell? at h0;rcases Nat.eq_zero_or_pos w.heap.size with e|e
 ·rw [Array.getElem?_eq_none a5] at h0;simp at h0
 ·exact e
end Go.Proofs.YtogbggmckmnlfaaGreatDoor
