/- Nd Ne Yq Nf Bo It Mp Yr: shortened and put together by squeeze.py. -/
import Derived.Test.YtbpbhbkcahcdiaaGreatDoorQ10
set_option maxRecDepth 100000
set_option maxHeartbeats 4000000
set_option linter.unusedVariables false
set_option linter.unusedSectionVars false
set_option linter.unusedSimpArgs false
namespace Go.Proofs.YtbpbhbkcahcdiaaGreatDoor
open Go.RowKit
def dK (p:GProblem)(l:List GChoice):List GDomain:=l.foldl (fun d c=>d.map (actC true c)) p.Domains
def RunN (p:GProblem)(S:List (List GChoice))(d:List GDomain)(r:Option (GProblem×(List GDomain×Bool))×Bool):Prop:=
 (∃m:List GDomain×Bool,r=(some (p,m),false)∧m.2=true∧ClosedN p S m.1∧SubP p m.1∧SubD m.1 d∧∀e,ClosedN p S e→SubD e d→SubD e m.1)∨(r=(none,true)∧∀e,ClosedN p S e→¬SubD e d)
section
variable {p:GProblem}{S:List (List GChoice)}{d e:List GDomain}{m:List GDomain×Bool}
theorem zjE {l:List GChoice}{i:Nat}(hi:i<l.length):dK p (l.take (i+1))=(dK p (l.take i)).map (actC true (nth l i)):=by
 unfold dK;rw [zbS hi,List.foldl_append];rfl
theorem zgX:∀l:List GChoice,SubP p (dK p l):=fun l=>by
 have key:∀(l:List GChoice) (d:List GDomain),SubP p d→SubP p (l.foldl (fun d c=>d.map (actC true c)) d):=by
  intro l
  induction l with
  |nil=>exact fun d h=>h
  |cons c r ih=>
   intro d h;have h2:=(zek true c).subD (d:=d);exact ih _ ⟨h2.1.trans h.sub,h2.2.trans h.ord h.sub.1⟩
 exact key l _ ⟨.refl _,fun _ _=>List.Sublist.refl _⟩
structure MidN (p:GProblem) (S:List (List GChoice)) (d:List GDomain) (m:List GDomain×Bool):Prop where
 ok:m.2=true
 sp:SubP p m.1
 cl:ClosedD p m.1
 sd:SubD m.1 d
 all:∀e,ClosedN p S e→SubD e d→SubD e m.1
theorem MidN.prop (h:MidN p S d m):PropD p m.1 m:= .inl ⟨h.ok,h.cl,⟨.refl _,fun _ _=>List.Sublist.refl _⟩,fun _ _ h=>h⟩
theorem zlv {d':List GDomain}(hd:SubP p d')(hs:SubD d' d)(hm:PropD p d' m)(hall:∀e,ClosedN p S e→SubD e d→SubD e d'):(m.2=true∧MidN p S d m)∨(m.2=false∧∀e,ClosedN p S e→¬SubD e d):=by
 rcases hm with ⟨h1,h2,h3,h4⟩|⟨h1,h2⟩
 ·exact .inl ⟨h1,h1,⟨h3.1.trans hd.sub,h3.2.trans hd.ord hd.sub.1⟩,h2,h3.1.trans hs,fun e he hh=>h4 e he.cl (hall e he hh)⟩
 ·exact .inr ⟨by rw [h1],fun e he hh=>h2 e he.cl (hall e he hh)⟩
theorem zkS {fuel:Nat}(hf:100000≤fuel)(hok:okG p=true){t:GStore}(ht:t.start.1=p)(hm:PropD p p.Domains t.start.2)(hS:∀g∈t.list,okN p g=true)(l:List GChoice):∃r,zaw fuel t l=some r∧RunN p t.list (dK p l) r:=by
 obtain ⟨hw,hbd,htot,hn⟩:=zfj hok;have hG:=zhp hok;have nodup:∀ {m:List GDomain×Bool},SubP p m.1→∀x∈m.1,x.Channels.Nodup:=fun h x hx=>((hbd.ord h.sub.1 h.ord).ch x hx).2;unfold zaw;simp only [zax,Nat.sub_zero,ht];refine zaU (fun i (m:List GDomain×Bool)=>PropD p (dK p (l.take i)) m) (fun o=>∃r,o=some r∧RunN p t.list (dK p l) r) (by simpa [dK] using hm) (fun m hI=>?_) (fun i m next hi hI hnx=>?_)
 ·rw [List.take_of_length_le (Nat.le_refl _)] at hI;have hst:=zlv (S:=t.list) (zgX l) (.refl _) hI (fun _ _ h=>h);refine zck (σ:=Bool×(List GDomain×Bool)) (I:=fun s=>(s.2.2=true∧MidN p t.list (dK p l) s.2∧(s.1=false→ClosedN p t.list s.2.1))∨(s.2.2=false∧s.1=true∧∀e,ClosedN p t.list e→¬SubD e (dK p l))) (μ:=fun s=>totG s.2.1+(bif s.1 then 1 else 0)) (post:=fun o=>∃r,o=some r∧RunN p t.list (dK p l) r) ?_ ?_ ?_
  ·rcases hst with ⟨h1,h2⟩|⟨h1,h2⟩
   ·exact .inl ⟨h1,h2,fun h=>by cases h⟩
   ·exact .inr ⟨h1,rfl,h2⟩
  ·have h1:totG m.1≤30000:=by
    rcases hI with ⟨_,_,h3,_⟩|⟨h1,_⟩
    ·have hk:=zgX (p:=p) l;have:=zdh h3.1.1 h3.2;have:=zdh hk.sub.1 hk.ord;omega
    ·rw [h1];simp [totG]
   dsimp only;rw [cond_true];omega
  ·rintro ⟨again,m⟩ next hJ hnx;dsimp only at hJ hnx ⊢
   cases again with
   |false=>
    rcases hJ with ⟨h1,h2,h3⟩|⟨_,h2,_⟩
    ·exact ⟨_,rfl, .inl ⟨m,rfl,h1,h3 rfl,h2.sp,h2.sd,h2.all⟩⟩
    ·cases h2
   |true=>
    rw [cond_true];rcases hJ with ⟨h1,h2,_⟩|⟨h1,_,h2⟩
    ·rw [h1,Bool.not_true,cond_false];obtain ⟨v,hv1,hv2⟩:=zjK hG h2.sp h1;rw [hv1,Option.bind_some];refine zaU (fun i (s:Bool×(List GDomain×Bool)×Vec 512 Int)=>MidN p t.list (dK p l) s.2.1∧FixN s.2.1.1 s.2.2∧((s.1=true∧totG s.2.1.1<totG m.1)∨(s.1=false∧s.2.1=m∧∀j,j<i→(zdo s.2.1 s.2.2 (nth t.list j)).2=false))) (fun o=>∃r,o=some r∧RunN p t.list (dK p l) r) ⟨h2,hv2, .inr ⟨rfl,rfl,fun j hj=>by omega⟩⟩ ?_ ?_
     ·rintro ⟨ch,m',v'⟩ ⟨g1,g2,g3⟩;dsimp only at g1 g2 g3 ⊢;refine hnx _ (.inl ⟨g1.ok,g1,fun e=>?_⟩) ?_
      ·dsimp only at e;rcases g3 with ⟨g3,_⟩|⟨_,g3,g4⟩
       ·rw [e] at g3;cases g3
       ·have key:∀g∈t.list,g≠[]∧∀x∈m'.1,∀c∈x.Channels,remN m'.1 g x.Station c=false:=fun g hg=>by
         obtain ⟨j,hj,rfl⟩:=zaK hg;exact zjb hG (nodup g1.sp) g1.sp g1.ok g1.cl g2 (hS _ (zak hj)) (g4 j hj)
        exact ⟨g1.cl,fun g hg=>(key g hg).1,fun g hg=>(key g hg).2⟩
      ·dsimp only;rcases g3 with ⟨g3,g4⟩|⟨g3,g4,_⟩
       ·rw [g3,cond_true];omega
       ·rw [g3,g4,cond_false,cond_true];omega
     ·rintro i ⟨ch,m',v'⟩ nx hi ⟨g1,g2,g3⟩ hk;dsimp only at g1 g2 g3 ⊢;have hg:=hS _ (zak hi);rw [zlp (okN_iff.1 hg).1,Option.bind_some]
      cases hfo:(zdo m' v' (nth t.list i)).2 with
      |false=>
       rw [Bool.not_false,cond_true];refine hk _ ⟨g1,g2,g3.imp id fun h=>⟨h.1,h.2.1,fun j hj=>?_⟩⟩;rcases Nat.lt_or_ge j i with h3|h3
       ·exact h.2.2 j h3
       ·(obtain rfl:j=i:=by omega);exact hfo
      |true=>
       rw [Bool.not_true,cond_false];by_cases h0:nth t.list i=[]
       ·rw [h0];exact ⟨_,rfl, .inr ⟨rfl,fun e he _=>he.ne _ (zak hi) h0⟩⟩
       ·have hlen:0<(nth t.list i).length:=List.length_pos_iff.2 h0;rw [decide_eq_false (by omega),cond_false];obtain ⟨q1,q2,q3⟩:=zg7 hG g1.sp g1.ok g2 hg h0 hfo;have q4:=fun e he hs=>zju (e:=e) hG g1.sp g1.ok g2 hg h0 (zak hi) hfo he hs;generalize (zdo m' v' (nth t.list i)).1=c at q1 q2 q3 q4
        have hgc:zep c=true:=by
         have:=(okN_iff.1 hg).1.good c q1;unfold zep;exact decide_eq_true (by omega)
        (have eact:actC false c=zcD c.Station c.Channel:=by unfold actC;rw [hgc];rfl);obtain ⟨r,q5,q6⟩:=zkC hf hok ⟨g1.sp.sub,g1.sp.ord⟩ g1.prop false c;rw [q5,Option.bind_some];rw [eact] at q6;have hsub:=(FiltD.drop c.Station c.Channel).subD (d:=m'.1);have hsp:SubP p (m'.1.map (zcD c.Station c.Channel)):=⟨hsub.1.trans g1.sp.sub,hsub.2.trans g1.sp.ord g1.sp.sub.1⟩;have hmid:=zlv (S:=t.list) hsp (hsub.1.trans g1.sd) q6 (fun e he hh=>q4 e he (g1.all e he hh));dsimp only;rcases hmid with ⟨q7,q8⟩|⟨q7,q8⟩
        ·rw [q7,Bool.not_true,cond_false];obtain ⟨v2,w1,w2⟩:=zjK hG q8.sp q7;rw [w1,Option.bind_some];refine hk _ ⟨q8,w2, .inl ⟨rfl,?_⟩⟩;dsimp only;obtain ⟨_,x,hx,hx1,hx2⟩:=has_ex.1 q2;obtain ⟨ix,hix,rfl⟩:=zaK hx;have h7:=zkG hix hx1 hx2
         have h8:totG r.1≤totG (m'.1.map (zcD c.Station c.Channel)):=by
          rcases q6 with ⟨_,_,h9,_⟩|⟨h9,_⟩
          ·exact zdh h9.1.1 h9.2
          ·rw [h9] at q7;cases q7
         have h9:totG m'.1≤totG m.1:=by
          rcases g3 with ⟨_,h⟩|⟨_,h,_⟩
          ·omega
          ·rw [h];exact Nat.le_refl _
         omega
        ·rw [q7,Bool.not_false,cond_true];exact ⟨_,rfl, .inr ⟨rfl,q8⟩⟩
    ·rw [h1,Bool.not_false,cond_true];exact ⟨_,rfl, .inr ⟨rfl,h2⟩⟩
 ·cases h2:m.2 with
  |false=>
   rw [Bool.not_false,cond_true];refine ⟨_,rfl, .inr ⟨rfl,fun e he hs=>?_⟩⟩;rcases hI with ⟨h3,_⟩|⟨_,h4⟩
   ·rw [h2] at h3;cases h3
   ·refine h4 e he.cl (hs.trans ?_)
    have key:∀(r:List GChoice) (d:List GDomain),SubD (r.foldl (fun d c=>d.map (actC true c)) d) d:=by
     intro r
     induction r with
     |nil=>exact fun d=> .refl _
     |cons c r ih=>exact fun d=>(ih _).trans (zek true c).subD.1
    have:=key (l.drop i) (dK p (l.take i));unfold dK at this ⊢;rw [←List.foldl_append,List.take_append_drop] at this;exact this
  |true=>
   rw [Bool.not_true,cond_false];have hk:=zgX (p:=p) (l.take i);obtain ⟨r,g1,g2⟩:=zkC hf hok ⟨hk.sub,hk.ord⟩ hI true (nth l i);rw [g1,Option.bind_some];exact hnx _ (by rw [zjE hi];exact g2)
end
structure StN (p:GProblem) (t:GStore):Prop where
 pr:t.start.1=p
 st:PropD p p.Domains t.start.2
 tb:TabN p t.domains
 ok:∀g∈t.list,okN p g=true
section
variable {p:GProblem}{t:GStore}{fuel:Nat}
theorem new_x (hf:100000≤fuel)(hok:okG p=true):∃t,zbC fuel p=some (some t,0)∧StN p t∧t.list=[]:=by
 obtain ⟨hw,hbd,ht,hn⟩:=zfj hok;obtain ⟨m,g1,g2⟩:=zdY (fuel:=fuel) hw hbd (by omega) (by omega);obtain ⟨v,h1,h2⟩:=zkv (zhp hok);unfold zbC;rw [hok,cond_true,g1,Option.bind_some,h1,Option.bind_some];exact ⟨_,rfl,⟨rfl,g2,h2,fun g hg=>by cases hg⟩,rfl⟩
theorem StN.add (h:StN p t){g:List GChoice}(hg:okN p g=true):StN p ⟨t.domains,(t.start.1,t.start.2),t.list++[g]⟩:=⟨h.pr,h.st,h.tb,fun x hx=>by
 rcases List.mem_append.1 hx with hx|hx
 ·exact h.ok x hx
 ·simp at hx;rw [hx];exact hg⟩
theorem run_x (hf:100000≤fuel)(hok:okG p=true)(h:StN p t){l:List GChoice}(hl:ValidL l)(hs:∀c∈l,zbM p c.Station=true):(∃m:List GDomain×Bool,zaf fuel t l=some (m.1,false,0)∧ClosedN p t.list m.1∧SubP p m.1∧SubD m.1 (dK p l)∧∀e,ClosedN p t.list e→SubD e (dK p l)→SubD e m.1)∨(zaf fuel t l=some ([],true,0)∧∀e,ClosedN p t.list e→¬SubD e (dK p l)):=by
 unfold zaf zag;rw [cond_false,zcX,validL_iff.2 hl,Bool.not_true,cond_false];simp only [zax,Nat.sub_zero];refine zaU (fun i _=>True) (fun o=>(∃m:List GDomain×Bool,o=some (m.1,false,0)∧ClosedN p t.list m.1∧SubP p m.1∧SubD m.1 (dK p l)∧∀e,ClosedN p t.list e→SubD e (dK p l)→SubD e m.1)∨(o=some ([],true,0)∧∀e,ClosedN p t.list e→¬SubD e (dK p l))) trivial (fun _ _=>?_) (fun i _ next hi _ hn=>?_)
 ·obtain ⟨r,h1,h2⟩:=zkS hf hok h.pr h.st h.ok l;rw [h1,Option.bind_some];rcases h2 with ⟨m,rfl,g1,g2,g3,g4,g5⟩|⟨rfl,g⟩
  ·exact .inl ⟨m,rfl,g2,g3,g4,g5⟩
  ·exact .inr ⟨rfl,g⟩
 ·have hg:=hl.good _ (zak hi);rw [zaX (by omega),h.tb.zero (zhp hok) (by omega),hs _ (zak hi),Bool.not_true,cond_false];exact hn () trivial
theorem zkH {l:List (List GChoice)}{most:Int}(hm:0≤most∧most≤1000)(hf:100000≤fuel):∃b,zcb fuel l most=some b∧(b=true→(l.length:Int)≤most∧∀g∈l,g.length≤20):=by
 unfold zcb;simp only [zax];refine zck (σ:=Int) (I:=fun i=>0≤i∧i≤1001∧∀j:Nat,(j:Int)<i→j<l.length→(nth l j).length≤20) (μ:=fun i=>(1001 - i).toNat) (post:=fun o=>∃b,o=some b∧(b=true→(l.length:Int)≤most∧∀g∈l,g.length≤20)) ⟨by omega,by omega,fun j h _=>by omega⟩ (by omega) ?_;rintro i next ⟨h1,h2,h3⟩ hn;by_cases h4:i<(l.length:Int)∧i≤most
 ·rw [decide_eq_true h4.1,decide_eq_true h4.2,Bool.and_true,cond_true,zaX ⟨h1,h4.1⟩];by_cases h5:(20:Int)<((nth l i.toNat).length:Int)
  ·rw [decide_eq_true h5,cond_true];exact ⟨false,rfl,fun h=>by cases h⟩
  ·rw [decide_eq_false h5,cond_false];refine hn _ ⟨by omega,by omega,fun j hj hl=>?_⟩ (by omega);by_cases h6:(j:Int)<i
   ·exact h3 j h6 hl
   ·(obtain rfl:j=i.toNat:=by omega);omega
 ·have e:(decide (i<(l.length:Int))&&decide (i≤most))=false:=by
   rw [Bool.and_eq_false_iff,decide_eq_false_iff_not,decide_eq_false_iff_not];omega
  rw [e,cond_false];refine ⟨_,rfl,fun h=>?_⟩;rw [decide_eq_true_eq] at h;refine ⟨h,fun g hg=>?_⟩;obtain ⟨j,hj,rfl⟩:=zaK hg;exact h3 j (by omega) hj
end
def zaG (a:Int)(b:Int):GPair:=
 (GPair.mk a b 0 14 51)
theorem zdI (F0:Frz)(w:World)(hF0:F0.At w)(a:Int)(b:Int):Calls Tryz.prog 61 #[.int .i64 a, .int .i64 b] w fun e w'=>e= .returned (.agg [.int .i64 ((zaG a b).A), .int .i64 ((zaG a b).B), .int .i64 ((zaG a b).Offset), .int .i64 ((zaG a b).Low), .int .i64 ((zaG a b).High)].toArray)∧Below w.heap.size w w':=by
 obtain ⟨r,hk⟩:∃r,zaG a b=r:=⟨_,rfl⟩;rw [hk];unfold zaG at hk;obtain ⟨S0,F1,rfl,hS0,hp0⟩:=zan hF0;refine zac Tryz.func61 rfl rfl rfl hp0 ?_;refine T.sr ?_;refine TL.e (Ew.alloc rfl) ?_;rintro _ _ ⟨g4,rfl,rfl⟩;refine TL.nx ?_;refine TL.run 2 rfl ?_;refine TL.y (Yv.build rfl rfl) ?_;refine TL.e0 (Ew.ak 0 rfl rfl rfl rfl rfl rfl) ?_;rintro _ _ ⟨rfl,rfl⟩;refine TL.ns (T.ret ?_);subst hk;exact K.bG 0 rfl rfl rfl rfl (fun w' hw=>⟨rfl,hw.isBelow⟩)
def zam  : GProblem :=
 (GProblem.mk [(GDomain.mk 1 [14,15]),(GDomain.mk 2 [14,15]),(GDomain.mk 3 [14,15])] (GRules.mk [(zaG 1 2),(zaG 1 3),(zaG 2 3)] [] []))
theorem zbt (F0 : Frz)(w : World)(hF0 : F0.At w)  : Calls Tryz.prog 37 #[] w fun e w' => ∃ (y : Value × List (List Value) × Value × Value × Value) (G : Frz), (SlD GDomain.rep G y.1 2 y.2.1 ((zam).Domains) ∧ SlC G y.2.2.1 5 (((zam).Rules.Pairs).map GPair.enc) ∧ SlC G y.2.2.2.1 5 (((zam).Rules.Loads).map GLoad.enc) ∧ SlC G y.2.2.2.2 4 (((zam).Rules.Caps).map GCap.enc)) ∧ e = .returned (.agg [y.1, y.2.2.1, y.2.2.2.1, y.2.2.2.2].toArray) ∧ Fx F0 w G w' := by
 obtain ⟨r,hk⟩:∃r,zam=r:=⟨_,rfl⟩;rw [hk];unfold zam at hk;obtain ⟨S0,F1,rfl,hS0,hp0⟩:=zan hF0;refine zac Tryz.func37 rfl rfl rfl hp0 ?_;refine T.sr ?_;refine TL.e (Ew.alloc rfl) ?_;rintro _ _ ⟨g0,rfl,rfl⟩;refine TL.nx ?_;refine TL.e (Ew.buildSlice rfl rfl rfl (by decide)) ?_;rintro _ _ ⟨g1,rfl,rfl⟩;refine TL.aX (fun w hw=>hw.freezeR (i:=2) (j:=0) (by decide) rfl rfl) ?_;rintro F2 ⟨le1_2,hz2⟩;dsimp only [List.set,List.eraseIdx];have hf2:SlC F2.toFrz (.slice (some ⟨g1,0,none⟩) 2 2) 1 ([14,15].map eI):=(SlK.lit hz2 rfl (Nat.le_refl _) (by decide)).toF (xs:=[14,15]) rfl (fun _=>rfl);refine TL.y (Yv.build rfl rfl) ?_;refine TL.e (Ew.buildSlice rfl rfl rfl (by decide)) ?_;rintro _ _ ⟨g3,rfl,rfl⟩;refine TL.aX (fun w hw=>hw.freezeR (i:=2) (j:=0) (by decide) rfl rfl) ?_;rintro F3 ⟨le2_3,hz3⟩;dsimp only [List.set,List.eraseIdx];have le1_3:=le1_2.trans le2_3;have hf3:SlC F3.toFrz (.slice (some ⟨g3,0,none⟩) 2 2) 1 ([14,15].map eI):=(SlK.lit hz3 rfl (Nat.le_refl _) (by decide)).toF (xs:=[14,15]) rfl (fun _=>rfl);refine TL.y (Yv.build rfl rfl) ?_;refine TL.e (Ew.buildSlice rfl rfl rfl (by decide)) ?_;rintro _ _ ⟨g5,rfl,rfl⟩;refine TL.aX (fun w hw=>hw.freezeR (i:=2) (j:=0) (by decide) rfl rfl) ?_;rintro F4 ⟨le3_4,hz4⟩;dsimp only [List.set,List.eraseIdx];have le1_4:=le1_3.trans le3_4;have le2_4:=le2_3.trans le3_4;have hf4:SlC F4.toFrz (.slice (some ⟨g5,0,none⟩) 2 2) 1 ([14,15].map eI):=(SlK.lit hz4 rfl (Nat.le_refl _) (by decide)).toF (xs:=[14,15]) rfl (fun _=>rfl);refine TL.y (Yv.build rfl rfl) ?_;refine TL.e (Ew.buildSlice rfl rfl rfl (by decide)) ?_;rintro _ _ ⟨g7,rfl,rfl⟩;have hl7:OwnD GDomain.rep F4.toFrz 2 [[.int .i64 1,(.slice (some ⟨g1,0,none⟩) 2 2)],[.int .i64 2,(.slice (some ⟨g3,0,none⟩) 2 2)],[.int .i64 3,(.slice (some ⟨g5,0,none⟩) 2 2)]] [(GDomain.mk 1 [14,15]),(GDomain.mk 2 [14,15]),(GDomain.mk 3 [14,15])]:=(OwnD.snoc (OwnD.snoc (OwnD.snoc (OwnD.nil _ _ 2) ⟨_,rfl,(SlC.mono hf2 le2_4)⟩ rfl) ⟨_,rfl,(SlC.mono hf3 le3_4)⟩ rfl) ⟨_,rfl,hf4⟩ rfl);refine TL.e (Ew.af rfl rfl rfl (fun w hw=>zdI _ w (hw.fr (i:=2) rfl) 1 2)) ?_;rintro _ _ ⟨rfl,rfl⟩;refine TL.e (Ew.af rfl rfl rfl (fun w hw=>zdI _ w (hw.fr (i:=2) rfl) 1 3)) ?_;rintro _ _ ⟨rfl,rfl⟩;refine TL.e (Ew.af rfl rfl rfl (fun w hw=>zdI _ w (hw.fr (i:=2) rfl) 2 3)) ?_;rintro _ _ ⟨rfl,rfl⟩;refine TL.e (Ew.buildSlice rfl rfl rfl (by decide)) ?_;rintro _ _ ⟨g11,rfl,rfl⟩;refine TL.y (Yv.build rfl rfl) ?_;refine TL.y (Yv.build rfl rfl) ?_;refine TL.e0 (Ew.ak 2 rfl rfl rfl rfl rfl rfl) ?_;rintro _ _ ⟨rfl,rfl⟩;refine TL.ns (T.ret ?_);refine K.aX (fun w hw=>hw.freezeR (i:=3) (j:=1) (by decide) rfl rfl) ?_;rintro F5 ⟨le4_5,hz5⟩;dsimp only [List.set,List.eraseIdx];have le1_5:=le1_4.trans le4_5;have hf5:SlD GDomain.rep F5.toFrz (.slice (some ⟨g7,0,none⟩) 3 3) 2 [[.int .i64 1,(.slice (some ⟨g1,0,none⟩) 2 2)],[.int .i64 2,(.slice (some ⟨g3,0,none⟩) 2 2)],[.int .i64 3,(.slice (some ⟨g5,0,none⟩) 2 2)]] [(GDomain.mk 1 [14,15]),(GDomain.mk 2 [14,15]),(GDomain.mk 3 [14,15])]:=(SlK.lit hz5 rfl (Nat.le_refl _) (by decide)).toD (OwnD.mono (rep:=GDomain.rep) (fun _ _ _ _=>GDomain.mono) hl7 le4_5) rfl;refine K.aX (fun w hw=>hw.freezeR (i:=2) (j:=0) (by decide) rfl rfl) ?_;rintro F6 ⟨le5_6,hz6⟩;dsimp only [List.set,List.eraseIdx];have le1_6:=le1_5.trans le5_6;have hf6:SlC F6.toFrz (.slice (some ⟨g11,0,none⟩) 3 3) 5 ([(zaG 1 2),(zaG 1 3),(zaG 2 3)].map GPair.enc):=(SlK.lit hz6 rfl (Nat.le_refl _) (by decide)).toF (xs:=[(zaG 1 2),(zaG 1 3),(zaG 2 3)]) rfl GPair.len;subst hk;exact K.bG 0 rfl rfl rfl rfl (fun w' hw=>⟨((.slice (some ⟨g7,0,none⟩) 3 3),[[.int .i64 1,(.slice (some ⟨g1,0,none⟩) 2 2)],[.int .i64 2,(.slice (some ⟨g3,0,none⟩) 2 2)],[.int .i64 3,(.slice (some ⟨g5,0,none⟩) 2 2)]],(.slice (some ⟨g11,0,none⟩) 3 3),(.slice none 0 0),(.slice none 0 0)),F6.toFrz,⟨(SlD.mono (rep:=GDomain.rep) (fun _ _ _ _=>GDomain.mono) hf5 le5_6),hf6,(SlC.nil _ 5),(SlC.nil _ 4)⟩,rfl,Fx.of hw (i:=1) rfl hS0 le1_6⟩)
def zb9 (fuel:Nat)(p:GProblem)(l:List (List GChoice)):Option Bool:=
 (zcc fuel p 10 40).bind fun r6=>
 zax (fun (x_1:Bool)=>
  some x_1)
 (fun k2=>
  (bif r6 then
   (zcb fuel l 12).bind fun r9=>
   k2 r9
   else
   k2 false))
theorem zgl (F0:Frz)(w:World)(hF0:F0.At w)(p:GProblem)(vp_0:Value)(cp_0:List (List Value))(hp_0:SlD GDomain.rep F0 vp_0 2 cp_0 p.Domains)(vp_1:Value)(hp_1:SlC F0 vp_1 5 (p.Rules.Pairs.map GPair.enc))(vp_2:Value)(hp_2:SlC F0 vp_2 5 (p.Rules.Loads.map GLoad.enc))(vp_3:Value)(hp_3:SlC F0 vp_3 4 (p.Rules.Caps.map GCap.enc))(l:List (List GChoice))(vl:Value)(cl:List (List Value))(hl:SlD R_List_GChoice.rep F0 vl 1 cl l)(fuel:Nat)(r:Bool)(hr:zb9 fuel p l=some r):Calls Tryz.prog 9 #[.agg [vp_0,vp_1,vp_2,vp_3].toArray,vl] w fun e w'=>e= .returned (.bool r)∧Below w.heap.size w w':=by
 have hk:=hr;unfold zb9 at hk;haveI:=hp_0.1.oneC;haveI:=hp_1.oneC;haveI:=hp_2.oneC;haveI:=hp_3.oneC;haveI:=hl.1.oneC;obtain ⟨S0,F1,rfl,hS0,hp0⟩:=zan hF0;refine zac Tryz.func9 rfl rfl rfl hp0 ?_;refine T.sr ?_;refine TL.e (Ew.aA rfl rfl) ?_;rintro _ _ ⟨g2,rfl,rfl⟩;refine TL.run 1 rfl ?_;refine TL.ns (T.seq ?_);have hq:=zal hk;clear hk;obtain ⟨r6,hr6,hk⟩:=hq; (try dsimp only at hk);have hq:=zae hk;clear hk;obtain ⟨k2,hk2,hk⟩:=hq; (try dsimp only at hk);refine T.al (ι:=Bool) (fun z=>[(4, .bool z)]) (fun z=>[.fr F1]) (fun z=>k2 z=some r) ?_ ?_
 ·refine T.region ?_;refine TL.y (Yv.am 0 rfl rfl rfl rfl) ?_;refine TL.e (Ew.af rfl rfl rfl (fun w hw=>zgu _ w (hw.fr (i:=1) rfl) p vp_0 cp_0 hp_0 vp_1 hp_1 vp_2 hp_2 vp_3 hp_3 10 40 fuel r6 hr6)) ?_;rintro _ _ ⟨rfl,rfl⟩;refine TL.run 1 rfl ?_;refine TL.gs rfl rfl rfl (fun h3=>?_) (fun h3=>?_)
  ·replace hk:=zab hk h3;refine TL.run 1 rfl ?_;have hq:=zal hk;clear hk;obtain ⟨r9,hr9,hk⟩:=hq;refine TL.e (Ew.af rfl rfl rfl (fun w hw=>zgA _ w (hw.fr (i:=1) rfl) l vl cl hl 12 fuel r9 hr9)) ?_;rintro _ _ ⟨rfl,rfl⟩;refine TL.run 2 rfl ?_;refine TL.nil ?_;refine K.pick [1] rfl (by decide) ?_;exact K.aj r9 hk (.c .nil) (List.Sublist.refl _)
  ·replace hk:=zaa hk h3;refine TL.run 4 rfl ?_;refine TL.nil ?_;refine K.pick [1] rfl (by decide) ?_;exact K.aj false hk (.c .nil) (List.Sublist.refl _)
 ·rintro x_1 hk;rw [←hk2] at hk; (try dsimp only at hk);refine T.ret ?_;obtain rfl:=Option.some.inj hk;exact K.ah rfl rfl (fun w' hw=>⟨rfl,hw.isBelow⟩)
def zbQ (fuel:Nat)(x0_:GStore)(g_:List GChoice)(want:Bool):Option Bool:=
 (zaV fuel x0_ g_).bind fun r12=>
 some ((decide (r12.2=0))&&(r12.1 == want))
theorem zcU (F0:Frz)(w:World)(hF0:F0.At w)(x0_:GStore)(g0_:Nat)(k0_512:SK)(v0_512:Value)(L0_512:Ws)(hs0_512:SI x0_.start.1 x0_.start.2 k0_512 L0_512)(tf0_512:TbF F0 k0_512)(zf0_512:SzF F0 k0_512 v0_512 L0_512 (!x0_.start.2.2))(v0_513:Value)(c0_513:List (List Value))(h0_513:OwnD R_List_GChoice.rep F0 1 c0_513 x0_.list)(g_:List GChoice)(vg_:Value)(hg_:SlC F0 vg_ 2 (g_.map GChoice.enc))(want:Bool)(htab:Tab w)(hO:Hp w (fps [.row g0_ 92 ((x0_.domains.1.map U)++[.pointer (some ⟨k0_512.sp,0,none⟩),v0_513]), .sl v0_513 31 1 x0_.list.length c0_513.flatten]) [.row g0_ 92 ((x0_.domains.1.map U)++[.pointer (some ⟨k0_512.sp,0,none⟩),v0_513]), .sl v0_513 31 1 x0_.list.length c0_513.flatten] w)(hA:∀g,fps [.row g0_ 92 ((x0_.domains.1.map U)++[.pointer (some ⟨k0_512.sp,0,none⟩),v0_513]), .sl v0_513 31 1 x0_.list.length c0_513.flatten] g→¬F0.S g)(hZ:¬fps [.row g0_ 92 ((x0_.domains.1.map U)++[.pointer (some ⟨k0_512.sp,0,none⟩),v0_513]), .sl v0_513 31 1 x0_.list.length c0_513.flatten] 0)(fuel:Nat)(hfu:100000≤fuel)(r:Bool)(hr:zbQ fuel x0_ g_ want=some r):Calls Tryz.prog 38 #[.pointer (some ⟨g0_,0,none⟩),vg_, .bool want] w fun e w'=>∃(y:Unit) (G:Frz),(True)∧e= .returned (.bool r)∧FxM F0 w (fps [.row g0_ 92 ((x0_.domains.1.map U)++[.pointer (some ⟨k0_512.sp,0,none⟩),v0_513]), .sl v0_513 31 1 x0_.list.length c0_513.flatten]) G [.row g0_ 92 ((x0_.domains.1.map U)++[.pointer (some ⟨k0_512.sp,0,none⟩),v0_513]), .sl v0_513 31 1 x0_.list.length c0_513.flatten] w':=by
 have hk:=hr;unfold zbQ at hk;haveI:=hg_.oneC;haveI:=zcG (hO.own (.sl v0_513 31 1 x0_.list.length c0_513.flatten) (by simp));have hmx0_513:=zcu (hO.own (.sl v0_513 31 1 x0_.list.length c0_513.flatten) (by simp));obtain ⟨S0,F1,rfl,hS0,hp0⟩:=zbz hF0 hO hA;have hM0:=hZ;have htk:∀ {hs:HS} {w':World},Hp w (fps [.row g0_ 92 ((x0_.domains.1.map U)++[.pointer (some ⟨k0_512.sp,0,none⟩),v0_513]), .sl v0_513 31 1 x0_.list.length c0_513.flatten]) hs w'→Tab w':=fun hw=>htab.kept hw hZ;refine zac (hs:=[.row g0_ 92 ((x0_.domains.1.map U)++[.pointer (some ⟨k0_512.sp,0,none⟩),v0_513]), .sl v0_513 31 1 x0_.list.length c0_513.flatten, .fr F1]) Tryz.func38 rfl rfl rfl hp0 ?_;refine T.sr ?_;refine TL.run 1 rfl ?_;refine TL.ns (T.seq ?_);have hq:=zal hk;clear hk;obtain ⟨r12,hr12,hk⟩:=hq; (try dsimp only at hk);refine T.region ?_;refine TL.run 2 rfl ?_;refine TL.e (Ew.aH [0,1,2] [.row g0_ 92 ((x0_.domains.1.map U)++([.pointer (some ⟨k0_512.sp,0,none⟩),v0_513]:List Value)), .sl v0_513 31 1 x0_.list.length c0_513.flatten] [] rfl rfl rfl rfl (by decide) (fun w hw hw2 hF=>zb7 _ w hF x0_ g0_ k0_512 v0_512 L0_512 hs0_512 tf0_512 zf0_512 v0_513 c0_513 h0_513 g_ vg_ hg_ (htk hw) hw2.takes.1 hw2.takes.2 (hw2.takes0 hM0 htab.pos) fuel hfu r12 hr12)) ?_;rintro _ _ ⟨⟨⟩,F2,le1_2, -,rfl,rfl⟩;dsimp only [List.cons_append,List.nil_append];refine TL.run 5 rfl ?_;refine TL.ns (T.seq ?_);refine T.al (ι:=Unit) (fun z=>[(6, .bool ((decide (r12.2=0))&&(r12.1 == want)))]) (fun z=>[.row g0_ 92 ((x0_.domains.1.map U)++[.pointer (some ⟨k0_512.sp,0,none⟩),v0_513]), .sl v0_513 31 1 x0_.list.length c0_513.flatten, .fr F2]) (fun z=>True) ?_ ?_
 ·refine T.region ?_;refine TL.run 3 rfl ?_;refine TL.gs rfl rfl rfl (fun h1=>?_) (fun h1=>?_)
  ·have p1:=of_decide_eq_true h1;refine TL.run 2 rfl ?_;refine TL.y (Yv.cE (by kernel_rfl) rfl rfl rfl) ?_;refine TL.run 2 rfl ?_;refine TL.nil ?_;exact K.aj () trivial (.b (zdi h1) .nil) (List.Sublist.refl _)
  ·have p1:=of_decide_eq_false h1;refine TL.run 5 rfl ?_;refine TL.nil ?_;exact K.aj () trivial (.b (zaJ h1).symm .nil) (List.Sublist.refl _)
 ·rintro _ _;refine T.ret ?_;obtain rfl:=Option.some.inj hk;exact K.ah rfl rfl (fun w' hw=>⟨⟨⟩,F2.toFrz,trivial,rfl,FxM.of (hw.pick (idx:=[0,1,2]) rfl (by decide)) hS0 le1_2⟩)
def zbo (fuel : Nat)  : Option Bool :=
 (zbC fuel (zam)).bind fun r10=>
 (bif (r10.1).isSome then
  grd (0≤2∧2≤(((zam).Domains).length:Int)) <|
  (zbC fuel (GProblem.mk (((zam).Domains).take 2) (GRules.mk [] [] []))).bind fun r18=>
  (bif (r18.1).isSome then
   (bif ((decide (¬r10.2=0))||(decide (¬r18.2=0))) then
    some false
    else
    (zaf fuel (r10.1.getD default) []).bind fun r39=>
    zax (fun (s7:Bool×List (List GChoice))=>
     (bif s7.1 then
      some false
      else
      (zaf fuel (GStore.mk ((r10.1.getD default).domains) (((r10.1.getD default).start).1,((r10.1.getD default).start).2) s7.2) []).bind fun r84=>
      (bif ((((decide (¬r84.2.2=0))||(!r84.2.1))||(decide (¬(r84.1.length:Int)=0)))||(decide (¬(zao (GStore.mk ((r10.1.getD default).domains) (((r10.1.getD default).start).1,((r10.1.getD default).start).2) s7.2))=2))) then
       some false
       else
       (zaD (r18.1.getD default) [(GChoice.mk 1 14),(GChoice.mk 2 15)]).bind fun r108=>
       (bif decide (¬r108.1=0) then
        some false
        else
        (zaf fuel (GStore.mk ((r18.1.getD default).domains) (((r18.1.getD default).start).1,((r18.1.getD default).start).2) r108.2) [(GChoice.mk 1 14)]).bind fun r113=>
        some (((((decide (r113.2.2=0))&&(!r113.2.1))&&(decide ((r113.1.length:Int)=2)))&&(zaF ((nth r113.1 0).Channels) [14]))&&(zaF ((nth r113.1 1).Channels) [14]))))))
    (fun k7=>
     (bif decide (¬r39.2.2=0) then
      k7 (true,(r10.1.getD default).list)
      else
      (bif r39.2.1 then
       k7 (true,(r10.1.getD default).list)
       else
       (bif !(zaP r39.1 ((zam).Domains)) then
        k7 (true,(r10.1.getD default).list)
        else
        (zbQ fuel (r10.1.getD default) [(GChoice.mk 1 14)] true).bind fun r58=>
        (bif !r58 then
         k7 (true,(r10.1.getD default).list)
         else
         (zbQ fuel (r10.1.getD default) [] false).bind fun r63=>
         (bif !r63 then
          k7 (true,(r10.1.getD default).list)
          else
          (zaD (r10.1.getD default) [(GChoice.mk 1 14)]).bind fun r69=>
          (bif decide (¬r69.1=0) then
           k7 (true,r69.2)
           else
           (zbQ fuel (GStore.mk ((r10.1.getD default).domains) (((r10.1.getD default).start).1,((r10.1.getD default).start).2) r69.2) [] true).bind fun r74=>
           (bif !r74 then
            k7 (true,r69.2)
            else
            (zaD (GStore.mk ((r10.1.getD default).domains) (((r10.1.getD default).start).1,((r10.1.getD default).start).2) r69.2) []).bind fun r79=>
            k7 (decide (¬r79.1=0),r79.2))))))))))
   else
   some false)
  else
  grd (0≤2∧2≤(((zam).Domains).length:Int)) <|
  (zbC fuel (GProblem.mk (((zam).Domains).take 2) (GRules.mk [] [] []))).bind fun r18=>
  (bif (r18.1).isSome then
   some false
   else
   some false))
theorem zcJ (F0 : Frz)(w : World)(hF0 : F0.At w)  (htab : Tab w)(fuel : Nat)(hfu : 100000 ≤ fuel)(r : Bool)(hr : zbo fuel = some r) : Calls Tryz.prog 11 #[] w fun e w' => e = .returned (.bool r) ∧ Below w.heap.size w w' := by
 have hk:=hr;unfold zbo at hk;obtain ⟨S0,F1,rfl,hS0,hp0⟩:=zan hF0;have hM0:¬(fun _:Nat=>False) 0:=fun h=>h;have htk:∀ {hs:HS} {w':World},Hp w (fun _=>False) hs w'→Tab w':=fun hw=>htab.keptF hw;refine zac Tryz.func11 rfl rfl rfl hp0 ?_;refine T.sr ?_;refine TL.run 1 rfl ?_;refine TL.ns (T.seq ?_);have hq:=zal hk;clear hk;obtain ⟨r10,hr10,hk⟩:=hq; (try dsimp only at hk);refine T.bc ((r10.1).isSome) (fun h1=>?_) (fun h1=>?_)
 ·replace hk:=zab hk h1;refine T.region ?_;refine TL.e (Ew.aS 0 rfl rfl rfl rfl (fun w hw hF=>zbt _ w hF )) ?_;rintro _ _ ⟨⟨v9_0_0,cs9_0_0,v9_0_1,v9_0_2,v9_0_3⟩,F2,le1_2,⟨hf9_0_0,hf9_0_1,hf9_0_2,hf9_0_3⟩,rfl,rfl⟩;dsimp only at hf9_0_0 hf9_0_1 hf9_0_2 hf9_0_3 ⊢;haveI:=hf9_0_0.1.oneC;haveI:=hf9_0_1.oneC;haveI:=hf9_0_2.oneC;haveI:=hf9_0_3.oneC;refine TL.e (Ew.aH [0] [] [] rfl rfl rfl rfl (by decide) (fun w hw hw2 hF=>(zbB _ w hF (zam) v9_0_0 cs9_0_0 hf9_0_0 v9_0_1 hf9_0_1 v9_0_2 hf9_0_2 v9_0_3 hf9_0_3 (htk hw) fuel hfu r10 hr10).mono (fun e w' hp=>hp.1 h1))) ?_;rintro _ _ ⟨⟨g10_n,k10_n_512,v10_n_512,L10_n_512,v10_n_513,c10_n_513⟩,F3,le2_3,⟨hs10_n_512,tf10_n_512,zf10_n_512,ho10_n_513⟩,rfl,rfl⟩;dsimp only [List.cons_append,List.nil_append]; (try dsimp only at hs10_n_512 tf10_n_512 zf10_n_512 ho10_n_513);refine TL.aZ 1 rfl ?_;intro iv10_n_513 hmv10_n_513;refine TL.run 5 rfl ?_;refine TL.ns (T.seq ?_);have hq:(0≤2∧2≤(((zam).Domains).length:Int))∧_:=zaE hk;clear hk;obtain ⟨g16h,hk⟩:=hq;have hq:=zal hk;clear hk;obtain ⟨r18,hr18,hk⟩:=hq; (try dsimp only at hk);refine T.bc ((r18.1).isSome) (fun h2=>?_) (fun h2=>?_)
  ·replace hk:=zab hk h2;refine T.region ?_;refine TL.e (Ew.aS 2 rfl rfl rfl rfl (fun w hw hF=>zbt _ w hF )) ?_;rintro _ _ ⟨⟨v14_0_0,cs14_0_0,v14_0_1,v14_0_2,v14_0_3⟩,F4,le3_4,⟨hf14_0_0,hf14_0_1,hf14_0_2,hf14_0_3⟩,rfl,rfl⟩;dsimp only at hf14_0_0 hf14_0_1 hf14_0_2 hf14_0_3 ⊢;haveI:=hf14_0_0.1.oneC;haveI:=hf14_0_1.oneC;haveI:=hf14_0_2.oneC;haveI:=hf14_0_3.oneC;refine TL.y (Yv.field rfl rfl rfl) ?_;refine TL.y (Yv.bT (i:=2) rfl rfl rfl hf14_0_0.1 hf14_0_0.2.1 (show (2:Int)=((2:Nat):Int) from rfl) (by omega)) ?_;have hs16_:SlD GDomain.rep F4.toFrz (zcZ v14_0_0 0 2 2) 2 (cs14_0_0.take 2) (((zam).Domains).take 2):=hf14_0_0.sliceh (i:=2) (by omega);haveI:=hs16_.1.oneC;refine TL.y (Yv.build rfl rfl) ?_;refine TL.e (Ew.aH [2,0,1] [] [.row g10_n 92 ((((r10.1.getD default).domains).1.map U)++([.pointer (some ⟨k10_n_512.sp,0,none⟩),v10_n_513]:List Value)), .sl v10_n_513 31 1 ((r10.1.getD default).list).length c10_n_513.flatten] rfl rfl rfl rfl (by decide) (fun w hw hw2 hF=>(zbB _ w hF (GProblem.mk (((zam).Domains).take 2) (GRules.mk [] [] [])) (zcZ v14_0_0 0 2 2) (cs14_0_0.take 2) hs16_ (.slice none 0 0) (SlC.nil _ 5) (.slice none 0 0) (SlC.nil _ 5) (.slice none 0 0) (SlC.nil _ 4) (htk hw) fuel hfu r18 hr18).mono (fun e w' hp=>hp.1 h2))) ?_;rintro _ _ ⟨⟨g18_n,k18_n_512,v18_n_512,L18_n_512,v18_n_513,c18_n_513⟩,F5,le4_5,⟨hs18_n_512,tf18_n_512,zf18_n_512,ho18_n_513⟩,rfl,rfl⟩;dsimp only [List.cons_append,List.nil_append]; (try dsimp only at hs18_n_512 tf18_n_512 zf18_n_512 ho18_n_513);have le3_5:=le3_4.trans le4_5;refine TL.aZ 1 rfl ?_;intro iv18_n_513 hmv18_n_513;refine TL.run 5 rfl ?_;refine TL.ns (T.seq (T.seq ?_));refine T.al (ι:=Unit) (fun z=>[(1, .pointer (some ⟨g10_n,0,none⟩)),(3, .pointer (some ⟨g18_n,0,none⟩)),(34, .bool ((decide (¬r10.2=0))||(decide (¬r18.2=0))))]) (fun z=>[.row g18_n 92 ((((r18.1.getD default).domains).1.map U)++[.pointer (some ⟨k18_n_512.sp,0,none⟩),v18_n_513]), .sl v18_n_513 31 1 ((r18.1.getD default).list).length c18_n_513.flatten, .row g10_n 92 ((((r10.1.getD default).domains).1.map U)++[.pointer (some ⟨k10_n_512.sp,0,none⟩),v10_n_513]), .sl v10_n_513 31 1 ((r10.1.getD default).list).length c10_n_513.flatten, .fr F5]) (fun z=>True) ?_ ?_
   ·refine T.region ?_;refine TL.run 1 rfl ?_;refine TL.y (Yv.ba (e:=92) (by kernel_rfl) rfl rfl rfl) ?_;refine TL.run 2 rfl ?_;refine TL.y (Yv.ba (e:=92) (by kernel_rfl) rfl rfl rfl) ?_;refine TL.run 6 rfl ?_;refine TL.gs rfl rfl rfl (fun h3=>?_) (fun h3=>?_)
    ·have p3:=of_decide_eq_true h3;refine TL.run 3 rfl ?_;refine TL.nil ?_;refine K.pick [0,1,3,4,2] rfl (by decide) ?_;exact K.aj () trivial (.c (.c (.b (zbN h3).symm .nil))) (List.Sublist.refl _)
    ·have p3:=of_decide_eq_false h3;refine TL.run 3 rfl ?_;refine TL.nil ?_;refine K.pick [0,1,3,4,2] rfl (by decide) ?_;exact K.aj () trivial (.c (.c (.b (or_f h3) .nil))) (List.Sublist.refl _)
   ·rintro _ _;refine T.cond rfl (fun h4=>?_) (fun h4=>?_)
    ·replace hk:=zab hk h4;refine T.sr ?_;refine TL.run 1 rfl ?_;refine TL.ns (T.ret (K.aa ?_));obtain rfl:=Option.some.inj hk;exact K.ah rfl rfl (fun w' hw=>⟨rfl,hw.isBelow⟩)
    ·have p4:=h4; (try simp only [nfB] at p4);replace hk:=zaa hk h4;refine T.skip (K.seq (T.sr ?_));refine TL.y (Yv.build rfl rfl) ?_;refine TL.e (Ew.buildSlice rfl rfl rfl (by decide)) ?_;rintro _ _ ⟨g36,rfl,rfl⟩;refine TL.run 1 rfl ?_;refine TL.ns (T.seq ?_);have hq:=zal hk;clear hk;obtain ⟨r39,hr39,hk⟩:=hq; (try dsimp only at hk);refine T.region ?_;refine TL.run 1 rfl ?_;refine TL.e (Ew.aH [3,4,5,0,1,2] [.row g10_n 92 ((((r10.1.getD default).domains).1.map U)++([.pointer (some ⟨k10_n_512.sp,0,none⟩),v10_n_513]:List Value)), .sl v10_n_513 31 1 ((r10.1.getD default).list).length c10_n_513.flatten] [.row g36 50 [.int .i64 1, .int .i64 14], .row g18_n 92 ((((r18.1.getD default).domains).1.map U)++([.pointer (some ⟨k18_n_512.sp,0,none⟩),v18_n_513]:List Value)), .sl v18_n_513 31 1 ((r18.1.getD default).list).length c18_n_513.flatten] rfl rfl rfl rfl (by decide) (fun w hw hw2 hF=>zaN _ w hF (r10.1.getD default) g10_n k10_n_512 v10_n_512 L10_n_512 hs10_n_512 (tf10_n_512.mono le3_5) (zf10_n_512.mono le3_5) v10_n_513 c10_n_513 (OwnD.mono (rep:=R_List_GChoice.rep) (fun _ _ _ _=>R_List_GChoice.mono) ho10_n_513 le3_5) [] (.slice none 0 0) (SlC.nil _ 2) (htk hw) hw2.takes.1 hw2.takes.2 (hw2.takes0 hM0 htab.pos) fuel hfu r39 hr39)) ?_;rintro _ _ ⟨⟨v39_0_0,cs39_0_0⟩,F6,le5_6,hf39_0_0,rfl,rfl⟩;dsimp only [List.cons_append,List.nil_append]; (try dsimp only at hf39_0_0);have le3_6:=le3_5.trans le5_6;haveI:=hf39_0_0.1.oneC;refine TL.run 7 rfl ?_;refine TL.ns (T.seq (T.seq ?_));refine T.aX (fun w hw=>hw.freezeR (i:=2) (j:=3) (by decide) rfl rfl) ?_;rintro F7 ⟨le6_7,hz7⟩;dsimp only [List.set,List.eraseIdx];have le3_7:=le3_6.trans le6_7;have le5_7:=le5_6.trans le6_7;have hf7:SlC F7.toFrz (.slice (some ⟨g36,0,none⟩) 1 1) 2 ([(GChoice.mk 1 14)].map GChoice.enc):=(SlK.lit hz7 rfl (Nat.le_refl _) (by decide)).toF (xs:=[(GChoice.mk 1 14)]) rfl GChoice.len; (try dsimp only at hk);have hq:=zae hk;clear hk;obtain ⟨k7,hk7,hk⟩:=hq; (try dsimp only at hk);refine T.al (ι:=Bool×List (List GChoice)×Value×List (List Value)×FzB w (fun _=>False) S0) (fun z=>[(1, .pointer (some ⟨g10_n,0,none⟩)),(3, .pointer (some ⟨g18_n,0,none⟩)),(5,(.slice (some ⟨g36,0,none⟩) 1 1)),(81, .bool z.1)]) (fun z=>[.sl z.2.2.1 31 1 z.2.1.length z.2.2.2.1.flatten, .row g10_n 92 ((((r10.1.getD default).domains).1.map U)++[.pointer (some ⟨k10_n_512.sp,0,none⟩),z.2.2.1]), .row g18_n 92 ((((r18.1.getD default).domains).1.map U)++[.pointer (some ⟨k18_n_512.sp,0,none⟩),v18_n_513]), .sl v18_n_513 31 1 ((r18.1.getD default).list).length c18_n_513.flatten, .fr z.2.2.2.2]) (fun z=>k7 (z.1,z.2.1)=some r∧OwnD R_List_GChoice.rep z.2.2.2.2.toFrz 1 z.2.2.2.1 z.2.1∧OneC z.2.2.1∧F7.toFrz.Le z.2.2.2.2.toFrz) ?_ ?_
     ·refine T.region ?_;refine TL.run 3 rfl ?_;refine TL.gs rfl rfl rfl (fun h8=>?_) (fun h8=>?_)
      ·have p8:=of_decide_eq_true h8;replace hk:=zab hk h8;refine TL.run 36 rfl ?_;refine TL.nil ?_;refine K.pick [1,0,3,4,2] rfl (by decide) ?_;exact K.aj (true,(r10.1.getD default).list,v10_n_513,c10_n_513,F7) ⟨hk,(OwnD.mono (rep:=R_List_GChoice.rep) (fun _ _ _ _=>R_List_GChoice.mono) ho10_n_513 le3_7),inferInstance,(Frz.Le.refl _)⟩ (.c (.c (.c (.c .nil)))) (List.Sublist.refl _)
      ·have p8:=of_decide_eq_false h8;replace hk:=zaa hk h8;refine TL.run 3 rfl ?_;refine TL.gs rfl rfl rfl (fun h9=>?_) (fun h9=>?_)
       ·replace hk:=zab hk h9;refine TL.run 33 rfl ?_;refine TL.nil ?_;refine K.pick [1,0,3,4,2] rfl (by decide) ?_;exact K.aj (true,(r10.1.getD default).list,v10_n_513,c10_n_513,F7) ⟨hk,(OwnD.mono (rep:=R_List_GChoice.rep) (fun _ _ _ _=>R_List_GChoice.mono) ho10_n_513 le3_7),inferInstance,(Frz.Le.refl _)⟩ (.c (.c (.c (.c .nil)))) (List.Sublist.refl _)
       ·replace hk:=zaa hk h9;refine TL.run 1 rfl ?_;refine TL.e (Ew.aS 2 rfl rfl rfl rfl (fun w hw hF=>zbt _ w hF )) ?_;rintro _ _ ⟨⟨v50_0_0,cs50_0_0,v50_0_1,v50_0_2,v50_0_3⟩,F9,le7_9,⟨hf50_0_0,hf50_0_1,hf50_0_2,hf50_0_3⟩,rfl,rfl⟩;dsimp only at hf50_0_0 hf50_0_1 hf50_0_2 hf50_0_3 ⊢;have le3_9:=le3_7.trans le7_9;have le6_9:=le6_7.trans le7_9;haveI:=hf50_0_0.1.oneC;haveI:=hf50_0_1.oneC;haveI:=hf50_0_2.oneC;haveI:=hf50_0_3.oneC;refine TL.y (Yv.field rfl rfl rfl) ?_;refine TL.e (Ew.af rfl rfl rfl (fun w hw=>zcP _ w (hw.fr (i:=2) rfl) r39.1 v39_0_0 cs39_0_0 (SlD.mono (rep:=GDomain.rep) (fun _ _ _ _=>GDomain.mono) hf39_0_0 le6_9) ((zam).Domains) v50_0_0 cs50_0_0 hf50_0_0)) ?_;rintro _ _ ⟨rfl,rfl⟩;refine TL.run 3 rfl ?_;refine TL.gs rfl rfl rfl (fun h10=>?_) (fun h10=>?_)
        ·replace hk:=zab hk h10;refine TL.run 26 rfl ?_;refine TL.nil ?_;refine K.pick [1,0,3,4,2] rfl (by decide) ?_;exact K.aj (true,(r10.1.getD default).list,v10_n_513,c10_n_513,F9) ⟨hk,(OwnD.mono (rep:=R_List_GChoice.rep) (fun _ _ _ _=>R_List_GChoice.mono) ho10_n_513 le3_9),inferInstance,le7_9⟩ (.c (.c (.c (.c .nil)))) (List.Sublist.refl _)
        ·replace hk:=zaa hk h10;refine TL.run 2 rfl ?_;have hq:=zal hk;clear hk;obtain ⟨r58,hr58,hk⟩:=hq;refine TL.e (Ew.aH [0,1,2,3,4] [.row g10_n 92 ((((r10.1.getD default).domains).1.map U)++([.pointer (some ⟨k10_n_512.sp,0,none⟩),v10_n_513]:List Value)), .sl v10_n_513 31 1 ((r10.1.getD default).list).length c10_n_513.flatten] [.row g18_n 92 ((((r18.1.getD default).domains).1.map U)++([.pointer (some ⟨k18_n_512.sp,0,none⟩),v18_n_513]:List Value)), .sl v18_n_513 31 1 ((r18.1.getD default).list).length c18_n_513.flatten] rfl rfl rfl rfl (by decide) (fun w hw hw2 hF=>zcU _ w hF (r10.1.getD default) g10_n k10_n_512 v10_n_512 L10_n_512 hs10_n_512 (tf10_n_512.mono le3_9) (zf10_n_512.mono le3_9) v10_n_513 c10_n_513 (OwnD.mono (rep:=R_List_GChoice.rep) (fun _ _ _ _=>R_List_GChoice.mono) ho10_n_513 le3_9) [(GChoice.mk 1 14)] (.slice (some ⟨g36,0,none⟩) 1 1) (SlC.mono hf7 le7_9) true (htk hw) hw2.takes.1 hw2.takes.2 (hw2.takes0 hM0 htab.pos) fuel hfu r58 hr58)) ?_;rintro _ _ ⟨⟨⟩,F10,le9_10, -,rfl,rfl⟩;dsimp only [List.cons_append,List.nil_append];have le3_10:=le3_9.trans le9_10;have le7_10:=le7_9.trans le9_10;refine TL.run 3 rfl ?_;refine TL.gs rfl rfl rfl (fun h11=>?_) (fun h11=>?_)
         ·replace hk:=zab hk h11;refine TL.run 20 rfl ?_;refine TL.nil ?_;refine K.pick [1,0,3,4,2] rfl (by decide) ?_;exact K.aj (true,(r10.1.getD default).list,v10_n_513,c10_n_513,F10) ⟨hk,(OwnD.mono (rep:=R_List_GChoice.rep) (fun _ _ _ _=>R_List_GChoice.mono) ho10_n_513 le3_10),inferInstance,le7_10⟩ (.c (.c (.c (.c .nil)))) (List.Sublist.refl _)
         ·replace hk:=zaa hk h11;refine TL.run 1 rfl ?_;have hq:=zal hk;clear hk;obtain ⟨r63,hr63,hk⟩:=hq;refine TL.e (Ew.aH [0,1,2,3,4] [.row g10_n 92 ((((r10.1.getD default).domains).1.map U)++([.pointer (some ⟨k10_n_512.sp,0,none⟩),v10_n_513]:List Value)), .sl v10_n_513 31 1 ((r10.1.getD default).list).length c10_n_513.flatten] [.row g18_n 92 ((((r18.1.getD default).domains).1.map U)++([.pointer (some ⟨k18_n_512.sp,0,none⟩),v18_n_513]:List Value)), .sl v18_n_513 31 1 ((r18.1.getD default).list).length c18_n_513.flatten] rfl rfl rfl rfl (by decide) (fun w hw hw2 hF=>zcU _ w hF (r10.1.getD default) g10_n k10_n_512 v10_n_512 L10_n_512 hs10_n_512 (tf10_n_512.mono le3_10) (zf10_n_512.mono le3_10) v10_n_513 c10_n_513 (OwnD.mono (rep:=R_List_GChoice.rep) (fun _ _ _ _=>R_List_GChoice.mono) ho10_n_513 le3_10) [] (.slice none 0 0) (SlC.nil _ 2) false (htk hw) hw2.takes.1 hw2.takes.2 (hw2.takes0 hM0 htab.pos) fuel hfu r63 hr63)) ?_;rintro _ _ ⟨⟨⟩,F11,le10_11, -,rfl,rfl⟩;dsimp only [List.cons_append,List.nil_append];have le3_11:=le3_10.trans le10_11;have le7_11:=le7_10.trans le10_11;refine TL.run 3 rfl ?_;refine TL.gs rfl rfl rfl (fun h12=>?_) (fun h12=>?_)
          ·replace hk:=zab hk h12;refine TL.run 15 rfl ?_;refine TL.nil ?_;refine K.pick [1,0,3,4,2] rfl (by decide) ?_;exact K.aj (true,(r10.1.getD default).list,v10_n_513,c10_n_513,F11) ⟨hk,(OwnD.mono (rep:=R_List_GChoice.rep) (fun _ _ _ _=>R_List_GChoice.mono) ho10_n_513 le3_11),inferInstance,le7_11⟩ (.c (.c (.c (.c .nil)))) (List.Sublist.refl _)
          ·replace hk:=zaa hk h12;refine TL.run 2 rfl ?_;have hq:=zal hk;clear hk;obtain ⟨r69,hr69,hk⟩:=hq;refine TL.e (Ew.aH [0,1,2,3,4] [.row g10_n 92 ((((r10.1.getD default).domains).1.map U)++([.pointer (some ⟨k10_n_512.sp,0,none⟩),v10_n_513]:List Value)), .sl v10_n_513 31 1 ((r10.1.getD default).list).length c10_n_513.flatten] [.row g18_n 92 ((((r18.1.getD default).domains).1.map U)++([.pointer (some ⟨k18_n_512.sp,0,none⟩),v18_n_513]:List Value)), .sl v18_n_513 31 1 ((r18.1.getD default).list).length c18_n_513.flatten] rfl rfl rfl rfl (by decide) (fun w hw hw2 hF=>za3 _ w hF (r10.1.getD default) g10_n k10_n_512 v10_n_512 L10_n_512 hs10_n_512 (tf10_n_512.mono le3_11) (zf10_n_512.mono le3_11) v10_n_513 c10_n_513 (OwnD.mono (rep:=R_List_GChoice.rep) (fun _ _ _ _=>R_List_GChoice.mono) ho10_n_513 le3_11) [(GChoice.mk 1 14)] (.slice (some ⟨g36,0,none⟩) 1 1) (SlC.mono hf7 le7_11) hw2.takes.1 hw2.takes.2 r69 hr69)) ?_;rintro _ _ ⟨⟨v69_1_513,c69_1_513⟩,F12,le11_12,ho69_1_513,rfl,rfl⟩;dsimp only [List.cons_append,List.nil_append]; (try dsimp only at ho69_1_513);have le3_12:=le3_11.trans le11_12;have le7_12:=le7_11.trans le11_12;refine TL.aZ 1 rfl ?_;intro iv69_1_513 hmv69_1_513;refine TL.run 3 rfl ?_;refine TL.gs rfl rfl rfl (fun h13=>?_) (fun h13=>?_)
           ·have p13:=of_decide_eq_true h13;replace hk:=zab hk h13;refine TL.run 9 rfl ?_;refine TL.nil ?_;refine K.pick [1,0,3,4,2] rfl (by decide) ?_;exact K.aj (true,r69.2,v69_1_513,c69_1_513,F12) ⟨hk,ho69_1_513,inferInstance,le7_12⟩ (.c (.c (.c (.c .nil)))) (List.Sublist.refl _)
           ·have p13:=of_decide_eq_false h13;replace hk:=zaa hk h13;refine TL.run 1 rfl ?_;have hq:=zal hk;clear hk;obtain ⟨r74,hr74,hk⟩:=hq;refine TL.e (Ew.aH [0,1,2,3,4] [.row g10_n 92 ((((r10.1.getD default).domains).1.map U)++([.pointer (some ⟨k10_n_512.sp,0,none⟩),v69_1_513]:List Value)), .sl v69_1_513 31 1 r69.2.length c69_1_513.flatten] [.row g18_n 92 ((((r18.1.getD default).domains).1.map U)++([.pointer (some ⟨k18_n_512.sp,0,none⟩),v18_n_513]:List Value)), .sl v18_n_513 31 1 ((r18.1.getD default).list).length c18_n_513.flatten] rfl rfl rfl rfl (by decide) (fun w hw hw2 hF=>zcU _ w hF (GStore.mk ((r10.1.getD default).domains) (((r10.1.getD default).start).1,((r10.1.getD default).start).2) r69.2) g10_n k10_n_512 v10_n_512 L10_n_512 hs10_n_512 (tf10_n_512.mono le3_12) (zf10_n_512.mono le3_12) v69_1_513 c69_1_513 ho69_1_513 [] (.slice none 0 0) (SlC.nil _ 2) true (htk hw) hw2.takes.1 hw2.takes.2 (hw2.takes0 hM0 htab.pos) fuel hfu r74 hr74)) ?_;rintro _ _ ⟨⟨⟩,F13,le12_13, -,rfl,rfl⟩;dsimp only [List.cons_append,List.nil_append];have le3_13:=le3_12.trans le12_13;have le7_13:=le7_12.trans le12_13;refine TL.run 3 rfl ?_;refine TL.gs rfl rfl rfl (fun h14=>?_) (fun h14=>?_)
            ·replace hk:=zab hk h14;refine TL.run 4 rfl ?_;refine TL.nil ?_;refine K.pick [1,0,3,4,2] rfl (by decide) ?_;exact K.aj (true,r69.2,v69_1_513,c69_1_513,F13) ⟨hk,(OwnD.mono (rep:=R_List_GChoice.rep) (fun _ _ _ _=>R_List_GChoice.mono) ho69_1_513 le12_13),inferInstance,le7_13⟩ (.c (.c (.c (.c .nil)))) (List.Sublist.refl _)
            ·replace hk:=zaa hk h14;refine TL.run 1 rfl ?_;have hq:=zal hk;clear hk;obtain ⟨r79,hr79,hk⟩:=hq;refine TL.e (Ew.aH [0,1,2,3,4] [.row g10_n 92 ((((r10.1.getD default).domains).1.map U)++([.pointer (some ⟨k10_n_512.sp,0,none⟩),v69_1_513]:List Value)), .sl v69_1_513 31 1 r69.2.length c69_1_513.flatten] [.row g18_n 92 ((((r18.1.getD default).domains).1.map U)++([.pointer (some ⟨k18_n_512.sp,0,none⟩),v18_n_513]:List Value)), .sl v18_n_513 31 1 ((r18.1.getD default).list).length c18_n_513.flatten] rfl rfl rfl rfl (by decide) (fun w hw hw2 hF=>za3 _ w hF (GStore.mk ((r10.1.getD default).domains) (((r10.1.getD default).start).1,((r10.1.getD default).start).2) r69.2) g10_n k10_n_512 v10_n_512 L10_n_512 hs10_n_512 (tf10_n_512.mono le3_13) (zf10_n_512.mono le3_13) v69_1_513 c69_1_513 (OwnD.mono (rep:=R_List_GChoice.rep) (fun _ _ _ _=>R_List_GChoice.mono) ho69_1_513 le12_13) [] (.slice none 0 0) (SlC.nil _ 2) hw2.takes.1 hw2.takes.2 r79 hr79)) ?_;rintro _ _ ⟨⟨v79_1_513,c79_1_513⟩,F14,le13_14,ho79_1_513,rfl,rfl⟩;dsimp only [List.cons_append,List.nil_append]; (try dsimp only at ho79_1_513);have le7_14:=le7_13.trans le13_14;refine TL.aZ 1 rfl ?_;intro iv79_1_513 hmv79_1_513;refine TL.run 2 rfl ?_;refine TL.nil ?_;refine K.pick [1,0,3,4,2] rfl (by decide) ?_;exact K.aj (decide (¬r79.1=0),r79.2,v79_1_513,c79_1_513,F14) ⟨hk,ho79_1_513,inferInstance,le7_14⟩ (.c (.c (.c (.c .nil)))) (List.Sublist.refl _)
     ·rintro ⟨x_5,c_6,vc_6,cc_6,F8⟩ ⟨hk,hc_6,oc_6,le7_8⟩; (try dsimp only at *);rw [←hk7] at hk; (try dsimp only at hk);have le3_8:=le3_7.trans le7_8;have le5_8:=le5_7.trans le7_8;refine T.cond rfl (fun h15=>?_) (fun h15=>?_)
      ·replace hk:=zab hk h15;refine T.sr ?_;refine TL.run 1 rfl ?_;refine TL.ns (T.ret (K.aa ?_));obtain rfl:=Option.some.inj hk;exact K.ah rfl rfl (fun w' hw=>⟨rfl,hw.isBelow⟩)
      ·replace hk:=zaa hk h15;refine T.skip (K.seq (T.seq ?_));have hq:=zal hk;clear hk;obtain ⟨r84,hr84,hk⟩:=hq; (try dsimp only at hk);refine T.region ?_;refine TL.run 1 rfl ?_;refine TL.e (Ew.aH [1,0,4,2,3] [.row g10_n 92 ((((r10.1.getD default).domains).1.map U)++([.pointer (some ⟨k10_n_512.sp,0,none⟩),vc_6]:List Value)), .sl vc_6 31 1 c_6.length cc_6.flatten] [.row g18_n 92 ((((r18.1.getD default).domains).1.map U)++([.pointer (some ⟨k18_n_512.sp,0,none⟩),v18_n_513]:List Value)), .sl v18_n_513 31 1 ((r18.1.getD default).list).length c18_n_513.flatten] rfl rfl rfl rfl (by decide) (fun w hw hw2 hF=>zaN _ w hF (GStore.mk ((r10.1.getD default).domains) (((r10.1.getD default).start).1,((r10.1.getD default).start).2) c_6) g10_n k10_n_512 v10_n_512 L10_n_512 hs10_n_512 (tf10_n_512.mono le3_8) (zf10_n_512.mono le3_8) vc_6 cc_6 hc_6 [] (.slice none 0 0) (SlC.nil _ 2) (htk hw) hw2.takes.1 hw2.takes.2 (hw2.takes0 hM0 htab.pos) fuel hfu r84 hr84)) ?_;rintro _ _ ⟨⟨v84_0_0,cs84_0_0⟩,F15,le8_15,hf84_0_0,rfl,rfl⟩;dsimp only [List.cons_append,List.nil_append]; (try dsimp only at hf84_0_0);have le3_15:=le3_8.trans le8_15;have le5_15:=le5_8.trans le8_15;have le7_15:=le7_8.trans le8_15;haveI:=hf84_0_0.1.oneC;refine TL.run 7 rfl ?_;refine TL.ns (T.seq (T.seq ?_));refine T.al (ι:=Unit) (fun z=>[(3, .pointer (some ⟨g18_n,0,none⟩)),(5,(.slice (some ⟨g36,0,none⟩) 1 1)),(103, .bool ((((decide (¬r84.2.2=0))||(!r84.2.1))||(decide (¬(r84.1.length:Int)=0)))||(decide (¬(zao (GStore.mk ((r10.1.getD default).domains) (((r10.1.getD default).start).1,((r10.1.getD default).start).2) c_6))=2))))]) (fun z=>[.row g10_n 92 ((((r10.1.getD default).domains).1.map U)++[.pointer (some ⟨k10_n_512.sp,0,none⟩),vc_6]), .sl vc_6 31 1 c_6.length cc_6.flatten, .row g18_n 92 ((((r18.1.getD default).domains).1.map U)++[.pointer (some ⟨k18_n_512.sp,0,none⟩),v18_n_513]), .sl v18_n_513 31 1 ((r18.1.getD default).list).length c18_n_513.flatten, .fr F15]) (fun z=>True) ?_ ?_
       ·refine T.region ?_;refine TL.run 3 rfl ?_;refine TL.gs rfl rfl rfl (fun h16=>?_) (fun h16=>?_)
        ·have p16:=of_decide_eq_true h16;refine TL.run 13 rfl ?_;refine TL.nil ?_;refine K.pick [0,1,3,4,2] rfl (by decide) ?_;exact K.aj () trivial (.c (.c (.b (zbN (zbN (zbN h16))).symm .nil))) (List.Sublist.refl _)
        ·have p16:=of_decide_eq_false h16;refine TL.run 4 rfl ?_;refine TL.gs rfl rfl rfl (fun h17=>?_) (fun h17=>?_)
         ·refine TL.run 9 rfl ?_;refine TL.nil ?_;refine K.pick [0,1,3,4,2] rfl (by decide) ?_;exact K.aj () trivial (.c (.c (.b (zbN (zbN (zcp h16 h17))).symm .nil))) (List.Sublist.refl _)
         ·refine TL.run 1 rfl ?_;refine TL.y (Yv.ar rfl rfl hf84_0_0.1 hf84_0_0.2.1) ?_;have hm96:r84.1.length≤9223372036854775807:=hf84_0_0.2.1▸hf84_0_0.1.max;refine TL.run 3 rfl ?_;refine TL.gs rfl rfl rfl (fun h18=>?_) (fun h18=>?_)
          ·have p18:=of_decide_eq_true h18;refine TL.run 4 rfl ?_;refine TL.nil ?_;refine K.pick [0,1,3,4,2] rfl (by decide) ?_;exact K.aj () trivial (.c (.c (.b (zbN (zcp (zcp h16 h17) h18)).symm .nil))) (List.Sublist.refl _)
          ·have p18:=of_decide_eq_false h18;refine TL.run 1 rfl ?_;refine TL.e (Ew.aU [0,1,2,3,4] [.row g10_n 92 ((((r10.1.getD default).domains).1.map U)++([.pointer (some ⟨k10_n_512.sp,0,none⟩),vc_6]:List Value)), .sl vc_6 31 1 c_6.length cc_6.flatten] [.row g18_n 92 ((((r18.1.getD default).domains).1.map U)++([.pointer (some ⟨k18_n_512.sp,0,none⟩),v18_n_513]:List Value)), .sl v18_n_513 31 1 ((r18.1.getD default).list).length c18_n_513.flatten] rfl rfl rfl rfl (by decide) (fun w hw hw2 hF=>zbD _ w hF (GStore.mk ((r10.1.getD default).domains) (((r10.1.getD default).start).1,((r10.1.getD default).start).2) c_6) g10_n k10_n_512 v10_n_512 L10_n_512 hs10_n_512 (tf10_n_512.mono le3_15) (zf10_n_512.mono le3_15) vc_6 cc_6 (OwnD.mono (rep:=R_List_GChoice.rep) (fun _ _ _ _=>R_List_GChoice.mono) hc_6 le8_15) hw2.takes.1 hw2.takes.2)) ?_;rintro _ _ ⟨⟨⟩, -,rfl,rfl⟩;dsimp only [List.cons_append,List.nil_append];refine TL.run 2 rfl ?_;refine TL.nil ?_;refine K.pick [0,1,3,4,2] rfl (by decide) ?_;exact K.aj () trivial (.c (.c (.b (or_f (zcp (zcp h16 h17) h18)) .nil))) (List.Sublist.refl _)
       ·rintro _ _;have hm96:r84.1.length≤9223372036854775807:=hf84_0_0.2.1▸hf84_0_0.1.max;refine T.cond rfl (fun h19=>?_) (fun h19=>?_)
        ·replace hk:=zab hk h19;refine T.sr ?_;refine TL.run 1 rfl ?_;refine TL.ns (T.ret (K.aa ?_));obtain rfl:=Option.some.inj hk;exact K.ah rfl rfl (fun w' hw=>⟨rfl,hw.isBelow⟩)
        ·have p19:=h19; (try simp only [nfB] at p19);replace hk:=zaa hk h19;refine T.skip (K.seq (T.seq (T.seq ?_)));have hq:=zal hk;clear hk;obtain ⟨r108,hr108,hk⟩:=hq; (try dsimp only at hk);refine T.region ?_;refine TL.run 1 rfl ?_;refine TL.y (Yv.build rfl rfl) ?_;refine TL.y (Yv.build rfl rfl) ?_;refine TL.e (Ew.buildSlice rfl rfl rfl (by decide)) ?_;rintro _ _ ⟨g107,rfl,rfl⟩;refine TL.aX (fun w hw=>hw.freezeR (i:=5) (j:=0) (by decide) rfl rfl) ?_;rintro F16 ⟨le15_16,hz16⟩;dsimp only [List.set,List.eraseIdx];have le5_16:=le5_15.trans le15_16;have le7_16:=le7_15.trans le15_16;have hf16:SlC F16.toFrz (.slice (some ⟨g107,0,none⟩) 2 2) 2 ([(GChoice.mk 1 14),(GChoice.mk 2 15)].map GChoice.enc):=(SlK.lit hz16 rfl (Nat.le_refl _) (by decide)).toF (xs:=[(GChoice.mk 1 14),(GChoice.mk 2 15)]) rfl GChoice.len;refine TL.e (Ew.aH [2,3,4,0,1] [.row g18_n 92 ((((r18.1.getD default).domains).1.map U)++([.pointer (some ⟨k18_n_512.sp,0,none⟩),v18_n_513]:List Value)), .sl v18_n_513 31 1 ((r18.1.getD default).list).length c18_n_513.flatten] [.row g10_n 92 ((((r10.1.getD default).domains).1.map U)++([.pointer (some ⟨k10_n_512.sp,0,none⟩),vc_6]:List Value)), .sl vc_6 31 1 c_6.length cc_6.flatten] rfl rfl rfl rfl (by decide) (fun w hw hw2 hF=>za3 _ w hF (r18.1.getD default) g18_n k18_n_512 v18_n_512 L18_n_512 hs18_n_512 (tf18_n_512.mono le5_16) (zf18_n_512.mono le5_16) v18_n_513 c18_n_513 (OwnD.mono (rep:=R_List_GChoice.rep) (fun _ _ _ _=>R_List_GChoice.mono) ho18_n_513 le5_16) [(GChoice.mk 1 14),(GChoice.mk 2 15)] (.slice (some ⟨g107,0,none⟩) 2 2) hf16 hw2.takes.1 hw2.takes.2 r108 hr108)) ?_;rintro _ _ ⟨⟨v108_1_513,c108_1_513⟩,F17,le16_17,ho108_1_513,rfl,rfl⟩;dsimp only [List.cons_append,List.nil_append]; (try dsimp only at ho108_1_513);have le5_17:=le5_16.trans le16_17;have le7_17:=le7_16.trans le16_17;refine TL.aZ 1 rfl ?_;intro iv108_1_513 hmv108_1_513;refine TL.run 1 rfl ?_;refine TL.ns ?_;refine T.cond rfl (fun h20=>?_) (fun h20=>?_)
         ·have p20:=of_decide_eq_true h20;replace hk:=zab hk h20;refine T.sr ?_;refine TL.run 1 rfl ?_;refine TL.ns (T.ret (K.aa ?_));obtain rfl:=Option.some.inj hk;exact K.ah rfl rfl (fun w' hw=>⟨rfl,hw.isBelow⟩)
         ·have p20:=of_decide_eq_false h20;replace hk:=zaa hk h20;refine T.skip (K.seq (T.seq ?_));have hq:=zal hk;clear hk;obtain ⟨r113,hr113,hk⟩:=hq; (try dsimp only at hk);refine T.region ?_;refine TL.run 2 rfl ?_;refine TL.e (Ew.aH [0,1,2,3,4] [.row g18_n 92 ((((r18.1.getD default).domains).1.map U)++([.pointer (some ⟨k18_n_512.sp,0,none⟩),v108_1_513]:List Value)), .sl v108_1_513 31 1 r108.2.length c108_1_513.flatten] [.row g10_n 92 ((((r10.1.getD default).domains).1.map U)++([.pointer (some ⟨k10_n_512.sp,0,none⟩),vc_6]:List Value)), .sl vc_6 31 1 c_6.length cc_6.flatten] rfl rfl rfl rfl (by decide) (fun w hw hw2 hF=>zaN _ w hF (GStore.mk ((r18.1.getD default).domains) (((r18.1.getD default).start).1,((r18.1.getD default).start).2) r108.2) g18_n k18_n_512 v18_n_512 L18_n_512 hs18_n_512 (tf18_n_512.mono le5_17) (zf18_n_512.mono le5_17) v108_1_513 c108_1_513 ho108_1_513 [(GChoice.mk 1 14)] (.slice (some ⟨g36,0,none⟩) 1 1) (SlC.mono hf7 le7_17) (htk hw) hw2.takes.1 hw2.takes.2 (hw2.takes0 hM0 htab.pos) fuel hfu r113 hr113)) ?_;rintro _ _ ⟨⟨v113_0_0,cs113_0_0⟩,F18,le17_18,hf113_0_0,rfl,rfl⟩;dsimp only [List.cons_append,List.nil_append]; (try dsimp only at hf113_0_0);haveI:=hf113_0_0.1.oneC;refine TL.run 7 rfl ?_;refine TL.ns (T.seq ?_);refine T.al (ι:=FzB w (fun _=>False) S0) (fun z=>[(0, .bool (((((decide (r113.2.2=0))&&(!r113.2.1))&&(decide ((r113.1.length:Int)=2)))&&(zaF ((nth r113.1 0).Channels) [14]))&&(zaF ((nth r113.1 1).Channels) [14])))]) (fun z=>[.row g18_n 92 ((((r18.1.getD default).domains).1.map U)++[.pointer (some ⟨k18_n_512.sp,0,none⟩),v108_1_513]), .sl v108_1_513 31 1 r108.2.length c108_1_513.flatten, .row g10_n 92 ((((r10.1.getD default).domains).1.map U)++[.pointer (some ⟨k10_n_512.sp,0,none⟩),vc_6]), .sl vc_6 31 1 c_6.length cc_6.flatten, .fr z]) (fun z=>F18.toFrz.Le z.toFrz) ?_ ?_
          ·refine T.region ?_;refine TL.run 3 rfl ?_;refine TL.gs rfl rfl rfl (fun h21=>?_) (fun h21=>?_)
           ·have p21:=of_decide_eq_true h21;refine TL.run 4 rfl ?_;refine TL.gs rfl rfl rfl (fun h22=>?_) (fun h22=>?_)
            ·refine TL.run 1 rfl ?_;refine TL.y (Yv.ar rfl rfl hf113_0_0.1 hf113_0_0.2.1) ?_;have hm125:r113.1.length≤9223372036854775807:=hf113_0_0.2.1▸hf113_0_0.1.max;refine TL.run 3 rfl ?_;refine TL.gs rfl rfl rfl (fun h23=>?_) (fun h23=>?_)
             ·have p23:=of_decide_eq_true h23;refine TL.run 1 rfl ?_;refine TL.y (Yv.ao (i:=0) rfl rfl rfl hf113_0_0.1 hf113_0_0.2.1 (show (0:Int)=((0:Nat):Int) from rfl) (by omega)) ?_;refine TL.y (Yv.aG rfl rfl hf113_0_0.1 hf113_0_0.2.1 (by omega)) ?_;refine TL.y (Yv.loadR 2 (i:=0) (j:=1) rfl rfl rfl hf113_0_0.1 hf113_0_0.2.1 (by omega) rfl (GDomain.c1 (hf113_0_0.2.2 0 (by omega))).1) ?_;have hd132_1:=(GDomain.c1 (hf113_0_0.2.2 0 (by omega))).2;haveI:=hd132_1.oneC;refine TL.e (Ew.buildSlice rfl rfl rfl (by decide)) ?_;rintro _ _ ⟨g133,rfl,rfl⟩;refine TL.aX (fun w hw=>hw.freezeR (i:=3) (j:=0) (by decide) rfl rfl) ?_;rintro F20 ⟨le18_20,hz20⟩;dsimp only [List.set,List.eraseIdx];have hf20:SlC F20.toFrz (.slice (some ⟨g133,0,none⟩) 1 1) 1 ([14].map eI):=(SlK.lit hz20 rfl (Nat.le_refl _) (by decide)).toF (xs:=[14]) rfl (fun _=>rfl);refine TL.e (Ew.af rfl rfl rfl (fun w hw=>zcF _ w (hw.fr (i:=2) rfl) ((nth r113.1 0).Channels) (nth (nth cs113_0_0 0) 1) (SlC.mono hd132_1 le18_20) [14] (.slice (some ⟨g133,0,none⟩) 1 1) hf20)) ?_;rintro _ _ ⟨rfl,rfl⟩;refine TL.run 2 rfl ?_;refine TL.gs rfl rfl rfl (fun h24=>?_) (fun h24=>?_)
              ·refine TL.run 1 rfl ?_;refine TL.y (Yv.ao (i:=1) rfl rfl rfl (SlD.mono (rep:=GDomain.rep) (fun _ _ _ _=>GDomain.mono) hf113_0_0 le18_20).1 (SlD.mono (rep:=GDomain.rep) (fun _ _ _ _=>GDomain.mono) hf113_0_0 le18_20).2.1 (show (1:Int)=((1:Nat):Int) from rfl) (by omega)) ?_;refine TL.y (Yv.aG rfl rfl (SlD.mono (rep:=GDomain.rep) (fun _ _ _ _=>GDomain.mono) hf113_0_0 le18_20).1 (SlD.mono (rep:=GDomain.rep) (fun _ _ _ _=>GDomain.mono) hf113_0_0 le18_20).2.1 (by omega)) ?_;refine TL.y (Yv.loadR 2 (i:=1) (j:=1) rfl rfl rfl (SlD.mono (rep:=GDomain.rep) (fun _ _ _ _=>GDomain.mono) hf113_0_0 le18_20).1 (SlD.mono (rep:=GDomain.rep) (fun _ _ _ _=>GDomain.mono) hf113_0_0 le18_20).2.1 (by omega) rfl (GDomain.c1 ((SlD.mono (rep:=GDomain.rep) (fun _ _ _ _=>GDomain.mono) hf113_0_0 le18_20).2.2 1 (by omega))).1) ?_;have hd140_1:=(GDomain.c1 ((SlD.mono (rep:=GDomain.rep) (fun _ _ _ _=>GDomain.mono) hf113_0_0 le18_20).2.2 1 (by omega))).2;haveI:=hd140_1.oneC;refine TL.e (Ew.buildSlice rfl rfl rfl (by decide)) ?_;rintro _ _ ⟨g141,rfl,rfl⟩;refine TL.aX (fun w hw=>hw.freezeR (i:=3) (j:=0) (by decide) rfl rfl) ?_;rintro F21 ⟨le20_21,hz21⟩;dsimp only [List.set,List.eraseIdx];have le18_21:=le18_20.trans le20_21;have hf21:SlC F21.toFrz (.slice (some ⟨g141,0,none⟩) 1 1) 1 ([14].map eI):=(SlK.lit hz21 rfl (Nat.le_refl _) (by decide)).toF (xs:=[14]) rfl (fun _=>rfl);refine TL.e (Ew.af rfl rfl rfl (fun w hw=>zcF _ w (hw.fr (i:=2) rfl) ((nth r113.1 1).Channels) (nth (nth cs113_0_0 1) 1) (SlC.mono hd140_1 le20_21) [14] (.slice (some ⟨g141,0,none⟩) 1 1) hf21)) ?_;rintro _ _ ⟨rfl,rfl⟩;refine TL.run 2 rfl ?_;refine TL.nil ?_;refine K.pick [0,1,3,4,2] rfl (by decide) ?_;exact K.aj F21 le18_21 (.b (zdi (za8 (za8 (za8 h21 h22) h23) h24)) .nil) (List.Sublist.refl _)
              ·refine TL.run 8 rfl ?_;refine TL.nil ?_;refine K.pick [0,1,3,4,2] rfl (by decide) ?_;exact K.aj F20 le18_20 (.b (zaJ (za8 (za8 (za8 h21 h22) h23) h24)).symm .nil) (List.Sublist.refl _)
             ·have p23:=of_decide_eq_false h23;refine TL.run 16 rfl ?_;refine TL.nil ?_;refine K.pick [0,1,3,4,2] rfl (by decide) ?_;exact K.aj F18 (Frz.Le.refl _) (.b (zaJ (zaJ (za8 (za8 h21 h22) h23))).symm .nil) (List.Sublist.refl _)
            ·refine TL.run 21 rfl ?_;refine TL.nil ?_;refine K.pick [0,1,3,4,2] rfl (by decide) ?_;exact K.aj F18 (Frz.Le.refl _) (.b (zaJ (zaJ (zaJ (za8 h21 h22)))).symm .nil) (List.Sublist.refl _)
           ·have p21:=of_decide_eq_false h21;refine TL.run 25 rfl ?_;refine TL.nil ?_;refine K.pick [0,1,3,4,2] rfl (by decide) ?_;exact K.aj F18 (Frz.Le.refl _) (.b (zaJ (zaJ (zaJ (zaJ h21)))).symm .nil) (List.Sublist.refl _)
          ·rintro F19 le18_19; (try dsimp only at *);have hm125:r113.1.length≤9223372036854775807:=hf113_0_0.2.1▸hf113_0_0.1.max;refine T.ret ?_;obtain rfl:=Option.some.inj hk;exact K.ah rfl rfl (fun w' hw=>⟨rfl,hw.isBelow⟩)
  ·replace hk:=zaa hk h2;refine T.region ?_;refine TL.e (Ew.aS 2 rfl rfl rfl rfl (fun w hw hF=>zbt _ w hF )) ?_;rintro _ _ ⟨⟨v14_0_0,cs14_0_0,v14_0_1,v14_0_2,v14_0_3⟩,F22,le3_22,⟨hf14_0_0,hf14_0_1,hf14_0_2,hf14_0_3⟩,rfl,rfl⟩;dsimp only at hf14_0_0 hf14_0_1 hf14_0_2 hf14_0_3 ⊢;haveI:=hf14_0_0.1.oneC;haveI:=hf14_0_1.oneC;haveI:=hf14_0_2.oneC;haveI:=hf14_0_3.oneC;refine TL.y (Yv.field rfl rfl rfl) ?_;refine TL.y (Yv.bT (i:=2) rfl rfl rfl hf14_0_0.1 hf14_0_0.2.1 (show (2:Int)=((2:Nat):Int) from rfl) (by omega)) ?_;have hs16_:SlD GDomain.rep F22.toFrz (zcZ v14_0_0 0 2 2) 2 (cs14_0_0.take 2) (((zam).Domains).take 2):=hf14_0_0.sliceh (i:=2) (by omega);haveI:=hs16_.1.oneC;refine TL.y (Yv.build rfl rfl) ?_;refine TL.e (Ew.aH [2,0,1] [] [.row g10_n 92 ((((r10.1.getD default).domains).1.map U)++([.pointer (some ⟨k10_n_512.sp,0,none⟩),v10_n_513]:List Value)), .sl v10_n_513 31 1 ((r10.1.getD default).list).length c10_n_513.flatten] rfl rfl rfl rfl (by decide) (fun w hw hw2 hF=>(zbB _ w hF (GProblem.mk (((zam).Domains).take 2) (GRules.mk [] [] [])) (zcZ v14_0_0 0 2 2) (cs14_0_0.take 2) hs16_ (.slice none 0 0) (SlC.nil _ 5) (.slice none 0 0) (SlC.nil _ 5) (.slice none 0 0) (SlC.nil _ 4) (htk hw) fuel hfu r18 hr18).mono (fun e w' hp=>hp.2 h2))) ?_;rintro _ _ ⟨⟨⟩,F23,le22_23, -,rfl,rfl⟩;dsimp only [List.cons_append,List.nil_append];refine TL.run 5 rfl ?_;refine TL.ns (T.seq (T.seq ?_));refine T.al (ι:=Unit) (fun z=>[(1, .pointer (some ⟨g10_n,0,none⟩)),(3, .pointer none),(34, .bool true)]) (fun z=>[.row g10_n 92 ((((r10.1.getD default).domains).1.map U)++[.pointer (some ⟨k10_n_512.sp,0,none⟩),v10_n_513]), .sl v10_n_513 31 1 ((r10.1.getD default).list).length c10_n_513.flatten, .fr F23]) (fun z=>True) ?_ ?_
   ·refine T.region ?_;refine TL.run 1 rfl ?_;refine TL.y (Yv.ba (e:=92) (by kernel_rfl) rfl rfl rfl) ?_;refine TL.run 2 rfl ?_;refine TL.y (Yv.ba (e:=92) (by kernel_rfl) rfl rfl rfl) ?_;refine TL.run 9 rfl ?_;refine TL.nil ?_;refine K.pick [1,2,0] rfl (by decide) ?_;exact K.aj () trivial (.c (.c (.c .nil))) (List.Sublist.refl _)
   ·rintro _ _;refine T.aK rfl rfl ?_;refine T.sr ?_;refine TL.run 1 rfl ?_;refine TL.ns (T.ret (K.aa ?_));obtain rfl:=Option.some.inj hk;exact K.ah rfl rfl (fun w' hw=>⟨rfl,hw.isBelow⟩)
 ·replace hk:=zaa hk h1;refine T.region ?_;refine TL.e (Ew.aS 0 rfl rfl rfl rfl (fun w hw hF=>zbt _ w hF )) ?_;rintro _ _ ⟨⟨v9_0_0,cs9_0_0,v9_0_1,v9_0_2,v9_0_3⟩,F24,le1_24,⟨hf9_0_0,hf9_0_1,hf9_0_2,hf9_0_3⟩,rfl,rfl⟩;dsimp only at hf9_0_0 hf9_0_1 hf9_0_2 hf9_0_3 ⊢;haveI:=hf9_0_0.1.oneC;haveI:=hf9_0_1.oneC;haveI:=hf9_0_2.oneC;haveI:=hf9_0_3.oneC;refine TL.e (Ew.aH [0] [] [] rfl rfl rfl rfl (by decide) (fun w hw hw2 hF=>(zbB _ w hF (zam) v9_0_0 cs9_0_0 hf9_0_0 v9_0_1 hf9_0_1 v9_0_2 hf9_0_2 v9_0_3 hf9_0_3 (htk hw) fuel hfu r10 hr10).mono (fun e w' hp=>hp.2 h1))) ?_;rintro _ _ ⟨⟨⟩,F25,le24_25, -,rfl,rfl⟩;dsimp only [List.cons_append,List.nil_append];refine TL.run 5 rfl ?_;refine TL.ns (T.seq ?_);have hq:(0≤2∧2≤(((zam).Domains).length:Int))∧_:=zaE hk;clear hk;obtain ⟨g16h,hk⟩:=hq;have hq:=zal hk;clear hk;obtain ⟨r18,hr18,hk⟩:=hq; (try dsimp only at hk);refine T.bc ((r18.1).isSome) (fun h25=>?_) (fun h25=>?_)
  ·replace hk:=zab hk h25;refine T.region ?_;refine TL.e (Ew.aS 0 rfl rfl rfl rfl (fun w hw hF=>zbt _ w hF )) ?_;rintro _ _ ⟨⟨v14_0_0,cs14_0_0,v14_0_1,v14_0_2,v14_0_3⟩,F26,le25_26,⟨hf14_0_0,hf14_0_1,hf14_0_2,hf14_0_3⟩,rfl,rfl⟩;dsimp only at hf14_0_0 hf14_0_1 hf14_0_2 hf14_0_3 ⊢;haveI:=hf14_0_0.1.oneC;haveI:=hf14_0_1.oneC;haveI:=hf14_0_2.oneC;haveI:=hf14_0_3.oneC;refine TL.y (Yv.field rfl rfl rfl) ?_;refine TL.y (Yv.bT (i:=2) rfl rfl rfl hf14_0_0.1 hf14_0_0.2.1 (show (2:Int)=((2:Nat):Int) from rfl) (by omega)) ?_;have hs16_:SlD GDomain.rep F26.toFrz (zcZ v14_0_0 0 2 2) 2 (cs14_0_0.take 2) (((zam).Domains).take 2):=hf14_0_0.sliceh (i:=2) (by omega);haveI:=hs16_.1.oneC;refine TL.y (Yv.build rfl rfl) ?_;refine TL.e (Ew.aH [0] [] [] rfl rfl rfl rfl (by decide) (fun w hw hw2 hF=>(zbB _ w hF (GProblem.mk (((zam).Domains).take 2) (GRules.mk [] [] [])) (zcZ v14_0_0 0 2 2) (cs14_0_0.take 2) hs16_ (.slice none 0 0) (SlC.nil _ 5) (.slice none 0 0) (SlC.nil _ 5) (.slice none 0 0) (SlC.nil _ 4) (htk hw) fuel hfu r18 hr18).mono (fun e w' hp=>hp.1 h25))) ?_;rintro _ _ ⟨⟨g18_n,k18_n_512,v18_n_512,L18_n_512,v18_n_513,c18_n_513⟩,F27,le26_27,⟨hs18_n_512,tf18_n_512,zf18_n_512,ho18_n_513⟩,rfl,rfl⟩;dsimp only [List.cons_append,List.nil_append]; (try dsimp only at hs18_n_512 tf18_n_512 zf18_n_512 ho18_n_513);refine TL.aZ 1 rfl ?_;intro iv18_n_513 hmv18_n_513;refine TL.run 5 rfl ?_;refine TL.ns (T.seq (T.seq ?_));refine T.al (ι:=Unit) (fun z=>[(1, .pointer none),(3, .pointer (some ⟨g18_n,0,none⟩)),(34, .bool true)]) (fun z=>[.row g18_n 92 ((((r18.1.getD default).domains).1.map U)++[.pointer (some ⟨k18_n_512.sp,0,none⟩),v18_n_513]), .sl v18_n_513 31 1 ((r18.1.getD default).list).length c18_n_513.flatten, .fr F27]) (fun z=>True) ?_ ?_
   ·refine T.region ?_;refine TL.run 1 rfl ?_;refine TL.y (Yv.ba (e:=92) (by kernel_rfl) rfl rfl rfl) ?_;refine TL.run 12 rfl ?_;refine TL.nil ?_;exact K.aj () trivial (.c (.c (.c .nil))) (List.Sublist.refl _)
   ·rintro _ _;refine T.aK rfl rfl ?_;refine T.sr ?_;refine TL.run 1 rfl ?_;refine TL.ns (T.ret (K.aa ?_));obtain rfl:=Option.some.inj hk;exact K.ah rfl rfl (fun w' hw=>⟨rfl,hw.isBelow⟩)
  ·replace hk:=zaa hk h25;refine T.region ?_;refine TL.e (Ew.aS 0 rfl rfl rfl rfl (fun w hw hF=>zbt _ w hF )) ?_;rintro _ _ ⟨⟨v14_0_0,cs14_0_0,v14_0_1,v14_0_2,v14_0_3⟩,F28,le25_28,⟨hf14_0_0,hf14_0_1,hf14_0_2,hf14_0_3⟩,rfl,rfl⟩;dsimp only at hf14_0_0 hf14_0_1 hf14_0_2 hf14_0_3 ⊢;haveI:=hf14_0_0.1.oneC;haveI:=hf14_0_1.oneC;haveI:=hf14_0_2.oneC;haveI:=hf14_0_3.oneC;refine TL.y (Yv.field rfl rfl rfl) ?_;refine TL.y (Yv.bT (i:=2) rfl rfl rfl hf14_0_0.1 hf14_0_0.2.1 (show (2:Int)=((2:Nat):Int) from rfl) (by omega)) ?_;have hs16_:SlD GDomain.rep F28.toFrz (zcZ v14_0_0 0 2 2) 2 (cs14_0_0.take 2) (((zam).Domains).take 2):=hf14_0_0.sliceh (i:=2) (by omega);haveI:=hs16_.1.oneC;refine TL.y (Yv.build rfl rfl) ?_;refine TL.e (Ew.aH [0] [] [] rfl rfl rfl rfl (by decide) (fun w hw hw2 hF=>(zbB _ w hF (GProblem.mk (((zam).Domains).take 2) (GRules.mk [] [] [])) (zcZ v14_0_0 0 2 2) (cs14_0_0.take 2) hs16_ (.slice none 0 0) (SlC.nil _ 5) (.slice none 0 0) (SlC.nil _ 5) (.slice none 0 0) (SlC.nil _ 4) (htk hw) fuel hfu r18 hr18).mono (fun e w' hp=>hp.2 h25))) ?_;rintro _ _ ⟨⟨⟩,F29,le28_29, -,rfl,rfl⟩;dsimp only [List.cons_append,List.nil_append];refine TL.run 5 rfl ?_;refine TL.ns (T.seq (T.seq ?_));refine T.al (ι:=Unit) (fun z=>[(1, .pointer none),(3, .pointer none),(34, .bool true)]) (fun z=>[.fr F29]) (fun z=>True) ?_ ?_
   ·refine T.region ?_;refine TL.run 1 rfl ?_;refine TL.y (Yv.ba (e:=92) (by kernel_rfl) rfl rfl rfl) ?_;refine TL.run 12 rfl ?_;refine TL.nil ?_;exact K.aj () trivial (.c (.c (.c .nil))) (List.Sublist.refl _)
   ·rintro _ _;refine T.aK rfl rfl ?_;refine T.sr ?_;refine TL.run 1 rfl ?_;refine TL.ns (T.ret (K.aa ?_));obtain rfl:=Option.some.inj hk;exact K.ah rfl rfl (fun w' hw=>⟨rfl,hw.isBelow⟩)
theorem zkE (n:Nat):zbo (n+100000)=some true:=by kernel_rfl
theorem zjW {fuel:Nat}(hf:100000≤fuel):zbo fuel=some true:=by
 obtain ⟨n,rfl⟩:∃n,fuel=n+100000:=⟨fuel - 100000,by omega⟩;exact zkE n
section
variable {p:GProblem}{a:List GChoice}
end
structure Bor (F:Frz) (E:Ent) (w:World) (F':Frz):Prop where
 le:F.Le F'
 at_:F'.At w
 new:∀g,F'.S g→F.S g∨E.fp g
section
variable {B w:World}{M S0:Nat→Prop}{hs bs rest:HS}{F:FzB B M S0}{G:FzB B M S0}{F':Frz}
theorem Hp.bor {i j:Nat}{v:Value}{e:TypeId}{size k:Nat}{l:List Value}(hw:Hp B M hs w)(hi:hs[i]?=some (.fr F))(hj:hs[j]?=some (.sl v e size k l)):∃F':Frz,Bor F.toFrz (.sl v e size k l) w F'∧SlK F' v size k l:=by
 have hF:=hw.fr hi;have ho:=Ent.sl_ok.1 (hw.get hj);rcases ho.2 with ⟨rfl,h0⟩|⟨g,cap,cur,rfl,hb,hg,hnc,hcm,hcs,htake⟩
 ·subst h0;exact ⟨F.toFrz,⟨.refl _,hF,fun g h=> .inl h⟩,ho.1,none,0,rfl,Nat.le_refl _,by omega,fun h=>by omega⟩
 ·refine ⟨⟨fun k=>F.S k∨k=g,w,fun k hk=>?_⟩,⟨fun k hk=>⟨.inl hk,hF k hk⟩,fun k _=>rfl,fun k hk=>hk.imp id fun e=>Ent.sl_fp.2 (by rw [e];rfl)⟩,ho.1,_,cap,rfl,hnc,by unfold maxLen at hcm;omega,fun _=>⟨g,rfl, .inr rfl,fun q hq=>?_⟩⟩
  ·rcases hk with h|rfl
   ·exact hF.cb h
   ·exact ⟨_,_,_,hg⟩
  ·rw [Nat.zero_add,World.ownsRow.cellAt ho q (by rw [←ho.1];exact hq)]
theorem Hp.takesB {E:Ent}{j:Nat}(h:Hp B M (bs++ .fr G :: rest) w)(hj:rest[j]?=some E)(b:Bor G.toFrz E w F'):∀g,fps bs g→¬F'.S g:=fun g hg hS=>by
 rcases b.new g hS with h1|h1
 ·exact h.takes.2 g hg h1
 ·obtain ⟨e,he,h2⟩:=hg;exact (List.pairwise_append.1 h.apart).2.2 e he E (List.mem_cons_of_mem _ (List.mem_of_getElem? hj)) g h2 h1
end
theorem FxM.back {F F':Frz}{w w':World}{M:Nat→Prop}{es:HS}(h:FxM F' w M F' es w')(hle:F.Le F'):FxM F w M F es w':=
 ⟨.refl _,h.at_.le hle,h.hp,fun g hg=> .inl hg,fun e he g hg hS=>h.ap e he g hg (hle g hS).1⟩
theorem zfe {α:Type}[Inhabited α]{enc:α→List Value}{size:Nat}(he:∀x,(enc x).length=size):∀ {xs:List α} {i j p:Nat} {v:Value} {x:α},i<xs.length→j<size→p=i*size+j→(enc (nth xs i)).set j v=enc x→(xs.flatMap enc).set p v=(xs.set i x).flatMap enc
 |y :: r,0,j,p,v,x,_,hj,hp,h=>by
  (obtain rfl:p=j:=by omega);rw [List.flatMap_cons,List.set_append_left _ _ (by rw [he];exact hj),List.set_cons_zero,List.flatMap_cons];rw [←h];rfl
 |y :: r,i+1,j,p,v,x,hi,hj,hp,h=>by
  rw [List.flatMap_cons,List.set_append_right _ _ (by rw [he,hp,Nat.add_mul];omega),List.set_cons_succ,List.flatMap_cons];rw [zfe he (xs:=r) (i:=i) (j:=j) (x:=x) (by simpa using hi) hj (by rw [he,hp,Nat.add_mul];omega) (by rw [←h];rfl)]
theorem zeF {α:Type}{enc:α→List Value}{size:Nat}(he:∀x,(enc x).length=size):∀ {xs:List α} {i j p:Nat},i<xs.length→j<size→p=i*size+j→p<(xs.flatMap enc).length
 |y :: r,0,j,p,_,hj,hp=>by rw [List.flatMap_cons,List.length_append,he];omega
 |y :: r,i+1,j,p,hi,hj,hp=>by
  have:=zeF he (xs:=r) (i:=i) (j:=j) (p:=i*size+j) (by simpa using hi) hj rfl;rw [List.flatMap_cons,List.length_append,he];rw [hp,Nat.add_mul];omega
theorem ziA {α:Type}{enc:α→List Value}{xs:List α}(h:∀x,OneCs (enc x)):∀v∈xs.flatMap enc,v.oneCell'=true:=fun v hv=>by
 obtain ⟨x,_,hx⟩:=List.mem_flatMap.1 hv;exact (h x).h v hx
theorem ziv {α:Type}(xs ys:List α):xs.length+ys.length=(xs++ys).length:=(List.length_append ..).symm
theorem zgU {α:Type}{enc:α→List Value}(xs ys:List α):xs.flatMap enc++ys.flatMap enc=(xs++ys).flatMap enc:=(List.flatMap_append ..).symm
theorem zmy {α:Type}[Inhabited α]{xs:List α}{i:Nat}{x:α}(h:xs[i]?=some x):i<xs.length∧x=nth xs i:=by
 obtain ⟨hi,rfl⟩:=List.getElem?_eq_some_iff.1 h;exact ⟨hi,(zat hi).symm⟩
section
variable {P:Program}{n:Nat}{B D:World}{M:Nat→Prop}{fs:SFs}{hs:HS}{o:Oper}{v val sv:Value}
theorem Ew.bz (j : Nat) {t e : TypeId} [hT : TyS P t] {x y : Operand} {p k k' size : Nat} {l l' : List Value} {hs' : HS} [hv : OneC val] (ho : o.op = .store t x y) (hx : ev fs x = some (zes sv p)) (hy : ev fs y = some val)
    (hj : hs[j]? = some (.sl sv e size k l)) (hk : 0 < k) (hp : p < l.length) (hl : l.set p val = l') (hkk : k' = k) [hH : SetAt hs j (.sl sv e size k' l') hs'] : Ew P n B M fs hs o (fun v hs'' => v = undef ∧ hs'' = hs') := by
  subst hkk; exact Ew.ca j ho hx hy hj hk hp hl
theorem Ew.bK (i j : Nat) {s x : Operand} {t e e2 : TypeId} {size bytes m k k' : Nat} {z l l2 l' : List Value} {hs' : Value → HS} [hT : TyE P t e size bytes z] [hT2 : TySl P t e size] (h1 : ∀ v ∈ l2, v.oneCell' = true) (ho : o.op = .call { callee := .builtin .append, args := #[s, x], argTypes := #[t, t] })
    (hs1 : ev fs s = some sv) (hx : ev fs x = some v) (hi : hs[i]? = some (.sl sv e size k l)) (hj : hs[j]? = some (.sl v e2 size m l2)) (hk : k + m = k') (hl' : l ++ l2 = l') (hb : k' * bytes ≤ 140737488355328) (hbs : 0 < bytes)
    [hH : ∀ v', SetAt hs i (.sl v' e size k' l') (hs' v')] : Ew P n B M fs hs o (fun v hs'' => OneC v ∧ hs'' = hs' v) := fun F hF Q K a w ha hw => by
  have ho2 := Ent.sl_ok.1 (hw.get hj); have hl2 := ho2.1; rcases Nat.eq_zero_or_pos m with h0 | h0
  · subst h0; obtain rfl : l2 = [] := List.eq_nil_of_length_eq_zero (by omega)
    obtain ⟨A, c2, rfl⟩ : ∃ A c2, v = .slice A 0 c2 := by
      rcases ho2.2 with ⟨rfl, _⟩ | ⟨g, cap, cur, rfl, _⟩
      · exact ⟨_, _, rfl⟩
      · exact ⟨_, _, rfl⟩
    subst hk; rw [List.append_nil] at hl'; subst hl'; refine (Ew.aW fun a w ha hp => ?_ : Ew P n B M fs hs o (fun v hs'' => OneC v ∧ hs'' = hs' v)) F hF Q K a w ha hw; have ho' := Ent.sl_ok.1 (hp.get hi)
    obtain ⟨b, c, rfl, hc⟩ : ∃ b c, sv = .slice b k c ∧ k ≤ c := by
      rcases ho'.2 with ⟨rfl, h0⟩ | ⟨g, cap, cur, rfl, hb, hg, hnc, _⟩
      · exact ⟨none, 0, by rw [h0], by omega⟩
      · exact ⟨_, cap, rfl, hnc⟩
    refine ⟨.slice b k c, w, hs' (.slice b k c), ?_, Kp.refl w, ?_, ⟨rfl⟩, rfl⟩
    · unfold execOp; simp [ho, resolve, invoke, builtin, ha.ev hs1, ha.ev hx, zdt (P := P) (t := t) hc]
    · rw [← (hH _).h]; simp only [Nat.add_zero]; rw [zgn hi]; exact hp
  · obtain ⟨g, cap, rfl⟩ := hw.slAddr hj h0
    exact Ew.bw i (news := l2) h1 ho hs1 hx hi (fun w hw q hq => by
      have h3 := Ent.sl_ok.1 (hw.get hj)
      rw [Nat.zero_add, World.ownsRow.cellAt h3 q (by rw [← h3.1]; exact hq)]) hl2 hk hl' hb hbs F hF Q K a w ha hw
end
section
variable {P:Program}{n:Nat}{B D:World}{M:Nat→Prop}{fs:SFs}{hs:HS}{v v2:Value}
theorem T.aZ {Fe:Fence}[hFe:Calm Fe]{Q:Exit→Act→World→Prop}{c:Code}{e:TypeId}{size k:Nat}{cs:List Value}(j:Nat)(hj:hs[j]?=some (.sl v e size k cs))(h:OneC v→k≤9223372036854775807→T Fe P n B D M c Q fs hs):T Fe P n B D M c Q fs hs:=
 T.aX (ι:=Unit) (φ:=fun _=>OneC v∧k≤9223372036854775807) (hs':=fun _=>hs) (fun w hw=>⟨(),⟨zcG (hw.get hj),zcu (hw.get hj)⟩,hw⟩) (fun _ hx=>h hx.1 hx.2)
theorem K.cc (i j:Nat){fn:Func}{R:Ending→World→Prop}{t u t2 u2:TypeId}{s g s2 g2:Nat}{l l2:List Value}[hT:TyS P t][hT2:TyS P t2](hr:fn.results= #[.cell s t, .cell s2 t2])(hv:look fs s=some (.pointer (some ⟨g,0,none⟩)))(hv2:look fs s2=some (.pointer (some ⟨g2,0,none⟩)))(hi:hs[i]?=some (.row g u l))(hj:hs[j]?=some (.row g2 u2 l2))(hl:l[0]?=some v)(hl2:l2[0]?=some v2)(h:∀w,Hp B M hs w→R (.returned (.tuple #[v,v2])) w):K n B D M (zdA P fn R) .ret fs hs:=
 (K.bg (fun a w ha hw=>by
  have h1:=zeR (P:=P) (t:=t) (Ent.row_ok.1 (hw.get hi)) hl;have h2:=zeR (P:=P) (t:=t2) (Ent.row_ok.1 (hw.get hj)) hl2
  simp [results,hr,ha.get s _ hv,ha.get s2 _ hv2,asAddr,h1,h2]) h).1
end
def capV:Value→Value
 | .slice A n _=> .slice A n n
 |v=>v
instance {v:Value} [h:OneC v]:OneC (capV v):=⟨by
 cases v <;> first|rfl|exact h.h⟩
theorem Yv.cw {P:Program}{n:Nat}{B:World}{M:Nat→Prop}{fs:SFs}{hs:HS}{o:Oper}{sv:Value}(j:Nat){t e e2 k k2 m:Nat}{l:List Value}{x y z:Operand}[hT:TySl P t e k](ho:o.op= .slice t x none (some y) (some z))(hx:ev fs x=some sv)(hy:ev fs y=some (.int .i64 (m:Int)))(hz:ev fs z=some (.int .i64 (m:Int)))(hj:hs[j]?=some (.sl sv e2 k2 m l)):Yv P n B M fs hs o (capV sv):=fun a w ha hw=>by
 have hm:=zcu (hw.get hj)
 obtain ⟨A,c,rfl,hc⟩:∃A c,sv= .slice A m c∧m≤c:=by
  rcases (Ent.sl_ok.1 (hw.get hj)).2 with ⟨rfl,h0⟩|⟨g,cap,cur,rfl,hb,hg,hnc,_⟩
  ·exact ⟨none,0,by rw [h0],by omega⟩
  ·exact ⟨_,_,rfl,hnc⟩
 have hs:(Instr.slice t (.slice A m c) none (some (.int .i64 (m:Int))) (some (.int .i64 (m:Int)))).run P w=((sizeOf (P.elem t)).run P w).andThen fun s w=> .ok (sliced A 0 m m s) w:=by
  have e1:=run_sliceBound (P:=P) (w:=w) .i64 (m:Int);simp [Instr.slice,run_underlying hT.elem.1,Instr.sliceBounds,e1,sliced,hc]
 have e2:sliced A 0 m m k= .slice A m m:=by
  unfold sliced;by_cases h0:m=0
  ·subst h0;rfl
  ·rw [if_neg h0]
   cases A with
   |none=>rfl
   |some a=>cases a;simp [zc0];rfl
 unfold execOp;simp [ho,ha.ev hx,ha.ev hy,ha.ev hz,run_sliceAt_slice w t _ _ _ _ hT.elem.1,hs,hT.elem.2,e2,capV]
def AllA (i:Nat)(x:List GChoice)(vs:List Value)(gx:HS):Prop:=∃v,vs=[.int .i64 (i:Int),v]∧gx=[.sl v 50 2 x.length (x.flatMap GChoice.enc)]
theorem zjA {F : Frz} {B : World} {M : Nat → Prop} {gb : Nat} {v : Value} {cs : List (List Value)} {xs : List (List GChoice)} (hD : OwnD R_List_GChoice.rep F 1 cs xs) (hr : ∀ x ∈ xs, room x.length 16) :
    zh6 Tryz.prog 54 [.pointer (some ⟨gb, 0, none⟩)] AllA F.At xs [.row gb 30 [capV v], .sl v 31 1 xs.length cs.flatten] B M := by
  intro G Z l W g0 hk0 hy hG0 hp0; have hlc := hD.1
  obtain ⟨A, c, rfl, hA⟩ : ∃ A c, v = .slice A xs.length c ∧ (0 < xs.length → ∃ g, A = some ⟨g, 0, none⟩) := by
    rcases (Ent.sl_ok.1 (hp0.get (i := 1) rfl)).2 with ⟨rfl, h0⟩ | ⟨g, cap, cur, rfl, _⟩
    · exact ⟨none, 0, by rw [h0], fun h => by omega⟩
    · exact ⟨_, _, rfl, fun _ => ⟨g, rfl⟩⟩
  have hmx := zcu (hp0.get (i := 1) rfl); refine zgj (B := B) (M := M) Tryz.func54 rfl rfl rfl hp0 ?_; refine T.sr ?_; refine TL.y (Yv.ac 0 rfl rfl rfl rfl) ?_; refine TL.y (Yv.ax rfl rfl) ?_; refine TL.run 1 rfl ?_; refine TL.ns (T.block ?_); refine T.loop (ι := Nat × HS) (fun x => [(0, .func (.yield l) #[] #[]), (5, .slice A xs.length xs.length), (6, .int .i64 (xs.length : Int)), (7, .int .i64 (x.1 : Int))]) (fun x => [Ent.row gb 30 [capV (.slice A xs.length c)], Ent.sl (.slice A xs.length c) 31 1 xs.length cs.flatten] ++ x.2) (fun x => x.1 ≤ xs.length ∧ G x.1 x.2) (fun x => xs.length - x.1) (0, g0) ?_ ?_ ?_ ?_
  · exact ⟨Nat.zero_le _, hG0⟩
  · exact (by repeat (first | exact Sub.nil | refine Sub.cons rfl ?_ | (refine Sub.consI rfl (by omega) ?_)))
  · exact List.Sublist.refl _
  · rintro ⟨k, g⟩ ⟨hkn, hG⟩; dsimp only at hkn hG ⊢; refine T.sr ?_; refine TL.run 1 rfl ?_; refine TL.ns (T.seq ?_); refine T.cond rfl (fun h1 => ?_) (fun h1 => ?_)
    · have p1 := of_decide_eq_true h1; (have hk : k < xs.length := by omega); obtain ⟨ga, rfl⟩ := hA (by omega); have hrep := hD.2.2 k hk; have hS := (R_List_GChoice.c0 hrep).2; haveI := hS.oneC
      have hv : cs.flatten[0 + k * 1]? = some (nth (nth cs k) 0) := by
        rw [Nat.zero_add]; exact (zdr _ hD.2.1 k (by omega) 0 (by decide)).trans (R_List_GChoice.c0 hrep).1
      refine T.skip (K.seq (T.seq (T.block (T.sr ?_)))); refine TL.run 1 rfl ?_; refine TL.y (Yv.ai (i := k) rfl rfl rfl rfl hk) ?_; refine TL.y (Yv.aR 1 rfl rfl rfl hv) ?_; refine TL.run 2 rfl ?_; refine TL.nx ?_; refine TL.run 3 rfl ?_; refine TL.e (Ew.bh rfl rfl rfl (fun w hw => zeq F w (hk0 k g w hG hw) (nth xs k) _ hS (hr _ (zak hk)))) ?_; rintro v' _ ⟨_, _, rfl, rfl⟩; refine TL.bt (hs' := [Ent.row gb 30 [capV (.slice (some ⟨ga, 0, none⟩) xs.length c)], Ent.sl (.slice (some ⟨ga, 0, none⟩) xs.length c) 31 1 xs.length cs.flatten] ++ ([.sl v' 50 2 (nth xs k).length ((nth xs k).flatMap GChoice.enc)] ++ g)) ((List.Perm.swap _ _ _).trans ((List.Perm.swap _ _ _).cons _)) ?_; refine TL.yield (Φ := fun v hs' => (v = .bool true ∧ ∃ g', G (k + 1) g' ∧ hs' = [Ent.row gb 30 [capV (.slice (some ⟨ga, 0, none⟩) xs.length c)], Ent.sl (.slice (some ⟨ga, 0, none⟩) xs.length c) 31 1 xs.length cs.flatten] ++ g') ∨ (v = .bool false ∧ ∃ z, Z z ∧ hs' = [Ent.row gb 30 [capV (.slice (some ⟨ga, 0, none⟩) xs.length c)], Ent.sl (.slice (some ⟨ga, 0, none⟩) xs.length c) 31 1 xs.length cs.flatten] ++ z)) (Wt.none rfl) rfl rfl rfl rfl rfl (fun w hw => ?_) ?_
      · obtain ⟨fn, tmps, assign, body, h1, h2⟩ := hy k (nth xs k) [.int .i64 (k : Int), v'] _ g w (by rw [List.getElem?_eq_getElem hk, zat hk]) ⟨v', rfl, rfl⟩ hG hw; refine ⟨fn, tmps, assign, body, h1, h2.mono ?_⟩; rintro e w' ⟨hkp, ⟨rfl, g', q1, q2⟩ | ⟨rfl, z, q1, q2⟩⟩
        · exact ⟨hkp, _, _, rfl, q2, .inl ⟨rfl, g', q1, rfl⟩⟩
        · exact ⟨hkp, _, _, rfl, q2, .inr ⟨rfl, z, q1, rfl⟩⟩
      · rintro v hs' (⟨rfl, g', hG', rfl⟩ | ⟨rfl, z, hZ, rfl⟩)
        · refine TL.run 1 rfl ?_; refine TL.ns (T.aJ rfl rfl ?_); refine T.skip (K.ad (K.seq (T.region ?_))); refine TL.y (Yv.an rfl rfl rfl (by omega)) ?_; refine TL.run 1 rfl ?_; refine TL.nil ?_; exact K.next (k + 1, g') ⟨by dsimp only; omega, hG'⟩ (by dsimp only; omega) (by repeat (first | exact Sub.nil | refine Sub.cons rfl ?_ | (refine Sub.consI rfl (by omega) ?_))) (List.Sublist.refl _)
        · refine TL.run 1 rfl ?_; refine TL.ns (T.aK rfl rfl ?_); refine T.ret ?_
          repeat (first | refine K.ag ?_ | refine K.aa ?_)
          exact K.bV rfl (fun w' hw hkp => ⟨⟨_, rfl⟩, hkp, .inr ⟨z, hZ, hw⟩⟩)
    · have p1 := of_decide_eq_false h1; refine T.exit ?_
      repeat (first | refine K.ae ?_ | refine K.ab ?_)
      exact K.bW rfl (fun w' hw hkp => ⟨⟨_, rfl⟩, hkp, .inl ⟨g, by rw [show xs.length = k by omega]; exact hG, hw⟩⟩)
section
variable {n:Nat}{B:World}{M:Nat→Prop}{fs:SFs}{hs:HS}{o:Oper}
end
def zbA (x0_:GStore):Unit:=
 ()
theorem zcw (F0:Frz)(w:World)(hF0:F0.At w)(x0_:GStore)(g0_:Nat)(k0_512:SK)(v0_512:Value)(L0_512:Ws)(hs0_512:SI x0_.start.1 x0_.start.2 k0_512 L0_512)(tf0_512:TbF F0 k0_512)(zf0_512:SzF F0 k0_512 v0_512 L0_512 (!x0_.start.2.2))(v0_513:Value)(c0_513:List (List Value))(h0_513:OwnD R_List_GChoice.rep F0 1 c0_513 x0_.list)(hO:Hp w (fps [.row g0_ 92 ((x0_.domains.1.map U)++[.pointer (some ⟨k0_512.sp,0,none⟩),v0_513]), .sl v0_513 31 1 x0_.list.length c0_513.flatten]) [.row g0_ 92 ((x0_.domains.1.map U)++[.pointer (some ⟨k0_512.sp,0,none⟩),v0_513]), .sl v0_513 31 1 x0_.list.length c0_513.flatten] w)(hA:∀g,fps [.row g0_ 92 ((x0_.domains.1.map U)++[.pointer (some ⟨k0_512.sp,0,none⟩),v0_513]), .sl v0_513 31 1 x0_.list.length c0_513.flatten] g→¬F0.S g):Calls Tryz.prog 30 #[.pointer (some ⟨g0_,0,none⟩)] w fun e w'=>∃(y:Nat),True∧e= .returned (.func (.func 54) #[] #[.pointer (some ⟨y,0,none⟩)])∧FxM F0 w (fps [.row g0_ 92 ((x0_.domains.1.map U)++[.pointer (some ⟨k0_512.sp,0,none⟩),v0_513]), .sl v0_513 31 1 x0_.list.length c0_513.flatten]) F0 (.row y 30 [capV v0_513] :: [.row g0_ 92 ((x0_.domains.1.map U)++[.pointer (some ⟨k0_512.sp,0,none⟩),v0_513]), .sl v0_513 31 1 x0_.list.length c0_513.flatten]) w':=by
 obtain ⟨r,hk⟩:∃r,zbA x0_=r:=⟨_,rfl⟩;unfold zbA at hk;haveI:=zcG (hO.own (.sl v0_513 31 1 x0_.list.length c0_513.flatten) (by simp));have hmx0_513:=zcu (hO.own (.sl v0_513 31 1 x0_.list.length c0_513.flatten) (by simp));obtain ⟨S0,F1,rfl,hS0,hp0⟩:=zbz hF0 hO hA;refine zac (hs:=[.row g0_ 92 ((x0_.domains.1.map U)++[.pointer (some ⟨k0_512.sp,0,none⟩),v0_513]), .sl v0_513 31 1 x0_.list.length c0_513.flatten, .fr F1]) Tryz.func30 rfl rfl rfl hp0 ?_;refine T.sr ?_;refine TL.run 1 rfl ?_;refine TL.nx ?_;refine TL.e (Ew.alloc rfl) ?_;rintro _ _ ⟨g3,rfl,rfl⟩;refine TL.ns (T.seq (T.sr ?_));refine TL.run 1 rfl ?_;refine TL.e (Ew.aU [1,2,3,0] [.row g0_ 92 ((x0_.domains.1.map U)++([.pointer (some ⟨k0_512.sp,0,none⟩),v0_513]:List Value)), .sl v0_513 31 1 x0_.list.length c0_513.flatten] [.row g3 30 [(.slice none 0 0)]] rfl rfl rfl rfl (by decide) (fun w hw hw2 hF=>zau _ w hF x0_ g0_ k0_512 v0_512 L0_512 hs0_512 tf0_512 zf0_512 v0_513 c0_513 h0_513 hw2.takes.1 hw2.takes.2)) ?_;rintro _ _ ⟨⟨⟩, -,rfl,rfl⟩;dsimp only [List.cons_append,List.nil_append];refine TL.run 1 rfl ?_;refine TL.ns ?_;refine T.aK rfl rfl ?_;refine T.as (.still 0 (.still 1 (.still 2 (.still 3 (.still 4 (.still 5 (.still 6 (.still 7 (.still 8 (.still 9 (.still 10 (.still 11 (.still 12 (.still 13 (.still 14 (.eff 15 .done)))))))))))))))) [.row g0_ 92 ((x0_.domains.1.map U)++[.pointer (some ⟨k0_512.sp,0,none⟩),v0_513]), .sl v0_513 31 1 x0_.list.length c0_513.flatten, .fr F1] (by kernel_rfl) Sx ?_;refine TS.run 2 rfl ?_;refine TS.y rfl (Yv.fieldAddr rfl rfl) ?_;refine TS.y rfl (Yv.ac 0 rfl rfl rfl (zb8 (by omega) (zb2 Vec.len (show [.pointer (some ⟨k0_512.sp,0,none⟩),v0_513][1]?=some _ from rfl)))) ?_;refine TS.run 2 rfl ?_;refine TS.y rfl (Yv.fieldAddr rfl rfl) ?_;refine TS.y rfl (Yv.ac 0 rfl rfl rfl (zb8 (by omega) (zb2 Vec.len (show [.pointer (some ⟨k0_512.sp,0,none⟩),v0_513][1]?=some _ from rfl)))) ?_;refine TS.y rfl (Yv.bk 1 rfl rfl rfl) ?_;refine TS.run 2 rfl ?_;refine TS.y rfl (Yv.fieldAddr rfl rfl) ?_;refine TS.y rfl (Yv.ac 0 rfl rfl rfl (zb8 (by omega) (zb2 Vec.len (show [.pointer (some ⟨k0_512.sp,0,none⟩),v0_513][1]?=some _ from rfl)))) ?_;refine TS.y rfl (Yv.bk 1 rfl rfl rfl) ?_;refine TS.y rfl (Yv.cw 1 rfl rfl rfl rfl rfl) ?_;refine TS.eff ?_;refine TSo.aY rfl (Wt.none rfl) rfl (Ew.aE 3 rfl rfl rfl rfl (by simp)) ?_;rintro _ _ ⟨rfl,rfl⟩;refine ⟨(fun w hw=>hw.sub Sx),?_⟩;refine TS.done ?_;refine K.seq (T.sr ?_);refine TL.run 2 rfl ?_;refine TL.ns (T.ret ?_);subst hk;exact K.ah rfl rfl (fun w' hw=>⟨g3,trivial,rfl,FxM.of (hw.pick (idx:=[3,0,1,2]) rfl (by decide)) hS0 (Frz.Le.refl _)⟩)
end Go.Proofs.YtbpbhbkcahcdiaaGreatDoor
