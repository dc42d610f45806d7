/- Sb Yb Yc Cv Sc Lc Ga: shortened and put together by squeeze.py. -/
import Derived.Test.YtbpbhbkcahcdiaaGreatDoorQ07
set_option maxRecDepth 100000
set_option maxHeartbeats 4000000
set_option linter.unusedVariables false
set_option linter.unusedSectionVars false
set_option linter.unusedSimpArgs false
namespace Go.Proofs.YtbpbhbkcahcdiaaGreatDoor
open Go.RowKit
theorem zlj {w w':World}{es es' rest:HS}(h:(Ent.bag (es++rest)).ok w)(hk:Hp w (fps es) es' w'):Hp w (Ent.bag (es++rest)).fp [.bag (es'++rest)] w':=by
 obtain ⟨hok,hap⟩:=Ent.bag_ok.1 h;obtain ⟨a1,a2,a3⟩:=List.pairwise_append.1 hap;have hold:∀e∈rest,∀g,e.fp g→w'.heap[g]?=w.heap[g]?:=fun e he g hg=>hk.base g (e.lt (hok e (List.mem_append_right _ he)) g hg) (fun ⟨f,hf,hfg⟩=>a3 f hf e he g hfg hg);refine ⟨hk.os,hk.tape,hk.output,hk.size,fun k hk1 hk2=>hk.base k hk1 (fun ⟨e,he,hg⟩=>hk2 (Ent.bag_fp.2 ⟨e,List.mem_append_left _ he,hg⟩)),?_,?_,List.pairwise_singleton _ _⟩
 ·intro e he;simp at he;subst he;refine Ent.bag_ok.2 ⟨fun e he=>?_,List.pairwise_append.2 ⟨hk.apart,a2,fun e he f hf g hg hfg=>?_⟩⟩
  ·rcases List.mem_append.1 he with he|he
   ·exact hk.own e he
   ·exact e.loc (hold e he) (hok e (List.mem_append_right _ he))
  ·rcases hk.new e he g hg with ⟨x,hx,hxg⟩|hn
   ·exact a3 x hx f hf g hxg hfg
   ·have:=f.lt (hok f (List.mem_append_right _ hf)) g hfg;omega
 ·intro e he g hg;simp at he;subst he;obtain ⟨f,hf,hfg⟩:=Ent.bag_fp.1 hg;rcases List.mem_append.1 hf with hf|hf
  ·rcases hk.new f hf g hfg with ⟨x,hx,hxg⟩|hn
   ·exact .inl (Ent.bag_fp.2 ⟨x,List.mem_append_left _ hx,hxg⟩)
   ·exact .inr hn
  ·exact .inl (Ent.bag_fp.2 ⟨f,List.mem_append_right _ hf,hfg⟩)
theorem zhY {w w':World}{es:HS}(h:Hp w (fun _=>False) es w'):Hp w (fun _=>False) [.bag es] w':=
 ⟨h.os,h.tape,h.output,h.size,h.base,fun e he=>by simp at he;subst he;exact Ent.bag_ok.2 ⟨h.own,h.apart⟩,fun e he g hg=>by
  simp at he;subst he;obtain ⟨f,hf,hfg⟩:=Ent.bag_fp.1 hg
  exact h.new f hf g hfg,List.pairwise_singleton _ _⟩
theorem zeN {α:Type}{p q:α→Bool}:∀ {l:List α},(∀x∈l,p x=q x)→l.all p=l.all q
 | [],_=>rfl
 |x :: r,h=>by rw [List.all_cons,List.all_cons,h x (by simp),zeN (l:=r) (fun y hy=>h y (by simp [hy]))]
theorem zmI {Y:Tb}{L:Ws}:totG (gd Y L)≤Y.n*64:=by
 unfold totG gd;rw [List.map_map]
 have:∀l:List Nat,(l.map ((fun x:GDomain=>x.Channels.length)∘fun i=>(⟨nth Y.st i,(chansN (nth L i)).map fun j:Nat=>(j:Int)⟩:GDomain))).sum≤l.length*64:=by
  intro l
  induction l with
  |nil=>simp
  |cons i r ih=>
   have:=zhc (nth L i);simp only [List.map_cons,List.sum_cons,List.length_cons,Function.comp,List.length_map] at ih ⊢;omega
 have h:=this (List.range Y.n)
 rwa [List.length_range] at h
theorem zd2:∀(n a:Nat) (l:List Int),(∀q∈l,(a:Int)≤q∧q<(a:Int)+n)→l.Pairwise (· < ·)→l.Sublist ((List.range' a n).map fun j:Nat=>(j:Int))
 |0,a,l,h,_=>by
  cases l with
  |nil=>exact List.Sublist.refl _
  |cons q r=>have:=h q (by simp);omega
 |n+1,a,l,h,hp=>by
  rw [List.range'_succ,List.map_cons]
  cases l with
  |nil=>exact List.nil_sublist _
  |cons q r=>
   have hq:=h q (by simp);have hr:=List.pairwise_cons.1 hp;by_cases e:q=(a:Int)
   ·subst e;refine List.Sublist.cons_cons _ (zd2 n (a+1) r (fun x hx=>?_) hr.2);have h1:=h x (by simp [hx]);have h2:=hr.1 x hx;omega
   ·refine List.Sublist.cons _ (zd2 n (a+1) (q :: r) (fun x hx=>?_) hp);have h1:=h x hx;rcases List.mem_cons.1 hx with rfl|hx
    ·omega
    ·have h2:=hr.1 x hx;omega
theorem zlJ {l:List Int}(h:incB cmpI l=true):l.Pairwise (· < ·):=by
 unfold incB at h;rw [List.all_eq_true] at h
 have step:∀k,k+1<l.length→nth l k<nth l (k+1):=fun k hk=>by
  have:=h (k+1) (List.mem_range.2 hk);simp only [Bool.or_eq_true,decide_eq_true_eq,Bool.not_eq_true',decide_eq_false_iff_not,Nat.add_sub_cancel] at this;rcases this with h1|h1
  ·omega
  ·unfold cmpI at h1;split at h1
   ·assumption
   ·split at h1 <;> omega
 rw [List.pairwise_iff_getElem];intro i j hi hj hij
 have key:∀m,i+m+1<l.length→nth l i<nth l (i+m+1):=by
  intro m
  induction m with
  |zero=>intro h;exact step i h
  |succ m ih=>intro h;exact Int.lt_trans (ih (by omega)) (step (i+m+1) (by omega))
 have:=key (j - i - 1) (by omega);rw [show i+(j - i - 1)+1=j by omega,zat hi,zat hj] at this;exact this
theorem zkb {P:Pb}(hok:P.ok=true){i:Nat}(hi:i<P.ds.length):(nth P.ds i).chs.Sublist ((List.range' 0 64).map fun j:Nat=>(j:Int)):=by
 have hb:=((Pb.good hok).chs _ (zak hi)).2;refine zd2 64 0 _ (fun q hq=>by have:=hb q hq;omega) (zlJ ?_);simp only [Pb.ok,Bool.and_eq_true] at hok;have:=allB_mem.1 hok.1 _ (zak hi);simp only [Dx.ok,Bool.and_eq_true] at this;exact this.2.2
def GDomain.b (x:GDomain):Dx:=⟨x.Station, .slice none 0 0,x.Channels⟩
def pbG (p:GProblem):Pb:=⟨p.Domains.map GDomain.b,p.Rules.Pairs.map GPair.b,p.Rules.Loads.map GLoad.b,p.Rules.Caps.map GCap.b⟩
def okG (p:GProblem):Bool:=(pbG p).ok
theorem zmm (P:Pb):P.ok=okG P.er:=by
 have e1:(pbG P.er).ps=P.ps:=zdU (fun _=>rfl) P.ps;have e2:(pbG P.er).ls=P.ls:=zdU (fun _=>rfl) P.ls;have e3:(pbG P.er).cs=P.cs:=zdU (fun _=>rfl) P.cs
 have e4:(pbG P.er).ds=P.ds.map fun d=>⟨d.st, .slice none 0 0,d.chs⟩:=by
  show (P.ds.map Dx.er).map GDomain.b=_
  rw [List.map_map];rfl
 (have e5:(pbG P.er).ds.map (·.st)=P.ds.map (·.st):=by rw [e4,List.map_map];rfl); (have e6:(pbG P.er).has=P.has:=by funext i;unfold Pb.has;rw [e5]); (have hn:∀k,k<P.ds.length→nth (pbG P.er).ds k=⟨(nth P.ds k).st, .slice none 0 0,(nth P.ds k).chs⟩:=fun k hk=>by rw [e4,za0 hk]); (have hl:(pbG P.er).ds.length=P.ds.length:=by rw [e4,List.length_map])
 have e7:allB Dx.ok (pbG P.er).ds=allB Dx.ok P.ds:=by
  unfold allB;rw [hl];refine zeN fun k hk=>?_;rw [hn k (List.mem_range.1 hk)];rfl
 have e8:incB (fun a b=>cmpI a.st b.st) (pbG P.er).ds=incB (fun a b=>cmpI a.st b.st) P.ds:=by
  unfold incB;rw [hl];refine zeN fun k hk=>?_;have:=List.mem_range.1 hk;rw [hn k this,hn (k - 1) (by omega)]
 unfold okG Pb.ok Pb.rulesOk;rw [e1,e2,e3,e6,e7,e8]
theorem zlZ {P : Pb} {Y : Tb} (hok : P.ok = true) (hY : TbOf P Y) : gd Y P.left = P.er.Domains ∧ In51 P.left := by
  have hG := Pb.good hok; have hn := hY.n; have hb : ∀ i, i < P.ds.length → ∀ q ∈ (nth P.ds i).chs, 2 ≤ q ∧ q ≤ 51 := fun i hi => (hG.chs _ (zak hi)).2; (have hleft : ∀ i, i < P.ds.length → nth P.left i = zb5 (nth P.ds i).chs := fun i hi => by unfold Pb.left; rw [za0 hi]); constructor
  · refine zdg (by rw [zbf, hn]; simp [Pb.er]) fun i hi => ?_; rw [zbf] at hi; (have hi' : i < P.ds.length := by omega); rw [zbK hi, hleft i hi']
    show _ = nth (P.ds.map Dx.er) i
    rw [zaL hi', hY.nth_st hi]; unfold Dx.er
    congr 1
    -- the channels of the word are the channels
    refine zcO (l := (List.range' 0 64).map fun j : Nat => (j : Int)) (chansN_sub.map _) ?_ (zdJ List.nodup_range') (fun q => ?_)
    · exact zkb hok hi'
    · rw [mapI_mem]; constructor
      · rintro ⟨j, hj, rfl⟩; exact (zdL (fun c hc => by have := hb i hi' c hc; omega)).1 (chansN_mem.1 hj)
      · intro hq; have h2 := hb i hi' q hq; refine ⟨q.toNat, chansN_mem.2 ((zdL (fun c hc => by have := hb i hi' c hc; omega)).2 ?_), by omega⟩; rw [Int.toNat_of_nonneg (by omega)]; exact hq
  · intro i j hj; rcases Nat.lt_or_ge i P.ds.length with hi | hi
    · rw [hleft i hi] at hj; have := hb i hi _ ((zdL (fun c hc => by have := hb i hi c hc; omega)).1 hj); omega
    · unfold nth at hj; rw [List.getD_eq_getElem?_getD, List.getElem?_eq_none (by unfold Pb.left; rw [List.length_map]; exact hi)] at hj; have hj' : (0#64).getLsbD j = true := hj; rw [BitVec.getLsbD_zero] at hj'
      cases hj'
structure SK where
 sp:Nat
 gl:GL
 tp:Nat
 w0:World
 Y:Tb
abbrev stL (k:SK)(L:Ws)(b:Bool):HS:=[sRow k.sp k.gl k.tp k.Y.n b,zaT k.gl k.Y.n L,Ent.fz k.w0]
abbrev stE (k:SK)(L:Ws)(b:Bool):Ent:= .bag (stL k L b)
structure SI (p:GProblem) (m:List GDomain×Bool) (k:SK) (L:Ws):Prop where
 pb:∃P:Pb,P.er=p∧P.ok=true∧TbOf P k.Y
 tb:TablesAt k.w0 k.tp k.Y
 len:L.length=k.Y.n
 good:m.2=true→Closed k.Y L∧In51 L∧m.1=gd k.Y L
 bad:m.2=false→m.1=[]
theorem SI.of {P:Pb}{k:SK}{T L:Ws}{c:Bool}(hok:P.ok=true)(hY:TbOf P k.Y)(ht:TablesAt k.w0 k.tp k.Y)(hT:T.length=k.Y.n)(hb:In51 T)(hI:Is k.Y T L c){fuel:Nat}(hf:100000≤fuel){r:List GDomain×Bool}(hr:za2 fuel P.er (gd k.Y T)=some r):SI P.er r k L∧c= !r.2:=by
 have hG:=Pb.good hok;have hn:=hY.n;have h512:=hG.n
 obtain ⟨r',h1,h2⟩:=zdY (fuel:=fuel) (zmc hok) (zmG (Y:=k.Y) (L:=T) (by omega)) (by rw [zbf];omega) (by
  have:totG (gd k.Y T)≤k.Y.n*64:=zmI
  omega)
 rw [hr] at h1;obtain rfl:=Option.some.inj h1;have h3:=zlb hok hY hb hI.fin h2
 cases c with
 |true=>
  rw [if_pos rfl] at h3;subst h3;exact ⟨⟨⟨P,rfl,hok,hY⟩,ht,hI.len,(fun h=>by cases h),fun _=>rfl⟩,rfl⟩
 |false=>
  rw [if_neg (by simp)] at h3;subst h3;exact ⟨⟨⟨P,rfl,hok,hY⟩,ht,hI.len,fun _=>⟨hI.good rfl,hb.le hI.sub,rfl⟩,(fun h=>by cases h)⟩,rfl⟩
section
variable {F0:Frz}{w:World}
theorem zmL {vd vp vl vc : Value} {cd : List (List Value)} {p : GProblem} (hF0 : F0.At w) (h : PbF F0 vd cd vp vl vc p) (htab : Tab w) (hv : okG p = true) {fuel : Nat} (hf : 100000 ≤ fuel) {r : List GDomain × Bool} (hr : za2 fuel p p.Domains = some r) :
    Calls Tryz.prog 40 #[.agg [vd, vp, vl, vc].toArray] w fun e w' => ∃ y : SK × Ws, SI p r y.1 y.2 ∧ e = .returned (.tuple #[.pointer (some ⟨y.1.sp, 0, none⟩), .int .i64 0]) ∧ Hp w (fun _ => False) [stE y.1 y.2 (!r.2)] w' := by
  obtain ⟨P, rfl, hP⟩ := zka h hF0; (have hok : P.ok = true := by rw [zmm]; exact hv); refine (zmF P vd vp vl vc w hP htab hok).mono ?_; rintro e w' ⟨⟨sp, gl, tp, Y, L, c, w0⟩, hN, rfl, hw⟩; dsimp only at hN hw ⊢; have hI := hN.is (Pb.good hok); obtain ⟨h1, h2⟩ := zlZ hok hN.tb; rw [← h1] at hr; obtain ⟨h3, h4⟩ := SI.of (k := ⟨sp, gl, tp, w0, Y⟩) hok hN.tb hN.at' hI.tlen h2 hI hf hr; refine ⟨⟨⟨sp, gl, tp, w0, Y⟩, L⟩, h3, rfl, zhY ?_⟩
  show Hp w (fun _ => False) [sRow sp gl tp Y.n (!r.2), zaT gl Y.n L, Ent.fz w0] w'
  rw [hN.tb.n, ← h4]; exact hw
theorem zkq {vd vp vl vc : Value} {cd : List (List Value)} {p : GProblem} (hF0 : F0.At w) (h : PbF F0 vd cd vp vl vc p) (hv : okG p = false) :
    Calls Tryz.prog 40 #[.agg [vd, vp, vl, vc].toArray] w fun e w' => e = .returned (.tuple #[.pointer none, .int .i64 2]) ∧ Below w.heap.size w w' := by
  obtain ⟨P, rfl, hP⟩ := zka h hF0; exact zlT P vd vp vl vc w hP (by rw [zmm]; exact hv)
end
def zbr (r_:GRules):Option Bool:=
 (bif (((decide (4096<(r_.Pairs.length:Int)))||(decide (1024<(r_.Loads.length:Int))))||(decide (1024<(r_.Caps.length:Int)))) then
  some false
  else
  zax (fun (_:Unit)=>
   zax (fun (_:Unit)=>
    zax (fun (_:Unit)=>
     some true)
    (fun k32=>
     zai (fun (i_34:Nat) (next33:Unit→Option Bool) (_:Unit)=>
      zax (fun (x_36:Bool)=>
       (bif x_36 then
        some false
        else
        next33 ()))
      (fun k37=>
       (bif !(zaq ((nth r_.Caps i_34).Station)) then
        k37 true
        else
        (bif decide ((nth r_.Caps i_34).Max<0) then
         k37 true
         else
         (bif decide (1099511627776<(nth r_.Caps i_34).Max) then
          k37 true
          else
          (bif !(za4 ((nth r_.Caps i_34).Low) ((nth r_.Caps i_34).High)) then
           k37 true
           else
           (bif decide (0<(i_34:Int)) then
            (za9 (zaI (nth r_.Caps (((i_34:Int) - 1).toNat))) (zaI (nth r_.Caps i_34))).bind fun r200=>
            k37 (!r200)
            else
            k37 false)))))))
     (fun (_:Unit)=>
      k32 ()) (r_.Caps.length - 0) 0 ()))
   (fun k18=>
    zai (fun (i_20:Nat) (next19:Unit→Option Bool) (_:Unit)=>
     zax (fun (x_22:Bool)=>
      (bif x_22 then
       some false
       else
       next19 ()))
     (fun k23=>
      (bif !(zaq ((nth r_.Loads i_20).To)) then
       k23 true
       else
       (bif !(zaq ((nth r_.Loads i_20).From)) then
        k23 true
        else
        (bif decide ((nth r_.Loads i_20).To=(nth r_.Loads i_20).From) then
         k23 true
         else
         (bif decide ((nth r_.Loads i_20).Weight<1) then
          k23 true
          else
          (bif decide (1073741824<(nth r_.Loads i_20).Weight) then
           k23 true
           else
           (bif !(za4 ((nth r_.Loads i_20).Low) ((nth r_.Loads i_20).High)) then
            k23 true
            else
            (bif decide (0<(i_20:Int)) then
             (za9 (zaB (nth r_.Loads (((i_20:Int) - 1).toNat))) (zaB (nth r_.Loads i_20))).bind fun r149=>
             k23 (!r149)
             else
             k23 false)))))))))
    (fun (_:Unit)=>
     k18 ()) (r_.Loads.length - 0) 0 ()))
  (fun k4=>
   zai (fun (i_6:Nat) (next5:Unit→Option Bool) (_:Unit)=>
    zax (fun (x_8:Bool)=>
     (bif x_8 then
      some false
      else
      next5 ()))
    (fun k9=>
     (bif !(zaq ((nth r_.Pairs i_6).A)) then
      k9 true
      else
      (bif !(zaq ((nth r_.Pairs i_6).B)) then
       k9 true
       else
       (bif decide ((nth r_.Pairs i_6).B≤(nth r_.Pairs i_6).A) then
        k9 true
        else
        (bif decide ((nth r_.Pairs i_6).Offset<(-1)) then
         k9 true
         else
         (bif decide (1<(nth r_.Pairs i_6).Offset) then
          k9 true
          else
          (bif !(za4 ((nth r_.Pairs i_6).Low) ((nth r_.Pairs i_6).High)) then
           k9 true
           else
           (bif decide (0<(i_6:Int)) then
            (za9 (zaC (nth r_.Pairs (((i_6:Int) - 1).toNat))) (zaC (nth r_.Pairs i_6))).bind fun r85=>
            k9 (!r85)
            else
            k9 false)))))))))
   (fun (_:Unit)=>
    k4 ()) (r_.Pairs.length - 0) 0 ()))
theorem zez (F0:Frz)(w:World)(hF0:F0.At w)(r_:GRules)(vr__0:Value)(hr__0:SlC F0 vr__0 5 (r_.Pairs.map GPair.enc))(vr__1:Value)(hr__1:SlC F0 vr__1 5 (r_.Loads.map GLoad.enc))(vr__2:Value)(hr__2:SlC F0 vr__2 4 (r_.Caps.map GCap.enc))(r:Bool)(hr:zbr r_=some r):Calls Tryz.prog 35 #[.agg [vr__0,vr__1,vr__2].toArray] w fun e w'=>e= .returned (.bool r)∧Below w.heap.size w w':=by
 have hk:=hr;unfold zbr at hk;haveI:=hr__0.oneC;haveI:=hr__1.oneC;haveI:=hr__2.oneC;obtain ⟨S0,F1,rfl,hS0,hp0⟩:=zan hF0;refine zac Tryz.func35 rfl rfl rfl hp0 ?_;refine T.sr ?_;refine TL.e (Ew.aA rfl rfl) ?_;rintro _ _ ⟨g1,rfl,rfl⟩;refine TL.run 1 rfl ?_;refine TL.ns (T.seq (T.seq ?_));refine T.al (ι:=Unit) (fun z=>[(1, .pointer (some ⟨g1,0,none⟩)),(24, .bool (((decide (4096<(r_.Pairs.length:Int)))||(decide (1024<(r_.Loads.length:Int))))||(decide (1024<(r_.Caps.length:Int)))))]) (fun z=>[.row g1 27 [vr__0,vr__1,vr__2], .fr F1]) (fun z=>True) ?_ ?_
 ·refine T.region ?_;refine TL.y (Yv.fieldAddr rfl rfl) ?_;refine TL.y (Yv.ac 0 rfl rfl rfl rfl) ?_;refine TL.y (Yv.ar rfl rfl hr__0 (List.length_map _)) ?_;have hm11:r_.Pairs.length≤9223372036854775807:=(List.length_map _)▸hr__0.max;refine TL.run 2 rfl ?_;refine TL.gs rfl rfl rfl (fun h1=>?_) (fun h1=>?_)
  ·have p1:=of_decide_eq_true h1;refine TL.run 11 rfl ?_;refine TL.nil ?_;exact K.aj () trivial (.c (.b (zbN (zbN h1)).symm .nil)) (List.Sublist.refl _)
  ·have p1:=of_decide_eq_false h1;refine TL.y (Yv.fieldAddr rfl rfl) ?_;refine TL.y (Yv.ac 0 rfl rfl rfl rfl) ?_;refine TL.y (Yv.ar rfl rfl hr__1 (List.length_map _)) ?_;have hm16:r_.Loads.length≤9223372036854775807:=(List.length_map _)▸hr__1.max;refine TL.run 3 rfl ?_;refine TL.gs rfl rfl rfl (fun h2=>?_) (fun h2=>?_)
   ·have p2:=of_decide_eq_true h2;refine TL.run 5 rfl ?_;refine TL.nil ?_;exact K.aj () trivial (.c (.b (zbN (zcp h1 h2)).symm .nil)) (List.Sublist.refl _)
   ·have p2:=of_decide_eq_false h2;refine TL.y (Yv.fieldAddr rfl rfl) ?_;refine TL.y (Yv.ac 0 rfl rfl rfl rfl) ?_;refine TL.y (Yv.ar rfl rfl hr__2 (List.length_map _)) ?_;have hm22:r_.Caps.length≤9223372036854775807:=(List.length_map _)▸hr__2.max;refine TL.run 2 rfl ?_;refine TL.nil ?_;exact K.aj () trivial (.c (.b (or_f (zcp h1 h2)) .nil)) (List.Sublist.refl _)
 ·rintro _ _;have hm11:r_.Pairs.length≤9223372036854775807:=(List.length_map _)▸hr__0.max;have hm16:r_.Loads.length≤9223372036854775807:=(List.length_map _)▸hr__1.max;have hm22:r_.Caps.length≤9223372036854775807:=(List.length_map _)▸hr__2.max;refine T.cond rfl (fun h3=>?_) (fun h3=>?_)
  ·replace hk:=zab hk h3;refine T.sr ?_;refine TL.run 1 rfl ?_;refine TL.ns (T.ret (K.aa ?_));obtain rfl:=Option.some.inj hk;exact K.ah rfl rfl (fun w' hw=>⟨rfl,hw.isBelow⟩)
  ·have p3:=h3; (try simp only [nfB] at p3);replace hk:=zaa hk h3;refine T.skip (K.seq (T.seq (T.sr ?_)));refine TL.run 1 rfl ?_;refine TL.ns ?_;have hq:=zae hk;clear hk;obtain ⟨k4,hk4,hk⟩:=hq; (try dsimp only at hk);refine T.al (ι:=FzB w (fun _=>False) S0) (fun z=>[(1, .pointer (some ⟨g1,0,none⟩))]) (fun z=>[.row g1 27 [vr__0,vr__1,vr__2], .fr z]) (fun z=>k4 ()=some r∧F1.toFrz.Le z.toFrz) ?_ ?_
   ·have hq:=zaj hk;clear hk;obtain ⟨f5,kk5,hf5,hkk5,hk⟩:=hq;refine T.block ?_;refine T.loop (ι:=Nat×FzB w (fun _=>False) S0) (fun z=>[(1, .pointer (some ⟨g1,0,none⟩)),(3, .int .i64 (z.1:Int))]) (fun z=>[.row g1 27 [vr__0,vr__1,vr__2], .fr z.2]) (fun z=>zai f5 kk5 (r_.Pairs.length - z.1) z.1 ()=some r∧F1.toFrz.Le z.2.toFrz) (fun z=>r_.Pairs.length - z.1) (0,F1) ?_ ?_ ?_ ?_
    ·exact ⟨hk,(Frz.Le.refl _)⟩
    ·exact (.c (.c .nil))
    ·exact List.Sublist.refl _
    ·rintro ⟨i_6,F3⟩ ⟨hk,le1_3⟩; (try dsimp only at *);refine T.seq (T.sr ?_);refine TL.run 1 rfl ?_;refine TL.y (Yv.fieldAddr rfl rfl) ?_;refine TL.y (Yv.ac 0 rfl rfl rfl rfl) ?_;refine TL.y (Yv.ar rfl rfl (SlC.mono hr__0 le1_3) (List.length_map _)) ?_;refine TL.run 1 rfl ?_;refine TL.ns ?_;refine T.cond rfl (fun h7=>?_) (fun h7=>?_)
     ·have p7:=of_decide_eq_true h7;rw [zar (by omega)] at hk;generalize hn5:zai f5 kk5 (r_.Pairs.length - (i_6+1)) (i_6+1)=next5 at hk;rw [←hf5] at hk; (try dsimp only at hk);refine T.skip (K.seq (T.seq (T.block (T.sr ?_))));refine TL.y (Yv.fieldAddr rfl rfl) ?_;refine TL.y (Yv.ac 0 rfl rfl rfl rfl) ?_;refine TL.run 1 rfl ?_;refine TL.y (Yv.ao (i:=i_6) rfl rfl rfl (SlC.mono hr__0 le1_3) (List.length_map _) rfl (by omega)) ?_;refine TL.y (Yv.aI 1 (i:=i_6) rfl rfl rfl (SlC.mono hr__0 le1_3) (by omega) rfl rfl rfl) ?_;refine TL.e (Ew.alloc rfl) ?_;rintro _ _ ⟨g4,rfl,rfl⟩;refine TL.e0 (Ew.ak 0 rfl rfl rfl rfl rfl rfl) ?_;rintro _ _ ⟨rfl,rfl⟩;refine TL.ns (T.seq ?_); (try dsimp only at hk);have hq:=zae hk;clear hk;obtain ⟨k9,hk9,hk⟩:=hq; (try dsimp only at hk);refine T.al (ι:=Bool×FzB w (fun _=>False) S0) (fun z=>[(1, .pointer (some ⟨g1,0,none⟩)),(3, .int .i64 (i_6:Int)),(88, .bool z.1)]) (fun z=>[.row g1 27 [vr__0,vr__1,vr__2], .fr z.2]) (fun z=>k9 z.1=some r∧F3.toFrz.Le z.2.toFrz) ?_ ?_
      ·refine T.as (.still 0 (.still 1 (.eff 2 (.still 3 (.still 4 (.still 5 (.still 6 (.eff 7 (.still 8 (.still 9 (.still 10 (.still 11 (.still 12 (.still 13 (.still 14 (.still 15 (.still 16 (.still 17 (.still 18 (.still 19 (.still 20 (.still 21 (.still 22 (.still 23 (.still 24 (.still 25 (.still 26 (.still 27 (.still 28 (.still 29 (.still 30 (.still 31 (.eff 32 (.still 33 (.still 34 (.still 35 (.still 36 (.still 37 (.still 38 (.still 39 (.still 40 (.still 41 (.still 42 (.still 43 (.still 44 (.still 46 (.eff 45 (.eff 47 (.eff 48 (.still 49 (.still 50 (.still 51 .done)))))))))))))))))))))))))))))))))))))))))))))))))))) _ (by kernel_rfl) (List.Sublist.refl _) ?_;refine TS.y rfl (Yv.fieldAddr rfl rfl) ?_;refine TS.y rfl (Yv.ac 0 rfl rfl rfl rfl) ?_;refine TS.eff ?_;refine TSo.aD rfl (Wt.none rfl) rfl rfl (Ew.af rfl rfl rfl (fun w hw=>zbh _ w (hw.fr (i:=2) rfl) ((nth r_.Pairs i_6).A))) ?_;rintro _ _ ⟨rfl,rfl⟩;refine ⟨(fun w hw=>hw.sub Sx),?_⟩;refine TS.run 2 rfl ?_;refine TS.gs rfl rfl rfl rfl (fun h10=>?_) (fun h10=>?_)
       ·replace hk:=zab hk h10;refine TS.run 2 rfl ?_;refine TS.eff ?_;refine TSo.off rfl (Wt.not rfl rfl rfl rfl) rfl rfl ?_;refine TS.run 24 rfl ?_;refine TS.eff ?_;refine TSo.off rfl (Wt.not rfl rfl rfl rfl) rfl rfl ?_;refine TS.run 13 rfl ?_;refine TS.eff ?_;refine TSo.off rfl (Wt.undef rfl rfl rfl) rfl rfl ?_;refine TS.eff ?_;refine TSo.off rfl (Wt.undef rfl rfl rfl) rfl rfl ?_;refine TS.eff ?_;refine TSo.off rfl (Wt.undef rfl rfl rfl) rfl rfl ?_;refine TS.run 3 rfl ?_;refine TS.done ?_;refine K.pick [1,2] rfl (by decide) ?_;exact K.aj (true,F3) ⟨hk,(Frz.Le.refl _)⟩ (.c (.c (.c .nil))) (List.Sublist.refl _)
       ·replace hk:=zaa hk h10;refine TS.y rfl (Yv.fieldAddr rfl rfl) ?_;refine TS.y rfl (Yv.ac 0 rfl rfl rfl rfl) ?_;refine TS.eff ?_;refine TSo.aD rfl (Wt.some rfl rfl rfl rfl) rfl rfl (Ew.af rfl rfl rfl (fun w hw=>zbh _ w (hw.fr (i:=2) rfl) ((nth r_.Pairs i_6).B))) ?_;rintro _ _ ⟨rfl,rfl⟩;refine ⟨(fun w hw=>hw.sub Sx),?_⟩;refine TS.run 3 rfl ?_;refine TS.gs rfl rfl rfl rfl (fun h11=>?_) (fun h11=>?_)
        ·replace hk:=zab hk h11;refine TS.run 21 rfl ?_;refine TS.eff ?_;refine TSo.off rfl (Wt.not rfl rfl rfl rfl) rfl rfl ?_;refine TS.run 13 rfl ?_;refine TS.eff ?_;refine TSo.off rfl (Wt.undef rfl rfl rfl) rfl rfl ?_;refine TS.eff ?_;refine TSo.off rfl (Wt.undef rfl rfl rfl) rfl rfl ?_;refine TS.eff ?_;refine TSo.off rfl (Wt.undef rfl rfl rfl) rfl rfl ?_;refine TS.run 3 rfl ?_;refine TS.done ?_;refine K.pick [1,2] rfl (by decide) ?_;exact K.aj (true,F3) ⟨hk,(Frz.Le.refl _)⟩ (.c (.c (.c .nil))) (List.Sublist.refl _)
        ·replace hk:=zaa hk h11;refine TS.y rfl (Yv.fieldAddr rfl rfl) ?_;refine TS.y rfl (Yv.ac 0 rfl rfl rfl rfl) ?_;refine TS.y rfl (Yv.fieldAddr rfl rfl) ?_;refine TS.y rfl (Yv.ac 0 rfl rfl rfl rfl) ?_;refine TS.run 3 rfl ?_;refine TS.gs rfl rfl rfl rfl (fun h12=>?_) (fun h12=>?_)
         ·have p12:=of_decide_eq_true h12;replace hk:=zab hk h12;refine TS.run 14 rfl ?_;refine TS.eff ?_;refine TSo.off rfl (Wt.not rfl rfl rfl rfl) rfl rfl ?_;refine TS.run 13 rfl ?_;refine TS.eff ?_;refine TSo.off rfl (Wt.undef rfl rfl rfl) rfl rfl ?_;refine TS.eff ?_;refine TSo.off rfl (Wt.undef rfl rfl rfl) rfl rfl ?_;refine TS.eff ?_;refine TSo.off rfl (Wt.undef rfl rfl rfl) rfl rfl ?_;refine TS.run 3 rfl ?_;refine TS.done ?_;refine K.pick [1,2] rfl (by decide) ?_;exact K.aj (true,F3) ⟨hk,(Frz.Le.refl _)⟩ (.c (.c (.c .nil))) (List.Sublist.refl _)
         ·have p12:=of_decide_eq_false h12;replace hk:=zaa hk h12;refine TS.y rfl (Yv.fieldAddr rfl rfl) ?_;refine TS.y rfl (Yv.ac 0 rfl rfl rfl rfl) ?_;refine TS.run 3 rfl ?_;refine TS.gs rfl rfl rfl rfl (fun h13=>?_) (fun h13=>?_)
          ·have p13:=of_decide_eq_true h13;replace hk:=zab hk h13;refine TS.run 9 rfl ?_;refine TS.eff ?_;refine TSo.off rfl (Wt.not rfl rfl rfl rfl) rfl rfl ?_;refine TS.run 13 rfl ?_;refine TS.eff ?_;refine TSo.off rfl (Wt.undef rfl rfl rfl) rfl rfl ?_;refine TS.eff ?_;refine TSo.off rfl (Wt.undef rfl rfl rfl) rfl rfl ?_;refine TS.eff ?_;refine TSo.off rfl (Wt.undef rfl rfl rfl) rfl rfl ?_;refine TS.run 3 rfl ?_;refine TS.done ?_;refine K.pick [1,2] rfl (by decide) ?_;exact K.aj (true,F3) ⟨hk,(Frz.Le.refl _)⟩ (.c (.c (.c .nil))) (List.Sublist.refl _)
          ·have p13:=of_decide_eq_false h13;replace hk:=zaa hk h13;refine TS.y rfl (Yv.fieldAddr rfl rfl) ?_;refine TS.y rfl (Yv.ac 0 rfl rfl rfl rfl) ?_;refine TS.run 3 rfl ?_;refine TS.gs rfl rfl rfl rfl (fun h14=>?_) (fun h14=>?_)
           ·have p14:=of_decide_eq_true h14;replace hk:=zab hk h14;refine TS.run 4 rfl ?_;refine TS.eff ?_;refine TSo.off rfl (Wt.not rfl rfl rfl rfl) rfl rfl ?_;refine TS.run 13 rfl ?_;refine TS.eff ?_;refine TSo.off rfl (Wt.undef rfl rfl rfl) rfl rfl ?_;refine TS.eff ?_;refine TSo.off rfl (Wt.undef rfl rfl rfl) rfl rfl ?_;refine TS.eff ?_;refine TSo.off rfl (Wt.undef rfl rfl rfl) rfl rfl ?_;refine TS.run 3 rfl ?_;refine TS.done ?_;refine K.pick [1,2] rfl (by decide) ?_;exact K.aj (true,F3) ⟨hk,(Frz.Le.refl _)⟩ (.c (.c (.c .nil))) (List.Sublist.refl _)
           ·have p14:=of_decide_eq_false h14;replace hk:=zaa hk h14;refine TS.y rfl (Yv.fieldAddr rfl rfl) ?_;refine TS.y rfl (Yv.ac 0 rfl rfl rfl rfl) ?_;refine TS.y rfl (Yv.fieldAddr rfl rfl) ?_;refine TS.y rfl (Yv.ac 0 rfl rfl rfl rfl) ?_;refine TS.eff ?_;refine TSo.aD rfl (Wt.some rfl rfl rfl rfl) rfl rfl (Ew.af rfl rfl rfl (fun w hw=>zdH _ w (hw.fr (i:=2) rfl) ((nth r_.Pairs i_6).Low) ((nth r_.Pairs i_6).High))) ?_;rintro _ _ ⟨rfl,rfl⟩;refine ⟨(fun w hw=>hw.sub Sx),?_⟩;refine TS.run 3 rfl ?_;refine TS.gs rfl rfl rfl rfl (fun h15=>?_) (fun h15=>?_)
            ·replace hk:=zab hk h15;refine TS.run 10 rfl ?_;refine TS.eff ?_;refine TSo.off rfl (Wt.undef rfl rfl rfl) rfl rfl ?_;refine TS.eff ?_;refine TSo.off rfl (Wt.undef rfl rfl rfl) rfl rfl ?_;refine TS.eff ?_;refine TSo.off rfl (Wt.undef rfl rfl rfl) rfl rfl ?_;refine TS.run 3 rfl ?_;refine TS.done ?_;refine K.pick [1,2] rfl (by decide) ?_;exact K.aj (true,F3) ⟨hk,(Frz.Le.refl _)⟩ (.c (.c (.c .nil))) (List.Sublist.refl _)
            ·replace hk:=zaa hk h15;refine TS.run 3 rfl ?_;refine TS.gs rfl rfl rfl rfl (fun h16=>?_) (fun h16=>?_)
             ·have p16:=of_decide_eq_true h16;replace hk:=zab hk h16;refine TS.y rfl (Yv.fieldAddr rfl rfl) ?_;refine TS.y rfl (Yv.ac 1 rfl rfl rfl rfl) ?_;refine TS.run 1 rfl ?_;refine TS.y rfl (Yv.aP rfl rfl rfl (by omega)) ?_;refine TS.y rfl (Yv.ao (i:=((i_6:Int) - 1).toNat) rfl rfl rfl (SlC.mono hr__0 le1_3) (List.length_map _) (by omega) (by omega)) ?_;refine TS.y rfl (Yv.aI 2 (i:=((i_6:Int) - 1).toNat) rfl rfl rfl (SlC.mono hr__0 le1_3) (by omega) rfl rfl rfl) ?_;refine TS.y rfl (Yv.am 0 rfl rfl rfl rfl) ?_;refine TS.eff ?_;refine TSo.aD rfl (Wt.some rfl rfl rfl rfl) rfl rfl (Ew.aS 2 rfl rfl rfl rfl (fun w hw hF=>zdT _ w hF (nth r_.Pairs (((i_6:Int) - 1).toNat)))) ?_;rintro _ _ ⟨v82_0_0,F5,le3_5,hf82_0_0,hq,rfl⟩;obtain rfl:=hq.symm;haveI:=hf82_0_0.oneC;refine ⟨(fun w hw=>(hw.frLe (i:=2) rfl le3_5).sub Sx),?_⟩;refine TS.eff ?_;refine TSo.aD rfl (Wt.some rfl rfl rfl rfl) rfl rfl (Ew.aS 2 rfl rfl rfl rfl (fun w hw hF=>zdT _ w hF (nth r_.Pairs i_6))) ?_;rintro _ _ ⟨v84_0_0,F6,le5_6,hf84_0_0,hq,rfl⟩;obtain rfl:=hq.symm;have le3_6:=le3_5.trans le5_6;haveI:=hf84_0_0.oneC;refine ⟨(fun w hw=>(hw.frLe (i:=2) rfl le3_6).sub Sx),?_⟩;refine TS.eff ?_;have hq:=zal hk;clear hk;obtain ⟨r85,hr85,hk⟩:=hq;refine TSo.aD rfl (Wt.some rfl rfl rfl rfl) rfl rfl (Ew.af rfl rfl rfl (fun w hw=>zdB _ w (hw.fr (i:=2) rfl) (zaC (nth r_.Pairs (((i_6:Int) - 1).toNat))) v82_0_0 (SlC.mono hf82_0_0 le5_6) (zaC (nth r_.Pairs i_6)) v84_0_0 hf84_0_0 r85 hr85)) ?_;rintro _ _ ⟨rfl,rfl⟩;refine ⟨(fun w hw=>(hw.frLe (i:=2) rfl le3_6).sub Sx),?_⟩;refine TS.run 3 rfl ?_;refine TS.done ?_;refine K.pick [1,2] rfl (by decide) ?_;exact K.aj (!r85,F6) ⟨hk,le3_6⟩ (.c (.c (.c .nil))) (List.Sublist.refl _)
             ·have p16:=of_decide_eq_false h16;replace hk:=zaa hk h16;refine TS.run 7 rfl ?_;refine TS.eff ?_;refine TSo.off rfl (Wt.not rfl rfl rfl rfl) rfl rfl ?_;refine TS.eff ?_;refine TSo.off rfl (Wt.not rfl rfl rfl rfl) rfl rfl ?_;refine TS.eff ?_;refine TSo.off rfl (Wt.not rfl rfl rfl rfl) rfl rfl ?_;refine TS.run 3 rfl ?_;refine TS.done ?_;refine K.pick [1,2] rfl (by decide) ?_;exact K.aj (false,F3) ⟨hk,(Frz.Le.refl _)⟩ (.c (.c (.c .nil))) (List.Sublist.refl _)
      ·rintro ⟨x_8,F4⟩ ⟨hk,le3_4⟩; (try dsimp only at *);rw [←hk9] at hk; (try dsimp only at hk);have le1_4:=le1_3.trans le3_4;refine T.cond rfl (fun h17=>?_) (fun h17=>?_)
       ·replace hk:=zab hk h17;refine T.sr ?_;refine TL.run 1 rfl ?_;refine TL.ns (T.ret (K.ag (K.aa (K.aa (K.ag (K.aa ?_))))));obtain rfl:=Option.some.inj hk;exact K.ah rfl rfl (fun w' hw=>⟨rfl,hw.isBelow⟩)
       ·replace hk:=zaa hk h17;refine T.skip (K.ad (K.seq (T.region ?_)));refine TL.run 1 rfl ?_;refine TL.y (Yv.an rfl rfl rfl (by omega)) ?_;refine TL.run 1 rfl ?_;refine TL.nil ?_;rw [←hn5] at hk;exact K.next ((i_6+1),F4) ⟨hk,le1_4⟩ (by dsimp only;omega) (.c (.c .nil)) (List.Sublist.refl _)
     ·have p7:=of_decide_eq_false h7;rw [zas (by omega),←hkk5] at hk; (try dsimp only at hk);refine T.exit (K.ab (K.ab (K.ae ?_)));exact K.aj F3 ⟨hk,le1_3⟩ (.c .nil) (List.Sublist.refl _)
   ·rintro F2 ⟨hk,le1_2⟩;rw [←hk4] at hk; (try dsimp only at hk);refine T.seq (T.sr ?_);refine TL.run 1 rfl ?_;refine TL.ns ?_;have hq:=zae hk;clear hk;obtain ⟨k18,hk18,hk⟩:=hq; (try dsimp only at hk);refine T.al (ι:=FzB w (fun _=>False) S0) (fun z=>[(1, .pointer (some ⟨g1,0,none⟩))]) (fun z=>[.row g1 27 [vr__0,vr__1,vr__2], .fr z]) (fun z=>k18 ()=some r∧F2.toFrz.Le z.toFrz) ?_ ?_
    ·have hq:=zaj hk;clear hk;obtain ⟨f19,kk19,hf19,hkk19,hk⟩:=hq;refine T.block ?_;refine T.loop (ι:=Nat×FzB w (fun _=>False) S0) (fun z=>[(1, .pointer (some ⟨g1,0,none⟩)),(5, .int .i64 (z.1:Int))]) (fun z=>[.row g1 27 [vr__0,vr__1,vr__2], .fr z.2]) (fun z=>zai f19 kk19 (r_.Loads.length - z.1) z.1 ()=some r∧F2.toFrz.Le z.2.toFrz) (fun z=>r_.Loads.length - z.1) (0,F2) ?_ ?_ ?_ ?_
     ·exact ⟨hk,(Frz.Le.refl _)⟩
     ·exact (.c (.c .nil))
     ·exact List.Sublist.refl _
     ·rintro ⟨i_20,F8⟩ ⟨hk,le2_8⟩; (try dsimp only at *);have le1_8:=le1_2.trans le2_8;refine T.seq (T.sr ?_);refine TL.run 1 rfl ?_;refine TL.y (Yv.fieldAddr rfl rfl) ?_;refine TL.y (Yv.ac 0 rfl rfl rfl rfl) ?_;refine TL.y (Yv.ar rfl rfl (SlC.mono hr__1 le1_8) (List.length_map _)) ?_;refine TL.run 1 rfl ?_;refine TL.ns ?_;refine T.cond rfl (fun h21=>?_) (fun h21=>?_)
      ·have p21:=of_decide_eq_true h21;rw [zar (by omega)] at hk;generalize hn19:zai f19 kk19 (r_.Loads.length - (i_20+1)) (i_20+1)=next19 at hk;rw [←hf19] at hk; (try dsimp only at hk);refine T.skip (K.seq (T.seq (T.block (T.sr ?_))));refine TL.y (Yv.fieldAddr rfl rfl) ?_;refine TL.y (Yv.ac 0 rfl rfl rfl rfl) ?_;refine TL.run 1 rfl ?_;refine TL.y (Yv.ao (i:=i_20) rfl rfl rfl (SlC.mono hr__1 le1_8) (List.length_map _) rfl (by omega)) ?_;refine TL.y (Yv.aI 1 (i:=i_20) rfl rfl rfl (SlC.mono hr__1 le1_8) (by omega) rfl rfl rfl) ?_;refine TL.e (Ew.alloc rfl) ?_;rintro _ _ ⟨g6,rfl,rfl⟩;refine TL.e0 (Ew.ak 0 rfl rfl rfl rfl rfl rfl) ?_;rintro _ _ ⟨rfl,rfl⟩;refine TL.ns (T.seq ?_); (try dsimp only at hk);have hq:=zae hk;clear hk;obtain ⟨k23,hk23,hk⟩:=hq; (try dsimp only at hk);refine T.al (ι:=Bool×FzB w (fun _=>False) S0) (fun z=>[(1, .pointer (some ⟨g1,0,none⟩)),(5, .int .i64 (i_20:Int)),(152, .bool z.1)]) (fun z=>[.row g1 27 [vr__0,vr__1,vr__2], .fr z.2]) (fun z=>k23 z.1=some r∧F8.toFrz.Le z.2.toFrz) ?_ ?_
       ·refine T.as (.still 0 (.still 1 (.eff 2 (.still 3 (.still 4 (.still 5 (.still 6 (.eff 7 (.still 8 (.still 9 (.still 10 (.still 11 (.still 12 (.still 13 (.still 14 (.still 15 (.still 16 (.still 17 (.still 18 (.still 19 (.still 20 (.still 21 (.still 22 (.still 23 (.still 24 (.still 25 (.still 26 (.still 27 (.still 28 (.still 29 (.still 30 (.still 31 (.eff 32 (.still 33 (.still 34 (.still 35 (.still 36 (.still 37 (.still 38 (.still 39 (.still 40 (.still 41 (.still 42 (.still 43 (.still 44 (.still 46 (.eff 45 (.eff 47 (.eff 48 (.still 49 (.still 50 (.still 51 .done)))))))))))))))))))))))))))))))))))))))))))))))))))) _ (by kernel_rfl) (List.Sublist.refl _) ?_;refine TS.y rfl (Yv.fieldAddr rfl rfl) ?_;refine TS.y rfl (Yv.ac 0 rfl rfl rfl rfl) ?_;refine TS.eff ?_;refine TSo.aD rfl (Wt.none rfl) rfl rfl (Ew.af rfl rfl rfl (fun w hw=>zbh _ w (hw.fr (i:=2) rfl) ((nth r_.Loads i_20).To))) ?_;rintro _ _ ⟨rfl,rfl⟩;refine ⟨(fun w hw=>hw.sub Sx),?_⟩;refine TS.run 2 rfl ?_;refine TS.gs rfl rfl rfl rfl (fun h24=>?_) (fun h24=>?_)
        ·replace hk:=zab hk h24;refine TS.run 2 rfl ?_;refine TS.eff ?_;refine TSo.off rfl (Wt.not rfl rfl rfl rfl) rfl rfl ?_;refine TS.run 24 rfl ?_;refine TS.eff ?_;refine TSo.off rfl (Wt.not rfl rfl rfl rfl) rfl rfl ?_;refine TS.run 13 rfl ?_;refine TS.eff ?_;refine TSo.off rfl (Wt.undef rfl rfl rfl) rfl rfl ?_;refine TS.eff ?_;refine TSo.off rfl (Wt.undef rfl rfl rfl) rfl rfl ?_;refine TS.eff ?_;refine TSo.off rfl (Wt.undef rfl rfl rfl) rfl rfl ?_;refine TS.run 3 rfl ?_;refine TS.done ?_;refine K.pick [1,2] rfl (by decide) ?_;exact K.aj (true,F8) ⟨hk,(Frz.Le.refl _)⟩ (.c (.c (.c .nil))) (List.Sublist.refl _)
        ·replace hk:=zaa hk h24;refine TS.y rfl (Yv.fieldAddr rfl rfl) ?_;refine TS.y rfl (Yv.ac 0 rfl rfl rfl rfl) ?_;refine TS.eff ?_;refine TSo.aD rfl (Wt.some rfl rfl rfl rfl) rfl rfl (Ew.af rfl rfl rfl (fun w hw=>zbh _ w (hw.fr (i:=2) rfl) ((nth r_.Loads i_20).From))) ?_;rintro _ _ ⟨rfl,rfl⟩;refine ⟨(fun w hw=>hw.sub Sx),?_⟩;refine TS.run 3 rfl ?_;refine TS.gs rfl rfl rfl rfl (fun h25=>?_) (fun h25=>?_)
         ·replace hk:=zab hk h25;refine TS.run 21 rfl ?_;refine TS.eff ?_;refine TSo.off rfl (Wt.not rfl rfl rfl rfl) rfl rfl ?_;refine TS.run 13 rfl ?_;refine TS.eff ?_;refine TSo.off rfl (Wt.undef rfl rfl rfl) rfl rfl ?_;refine TS.eff ?_;refine TSo.off rfl (Wt.undef rfl rfl rfl) rfl rfl ?_;refine TS.eff ?_;refine TSo.off rfl (Wt.undef rfl rfl rfl) rfl rfl ?_;refine TS.run 3 rfl ?_;refine TS.done ?_;refine K.pick [1,2] rfl (by decide) ?_;exact K.aj (true,F8) ⟨hk,(Frz.Le.refl _)⟩ (.c (.c (.c .nil))) (List.Sublist.refl _)
         ·replace hk:=zaa hk h25;refine TS.y rfl (Yv.fieldAddr rfl rfl) ?_;refine TS.y rfl (Yv.ac 0 rfl rfl rfl rfl) ?_;refine TS.y rfl (Yv.fieldAddr rfl rfl) ?_;refine TS.y rfl (Yv.ac 0 rfl rfl rfl rfl) ?_;refine TS.run 3 rfl ?_;refine TS.gs rfl rfl rfl rfl (fun h26=>?_) (fun h26=>?_)
          ·have p26:=of_decide_eq_true h26;replace hk:=zab hk h26;refine TS.run 14 rfl ?_;refine TS.eff ?_;refine TSo.off rfl (Wt.not rfl rfl rfl rfl) rfl rfl ?_;refine TS.run 13 rfl ?_;refine TS.eff ?_;refine TSo.off rfl (Wt.undef rfl rfl rfl) rfl rfl ?_;refine TS.eff ?_;refine TSo.off rfl (Wt.undef rfl rfl rfl) rfl rfl ?_;refine TS.eff ?_;refine TSo.off rfl (Wt.undef rfl rfl rfl) rfl rfl ?_;refine TS.run 3 rfl ?_;refine TS.done ?_;refine K.pick [1,2] rfl (by decide) ?_;exact K.aj (true,F8) ⟨hk,(Frz.Le.refl _)⟩ (.c (.c (.c .nil))) (List.Sublist.refl _)
          ·have p26:=of_decide_eq_false h26;replace hk:=zaa hk h26;refine TS.y rfl (Yv.fieldAddr rfl rfl) ?_;refine TS.y rfl (Yv.ac 0 rfl rfl rfl rfl) ?_;refine TS.run 3 rfl ?_;refine TS.gs rfl rfl rfl rfl (fun h27=>?_) (fun h27=>?_)
           ·have p27:=of_decide_eq_true h27;replace hk:=zab hk h27;refine TS.run 9 rfl ?_;refine TS.eff ?_;refine TSo.off rfl (Wt.not rfl rfl rfl rfl) rfl rfl ?_;refine TS.run 13 rfl ?_;refine TS.eff ?_;refine TSo.off rfl (Wt.undef rfl rfl rfl) rfl rfl ?_;refine TS.eff ?_;refine TSo.off rfl (Wt.undef rfl rfl rfl) rfl rfl ?_;refine TS.eff ?_;refine TSo.off rfl (Wt.undef rfl rfl rfl) rfl rfl ?_;refine TS.run 3 rfl ?_;refine TS.done ?_;refine K.pick [1,2] rfl (by decide) ?_;exact K.aj (true,F8) ⟨hk,(Frz.Le.refl _)⟩ (.c (.c (.c .nil))) (List.Sublist.refl _)
           ·have p27:=of_decide_eq_false h27;replace hk:=zaa hk h27;refine TS.y rfl (Yv.fieldAddr rfl rfl) ?_;refine TS.y rfl (Yv.ac 0 rfl rfl rfl rfl) ?_;refine TS.run 3 rfl ?_;refine TS.gs rfl rfl rfl rfl (fun h28=>?_) (fun h28=>?_)
            ·have p28:=of_decide_eq_true h28;replace hk:=zab hk h28;refine TS.run 4 rfl ?_;refine TS.eff ?_;refine TSo.off rfl (Wt.not rfl rfl rfl rfl) rfl rfl ?_;refine TS.run 13 rfl ?_;refine TS.eff ?_;refine TSo.off rfl (Wt.undef rfl rfl rfl) rfl rfl ?_;refine TS.eff ?_;refine TSo.off rfl (Wt.undef rfl rfl rfl) rfl rfl ?_;refine TS.eff ?_;refine TSo.off rfl (Wt.undef rfl rfl rfl) rfl rfl ?_;refine TS.run 3 rfl ?_;refine TS.done ?_;refine K.pick [1,2] rfl (by decide) ?_;exact K.aj (true,F8) ⟨hk,(Frz.Le.refl _)⟩ (.c (.c (.c .nil))) (List.Sublist.refl _)
            ·have p28:=of_decide_eq_false h28;replace hk:=zaa hk h28;refine TS.y rfl (Yv.fieldAddr rfl rfl) ?_;refine TS.y rfl (Yv.ac 0 rfl rfl rfl rfl) ?_;refine TS.y rfl (Yv.fieldAddr rfl rfl) ?_;refine TS.y rfl (Yv.ac 0 rfl rfl rfl rfl) ?_;refine TS.eff ?_;refine TSo.aD rfl (Wt.some rfl rfl rfl rfl) rfl rfl (Ew.af rfl rfl rfl (fun w hw=>zdH _ w (hw.fr (i:=2) rfl) ((nth r_.Loads i_20).Low) ((nth r_.Loads i_20).High))) ?_;rintro _ _ ⟨rfl,rfl⟩;refine ⟨(fun w hw=>hw.sub Sx),?_⟩;refine TS.run 3 rfl ?_;refine TS.gs rfl rfl rfl rfl (fun h29=>?_) (fun h29=>?_)
             ·replace hk:=zab hk h29;refine TS.run 10 rfl ?_;refine TS.eff ?_;refine TSo.off rfl (Wt.undef rfl rfl rfl) rfl rfl ?_;refine TS.eff ?_;refine TSo.off rfl (Wt.undef rfl rfl rfl) rfl rfl ?_;refine TS.eff ?_;refine TSo.off rfl (Wt.undef rfl rfl rfl) rfl rfl ?_;refine TS.run 3 rfl ?_;refine TS.done ?_;refine K.pick [1,2] rfl (by decide) ?_;exact K.aj (true,F8) ⟨hk,(Frz.Le.refl _)⟩ (.c (.c (.c .nil))) (List.Sublist.refl _)
             ·replace hk:=zaa hk h29;refine TS.run 3 rfl ?_;refine TS.gs rfl rfl rfl rfl (fun h30=>?_) (fun h30=>?_)
              ·have p30:=of_decide_eq_true h30;replace hk:=zab hk h30;refine TS.y rfl (Yv.fieldAddr rfl rfl) ?_;refine TS.y rfl (Yv.ac 1 rfl rfl rfl rfl) ?_;refine TS.run 1 rfl ?_;refine TS.y rfl (Yv.aP rfl rfl rfl (by omega)) ?_;refine TS.y rfl (Yv.ao (i:=((i_20:Int) - 1).toNat) rfl rfl rfl (SlC.mono hr__1 le1_8) (List.length_map _) (by omega) (by omega)) ?_;refine TS.y rfl (Yv.aI 2 (i:=((i_20:Int) - 1).toNat) rfl rfl rfl (SlC.mono hr__1 le1_8) (by omega) rfl rfl rfl) ?_;refine TS.y rfl (Yv.am 0 rfl rfl rfl rfl) ?_;refine TS.eff ?_;refine TSo.aD rfl (Wt.some rfl rfl rfl rfl) rfl rfl (Ew.aS 2 rfl rfl rfl rfl (fun w hw hF=>zdR _ w hF (nth r_.Loads (((i_20:Int) - 1).toNat)))) ?_;rintro _ _ ⟨v146_0_0,F10,le8_10,hf146_0_0,hq,rfl⟩;obtain rfl:=hq.symm;haveI:=hf146_0_0.oneC;refine ⟨(fun w hw=>(hw.frLe (i:=2) rfl le8_10).sub Sx),?_⟩;refine TS.eff ?_;refine TSo.aD rfl (Wt.some rfl rfl rfl rfl) rfl rfl (Ew.aS 2 rfl rfl rfl rfl (fun w hw hF=>zdR _ w hF (nth r_.Loads i_20))) ?_;rintro _ _ ⟨v148_0_0,F11,le10_11,hf148_0_0,hq,rfl⟩;obtain rfl:=hq.symm;have le8_11:=le8_10.trans le10_11;haveI:=hf148_0_0.oneC;refine ⟨(fun w hw=>(hw.frLe (i:=2) rfl le8_11).sub Sx),?_⟩;refine TS.eff ?_;have hq:=zal hk;clear hk;obtain ⟨r149,hr149,hk⟩:=hq;refine TSo.aD rfl (Wt.some rfl rfl rfl rfl) rfl rfl (Ew.af rfl rfl rfl (fun w hw=>zdB _ w (hw.fr (i:=2) rfl) (zaB (nth r_.Loads (((i_20:Int) - 1).toNat))) v146_0_0 (SlC.mono hf146_0_0 le10_11) (zaB (nth r_.Loads i_20)) v148_0_0 hf148_0_0 r149 hr149)) ?_;rintro _ _ ⟨rfl,rfl⟩;refine ⟨(fun w hw=>(hw.frLe (i:=2) rfl le8_11).sub Sx),?_⟩;refine TS.run 3 rfl ?_;refine TS.done ?_;refine K.pick [1,2] rfl (by decide) ?_;exact K.aj (!r149,F11) ⟨hk,le8_11⟩ (.c (.c (.c .nil))) (List.Sublist.refl _)
              ·have p30:=of_decide_eq_false h30;replace hk:=zaa hk h30;refine TS.run 7 rfl ?_;refine TS.eff ?_;refine TSo.off rfl (Wt.not rfl rfl rfl rfl) rfl rfl ?_;refine TS.eff ?_;refine TSo.off rfl (Wt.not rfl rfl rfl rfl) rfl rfl ?_;refine TS.eff ?_;refine TSo.off rfl (Wt.not rfl rfl rfl rfl) rfl rfl ?_;refine TS.run 3 rfl ?_;refine TS.done ?_;refine K.pick [1,2] rfl (by decide) ?_;exact K.aj (false,F8) ⟨hk,(Frz.Le.refl _)⟩ (.c (.c (.c .nil))) (List.Sublist.refl _)
       ·rintro ⟨x_22,F9⟩ ⟨hk,le8_9⟩; (try dsimp only at *);rw [←hk23] at hk; (try dsimp only at hk);have le2_9:=le2_8.trans le8_9;refine T.cond rfl (fun h31=>?_) (fun h31=>?_)
        ·replace hk:=zab hk h31;refine T.sr ?_;refine TL.run 1 rfl ?_;refine TL.ns (T.ret (K.ag (K.aa (K.aa (K.ag (K.aa ?_))))));obtain rfl:=Option.some.inj hk;exact K.ah rfl rfl (fun w' hw=>⟨rfl,hw.isBelow⟩)
        ·replace hk:=zaa hk h31;refine T.skip (K.ad (K.seq (T.region ?_)));refine TL.run 1 rfl ?_;refine TL.y (Yv.an rfl rfl rfl (by omega)) ?_;refine TL.run 1 rfl ?_;refine TL.nil ?_;rw [←hn19] at hk;exact K.next ((i_20+1),F9) ⟨hk,le2_9⟩ (by dsimp only;omega) (.c (.c .nil)) (List.Sublist.refl _)
      ·have p21:=of_decide_eq_false h21;rw [zas (by omega),←hkk19] at hk; (try dsimp only at hk);refine T.exit (K.ab (K.ab (K.ae ?_)));exact K.aj F8 ⟨hk,le2_8⟩ (.c .nil) (List.Sublist.refl _)
    ·rintro F7 ⟨hk,le2_7⟩;rw [←hk18] at hk; (try dsimp only at hk);have le1_7:=le1_2.trans le2_7;refine T.seq (T.sr ?_);refine TL.run 1 rfl ?_;refine TL.ns ?_;have hq:=zae hk;clear hk;obtain ⟨k32,hk32,hk⟩:=hq; (try dsimp only at hk);refine T.al (ι:=FzB w (fun _=>False) S0) (fun z=>[]) (fun z=>[.fr z]) (fun z=>k32 ()=some r∧F7.toFrz.Le z.toFrz) ?_ ?_
     ·have hq:=zaj hk;clear hk;obtain ⟨f33,kk33,hf33,hkk33,hk⟩:=hq;refine T.block ?_;refine T.loop (ι:=Nat×FzB w (fun _=>False) S0) (fun z=>[(1, .pointer (some ⟨g1,0,none⟩)),(7, .int .i64 (z.1:Int))]) (fun z=>[.row g1 27 [vr__0,vr__1,vr__2], .fr z.2]) (fun z=>zai f33 kk33 (r_.Caps.length - z.1) z.1 ()=some r∧F7.toFrz.Le z.2.toFrz) (fun z=>r_.Caps.length - z.1) (0,F7) ?_ ?_ ?_ ?_
      ·exact ⟨hk,(Frz.Le.refl _)⟩
      ·exact (.c (.c .nil))
      ·exact List.Sublist.refl _
      ·rintro ⟨i_34,F13⟩ ⟨hk,le7_13⟩; (try dsimp only at *);have le1_13:=le1_7.trans le7_13;refine T.seq (T.sr ?_);refine TL.run 1 rfl ?_;refine TL.y (Yv.fieldAddr rfl rfl) ?_;refine TL.y (Yv.ac 0 rfl rfl rfl rfl) ?_;refine TL.y (Yv.ar rfl rfl (SlC.mono hr__2 le1_13) (List.length_map _)) ?_;refine TL.run 1 rfl ?_;refine TL.ns ?_;refine T.cond rfl (fun h35=>?_) (fun h35=>?_)
       ·have p35:=of_decide_eq_true h35;rw [zar (by omega)] at hk;generalize hn33:zai f33 kk33 (r_.Caps.length - (i_34+1)) (i_34+1)=next33 at hk;rw [←hf33] at hk; (try dsimp only at hk);refine T.skip (K.seq (T.seq (T.block (T.sr ?_))));refine TL.y (Yv.fieldAddr rfl rfl) ?_;refine TL.y (Yv.ac 0 rfl rfl rfl rfl) ?_;refine TL.run 1 rfl ?_;refine TL.y (Yv.ao (i:=i_34) rfl rfl rfl (SlC.mono hr__2 le1_13) (List.length_map _) rfl (by omega)) ?_;refine TL.y (Yv.aI 1 (i:=i_34) rfl rfl rfl (SlC.mono hr__2 le1_13) (by omega) rfl rfl rfl) ?_;refine TL.e (Ew.alloc rfl) ?_;rintro _ _ ⟨g8,rfl,rfl⟩;refine TL.e0 (Ew.ak 0 rfl rfl rfl rfl rfl rfl) ?_;rintro _ _ ⟨rfl,rfl⟩;refine TL.ns (T.seq ?_); (try dsimp only at hk);have hq:=zae hk;clear hk;obtain ⟨k37,hk37,hk⟩:=hq; (try dsimp only at hk);refine T.al (ι:=Bool×FzB w (fun _=>False) S0) (fun z=>[(1, .pointer (some ⟨g1,0,none⟩)),(7, .int .i64 (i_34:Int)),(203, .bool z.1)]) (fun z=>[.row g1 27 [vr__0,vr__1,vr__2], .fr z.2]) (fun z=>k37 z.1=some r∧F13.toFrz.Le z.2.toFrz) ?_ ?_
        ·refine T.as (.still 0 (.still 1 (.eff 2 (.still 3 (.still 4 (.still 5 (.still 6 (.still 7 (.still 8 (.still 9 (.still 10 (.still 11 (.still 12 (.still 13 (.still 14 (.still 15 (.still 16 (.still 17 (.still 18 (.eff 19 (.still 20 (.still 21 (.still 22 (.still 23 (.still 24 (.still 25 (.still 26 (.still 27 (.still 28 (.still 29 (.still 30 (.still 31 (.still 33 (.eff 32 (.eff 34 (.eff 35 (.still 36 (.still 37 (.still 38 .done))))))))))))))))))))))))))))))))))))))) _ (by kernel_rfl) (List.Sublist.refl _) ?_;refine TS.y rfl (Yv.fieldAddr rfl rfl) ?_;refine TS.y rfl (Yv.ac 0 rfl rfl rfl rfl) ?_;refine TS.eff ?_;refine TSo.aD rfl (Wt.none rfl) rfl rfl (Ew.af rfl rfl rfl (fun w hw=>zbh _ w (hw.fr (i:=2) rfl) ((nth r_.Caps i_34).Station))) ?_;rintro _ _ ⟨rfl,rfl⟩;refine ⟨(fun w hw=>hw.sub Sx),?_⟩;refine TS.run 2 rfl ?_;refine TS.gs rfl rfl rfl rfl (fun h38=>?_) (fun h38=>?_)
         ·replace hk:=zab hk h38;refine TS.run 14 rfl ?_;refine TS.eff ?_;refine TSo.off rfl (Wt.not rfl rfl rfl rfl) rfl rfl ?_;refine TS.run 13 rfl ?_;refine TS.eff ?_;refine TSo.off rfl (Wt.undef rfl rfl rfl) rfl rfl ?_;refine TS.eff ?_;refine TSo.off rfl (Wt.undef rfl rfl rfl) rfl rfl ?_;refine TS.eff ?_;refine TSo.off rfl (Wt.undef rfl rfl rfl) rfl rfl ?_;refine TS.run 3 rfl ?_;refine TS.done ?_;refine K.pick [1,2] rfl (by decide) ?_;exact K.aj (true,F13) ⟨hk,(Frz.Le.refl _)⟩ (.c (.c (.c .nil))) (List.Sublist.refl _)
         ·replace hk:=zaa hk h38;refine TS.y rfl (Yv.fieldAddr rfl rfl) ?_;refine TS.y rfl (Yv.ac 0 rfl rfl rfl rfl) ?_;refine TS.run 3 rfl ?_;refine TS.gs rfl rfl rfl rfl (fun h39=>?_) (fun h39=>?_)
          ·have p39:=of_decide_eq_true h39;replace hk:=zab hk h39;refine TS.run 9 rfl ?_;refine TS.eff ?_;refine TSo.off rfl (Wt.not rfl rfl rfl rfl) rfl rfl ?_;refine TS.run 13 rfl ?_;refine TS.eff ?_;refine TSo.off rfl (Wt.undef rfl rfl rfl) rfl rfl ?_;refine TS.eff ?_;refine TSo.off rfl (Wt.undef rfl rfl rfl) rfl rfl ?_;refine TS.eff ?_;refine TSo.off rfl (Wt.undef rfl rfl rfl) rfl rfl ?_;refine TS.run 3 rfl ?_;refine TS.done ?_;refine K.pick [1,2] rfl (by decide) ?_;exact K.aj (true,F13) ⟨hk,(Frz.Le.refl _)⟩ (.c (.c (.c .nil))) (List.Sublist.refl _)
          ·have p39:=of_decide_eq_false h39;replace hk:=zaa hk h39;refine TS.y rfl (Yv.fieldAddr rfl rfl) ?_;refine TS.y rfl (Yv.ac 0 rfl rfl rfl rfl) ?_;refine TS.run 3 rfl ?_;refine TS.gs rfl rfl rfl rfl (fun h40=>?_) (fun h40=>?_)
           ·have p40:=of_decide_eq_true h40;replace hk:=zab hk h40;refine TS.run 4 rfl ?_;refine TS.eff ?_;refine TSo.off rfl (Wt.not rfl rfl rfl rfl) rfl rfl ?_;refine TS.run 13 rfl ?_;refine TS.eff ?_;refine TSo.off rfl (Wt.undef rfl rfl rfl) rfl rfl ?_;refine TS.eff ?_;refine TSo.off rfl (Wt.undef rfl rfl rfl) rfl rfl ?_;refine TS.eff ?_;refine TSo.off rfl (Wt.undef rfl rfl rfl) rfl rfl ?_;refine TS.run 3 rfl ?_;refine TS.done ?_;refine K.pick [1,2] rfl (by decide) ?_;exact K.aj (true,F13) ⟨hk,(Frz.Le.refl _)⟩ (.c (.c (.c .nil))) (List.Sublist.refl _)
           ·have p40:=of_decide_eq_false h40;replace hk:=zaa hk h40;refine TS.y rfl (Yv.fieldAddr rfl rfl) ?_;refine TS.y rfl (Yv.ac 0 rfl rfl rfl rfl) ?_;refine TS.y rfl (Yv.fieldAddr rfl rfl) ?_;refine TS.y rfl (Yv.ac 0 rfl rfl rfl rfl) ?_;refine TS.eff ?_;refine TSo.aD rfl (Wt.some rfl rfl rfl rfl) rfl rfl (Ew.af rfl rfl rfl (fun w hw=>zdH _ w (hw.fr (i:=2) rfl) ((nth r_.Caps i_34).Low) ((nth r_.Caps i_34).High))) ?_;rintro _ _ ⟨rfl,rfl⟩;refine ⟨(fun w hw=>hw.sub Sx),?_⟩;refine TS.run 3 rfl ?_;refine TS.gs rfl rfl rfl rfl (fun h41=>?_) (fun h41=>?_)
            ·replace hk:=zab hk h41;refine TS.run 10 rfl ?_;refine TS.eff ?_;refine TSo.off rfl (Wt.undef rfl rfl rfl) rfl rfl ?_;refine TS.eff ?_;refine TSo.off rfl (Wt.undef rfl rfl rfl) rfl rfl ?_;refine TS.eff ?_;refine TSo.off rfl (Wt.undef rfl rfl rfl) rfl rfl ?_;refine TS.run 3 rfl ?_;refine TS.done ?_;refine K.pick [1,2] rfl (by decide) ?_;exact K.aj (true,F13) ⟨hk,(Frz.Le.refl _)⟩ (.c (.c (.c .nil))) (List.Sublist.refl _)
            ·replace hk:=zaa hk h41;refine TS.run 3 rfl ?_;refine TS.gs rfl rfl rfl rfl (fun h42=>?_) (fun h42=>?_)
             ·have p42:=of_decide_eq_true h42;replace hk:=zab hk h42;refine TS.y rfl (Yv.fieldAddr rfl rfl) ?_;refine TS.y rfl (Yv.ac 1 rfl rfl rfl rfl) ?_;refine TS.run 1 rfl ?_;refine TS.y rfl (Yv.aP rfl rfl rfl (by omega)) ?_;refine TS.y rfl (Yv.ao (i:=((i_34:Int) - 1).toNat) rfl rfl rfl (SlC.mono hr__2 le1_13) (List.length_map _) (by omega) (by omega)) ?_;refine TS.y rfl (Yv.aI 2 (i:=((i_34:Int) - 1).toNat) rfl rfl rfl (SlC.mono hr__2 le1_13) (by omega) rfl rfl rfl) ?_;refine TS.y rfl (Yv.am 0 rfl rfl rfl rfl) ?_;refine TS.eff ?_;refine TSo.aD rfl (Wt.some rfl rfl rfl rfl) rfl rfl (Ew.aS 2 rfl rfl rfl rfl (fun w hw hF=>zey _ w hF (nth r_.Caps (((i_34:Int) - 1).toNat)))) ?_;rintro _ _ ⟨v197_0_0,F15,le13_15,hf197_0_0,hq,rfl⟩;obtain rfl:=hq.symm;haveI:=hf197_0_0.oneC;refine ⟨(fun w hw=>(hw.frLe (i:=2) rfl le13_15).sub Sx),?_⟩;refine TS.eff ?_;refine TSo.aD rfl (Wt.some rfl rfl rfl rfl) rfl rfl (Ew.aS 2 rfl rfl rfl rfl (fun w hw hF=>zey _ w hF (nth r_.Caps i_34))) ?_;rintro _ _ ⟨v199_0_0,F16,le15_16,hf199_0_0,hq,rfl⟩;obtain rfl:=hq.symm;have le13_16:=le13_15.trans le15_16;haveI:=hf199_0_0.oneC;refine ⟨(fun w hw=>(hw.frLe (i:=2) rfl le13_16).sub Sx),?_⟩;refine TS.eff ?_;have hq:=zal hk;clear hk;obtain ⟨r200,hr200,hk⟩:=hq;refine TSo.aD rfl (Wt.some rfl rfl rfl rfl) rfl rfl (Ew.af rfl rfl rfl (fun w hw=>zdB _ w (hw.fr (i:=2) rfl) (zaI (nth r_.Caps (((i_34:Int) - 1).toNat))) v197_0_0 (SlC.mono hf197_0_0 le15_16) (zaI (nth r_.Caps i_34)) v199_0_0 hf199_0_0 r200 hr200)) ?_;rintro _ _ ⟨rfl,rfl⟩;refine ⟨(fun w hw=>(hw.frLe (i:=2) rfl le13_16).sub Sx),?_⟩;refine TS.run 3 rfl ?_;refine TS.done ?_;refine K.pick [1,2] rfl (by decide) ?_;exact K.aj (!r200,F16) ⟨hk,le13_16⟩ (.c (.c (.c .nil))) (List.Sublist.refl _)
             ·have p42:=of_decide_eq_false h42;replace hk:=zaa hk h42;refine TS.run 7 rfl ?_;refine TS.eff ?_;refine TSo.off rfl (Wt.not rfl rfl rfl rfl) rfl rfl ?_;refine TS.eff ?_;refine TSo.off rfl (Wt.not rfl rfl rfl rfl) rfl rfl ?_;refine TS.eff ?_;refine TSo.off rfl (Wt.not rfl rfl rfl rfl) rfl rfl ?_;refine TS.run 3 rfl ?_;refine TS.done ?_;refine K.pick [1,2] rfl (by decide) ?_;exact K.aj (false,F13) ⟨hk,(Frz.Le.refl _)⟩ (.c (.c (.c .nil))) (List.Sublist.refl _)
        ·rintro ⟨x_36,F14⟩ ⟨hk,le13_14⟩; (try dsimp only at *);rw [←hk37] at hk; (try dsimp only at hk);have le7_14:=le7_13.trans le13_14;refine T.cond rfl (fun h43=>?_) (fun h43=>?_)
         ·replace hk:=zab hk h43;refine T.sr ?_;refine TL.run 1 rfl ?_;refine TL.ns (T.ret (K.ag (K.aa (K.aa (K.ag (K.aa ?_))))));obtain rfl:=Option.some.inj hk;exact K.ah rfl rfl (fun w' hw=>⟨rfl,hw.isBelow⟩)
         ·replace hk:=zaa hk h43;refine T.skip (K.ad (K.seq (T.region ?_)));refine TL.run 1 rfl ?_;refine TL.y (Yv.an rfl rfl rfl (by omega)) ?_;refine TL.run 1 rfl ?_;refine TL.nil ?_;rw [←hn33] at hk;exact K.next ((i_34+1),F14) ⟨hk,le7_14⟩ (by dsimp only;omega) (.c (.c .nil)) (List.Sublist.refl _)
       ·have p35:=of_decide_eq_false h35;rw [zas (by omega),←hkk33] at hk; (try dsimp only at hk);refine T.exit (K.ab (K.ab (K.ae ?_)));refine K.pick [1] rfl (by decide) ?_;exact K.aj F13 ⟨hk,le7_13⟩ .nil (List.Sublist.refl _)
     ·rintro F12 ⟨hk,le7_12⟩;rw [←hk32] at hk; (try dsimp only at hk);refine T.sr ?_;refine TL.run 1 rfl ?_;refine TL.ns (T.ret ?_);obtain rfl:=Option.some.inj hk;exact K.ah rfl rfl (fun w' hw=>⟨rfl,hw.isBelow⟩)
def zbV (p:GProblem):Option Bool:=
 zax (fun (x_1:Bool)=>
  (bif x_1 then
   some false
   else
   zax (fun (_:Unit)=>
    zax (fun (_:Unit)=>
     zax (fun (_:Unit)=>
      zax (fun (_:Unit)=>
       some true)
      (fun k32=>
       zai (fun (i_34:Nat) (next33:Unit→Option Bool) (_:Unit)=>
        (bif decide ((zad p ((nth p.Rules.Caps i_34).Station))<0) then
         some false
         else
         next33 ()))
       (fun (_:Unit)=>
        k32 ()) (p.Rules.Caps.length - 0) 0 ()))
     (fun k26=>
      zai (fun (i_28:Nat) (next27:Unit→Option Bool) (_:Unit)=>
       (bif ((decide ((zad p ((nth p.Rules.Loads i_28).To))<0))||(decide ((zad p ((nth p.Rules.Loads i_28).From))<0))) then
        some false
        else
        next27 ()))
      (fun (_:Unit)=>
       k26 ()) (p.Rules.Loads.length - 0) 0 ()))
    (fun k20=>
     zai (fun (i_22:Nat) (next21:Unit→Option Bool) (_:Unit)=>
      (bif ((decide ((zad p ((nth p.Rules.Pairs i_22).A))<0))||(decide ((zad p ((nth p.Rules.Pairs i_22).B))<0))) then
       some false
       else
       next21 ()))
     (fun (_:Unit)=>
      k20 ()) (p.Rules.Pairs.length - 0) 0 ()))
   (fun k5=>
    zai (fun (i_7:Nat) (next6:Unit→Option Bool) (_:Unit)=>
     (bif (((!(zaq ((nth p.Domains i_7).Station)))||((decide (0<(i_7:Int)))&&(decide ((nth p.Domains i_7).Station≤(nth p.Domains (((i_7:Int) - 1).toNat)).Station))))||(decide (50<(((nth p.Domains i_7).Channels).length:Int)))) then
      some false
      else
      zai (fun (k_14:Nat) (next13:Unit→Option Bool) (_:Unit)=>
       (bif (((decide ((nth ((nth p.Domains i_7).Channels) k_14)<2))||(decide (51<(nth ((nth p.Domains i_7).Channels) k_14))))||((decide (0<(k_14:Int)))&&(decide ((nth ((nth p.Domains i_7).Channels) k_14)≤(nth ((nth p.Domains i_7).Channels) (((k_14:Int) - 1).toNat)))))) then
        some false
        else
        next13 ()))
      (fun (_:Unit)=>
       next6 ()) ((((nth p.Domains i_7).Channels).length) - 0) 0 ()))
    (fun (_:Unit)=>
     k5 ()) (p.Domains.length - 0) 0 ())))
 (fun k2=>
  (bif decide (512<(p.Domains.length:Int)) then
   k2 true
   else
   (zbr p.Rules).bind fun r16=>
   k2 (!r16)))
theorem zeg (F0:Frz)(w:World)(hF0:F0.At w)(p:GProblem)(vp_0:Value)(cp_0:List (List Value))(hp_0:SlD GDomain.rep F0 vp_0 2 cp_0 p.Domains)(vp_1:Value)(hp_1:SlC F0 vp_1 5 (p.Rules.Pairs.map GPair.enc))(vp_2:Value)(hp_2:SlC F0 vp_2 5 (p.Rules.Loads.map GLoad.enc))(vp_3:Value)(hp_3:SlC F0 vp_3 4 (p.Rules.Caps.map GCap.enc))(r:Bool)(hr:zbV p=some r):Calls Tryz.prog 10 #[.agg [vp_0,vp_1,vp_2,vp_3].toArray] w fun e w'=>e= .returned (.bool r)∧Below w.heap.size w w':=by
 have hk:=hr;unfold zbV at hk;haveI:=hp_0.1.oneC;haveI:=hp_1.oneC;haveI:=hp_2.oneC;haveI:=hp_3.oneC;obtain ⟨S0,F1,rfl,hS0,hp0⟩:=zan hF0;refine zac Tryz.func10 rfl rfl rfl hp0 ?_;refine T.sr ?_;refine TL.e (Ew.aA rfl rfl) ?_;rintro _ _ ⟨g1,rfl,rfl⟩;refine TL.run 1 rfl ?_;refine TL.ns (T.seq (T.seq ?_)); (try dsimp only at hk);have hq:=zae hk;clear hk;obtain ⟨k2,hk2,hk⟩:=hq; (try dsimp only at hk);refine T.al (ι:=Bool) (fun z=>[(1, .pointer (some ⟨g1,0,none⟩)),(18, .bool z)]) (fun z=>[.row g1 29 [vp_0,vp_1,vp_2,vp_3], .fr F1]) (fun z=>k2 z=some r) ?_ ?_
 ·refine T.region ?_;refine TL.y (Yv.fieldAddr rfl rfl) ?_;refine TL.y (Yv.ac 0 rfl rfl rfl rfl) ?_;refine TL.y (Yv.ar rfl rfl hp_0.1 hp_0.2.1) ?_;have hm11:p.Domains.length≤9223372036854775807:=hp_0.2.1▸hp_0.1.max;refine TL.run 2 rfl ?_;refine TL.gs rfl rfl rfl (fun h3=>?_) (fun h3=>?_)
  ·have p3:=of_decide_eq_true h3;replace hk:=zab hk h3;refine TL.run 5 rfl ?_;refine TL.nil ?_;exact K.aj true hk (.c (.c .nil)) (List.Sublist.refl _)
  ·have p3:=of_decide_eq_false h3;replace hk:=zaa hk h3;refine TL.y (Yv.fieldAddr rfl rfl) ?_;refine TL.y (Yv.bO 0 (m:=[vp_1,vp_2,vp_3]) rfl rfl rfl rfl rfl) ?_;have hq:=zal hk;clear hk;obtain ⟨r16,hr16,hk⟩:=hq;refine TL.e (Ew.af rfl rfl rfl (fun w hw=>zez _ w (hw.fr (i:=1) rfl) p.Rules vp_1 hp_1 vp_2 hp_2 vp_3 hp_3 r16 hr16)) ?_;rintro _ _ ⟨rfl,rfl⟩;refine TL.run 2 rfl ?_;refine TL.nil ?_;exact K.aj (!r16) hk (.c (.c .nil)) (List.Sublist.refl _)
 ·rintro x_1 hk;rw [←hk2] at hk; (try dsimp only at hk);refine T.cond rfl (fun h4=>?_) (fun h4=>?_)
  ·replace hk:=zab hk h4;refine T.sr ?_;refine TL.run 1 rfl ?_;refine TL.ns (T.ret (K.aa ?_));obtain rfl:=Option.some.inj hk;exact K.ah rfl rfl (fun w' hw=>⟨rfl,hw.isBelow⟩)
  ·replace hk:=zaa hk h4;refine T.skip (K.seq (T.seq (T.sr ?_)));refine TL.run 1 rfl ?_;refine TL.ns ?_;have hq:=zae hk;clear hk;obtain ⟨k5,hk5,hk⟩:=hq; (try dsimp only at hk);refine T.al (ι:=Unit) (fun z=>[(1, .pointer (some ⟨g1,0,none⟩))]) (fun z=>[.row g1 29 [vp_0,vp_1,vp_2,vp_3], .fr F1]) (fun z=>k5 ()=some r) ?_ ?_
   ·have hq:=zaj hk;clear hk;obtain ⟨f6,kk6,hf6,hkk6,hk⟩:=hq;refine T.block ?_;refine T.loop (ι:=Nat) (fun z=>[(1, .pointer (some ⟨g1,0,none⟩)),(3, .int .i64 (z:Int))]) (fun z=>[.row g1 29 [vp_0,vp_1,vp_2,vp_3], .fr F1]) (fun z=>zai f6 kk6 (p.Domains.length - z) z ()=some r) (fun z=>p.Domains.length - z) 0 ?_ ?_ ?_ ?_
    ·exact hk
    ·exact (.c (.c .nil))
    ·exact List.Sublist.refl _
    ·rintro i_7 hk;refine T.seq (T.sr ?_);refine TL.run 1 rfl ?_;refine TL.y (Yv.fieldAddr rfl rfl) ?_;refine TL.y (Yv.ac 0 rfl rfl rfl rfl) ?_;refine TL.y (Yv.ar rfl rfl hp_0.1 hp_0.2.1) ?_;have hm22:p.Domains.length≤9223372036854775807:=hp_0.2.1▸hp_0.1.max;refine TL.run 1 rfl ?_;refine TL.ns ?_;refine T.cond rfl (fun h8=>?_) (fun h8=>?_)
     ·have p8:=of_decide_eq_true h8;rw [zar (by omega)] at hk;generalize hn6:zai f6 kk6 (p.Domains.length - (i_7+1)) (i_7+1)=next6 at hk;rw [←hf6] at hk; (try dsimp only at hk);refine T.skip (K.seq (T.seq (T.block (T.sr ?_))));refine TL.y (Yv.fieldAddr rfl rfl) ?_;refine TL.y (Yv.ac 0 rfl rfl rfl rfl) ?_;refine TL.run 1 rfl ?_;refine TL.y (Yv.ao (i:=i_7) rfl rfl rfl hp_0.1 hp_0.2.1 rfl (by omega)) ?_;refine TL.y (Yv.bD 1 (i:=i_7) (j:=0) rfl rfl rfl hp_0.1 hp_0.2.1 (by omega) rfl (GDomain.form (hp_0.2.2 i_7 (by omega))) rfl) ?_;have hd30_1:=(GDomain.c1 (hp_0.2.2 i_7 (by omega))).2;haveI:=hd30_1.oneC;refine TL.e (Ew.alloc rfl) ?_;rintro _ _ ⟨g4,rfl,rfl⟩;refine TL.e0 (Ew.ak 0 rfl rfl rfl rfl rfl rfl) ?_;rintro _ _ ⟨rfl,rfl⟩;refine TL.ns (T.seq (T.seq ?_));refine T.al (ι:=Unit) (fun z=>[(1, .pointer (some ⟨g1,0,none⟩)),(3, .int .i64 (i_7:Int)),(4, .pointer (some ⟨g4,0,none⟩)),(56, .bool (((!(zaq ((nth p.Domains i_7).Station)))||((decide (0<(i_7:Int)))&&(decide ((nth p.Domains i_7).Station≤(nth p.Domains (((i_7:Int) - 1).toNat)).Station))))||(decide (50<(((nth p.Domains i_7).Channels).length:Int)))))]) (fun z=>[.row g4 48 [.int .i64 ((nth p.Domains i_7).Station),(nth (nth cp_0 i_7) 1)], .row g1 29 [vp_0,vp_1,vp_2,vp_3], .fr F1]) (fun z=>True) ?_ ?_
      ·refine T.as (.still 0 (.still 1 (.eff 2 (.still 3 (.still 4 (.still 5 (.still 6 (.still 7 (.still 8 (.still 9 (.still 10 (.still 11 (.still 12 (.still 13 (.still 14 (.still 15 (.still 16 (.still 17 (.still 18 (.still 19 (.still 20 (.still 21 (.still 22 (.still 23 (.still 24 (.still 25 .done)))))))))))))))))))))))))) _ (by kernel_rfl) (List.Sublist.refl _) ?_;refine TS.y rfl (Yv.fieldAddr rfl rfl) ?_;refine TS.y rfl (Yv.ac 0 rfl rfl rfl rfl) ?_;refine TS.eff ?_;refine TSo.aD rfl (Wt.none rfl) rfl rfl (Ew.af rfl rfl rfl (fun w hw=>zbh _ w (hw.fr (i:=2) rfl) ((nth p.Domains i_7).Station))) ?_;rintro _ _ ⟨rfl,rfl⟩;refine ⟨(fun w hw=>hw.sub Sx),?_⟩;refine TS.run 2 rfl ?_;refine TS.gs rfl rfl rfl rfl (fun h9=>?_) (fun h9=>?_)
       ·refine TS.run 21 rfl ?_;refine TS.done ?_;exact K.aj () trivial (.c (.c (.c (.b (zbN (zbN h9)).symm .nil)))) (List.Sublist.refl _)
       ·refine TS.run 3 rfl ?_;refine TS.gs rfl rfl rfl rfl (fun h10=>?_) (fun h10=>?_)
        ·have p10:=of_decide_eq_true h10;refine TS.y rfl (Yv.fieldAddr rfl rfl) ?_;refine TS.y rfl (Yv.ac 1 rfl rfl rfl rfl) ?_;refine TS.run 1 rfl ?_;refine TS.y rfl (Yv.aP rfl rfl rfl (by omega)) ?_;refine TS.y rfl (Yv.ao (i:=((i_7:Int) - 1).toNat) rfl rfl rfl hp_0.1 hp_0.2.1 (by omega) (by omega)) ?_;refine TS.y rfl (Yv.aG rfl rfl hp_0.1 hp_0.2.1 (by omega)) ?_;refine TS.y rfl (Yv.loadR 2 (i:=((i_7:Int) - 1).toNat) (j:=0) rfl rfl rfl hp_0.1 hp_0.2.1 (by omega) rfl (GDomain.c0 (hp_0.2.2 (((i_7:Int) - 1).toNat) (by omega)))) ?_;refine TS.y rfl (Yv.fieldAddr rfl rfl) ?_;refine TS.y rfl (Yv.ac 0 rfl rfl rfl rfl) ?_;refine TS.run 4 rfl ?_;refine TS.gs rfl rfl rfl rfl (fun h11=>?_) (fun h11=>?_)
         ·have p11:=of_decide_eq_true h11;refine TS.run 5 rfl ?_;refine TS.done ?_;exact K.aj () trivial (.c (.c (.c (.b (zbN (zcp h9 (za8 h10 h11))).symm .nil)))) (List.Sublist.refl _)
         ·have p11:=of_decide_eq_false h11;refine TS.y rfl (Yv.fieldAddr rfl rfl) ?_;refine TS.y rfl (Yv.ac 0 rfl rfl rfl rfl) ?_;refine TS.y rfl (Yv.ar rfl rfl hd30_1 (List.length_map _)) ?_;have hm54:((nth p.Domains i_7).Channels).length≤9223372036854775807:=(List.length_map _)▸hd30_1.max;refine TS.run 2 rfl ?_;refine TS.done ?_;exact K.aj () trivial (.c (.c (.c (.b (or_f (zcp h9 (za8 h10 h11))) .nil)))) (List.Sublist.refl _)
        ·have p10:=of_decide_eq_false h10;refine TS.run 13 rfl ?_;refine TS.y rfl (Yv.fieldAddr rfl rfl) ?_;refine TS.y rfl (Yv.ac 0 rfl rfl rfl rfl) ?_;refine TS.y rfl (Yv.ar rfl rfl hd30_1 (List.length_map _)) ?_;have hm54:((nth p.Domains i_7).Channels).length≤9223372036854775807:=(List.length_map _)▸hd30_1.max;refine TS.run 2 rfl ?_;refine TS.done ?_;exact K.aj () trivial (.c (.c (.c (.b (or_f (zcp h9 (zaJ h10))) .nil)))) (List.Sublist.refl _)
      ·rintro _ _;have hm54:((nth p.Domains i_7).Channels).length≤9223372036854775807:=(List.length_map _)▸hd30_1.max;refine T.cond rfl (fun h12=>?_) (fun h12=>?_)
       ·replace hk:=zab hk h12;refine T.sr ?_;refine TL.run 1 rfl ?_;refine TL.ns (T.ret (K.aa (K.ag (K.aa (K.aa (K.ag (K.aa ?_)))))));obtain rfl:=Option.some.inj hk;exact K.ah rfl rfl (fun w' hw=>⟨rfl,hw.isBelow⟩)
       ·have p12:=h12; (try simp only [nfB] at p12);replace hk:=zaa hk h12;refine T.skip (K.seq (T.sr ?_));refine TL.run 1 rfl ?_;refine TL.ns ?_;have hq:=zaj hk;clear hk;obtain ⟨f13,kk13,hf13,hkk13,hk⟩:=hq;refine T.block ?_;refine T.loop (ι:=Nat) (fun z=>[(1, .pointer (some ⟨g1,0,none⟩)),(3, .int .i64 (i_7:Int)),(4, .pointer (some ⟨g4,0,none⟩)),(5, .int .i64 (z:Int))]) (fun z=>[.row g4 48 [.int .i64 ((nth p.Domains i_7).Station),(nth (nth cp_0 i_7) 1)], .row g1 29 [vp_0,vp_1,vp_2,vp_3], .fr F1]) (fun z=>zai f13 kk13 ((((nth p.Domains i_7).Channels).length) - z) z ()=some r) (fun z=>(((nth p.Domains i_7).Channels).length) - z) 0 ?_ ?_ ?_ ?_
        ·exact hk
        ·exact (.c (.c (.c (.c .nil))))
        ·exact List.Sublist.refl _
        ·rintro k_14 hk;refine T.seq (T.sr ?_);refine TL.run 1 rfl ?_;refine TL.y (Yv.fieldAddr rfl rfl) ?_;refine TL.y (Yv.ac 0 rfl rfl rfl rfl) ?_;refine TL.y (Yv.ar rfl rfl hd30_1 (List.length_map _)) ?_;refine TL.run 1 rfl ?_;refine TL.ns ?_;refine T.cond rfl (fun h15=>?_) (fun h15=>?_)
         ·have p15:=of_decide_eq_true h15;rw [zar (by omega)] at hk;generalize hn13:zai f13 kk13 ((((nth p.Domains i_7).Channels).length) - (k_14+1)) (k_14+1)=next13 at hk;rw [←hf13] at hk; (try dsimp only at hk);refine T.skip (K.seq (T.seq (T.block (T.seq ?_))));refine T.al (ι:=Unit) (fun z=>[(1, .pointer (some ⟨g1,0,none⟩)),(3, .int .i64 (i_7:Int)),(4, .pointer (some ⟨g4,0,none⟩)),(5, .int .i64 (k_14:Int)),(95, .bool (((decide ((nth ((nth p.Domains i_7).Channels) k_14)<2))||(decide (51<(nth ((nth p.Domains i_7).Channels) k_14))))||((decide (0<(k_14:Int)))&&(decide ((nth ((nth p.Domains i_7).Channels) k_14)≤(nth ((nth p.Domains i_7).Channels) (((k_14:Int) - 1).toNat)))))))]) (fun z=>[.row g4 48 [.int .i64 ((nth p.Domains i_7).Station),(nth (nth cp_0 i_7) 1)], .row g1 29 [vp_0,vp_1,vp_2,vp_3], .fr F1]) (fun z=>True) ?_ ?_
          ·refine T.as (.still 0 (.still 1 (.still 2 (.still 3 (.still 4 (.still 5 (.still 6 (.still 7 (.still 8 (.still 9 (.still 10 (.still 11 (.still 12 (.still 13 (.still 14 (.still 15 (.still 16 (.still 17 (.still 18 (.still 19 (.still 20 (.still 21 (.still 22 (.still 23 (.still 24 (.still 25 (.still 26 (.still 27 (.still 28 (.still 29 (.still 30 (.still 31 .done)))))))))))))))))))))))))))))))) _ (by kernel_rfl) (List.Sublist.refl _) ?_;refine TS.y rfl (Yv.fieldAddr rfl rfl) ?_;refine TS.y rfl (Yv.ac 0 rfl rfl rfl rfl) ?_;refine TS.run 1 rfl ?_;refine TS.y rfl (Yv.ao (i:=k_14) rfl rfl rfl hd30_1 (List.length_map _) rfl (by omega)) ?_;refine TS.y rfl (Yv.az 2 (i:=k_14) (j:=0) rfl rfl rfl hd30_1 (by omega) rfl rfl) ?_;refine TS.run 2 rfl ?_;refine TS.gs rfl rfl rfl rfl (fun h16=>?_) (fun h16=>?_)
           ·have p16:=of_decide_eq_true h16;refine TS.run 25 rfl ?_;refine TS.done ?_;exact K.aj () trivial (.c (.c (.c (.c (.b (zbN (zbN h16)).symm .nil))))) (List.Sublist.refl _)
           ·have p16:=of_decide_eq_false h16;refine TS.y rfl (Yv.fieldAddr rfl rfl) ?_;refine TS.y rfl (Yv.ac 0 rfl rfl rfl rfl) ?_;refine TS.run 1 rfl ?_;refine TS.y rfl (Yv.ao (i:=k_14) rfl rfl rfl hd30_1 (List.length_map _) rfl (by omega)) ?_;refine TS.y rfl (Yv.az 2 (i:=k_14) (j:=0) rfl rfl rfl hd30_1 (by omega) rfl rfl) ?_;refine TS.run 3 rfl ?_;refine TS.gs rfl rfl rfl rfl (fun h17=>?_) (fun h17=>?_)
            ·have p17:=of_decide_eq_true h17;refine TS.run 17 rfl ?_;refine TS.done ?_;exact K.aj () trivial (.c (.c (.c (.c (.b (zbN (zcp h16 h17)).symm .nil))))) (List.Sublist.refl _)
            ·have p17:=of_decide_eq_false h17;refine TS.run 3 rfl ?_;refine TS.gs rfl rfl rfl rfl (fun h18=>?_) (fun h18=>?_)
             ·have p18:=of_decide_eq_true h18;refine TS.y rfl (Yv.fieldAddr rfl rfl) ?_;refine TS.y rfl (Yv.ac 0 rfl rfl rfl rfl) ?_;refine TS.run 1 rfl ?_;refine TS.y rfl (Yv.aP rfl rfl rfl (by omega)) ?_;refine TS.y rfl (Yv.ao (i:=((k_14:Int) - 1).toNat) rfl rfl rfl hd30_1 (List.length_map _) (by omega) (by omega)) ?_;refine TS.y rfl (Yv.az 2 (i:=((k_14:Int) - 1).toNat) (j:=0) rfl rfl rfl hd30_1 (by omega) rfl rfl) ?_;refine TS.y rfl (Yv.fieldAddr rfl rfl) ?_;refine TS.y rfl (Yv.ac 0 rfl rfl rfl rfl) ?_;refine TS.run 1 rfl ?_;refine TS.y rfl (Yv.ao (i:=k_14) rfl rfl rfl hd30_1 (List.length_map _) rfl (by omega)) ?_;refine TS.y rfl (Yv.az 2 (i:=k_14) (j:=0) rfl rfl rfl hd30_1 (by omega) rfl rfl) ?_;refine TS.run 3 rfl ?_;refine TS.done ?_;exact K.aj () trivial (.c (.c (.c (.c (.b (Eq.trans (zdi h18) (or_f (zcp h16 h17))) .nil))))) (List.Sublist.refl _)
             ·have p18:=of_decide_eq_false h18;refine TS.run 14 rfl ?_;refine TS.done ?_;exact K.aj () trivial (.c (.c (.c (.c (.b (zcp (zcp h16 h17) (zaJ h18)).symm .nil))))) (List.Sublist.refl _)
          ·rintro _ _;refine T.cond rfl (fun h19=>?_) (fun h19=>?_)
           ·replace hk:=zab hk h19;refine T.sr ?_;refine TL.run 1 rfl ?_;refine TL.ns (T.ret (K.ag (K.aa (K.aa (K.ag (K.ag (K.aa (K.aa (K.ag (K.aa ?_))))))))));obtain rfl:=Option.some.inj hk;exact K.ah rfl rfl (fun w' hw=>⟨rfl,hw.isBelow⟩)
           ·have p19:=h19; (try simp only [nfB] at p19);replace hk:=zaa hk h19;refine T.skip (K.ad (K.seq (T.region ?_)));refine TL.run 1 rfl ?_;refine TL.y (Yv.an rfl rfl rfl (by omega)) ?_;refine TL.run 1 rfl ?_;refine TL.nil ?_;rw [←hn13] at hk;exact K.next (k_14+1) hk (by omega) (.c (.c (.c (.c .nil)))) (List.Sublist.refl _)
         ·have p15:=of_decide_eq_false h15;rw [zas (by omega),←hkk13] at hk; (try dsimp only at hk);refine T.exit (K.ab (K.ab (K.ae (K.ad (K.seq (T.region ?_))))));refine TL.run 1 rfl ?_;refine TL.y (Yv.an rfl rfl rfl (by omega)) ?_;refine TL.run 1 rfl ?_;refine TL.nil ?_;rw [←hn6] at hk;refine K.pick [1,2] rfl (by decide) ?_;exact K.next (i_7+1) hk (by omega) (.c (.c .nil)) (List.Sublist.refl _)
     ·have p8:=of_decide_eq_false h8;rw [zas (by omega),←hkk6] at hk; (try dsimp only at hk);refine T.exit (K.ab (K.ab (K.ae ?_)));exact K.aj () hk (.c .nil) (List.Sublist.refl _)
   ·rintro _ hk;rw [←hk5] at hk; (try dsimp only at hk);refine T.seq (T.sr ?_);refine TL.run 1 rfl ?_;refine TL.ns ?_;have hq:=zae hk;clear hk;obtain ⟨k20,hk20,hk⟩:=hq; (try dsimp only at hk);refine T.al (ι:=Unit) (fun z=>[(1, .pointer (some ⟨g1,0,none⟩))]) (fun z=>[.row g1 29 [vp_0,vp_1,vp_2,vp_3], .fr F1]) (fun z=>k20 ()=some r) ?_ ?_
    ·have hq:=zaj hk;clear hk;obtain ⟨f21,kk21,hf21,hkk21,hk⟩:=hq;refine T.block ?_;refine T.loop (ι:=Nat) (fun z=>[(1, .pointer (some ⟨g1,0,none⟩)),(6, .int .i64 (z:Int))]) (fun z=>[.row g1 29 [vp_0,vp_1,vp_2,vp_3], .fr F1]) (fun z=>zai f21 kk21 (p.Rules.Pairs.length - z) z ()=some r) (fun z=>p.Rules.Pairs.length - z) 0 ?_ ?_ ?_ ?_
     ·exact hk
     ·exact (.c (.c .nil))
     ·exact List.Sublist.refl _
     ·rintro i_22 hk;refine T.seq (T.sr ?_);refine TL.run 1 rfl ?_;refine TL.y (Yv.fieldAddr rfl rfl) ?_;refine TL.y (Yv.fieldAddr rfl rfl) ?_;refine TL.y (Yv.ac 0 rfl rfl rfl rfl) ?_;refine TL.y (Yv.ar rfl rfl hp_1 (List.length_map _)) ?_;have hm100:p.Rules.Pairs.length≤9223372036854775807:=(List.length_map _)▸hp_1.max;refine TL.run 1 rfl ?_;refine TL.ns ?_;refine T.cond rfl (fun h23=>?_) (fun h23=>?_)
      ·have p23:=of_decide_eq_true h23;rw [zar (by omega)] at hk;generalize hn21:zai f21 kk21 (p.Rules.Pairs.length - (i_22+1)) (i_22+1)=next21 at hk;rw [←hf21] at hk; (try dsimp only at hk);refine T.skip (K.seq (T.seq (T.block (T.seq ?_))));refine T.al (ι:=Unit) (fun z=>[(1, .pointer (some ⟨g1,0,none⟩)),(6, .int .i64 (i_22:Int)),(125, .bool ((decide ((zad p ((nth p.Rules.Pairs i_22).A))<0))||(decide ((zad p ((nth p.Rules.Pairs i_22).B))<0))))]) (fun z=>[.row g1 29 [vp_0,vp_1,vp_2,vp_3], .fr F1]) (fun z=>True) ?_ ?_
       ·refine T.as (.still 0 (.still 1 (.still 2 (.still 3 (.still 4 (.still 5 (.still 6 (.still 7 (.eff 8 (.still 9 (.still 10 (.still 11 (.still 12 (.still 13 (.still 14 (.still 15 (.still 16 (.still 17 (.still 18 (.eff 19 (.still 20 (.still 21 .done)))))))))))))))))))))) _ (by kernel_rfl) (List.Sublist.refl _) ?_;refine TS.y rfl (Yv.am 0 rfl rfl rfl rfl) ?_;refine TS.y rfl (Yv.fieldAddr rfl rfl) ?_;refine TS.y rfl (Yv.fieldAddr rfl rfl) ?_;refine TS.y rfl (Yv.ac 0 rfl rfl rfl rfl) ?_;refine TS.run 1 rfl ?_;refine TS.y rfl (Yv.ao (i:=i_22) rfl rfl rfl hp_1 (List.length_map _) rfl (by omega)) ?_;refine TS.y rfl (Yv.aG rfl rfl hp_1 (List.length_map _) (by omega)) ?_;refine TS.y rfl (Yv.az 1 (i:=i_22) (j:=0) rfl rfl rfl hp_1 (by omega) rfl rfl) ?_;refine TS.eff ?_;refine TSo.aD rfl (Wt.none rfl) rfl rfl (Ew.af rfl rfl rfl (fun w hw=>zbT _ w (hw.fr (i:=1) rfl) p vp_0 cp_0 hp_0 vp_1 hp_1 vp_2 hp_2 vp_3 hp_3 ((nth p.Rules.Pairs i_22).A))) ?_;rintro _ _ ⟨rfl,rfl⟩;refine ⟨(fun w hw=>hw.sub Sx),?_⟩;refine TS.run 2 rfl ?_;refine TS.gs rfl rfl rfl rfl (fun h24=>?_) (fun h24=>?_)
        ·have p24:=of_decide_eq_true h24;refine TS.run 8 rfl ?_;refine TS.eff ?_;refine TSo.off rfl (Wt.not rfl rfl rfl rfl) rfl rfl ?_;refine TS.run 2 rfl ?_;refine TS.done ?_;exact K.aj () trivial (.c (.c (.b (zbN h24).symm .nil))) (List.Sublist.refl _)
        ·have p24:=of_decide_eq_false h24;refine TS.y rfl (Yv.am 0 rfl rfl rfl rfl) ?_;refine TS.y rfl (Yv.fieldAddr rfl rfl) ?_;refine TS.y rfl (Yv.fieldAddr rfl rfl) ?_;refine TS.y rfl (Yv.ac 0 rfl rfl rfl rfl) ?_;refine TS.run 1 rfl ?_;refine TS.y rfl (Yv.ao (i:=i_22) rfl rfl rfl hp_1 (List.length_map _) rfl (by omega)) ?_;refine TS.y rfl (Yv.aG rfl rfl hp_1 (List.length_map _) (by omega)) ?_;refine TS.y rfl (Yv.az 1 (i:=i_22) (j:=1) rfl rfl rfl hp_1 (by omega) rfl rfl) ?_;refine TS.eff ?_;refine TSo.aD rfl (Wt.some rfl rfl rfl rfl) rfl rfl (Ew.af rfl rfl rfl (fun w hw=>zbT _ w (hw.fr (i:=1) rfl) p vp_0 cp_0 hp_0 vp_1 hp_1 vp_2 hp_2 vp_3 hp_3 ((nth p.Rules.Pairs i_22).B))) ?_;rintro _ _ ⟨rfl,rfl⟩;refine ⟨(fun w hw=>hw.sub Sx),?_⟩;refine TS.run 2 rfl ?_;refine TS.done ?_;exact K.aj () trivial (.c (.c (.b (or_f h24) .nil))) (List.Sublist.refl _)
       ·rintro _ _;refine T.cond rfl (fun h25=>?_) (fun h25=>?_)
        ·replace hk:=zab hk h25;refine T.sr ?_;refine TL.run 1 rfl ?_;refine TL.ns (T.ret (K.ag (K.aa (K.aa (K.ag (K.aa ?_))))));obtain rfl:=Option.some.inj hk;exact K.ah rfl rfl (fun w' hw=>⟨rfl,hw.isBelow⟩)
        ·have p25:=h25; (try simp only [nfB] at p25);replace hk:=zaa hk h25;refine T.skip (K.ad (K.seq (T.region ?_)));refine TL.run 1 rfl ?_;refine TL.y (Yv.an rfl rfl rfl (by omega)) ?_;refine TL.run 1 rfl ?_;refine TL.nil ?_;rw [←hn21] at hk;exact K.next (i_22+1) hk (by omega) (.c (.c .nil)) (List.Sublist.refl _)
      ·have p23:=of_decide_eq_false h23;rw [zas (by omega),←hkk21] at hk; (try dsimp only at hk);refine T.exit (K.ab (K.ab (K.ae ?_)));exact K.aj () hk (.c .nil) (List.Sublist.refl _)
    ·rintro _ hk;rw [←hk20] at hk; (try dsimp only at hk);refine T.seq (T.sr ?_);refine TL.run 1 rfl ?_;refine TL.ns ?_;have hq:=zae hk;clear hk;obtain ⟨k26,hk26,hk⟩:=hq; (try dsimp only at hk);refine T.al (ι:=Unit) (fun z=>[(1, .pointer (some ⟨g1,0,none⟩))]) (fun z=>[.row g1 29 [vp_0,vp_1,vp_2,vp_3], .fr F1]) (fun z=>k26 ()=some r) ?_ ?_
     ·have hq:=zaj hk;clear hk;obtain ⟨f27,kk27,hf27,hkk27,hk⟩:=hq;refine T.block ?_;refine T.loop (ι:=Nat) (fun z=>[(1, .pointer (some ⟨g1,0,none⟩)),(7, .int .i64 (z:Int))]) (fun z=>[.row g1 29 [vp_0,vp_1,vp_2,vp_3], .fr F1]) (fun z=>zai f27 kk27 (p.Rules.Loads.length - z) z ()=some r) (fun z=>p.Rules.Loads.length - z) 0 ?_ ?_ ?_ ?_
      ·exact hk
      ·exact (.c (.c .nil))
      ·exact List.Sublist.refl _
      ·rintro i_28 hk;refine T.seq (T.sr ?_);refine TL.run 1 rfl ?_;refine TL.y (Yv.fieldAddr rfl rfl) ?_;refine TL.y (Yv.fieldAddr rfl rfl) ?_;refine TL.y (Yv.ac 0 rfl rfl rfl rfl) ?_;refine TL.y (Yv.ar rfl rfl hp_2 (List.length_map _)) ?_;have hm130:p.Rules.Loads.length≤9223372036854775807:=(List.length_map _)▸hp_2.max;refine TL.run 1 rfl ?_;refine TL.ns ?_;refine T.cond rfl (fun h29=>?_) (fun h29=>?_)
       ·have p29:=of_decide_eq_true h29;rw [zar (by omega)] at hk;generalize hn27:zai f27 kk27 (p.Rules.Loads.length - (i_28+1)) (i_28+1)=next27 at hk;rw [←hf27] at hk; (try dsimp only at hk);refine T.skip (K.seq (T.seq (T.block (T.seq ?_))));refine T.al (ι:=Unit) (fun z=>[(1, .pointer (some ⟨g1,0,none⟩)),(7, .int .i64 (i_28:Int)),(155, .bool ((decide ((zad p ((nth p.Rules.Loads i_28).To))<0))||(decide ((zad p ((nth p.Rules.Loads i_28).From))<0))))]) (fun z=>[.row g1 29 [vp_0,vp_1,vp_2,vp_3], .fr F1]) (fun z=>True) ?_ ?_
        ·refine T.as (.still 0 (.still 1 (.still 2 (.still 3 (.still 4 (.still 5 (.still 6 (.still 7 (.eff 8 (.still 9 (.still 10 (.still 11 (.still 12 (.still 13 (.still 14 (.still 15 (.still 16 (.still 17 (.still 18 (.eff 19 (.still 20 (.still 21 .done)))))))))))))))))))))) _ (by kernel_rfl) (List.Sublist.refl _) ?_;refine TS.y rfl (Yv.am 0 rfl rfl rfl rfl) ?_;refine TS.y rfl (Yv.fieldAddr rfl rfl) ?_;refine TS.y rfl (Yv.fieldAddr rfl rfl) ?_;refine TS.y rfl (Yv.ac 0 rfl rfl rfl rfl) ?_;refine TS.run 1 rfl ?_;refine TS.y rfl (Yv.ao (i:=i_28) rfl rfl rfl hp_2 (List.length_map _) rfl (by omega)) ?_;refine TS.y rfl (Yv.aG rfl rfl hp_2 (List.length_map _) (by omega)) ?_;refine TS.y rfl (Yv.az 1 (i:=i_28) (j:=0) rfl rfl rfl hp_2 (by omega) rfl rfl) ?_;refine TS.eff ?_;refine TSo.aD rfl (Wt.none rfl) rfl rfl (Ew.af rfl rfl rfl (fun w hw=>zbT _ w (hw.fr (i:=1) rfl) p vp_0 cp_0 hp_0 vp_1 hp_1 vp_2 hp_2 vp_3 hp_3 ((nth p.Rules.Loads i_28).To))) ?_;rintro _ _ ⟨rfl,rfl⟩;refine ⟨(fun w hw=>hw.sub Sx),?_⟩;refine TS.run 2 rfl ?_;refine TS.gs rfl rfl rfl rfl (fun h30=>?_) (fun h30=>?_)
         ·have p30:=of_decide_eq_true h30;refine TS.run 8 rfl ?_;refine TS.eff ?_;refine TSo.off rfl (Wt.not rfl rfl rfl rfl) rfl rfl ?_;refine TS.run 2 rfl ?_;refine TS.done ?_;exact K.aj () trivial (.c (.c (.b (zbN h30).symm .nil))) (List.Sublist.refl _)
         ·have p30:=of_decide_eq_false h30;refine TS.y rfl (Yv.am 0 rfl rfl rfl rfl) ?_;refine TS.y rfl (Yv.fieldAddr rfl rfl) ?_;refine TS.y rfl (Yv.fieldAddr rfl rfl) ?_;refine TS.y rfl (Yv.ac 0 rfl rfl rfl rfl) ?_;refine TS.run 1 rfl ?_;refine TS.y rfl (Yv.ao (i:=i_28) rfl rfl rfl hp_2 (List.length_map _) rfl (by omega)) ?_;refine TS.y rfl (Yv.aG rfl rfl hp_2 (List.length_map _) (by omega)) ?_;refine TS.y rfl (Yv.az 1 (i:=i_28) (j:=1) rfl rfl rfl hp_2 (by omega) rfl rfl) ?_;refine TS.eff ?_;refine TSo.aD rfl (Wt.some rfl rfl rfl rfl) rfl rfl (Ew.af rfl rfl rfl (fun w hw=>zbT _ w (hw.fr (i:=1) rfl) p vp_0 cp_0 hp_0 vp_1 hp_1 vp_2 hp_2 vp_3 hp_3 ((nth p.Rules.Loads i_28).From))) ?_;rintro _ _ ⟨rfl,rfl⟩;refine ⟨(fun w hw=>hw.sub Sx),?_⟩;refine TS.run 2 rfl ?_;refine TS.done ?_;exact K.aj () trivial (.c (.c (.b (or_f h30) .nil))) (List.Sublist.refl _)
        ·rintro _ _;refine T.cond rfl (fun h31=>?_) (fun h31=>?_)
         ·replace hk:=zab hk h31;refine T.sr ?_;refine TL.run 1 rfl ?_;refine TL.ns (T.ret (K.ag (K.aa (K.aa (K.ag (K.aa ?_))))));obtain rfl:=Option.some.inj hk;exact K.ah rfl rfl (fun w' hw=>⟨rfl,hw.isBelow⟩)
         ·have p31:=h31; (try simp only [nfB] at p31);replace hk:=zaa hk h31;refine T.skip (K.ad (K.seq (T.region ?_)));refine TL.run 1 rfl ?_;refine TL.y (Yv.an rfl rfl rfl (by omega)) ?_;refine TL.run 1 rfl ?_;refine TL.nil ?_;rw [←hn27] at hk;exact K.next (i_28+1) hk (by omega) (.c (.c .nil)) (List.Sublist.refl _)
       ·have p29:=of_decide_eq_false h29;rw [zas (by omega),←hkk27] at hk; (try dsimp only at hk);refine T.exit (K.ab (K.ab (K.ae ?_)));exact K.aj () hk (.c .nil) (List.Sublist.refl _)
     ·rintro _ hk;rw [←hk26] at hk; (try dsimp only at hk);refine T.seq (T.sr ?_);refine TL.run 1 rfl ?_;refine TL.ns ?_;have hq:=zae hk;clear hk;obtain ⟨k32,hk32,hk⟩:=hq; (try dsimp only at hk);refine T.al (ι:=Unit) (fun z=>[]) (fun z=>[.fr F1]) (fun z=>k32 ()=some r) ?_ ?_
      ·have hq:=zaj hk;clear hk;obtain ⟨f33,kk33,hf33,hkk33,hk⟩:=hq;refine T.block ?_;refine T.loop (ι:=Nat) (fun z=>[(1, .pointer (some ⟨g1,0,none⟩)),(8, .int .i64 (z:Int))]) (fun z=>[.row g1 29 [vp_0,vp_1,vp_2,vp_3], .fr F1]) (fun z=>zai f33 kk33 (p.Rules.Caps.length - z) z ()=some r) (fun z=>p.Rules.Caps.length - z) 0 ?_ ?_ ?_ ?_
       ·exact hk
       ·exact (.c (.c .nil))
       ·exact List.Sublist.refl _
       ·rintro i_34 hk;refine T.seq (T.sr ?_);refine TL.run 1 rfl ?_;refine TL.y (Yv.fieldAddr rfl rfl) ?_;refine TL.y (Yv.fieldAddr rfl rfl) ?_;refine TL.y (Yv.ac 0 rfl rfl rfl rfl) ?_;refine TL.y (Yv.ar rfl rfl hp_3 (List.length_map _)) ?_;have hm160:p.Rules.Caps.length≤9223372036854775807:=(List.length_map _)▸hp_3.max;refine TL.run 1 rfl ?_;refine TL.ns ?_;refine T.cond rfl (fun h35=>?_) (fun h35=>?_)
        ·have p35:=of_decide_eq_true h35;rw [zar (by omega)] at hk;generalize hn33:zai f33 kk33 (p.Rules.Caps.length - (i_34+1)) (i_34+1)=next33 at hk;rw [←hf33] at hk; (try dsimp only at hk);refine T.skip (K.seq (T.seq (T.block (T.seq ?_))));refine T.as (.still 0 (.still 1 (.still 2 (.still 3 (.still 4 (.still 5 (.still 6 (.still 7 (.eff 8 (.still 9 .done)))))))))) _ (by kernel_rfl) (List.Sublist.refl _) ?_;refine TS.y rfl (Yv.am 0 rfl rfl rfl rfl) ?_;refine TS.y rfl (Yv.fieldAddr rfl rfl) ?_;refine TS.y rfl (Yv.fieldAddr rfl rfl) ?_;refine TS.y rfl (Yv.ac 0 rfl rfl rfl rfl) ?_;refine TS.run 1 rfl ?_;refine TS.y rfl (Yv.ao (i:=i_34) rfl rfl rfl hp_3 (List.length_map _) rfl (by omega)) ?_;refine TS.y rfl (Yv.aG rfl rfl hp_3 (List.length_map _) (by omega)) ?_;refine TS.y rfl (Yv.az 1 (i:=i_34) (j:=0) rfl rfl rfl hp_3 (by omega) rfl rfl) ?_;refine TS.eff ?_;refine TSo.aD rfl (Wt.none rfl) rfl rfl (Ew.af rfl rfl rfl (fun w hw=>zbT _ w (hw.fr (i:=1) rfl) p vp_0 cp_0 hp_0 vp_1 hp_1 vp_2 hp_2 vp_3 hp_3 ((nth p.Rules.Caps i_34).Station))) ?_;rintro _ _ ⟨rfl,rfl⟩;refine ⟨(fun w hw=>hw.sub Sx),?_⟩;refine TS.run 1 rfl ?_;refine TS.done ?_;refine K.seq ?_;refine T.cond rfl (fun h36=>?_) (fun h36=>?_)
         ·have p36:=of_decide_eq_true h36;replace hk:=zab hk h36;refine T.sr ?_;refine TL.run 1 rfl ?_;refine TL.ns (T.ret (K.ag (K.aa (K.aa (K.ag (K.aa ?_))))));obtain rfl:=Option.some.inj hk;exact K.ah rfl rfl (fun w' hw=>⟨rfl,hw.isBelow⟩)
         ·have p36:=of_decide_eq_false h36;replace hk:=zaa hk h36;refine T.skip (K.ad (K.seq (T.region ?_)));refine TL.run 1 rfl ?_;refine TL.y (Yv.an rfl rfl rfl (by omega)) ?_;refine TL.run 1 rfl ?_;refine TL.nil ?_;rw [←hn33] at hk;exact K.next (i_34+1) hk (by omega) (.c (.c .nil)) (List.Sublist.refl _)
        ·have p35:=of_decide_eq_false h35;rw [zas (by omega),←hkk33] at hk; (try dsimp only at hk);refine T.exit (K.ab (K.ab (K.ae ?_)));refine K.pick [1] rfl (by decide) ?_;exact K.aj () hk .nil (List.Sublist.refl _)
      ·rintro _ hk;rw [←hk32] at hk; (try dsimp only at hk);refine T.sr ?_;refine TL.run 1 rfl ?_;refine TL.ns (T.ret ?_);obtain rfl:=Option.some.inj hk;exact K.ah rfl rfl (fun w' hw=>⟨rfl,hw.isBelow⟩)
structure GViolation where
 Kind:Int
 At:Int
deriving DecidableEq,Inhabited
abbrev GViolation.enc (x:GViolation):List Value:=[.int .i64 x.Kind, .int .i64 x.At]
theorem GViolation.len (x:GViolation):(GViolation.enc x).length=2:=rfl
def zcc (fuel:Nat)(p:GProblem)(domains:Int)(rules:Int):Option Bool:=
 zax (fun (_:Unit)=>
  some ((((decide ((p.Domains.length:Int)≤domains))&&(decide ((p.Rules.Pairs.length:Int)≤rules)))&&(decide ((p.Rules.Loads.length:Int)≤rules)))&&(decide ((p.Rules.Caps.length:Int)≤rules))))
 (fun k1=>
  zbd (fun (next3:Int→Option Bool) (i_2:Int)=>
   (bif ((decide (i_2<(p.Domains.length:Int)))&&(decide (i_2<600))) then
    grd (0≤i_2∧i_2<(p.Domains.length:Int)) <|
    (bif decide (60<(((nth p.Domains i_2.toNat).Channels).length:Int)) then
     some false
     else
     next3 (i_2+1))
    else
    k1 ())) fuel 0)
theorem zgu (F0:Frz)(w:World)(hF0:F0.At w)(p:GProblem)(vp_0:Value)(cp_0:List (List Value))(hp_0:SlD GDomain.rep F0 vp_0 2 cp_0 p.Domains)(vp_1:Value)(hp_1:SlC F0 vp_1 5 (p.Rules.Pairs.map GPair.enc))(vp_2:Value)(hp_2:SlC F0 vp_2 5 (p.Rules.Loads.map GLoad.enc))(vp_3:Value)(hp_3:SlC F0 vp_3 4 (p.Rules.Caps.map GCap.enc))(domains:Int)(rules:Int)(fuel:Nat)(r:Bool)(hr:zcc fuel p domains rules=some r):Calls Tryz.prog 26 #[.agg [vp_0,vp_1,vp_2,vp_3].toArray, .int .i64 domains, .int .i64 rules] w fun e w'=>e= .returned (.bool r)∧Below w.heap.size w w':=by
 have hk:=hr;unfold zcc at hk;haveI:=hp_0.1.oneC;haveI:=hp_1.oneC;haveI:=hp_2.oneC;haveI:=hp_3.oneC;obtain ⟨S0,F1,rfl,hS0,hp0⟩:=zan hF0;refine zac Tryz.func26 rfl rfl rfl hp0 ?_;refine T.sr ?_;refine TL.e (Ew.aA rfl rfl) ?_;rintro _ _ ⟨g3,rfl,rfl⟩;refine TL.run 1 rfl ?_;refine TL.ns (T.seq (T.sr ?_));refine TL.run 1 rfl ?_;refine TL.ns ?_;have hq:=zae hk;clear hk;obtain ⟨k1,hk1,hk⟩:=hq; (try dsimp only at hk);refine T.al (ι:=Unit) (fun z=>[(1, .int .i64 domains),(2, .int .i64 rules),(3, .pointer (some ⟨g3,0,none⟩))]) (fun z=>[.row g3 29 [vp_0,vp_1,vp_2,vp_3], .fr F1]) (fun z=>k1 ()=some r) ?_ ?_
 ·have hq:=zb3 hk;clear hk;obtain ⟨f3,hf3,hk⟩:=hq;refine T.block ?_;refine T.loop (ι:=Nat×Int) (fun z=>[(1, .int .i64 domains),(2, .int .i64 rules),(3, .pointer (some ⟨g3,0,none⟩)),(7, .int .i64 z.2)]) (fun z=>[.row g3 29 [vp_0,vp_1,vp_2,vp_3], .fr F1]) (fun z=>zbd f3 z.1 z.2=some r) (fun z=>z.1) (fuel,0) ?_ ?_ ?_ ?_
  ·exact hk
  ·exact (.c (.c (.c (.c .nil))))
  ·exact List.Sublist.refl _
  ·rintro ⟨m_4,i_2⟩ hk; (try dsimp only at *);have hq:=zco hk;clear hk;obtain ⟨m_4',rfl,hk⟩:=hq;generalize hn3:zbd f3 m_4'=next3 at hk;rw [←hf3] at hk; (try dsimp only at hk);refine T.seq (T.seq ?_);refine T.al (ι:=Unit) (fun z=>[(1, .int .i64 domains),(2, .int .i64 rules),(3, .pointer (some ⟨g3,0,none⟩)),(7, .int .i64 i_2),(16, .bool ((decide (i_2<(p.Domains.length:Int)))&&(decide (i_2<600))))]) (fun z=>[.row g3 29 [vp_0,vp_1,vp_2,vp_3], .fr F1]) (fun z=>True) ?_ ?_
   ·refine T.region ?_;refine TL.run 1 rfl ?_;refine TL.y (Yv.fieldAddr rfl rfl) ?_;refine TL.y (Yv.ac 0 rfl rfl rfl rfl) ?_;refine TL.y (Yv.ar rfl rfl hp_0.1 hp_0.2.1) ?_;have hm11:p.Domains.length≤9223372036854775807:=hp_0.2.1▸hp_0.1.max;refine TL.run 2 rfl ?_;refine TL.gs rfl rfl rfl (fun h5=>?_) (fun h5=>?_)
    ·have p5:=of_decide_eq_true h5;refine TL.run 3 rfl ?_;refine TL.nil ?_;exact K.aj () trivial (.c (.c (.c (.c (.b (zdi h5) .nil))))) (List.Sublist.refl _)
    ·have p5:=of_decide_eq_false h5;refine TL.run 3 rfl ?_;refine TL.nil ?_;exact K.aj () trivial (.c (.c (.c (.c (.b (zaJ h5).symm .nil))))) (List.Sublist.refl _)
   ·rintro _ _;have hm11:p.Domains.length≤9223372036854775807:=hp_0.2.1▸hp_0.1.max;refine T.cond rfl (fun h6=>?_) (fun h6=>?_)
    ·have p6:=h6; (try simp only [nfB] at p6);replace hk:=zab hk h6;refine T.skip (K.seq (T.seq (T.block (T.seq ?_))));have hq:(0≤i_2∧i_2<(p.Domains.length:Int))∧_:=zaE hk;clear hk;obtain ⟨g22,hk⟩:=hq; (try dsimp only at hk);refine T.region ?_;refine TL.y (Yv.fieldAddr rfl rfl) ?_;refine TL.y (Yv.ac 0 rfl rfl rfl rfl) ?_;refine TL.run 1 rfl ?_;refine TL.y (Yv.ao (i:=i_2.toNat) rfl rfl rfl hp_0.1 hp_0.2.1 (by omega) (by omega)) ?_;refine TL.y (Yv.aG rfl rfl hp_0.1 hp_0.2.1 (by omega)) ?_;refine TL.y (Yv.loadR 1 (i:=i_2.toNat) (j:=1) rfl rfl rfl hp_0.1 hp_0.2.1 (by omega) rfl (GDomain.c1 (hp_0.2.2 i_2.toNat (by omega))).1) ?_;have hd24_1:=(GDomain.c1 (hp_0.2.2 i_2.toNat (by omega))).2;haveI:=hd24_1.oneC;refine TL.y (Yv.ar rfl rfl hd24_1 (List.length_map _)) ?_;have hm25:((nth p.Domains i_2.toNat).Channels).length≤9223372036854775807:=(List.length_map _)▸hd24_1.max;refine TL.run 1 rfl ?_;refine TL.ns ?_;refine T.cond rfl (fun h7=>?_) (fun h7=>?_)
     ·have p7:=of_decide_eq_true h7;replace hk:=zab hk h7;refine T.sr ?_;refine TL.run 1 rfl ?_;refine TL.ns (T.ret (K.ag (K.aa (K.aa (K.ag (K.aa ?_))))));obtain rfl:=Option.some.inj hk;exact K.ah rfl rfl (fun w' hw=>⟨rfl,hw.isBelow⟩)
     ·have p7:=of_decide_eq_false h7;replace hk:=zaa hk h7;refine T.skip (K.ad (K.seq (T.region ?_)));refine TL.run 1 rfl ?_;refine TL.y (Yv.an rfl rfl rfl (by omega)) ?_;refine TL.run 1 rfl ?_;refine TL.nil ?_;rw [←hn3] at hk;exact K.next (m_4',(i_2+1)) hk (by dsimp only;omega) (.c (.c (.c (.c .nil)))) (List.Sublist.refl _)
    ·replace hk:=zaa hk h6;refine T.exit (K.ab (K.ab (K.ae ?_)));exact K.aj () hk (.c (.c (.c .nil))) (List.Sublist.refl _)
 ·rintro _ hk;rw [←hk1] at hk; (try dsimp only at hk);refine T.seq ?_;refine T.al (ι:=Unit) (fun z=>[(6, .bool ((((decide ((p.Domains.length:Int)≤domains))&&(decide ((p.Rules.Pairs.length:Int)≤rules)))&&(decide ((p.Rules.Loads.length:Int)≤rules)))&&(decide ((p.Rules.Caps.length:Int)≤rules))))]) (fun z=>[.row g3 29 [vp_0,vp_1,vp_2,vp_3], .fr F1]) (fun z=>True) ?_ ?_
  ·refine T.region ?_;refine TL.y (Yv.fieldAddr rfl rfl) ?_;refine TL.y (Yv.ac 0 rfl rfl rfl rfl) ?_;refine TL.y (Yv.ar rfl rfl hp_0.1 hp_0.2.1) ?_;have hm29:p.Domains.length≤9223372036854775807:=hp_0.2.1▸hp_0.1.max;refine TL.run 3 rfl ?_;refine TL.gs rfl rfl rfl (fun h8=>?_) (fun h8=>?_)
   ·have p8:=of_decide_eq_true h8;refine TL.y (Yv.fieldAddr rfl rfl) ?_;refine TL.y (Yv.fieldAddr rfl rfl) ?_;refine TL.y (Yv.ac 0 rfl rfl rfl rfl) ?_;refine TL.y (Yv.ar rfl rfl hp_1 (List.length_map _)) ?_;have hm36:p.Rules.Pairs.length≤9223372036854775807:=(List.length_map _)▸hp_1.max;refine TL.run 4 rfl ?_;refine TL.gs rfl rfl rfl (fun h9=>?_) (fun h9=>?_)
    ·have p9:=of_decide_eq_true h9;refine TL.y (Yv.fieldAddr rfl rfl) ?_;refine TL.y (Yv.fieldAddr rfl rfl) ?_;refine TL.y (Yv.ac 0 rfl rfl rfl rfl) ?_;refine TL.y (Yv.ar rfl rfl hp_2 (List.length_map _)) ?_;have hm44:p.Rules.Loads.length≤9223372036854775807:=(List.length_map _)▸hp_2.max;refine TL.run 4 rfl ?_;refine TL.gs rfl rfl rfl (fun h10=>?_) (fun h10=>?_)
     ·have p10:=of_decide_eq_true h10;refine TL.y (Yv.fieldAddr rfl rfl) ?_;refine TL.y (Yv.fieldAddr rfl rfl) ?_;refine TL.y (Yv.ac 0 rfl rfl rfl rfl) ?_;refine TL.y (Yv.ar rfl rfl hp_3 (List.length_map _)) ?_;have hm52:p.Rules.Caps.length≤9223372036854775807:=(List.length_map _)▸hp_3.max;refine TL.run 4 rfl ?_;refine TL.nil ?_;exact K.aj () trivial (.b (zdi (za8 (za8 h8 h9) h10)) .nil) (List.Sublist.refl _)
     ·have p10:=of_decide_eq_false h10;refine TL.run 8 rfl ?_;refine TL.nil ?_;exact K.aj () trivial (.b (zaJ (za8 (za8 h8 h9) h10)).symm .nil) (List.Sublist.refl _)
    ·have p9:=of_decide_eq_false h9;refine TL.run 16 rfl ?_;refine TL.nil ?_;exact K.aj () trivial (.b (zaJ (zaJ (za8 h8 h9))).symm .nil) (List.Sublist.refl _)
   ·have p8:=of_decide_eq_false h8;refine TL.run 24 rfl ?_;refine TL.nil ?_;exact K.aj () trivial (.b (zaJ (zaJ (zaJ h8))).symm .nil) (List.Sublist.refl _)
  ·rintro _ _;have hm29:p.Domains.length≤9223372036854775807:=hp_0.2.1▸hp_0.1.max;have hm36:p.Rules.Pairs.length≤9223372036854775807:=(List.length_map _)▸hp_1.max;have hm44:p.Rules.Loads.length≤9223372036854775807:=(List.length_map _)▸hp_2.max;have hm52:p.Rules.Caps.length≤9223372036854775807:=(List.length_map _)▸hp_3.max;refine T.ret ?_;obtain rfl:=Option.some.inj hk;exact K.ah rfl rfl (fun w' hw=>⟨rfl,hw.isBelow⟩)
theorem zb6 {ρ:Type}{f:Nat→(Unit→ρ)→Unit→ρ}{k:Unit→ρ}{n:Nat}{z:ρ}(q:Nat→Bool)(hf:∀i next,i<n→f i next ()=bif q i then next () else z):zai f k n 0 ()=bif (List.range n).all q then k () else z:=by
 have key:∀m i,i+m=n→zai f k m i ()=bif (List.range' i m).all q then k () else z:=by
  intro m
  induction m with
  |zero=>intro i _;rfl
  |succ m ih=>
   intro i e
   show f i (zai f k m (i+1)) ()=_
   rw [hf i _ (by omega),ih (i+1) (by omega),List.range'_succ,List.all_cons]
   cases q i <;> rfl
 rw [key n 0 (by omega),List.range_eq_range']
theorem zdy {n:Int}:zaq n=inB n 0 511:=rfl
theorem zkh {a b:Int}:za4 a b=rngB a b:=by
 unfold za4 rngB;by_cases h1:2≤a <;> by_cases h2:a≤b <;> by_cases h3:b≤51 <;> simp [h1,h2,h3]
theorem zke {a b:List Int}(h:a.length=b.length):za9 a b=some (zdz a b):=by
 unfold za9;simp only [zax,Nat.sub_zero]
 have key:∀m i,i+m=a.length→zai (fun (i:Nat) (next:Unit→Option Bool) (_:Unit)=>grd (0≤(i:Int)∧(i:Int)<(b.length:Int)) (bif decide (¬nth a i=nth b i) then some (decide (nth a i<nth b i)) else next ())) (fun _=>some false) m i ()=some (zdz (a.drop i) (b.drop i)):=by
  intro m
  induction m with
  |zero=>intro i e;rw [List.drop_eq_nil_of_le (show a.length≤i by omega)];rfl
  |succ m ih=>
   intro i e;have h2:=ih (i+1) (by omega)
   show grd _ _=_
   rw [zaX ⟨by omega,by omega⟩,ziY (by omega) (by omega)];by_cases e2:nth a i=nth b i
   ·rw [if_pos e2,decide_eq_false (fun hn=>hn e2),cond_false];exact h2
   ·rw [if_neg e2,decide_eq_true e2,cond_true]
 exact key a.length 0 (by omega)
def hasS (p:GProblem)(s:Int):Bool:=p.Domains.any fun d=>decide (d.Station=s)
theorem zjL {p:GProblem}{s:Int}:zad p s<0↔hasS p s=false:=by
 unfold zad hasS;simp only [zax,Nat.sub_zero]
 have key:∀m i,i+m=p.Domains.length→(zai (fun (i:Nat) (next:Unit→Int) (_:Unit)=>bif decide ((nth p.Domains i).Station=s) then (i:Int) else next ()) (fun _=>(-1)) m i ()<0↔((p.Domains.drop i).any fun d=>decide (d.Station=s))=false):=by
  intro m
  induction m with
  |zero=>intro i e;rw [List.drop_eq_nil_of_le (show p.Domains.length≤i by omega)];exact ⟨fun _=>rfl,fun _=>by show (-1:Int)<0;omega⟩
  |succ m ih=>
   intro i e;have h2:=ih (i+1) (by omega);rw [List.drop_eq_getElem_cons (show i<p.Domains.length by omega),List.any_cons,←zat (show i<p.Domains.length by omega)]
   show (bif decide ((nth p.Domains i).Station=s) then (i:Int) else _)<0↔_
   cases decide ((nth p.Domains i).Station=s) with
   |true=>simp
   |false=>rw [cond_false,Bool.false_or];exact h2
 have:=key p.Domains.length 0 (by omega)
 rwa [List.drop_zero] at this
theorem zcg (i:Nat):((i:Int) - 1).toNat=i - 1:=by omega
theorem zlM {p : GProblem} {i : Nat} {next : Unit → Option Bool} (hi : i < p.Rules.Pairs.length) :
    (bif !(zaq ((nth p.Rules.Pairs i).A)) then (bif true then some false else next ()) else
      (bif !(zaq ((nth p.Rules.Pairs i).B)) then (bif true then some false else next ()) else
      (bif decide ((nth p.Rules.Pairs i).B ≤ (nth p.Rules.Pairs i).A) then (bif true then some false else next ()) else
      (bif decide ((nth p.Rules.Pairs i).Offset < (-1)) then (bif true then some false else next ()) else
      (bif decide (1 < (nth p.Rules.Pairs i).Offset) then (bif true then some false else next ()) else
      (bif !(za4 ((nth p.Rules.Pairs i).Low) ((nth p.Rules.Pairs i).High)) then (bif true then some false else next ()) else
      (bif decide (0 < (i : Int)) then (za9 (zaC (nth p.Rules.Pairs (((i : Int) - 1).toNat))) (zaC (nth p.Rules.Pairs i))).bind fun r => (bif !r then some false else next ()) else (bif false then some false else next ())))))))) = bif zgf (pbG p).ps i then next () else some false := by
  have e1 : nth (pbG p).ps i = (nth p.Rules.Pairs i).b := za0 hi; have e2 : nth (pbG p).ps (i - 1) = (nth p.Rules.Pairs (i - 1)).b := za0 (by omega); rw [zcg, zke (by rfl), Option.bind_some]; simp only [zdy, zkh]
  have hr : zgf (pbG p).ps i = (inB (nth p.Rules.Pairs i).A 0 511 && (inB (nth p.Rules.Pairs i).B 0 511 && (!decide ((nth p.Rules.Pairs i).B ≤ (nth p.Rules.Pairs i).A) && (!decide ((nth p.Rules.Pairs i).Offset < (-1)) && (!decide (1 < (nth p.Rules.Pairs i).Offset) && (rngB (nth p.Rules.Pairs i).Low (nth p.Rules.Pairs i).High && (!decide (0 < (i : Int)) || zdz (zaC (nth p.Rules.Pairs (i - 1))) (zaC (nth p.Rules.Pairs i))))))))) := by
    unfold zgf; rw [e1, e2, Bool.eq_iff_iff, decide_eq_true_eq]; simp only [Bool.and_eq_true, Bool.or_eq_true, Bool.not_eq_true', decide_eq_false_iff_not, GPair.b, zaC]; constructor
    · rintro ⟨⟨h1, h2, h3, h4, h5, h6⟩, h9⟩; refine ⟨h1, h2, by omega, by omega, by omega, h6, ?_⟩; rcases Nat.eq_zero_or_pos i with h | h
      · exact .inl (by omega)
      · exact .inr (h9 h)
    · rintro ⟨h1, h2, h3, h4, h5, h6, h9⟩; refine ⟨⟨h1, h2, by omega, by omega, by omega, h6⟩, fun h => ?_⟩; rcases h9 with h9 | h9
      · omega
      · exact h9
  rw [hr]
  cases inB (nth p.Rules.Pairs i).A 0 511
  · rfl
  cases inB (nth p.Rules.Pairs i).B 0 511
  · rfl
  cases decide ((nth p.Rules.Pairs i).B ≤ (nth p.Rules.Pairs i).A)
  rotate_left
  · rfl
  cases decide ((nth p.Rules.Pairs i).Offset < (-1))
  rotate_left
  · rfl
  cases decide (1 < (nth p.Rules.Pairs i).Offset)
  rotate_left
  · rfl
  cases rngB (nth p.Rules.Pairs i).Low (nth p.Rules.Pairs i).High
  · rfl
  cases decide (0 < (i : Int))
  · rfl
  cases zdz (zaC (nth p.Rules.Pairs (i - 1))) (zaC (nth p.Rules.Pairs i)) <;> rfl
theorem zlR {p : GProblem} {i : Nat} {next : Unit → Option Bool} (hi : i < p.Rules.Loads.length) :
    (bif !(zaq ((nth p.Rules.Loads i).To)) then (bif true then some false else next ()) else
      (bif !(zaq ((nth p.Rules.Loads i).From)) then (bif true then some false else next ()) else
      (bif decide ((nth p.Rules.Loads i).To = (nth p.Rules.Loads i).From) then (bif true then some false else next ()) else
      (bif decide ((nth p.Rules.Loads i).Weight < 1) then (bif true then some false else next ()) else
      (bif decide (1073741824 < (nth p.Rules.Loads i).Weight) then (bif true then some false else next ()) else
      (bif !(za4 ((nth p.Rules.Loads i).Low) ((nth p.Rules.Loads i).High)) then (bif true then some false else next ()) else
      (bif decide (0 < (i : Int)) then (za9 (zaB (nth p.Rules.Loads (((i : Int) - 1).toNat))) (zaB (nth p.Rules.Loads i))).bind fun r => (bif !r then some false else next ()) else (bif false then some false else next ())))))))) = bif zgC (pbG p).ls i then next () else some false := by
  have e1 : nth (pbG p).ls i = (nth p.Rules.Loads i).b := za0 hi; have e2 : nth (pbG p).ls (i - 1) = (nth p.Rules.Loads (i - 1)).b := za0 (by omega); rw [zcg, zke (by rfl), Option.bind_some]; simp only [zdy, zkh]
  have hr : zgC (pbG p).ls i = (inB (nth p.Rules.Loads i).To 0 511 && (inB (nth p.Rules.Loads i).From 0 511 && (!decide ((nth p.Rules.Loads i).To = (nth p.Rules.Loads i).From) && (!decide ((nth p.Rules.Loads i).Weight < 1) && (!decide (1073741824 < (nth p.Rules.Loads i).Weight) && (rngB (nth p.Rules.Loads i).Low (nth p.Rules.Loads i).High && (!decide (0 < (i : Int)) || zdz (zaB (nth p.Rules.Loads (i - 1))) (zaB (nth p.Rules.Loads i))))))))) := by
    unfold zgC; rw [e1, e2, Bool.eq_iff_iff, decide_eq_true_eq]; simp only [Bool.and_eq_true, Bool.or_eq_true, Bool.not_eq_true', decide_eq_false_iff_not, GLoad.b, zaB]; constructor
    · rintro ⟨⟨h1, h2, h3, h4, h5, h6⟩, h9⟩; refine ⟨h1, h2, by omega, by omega, by omega, h6, ?_⟩; rcases Nat.eq_zero_or_pos i with h | h
      · exact .inl (by omega)
      · exact .inr (h9 h)
    · rintro ⟨h1, h2, h3, h4, h5, h6, h9⟩; refine ⟨⟨h1, h2, by omega, by omega, by omega, h6⟩, fun h => ?_⟩; rcases h9 with h9 | h9
      · omega
      · exact h9
  rw [hr]
  cases inB (nth p.Rules.Loads i).To 0 511
  · rfl
  cases inB (nth p.Rules.Loads i).From 0 511
  · rfl
  cases decide ((nth p.Rules.Loads i).To = (nth p.Rules.Loads i).From)
  rotate_left
  · rfl
  cases decide ((nth p.Rules.Loads i).Weight < 1)
  rotate_left
  · rfl
  cases decide (1073741824 < (nth p.Rules.Loads i).Weight)
  rotate_left
  · rfl
  cases rngB (nth p.Rules.Loads i).Low (nth p.Rules.Loads i).High
  · rfl
  cases decide (0 < (i : Int))
  · rfl
  cases zdz (zaB (nth p.Rules.Loads (i - 1))) (zaB (nth p.Rules.Loads i)) <;> rfl
theorem zl4 {p : GProblem} {i : Nat} {next : Unit → Option Bool} (hi : i < p.Rules.Caps.length) :
    (bif !(zaq ((nth p.Rules.Caps i).Station)) then (bif true then some false else next ()) else
      (bif decide ((nth p.Rules.Caps i).Max < 0) then (bif true then some false else next ()) else
      (bif decide (1099511627776 < (nth p.Rules.Caps i).Max) then (bif true then some false else next ()) else
      (bif !(za4 ((nth p.Rules.Caps i).Low) ((nth p.Rules.Caps i).High)) then (bif true then some false else next ()) else
      (bif decide (0 < (i : Int)) then (za9 (zaI (nth p.Rules.Caps (((i : Int) - 1).toNat))) (zaI (nth p.Rules.Caps i))).bind fun r => (bif !r then some false else next ()) else (bif false then some false else next ())))))) = bif zgw (pbG p).cs i then next () else some false := by
  have e1 : nth (pbG p).cs i = (nth p.Rules.Caps i).b := za0 hi; have e2 : nth (pbG p).cs (i - 1) = (nth p.Rules.Caps (i - 1)).b := za0 (by omega); rw [zcg, zke (by rfl), Option.bind_some]; simp only [zdy, zkh]
  have hr : zgw (pbG p).cs i = (inB (nth p.Rules.Caps i).Station 0 511 && (!decide ((nth p.Rules.Caps i).Max < 0) && (!decide (1099511627776 < (nth p.Rules.Caps i).Max) && (rngB (nth p.Rules.Caps i).Low (nth p.Rules.Caps i).High && (!decide (0 < (i : Int)) || zdz (zaI (nth p.Rules.Caps (i - 1))) (zaI (nth p.Rules.Caps i))))))) := by
    unfold zgw; rw [e1, e2, Bool.eq_iff_iff, decide_eq_true_eq]; simp only [Bool.and_eq_true, Bool.or_eq_true, Bool.not_eq_true', decide_eq_false_iff_not, GCap.b, zaI]; constructor
    · rintro ⟨⟨h1, h2, h3, h4⟩, h9⟩; refine ⟨h1, by omega, by omega, h4, ?_⟩; rcases Nat.eq_zero_or_pos i with h | h
      · exact .inl (by omega)
      · exact .inr (h9 h)
    · rintro ⟨h1, h2, h3, h4, h9⟩; refine ⟨⟨h1, by omega, by omega, h4⟩, fun h => ?_⟩; rcases h9 with h9 | h9
      · omega
      · exact h9
  rw [hr]
  cases inB (nth p.Rules.Caps i).Station 0 511
  · rfl
  cases decide ((nth p.Rules.Caps i).Max < 0)
  rotate_left
  · rfl
  cases decide (1099511627776 < (nth p.Rules.Caps i).Max)
  rotate_left
  · rfl
  cases rngB (nth p.Rules.Caps i).Low (nth p.Rules.Caps i).High
  · rfl
  cases decide (0 < (i : Int))
  · rfl
  cases zdz (zaI (nth p.Rules.Caps (i - 1))) (zaI (nth p.Rules.Caps i)) <;> rfl
theorem zgO {p:GProblem}:zbr p.Rules=some (zfY (pbG p)):=by
 unfold zbr;simp only [zax,Nat.sub_zero];rw [zb6 (n:=p.Rules.Pairs.length) (z:=some false) (zgf (pbG p).ps) (fun i next hi=>zlM hi),zb6 (n:=p.Rules.Loads.length) (z:=some false) (zgC (pbG p).ls) (fun i next hi=>zlR hi),zb6 (n:=p.Rules.Caps.length) (z:=some false) (zgw (pbG p).cs) (fun i next hi=>zl4 hi)];have l1:(pbG p).ps.length=p.Rules.Pairs.length:=List.length_map _;have l2:(pbG p).ls.length=p.Rules.Loads.length:=List.length_map _;have l3:(pbG p).cs.length=p.Rules.Caps.length:=List.length_map _;unfold zfY;rw [l1,l2,l3];by_cases h:p.Rules.Pairs.length≤4096∧p.Rules.Loads.length≤1024∧p.Rules.Caps.length≤1024
 ·rw [decide_eq_true h,decide_eq_false (by omega),decide_eq_false (by omega),decide_eq_false (by omega)]
  cases (List.range p.Rules.Pairs.length).all (zgf (pbG p).ps)
  ·rfl
  cases (List.range p.Rules.Loads.length).all (zgC (pbG p).ls)
  ·rfl
  cases (List.range p.Rules.Caps.length).all (zgw (pbG p).cs) <;> rfl
 ·rw [decide_eq_false h];by_cases h1:(4096:Int)<p.Rules.Pairs.length
  ·rw [decide_eq_true h1];rfl
  ·by_cases h2:(1024:Int)<p.Rules.Loads.length
   ·rw [decide_eq_true h2,Bool.or_true];rfl
   ·rw [decide_eq_true (show (1024:Int)<p.Rules.Caps.length by omega),Bool.or_true];rfl
theorem zh5 {p:GProblem}{s:Int}:zad p s<0↔¬0≤zgq (pbG p).ds s:=by
 rw [zjL,zhz];unfold hasS;rw [List.any_eq_false];have l:(pbG p).ds.length=p.Domains.length:=List.length_map _;constructor
 ·rintro h ⟨i,hi,e⟩;rw [l] at hi;have e1:nth (pbG p).ds i=(nth p.Domains i).b:=za0 hi;rw [e1] at e;exact h _ (zak hi) (decide_eq_true e)
 ·intro h x hx hd;obtain ⟨i,hi,rfl⟩:=zaK hx;refine h ⟨i,by rw [l];exact hi,?_⟩;have e1:nth (pbG p).ds i=(nth p.Domains i).b:=za0 hi;rw [e1];exact of_decide_eq_true hd
theorem zky {p:GProblem}:zbV p=some (okG p):=by
 have l0:(pbG p).ds.length=p.Domains.length:=List.length_map _;have l1:(pbG p).ps.length=p.Rules.Pairs.length:=List.length_map _;have l2:(pbG p).ls.length=p.Rules.Loads.length:=List.length_map _;have l3:(pbG p).cs.length=p.Rules.Caps.length:=List.length_map _;have n0:∀k,k<p.Domains.length→nth (pbG p).ds k=(nth p.Domains k).b:=fun k hk=>za0 hk;have n1:∀k,k<p.Rules.Pairs.length→nth (pbG p).ps k=(nth p.Rules.Pairs k).b:=fun k hk=>za0 hk;have n2:∀k,k<p.Rules.Loads.length→nth (pbG p).ls k=(nth p.Rules.Loads k).b:=fun k hk=>za0 hk;have n3:∀k,k<p.Rules.Caps.length→nth (pbG p).cs k=(nth p.Rules.Caps k).b:=fun k hk=>za0 hk;unfold zbV okG;rw [←zjM];simp only [zax,Nat.sub_zero,zgO,Option.bind_some];rw [zb6 (n:=p.Domains.length) (z:=some false) (zi2 (pbG p).ds) (fun i next hi=>?_),zb6 (n:=p.Rules.Pairs.length) (z:=some false) (zji (pbG p)) (fun i next hi=>?_),zb6 (n:=p.Rules.Loads.length) (z:=some false) (ziR (pbG p)) (fun i next hi=>?_),zb6 (n:=p.Rules.Caps.length) (z:=some false) (zjk (pbG p)) (fun i next hi=>?_)]
 ·unfold zko;rw [l0,l1,l2,l3];by_cases h:p.Domains.length≤512
  ·rw [decide_eq_true h,decide_eq_false (by omega)]
   cases zfY (pbG p)
   ·rfl
   cases (List.range p.Domains.length).all (zi2 (pbG p).ds)
   ·rfl
   cases (List.range p.Rules.Pairs.length).all (zji (pbG p))
   ·rfl
   cases (List.range p.Rules.Loads.length).all (ziR (pbG p))
   ·rfl
   cases (List.range p.Rules.Caps.length).all (zjk (pbG p)) <;> rfl
  ·rw [decide_eq_false h,decide_eq_true (by omega)];rfl
 ·have hr:zjk (pbG p) i= !decide (zad p (nth p.Rules.Caps i).Station<0):=by
   unfold zjk;rw [n3 i hi,Bool.eq_iff_iff,decide_eq_true_eq];simp only [Bool.not_eq_true',decide_eq_false_iff_not,zh5,Decidable.not_not,GCap.b]
  rw [hr]
  cases decide (zad p (nth p.Rules.Caps i).Station<0) <;> rfl
 ·have hr:ziR (pbG p) i=(!decide (zad p (nth p.Rules.Loads i).To<0)&& !decide (zad p (nth p.Rules.Loads i).From<0)):=by
   unfold ziR;rw [n2 i hi,Bool.eq_iff_iff,decide_eq_true_eq];simp only [Bool.and_eq_true,Bool.not_eq_true',decide_eq_false_iff_not,zh5,Decidable.not_not,GLoad.b]
  rw [hr]
  cases decide (zad p (nth p.Rules.Loads i).To<0) <;> cases decide (zad p (nth p.Rules.Loads i).From<0) <;> rfl
 ·have hr:zji (pbG p) i=(!decide (zad p (nth p.Rules.Pairs i).A<0)&& !decide (zad p (nth p.Rules.Pairs i).B<0)):=by
   unfold zji;rw [n1 i hi,Bool.eq_iff_iff,decide_eq_true_eq];simp only [Bool.and_eq_true,Bool.not_eq_true',decide_eq_false_iff_not,zh5,Decidable.not_not,GPair.b]
  rw [hr]
  cases decide (zad p (nth p.Rules.Pairs i).A<0) <;> cases decide (zad p (nth p.Rules.Pairs i).B<0) <;> rfl
 ·rw [zb6 (n:=(nth p.Domains i).Channels.length) (z:=some false) (zhd (nth p.Domains i).Channels) (fun k nx hk=>?_)]
  ·have hr:zi2 (pbG p).ds i=(inB (nth p.Domains i).Station 0 511&&(!(decide (0<(i:Int))&&decide ((nth p.Domains i).Station≤(nth p.Domains (i - 1)).Station))&&(!decide (50<((nth p.Domains i).Channels.length:Int))&&(List.range (nth p.Domains i).Channels.length).all (zhd (nth p.Domains i).Channels)))):=by
    unfold zi2;rw [n0 i hi,n0 (i - 1) (by omega),Bool.eq_iff_iff,decide_eq_true_eq];simp only [Bool.and_eq_true,Bool.not_eq_true',Bool.and_eq_false_iff,decide_eq_false_iff_not,GDomain.b];constructor
    ·rintro ⟨⟨h1,h2,h3⟩,h4⟩;exact ⟨h1,by rcases Nat.eq_zero_or_pos i with h|h;exact .inl (by omega);exact .inr (by have:=h2 h;omega),by omega,h4⟩
    ·rintro ⟨h1,h2,h3,h4⟩;exact ⟨⟨h1,fun h=>by omega,by omega⟩,h4⟩
   rw [hr,zcg,zdy]
   cases inB (nth p.Domains i).Station 0 511
   ·rfl
   cases (decide (0<(i:Int))&&decide ((nth p.Domains i).Station≤(nth p.Domains (i - 1)).Station))
   rotate_left
   ·rfl
   cases decide (50<((nth p.Domains i).Channels.length:Int))
   rotate_left
   ·rfl
   rfl
  ·have hr:zhd (nth p.Domains i).Channels k=(!decide (nth (nth p.Domains i).Channels k<2)&&(!decide (51<nth (nth p.Domains i).Channels k)&& !(decide (0<(k:Int))&&decide (nth (nth p.Domains i).Channels k≤nth (nth p.Domains i).Channels (k - 1))))):=by
    unfold zhd;rw [Bool.eq_iff_iff,decide_eq_true_eq];simp only [Bool.and_eq_true,Bool.not_eq_true',Bool.and_eq_false_iff,decide_eq_false_iff_not];omega
   rw [hr,zcg]
   cases decide (nth (nth p.Domains i).Channels k<2)
   rotate_left
   ·rfl
   cases decide (51<nth (nth p.Domains i).Channels k)
   rotate_left
   ·rfl
   cases (decide (0<(k:Int))&&decide (nth (nth p.Domains i).Channels k≤nth (nth p.Domains i).Channels (k - 1))) <;> rfl
def zbM (p:GProblem)(s:Int):Bool:=p.Domains.any fun d=>decide (d.Station=s)
def zep (c:GChoice):Bool:=decide (0≤c.Station∧c.Station<512∧2≤c.Channel∧c.Channel≤51)
def ze2 (fuel:Nat)(p:GProblem)(m:List GDomain×Bool)(keep:Bool)(c:GChoice):Option ((List GDomain×Bool)×Int):=
 bif !zep c then some (m,2) else
 bif !m.2 then some (m,8) else
 bif !zbM p c.Station then some (m,9) else
 (bif keep then zbE m.1 c.Station c.Channel else zba m.1 c.Station c.Channel).bind fun d=>(za2 fuel p d).bind fun r=>some (r,0)
section
variable {p:GProblem}{m:List GDomain×Bool}{k:SK}{L:Ws}{w:World}{F0:Frz}
theorem SI.stF (h:SI p m k L){b:Bool}(hok:(stE k L b).ok w)(htab:Tab w):StF k.w0 w k.sp k.gl k.tp k.Y L b:=by
 obtain ⟨h1,h2⟩:=Ent.bag_ok.1 hok;exact StF.of (Hp.startL h1 h2) h.tb (Ent.fz_ok.1 (h1 _ (by simp))) htab 0 1 rfl rfl h.len
theorem zgM (hs:StateAt w k.sp k.Y L (!m.2)):Calls Tryz.prog 68 #[.pointer (some ⟨k.sp,0,none⟩)] w fun e w'=>e= .returned (.bool (!m.2))∧Below w.heap.size w w':=
 zhx k.sp k.Y L (!m.2) w hs
theorem SI.ok (h:SI p m k L):k.Y.Ok:=by obtain ⟨P,_,hok,hY⟩:=h.pb;exact hY.ok (Pb.good hok)
theorem er_pl {xs:List Dx}{Y:Tb}{L:Ws}(h:xs.map Dx.pl=zhO Y L Y.n):xs.map Dx.er=gd Y L:=by
 (have e:xs.map Dx.er=(xs.map Dx.pl).map fun q=>(⟨q.1,q.2⟩:GDomain):=by rw [List.map_map];rfl);rw [e,h];unfold zhO gd;rw [List.map_map];rfl
theorem zhV (hF0:F0.At w)(h:SI p m k L)(hs:StateAt w k.sp k.Y L (!m.2)):Calls Tryz.prog 48 #[.pointer (some ⟨k.sp,0,none⟩)] w fun e w'=>∃(y:Value×List (List Value)) (G:Frz),SlD GDomain.rep G y.1 2 y.2 m.1∧e= .returned y.1∧Fx F0 w G w':=by
 cases hm:m.2 with
 |false=>
  rw [hm] at hs;refine (zik k.sp k.Y L w hs).mono ?_;rintro e w' ⟨rfl,hb⟩;exact ⟨(.slice none 0 0,[]),F0,by rw [h.bad hm];exact SlD.nil _ _ 2,rfl,Fx.refl hF0 hb⟩
 |true=>
  rw [hm] at hs;refine (ziP k.sp k.Y L w hs h.ok).mono ?_;rintro e w' ⟨⟨v,xs⟩,hp,rfl,hw⟩;obtain ⟨G,h1,cs,h2⟩:=zle hF0 hw;refine ⟨(v,cs),G,?_,rfl,h1⟩;rw [(h.good hm).2.2,←er_pl hp];exact h2
theorem zjZ {ds:List Dx}{j:Nat}:∀k,(∀i,i<k→(nth ds i).st.toNat≠j)→ixAt ds k j=0
 |0,_=>rfl
 |k+1,h=>by
  unfold ixAt;rw [if_neg (fun e=>h k (by omega) e.symm)];exact zjZ k (fun i hi=>h i (by omega))
theorem zjt {P:Pb}{Y:Tb}(hok:P.ok=true)(hY:TbOf P Y){i:Nat}(hi:i<Y.n):atF Y (nth Y.st i)=((i:Int),true):=by
 have hG:=Pb.good hok;have h1:=hG.st (nth P.ds i) (zak (by rw [←hY.n];exact hi));rw [←hY.nth_st hi] at h1;have h2:=zhM hG hY hi;unfold Pb.ix at h2;unfold atF;rw [hY.ix,if_neg (by omega)]
 congr 1
theorem zmD {P:Pb}{Y:Tb}(hok:P.ok=true)(hY:TbOf P Y){s:Int}(h:∀i,i<Y.n→nth Y.st i≠s):atF Y s=(0,false):=by
 have hG:=Pb.good hok;unfold atF;by_cases hs:s<0∨512≤s
 ·rw [if_pos (by rcases hs with h1|h1;exact .inl h1;exact .inr (.inl h1))]
 ·have h0:Y.ix s.toNat=0:=by
   rw [hY.ix];refine zjZ _ fun i hi e=>?_; (have hi':i<Y.n:=by rw [hY.n];exact hi);have h1:=hG.st (nth P.ds i) (zak hi);apply h i hi';rw [hY.nth_st hi'];omega
  rw [if_pos (.inr (.inr h0))]
theorem zc9 {P:Pb}{Y:Tb}(hY:TbOf P Y){s:Int}:zbM P.er s=true↔∃i,i<Y.n∧nth Y.st i=s:=by
 unfold zbM;rw [List.any_eq_true]
 show (∃x∈P.ds.map Dx.er,_)↔_
 constructor
 ·rintro ⟨x,hx,h⟩;obtain ⟨i,hi,rfl⟩:=zaK hx;rw [List.length_map] at hi;rw [zaL hi] at h; (have hi':i<Y.n:=by rw [hY.n];exact hi);exact ⟨i,hi',by rw [hY.nth_st hi'];exact of_decide_eq_true h⟩
 ·rintro ⟨i,hi,rfl⟩; (have hi':i<P.ds.length:=by rw [←hY.n];exact hi);exact ⟨Dx.er (nth P.ds i),List.mem_map.2 ⟨_,zak hi',rfl⟩,decide_eq_true (hY.nth_st hi).symm⟩
theorem zlA {Y:Tb}{L:Ws}{i:Nat}{g:BitVec 64}{f:GDomain→GDomain}(hl:L.length=Y.n)(hi:i<Y.n)(h1:f (nth (gd Y L) i)=⟨nth Y.st i,(chansN (nth L i &&& ~~~g)).map fun j:Nat=>(j:Int)⟩)(h2:∀j,j<Y.n→j≠i→f (nth (gd Y L) j)=nth (gd Y L) j):(gd Y L).map f=gd Y (cutL L i g):=by
 refine zdg (by rw [List.length_map,zbf,zbf]) fun j hj=>?_;rw [List.length_map,zbf] at hj;rw [zaL (by rw [zbf];exact hj),zbK (L:=cutL L i g) hj];unfold cutL;rw [zbY (by omega)];by_cases e:j=i
 ·subst e;rw [if_pos rfl,h1]
 ·rw [if_neg e,h2 j hj e,zbK hj]
theorem zk0 {b:BitVec 64}{c j:Nat}(hc:c<64):(b &&& ~~~(~~~(1#64 <<< c))).getLsbD j=(b.getLsbD j&&decide (c=j)):=by
 rw [BitVec.not_not,BitVec.getLsbD_and];by_cases hj:j<64
 ·rw [zhN hj]
 ·rw [BitVec.getLsbD_of_ge b j (by omega)];simp
theorem ziB {b:BitVec 64}{c j:Nat}(hc:c<64):(b &&& ~~~(1#64 <<< c)).getLsbD j=(b.getLsbD j&& !decide (c=j)):=by
 rw [BitVec.getLsbD_and];by_cases hj:j<64
 ·rw [BitVec.getLsbD_not,zhN hj];simp [hj]
 ·rw [BitVec.getLsbD_of_ge b j (by omega)];simp
theorem zjc {b:BitVec 64}{c:Nat}(hc:c<64):chansN (b &&& ~~~(~~~(1#64 <<< c)))=if b.getLsbD c then [c] else []:=by
 have h:∀j,j∈chansN (b &&& ~~~(~~~(1#64 <<< c)))↔j∈(if b.getLsbD c then [c] else []):=fun j=>by
  rw [chansN_mem,zk0 hc]
  cases hb:b.getLsbD c with
  |false=>
   simp;intro h e;subst e;rw [hb] at h;cases h
  |true=>
   simp;constructor
   ·rintro ⟨_,rfl⟩;rfl
   ·rintro rfl;exact ⟨hb,rfl⟩
 refine zcO chansN_sub ?_ List.nodup_range' h
 split
 ·exact List.singleton_sublist.2 (List.mem_range'_1.2 ⟨by omega,by omega⟩)
 ·exact List.nil_sublist _
theorem zkP {Y:Tb}{L:Ws}{i c:Nat}(hl:L.length=Y.n)(hi:i<Y.n)(hinj:∀j,j<Y.n→nth Y.st j=nth Y.st i→j=i)(hc:c<64):(gd Y L).map (zcj (nth Y.st i) c)=gd Y (cutL L i (~~~(1#64 <<< c))):=by
 refine zlA hl hi ?_ (fun j hj hne=>?_)
 ·rw [zbK hi,zjc hc];unfold zcj;dsimp only;rw [decide_eq_true rfl,cond_true]
  congr 1
  have e:((chansN (nth L i)).map fun j:Nat=>(j:Int)).any (fun k=>decide (k=(c:Int)))=(nth L i).getLsbD c:=by
   rw [Bool.eq_iff_iff,List.any_eq_true];constructor
   ·rintro ⟨q,hq,h⟩;obtain ⟨j,hj,rfl⟩:=mapI_mem.1 hq;have:=of_decide_eq_true h;rw [show c=j by omega];exact chansN_mem.1 hj
   ·intro h;exact ⟨c,mapI_mem.2 ⟨c,chansN_mem.2 h,rfl⟩,by simp⟩
  rw [e]
  cases (nth L i).getLsbD c <;> rfl
 ·rw [zbK hj];unfold zcj;dsimp only;rw [decide_eq_false (fun e=>hne (hinj j hj e)),cond_false]
theorem zlr {Y:Tb}{L:Ws}{i c:Nat}(hl:L.length=Y.n)(hi:i<Y.n)(hinj:∀j,j<Y.n→nth Y.st j=nth Y.st i→j=i)(hc:c<64):(gd Y L).map (zcD (nth Y.st i) c)=gd Y (cutL L i (1#64 <<< c)):=by
 refine zlA hl hi ?_ (fun j hj hne=>?_)
 ·rw [zbK hi];unfold zcD;dsimp only
  congr 1
  rw [zea (b:=nth L i) (c:=nth L i &&& ~~~(1#64 <<< c)) (fun j hj=>by rw [ziB hc,Bool.and_eq_true] at hj;exact hj.1),List.filter_map]
  congr 1
  apply List.filter_congr;intro j hj;rw [ziB hc,chansN_mem.1 hj];simp only [Function.comp,Bool.true_and,not_true_eq_false,decide_false,Bool.false_or];by_cases e:c=j
  ·subst e;simp
  ·(have:¬(j:Int)=(c:Int):=by omega);simp [e,this]
 ·rw [zbK hj];unfold zcD;dsimp only
  congr 1
  rw [List.filter_eq_self];intro q _;rw [Bool.or_eq_true];exact .inl (decide_eq_true (fun e=>hne (hinj j hj e)))
theorem SI.two (h:SI p m k L){b:Bool}(hok:(stE k L b).ok w)(htab:Tab w)(hn0:0<k.Y.n):Hp w (fps [sRow k.sp k.gl k.tp k.Y.n b,zaT k.gl k.Y.n L]) [sRow k.sp k.gl k.tp k.Y.n b,zaT k.gl k.Y.n L] w∧(∀g,fps [sRow k.sp k.gl k.tp k.Y.n b,zaT k.gl k.Y.n L] g→¬IsC k.w0 g)∧¬fps [sRow k.sp k.gl k.tp k.Y.n b,zaT k.gl k.Y.n L] 0∧Fz k.w0 w:=by
 obtain ⟨h1,h2⟩:=Ent.bag_ok.1 hok;have h3:([sRow k.sp k.gl k.tp k.Y.n b,zaT k.gl k.Y.n L]++[Ent.fz k.w0]).Pairwise fun e f=>∀g,e.fp g→¬f.fp g:=h2;obtain ⟨a1,a2,a3⟩:=List.pairwise_append.1 h3;refine ⟨Hp.startL (fun e he=>h1 e (by simp at he ⊢;rcases he with h|h <;> simp [h])) a1,fun g ⟨e,he,hg⟩ hc=>a3 e he _ (by simp) g hg (Ent.fz_fp.2 hc),?_,Ent.fz_ok.1 (h1 _ (by simp))⟩;rintro ⟨e,he,hg⟩;have hT:=htab 0 (by decide);simp at he;rcases he with rfl|rfl
 ·have h4:=Ent.row_fp.1 hg;have h5:=Ent.row_ok.1 (h1 (sRow k.sp k.gl k.tp k.Y.n b) (by simp));rw [←h4] at h5;rw [za1 h5] at hT
  cases hT
 ·have h4:=Ent.sl_fp.1 hg;have h5:=Ent.sl_ok.1 (h1 (zaT k.gl k.Y.n L) (by simp)); (have e0:k.gl.b=0:=by simpa [sG,Value.ownBlock] using h4);have h9:=World.ownsRow.cellAt (by have:=h5;unfold sG at this;exact this) 0 (by omega);rw [e0] at h9;rw [hT] at h9
  cases L with
  |nil=>have:=h.len;simp at this;omega
  |cons x r=>simp [Ws.cells] at h9
theorem zjw (h:SI p m k L){c:GChoice}:zaW k.Y (!m.2) c.b=bif !zep c then (0,2) else bif !m.2 then (0,8) else bif !zbM p c.Station then (0,9) else ((atF k.Y c.Station).1,0):=by
 obtain ⟨P,rfl,hok,hY⟩:=h.pb;unfold zaW GChoice.b zep;dsimp only;by_cases h1:c.Station<0∨512≤c.Station∨c.Channel<2∨51<c.Channel
 ·rw [if_pos h1,decide_eq_false (by omega)];rfl
 ·rw [if_neg h1,decide_eq_true (by omega)];simp only [Bool.not_true,cond_false]
  cases m.2 with
  |false=>rfl
  |true=>
   simp only [Bool.not_true,cond_false,Bool.false_eq_true,if_false]
   cases hh:zbM P.er c.Station with
   |true=>
    obtain ⟨i,hi,e⟩:=(zc9 hY).1 hh;rw [←e,zjt hok hY hi];rfl
   |false=>
    rw [zmD hok hY (s:=c.Station) (fun i hi e=>by rw [(zc9 hY).2 ⟨i,hi,e⟩] at hh;cases hh)];rfl
theorem zlB (kp : Bool) (num : FuncId) (h : SI p m k L) (hok : (stE k L (!m.2)).ok w) (htab : Tab w) {fuel : Nat} (hf : 100000 ≤ fuel) (c : GChoice) {r : (List GDomain × Bool) × Int} (hr : ze2 fuel p m kp c = some r)
    (hE : (zaW k.Y (!m.2) c.b).2 ≠ 0 → Calls Tryz.prog num #[.pointer (some ⟨k.sp, 0, none⟩), .agg (Ch.cells c.b).toArray] w fun e w' => e = .returned (.int .i64 (zaW k.Y (!m.2) c.b).2) ∧ Below w.heap.size w w')
    (hO : m.2 = true → (zaW k.Y false c.b).2 = 0 → Calls Tryz.prog num #[.pointer (some ⟨k.sp, 0, none⟩), .agg (Ch.cells c.b).toArray] w fun e w' => ∃ y : Ws × Bool, SPost k.Y (cutL L (zaW k.Y false c.b).1.toNat (bif kp then ~~~(1#64 <<< c.Channel.toNat) else 1#64 <<< c.Channel.toNat)) y.1 y.2 ∧ e = .returned (.int .i64 0) ∧ Hp w (fps [sRow k.sp k.gl k.tp k.Y.n false, zaT k.gl k.Y.n L]) [sRow k.sp k.gl k.tp k.Y.n y.2, zaT k.gl k.Y.n y.1] w') :
    Calls Tryz.prog num #[.pointer (some ⟨k.sp, 0, none⟩), .agg [.int .i64 c.Station, .int .i64 c.Channel].toArray] w fun e w' => ∃ L', SI p r.1 k L' ∧ e = .returned (.int .i64 r.2) ∧ Hp w (stE k L (!m.2)).fp [stE k L' (!r.1.2)] w' := by
  have hfit := zjw h (c := c)
  have keepE : ∀ {n : Int}, r = (m, n) → (zaW k.Y (!m.2) c.b).2 = n → n ≠ 0 → Calls Tryz.prog num #[.pointer (some ⟨k.sp, 0, none⟩), .agg [.int .i64 c.Station, .int .i64 c.Channel].toArray] w fun e w' => ∃ L', SI p r.1 k L' ∧ e = .returned (.int .i64 r.2) ∧ Hp w (stE k L (!m.2)).fp [stE k L' (!r.1.2)] w' := by
    intro n hr hc hn; subst hr; refine (hE (by rw [hc]; exact hn)).mono ?_; rintro e w' ⟨rfl, hb⟩; exact ⟨L, h, by rw [hc], (Hp.start hok).below hb⟩
  unfold ze2 at hr
  cases hg : zep c with
  | false => rw [hg] at hr hfit; exact keepE (Option.some.inj hr).symm (by rw [hfit]; rfl) (by decide)
  | true =>
    rw [hg] at hr hfit; simp only [Bool.not_true, cond_false] at hr hfit
    cases hm : m.2 with
    | false => rw [hm] at hr hfit; rw [← hm]; exact keepE (Option.some.inj hr).symm (by rw [hm]; rw [hfit]; rfl) (by decide)
    | true =>
      rw [hm] at hr hfit; simp only [Bool.not_true, cond_false] at hr hfit
      cases hh : zbM p c.Station with
      | false => rw [hh] at hr hfit; rw [← hm]; exact keepE (Option.some.inj hr).symm (by rw [hm, Bool.not_true, hfit]; rfl) (by decide)
      | true =>
        rw [hh] at hr hfit; simp only [Bool.not_true, cond_false] at hr hfit; obtain ⟨P, rfl, hok', hY⟩ := h.pb; have hG := Pb.good hok'; obtain ⟨i, hi, e⟩ := (zc9 hY).1 hh; rw [← e, zjt hok' hY hi] at hfit; obtain ⟨hC, hb, hd⟩ := h.good hm; (have hch : 2 ≤ c.Channel ∧ c.Channel ≤ 51 := by have := of_decide_eq_true hg; omega); have hn := hY.n; have h512 := hG.n; have hbd : Bd (gd k.Y L) := zmG (by omega); have hinj : ∀ j, j < k.Y.n → nth k.Y.st j = nth k.Y.st i → j = i := fun j hj e' => zet hG hY hj hi e'; have hcn : ((c.Channel.toNat : Nat) : Int) = c.Channel := Int.toNat_of_nonneg (by omega)
        -- the domains after the cut
        have hdom : (bif kp then zbE m.1 c.Station c.Channel else zba m.1 c.Station c.Channel) = some (gd k.Y (cutL L i (bif kp then ~~~(1#64 <<< c.Channel.toNat) else 1#64 <<< c.Channel.toNat))) := by
          rw [hd, ← e]
          cases kp with
          | true => rw [cond_true, cond_true, zj3 hbd.len (fun x hx => (hbd.ch x hx).1), ← zkP h.len hi hinj (by omega), hcn]
          | false => rw [cond_false, cond_false, zj6 hbd.len (fun x hx => (hbd.ch x hx).1), ← zlr h.len hi hinj (by omega), hcn]
        rw [hdom, Option.bind_some] at hr; obtain ⟨q, hq, hr⟩ := zal hr; obtain rfl := Option.some.inj hr; refine (hO hm (by rw [hfit])).mono ?_; rintro e' w' ⟨⟨L', c'⟩, hp, rfl, hw⟩; rw [hfit] at hp; dsimp only at hp hw ⊢; rw [Int.toNat_natCast] at hp; (have hlen : (cutL L i (bif kp then ~~~(1#64 <<< c.Channel.toNat) else 1#64 <<< c.Channel.toNat)).length = k.Y.n := by unfold cutL; rw [List.length_set, h.len]); obtain ⟨h3, h4⟩ := SI.of hok' hY h.tb hlen (hb.le zkD) (Is.of (hY.ok hG) hlen hp) hf hq; refine ⟨L', h3, rfl, ?_⟩; rw [← h4]; (have hok2 : (Ent.bag ([sRow k.sp k.gl k.tp k.Y.n false, zaT k.gl k.Y.n L] ++ [Ent.fz k.w0])).ok w := by rw [hm] at hok; exact hok); exact zlj hok2 hw
theorem zjv (h : SI p m k L) (hok : (stE k L (!m.2)).ok w) (htab : Tab w) {fuel : Nat} (hf : 100000 ≤ fuel) (c : GChoice) {r : (List GDomain × Bool) × Int} (hr : ze2 fuel p m true c = some r) :
    Calls Tryz.prog 69 #[.pointer (some ⟨k.sp, 0, none⟩), .agg [.int .i64 c.Station, .int .i64 c.Channel].toArray] w fun e w' => ∃ L', SI p r.1 k L' ∧ e = .returned (.int .i64 r.2) ∧ Hp w (stE k L (!m.2)).fp [stE k L' (!r.1.2)] w' := by
  have hs := (h.stF hok htab).st; obtain ⟨P, hP, hok', hY⟩ := h.pb; have hix := hY.ixn; refine zlB true _ h hok htab hf c hr (fun he => zgb k.sp k.Y L (!m.2) c.b w hs (k.Y.ix512 h.ok hix) he) (fun hm he => ?_); have hok2 := hok; rw [hm] at hok2; (have hn0 : 0 < k.Y.n := by have := zcT (Y := k.Y) hix he; omega); obtain ⟨h1, h2, h3, h4⟩ := h.two hok2 htab hn0; exact zj5 k.w0 k.sp k.gl k.tp k.Y L w h.tb h.ok h4 htab h1 h2 h3 h.len (h.good hm).1.calm hix c.b he
theorem zkw (h : SI p m k L) (hok : (stE k L (!m.2)).ok w) (htab : Tab w) {fuel : Nat} (hf : 100000 ≤ fuel) (c : GChoice) {r : (List GDomain × Bool) × Int} (hr : ze2 fuel p m false c = some r) :
    Calls Tryz.prog 72 #[.pointer (some ⟨k.sp, 0, none⟩), .agg [.int .i64 c.Station, .int .i64 c.Channel].toArray] w fun e w' => ∃ L', SI p r.1 k L' ∧ e = .returned (.int .i64 r.2) ∧ Hp w (stE k L (!m.2)).fp [stE k L' (!r.1.2)] w' := by
  have hs := (h.stF hok htab).st; obtain ⟨P, hP, hok', hY⟩ := h.pb; have hix := hY.ixn; refine zlB false _ h hok htab hf c hr (fun he => zf1 k.sp k.Y L (!m.2) c.b w hs (k.Y.ix512 h.ok hix) he) (fun hm he => ?_); have hok2 := hok; rw [hm] at hok2; (have hn0 : 0 < k.Y.n := by have := zcT (Y := k.Y) hix he; omega); obtain ⟨h1, h2, h3, h4⟩ := h.two hok2 htab hn0; exact zkF k.w0 k.sp k.gl k.tp k.Y L w h.tb h.ok h4 htab h1 h2 h3 h.len (h.good hm).1.calm hix c.b he
end
theorem zl5 {p:GProblem}{a b:Int}{fuel:Nat}(hf:1000≤fuel):∃r,zcc fuel p a b=some r:=by
 unfold zcc;simp only [zax];refine zck (σ:=Int) (I:=fun i=>0≤i∧i≤600) (μ:=fun i=>(600 - i).toNat) (post:=fun o=>∃r,o=some r) ⟨by omega,by omega⟩ (by omega) ?_;intro i next hi hn;by_cases h1:i<(p.Domains.length:Int) <;> by_cases h2:i<600
 ·rw [decide_eq_true h1,decide_eq_true h2,Bool.and_true,cond_true,zaX ⟨hi.1,h1⟩]
  cases decide (60<((nth p.Domains i.toNat).Channels.length:Int))
  ·exact hn _ ⟨by omega,by omega⟩ (by omega)
  ·exact ⟨_,rfl⟩
 ·rw [decide_eq_false h2,Bool.and_false,cond_false];exact ⟨_,rfl⟩
 ·rw [decide_eq_false h1,Bool.false_and,cond_false];exact ⟨_,rfl⟩
 ·rw [decide_eq_false h1,Bool.false_and,cond_false];exact ⟨_,rfl⟩
theorem keepD_mem {s c:Int}{x:GDomain}{q:Int}:q∈(zcj s c x).Channels↔q∈x.Channels∧(x.Station=s→q=c):=by
 unfold zcj;dsimp only;by_cases hs:x.Station=s
 ·rw [decide_eq_true hs,cond_true]
  cases ha:x.Channels.any (fun k=>decide (k=c)) with
  |true=>
   rw [cond_true];obtain ⟨k,hk,he⟩:=List.any_eq_true.1 ha;have:=of_decide_eq_true he;subst this;simp only [List.mem_singleton];exact ⟨fun h=>by subst h;exact ⟨hk,fun _=>rfl⟩,fun h=>h.2 hs⟩
  |false=>
   rw [cond_false];refine ⟨(fun h=>by cases h),fun h=>?_⟩;have:=h.2 hs;subst this;have:=List.any_eq_false.1 ha q h.1;simp at this
 ·rw [decide_eq_false hs,cond_false];exact ⟨fun h=>⟨h,fun h2=>absurd h2 hs⟩,fun h=>h.1⟩
theorem zg0 {s c:Int}{x:GDomain}:(zcj s c x).Channels.Sublist x.Channels:=by
 unfold zcj;dsimp only
 cases decide (x.Station=s)
 ·exact List.Sublist.refl _
 ·cases ha:x.Channels.any (fun k=>decide (k=c))
  ·exact List.nil_sublist _
  ·obtain ⟨k,hk,he⟩:=List.any_eq_true.1 ha;have:=of_decide_eq_true he;subst this;exact List.singleton_sublist.2 hk
section
variable {p:GProblem}{a b d:List GDomain}
theorem keep_sub {s c:Int}:SubD (d.map (zcj s c)) d∧OrdD (d.map (zcj s c)) d:=by
 refine ⟨⟨List.length_map _,fun i hi=>?_⟩,fun i hi=>?_⟩
 ·rw [zaL hi];exact ⟨rfl,fun k hk=>(keepD_mem.1 hk).1⟩
 ·rw [zaL hi];exact zg0
theorem zkt {s c:Int}(h:SubD a b):SubD (a.map (zcj s c)) (b.map (zcj s c)):=by
 refine ⟨by rw [List.length_map,List.length_map,h.1],fun i hi=>?_⟩;rw [List.length_map] at hi;rw [zaL hi,zaL (by rw [h.1];exact hi)];have h2:=h.2 i hi;refine ⟨h2.1,fun k hk=>?_⟩;rw [keepD_mem] at hk ⊢;exact ⟨h2.2 k hk.1,fun e=>hk.2 (h2.1.trans e)⟩
theorem OrdD.trans {c:List GDomain}(h:OrdD a b)(k:OrdD b c)(hl:b.length=c.length):OrdD a c:=fun i hi=>(h i (by rw [hl];exact hi)).trans (k i hi)
theorem Bd.ord (hb:Bd b)(hl:a.length=b.length)(h:OrdD a b):Bd a:=by
 refine ⟨by rw [hl];exact hb.len,fun x hx=>?_⟩;obtain ⟨i,hi,rfl⟩:=zaK hx; (have hi':i<b.length:=by rw [←hl];exact hi);have h2:=hb.ch _ (zak hi');exact ⟨Nat.le_trans (h i hi').length_le h2.1,h2.2.sublist (h i hi')⟩
theorem zdh:∀ {a b:List GDomain},a.length=b.length→OrdD a b→totG a≤totG b
 | [],[],_,_=>Nat.le_refl _
 |x :: r,y :: q,hl,h=>by
  have h0:=(h 0 (by simp)).length_le
  have ih:=zdh (a:=r) (b:=q) (by simpa using hl) (fun i hi=>by
   have:=h (i+1) (by simp;omega)
   simpa [nth] using this)
  simp only [totG,List.map_cons,List.sum_cons] at ih ⊢;have e1:nth (x :: r) 0=x:=rfl;have e2:nth (y :: q) 0=y:=rfl;rw [e1,e2] at h0;omega
theorem PropD.eq {r r':List GDomain×Bool}(hb:Bd d)(h:PropD p d r)(h':PropD p d r'):r=r':=by
 rcases h with ⟨h1,h2,h3,h4⟩|⟨h1,h2⟩
 ·rcases h' with ⟨g1,g2,g3,g4⟩|⟨g1,g2⟩
  ·have e1:=h4 _ g2 g3.1;have e2:=g4 _ h2 h3.1
   have:r.1=r'.1:=by
    refine zdg (by rw [e2.1]) fun i hi=>?_; (have hi1:i<r'.1.length:=by rw [←e2.1];exact hi); (have hid:i<d.length:=by rw [←h3.1.1];exact hi);have a1:=e1.2 i hi;have a2:=e2.2 i hi1;have hch:(nth r.1 i).Channels=(nth r'.1 i).Channels:=zcO (h3.2 i hid) (g3.2 i hid) (hb.ch _ (zak hid)).2 (fun x=>⟨a2.2 x,a1.2 x⟩)
    cases hx:nth r.1 i with
    |mk s1 c1=>
     cases hy:nth r'.1 i with
     |mk s2 c2=>
      have b1:=a2.1;rw [hx,hy] at b1 hch;simp only at b1 hch;rw [b1,hch]
   exact Prod.ext this (h1.trans g1.symm)
  ·exact absurd h3.1 (g2 _ h2)
 ·rcases h' with ⟨g1,g2,g3,g4⟩|⟨g1,g2⟩
  ·exact absurd g3.1 (h2 _ g2)
  ·rw [h1,g1]
theorem PropD.keep {m r:List GDomain×Bool}{s c:Int}(h:PropD p d m)(hm:m.2=true)(hr:PropD p (m.1.map (zcj s c)) r):PropD p (d.map (zcj s c)) r:=by
 rcases h with ⟨_,h2,h3,h4⟩|⟨h1,_⟩
 ·have hsup:∀S,ClosedD p S→SubD S (d.map (zcj s c))→SubD S (m.1.map (zcj s c)):=fun S hS hs=>by
   have h5:=h4 S hS (hs.trans keep_sub.1);refine ⟨by rw [List.length_map];exact h5.1,fun i hi=>?_⟩;rw [List.length_map] at hi; (have hid:i<d.length:=by rw [←h3.1.1];exact hi);rw [zaL hi];have h6:=h5.2 i hi;refine ⟨h6.1,fun k hk=>keepD_mem.2 ⟨h6.2 k hk,fun e=>?_⟩⟩;have h7:=(hs.2 i (by rw [List.length_map];exact hid)).2 k hk;rw [zaL hid] at h7;exact (keepD_mem.1 h7).2 (by rw [←(h3.1.2 i hid).1];exact e)
  rcases hr with ⟨g1,g2,g3,g4⟩|⟨g1,g2⟩
  ·refine .inl ⟨g1,g2,⟨g3.1.trans (zkt h3.1),fun i hi=>?_⟩,fun S hS hs=>g4 S hS (hsup S hS hs)⟩;rw [List.length_map] at hi; (have hi':i<m.1.length:=by rw [h3.1.1];exact hi);have h8:=g3.2 i (by rw [List.length_map];exact hi');rw [zaL hi'] at h8;rw [zaL hi];refine h8.trans ?_;have hst:=(h3.1.2 i hi).1;have hsb:=h3.2 i hi;unfold zcj;dsimp only;rw [hst]
   cases decide ((nth d i).Station=s)
   ·exact hsb
   ·cases ha:(nth m.1 i).Channels.any (fun k=>decide (k=c))
    ·exact List.nil_sublist _
    ·obtain ⟨k,hk,he⟩:=List.any_eq_true.1 ha;rw [List.any_eq_true.2 ⟨k,hsb.subset hk,he⟩];exact List.Sublist.refl _
  ·exact .inr ⟨g1,fun S hS hs=>g2 S hS (hsup S hS hs)⟩
 ·rw [h1] at hm;cases hm
theorem PropD.keepBad {m:List GDomain×Bool}{d':List GDomain}(h:PropD p d m)(hm:m.2=false)(hs:SubD d' d):PropD p d' m:=by
 rcases h with ⟨h1,_⟩|⟨h1,h2⟩
 ·rw [h1] at hm;cases hm
 ·exact .inr ⟨h1,fun S hS hh=>h2 S hS (hh.trans hs)⟩
theorem PropD.ord {m:List GDomain×Bool}(h:PropD p d m)(hm:m.2=true):m.1.length=d.length∧OrdD m.1 d:=by
 rcases h with ⟨_,_,h3,_⟩|⟨h1,_⟩
 ·exact ⟨h3.1.1,h3.2⟩
 ·rw [h1] at hm;cases hm
def zev (l:List GChoice)(i:Nat):Bool:=inB (nth l i).Station 0 511&&(inB (nth l i).Channel 2 51&& !(decide (0<(i:Int))&&decide ((nth l i).Station≤(nth l (i - 1)).Station)))
theorem zeU {l:List GChoice}:zaS l=(List.range l.length).all (zev l):=by
 unfold zaS;simp only [zax,Nat.sub_zero];rw [zcB (zev l) (fun i next _=>?_),Bool.and_true];rw [zcg,zdy]
 have e:zev l i=(inB (nth l i).Station 0 511&&(!decide ((nth l i).Channel<2)&&(!decide (51<(nth l i).Channel)&& !(decide (0<(i:Int))&&decide ((nth l i).Station≤(nth l (i - 1)).Station))))):=by
  unfold zev;rw [←Bool.and_assoc (!decide _)]
  congr 1
  congr 1
  unfold inB;by_cases h1:2≤(nth l i).Channel <;> by_cases h2:(nth l i).Channel≤51 <;> simp [h1,h2,Int.not_lt,Int.not_le] <;> omega
 rw [e]
 cases inB (nth l i).Station 0 511 <;> cases decide ((nth l i).Channel<2) <;> cases decide (51<(nth l i).Channel) <;> cases (decide (0<(i:Int))&&decide ((nth l i).Station≤(nth l (i - 1)).Station)) <;> rfl
theorem zmk (p:GProblem):(pbG p).er=p:=by
 unfold pbG Pb.er;dsimp only;rw [zdU (g:=Dx.er) (fun _=>rfl),zdU (g:=Pr.er) (fun _=>rfl),zdU (g:=Ld.er) (fun _=>rfl),zdU (g:=Cp.er) (fun _=>rfl)]
theorem zij {d:List GDomain}{n:Nat}(h:∀x∈d,x.Channels.length≤n):totG d≤d.length*n:=by
 induction d with
 |nil=>simp [totG]
 |cons x r ih=>
  have h1:=h x (by simp);have h2:=ih (fun y hy=>h y (by simp [hy]));simp only [totG,List.map_cons,List.sum_cons,List.length_cons,Nat.add_mul] at h2 ⊢;omega
theorem zfj (h:okG p=true):WtP p∧Bd p.Domains∧totG p.Domains≤30000∧p.Domains.length≤512:=by
 have hG:=Pb.good h;have hw:=zmc h;rw [zmk] at hw;have hl:(pbG p).ds.length=p.Domains.length:=List.length_map _; (have hn:p.Domains.length≤512:=by rw [←hl];exact hG.n)
 have hc:∀x∈p.Domains,x.Channels.length≤52∧x.Channels.Nodup:=fun x hx=>by
  obtain ⟨i,hi,rfl⟩:=zaK hx;have e:nth (pbG p).ds i=(nth p.Domains i).b:=za0 hi;have h1:=hG.chs _ (zak (show i<(pbG p).ds.length by rw [hl];exact hi));have h2:=zkb h (i:=i) (by rw [hl];exact hi);rw [e] at h1 h2;exact ⟨h1.1,(zdJ List.nodup_range').sublist h2⟩
 refine ⟨hw,⟨by omega,fun x hx=>⟨by have:=(hc x hx).1;omega,(hc x hx).2⟩⟩,?_,hn⟩;have:=zij (d:=p.Domains) (n:=52) (fun x hx=>(hc x hx).1);omega
theorem zi1 {a b:List Int}:zaF a b=decide (a=b):=by
 unfold zaF;simp only [zax,Nat.sub_zero];by_cases hl:a.length=b.length
 ·rw [decide_eq_false (by simp [hl]),cond_false,zcB (fun i=>decide (nth a i=nth b i)) (fun i next _=>by by_cases h:nth a i=nth b i <;> simp [h]),Bool.and_true,Bool.eq_iff_iff,List.all_eq_true,decide_eq_true_eq];constructor
  ·intro h;exact zdg hl fun i hi=>of_decide_eq_true (h i (List.mem_range.2 hi))
  ·rintro rfl i _;simp
 ·rw [decide_eq_true (by omega),cond_true,decide_eq_false (fun e=>hl (by rw [e]))]
theorem zgB {a b:List GDomain}:zaP a b=decide (a=b):=by
 unfold zaP;simp only [zax,Nat.sub_zero,zi1];by_cases hl:a.length=b.length
 ·rw [decide_eq_false (by simp [hl]),cond_false,zcB (fun i=>decide (nth a i=nth b i)) (fun i next _=>?_),Bool.and_true,Bool.eq_iff_iff,List.all_eq_true,decide_eq_true_eq]
  ·constructor
   ·intro h;exact zdg hl fun i hi=>of_decide_eq_true (h i (List.mem_range.2 hi))
   ·rintro rfl i _;simp
  ·have e:decide (nth a i=nth b i)=(decide ((nth a i).Station=(nth b i).Station)&&decide ((nth a i).Channels=(nth b i).Channels)):=by
    rw [Bool.eq_iff_iff];simp only [Bool.and_eq_true,decide_eq_true_eq];constructor
    ·intro h;rw [h];exact ⟨rfl,rfl⟩
    ·intro h
     cases hx:nth a i
     cases hy:nth b i
     rw [hx,hy] at h;simp only at h;rw [h.1,h.2]
   rw [e];by_cases h1:(nth a i).Station=(nth b i).Station <;> by_cases h2:(nth a i).Channels=(nth b i).Channels <;> simp [h1,h2]
 ·rw [decide_eq_true (by omega),cond_true,decide_eq_false (fun e=>hl (by rw [e]))]
theorem hasSt_find {s:Int}:zad p s<0↔zbM p s=false:=zjL
end
structure GG (p:GProblem):Prop where
 n:p.Domains.length≤512
 st:∀x∈p.Domains,0≤x.Station∧x.Station≤511
 chs:∀x∈p.Domains,x.Channels.length≤52∧∀c∈x.Channels,2≤c∧c≤51
 inc:∀i j,i<j→j<p.Domains.length→(nth p.Domains i).Station<(nth p.Domains j).Station
 ps:∀x∈p.Rules.Pairs,(zbM p x.A=true∧zbM p x.B=true)∧(x.A<x.B∧ -1≤x.Offset∧x.Offset≤1)∧2≤x.Low∧x.Low≤x.High∧x.High≤51
 ls:∀x∈p.Rules.Loads,(zbM p x.To=true∧zbM p x.From=true)∧(x.To≠x.From∧1≤x.Weight∧x.Weight≤1073741824)∧2≤x.Low∧x.Low≤x.High∧x.High≤51
 cs:∀x∈p.Rules.Caps,zbM p x.Station=true∧(0≤x.Max∧x.Max≤1099511627776)∧2≤x.Low∧x.Low≤x.High∧x.High≤51
 lls:p.Rules.Loads.length≤1024
 lps:p.Rules.Pairs.length≤4096
 lcs:p.Rules.Caps.length≤1024
theorem hasSt_ex {p:GProblem}{s:Int}:zbM p s=true↔∃x∈p.Domains,x.Station=s:=by
 unfold zbM;rw [List.any_eq_true];simp only [decide_eq_true_eq]
theorem zhp {p:GProblem}(h:okG p=true):GG p:=by
 have hG:=Pb.good h;have hl:(pbG p).ds.length=p.Domains.length:=List.length_map _;have hn:∀i,i<p.Domains.length→nth (pbG p).ds i=(nth p.Domains i).b:=fun i hi=>zaL hi
 have hs:∀ {s:Int},(∃i,i<(pbG p).ds.length∧s=(nth (pbG p).ds i).st)→zbM p s=true:=fun ⟨i,hi,e⟩=>by
  rw [hl] at hi;rw [hn i hi] at e;exact hasSt_ex.2 ⟨_,zak hi,e.symm⟩
 refine ⟨by rw [←hl];exact hG.n,fun x hx=>hG.st x.b (List.mem_map.2 ⟨x,hx,rfl⟩),fun x hx=>hG.chs x.b (List.mem_map.2 ⟨x,hx,rfl⟩),fun i j hij hj=>?_,fun x hx=>?_,fun x hx=>?_,fun x hx=>?_,?_,?_,?_⟩
 ·have:=hG.inc i j hij (by rw [hl];exact hj);rw [hn i (by omega),hn j hj] at this;exact this
 ·obtain ⟨h1,h2,h3⟩:=hG.ps x.b (List.mem_map.2 ⟨x,hx,rfl⟩);simp only [Pr.ok,rngB,inB,Bool.and_eq_true,decide_eq_true_eq] at h1;exact ⟨⟨hs h2,hs h3⟩,by show x.A<x.B∧_;exact ⟨h1.2.2.1,h1.2.2.2.1.1,h1.2.2.2.1.2⟩,h1.2.2.2.2.1,h1.2.2.2.2.2.1,h1.2.2.2.2.2.2⟩
 ·obtain ⟨h1,h2,h3⟩:=hG.ls x.b (List.mem_map.2 ⟨x,hx,rfl⟩);simp only [Ld.ok,rngB,inB,Bool.and_eq_true,decide_eq_true_eq] at h1;exact ⟨⟨hs h2,hs h3⟩,⟨h1.2.2.1,h1.2.2.2.1.1,h1.2.2.2.1.2⟩,h1.2.2.2.2.1,h1.2.2.2.2.2.1,h1.2.2.2.2.2.2⟩
 ·obtain ⟨h1,h2⟩:=hG.cs x.b (List.mem_map.2 ⟨x,hx,rfl⟩);simp only [Cp.ok,rngB,inB,Bool.and_eq_true,decide_eq_true_eq] at h1;exact ⟨hs h2,⟨h1.2.1.1,h1.2.1.2⟩,h1.2.2.1,h1.2.2.2.1,h1.2.2.2.2⟩
 ·have:=hG.lls;have e:(pbG p).ls.length=p.Rules.Loads.length:=List.length_map _;omega
 ·have:=hG.lps;have e:(pbG p).ps.length=p.Rules.Pairs.length:=List.length_map _;omega
 ·have:=hG.lcs;have e:(pbG p).cs.length=p.Rules.Caps.length:=List.length_map _;omega
end Go.Proofs.YtbpbhbkcahcdiaaGreatDoor
