/- Z7 Z8 Y4 Z9 Za Of: shortened and put together by squeeze.py. -/
import Derived.Test.YtmnjbhkcfghebaaGreatDoorQ14
import Derived.Deep.Slices
import Derived.ChangeArms
set_option maxRecDepth 100000
set_option maxHeartbeats 4000000
set_option linter.unusedVariables false
set_option linter.unusedSectionVars false
set_option linter.unusedSimpArgs false
namespace Go.Proofs.YtmnjbhkcfghebaaGreatDoor
open Go.RowKit
def okB (l:List GProduct)(bs:List GBidder)(bids:List GBid)(i:Nat):Bool:=
 decide (((if i=0 then 0 else (nth bids (i - 1)).Bidder)≤(nth bids i).Bidder∧0≤(nth bids i).Product∧(nth bids i).Product<(l.length:Int))∧(-12≤(nth bids i).Change∧(nth bids i).Change≤12∧(nth bids i).Change≠0)∧0≤ff bs (nth bids i).Bidder)
def zhj (l:List GProduct)(bs:List GBidder)(bids:List GBid):Bool:=decide (bids.length≤128)&&(List.range bids.length).all (okB l bs bids)
theorem zk4 {l:List GProduct}{bs:List GBidder}{bids:List GBid}(h:zhj l bs bids=true):BidsOk l bs bids:=by
 unfold zhj at h;rw [Bool.and_eq_true,decide_eq_true_eq,List.all_eq_true] at h;have key:∀i,i<bids.length→((if i=0 then 0 else (nth bids (i - 1)).Bidder)≤(nth bids i).Bidder∧0≤(nth bids i).Product∧(nth bids i).Product<(l.length:Int))∧(-12≤(nth bids i).Change∧(nth bids i).Change≤12∧(nth bids i).Change≠0)∧0≤ff bs (nth bids i).Bidder:=fun i hi=>of_decide_eq_true (h.2 i (List.mem_range.2 hi));exact ⟨h.1,fun i hi=>(key i hi).1.2,fun i hi=>(key i hi).2.1,fun i hi=>(key i hi).2.2⟩
theorem zip (bs:List GBidder)(b:GBid):zao bs b=decide (0≤ff bs b.Bidder):=rfl
theorem zk8 {l:List GProduct}{bs:List GBidder}{bids:List GBid}(h:Val l bs):zco l bs bids=some (zhj l bs bids):=by
 unfold zco zhj;simp only [dF];by_cases h1:(128:Int)<bids.length
 ·rw [decide_eq_true h1,cond_true,cond_true,decide_eq_false a7];rfl
 ·rw [decide_eq_false h1,cond_false,h.prog,Option.bind_some,Bool.not_true,cond_false,decide_eq_true (show bids.length≤128 by omega),Bool.true_and];generalize hF:(fun (i_8:Nat) (next7:Int→Option Bool) (last_6:Int)=>_)=F
  have hstep:∀i next,F i next (if i=0 then 0 else (nth bids (i - 1)).Bidder)=bif okB l bs bids i then next (nth bids i).Bidder else some false:=by
   intro i next;rw [←hF];dsimp only;rw [zip];unfold okB;generalize (if i=0 then 0 else (nth bids (i - 1)).Bidder)=last;generalize nth bids i=b;by_cases c1:last≤b.Bidder∧0≤b.Product∧b.Product<(l.length:Int)
   ·rw [decide_eq_false a7,decide_eq_false a7,decide_eq_false a7,Bool.or_self,Bool.or_self,cond_false];by_cases c2: -12≤b.Change∧b.Change≤12∧b.Change≠0
    ·rw [decide_eq_false a7,decide_eq_false a7,decide_eq_false c2.2.2,Bool.or_self,Bool.or_self,cond_false];by_cases c3:0≤ff bs b.Bidder
     ·rw [decide_eq_true c3,decide_eq_true ⟨c1,c2,c3⟩];rfl
     ·rw [decide_eq_false c3,decide_eq_false (fun h=>c3 h.2.2)];rfl
    ·rw [show (((decide (b.Change<(-12)))||(decide (12<b.Change)))||(decide (b.Change=0)))=true by simp only [Bool.or_eq_true,decide_eq_true_eq];omega,cond_true,decide_eq_false (fun h=>c2 h.2.1)];rfl
   ·rw [show (((decide (b.Bidder<last))||(decide (b.Product<0)))||(decide ((l.length:Int)≤b.Product)))=true by simp only [Bool.or_eq_true,decide_eq_true_eq];omega,cond_true,decide_eq_false (fun h=>c1 h.1)];rfl
  have key:∀m i,i+m=bids.length→dq F (fun _=>some true) m i (if i=0 then 0 else (nth bids (i - 1)).Bidder)=some ((List.range' i m).all (okB l bs bids)):=by
   intro m
   induction m with
   |zero=>intro i _;rfl
   |succ m ih=>
    intro i e;rw [jM,hstep,List.range'_succ,List.all_cons]
    cases okB l bs bids i with
    |false=>rfl
    |true=>
     rw [cond_true,Bool.true_and,←ih (i+1) a7,if_neg a7];rfl
  rw [List.range_eq_range'];exact key (bids.length - 0) 0 a7
def DigB (bids:List GBid):Prop:=∀i,i<bids.length→Dig 256 (nth bids i).Point.Num.Digits∧Dig 256 (nth bids i).Point.Den.Digits
def jP (fuel:Nat)(bids:List GBid):Bool:=(List.range bids.length).all fun i=>(zbd fuel (nth bids i).Point).getD false
theorem zj9 {fuel:Nat}{bids:List GBid}(hf:2000≤fuel)(hd:DigB bids):zas fuel bids=some (!jP fuel bids)∧(jP fuel bids=true→PtsOk bids):=by
 constructor
 ·unfold zas zaC zbo jP;simp only [dF];generalize hF:(fun (i_3:Nat) (next2:Unit→Option Int) (_:Unit)=>_)=F
  have hstep:∀i,i<bids.length→∀next,F i next ()=bif (zbd fuel (nth bids i).Point).getD false then next () else some (i:Int):=by
   intro i hi next;rw [←hF];obtain ⟨b,b1,_⟩:=zjK (fuel:=fuel) hf (hd i hi).1 (hd i hi).2;dsimp only;rw [b1]
   cases b <;> rfl
  have key:∀m i,i+m=bids.length→(dq F (fun _=>some (-1)) m i ()).bind (fun r=>some (decide (0≤r)))=some (!((List.range' i m).all fun i=>(zbd fuel (nth bids i).Point).getD false)):=by
   intro m
   induction m with
   |zero=>intro i _;rfl
   |succ m ih=>
    intro i e;rw [jM,hstep i a7,List.range'_succ,List.all_cons]
    cases (zbd fuel (nth bids i).Point).getD false with
    |false=>
     rw [cond_false,Option.bind_some,decide_eq_true a7];rfl
    |true=>rw [cond_true,Bool.true_and];exact q4e
  rw [List.range_eq_range'];exact key (bids.length - 0) 0 a7
 ·intro h;unfold jP at h;rw [List.all_eq_true] at h;refine ⟨fun i hi=>?_,fun i hi=>(hd i hi).1,fun i hi=>(hd i hi).2⟩;obtain ⟨b,b1,b2⟩:=zjK (fuel:=fuel) hf (hd i hi).1 (hd i hi).2;have:=h i (List.mem_range.2 hi);rw [b1] at this;exact b2.1 this
def gH (l:List GProduct)(bs:List GBidder):List Int:=(List.range l.length).map (fT bs)
theorem zkb {l:List GProduct}{bs:List GBidder}{p:Nat}{q:Int}{bs':List GBidder}(h:∀j,j<l.length→fT bs' j=if p=j then fT bs j+q else fT bs j):(gH l bs).set p (nth (gH l bs) p+q)=gH l bs':=by
 unfold gH;refine zhb b6 fun j hj=>?_; (have hj2:j<l.length:=by simpa using hj);rw [iW (by simpa using hj2),gJ hj2,gJ hj2,h j hj2];by_cases e:p=j
 ·subst e;rw [if_pos rfl,if_pos rfl,gJ hj2]
 ·rw [if_neg e,if_neg e]
def kv (l:List GProduct)(bids:List GBid)(bs:List GBidder):RS:=⟨0,0,bs,(List.range bids.length).map (fun i=>(nth bids i).Change),List.replicate l.length 0⟩
theorem hJ {l:List GProduct}{bids:List GBid}{ord:List Int}{bs0:List GBidder}(c:Ctx l bids ord bs0):InvR l bids ord bs0 (kv l bids bs0):=by
 refine ⟨c.val,rfl,fun _ _=>⟨rfl,rfl,rfl⟩,by simp [kv],fun i hi=>?_,by simp [kv],fun hn p hp=>?_,Nat.zero_le _, .inl rfl,fun k hk=>(by cases hk),fun p hp=>?_,fun p hp h=>h⟩
 ·unfold kv;dsimp only;rw [gJ hi];omega
 ·unfold kv;dsimp only;rw [eZ (by simpa using hp),List.getElem_replicate];omega
 ·have:lF bids (kv l bids bs0).rest p=0:=by
   unfold lF
   rw [zgy (g:=fun _=>0) (fun i hi=>by
    unfold kv;dsimp only;rw [gJ hi]
    split <;> omega)]
   have hz:∀n,eT (fun _=>0) n=0:=fun n=>by
    induction n with
    |zero=>rfl
    |succ n ih=>rw [eT,ih];rfl
   exact hz _
  rw [this];exact (Int.add_zero _).symm
theorem zit {l:List GProduct}{bids:List GBid}{ord:List Int}{bs0:List GBidder}(c:Ctx l bids ord bs0):l8 bids (kv l bids bs0)<5000:=by
 have h1:=zjm (bids:=bids) ((hJ c).r12 c) bids.length (Nat.le_refl _);change 0≤kQ bids (kv l bids bs0).rest∧kQ bids (kv l bids bs0).rest≤_ at h1;have:=c.few;unfold l8;omega
theorem maxN (a b:Nat):max (a:Int) (b:Int)=((max a b:Nat):Int):=by omega
theorem zlu {fuel:Nat}{l:List GProduct}{bids:List GBid}{ord:List Int}{bs0:List GBidder}(hf:5000≤fuel)(c:Ctx l bids ord bs0):zaU fuel ⟨l,bids,ord,bs0,gH l bs0,(kv l bids bs0).rest,(kv l bids bs0).mom⟩=some ((im l bids ord bs0 fuel (kv l bids bs0)).bs,gH l (im l bids ord bs0 fuel (kv l bids bs0)).bs,(im l bids ord bs0 fuel (kv l bids bs0)).rest,(im l bids ord bs0 fuel (kv l bids bs0)).mom):=by
 unfold zaU;rw [zej];obtain ⟨f,hfm,hK⟩:=zkf (bs:=bs0) (ρ:=Option (List GBidder×List Int×List Int×List Int)) (K:=fun l_1=>_) (zj0 c.val.prog);refine hK.trans ?_;dsimp only;generalize hF:(fun (next13:(Int×Int×List GBidder×List Int×List Int×List Int)→Option (List GBidder×List Int×List Int×List Int)) s13=>_)=F
 have key:∀fu s,InvR l bids ord bs0 s→l8 bids s<fu→eS F fu ((s.top:Int),(s.at_:Int),s.bs,gH l s.bs,s.rest,s.mom)=some ((im l bids ord bs0 fu s).bs,gH l (im l bids ord bs0 fu s).bs,(im l bids ord bs0 fu s).rest,(im l bids ord bs0 fu s).mom):=by
  intro fu
  induction fu with
  |zero=>intro s _ h;omega
  |succ fu ih=>
   intro s h hm;rw [lW,im];by_cases ha:s.at_<ord.length
   ·have hst:=h.step c ha;have ih2:=ih _ hst.1 a7;rw [if_pos ha,←ih2];obtain ⟨hv1,hv2⟩:=c.vis ha;obtain ⟨hp1,hp2⟩:=c.prd hv1;obtain ⟨hh1,hh2⟩:=c.hix hv1;have h12:=h.r12 c _ hv1; (have hrl:dX ord s<s.rest.length:=by rw [h.rl];exact hv1); (have hHb:fE bs0 bids (dX ord s)<s.bs.length:=by rw [h.len];exact hh1);have hpart:=zlU (ord:=ord) (mom:=s.mom) h.val hHb hrl hv1 hp2 hp1 h12;have hfm2:=hfm (nth bids (dX ord s)).Bidder (by rw [hh2];omega);rw [hh2] at hfm2;have hbb:=ziu (n:=nth s.rest (dX ord s)) h.val hHb hp1;have hblk:=h.val.blk hHb hp1;have htb:=h.val.tot_bd hp1;have hbl:=(h.val.bids _ hHb).dem.len;have htop:=h.top;rw [←hF];dsimp only;rw [decide_eq_true a7,cond_true,dJ a7,Int.toNat_natCast,hv2,dJ a7,Int.toNat_natCast,hfm2];rw [show za3 ⟨l,bids,ord,s.bs,gH l s.bs,s.rest,s.mom⟩ ((dX ord s:Nat):Int) ((fE bs0 bids (dX ord s):Nat):Int)=some (fm l bids bs0 s.bs s.rest (dX ord s)) from hpart,Option.bind_some];unfold mB;by_cases e:fm l bids bs0 s.bs s.rest (dX ord s)=0
    ·rw [decide_eq_true e,cond_true,if_pos e,maxN]
     rfl
    ·(have htl:(gH l s.bs).length=l.length:=by simp [gH])
     have hset:=zjV h.val hHb hp1 (q:=fm l bids bs0 s.bs s.rest (dX ord s)) (by
      have:=(h.put c ha e).1.val;unfold lM at this
      exact this)
     rw [decide_eq_false e,cond_false,if_neg e,dJ a7,Int.toNat_natCast,hp2,dJ a7,dJ (by rw [htl];omega),dJ a7,Int.toNat_natCast,maxN,Int.toNat_natCast];change (0<nth s.rest (dX ord s)→0≤fm l bids bs0 s.bs s.rest (dX ord s)∧fm l bids bs0 s.bs s.rest (dX ord s)≤nth s.rest (dX ord s)∧_)∧(nth s.rest (dX ord s)<0→nth s.rest (dX ord s)≤fm l bids bs0 s.bs s.rest (dX ord s)∧fm l bids bs0 s.bs s.rest (dX ord s)≤0∧_)∧(nth s.rest (dX ord s)=0→fm l bids bs0 s.bs s.rest (dX ord s)=0) at hbb;have hnt:nth (gH l s.bs) (eU bids (dX ord s))=fT s.bs (eU bids (dX ord s)):=gJ hp1;unfold lM;generalize fm l bids bs0 s.bs s.rest (dX ord s)=q at *; (have hq: -12≤q∧q≤12:=by omega);rw [hnt,gx (x:=nth (nth s.bs (fE bs0 bids (dX ord s))).Blocks (eU bids (dX ord s))+q) a7,gx (x:=fT s.bs (eU bids (dX ord s))+q) a7,gx (x:=nth s.rest (dX ord s) - q) a7];have hts:=zkb (l:=l) hset;rw [hnt] at hts;rw [hts];simp only [dF];by_cases hq0:q<0
     ·rw [decide_eq_true hq0,cond_true,if_pos hq0,dJ a7,dJ (by rw [h.ml];omega)]
      rfl
     ·rw [decide_eq_false hq0,cond_false,if_neg hq0]
      rfl
   ·rw [if_neg ha,←hF];dsimp only;rw [decide_eq_false a7,cond_false]
 exact key fuel _ (hJ c) (by have:=zit c;omega)
structure Good2 (a:GAuction):Prop where
 g:Good a
 act:1≤a.increment.Activity∧a.increment.Activity≤100
 key:a.key.length≤32
 rd:0≤a.rounds∧a.rounds≤10000
theorem zjY {l:List GProduct}{bs:List GBidder}(h:Val l bs):jy bs:=by
 have h1:=h.m;have h2:=h.n;refine ⟨by unfold dm;omega,fun x hx=>?_⟩;obtain ⟨i,hi,rfl⟩:=List.mem_iff_getElem.1 hx;have:=(h.bids i hi).dem.len;rw [eZ hi] at this;unfold dm;omega
def jT (l:List GProduct)(pc:Int)(b:GBidder):GBidder:=⟨b.ID,(lR b.Eligibility b.Waivers (fy l b.Blocks) pc).1,(lR b.Eligibility b.Waivers (fy l b.Blocks) pc).2,b.Blocks⟩
theorem zio {l:List GProduct}{pc:Int}{b:GBidder}(hn:l.length≤100)(hp:it l=true)(h:BidOk l b)(hc:1≤pc∧pc≤100):BidOk l (jT l pc b)∧(jT l pc b).Eligibility≤b.Eligibility∧(jT l pc b).Waivers≤b.Waivers:=by
 have hu:=(zh0 hn hp h.dem).2;have hk:=zkd h.el h.wa ⟨hu,h.un⟩ hc;have he:=h.el;have hw:=h.wa;unfold jT;exact ⟨⟨h.id,by dsimp only;omega,by dsimp only;omega,h.dem,hk.1⟩,hk.2.1,hk.2.2.2⟩
def ko (l:List GProduct)(pc:Int)(bs:List GBidder):List GBidder:=(List.range bs.length).map fun i=>jT l pc (nth bs i)
theorem zfO (l:List GProduct)(pc:Int)(bs:List GBidder):(ko l pc bs).length=bs.length:=by simp [ko]
theorem zfE {l:List GProduct}{pc:Int}{bs:List GBidder}{i:Nat}(h:i<bs.length):nth (ko l pc bs) i=jT l pc (nth bs i):=gJ h
theorem zhn {l:List GProduct}{pc:Int}{bs:List GBidder}(h:Val l bs)(hc:1≤pc∧pc≤100):Val l (ko l pc bs):=by
 have h0:=zj0 h.prog;refine zjT h.n (by rw [zfO];exact h.m) h.prods (fun j hj=>?_) (fun j hj=>?_)
 ·rw [zfO] at hj;rw [zfE hj];exact (zio h.n h.prods (h.bids j hj) hc).1
 ·rw [zfO] at hj;rw [zfE a7,zfE hj];exact h0 j hj
theorem zky {l:List GProduct}{pc:Int}{bs:List GBidder}(j:Nat):fT (ko l pc bs) j=fT bs j:=by
 unfold fT;rw [zfO]; (exact zfN fun i hi=>by rw [zfE hi];rfl)
theorem zju {a:GAuction}{bs:List GBidder}(h:Val a.catalogue bs)(hc:1≤a.increment.Activity∧a.increment.Activity≤100):zaY a bs=some (ko a.catalogue a.increment.Activity bs,0):=by
 unfold zaY;rw [dJ (by have:=h.m;unfold dm;omega)];simp only [dF]
 rw [zfT (n:=bs.length) (fun i=>jT a.catalogue a.increment.Activity (nth bs i)) b6 (fun i next s hi hs=>by
  rw [zkO h.n h.prods (h.bids i hi) hc,Option.bind_some];dsimp only;rw [decide_eq_false b6,cond_false,dJ a7]
  rfl)]
 rfl
def l7 (a:GAuction)(bids:List GBid)(r:RS)(p:Nat):Int:=
 if (nth a.catalogue p).Supply<fT r.bs p then clk a p
 else if 0<kx a.catalogue a.bidders p then nth a.prices p+(clk a p - nth a.prices p) * (dE (nth bids (nth r.mom p).toNat).Point.Num:Int) / max (dE (nth bids (nth r.mom p).toNat).Point.Den:Int) 1
 else nth a.prices p
theorem zlP {a:GAuction}(h:Good a){p:Nat}(hp:p<a.catalogue.length):kx a.catalogue a.bidders p=max (fT a.bidders p - (nth a.catalogue p).Supply) 0:=by
 have h1:=h.val.tot_bd hp;have h2:=lK h.val.prods hp;unfold kx;rw [gx a7]
theorem zkW {a:GAuction}(h:Good a){p:Nat}(hp:p<a.catalogue.length):nth a.prices p≤clk a p∧clk a p≤2199023255552:=by
 have h1:=h.pbd p hp;have h2:=ll h1 h.step;unfold clk
 split
 ·rw [gx (x:=nth a.prices p*a.increment.Step) a7,gx a7];omega
 ·omega
theorem ziP {d n m:Int}(hd:0≤d)(hn:0≤n)(hm:n≤m):0≤d*n / max m 1∧d*n / max m 1≤d:=by
 have h0:0≤d*n:=Int.mul_nonneg hd hn;refine ⟨Int.ediv_nonneg h0 a7,Int.ediv_le_of_le_mul a7 ?_⟩;exact Int.mul_le_mul_of_nonneg_left a7 hd
theorem ziy {a:GAuction}{bids:List GBid}{ord:List Int}{r:RS}(h:Good a)(hp:PtsOk bids)(c:Ctx a.catalogue bids ord a.bidders)(hr:InvR a.catalogue bids ord a.bidders r)(hclk:∀p,p<a.catalogue.length→clk a p≤549755813888):
  za6 ⟨a.catalogue,bids,ord,r.bs,gH a.catalogue r.bs,r.rest,r.mom⟩ a.prices ((List.range a.catalogue.length).map (clk a)) ((List.range a.catalogue.length).map (kx a.catalogue a.bidders))=some ((List.range a.catalogue.length).map (l7 a bids r))∧∀p,p<a.catalogue.length→nth a.prices p≤l7 a bids r p∧l7 a bids r p≤clk a p:=by
 have hmom:∀p,p<a.catalogue.length→¬(nth a.catalogue p).Supply<fT r.bs p→0<kx a.catalogue a.bidders p→0≤nth r.mom p∧nth r.mom p<(bids.length:Int):=fun p hpl h1 h2=>by
  refine hr.mb (Nat.pos_of_ne_zero fun h0=>?_) p hpl;rw [zlP h hpl] at h2;have h3:=hr.tt p hpl;unfold lF at h3;rw [h0] at h3;simp only [eT] at h3;omega
 constructor
 ·unfold za6;rw [dJ (by have:=h.val.n;rw [h.plen];unfold dm;omega)];simp only [dF]; (have hL:(gH a.catalogue r.bs).length=a.catalogue.length:=by simp [gH])
  rw [zfQ (n:=a.catalogue.length) (fun p _=>l7 a bids r p) h.plen (fun p next s hpl hs he=>by
   rw [dJ (by rw [hL];omega)]; (try dsimp only);rw [show nth (gH a.catalogue r.bs) p=fT r.bs p from gJ hpl];have hb:=h.pbd p hpl;have hck:=zkW h hpl;have hc2:=hclk p hpl;unfold l7;by_cases c1:(nth a.catalogue p).Supply<fT r.bs p
   ·rw [decide_eq_true c1,cond_true,if_pos c1,dJ cM,dJ a7,gJ hpl]
   ·rw [decide_eq_false c1,cond_false,if_neg c1,dJ cM,gJ hpl];by_cases c2:0<kx a.catalogue a.bidders p
    ·have hm:=hmom p hpl c1 c2;have hv:=zj7 (hp.pt (nth r.mom p).toNat a7) (hp.dn _ a7) (hp.dd _ a7);have hd:=(hp.pt (nth r.mom p).toNat a7).den;have hnm:=(hp.pt (nth r.mom p).toNat a7).num
     have hmul:0≤(clk a p - nth a.prices p) * (dE (nth bids (nth r.mom p).toNat).Point.Num:Int)∧(clk a p - nth a.prices p) * (dE (nth bids (nth r.mom p).toNat).Point.Num:Int)≤549755813888*1000:=by
      refine ⟨Int.mul_nonneg a7 a7,?_⟩;exact Int.mul_le_mul a7 a7 a7 a7
     have hpb:=ziP (d:=clk a p - nth a.prices p) (n:=(dE (nth bids (nth r.mom p).toNat).Point.Num:Int)) (m:=(dE (nth bids (nth r.mom p).toNat).Point.Den:Int)) a7 a7 a7;rw [decide_eq_true c2,cond_true,if_pos c2,dJ (by rw [hr.ml];omega),dJ hm,hv.1,Option.bind_some,hv.2,Option.bind_some,dJ a7,dJ cM,dJ (by rw [h.plen];omega),gJ hpl];dsimp only;rw [gx (x:=clk a p - nth a.prices p) a7,gx (x:=(clk a p - nth a.prices p) *_) a7,dJ a7,he,gx a7]
    ·rw [decide_eq_false c2,cond_false,if_neg c2,←he,zhY a7])]
 ·intro p hpl;have hck:=zkW h hpl;unfold l7
  split
  ·omega
  ·split
   ·rename_i c1 c2;have hm:=hmom p hpl c1 c2;have hnm:=(hp.pt (nth r.mom p).toNat a7).num;have hpb:=ziP (d:=clk a p - nth a.prices p) (n:=(dE (nth bids (nth r.mom p).toNat).Point.Num:Int)) (m:=(dE (nth bids (nth r.mom p).toNat).Point.Den:Int)) a7 a7 a7;omega
   ·omega
def zjn (a:GAuction):Bool:= !(List.range a.catalogue.length).any fun i=>decide (0<kx a.catalogue a.bidders i)
def zhP (a:GAuction):Bool:=(List.range a.catalogue.length).any fun i=>decide (549755813888<clk a i)
def ep (fuel:Nat)(a:GAuction)(bids:List GBid):RS:=im a.catalogue bids (zhu a bids) a.bidders fuel (kv a.catalogue bids a.bidders)
def apL (bids:List GBid)(r:RS):List Int:=(List.range bids.length).map fun i=>(nth bids i).Change - nth r.rest i
def iR (fuel:Nat)(a:GAuction)(bids:List GBid):GAuction:=⟨a.catalogue,ko a.catalogue a.increment.Activity (ep fuel a bids).bs,a.increment,a.key,a.rounds+1,(List.range a.catalogue.length).map (l7 a bids (ep fuel a bids))⟩
theorem zil (s:List Int):zaR s=(List.range s.length).any fun i=>decide (549755813888<nth s i):=by
 unfold zaR zbl zaZ;simp only [dF]
 have key:∀m i,i+m=s.length→decide (0≤dq (fun (i_3:Nat) (next2:Unit→Int) (_:Unit)=>(bif (decide (549755813888<nth s i_3)) then (i_3:Int) else next2 ())) (fun _=>(-1)) m i ())=(List.range' i m).any fun i=>decide (549755813888<nth s i):=by
  intro m
  induction m with
  |zero=>intro i _;rfl
  |succ m ih=>
   intro i e;rw [jM,List.range'_succ,List.any_cons]; (try dsimp only)
   cases decide (549755813888<nth s i) with
   |true=>rw [cond_true,Bool.true_or];exact decide_eq_true a7
   |false=>rw [cond_false,Bool.false_or];exact q4e
 rw [List.range_eq_range'];exact key (s.length - 0) 0 a7
theorem zlO {a:GAuction}{bids:List GBid}(h:Good a)(hb:BidsOk a.catalogue a.bidders bids)(hn:bids.length<20):Ctx a.catalogue bids (zhu a bids) a.bidders:=
 ⟨h.val,hb,hn,zep _,fun k hk=>zkD (by unfold zhu at hk;rw [zep] at hk;exact hk),fun i hi=>by
  obtain ⟨k,h1,h2⟩:=zj6 (lt:=ltB bids (zk0 a bids)) hi
  exact ⟨k,by unfold zhu;rw [zep];exact h1,h2⟩⟩
structure RoundIs (fuel:Nat) (a:GAuction) (bids:List GBid):Prop where
 c:Ctx a.catalogue bids (zhu a bids) a.bidders
 pts:PtsOk bids
 inv:InvR a.catalogue bids (zhu a bids) a.bidders (ep fuel a bids)
 fin:(ep fuel a bids).at_=(zhu a bids).length
 clk:∀p,p<a.catalogue.length→clk a p≤549755813888
 post:∀p,p<a.catalogue.length→nth a.prices p≤l7 a bids (ep fuel a bids) p∧l7 a bids (ep fuel a bids) p≤Go.Proofs.YtmnjbhkcfghebaaGreatDoor.clk a p
 good:a.rounds<10000→Good2 (iR fuel a bids)
theorem zlb {fuel:Nat}{a:GAuction}{bids:List GBid}(hf:5000≤fuel)(h:Good2 a)(hd:DigB bids)(hn:bids.length<20):
  zaQ fuel a bids=some (bif zjn a then ([],8,a.bidders,a.rounds,a.prices) else bif !(zhj a.catalogue a.bidders bids&&jP fuel bids) then ([],2,a.bidders,a.rounds,a.prices) else bif zhP a then ([],7,a.bidders,a.rounds,a.prices) else (apL bids (ep fuel a bids),0,(iR fuel a bids).bidders,(iR fuel a bids).rounds,(iR fuel a bids).prices))∧
  (zjn a=false→zhj a.catalogue a.bidders bids=true→jP fuel bids=true→zhP a=false→RoundIs fuel a bids):=by
 have hg:=h.g;have hpt:=zj9 (fuel:=fuel) a7 hd
 have hR:zhj a.catalogue a.bidders bids=true→jP fuel bids=true→zhP a=false→RoundIs fuel a bids:=fun h1 h2 h3=>by
  have c:=zlO hg (zk4 h1) hn;have hp:=hpt.2 h2;obtain ⟨i1,i2⟩:=InvR.run c fuel _ (hJ c) (by have:=zit c;omega)
  have hclk:∀p,p<a.catalogue.length→clk a p≤549755813888:=fun p hp=>by
   unfold zhP at h3;rw [List.any_eq_false] at h3;have:=h3 p (List.mem_range.2 hp);rw [decide_eq_true_eq] at this;omega
  have hpo:=(ziy hg hp c i1 hclk).2;have hrd:=h.rd;refine ⟨c,hp,i1,i2,hclk,hpo,fun hlt=>⟨⟨zhn i1.val h.act,hg.key,by simp [iR],fun p hp=>?_,hg.step,zjY (zhn i1.val h.act)⟩,h.act,h.key,?_⟩⟩
  ·unfold iR at hp ⊢;dsimp only at hp ⊢;rw [gJ hp];have h4:=hpo p hp;have h5:=hclk p hp;have h6:=hg.pbd p hp;change nth a.prices p≤l7 a bids (ep fuel a bids) p∧l7 a bids (ep fuel a bids) p≤clk a p at h4;omega
  ·unfold iR;dsimp only;omega
 refine ⟨?_,fun _ h1 h2 h3=>hR h1 h2 h3⟩;unfold zaQ;rw [zg0 hg,cond_false,zlT hg,Option.bind_some];change (bif zjn a then _ else _)=_
 cases hD:zjn a with
 |true=>rfl
 |false=>
  rw [cond_false,cond_false,zk8 hg.val,Option.bind_some];simp only [dF]
  cases hB:zhj a.catalogue a.bidders bids with
  |false=>rfl
  |true=>
   rw [Bool.not_true,cond_false,hpt.1,Option.bind_some]
   cases hP:jP fuel bids with
   |false=>rfl
   |true=>
    rw [show (!true)=false from rfl,cond_false,ziS hg,Option.bind_some,zil]
    rw [show ((List.range ((List.range a.catalogue.length).map (clk a)).length).any fun i=>decide (549755813888<nth ((List.range a.catalogue.length).map (clk a)) i))=zhP a from by
     unfold zhP;rw [List.length_map,List.length_range,Bool.eq_iff_iff,List.any_eq_true,List.any_eq_true];constructor
     ·rintro ⟨i,h1,h2⟩;rw [gJ (List.mem_range.1 h1)] at h2;exact ⟨i,h1,h2⟩
     ·rintro ⟨i,h1,h2⟩;exact ⟨i,h1,by rw [gJ (List.mem_range.1 h1)];exact h2⟩]
    rw [show (!(true&&true))=false from rfl,cond_false]
    cases hF:zhP a with
    |true=>rfl
    |false=>
     have R:=hR hB hP hF;have hrd:=h.rd;rw [cond_false,cond_false,zlf a7 hg h.key a7 R.c.ok R.pts hn,Option.bind_some];dsimp only;rw [Option.isSome_some,cond_true,decide_eq_false b6,cond_false,zlo hg,Option.bind_some,Option.getD_some];rw [show zaU fuel ⟨a.catalogue,bids,zhu a bids,a.bidders,(List.range a.catalogue.length).map (fT a.bidders),(List.range bids.length).map (fun i=>(nth bids i).Change),List.replicate a.catalogue.length 0⟩=some ((ep fuel a bids).bs,gH a.catalogue (ep fuel a bids).bs,(ep fuel a bids).rest,(ep fuel a bids).mom) from zlu hf R.c,Option.bind_some];dsimp only;rw [zju R.inv.val h.act,Option.bind_some];dsimp only;rw [decide_eq_false b6,cond_false,dJ (by unfold dm;omega)]
     rw [zfT (n:=bids.length) (fun i=>(nth bids i).Change - nth (ep fuel a bids).rest i) b6 (fun i next s hi hs=>by
      have h1:=R.inv.r12 R.c i hi;have h2:=R.c.ok.ch i hi
      rw [dJ (by rw [R.inv.rl];omega),dJ a7,gx a7])]
     rw [(ziy hg R.pts R.c R.inv R.clk).1,Option.bind_some,gx a7]
     rfl
def zdv (l:List GProduct)(bids:List GBid)(n:List Int)(before:List GBidder)(after:List GBidder):Option Bool:=
 (zct l before).bind fun r27=>
 (zct l after).bind fun r33=>
 (bif ((((((decide (¬r27.2=0))||(decide (¬r33.2=0)))||(decide (¬(n.length:Int)=(bids.length:Int))))||(decide (¬(before.length:Int)=(after.length:Int))))||(decide (¬(r27.1.length:Int)=(l.length:Int))))||(decide (¬(r33.1.length:Int)=(l.length:Int)))) then
 some false
 else
 dj (dm ([]++r27.1).length 8) <|
 dF (fun (l_7:List Int)=>
 dF (fun (_:Unit)=>
 dF (fun (_:Unit)=>
 some true)
 (fun k35=>
 dq (fun (i_37:Nat) (next36:Unit→Option Bool) (_:Unit)=>
 (bif (((decide (¬(nth after i_37).ID=(nth before i_37).ID))||(decide ((nth before i_37).Eligibility<(nth after i_37).Eligibility)))||(decide ((nth before i_37).Waivers<(nth after i_37).Waivers))) then
 some false
 else
 next36 ()))
 (fun (_:Unit)=>
 k35 ()) (after.length - 0) 0 ()))
 (fun k28=>
 dq (fun (p_30:Nat) (next29:Unit→Option Bool) (_:Unit)=>
 dj (0≤(p_30:Int)∧(p_30:Int)<(l_7.length:Int)) <|
 (bif ((decide (¬(nth l_7 p_30)=(nth r33.1 p_30)))||((decide ((nth l p_30).Supply≤(nth r27.1 p_30)))&&(decide ((nth r33.1 p_30)<(nth l p_30).Supply)))) then
 some false
 else
 next29 ()))
 (fun (_:Unit)=>
 k28 ()) (l.length - 0) 0 ()))
 (fun k8=>
 dq (fun (i_11:Nat) (next10:List Int→Option Bool) (l_9:List Int)=>
 dF (fun (l_13:List Int)=>
 next10 l_13)
 (fun k14=>
 (bif (((((decide ((ff after ((nth bids i_11).Bidder))<0))||(decide ((nth bids i_11).Product<0)))||(decide ((l.length:Int)≤(nth bids i_11).Product)))||(decide (wI ((nth n i_11) * ((nth bids i_11).Change))<0)))||(decide ((max ((nth bids i_11).Change) (wI (0 - ((nth bids i_11).Change))))<(max (nth n i_11) (wI (0 - (nth n i_11))))))) then
 some false
 else
 dj (0≤(nth bids i_11).Product∧(nth bids i_11).Product<(l_9.length:Int)) <|
 dj (0≤(ff after ((nth bids i_11).Bidder))∧(ff after ((nth bids i_11).Bidder))<(after.length:Int)) <|
 (bif decide (¬(((nth after ((ff after ((nth bids i_11).Bidder)).toNat)).Blocks).length:Int)=(l.length:Int)) then
 some false
 else
 (bif decide ((nth n i_11)=(nth bids i_11).Change) then
 k14 (l_9.set (((nth bids i_11).Product).toNat) (wI ((nth l_9 (((nth bids i_11).Product).toNat))+(nth n i_11))))
 else
 (bif (((decide ((nth bids i_11).Change<0))&&(decide (0<(nth ((nth after ((ff after ((nth bids i_11).Bidder)).toNat)).Blocks) (((nth bids i_11).Product).toNat)))))&&(decide ((nth l (((nth bids i_11).Product).toNat)).Supply<(nth r33.1 (((nth bids i_11).Product).toNat))))) then
 some false
 else
 (zcD l (GBidder.mk ((nth after ((ff after ((nth bids i_11).Bidder)).toNat)).ID) ((nth before ((ff after ((nth bids i_11).Bidder)).toNat)).Eligibility) ((nth after ((ff after ((nth bids i_11).Bidder)).toNat)).Waivers) ((nth after ((ff after ((nth bids i_11).Bidder)).toNat)).Blocks)) ((nth bids i_11).Product)).bind fun r197=>
 (bif ((decide (0<(nth bids i_11).Change))&&((decide (¬r197.2=0))||(decide (¬r197.1=0)))) then
 some false
 else
 k14 (l_9.set (((nth bids i_11).Product).toNat) (wI ((nth l_9 (((nth bids i_11).Product).toNat))+(nth n i_11)))))))))))
 (fun (l_9:List Int)=>
 k8 l_9) (bids.length - 0) 0 ([]++r27.1)))
theorem zhr (F0:Frz)(w:World)(hF0:F0.At w)(l:List GProduct)(vl:Value)(hl:SlC F0 vl 5 (l.map cV))(bids:List GBid)(vbids:Value)(cbids:List (List Value))(hbids:SlD cW F0 vbids 7 cbids bids)(n:List Int)(vn:Value)(hn:SlC F0 vn 1 (n.map eI))(before:List GBidder)(vbefore:Value)(cbefore:List (List Value))(hbefore:SlD cR F0 vbefore 4 cbefore before)(after:List GBidder)(vafter:Value)(cafter:List (List Value))(hafter:SlD cR F0 vafter 4 cafter after)(r:Bool)(hr:zdv l bids n before after=some r):Calls Tryz.prog 22 #[vl,vbids,vn,vbefore,vafter] w fun e w'=>e= .returned (.bool r)∧Below w.heap.size w w':=by
 have hk:=hr;unfold zdv at hk;haveI:=hl.oneC;haveI:=hbids.1.oneC;haveI:=hn.oneC;haveI:=hbefore.1.oneC;haveI:=hafter.1.oneC;obtain ⟨S0,F1,rfl,hS0,hp0⟩:=eo hF0;refine dQ Tryz.func22 rfl rfl rfl hp0 ?_;refine eW ?_;have hq:=dw hk;clear hk;obtain ⟨r27,hr27,hk⟩:=hq; (try dsimp only at hk);refine eO ?_;refine cX (dI [0] [] [] rfl rfl rfl rfl a8 (fun w hw hw2 hF=>zet _ w hF l vl hl before vbefore cbefore hbefore r27 hr27)) ?_;rintro _ _ ⟨v27_0_0, -,rfl,rfl⟩;refine lz ?_;intro iv27_0_0 hmv27_0_0;refine io ?_;refine fi ?_;have hq:=dw hk;clear hk;obtain ⟨r33,hr33,hk⟩:=hq; (try dsimp only at hk);refine eO ?_;refine cX (dI [1,0] [] [.sl v27_0_0 3 1 r27.1.length (r27.1.flatMap eI)] rfl rfl rfl rfl a8 (fun w hw hw2 hF=>zet _ w hF l vl hl after vafter cafter hafter r33 hr33)) ?_;rintro _ _ ⟨v33_0_0, -,rfl,rfl⟩;refine lz ?_;intro iv33_0_0 hmv33_0_0;refine io ?_;refine iT ?_;refine c9 (ι:=Unit) (fun z=>[(0,vl),(1,vbids),(2,vn),(3,vbefore),(4,vafter),(11,v27_0_0),(13,v33_0_0),(69, .bool ((((((decide (¬r27.2=0))||(decide (¬r33.2=0)))||(decide (¬(n.length:Int)=(bids.length:Int))))||(decide (¬(before.length:Int)=(after.length:Int))))||(decide (¬(r27.1.length:Int)=(l.length:Int))))||(decide (¬(r33.1.length:Int)=(l.length:Int)))))]) (fun z=>[.sl v33_0_0 3 1 r33.1.length (r33.1.flatMap eI), .sl v27_0_0 3 1 r27.1.length (r27.1.flatMap eI), .fr F1]) (fun z=>True) ?_ ?_
 ·refine ie ?_;refine dg rfl rfl rfl (fun h1=>?_) (fun h1=>?_)
  ·have p1:=of_decide_eq_true h1;refine TL.run 31 rfl ?_;refine fG ?_;refine q2y ?_;exact cY () trivial (.c (.c (.c (.c (.c (.c (.c (.b (eD (eD (eD (eD (eD h1))))).symm .nil)))))))) (List.Sublist.refl _)
  ·have p1:=of_decide_eq_false h1;refine kJ ?_;refine dg rfl rfl rfl (fun h2=>?_) (fun h2=>?_)
   ·have p2:=of_decide_eq_true h2;refine TL.run 27 rfl ?_;refine fG ?_;refine q2y ?_;exact cY () trivial (.c (.c (.c (.c (.c (.c (.c (.b (eD (eD (eD (eD (fw h1 h2))))).symm .nil)))))))) (List.Sublist.refl _)
   ·have p2:=of_decide_eq_false h2;refine dy ?_;refine cS (dk rfl rfl hn (List.length_map _)) ?_;have hm44:n.length≤9223372036854775807:=(List.length_map _)▸hn.max;refine dy ?_;refine q3C ?_;have hm46:bids.length≤9223372036854775807:=hbids.2.1▸hbids.1.max;refine fP ?_;refine dg rfl rfl rfl (fun h3=>?_) (fun h3=>?_)
    ·have p3:=of_decide_eq_true h3;refine TL.run 20 rfl ?_;refine fG ?_;refine q2y ?_;exact cY () trivial (.c (.c (.c (.c (.c (.c (.c (.b (eD (eD (eD (fw (fw h1 h2) h3)))).symm .nil)))))))) (List.Sublist.refl _)
    ·have p3:=of_decide_eq_false h3;refine dy ?_;refine cS (dk rfl rfl hbefore.1 hbefore.2.1) ?_;have hm51:before.length≤9223372036854775807:=hbefore.2.1▸hbefore.1.max;refine dy ?_;refine cS (dk rfl rfl hafter.1 hafter.2.1) ?_;have hm53:after.length≤9223372036854775807:=hafter.2.1▸hafter.1.max;refine fP ?_;refine dg rfl rfl rfl (fun h4=>?_) (fun h4=>?_)
     ·have p4:=of_decide_eq_true h4;refine TL.run 13 rfl ?_;refine fG ?_;refine q2y ?_;exact cY () trivial (.c (.c (.c (.c (.c (.c (.c (.b (eD (eD (fw (fw (fw h1 h2) h3) h4))).symm .nil)))))))) (List.Sublist.refl _)
     ·have p4:=of_decide_eq_false h4;refine dy ?_;refine cS (gw 2 rfl rfl rfl) ?_;refine dy ?_;refine q1V ?_;have hm60:l.length≤9223372036854775807:=(List.length_map _)▸hl.max;refine fP ?_;refine dg rfl rfl rfl (fun h5=>?_) (fun h5=>?_)
      ·have p5:=of_decide_eq_true h5;refine q3b ?_;refine q2y ?_;exact cY () trivial (.c (.c (.c (.c (.c (.c (.c (.b (eD (fw (fw (fw (fw h1 h2) h3) h4) h5)).symm .nil)))))))) (List.Sublist.refl _)
      ·have p5:=of_decide_eq_false h5;refine dy ?_;refine cS (gw 0 rfl rfl rfl) ?_;refine dy ?_;refine q1V ?_;refine jZ ?_;refine q2y ?_;exact cY () trivial (.c (.c (.c (.c (.c (.c (.c (.b (fK (fw (fw (fw (fw h1 h2) h3) h4) h5)) .nil)))))))) (List.Sublist.refl _)
 ·rintro _ _;have hm44:n.length≤9223372036854775807:=(List.length_map _)▸hn.max;have hm46:bids.length≤9223372036854775807:=hbids.2.1▸hbids.1.max;have hm51:before.length≤9223372036854775807:=hbefore.2.1▸hbefore.1.max;have hm53:after.length≤9223372036854775807:=hafter.2.1▸hafter.1.max;have hm60:l.length≤9223372036854775807:=(List.length_map _)▸hl.max;refine T.cond rfl (fun h6=>?_) (fun h6=>?_)
  ·replace hk:=dr hk h6;refine iQ ?_;obtain rfl:=Option.some.inj hk;exact d8
  ·have p6:=h6; (try simp only [iC] at p6);replace hk:=dt hk h6;refine fN ?_;refine jK (fun w hw=>hw.freezeS (i:=2) (j:=1) a8 rfl rfl) ?_;rintro F2 ⟨le1_2,hz2⟩;refine fI ?_;have hfF2:=hz2.toF rfl (fun _=>rfl);haveI:=hfF2.oneC;have hq:(dm ([]++r27.1).length 8)∧_:=dB hk;clear hk;obtain ⟨g71,hk⟩:=hq; (try dsimp only at hk);refine ef ?_;refine TL.slNil 3 1 ?_;refine cX (kq 0 2 (zhe (fun _=>inferInstance)) rfl rfl rfl rfl rfl hfF2 (zkN (xs:=([]:List Int))) (zjL (xs:=([]:List Int))) g71 a8) ?_;rintro v71 _ ⟨hv71,rfl⟩;refine dy ?_;refine je ?_;refine dZ ?_;have hq:=d7 hk;clear hk;obtain ⟨k8,hk8,hk⟩:=hq; (try dsimp only at hk);refine c9 (ι:=List Int) (fun z=>[(0,vl),(3,vbefore),(4,vafter),(11,v27_0_0),(13,v33_0_0),(15,v71)]) (fun z=>[.sl v71 3 1 z.length (z.flatMap eI), .sl v33_0_0 3 1 r33.1.length (r33.1.flatMap eI), .fr F2]) (fun z=>k8 z=some r) ?_ ?_
   ·have hq:=fJ hk;clear hk;obtain ⟨f10,kk10,hf10,hkk10,hk⟩:=hq;refine eH ?_;refine T.loop (ι:=Nat×List Int) (fun z=>[(0,vl),(1,vbids),(2,vn),(3,vbefore),(4,vafter),(11,v27_0_0),(13,v33_0_0),(15,v71),(16, .int .i64 (z.1:Int))]) (fun z=>[.sl v71 3 1 z.2.length (z.2.flatMap eI), .sl v33_0_0 3 1 r33.1.length (r33.1.flatMap eI), .fr F2]) (fun z=>dq f10 kk10 (bids.length - z.1) z.1 z.2=some r) (fun z=>bids.length - z.1) (0,([]++r27.1)) ?_ ?_ ?_ ?_
    ·exact hk
    ·exact (.c (.c (.c (.c (.c (.c (.c (.c (.c .nil)))))))))
    ·exact eG
    ·rintro ⟨i_11,l_9⟩ hk; (try dsimp only at *);refine l6 ?_;refine q3l ?_;refine dZ ?_;refine T.cond rfl (fun h12=>?_) (fun h12=>?_)
     ·have p12:=of_decide_eq_true h12;rw [fF a7] at hk;generalize hn10:dq f10 kk10 (bids.length - (i_11+1)) (i_11+1)=next10 at hk;rw [←hf10] at hk; (try dsimp only at hk);refine fN ?_;have hq:=d7 hk;clear hk;obtain ⟨k14,hk14,hk⟩:=hq; (try dsimp only at hk);refine c9 (ι:=List Int) (fun z=>[(0,vl),(1,vbids),(2,vn),(3,vbefore),(4,vafter),(11,v27_0_0),(13,v33_0_0),(15,v71),(16, .int .i64 (i_11:Int))]) (fun z=>[.sl v71 3 1 z.length (z.flatMap eI), .sl v33_0_0 3 1 r33.1.length (r33.1.flatMap eI), .fr F2]) (fun z=>k14 z=some r) ?_ ?_
      ·refine T.block (dY ?_);refine ek ?_;refine cS (df (i:=i_11) rfl rfl rfl (SlD.mono (rep:=cW) (fun _ _ _ _=>GBid.mono) hbids le1_2).1 (SlD.mono (rep:=cW) (fun _ _ _ _=>GBid.mono) hbids le1_2).2.1 rfl a7) ?_;refine cS (fv 2 (i:=i_11) (j:=0) rfl rfl rfl (SlD.mono (rep:=cW) (fun _ _ _ _=>GBid.mono) hbids le1_2).1 (SlD.mono (rep:=cW) (fun _ _ _ _=>GBid.mono) hbids le1_2).2.1 a7 rfl (eC ((SlD.mono (rep:=cW) (fun _ _ _ _=>GBid.mono) hbids le1_2).2.2 i_11 a7))) ?_;have hd81_4:=(fo ((SlD.mono (rep:=cW) (fun _ _ _ _=>GBid.mono) hbids le1_2).2.2 i_11 a7)).2;haveI:=hd81_4.oneC;have hd81_6:=(fj ((SlD.mono (rep:=cW) (fun _ _ _ _=>GBid.mono) hbids le1_2).2.2 i_11 a7)).2;haveI:=hd81_6.oneC;refine fW ?_;rintro _ _ ⟨g17,rfl,rfl⟩;refine gg ?_;refine i0 ?_;refine gC ?_;refine cX (de rfl rfl rfl (fun w hw=>zho _ w (hw.fr (i:=3) rfl) after vafter cafter (SlD.mono (rep:=cR) (fun _ _ _ _=>GBidder.mono) hafter le1_2) ((nth bids i_11).Bidder))) ?_;refine ee ?_;refine kC ?_;refine c9 (ι:=Unit) (fun z=>[(0,vl),(1,vbids),(2,vn),(3,vbefore),(4,vafter),(11,v27_0_0),(13,v33_0_0),(15,v71),(16, .int .i64 (i_11:Int)),(17, .pointer (some ⟨g17,0,none⟩)),(18, .int .i64 (ff after ((nth bids i_11).Bidder))),(128, .bool (((((decide ((ff after ((nth bids i_11).Bidder))<0))||(decide ((nth bids i_11).Product<0)))||(decide ((l.length:Int)≤(nth bids i_11).Product)))||(decide (wI ((nth n i_11) * ((nth bids i_11).Change))<0)))||(decide ((max ((nth bids i_11).Change) (wI (0 - ((nth bids i_11).Change))))<(max (nth n i_11) (wI (0 - (nth n i_11))))))))]) (fun z=>[.row g17 79 [.int .i64 ((nth bids i_11).Bidder), .int .i64 ((nth bids i_11).Product), .int .i64 ((nth bids i_11).Change), .bool ((nth bids i_11).Point.Num.Neg),(nth (nth cbids i_11) 4), .bool ((nth bids i_11).Point.Den.Neg),(nth (nth cbids i_11) 6)], .sl v71 3 1 l_9.length (l_9.flatMap eI), .sl v33_0_0 3 1 r33.1.length (r33.1.flatMap eI), .fr F2]) (fun z=>True) ?_ ?_
       ·refine dS (sN 0 42 (.still 42 .done)) _ b0 (List.Sublist.refl _) ?_;refine gI ?_;refine fk rfl rfl rfl rfl (fun h15=>?_) (fun h15=>?_)
        ·have p15:=of_decide_eq_true h15;refine TS.run 40 rfl ?_;refine ia ?_;exact cY () trivial (.c (.c (.c (.c (.c (.c (.c (.c (.c (.c (.c (.b (eD (eD (eD (eD h15)))).symm .nil)))))))))))) (List.Sublist.refl _)
        ·have p15:=of_decide_eq_false h15;refine iy ?_;refine gI ?_;refine fk rfl rfl rfl rfl (fun h16=>?_) (fun h16=>?_)
         ·have p16:=of_decide_eq_true h16;refine TS.run 35 rfl ?_;refine ia ?_;exact cY () trivial (.c (.c (.c (.c (.c (.c (.c (.c (.c (.c (.c (.b (eD (eD (eD (fw h15 h16)))).symm .nil)))))))))))) (List.Sublist.refl _)
         ·have p16:=of_decide_eq_false h16;refine q3U ?_;refine cU rfl (dk rfl rfl (SlC.mono hl le1_2) (List.length_map _)) ?_;refine gI ?_;refine fk rfl rfl rfl rfl (fun h17=>?_) (fun h17=>?_)
          ·have p17:=of_decide_eq_true h17;refine TS.run 28 rfl ?_;refine ia ?_;exact cY () trivial (.c (.c (.c (.c (.c (.c (.c (.c (.c (.c (.c (.b (eD (eD (fw (fw h15 h16) h17))).symm .nil)))))))))))) (List.Sublist.refl _)
          ·have p17:=of_decide_eq_false h17;refine q2O ?_;refine iy ?_;refine cU rfl (dh (v:= .int .i64 (wI ((nth n i_11) * ((nth bids i_11).Change))))) ?_;refine gI ?_;refine fk rfl rfl rfl rfl (fun h18=>?_) (fun h18=>?_)
           ·have p18:=of_decide_eq_true h18;refine TS.run 18 rfl ?_;refine ia ?_;exact cY () trivial (.c (.c (.c (.c (.c (.c (.c (.c (.c (.c (.c (.b (eD (fw (fw (fw h15 h16) h17) h18)).symm .nil)))))))))))) (List.Sublist.refl _)
           ·have p18:=of_decide_eq_false h18;refine q2O ?_;refine q2O ?_;refine cU rfl (gY) ?_;refine cU rfl (Yv.max2 rfl rfl rfl) ?_;refine iy ?_;refine iy ?_;refine cU rfl (gY) ?_;refine cU rfl (Yv.max2 rfl rfl rfl) ?_;refine lL ?_;exact cY () trivial (.c (.c (.c (.c (.c (.c (.c (.c (.c (.c (.c (.b (fK (fw (fw (fw h15 h16) h17) h18)) .nil)))))))))))) (List.Sublist.refl _)
       ·rintro _ _;refine T.cond rfl (fun h19=>?_) (fun h19=>?_)
        ·replace hk:=dr hk h19;refine lf ?_;obtain rfl:=Option.some.inj hk;exact d8
        ·have p19:=h19; (try simp only [iC] at p19);replace hk:=dt hk h19;refine fN ?_;have hq:(0≤(nth bids i_11).Product∧(nth bids i_11).Product<(l_9.length:Int))∧_:=dB hk;clear hk;obtain ⟨g135,hk⟩:=hq; (try dsimp only at hk);refine dS (sN 0 6 (sN 8 4 (.eff 6 (.eff 7 (.still 12 (.eff 13 (.eff 14 .done))))))) [.row g17 79 [.int .i64 ((nth bids i_11).Bidder), .int .i64 ((nth bids i_11).Product), .int .i64 ((nth bids i_11).Change), .bool ((nth bids i_11).Point.Num.Neg),(nth (nth cbids i_11) 4), .bool ((nth bids i_11).Point.Den.Neg),(nth (nth cbids i_11) 6)], .sl v33_0_0 3 1 r33.1.length (r33.1.flatMap eI), .fr F2] b0 Sx ?_;refine fS ?_;refine q3U ?_;refine iy ?_;refine q1A ?_;refine cU rfl (dD 2 (i:=i_11) (j:=0) rfl rfl rfl (SlC.mono hn le1_2) a7) ?_;refine q28 ?_;refine dK rfl (cT) rfl rfl (eg 1 rfl rfl rfl a7 (gK (enc:=eI) (i:=((nth bids i_11).Product).toNat) (j:=0) (fun _=>rfl) a7 a8)) (fun w hw=>hw.sub Sx) ?_;refine cU rfl (dh (v:= .int .i64 (wI ((nth l_9 (((nth bids i_11).Product).toNat))+(nth n i_11))))) ?_;refine q28 ?_;refine dT rfl (cT) rfl (ez 1 (k':=(l_9.set (((nth bids i_11).Product).toNat) (wI ((nth l_9 (((nth bids i_11).Product).toNat))+(nth n i_11)))).length) (l':=(l_9.set (((nth bids i_11).Product).toNat) (wI ((nth l_9 (((nth bids i_11).Product).toNat))+(nth n i_11)))).flatMap eI) rfl rfl rfl rfl a7 (ik (enc:=eI) (xs:=l_9) (i:=((nth bids i_11).Product).toNat) (j:=0) (size:=1) (fun _=>rfl) a7 a8 b8) (ij (enc:=eI) (xs:=l_9) (i:=((nth bids i_11).Product).toNat) (j:=0) (size:=1) (x:=(wI ((nth l_9 (((nth bids i_11).Product).toNat))+(nth n i_11)))) (fun _=>rfl) a7 a8 b8 rfl) (List.length_set ..)) ?_;refine gA ?_;refine ma ?_;have hq:(0≤(ff after ((nth bids i_11).Bidder))∧(ff after ((nth bids i_11).Bidder))<(after.length:Int))∧_:=dB hk;clear hk;obtain ⟨g145,hk⟩:=hq; (try dsimp only at hk);refine eO ?_;refine cS (df (i:=(ff after ((nth bids i_11).Bidder)).toNat) rfl rfl rfl (SlD.mono (rep:=cR) (fun _ _ _ _=>GBidder.mono) hafter le1_2).1 (SlD.mono (rep:=cR) (fun _ _ _ _=>GBidder.mono) hafter le1_2).2.1 a7 a7) ?_;refine cS (fv 3 (i:=(ff after ((nth bids i_11).Bidder)).toNat) (j:=0) rfl rfl rfl (SlD.mono (rep:=cR) (fun _ _ _ _=>GBidder.mono) hafter le1_2).1 (SlD.mono (rep:=cR) (fun _ _ _ _=>GBidder.mono) hafter le1_2).2.1 a7 rfl (eP ((SlD.mono (rep:=cR) (fun _ _ _ _=>GBidder.mono) hafter le1_2).2.2 ((ff after ((nth bids i_11).Bidder)).toNat) a7))) ?_;have hd146_3:=(eL ((SlD.mono (rep:=cR) (fun _ _ _ _=>GBidder.mono) hafter le1_2).2.2 ((ff after ((nth bids i_11).Bidder)).toNat) a7)).2;haveI:=hd146_3.oneC;refine fW ?_;rintro _ _ ⟨g19,rfl,rfl⟩;refine gg ?_;refine lV ?_;refine cS (df (i:=(ff after ((nth bids i_11).Bidder)).toNat) rfl rfl rfl (SlD.mono (rep:=cR) (fun _ _ _ _=>GBidder.mono) hbefore le1_2).1 (SlD.mono (rep:=cR) (fun _ _ _ _=>GBidder.mono) hbefore le1_2).2.1 a7 a7) ?_;refine cS (fL rfl rfl (SlD.mono (rep:=cR) (fun _ _ _ _=>GBidder.mono) hbefore le1_2).1 (SlD.mono (rep:=cR) (fun _ _ _ _=>GBidder.mono) hbefore le1_2).2.1 a7) ?_;refine cS (fx 4 (i:=(ff after ((nth bids i_11).Bidder)).toNat) (j:=1) rfl rfl rfl (SlD.mono (rep:=cR) (fun _ _ _ _=>GBidder.mono) hbefore le1_2).1 (SlD.mono (rep:=cR) (fun _ _ _ _=>GBidder.mono) hbefore le1_2).2.1 a7 rfl (ic ((SlD.mono (rep:=cR) (fun _ _ _ _=>GBidder.mono) hbefore le1_2).2.2 ((ff after ((nth bids i_11).Bidder)).toNat) a7))) ?_;refine gn ?_;refine dM (iv 0 rfl rfl rfl rfl b6) ?_;refine ee ?_;refine je ?_;refine gC ?_;refine cS (dk rfl rfl hd146_3 (List.length_map _)) ?_;have hm155:((nth after ((ff after ((nth bids i_11).Bidder)).toNat)).Blocks).length≤9223372036854775807:=(List.length_map _)▸hd146_3.max;refine dy ?_;refine q23 ?_;refine dZ ?_;refine T.cond rfl (fun h20=>?_) (fun h20=>?_)
         ·have p20:=of_decide_eq_true h20;replace hk:=dr hk h20;refine lf ?_;obtain rfl:=Option.some.inj hk;exact d8
         ·have p20:=of_decide_eq_false h20;replace hk:=dt hk h20;refine q2z ?_;refine q3V ?_;refine q1A ?_;refine cU rfl (dD 4 (i:=i_11) (j:=0) rfl rfl rfl (SlC.mono hn le1_2) a7) ?_;refine jw ?_;refine iM ?_;refine K.seq ?_;refine T.cond rfl (fun h21=>?_) (fun h21=>?_)
          ·have p21:=of_decide_eq_true h21;replace hk:=dr hk h21;refine T.exit (iO (j9 ?_));refine K.pick [2,3,4] rfl a8 ?_;exact q4M
          ·have p21:=of_decide_eq_false h21;replace hk:=dt hk h21;refine q2z ?_;refine c9 (ι:=Unit) (fun z=>[(0,vl),(1,vbids),(2,vn),(3,vbefore),(4,vafter),(11,v27_0_0),(13,v33_0_0),(15,v71),(16, .int .i64 (i_11:Int)),(17, .pointer (some ⟨g17,0,none⟩)),(19, .pointer (some ⟨g19,0,none⟩)),(191, .bool (((decide ((nth bids i_11).Change<0))&&(decide (0<(nth ((nth after ((ff after ((nth bids i_11).Bidder)).toNat)).Blocks) (((nth bids i_11).Product).toNat)))))&&(decide ((nth l (((nth bids i_11).Product).toNat)).Supply<(nth r33.1 (((nth bids i_11).Product).toNat))))))]) (fun z=>[.row g19 57 [.int .i64 ((nth after ((ff after ((nth bids i_11).Bidder)).toNat)).ID), .int .i64 ((nth before ((ff after ((nth bids i_11).Bidder)).toNat)).Eligibility), .int .i64 ((nth after ((ff after ((nth bids i_11).Bidder)).toNat)).Waivers),(nth (nth cafter ((ff after ((nth bids i_11).Bidder)).toNat)) 3)], .row g17 79 [.int .i64 ((nth bids i_11).Bidder), .int .i64 ((nth bids i_11).Product), .int .i64 ((nth bids i_11).Change), .bool ((nth bids i_11).Point.Num.Neg),(nth (nth cbids i_11) 4), .bool ((nth bids i_11).Point.Den.Neg),(nth (nth cbids i_11) 6)], .sl v71 3 1 (l_9.set (((nth bids i_11).Product).toNat) (wI ((nth l_9 (((nth bids i_11).Product).toNat))+(nth n i_11)))).length ((l_9.set (((nth bids i_11).Product).toNat) (wI ((nth l_9 (((nth bids i_11).Product).toNat))+(nth n i_11)))).flatMap eI), .sl v33_0_0 3 1 r33.1.length (r33.1.flatMap eI), .fr F2]) (fun z=>True) ?_ ?_
           ·refine dS (sN 0 25 (.still 25 .done)) _ b0 (List.Sublist.refl _) ?_;refine jw ?_;refine fe ?_;refine fk rfl rfl rfl rfl (fun h22=>?_) (fun h22=>?_)
            ·have p22:=of_decide_eq_true h22;refine iy ?_;refine jw ?_;refine cU rfl (df (i:=((nth bids i_11).Product).toNat) rfl rfl rfl hd146_3 (List.length_map _) a7 a7) ?_;refine cU rfl (dD 4 (i:=((nth bids i_11).Product).toNat) (j:=0) rfl rfl rfl hd146_3 a7) ?_;refine gI ?_;refine fk rfl rfl rfl rfl (fun h23=>?_) (fun h23=>?_)
             ·have p23:=of_decide_eq_true h23;refine fS ?_;refine jw ?_;refine cU rfl (dL 3 (i:=((nth bids i_11).Product).toNat) rfl rfl rfl rfl a7 a7) ?_;refine cU rfl (eg 3 rfl rfl rfl a7 (gK (enc:=eI) (i:=((nth bids i_11).Product).toNat) (j:=0) (fun _=>rfl) a7 a8)) ?_;refine fS ?_;refine jw ?_;refine cU rfl (df (i:=((nth bids i_11).Product).toNat) rfl rfl rfl (SlC.mono hl le1_2) (List.length_map _) a7 a7) ?_;refine cU rfl (fL rfl rfl (SlC.mono hl le1_2) (List.length_map _) a7) ?_;refine cU rfl (dD 4 (i:=((nth bids i_11).Product).toNat) (j:=2) rfl rfl rfl (SlC.mono hl le1_2) a7) ?_;refine lL ?_;exact cY () trivial (.c (.c (.c (.c (.c (.c (.c (.c (.c (.c (.c (.b (kg (zfh h22 h23)) .nil)))))))))))) (List.Sublist.refl _)
             ·have p23:=of_decide_eq_false h23;refine TS.run 13 rfl ?_;refine ia ?_;exact cY () trivial (.c (.c (.c (.c (.c (.c (.c (.c (.c (.c (.c (.b (iL (zfh h22 h23)).symm .nil)))))))))))) (List.Sublist.refl _)
            ·have p22:=of_decide_eq_false h22;refine TS.run 22 rfl ?_;refine ia ?_;exact cY () trivial (.c (.c (.c (.c (.c (.c (.c (.c (.c (.c (.c (.b (iL (iL h22)).symm .nil)))))))))))) (List.Sublist.refl _)
           ·rintro _ _;refine T.cond rfl (fun h24=>?_) (fun h24=>?_)
            ·have p24:=h24; (try simp only [iC] at p24);replace hk:=dr hk h24;refine lf ?_;obtain rfl:=Option.some.inj hk;exact d8
            ·replace hk:=dt hk h24;refine fN ?_;have hq:=dw hk;clear hk;obtain ⟨r197,hr197,hk⟩:=hq; (try dsimp only at hk);refine ef ?_;refine jB ?_;refine kP ?_;refine cX (de rfl rfl rfl (fun w hw=>zgG _ w (hw.fr (i:=4) rfl) l vl (SlC.mono hl le1_2) (GBidder.mk ((nth after ((ff after ((nth bids i_11).Bidder)).toNat)).ID) ((nth before ((ff after ((nth bids i_11).Bidder)).toNat)).Eligibility) ((nth after ((ff after ((nth bids i_11).Bidder)).toNat)).Waivers) ((nth after ((ff after ((nth bids i_11).Bidder)).toNat)).Blocks)) (nth (nth cafter ((ff after ((nth bids i_11).Bidder)).toNat)) 3) hd146_3 ((nth bids i_11).Product) r197 hr197)) ?_;refine ee ?_;refine io ?_;refine fi ?_;refine c9 (ι:=Unit) (fun z=>[(0,vl),(1,vbids),(2,vn),(3,vbefore),(4,vafter),(11,v27_0_0),(13,v33_0_0),(15,v71),(16, .int .i64 (i_11:Int)),(210, .bool ((decide (0<(nth bids i_11).Change))&&((decide (¬r197.2=0))||(decide (¬r197.1=0)))))]) (fun z=>[.row g19 57 [.int .i64 ((nth after ((ff after ((nth bids i_11).Bidder)).toNat)).ID), .int .i64 ((nth before ((ff after ((nth bids i_11).Bidder)).toNat)).Eligibility), .int .i64 ((nth after ((ff after ((nth bids i_11).Bidder)).toNat)).Waivers),(nth (nth cafter ((ff after ((nth bids i_11).Bidder)).toNat)) 3)], .row g17 79 [.int .i64 ((nth bids i_11).Bidder), .int .i64 ((nth bids i_11).Product), .int .i64 ((nth bids i_11).Change), .bool ((nth bids i_11).Point.Num.Neg),(nth (nth cbids i_11) 4), .bool ((nth bids i_11).Point.Den.Neg),(nth (nth cbids i_11) 6)], .sl v71 3 1 (l_9.set (((nth bids i_11).Product).toNat) (wI ((nth l_9 (((nth bids i_11).Product).toNat))+(nth n i_11)))).length ((l_9.set (((nth bids i_11).Product).toNat) (wI ((nth l_9 (((nth bids i_11).Product).toNat))+(nth n i_11)))).flatMap eI), .sl v33_0_0 3 1 r33.1.length (r33.1.flatMap eI), .fr F2]) (fun z=>True) ?_ ?_
             ·refine gy ?_;refine kP ?_;refine ek ?_;refine dg rfl rfl rfl (fun h25=>?_) (fun h25=>?_)
              ·have p25:=of_decide_eq_true h25;refine fP ?_;refine dg rfl rfl rfl (fun h26=>?_) (fun h26=>?_)
               ·have p26:=of_decide_eq_true h26;refine jH ?_;exact cY () trivial (.c (.c (.c (.c (.c (.c (.c (.c (.c (.b (zfh h25 (eD h26)).symm .nil)))))))))) (List.Sublist.refl _)
               ·have p26:=of_decide_eq_false h26;refine jH ?_;exact cY () trivial (.c (.c (.c (.c (.c (.c (.c (.c (.c (.b (Eq.trans (fK h26) (kg h25)) .nil)))))))))) (List.Sublist.refl _)
              ·have p25:=of_decide_eq_false h25;refine TL.run 7 rfl ?_;refine fG ?_;exact cY () trivial (.c (.c (.c (.c (.c (.c (.c (.c (.c (.b (iL h25).symm .nil)))))))))) (List.Sublist.refl _)
             ·rintro _ _;refine T.cond rfl (fun h27=>?_) (fun h27=>?_)
              ·have p27:=h27; (try simp only [iC] at p27);replace hk:=dr hk h27;refine eV ?_;refine ky ?_;obtain rfl:=Option.some.inj hk;exact d8
              ·replace hk:=dt hk h27;refine T.skip (fA ?_);refine K.pick [2,3,4] rfl a8 ?_;exact q4M
      ·rintro l_13 hk;rw [←hk14] at hk; (try dsimp only at hk);refine ef ?_;refine jh ?_;rw [←hn10] at hk;exact K.next ((i_11+1),l_13) hk b5 (.c (.c (.c (.c (.c (.c (.c (.c (.c .nil))))))))) (List.Sublist.refl _)
     ·have p12:=of_decide_eq_false h12;rw [fH a7,←hkk10] at hk; (try dsimp only at hk);refine eN ?_;exact cY l_9 hk (.c (.c (.c (.c (.c (.c .nil)))))) (List.Sublist.refl _)
   ·rintro l_7 hk;rw [←hk8] at hk; (try dsimp only at hk);refine iS ?_;refine dZ ?_;have hq:=d7 hk;clear hk;obtain ⟨k28,hk28,hk⟩:=hq; (try dsimp only at hk);refine c9 (ι:=Unit) (fun z=>[(3,vbefore),(4,vafter)]) (fun z=>[.fr F2]) (fun z=>k28 ()=some r) ?_ ?_
    ·have hq:=fJ hk;clear hk;obtain ⟨f29,kk29,hf29,hkk29,hk⟩:=hq;refine eH ?_;refine T.loop (ι:=Nat) (fun z=>[(0,vl),(3,vbefore),(4,vafter),(11,v27_0_0),(13,v33_0_0),(15,v71),(22, .int .i64 (z:Int))]) (fun z=>[.sl v71 3 1 l_7.length (l_7.flatMap eI), .sl v33_0_0 3 1 r33.1.length (r33.1.flatMap eI), .fr F2]) (fun z=>dq f29 kk29 (l.length - z) z ()=some r) (fun z=>l.length - z) 0 ?_ ?_ ?_ ?_
     ·exact hk
     ·exact q4k
     ·exact eG
     ·rintro p_30 hk;refine l6 ?_;refine q23 ?_;refine dZ ?_;refine T.cond rfl (fun h31=>?_) (fun h31=>?_)
      ·have p31:=of_decide_eq_true h31;rw [fF a7] at hk;generalize hn29:dq f29 kk29 (l.length - (p_30+1)) (p_30+1)=next29 at hk;rw [←hf29] at hk; (try dsimp only at hk);refine q2s ?_;have hq:(0≤(p_30:Int)∧(p_30:Int)<(l_7.length:Int))∧_:=dB hk;clear hk;obtain ⟨g219,hk⟩:=hq; (try dsimp only at hk);refine c9 (ι:=Unit) (fun z=>[(0,vl),(3,vbefore),(4,vafter),(11,v27_0_0),(13,v33_0_0),(15,v71),(22, .int .i64 (p_30:Int)),(249, .bool ((decide (¬(nth l_7 p_30)=(nth r33.1 p_30)))||((decide ((nth l p_30).Supply≤(nth r27.1 p_30)))&&(decide ((nth r33.1 p_30)<(nth l p_30).Supply)))))]) (fun z=>[.sl v71 3 1 l_7.length (l_7.flatMap eI), .sl v33_0_0 3 1 r33.1.length (r33.1.flatMap eI), .fr F2]) (fun z=>True) ?_ ?_
       ·refine dS (sN 0 32 (.still 32 .done)) _ b0 (List.Sublist.refl _) ?_;refine fe ?_;refine cU rfl (dL 0 (i:=p_30) rfl rfl rfl rfl rfl a7) ?_;refine cU rfl (eg 0 rfl rfl rfl a7 (gK (enc:=eI) (i:=p_30) (j:=0) (fun _=>rfl) a7 a8)) ?_;refine q2N ?_;refine fe ?_;refine fk rfl rfl rfl rfl (fun h32=>?_) (fun h32=>?_)
        ·have p32:=of_decide_eq_true h32;refine TS.run 23 rfl ?_;refine ia ?_;exact cY () trivial (.c (.c (.c (.c (.c (.c (.c (.b (eD h32).symm .nil)))))))) (List.Sublist.refl _)
        ·have p32:=of_decide_eq_false h32;refine fe ?_;refine cU rfl (df (i:=p_30) rfl rfl rfl hfF2 (List.length_map _) rfl a7) ?_;refine cU rfl (dD 2 (i:=p_30) (j:=0) rfl rfl rfl hfF2 a7) ?_;refine q12 ?_;refine fe ?_;refine fk rfl rfl rfl rfl (fun h33=>?_) (fun h33=>?_)
         ·have p33:=of_decide_eq_true h33;refine q2N ?_;refine q12 ?_;refine gI ?_;refine ia ?_;exact cY () trivial (.c (.c (.c (.c (.c (.c (.c (.b (Eq.trans (kg h33) (fK h32)) .nil)))))))) (List.Sublist.refl _)
         ·have p33:=of_decide_eq_false h33;refine TS.run 12 rfl ?_;refine ia ?_;exact cY () trivial (.c (.c (.c (.c (.c (.c (.c (.b (fw h32 (iL h33)).symm .nil)))))))) (List.Sublist.refl _)
       ·rintro _ _;refine T.cond rfl (fun h34=>?_) (fun h34=>?_)
        ·replace hk:=dr hk h34;refine eV ?_;refine ky ?_;obtain rfl:=Option.some.inj hk;exact d8
        ·have p34:=h34; (try simp only [iC] at p34);replace hk:=dt hk h34;refine q3E ?_;rw [←hn29] at hk;exact K.next (p_30+1) hk a7 (.c (.c (.c (.c (.c (.c (.c .nil))))))) (List.Sublist.refl _)
      ·have p31:=of_decide_eq_false h31;rw [fH a7,←hkk29] at hk; (try dsimp only at hk);refine eN ?_;refine K.pick [2] rfl a8 ?_;exact cY () hk (.c (.c .nil)) (List.Sublist.refl _)
    ·rintro _ hk;rw [←hk28] at hk; (try dsimp only at hk);refine iS ?_;refine dZ ?_;have hq:=d7 hk;clear hk;obtain ⟨k35,hk35,hk⟩:=hq; (try dsimp only at hk);refine c9 (ι:=Unit) (fun z=>[]) (fun z=>[.fr F2]) (fun z=>k35 ()=some r) ?_ ?_
     ·have hq:=fJ hk;clear hk;obtain ⟨f36,kk36,hf36,hkk36,hk⟩:=hq;refine eH ?_;refine T.loop (ι:=Nat) (fun z=>[(3,vbefore),(4,vafter),(23, .int .i64 (z:Int))]) (fun z=>[.fr F2]) (fun z=>dq f36 kk36 (after.length - z) z ()=some r) (fun z=>after.length - z) 0 ?_ ?_ ?_ ?_
      ·exact hk
      ·exact mx
      ·exact eG
      ·rintro i_37 hk;refine l6 ?_;refine cS (dk rfl rfl (SlD.mono (rep:=cR) (fun _ _ _ _=>GBidder.mono) hafter le1_2).1 (SlD.mono (rep:=cR) (fun _ _ _ _=>GBidder.mono) hafter le1_2).2.1) ?_;refine dZ ?_;refine T.cond rfl (fun h38=>?_) (fun h38=>?_)
       ·have p38:=of_decide_eq_true h38;rw [fF a7] at hk;generalize hn36:dq f36 kk36 (after.length - (i_37+1)) (i_37+1)=next36 at hk;rw [←hf36] at hk; (try dsimp only at hk);refine q2s ?_;refine c9 (ι:=Unit) (fun z=>[(3,vbefore),(4,vafter),(23, .int .i64 (i_37:Int)),(292, .bool (((decide (¬(nth after i_37).ID=(nth before i_37).ID))||(decide ((nth before i_37).Eligibility<(nth after i_37).Eligibility)))||(decide ((nth before i_37).Waivers<(nth after i_37).Waivers))))]) (fun z=>[.fr F2]) (fun z=>True) ?_ ?_
        ·refine dS (sN 0 36 (.still 36 .done)) _ b0 (List.Sublist.refl _) ?_;refine q0X ?_;refine cU rfl (fx 0 (i:=i_37) (j:=0) rfl rfl rfl (SlD.mono (rep:=cR) (fun _ _ _ _=>GBidder.mono) hafter le1_2).1 (SlD.mono (rep:=cR) (fun _ _ _ _=>GBidder.mono) hafter le1_2).2.1 a7 rfl (ig ((SlD.mono (rep:=cR) (fun _ _ _ _=>GBidder.mono) hafter le1_2).2.2 i_37 a7))) ?_;refine q0V ?_;refine cU rfl (fx 0 (i:=i_37) (j:=0) rfl rfl rfl (SlD.mono (rep:=cR) (fun _ _ _ _=>GBidder.mono) hbefore le1_2).1 (SlD.mono (rep:=cR) (fun _ _ _ _=>GBidder.mono) hbefore le1_2).2.1 a7 rfl (ig ((SlD.mono (rep:=cR) (fun _ _ _ _=>GBidder.mono) hbefore le1_2).2.2 i_37 a7))) ?_;refine fe ?_;refine fk rfl rfl rfl rfl (fun h39=>?_) (fun h39=>?_)
         ·have p39:=of_decide_eq_true h39;refine TS.run 25 rfl ?_;refine ia ?_;exact cY () trivial (.c (.c (.c (.b (eD (eD h39)).symm .nil)))) (List.Sublist.refl _)
         ·have p39:=of_decide_eq_false h39;refine q0X ?_;refine cU rfl (fx 0 (i:=i_37) (j:=1) rfl rfl rfl (SlD.mono (rep:=cR) (fun _ _ _ _=>GBidder.mono) hafter le1_2).1 (SlD.mono (rep:=cR) (fun _ _ _ _=>GBidder.mono) hafter le1_2).2.1 a7 rfl (ic ((SlD.mono (rep:=cR) (fun _ _ _ _=>GBidder.mono) hafter le1_2).2.2 i_37 a7))) ?_;refine q0V ?_;refine cU rfl (fx 0 (i:=i_37) (j:=1) rfl rfl rfl (SlD.mono (rep:=cR) (fun _ _ _ _=>GBidder.mono) hbefore le1_2).1 (SlD.mono (rep:=cR) (fun _ _ _ _=>GBidder.mono) hbefore le1_2).2.1 a7 rfl (ic ((SlD.mono (rep:=cR) (fun _ _ _ _=>GBidder.mono) hbefore le1_2).2.2 i_37 a7))) ?_;refine gI ?_;refine fk rfl rfl rfl rfl (fun h40=>?_) (fun h40=>?_)
          ·have p40:=of_decide_eq_true h40;refine TS.run 12 rfl ?_;refine ia ?_;exact cY () trivial (.c (.c (.c (.b (eD (fw h39 h40)).symm .nil)))) (List.Sublist.refl _)
          ·have p40:=of_decide_eq_false h40;refine q0X ?_;refine cU rfl (fx 0 (i:=i_37) (j:=2) rfl rfl rfl (SlD.mono (rep:=cR) (fun _ _ _ _=>GBidder.mono) hafter le1_2).1 (SlD.mono (rep:=cR) (fun _ _ _ _=>GBidder.mono) hafter le1_2).2.1 a7 rfl (jd ((SlD.mono (rep:=cR) (fun _ _ _ _=>GBidder.mono) hafter le1_2).2.2 i_37 a7))) ?_;refine q0V ?_;refine cU rfl (fx 0 (i:=i_37) (j:=2) rfl rfl rfl (SlD.mono (rep:=cR) (fun _ _ _ _=>GBidder.mono) hbefore le1_2).1 (SlD.mono (rep:=cR) (fun _ _ _ _=>GBidder.mono) hbefore le1_2).2.1 a7 rfl (jd ((SlD.mono (rep:=cR) (fun _ _ _ _=>GBidder.mono) hbefore le1_2).2.2 i_37 a7))) ?_;refine lL ?_;exact cY () trivial (.c (.c (.c (.b (fK (fw h39 h40)) .nil)))) (List.Sublist.refl _)
        ·rintro _ _;refine T.cond rfl (fun h41=>?_) (fun h41=>?_)
         ·replace hk:=dr hk h41;refine eV ?_;refine ky ?_;obtain rfl:=Option.some.inj hk;exact d8
         ·have p41:=h41; (try simp only [iC] at p41);replace hk:=dt hk h41;refine q3E ?_;rw [←hn36] at hk;exact K.next (i_37+1) hk a7 (.c (.c (.c .nil))) (List.Sublist.refl _)
       ·have p38:=of_decide_eq_false h38;rw [fH a7,←hkk36] at hk; (try dsimp only at hk);refine eN ?_;exact kY
     ·rintro _ hk;rw [←hk35] at hk; (try dsimp only at hk);refine kp ?_;obtain rfl:=Option.some.inj hk;exact d8
def zcw (fuel:Nat)(l:List GProduct)(bidders:List GBidder)(i:GIncrement)(key:List Int)(rounds:List (List GBid)):Option Bool:=
 (bif !(zcI l bidders key rounds) then
 (zcr fuel).bind fun r27=>
 some r27
 else
 (zc3 l bidders i key).bind fun r33=>
 (bif (r33.1).isSome then
 (bif ((decide (¬r33.2=0))||false) then
 dF (fun (x_5:Bool)=>
 some x_5)
 (fun k6=>
 (bif decide (r33.2=2) then
 k6 false
 else
 k6 false))
 else
 dF (fun (s11:List GBidder×Int×List Int)=>
 (zcr fuel).bind fun r132=>
 some r132)
 (fun k11=>
 dq (fun (k_16:Nat) (next15:(List GBidder×Int×List Int)→Option Bool) (s15:List GBidder×Int×List Int)=>
 dF (fun (s21:List GBidder×Int×List Int)=>
 next15 (s21.1,s21.2.1,s21.2.2))
 (fun k21=>
 (zaz (GAuction.mk ((r33.1.getD default).catalogue) s15.1 (GIncrement.mk ((r33.1.getD default).increment.Activity) ((r33.1.getD default).increment.Step)) ((r33.1.getD default).key) s15.2.1 s15.2.2)).bind fun r58=>
 (zaJ (GAuction.mk ((r33.1.getD default).catalogue) s15.1 (GIncrement.mk ((r33.1.getD default).increment.Activity) ((r33.1.getD default).increment.Step)) ((r33.1.getD default).key) s15.2.1 s15.2.2)).bind fun r60=>
 (zaN (GAuction.mk ((r33.1.getD default).catalogue) s15.1 (GIncrement.mk ((r33.1.getD default).increment.Activity) ((r33.1.getD default).increment.Step)) ((r33.1.getD default).key) s15.2.1 s15.2.2)).bind fun r62=>
 (zaQ fuel (GAuction.mk ((r33.1.getD default).catalogue) s15.1 (GIncrement.mk ((r33.1.getD default).increment.Activity) ((r33.1.getD default).increment.Step)) ((r33.1.getD default).key) s15.2.1 s15.2.2) (nth rounds k_16)).bind fun r69=>
 (bif decide (¬r69.2.1=0) then
 k21 (r69.2.2.1,r69.2.2.2.1,r69.2.2.2.2)
 else
 (zaN (GAuction.mk ((r33.1.getD default).catalogue) r69.2.2.1 (GIncrement.mk ((r33.1.getD default).increment.Activity) ((r33.1.getD default).increment.Step)) ((r33.1.getD default).key) r69.2.2.2.1 r69.2.2.2.2)).bind fun r82=>
 (zdv l (nth rounds k_16) r69.1 r62 r82).bind fun r83=>
 (bif !r83 then
 some false
 else
 (zaz (GAuction.mk ((r33.1.getD default).catalogue) r69.2.2.1 (GIncrement.mk ((r33.1.getD default).increment.Activity) ((r33.1.getD default).increment.Step)) ((r33.1.getD default).key) r69.2.2.2.1 r69.2.2.2.2)).bind fun r86=>
 (bif (((decide (¬(r86.length:Int)=(l.length:Int)))||(decide (¬(r58.length:Int)=(l.length:Int))))||(decide (¬(r60.length:Int)=(l.length:Int)))) then
 some false
 else
 dq (fun (p_28:Nat) (next27:Unit→Option Bool) (_:Unit)=>
 (bif ((decide ((nth r86 p_28)<(nth r58 p_28)))||(decide ((nth r60 p_28)<(nth r86 p_28)))) then
 some false
 else
 next27 ()))
 (fun (_:Unit)=>
 k21 (r69.2.2.1,r69.2.2.2.1,r69.2.2.2.2)) (l.length - 0) 0 ())))))
 (fun (s15:List GBidder×Int×List Int)=>
 k11 (s15.1,s15.2.1,s15.2.2)) (rounds.length - 0) 0 ((r33.1.getD default).bidders,(r33.1.getD default).rounds,(r33.1.getD default).prices)))
 else
 (bif ((decide (¬r33.2=0))||true) then
 dF (fun (x_34:Bool)=>
 some x_34)
 (fun k35=>
 (bif decide (r33.2=2) then
 (zcr fuel).bind fun r49=>
 k35 r49
 else
 k35 false))
 else
 dF (fun (_:Unit)=>
 (zcr fuel).bind fun r132=>
 some r132)
 (fun k37=>
 dq (fun (k_39:Nat) (next38:Unit→Option Bool) (_:Unit)=>
 dF (fun (_:Unit)=>
 next38 ())
 (fun k41=>
 none))
 (fun (_:Unit)=>
 k37 ()) (rounds.length - 0) 0 ()))))
theorem zfg (F0:Frz)(w:World)(hF0:F0.At w)(l:List GProduct)(vl:Value)(hl:SlC F0 vl 5 (l.map cV))(bidders:List GBidder)(vbidders:Value)(cbidders:List (List Value))(hbidders:SlD cR F0 vbidders 4 cbidders bidders)(i:GIncrement)(key:List Int)(vkey:Value)(hkey:SlC F0 vkey 1 (key.map (eK .u8)))(rounds:List (List GBid))(vrounds:Value)(crounds:List (List Value))(hrounds:SlD c7 F0 vrounds 1 crounds rounds)(hgl:GlF F0)(fuel:Nat)(r:Bool)(hr:zcw fuel l bidders i key rounds=some r):Calls Tryz.prog 4 #[vl,vbidders, .agg [.int .i64 i.Activity, .int .i64 i.Step].toArray,vkey,vrounds] w fun e w'=>e= .returned (.bool r)∧Below w.heap.size w w':=by
 have hk:=hr;unfold zcw at hk;haveI:=hl.oneC;haveI:=hbidders.1.oneC;haveI:=hkey.oneC;haveI:=hrounds.1.oneC;obtain ⟨S0,F1,rfl,hS0,hp0⟩:=eo hF0;refine dQ Tryz.func4 rfl rfl rfl hp0 ?_;refine iA ?_;rintro _ _ ⟨g7,rfl,rfl⟩;refine dy ?_;refine je ?_;refine kJ ?_;refine cX (de rfl rfl rfl (fun w hw=>zh7 _ w (hw.fr (i:=1) rfl) l vl hl bidders vbidders cbidders hbidders key vkey hkey rounds vrounds crounds hrounds)) ?_;refine mw ?_;refine T.cond rfl (fun h1=>?_) (fun h1=>?_)
 ·replace hk:=dr hk h1;refine T.seq ?_;have hq:=dw hk;clear hk;obtain ⟨r27,hr27,hk⟩:=hq; (try dsimp only at hk);refine gy ?_;refine cX (de rfl rfl rfl (fun w hw=>zd8 _ w (hw.fr (i:=1) rfl) hgl fuel r27 hr27)) ?_;refine ee ?_;refine lw ?_;obtain rfl:=Option.some.inj hk;exact d8
 ·replace hk:=dt hk h1;refine fN ?_;have hq:=dw hk;clear hk;obtain ⟨r33,hr33,hk⟩:=hq; (try dsimp only at hk);refine T.bw ((r33.1).isSome) (fun h2=>?_) (fun h2=>?_)
  ·replace hk:=dr hk h2;refine eO ?_;refine jB ?_;refine dy ?_;refine cX (d5 [1,0] [] [.row g7 23 [.int .i64 i.Activity, .int .i64 i.Step]] rfl rfl rfl rfl a8 (fun w hw hw2 hF=>(zd5 _ w hF l vl hl bidders vbidders cbidders hbidders i key vkey hkey r33 hr33).mono (fun e w' hp=>hp.1 h2))) ?_;rintro _ _ ⟨⟨g33_n,v33_n_0,v33_n_1,c33_n_1,v33_n_4,v33_n_6⟩,F2,le1_2,⟨hf33_n_0,hf33_n_1,hf33_n_4,hf33_n_6⟩,rfl,rfl⟩;refine ft ?_; (try dsimp only at hf33_n_0 hf33_n_1 hf33_n_4 hf33_n_6);refine io ?_;refine iT ?_;refine c9 (ι:=Unit) (fun z=>[(0,vl),(4,vrounds),(11, .pointer (some ⟨g33_n,0,none⟩)),(12, .int .i64 r33.2),(41, .bool ((decide (¬r33.2=0))||false))]) (fun z=>[.row g33_n 104 [v33_n_0,v33_n_1, .int .i64 ((r33.1.getD default).increment.Activity), .int .i64 ((r33.1.getD default).increment.Step),v33_n_4, .int .i64 ((r33.1.getD default).rounds),v33_n_6], .row g7 23 [.int .i64 i.Activity, .int .i64 i.Step], .fr F2]) (fun z=>True) ?_ ?_
   ·refine ie ?_;refine dg rfl rfl rfl (fun h3=>?_) (fun h3=>?_)
    ·have p3:=of_decide_eq_true h3;refine q3P ?_;refine q2y ?_;exact cY () trivial (.c (.c (.c (.c (.b (eD h3).symm .nil))))) (List.Sublist.refl _)
    ·have p3:=of_decide_eq_false h3;refine dy ?_;refine q2m ?_;refine jv ?_;refine q2y ?_;exact cY () trivial (.c (.c (.c (.c (.b (fw h3 rfl).symm .nil))))) (List.Sublist.refl _)
   ·rintro _ _;refine T.cond rfl (fun h4=>?_) (fun h4=>?_)
    ·replace hk:=dr hk h4;refine T.seq ?_; (try dsimp only at hk);have hq:=d7 hk;clear hk;obtain ⟨k6,hk6,hk⟩:=hq; (try dsimp only at hk);refine c9 (ι:=Bool) (fun z=>[(10, .bool z)]) (fun z=>[.fr F2]) (fun z=>k6 z=some r) ?_ ?_
     ·refine ie ?_;refine dg rfl rfl rfl (fun h7=>?_) (fun h7=>?_)
      ·have p7:=of_decide_eq_true h7;replace hk:=dr hk h7;refine dy ?_;refine q2m ?_;refine io ?_;refine q2t ?_;exact q4o
      ·have p7:=of_decide_eq_false h7;replace hk:=dt hk h7;refine TL.run 7 rfl ?_;refine q2t ?_;exact q4o
     ·rintro x_5 hk;rw [←hk6] at hk; (try dsimp only at hk);refine T.ret (gk ?_);obtain rfl:=Option.some.inj hk;exact d8
    ·have p4:=h4; (try simp only [iC] at p4);replace hk:=dt hk h4;refine j0 ?_;refine dZ ?_;have hq:=d7 hk;clear hk;obtain ⟨k11,hk11,hk⟩:=hq; (try dsimp only at hk);refine c9 (ι:=List GBidder×Value×List (List Value)×Int×List Int×Value×FzB w (fun _=>False) S0) (fun z=>[]) (fun z=>[.row g33_n 104 [v33_n_0,z.2.1, .int .i64 ((r33.1.getD default).increment.Activity), .int .i64 ((r33.1.getD default).increment.Step),v33_n_4, .int .i64 z.2.2.2.1,z.2.2.2.2.2.1], .fr z.2.2.2.2.2.2]) (fun z=>k11 (z.1,z.2.2.2.1,z.2.2.2.2.1)=some r∧SlD cR z.2.2.2.2.2.2.toFrz z.2.1 4 z.2.2.1 z.1∧SlC z.2.2.2.2.2.2.toFrz z.2.2.2.2.2.1 1 (z.2.2.2.2.1.map eI)∧F2.toFrz.Le z.2.2.2.2.2.2.toFrz) ?_ ?_
     ·have hq:=fJ hk;clear hk;obtain ⟨f15,kk15,hf15,hkk15,hk⟩:=hq;refine eH ?_;refine T.pick [0,2] rfl a8 ?_;refine T.loop (ι:=Nat×List GBidder×Value×List (List Value)×Int×List Int×Value×FzB w (fun _=>False) S0) (fun z=>[(0,vl),(4,vrounds),(11, .pointer (some ⟨g33_n,0,none⟩)),(13, .int .i64 (z.1:Int))]) (fun z=>[.row g33_n 104 [v33_n_0,z.2.2.1, .int .i64 ((r33.1.getD default).increment.Activity), .int .i64 ((r33.1.getD default).increment.Step),v33_n_4, .int .i64 z.2.2.2.2.1,z.2.2.2.2.2.2.1], .fr z.2.2.2.2.2.2.2]) (fun z=>dq f15 kk15 (rounds.length - z.1) z.1 (z.2.1,z.2.2.2.2.1,z.2.2.2.2.2.1)=some r∧SlD cR z.2.2.2.2.2.2.2.toFrz z.2.2.1 4 z.2.2.2.1 z.2.1∧SlC z.2.2.2.2.2.2.2.toFrz z.2.2.2.2.2.2.1 1 (z.2.2.2.2.2.1.map eI)∧F2.toFrz.Le z.2.2.2.2.2.2.2.toFrz) (fun z=>rounds.length - z.1) (0,(r33.1.getD default).bidders,v33_n_1,c33_n_1,(r33.1.getD default).rounds,(r33.1.getD default).prices,v33_n_6,F2) ?_ ?_ ?_ ?_
      ·exact ⟨hk,hf33_n_1,hf33_n_6,(Frz.Le.refl _)⟩
      ·exact jo
      ·exact eG
      ·rintro ⟨k_16,c_12,vc_12,cc_12,c_13,c_14,vc_14,F4⟩ ⟨hk,hc_12,hc_14,le2_4⟩; (try dsimp only at *);have le1_4:=le1_2.trans le2_4;haveI:=hc_12.1.oneC;haveI:=hc_14.oneC;refine l6 ?_;refine cS (dk rfl rfl (SlD.mono (rep:=c7) (fun _ _ _ _=>R_List_GBid.mono) hrounds le1_4).1 (SlD.mono (rep:=c7) (fun _ _ _ _=>R_List_GBid.mono) hrounds le1_4).2.1) ?_;have hm53:rounds.length≤9223372036854775807:=(SlD.mono (rep:=c7) (fun _ _ _ _=>R_List_GBid.mono) hrounds le1_4).2.1▸(SlD.mono (rep:=c7) (fun _ _ _ _=>R_List_GBid.mono) hrounds le1_4).1.max;refine dZ ?_;refine T.cond rfl (fun h17=>?_) (fun h17=>?_)
       ·have p17:=of_decide_eq_true h17;rw [fF a7] at hk;generalize hn15:dq f15 kk15 (rounds.length - (k_16+1)) (k_16+1)=next15 at hk;rw [←hf15] at hk; (try dsimp only at hk);refine fN ?_;have hq:=d7 hk;clear hk;obtain ⟨k21,hk21,hk⟩:=hq; (try dsimp only at hk);refine c9 (ι:=List GBidder×Value×List (List Value)×Int×List Int×Value×FzB w (fun _=>False) S0) (fun z=>[(0,vl),(4,vrounds),(11, .pointer (some ⟨g33_n,0,none⟩)),(13, .int .i64 (k_16:Int))]) (fun z=>[.row g33_n 104 [v33_n_0,z.2.1, .int .i64 ((r33.1.getD default).increment.Activity), .int .i64 ((r33.1.getD default).increment.Step),v33_n_4, .int .i64 z.2.2.2.1,z.2.2.2.2.2.1], .fr z.2.2.2.2.2.2]) (fun z=>k21 (z.1,z.2.2.2.1,z.2.2.2.2.1)=some r∧SlD cR z.2.2.2.2.2.2.toFrz z.2.1 4 z.2.2.1 z.1∧SlC z.2.2.2.2.2.2.toFrz z.2.2.2.2.2.1 1 (z.2.2.2.2.1.map eI)∧F4.toFrz.Le z.2.2.2.2.2.2.toFrz) ?_ ?_
        ·refine T.block (T.seq ?_);have hq:=dw hk;clear hk;obtain ⟨r58,hr58,hk⟩:=hq;have hq:=dw hk;clear hk;obtain ⟨r60,hr60,hk⟩:=hq;have hq:=dw hk;clear hk;obtain ⟨r62,hr62,hk⟩:=hq; (try dsimp only at hk);refine ef ?_;refine cX (d5 [0,1] [.row g33_n 104 [v33_n_0,vc_12, .int .i64 ((r33.1.getD default).increment.Activity), .int .i64 ((r33.1.getD default).increment.Step),v33_n_4, .int .i64 c_13,vc_14]] [] rfl rfl rfl rfl a8 (fun w hw hw2 hF=>zbu _ w hF (GAuction.mk ((r33.1.getD default).catalogue) c_12 (GIncrement.mk ((r33.1.getD default).increment.Activity) ((r33.1.getD default).increment.Step)) ((r33.1.getD default).key) c_13 c_14) g33_n v33_n_0 (SlC.mono hf33_n_0 le2_4) vc_12 cc_12 hc_12 v33_n_4 (SlC.mono hf33_n_4 le2_4) vc_14 hc_14 hw2.takes.1 hw2.takes.2 r58 hr58)) ?_;rintro _ _ ⟨v58_0_0,F6,le4_6,hf58_0_0,hq,rfl⟩;obtain rfl:=hq.symm;refine ft ?_;have le1_6:=le1_4.trans le4_6;have le2_6:=le2_4.trans le4_6;haveI:=hf58_0_0.oneC;refine dy ?_;refine cX (d5 [0,1] [.row g33_n 104 [v33_n_0,vc_12, .int .i64 ((r33.1.getD default).increment.Activity), .int .i64 ((r33.1.getD default).increment.Step),v33_n_4, .int .i64 c_13,vc_14]] [] rfl rfl rfl rfl a8 (fun w hw hw2 hF=>zbG _ w hF (GAuction.mk ((r33.1.getD default).catalogue) c_12 (GIncrement.mk ((r33.1.getD default).increment.Activity) ((r33.1.getD default).increment.Step)) ((r33.1.getD default).key) c_13 c_14) g33_n v33_n_0 (SlC.mono hf33_n_0 le2_6) vc_12 cc_12 (SlD.mono (rep:=cR) (fun _ _ _ _=>GBidder.mono) hc_12 le4_6) v33_n_4 (SlC.mono hf33_n_4 le2_6) vc_14 (SlC.mono hc_14 le4_6) hw2.takes.1 hw2.takes.2 r60 hr60)) ?_;rintro _ _ ⟨v60_0_0,F7,le6_7,hf60_0_0,hq,rfl⟩;obtain rfl:=hq.symm;refine ft ?_;have le1_7:=le1_6.trans le6_7;have le2_7:=le2_6.trans le6_7;have le4_7:=le4_6.trans le6_7;haveI:=hf60_0_0.oneC;refine dy ?_;refine cX (d5 [0,1] [.row g33_n 104 [v33_n_0,vc_12, .int .i64 ((r33.1.getD default).increment.Activity), .int .i64 ((r33.1.getD default).increment.Step),v33_n_4, .int .i64 c_13,vc_14]] [] rfl rfl rfl rfl a8 (fun w hw hw2 hF=>zb8 _ w hF (GAuction.mk ((r33.1.getD default).catalogue) c_12 (GIncrement.mk ((r33.1.getD default).increment.Activity) ((r33.1.getD default).increment.Step)) ((r33.1.getD default).key) c_13 c_14) g33_n v33_n_0 (SlC.mono hf33_n_0 le2_7) vc_12 cc_12 (SlD.mono (rep:=cR) (fun _ _ _ _=>GBidder.mono) hc_12 le4_7) v33_n_4 (SlC.mono hf33_n_4 le2_7) vc_14 (SlC.mono hc_14 le4_7) hw2.takes.1 hw2.takes.2 r62 hr62)) ?_;rintro _ _ ⟨⟨v62_0_0,cs62_0_0⟩,F8,le7_8,hf62_0_0,hq,rfl⟩;obtain rfl:=hq.symm;refine ft ?_; (try dsimp only at hf62_0_0);have le1_8:=le1_7.trans le7_8;have le2_8:=le2_7.trans le7_8;have le4_8:=le4_7.trans le7_8;have le6_8:=le6_7.trans le7_8;haveI:=hf62_0_0.1.oneC;refine fP ?_;refine fi ?_;have hq:=dw hk;clear hk;obtain ⟨r69,hr69,hk⟩:=hq; (try dsimp only at hk);refine ie ?_;refine cS (df (i:=k_16) rfl rfl rfl (SlD.mono (rep:=c7) (fun _ _ _ _=>R_List_GBid.mono) hrounds le1_8).1 (SlD.mono (rep:=c7) (fun _ _ _ _=>R_List_GBid.mono) hrounds le1_8).2.1 rfl a7) ?_;refine cS (fx 1 (i:=k_16) (j:=0) rfl rfl rfl (SlD.mono (rep:=c7) (fun _ _ _ _=>R_List_GBid.mono) hrounds le1_8).1 (SlD.mono (rep:=c7) (fun _ _ _ _=>R_List_GBid.mono) hrounds le1_8).2.1 a7 rfl (eA ((SlD.mono (rep:=c7) (fun _ _ _ _=>R_List_GBid.mono) hrounds le1_8).2.2 k_16 a7)).1) ?_;obtain ⟨cs68_0,hd68_0⟩:=(eA ((SlD.mono (rep:=c7) (fun _ _ _ _=>R_List_GBid.mono) hrounds le1_8).2.2 k_16 a7)).2;haveI:=hd68_0.1.oneC;refine cX (d5 [0,1] [.row g33_n 104 [v33_n_0,vc_12, .int .i64 ((r33.1.getD default).increment.Activity), .int .i64 ((r33.1.getD default).increment.Step),v33_n_4, .int .i64 c_13,vc_14]] [] rfl rfl rfl rfl a8 (fun w hw hw2 hF=>zci _ w hF (GAuction.mk ((r33.1.getD default).catalogue) c_12 (GIncrement.mk ((r33.1.getD default).increment.Activity) ((r33.1.getD default).increment.Step)) ((r33.1.getD default).key) c_13 c_14) g33_n v33_n_0 (SlC.mono hf33_n_0 le2_8) vc_12 cc_12 (SlD.mono (rep:=cR) (fun _ _ _ _=>GBidder.mono) hc_12 le4_8) v33_n_4 (SlC.mono hf33_n_4 le2_8) vc_14 (SlC.mono hc_14 le4_8) (nth rounds k_16) (nth (nth crounds k_16) 0) cs68_0 hd68_0 (hgl.mono le1_8) hw2.takes.1 hw2.takes.2 fuel r69 hr69)) ?_;rintro _ _ ⟨⟨v69_0_0,v69_2_1,c69_2_1,v69_2_6⟩,F9,le8_9,⟨hf69_0_0,hf69_2_1,hf69_2_6⟩,rfl,rfl⟩;refine ft ?_; (try dsimp only at hf69_0_0 hf69_2_1 hf69_2_6);have le1_9:=le1_8.trans le8_9;have le2_9:=le2_8.trans le8_9;have le4_9:=le4_8.trans le8_9;have le6_9:=le6_8.trans le8_9;have le7_9:=le7_8.trans le8_9;haveI:=hf69_0_0.oneC;haveI:=hf69_2_1.1.oneC;haveI:=hf69_2_6.oneC;refine io ?_;refine lS ?_;refine T.cond rfl (fun h22=>?_) (fun h22=>?_)
         ·have p22:=of_decide_eq_true h22;replace hk:=dr hk h22;refine T.exit (iO (j9 ?_));exact cY (r69.2.2.1,v69_2_1,c69_2_1,r69.2.2.2.1,r69.2.2.2.2,v69_2_6,F9) ⟨hk,hf69_2_1,hf69_2_6,le4_9⟩ (.c (.c (.c (.c .nil)))) (List.Sublist.refl _)
         ·have p22:=of_decide_eq_false h22;replace hk:=dt hk h22;refine q2z ?_;have hq:=dw hk;clear hk;obtain ⟨r82,hr82,hk⟩:=hq;have hq:=dw hk;clear hk;obtain ⟨r83,hr83,hk⟩:=hq; (try dsimp only at hk);refine dS (sN 0 8 (.eff 8 (.eff 9 (.still 10 .done)))) _ b0 (List.Sublist.refl _) ?_;refine gI ?_;refine cU rfl (df (i:=k_16) rfl rfl rfl (SlD.mono (rep:=c7) (fun _ _ _ _=>R_List_GBid.mono) hrounds le1_9).1 (SlD.mono (rep:=c7) (fun _ _ _ _=>R_List_GBid.mono) hrounds le1_9).2.1 rfl a7) ?_;refine cU rfl (fx 1 (i:=k_16) (j:=0) rfl rfl rfl (SlD.mono (rep:=c7) (fun _ _ _ _=>R_List_GBid.mono) hrounds le1_9).1 (SlD.mono (rep:=c7) (fun _ _ _ _=>R_List_GBid.mono) hrounds le1_9).2.1 a7 rfl (eA ((SlD.mono (rep:=c7) (fun _ _ _ _=>R_List_GBid.mono) hrounds le1_9).2.2 k_16 a7)).1) ?_;obtain ⟨cs78_0,hd78_0⟩:=(eA ((SlD.mono (rep:=c7) (fun _ _ _ _=>R_List_GBid.mono) hrounds le1_9).2.2 k_16 a7)).2;haveI:=hd78_0.1.oneC;refine gI ?_;refine dN ?_;refine dc rfl (cT) rfl rfl (d5 [0,1] [.row g33_n 104 [v33_n_0,v69_2_1, .int .i64 ((r33.1.getD default).increment.Activity), .int .i64 ((r33.1.getD default).increment.Step),v33_n_4, .int .i64 r69.2.2.2.1,v69_2_6]] [] rfl rfl rfl rfl a8 (fun w hw hw2 hF=>zb8 _ w hF (GAuction.mk ((r33.1.getD default).catalogue) r69.2.2.1 (GIncrement.mk ((r33.1.getD default).increment.Activity) ((r33.1.getD default).increment.Step)) ((r33.1.getD default).key) r69.2.2.2.1 r69.2.2.2.2) g33_n v33_n_0 (SlC.mono hf33_n_0 le2_9) v69_2_1 c69_2_1 hf69_2_1 v33_n_4 (SlC.mono hf33_n_4 le2_9) v69_2_6 hf69_2_6 hw2.takes.1 hw2.takes.2 r82 hr82)) ?_;rintro _ _ ⟨⟨v82_0_0,cs82_0_0⟩,F10,le9_10,hf82_0_0,hq,rfl⟩;obtain rfl:=hq.symm;refine ft ?_; (try dsimp only at hf82_0_0);have le1_10:=le1_9.trans le9_10;have le2_10:=le2_9.trans le9_10;have le4_10:=le4_9.trans le9_10;have le6_10:=le6_9.trans le9_10;have le7_10:=le7_9.trans le9_10;have le8_10:=le8_9.trans le9_10;haveI:=hf82_0_0.1.oneC;refine ⟨(fun w hw=>(hw.frLe (i:=1) rfl le9_10).sub Sx),?_⟩;refine dN ?_;refine dc rfl (cT) rfl rfl (de rfl rfl rfl (fun w hw=>zhr _ w (hw.fr (i:=1) rfl) l vl (SlC.mono hl le1_10) (nth rounds k_16) (nth (nth crounds k_16) 0) cs78_0 (SlD.mono (rep:=cW) (fun _ _ _ _=>GBid.mono) hd78_0 le9_10) r69.1 v69_0_0 (SlC.mono hf69_0_0 le9_10) r62 v62_0_0 cs62_0_0 (SlD.mono (rep:=cR) (fun _ _ _ _=>GBidder.mono) hf62_0_0 le8_10) r82 v82_0_0 cs82_0_0 hf82_0_0 r83 hr83)) ?_;refine ee ?_;refine ⟨(fun w hw=>(hw.frLe (i:=1) rfl le9_10).sub Sx),?_⟩;refine iM ?_;refine K.seq ?_;refine T.cond rfl (fun h23=>?_) (fun h23=>?_)
          ·replace hk:=dr hk h23;refine lf ?_;obtain rfl:=Option.some.inj hk;exact d8
          ·replace hk:=dt hk h23;refine fN ?_;have hq:=dw hk;clear hk;obtain ⟨r86,hr86,hk⟩:=hq; (try dsimp only at hk);refine ef ?_;refine cX (d5 [0,1] [.row g33_n 104 [v33_n_0,v69_2_1, .int .i64 ((r33.1.getD default).increment.Activity), .int .i64 ((r33.1.getD default).increment.Step),v33_n_4, .int .i64 r69.2.2.2.1,v69_2_6]] [] rfl rfl rfl rfl a8 (fun w hw hw2 hF=>zbu _ w hF (GAuction.mk ((r33.1.getD default).catalogue) r69.2.2.1 (GIncrement.mk ((r33.1.getD default).increment.Activity) ((r33.1.getD default).increment.Step)) ((r33.1.getD default).key) r69.2.2.2.1 r69.2.2.2.2) g33_n v33_n_0 (SlC.mono hf33_n_0 le2_10) v69_2_1 c69_2_1 (SlD.mono (rep:=cR) (fun _ _ _ _=>GBidder.mono) hf69_2_1 le9_10) v33_n_4 (SlC.mono hf33_n_4 le2_10) v69_2_6 (SlC.mono hf69_2_6 le9_10) hw2.takes.1 hw2.takes.2 r86 hr86)) ?_;rintro _ _ ⟨v86_0_0,F11,le10_11,hf86_0_0,hq,rfl⟩;obtain rfl:=hq.symm;refine ft ?_;have le1_11:=le1_10.trans le10_11;have le4_11:=le4_10.trans le10_11;have le6_11:=le6_10.trans le10_11;have le7_11:=le7_10.trans le10_11;have le9_11:=le9_10.trans le10_11;haveI:=hf86_0_0.oneC;refine kC ?_;refine c9 (ι:=Unit) (fun z=>[(0,vl),(4,vrounds),(11, .pointer (some ⟨g33_n,0,none⟩)),(13, .int .i64 (k_16:Int)),(14,v58_0_0),(15,v60_0_0),(19,v86_0_0),(105, .bool (((decide (¬(r86.length:Int)=(l.length:Int)))||(decide (¬(r58.length:Int)=(l.length:Int))))||(decide (¬(r60.length:Int)=(l.length:Int)))))]) (fun z=>[.row g33_n 104 [v33_n_0,v69_2_1, .int .i64 ((r33.1.getD default).increment.Activity), .int .i64 ((r33.1.getD default).increment.Step),v33_n_4, .int .i64 r69.2.2.2.1,v69_2_6], .fr F11]) (fun z=>True) ?_ ?_
           ·refine ef ?_;refine cS (dk rfl rfl hf86_0_0 (List.length_map _)) ?_;have hm88:r86.length≤9223372036854775807:=(List.length_map _)▸hf86_0_0.max;refine dy ?_;refine q22 ?_;have hm90:l.length≤9223372036854775807:=(List.length_map _)▸(SlC.mono hl le1_11).max;refine ek ?_;refine dg rfl rfl rfl (fun h24=>?_) (fun h24=>?_)
            ·have p24:=of_decide_eq_true h24;refine TL.run 13 rfl ?_;refine fG ?_;exact cY () trivial (.c (.c (.c (.c (.c (.c (.c (.b (eD (eD h24)).symm .nil)))))))) (List.Sublist.refl _)
            ·have p24:=of_decide_eq_false h24;refine dy ?_;refine cS (dk rfl rfl (SlC.mono hf58_0_0 le6_11) (List.length_map _)) ?_;have hm94:r58.length≤9223372036854775807:=(List.length_map _)▸(SlC.mono hf58_0_0 le6_11).max;refine dy ?_;refine q22 ?_;refine fP ?_;refine dg rfl rfl rfl (fun h25=>?_) (fun h25=>?_)
             ·have p25:=of_decide_eq_true h25;refine q3b ?_;exact cY () trivial (.c (.c (.c (.c (.c (.c (.c (.b (eD (fw h24 h25)).symm .nil)))))))) (List.Sublist.refl _)
             ·have p25:=of_decide_eq_false h25;refine dy ?_;refine cS (dk rfl rfl (SlC.mono hf60_0_0 le7_11) (List.length_map _)) ?_;have hm101:r60.length≤9223372036854775807:=(List.length_map _)▸(SlC.mono hf60_0_0 le7_11).max;refine dy ?_;refine q22 ?_;refine jZ ?_;exact cY () trivial (.c (.c (.c (.c (.c (.c (.c (.b (fK (fw h24 h25)) .nil)))))))) (List.Sublist.refl _)
           ·rintro _ _;have hm88:r86.length≤9223372036854775807:=(List.length_map _)▸hf86_0_0.max;refine T.cond rfl (fun h26=>?_) (fun h26=>?_)
            ·replace hk:=dr hk h26;refine lf ?_;obtain rfl:=Option.some.inj hk;exact d8
            ·have p26:=h26; (try simp only [iC] at p26);replace hk:=dt hk h26;refine T.skip (K.seq (dY ?_));refine dZ ?_;have hq:=fJ hk;clear hk;obtain ⟨f27,kk27,hf27,hkk27,hk⟩:=hq;refine eH ?_;refine T.loop (ι:=Nat) (fun z=>[(0,vl),(4,vrounds),(11, .pointer (some ⟨g33_n,0,none⟩)),(13, .int .i64 (k_16:Int)),(14,v58_0_0),(15,v60_0_0),(19,v86_0_0),(20, .int .i64 (z:Int))]) (fun z=>[.row g33_n 104 [v33_n_0,v69_2_1, .int .i64 ((r33.1.getD default).increment.Activity), .int .i64 ((r33.1.getD default).increment.Step),v33_n_4, .int .i64 r69.2.2.2.1,v69_2_6], .fr F11]) (fun z=>dq f27 kk27 (l.length - z) z ()=some r) (fun z=>l.length - z) 0 ?_ ?_ ?_ ?_
             ·exact hk
             ·exact q4w
             ·exact eG
             ·rintro p_28 hk;refine l6 ?_;refine q22 ?_;have hm108:l.length≤9223372036854775807:=(List.length_map _)▸(SlC.mono hl le1_11).max;refine dZ ?_;refine T.cond rfl (fun h29=>?_) (fun h29=>?_)
              ·have p29:=of_decide_eq_true h29;rw [fF a7] at hk;generalize hn27:dq f27 kk27 (l.length - (p_28+1)) (p_28+1)=next27 at hk;rw [←hf27] at hk; (try dsimp only at hk);refine q2s ?_;refine c9 (ι:=Unit) (fun z=>[(0,vl),(4,vrounds),(11, .pointer (some ⟨g33_n,0,none⟩)),(13, .int .i64 (k_16:Int)),(14,v58_0_0),(15,v60_0_0),(19,v86_0_0),(20, .int .i64 (p_28:Int)),(131, .bool ((decide ((nth r86 p_28)<(nth r58 p_28)))||(decide ((nth r60 p_28)<(nth r86 p_28)))))]) (fun z=>[.row g33_n 104 [v33_n_0,v69_2_1, .int .i64 ((r33.1.getD default).increment.Activity), .int .i64 ((r33.1.getD default).increment.Step),v33_n_4, .int .i64 r69.2.2.2.1,v69_2_6], .fr F11]) (fun z=>True) ?_ ?_
               ·refine q17 ?_;refine q2S ?_;refine cU rfl (df (i:=p_28) rfl rfl rfl (SlC.mono hf58_0_0 le6_11) (List.length_map _) rfl a7) ?_;refine cU rfl (dD 1 (i:=p_28) (j:=0) rfl rfl rfl (SlC.mono hf58_0_0 le6_11) a7) ?_;refine fe ?_;refine fk rfl rfl rfl rfl (fun h30=>?_) (fun h30=>?_)
                ·have p30:=of_decide_eq_true h30;refine TS.run 10 rfl ?_;refine ia ?_;exact cY () trivial (.c (.c (.c (.c (.c (.c (.c (.c (.b (eD h30).symm .nil))))))))) (List.Sublist.refl _)
                ·have p30:=of_decide_eq_false h30;refine q2S ?_;refine cU rfl (df (i:=p_28) rfl rfl rfl (SlC.mono hf60_0_0 le7_11) (List.length_map _) rfl a7) ?_;refine cU rfl (dD 1 (i:=p_28) (j:=0) rfl rfl rfl (SlC.mono hf60_0_0 le7_11) a7) ?_;refine lL ?_;exact cY () trivial (.c (.c (.c (.c (.c (.c (.c (.c (.b (fK h30) .nil))))))))) (List.Sublist.refl _)
               ·rintro _ _;refine T.cond rfl (fun h31=>?_) (fun h31=>?_)
                ·replace hk:=dr hk h31;refine eV ?_;refine dz (T.ret (gp (gk (gk (gp (gp (gk (gk (gp (gk ?_))))))))));obtain rfl:=Option.some.inj hk;exact d8
                ·have p31:=h31; (try simp only [iC] at p31);replace hk:=dt hk h31;refine q3E ?_;rw [←hn27] at hk;exact K.next (p_28+1) hk a7 (.c (.c (.c (.c (.c (.c (.c (.c .nil)))))))) (List.Sublist.refl _)
              ·have p29:=of_decide_eq_false h29;rw [fH a7,←hkk27] at hk; (try dsimp only at hk);refine T.exit (iO (iO (j9 (fA ?_))));exact cY (r69.2.2.1,v69_2_1,c69_2_1,r69.2.2.2.1,r69.2.2.2.2,v69_2_6,F11) ⟨hk,(SlD.mono (rep:=cR) (fun _ _ _ _=>GBidder.mono) hf69_2_1 le9_11),(SlC.mono hf69_2_6 le9_11),le4_11⟩ (.c (.c (.c (.c .nil)))) (List.Sublist.refl _)
        ·rintro ⟨c_18,vc_18,cc_18,c_19,c_20,vc_20,F5⟩ ⟨hk,hc_18,hc_20,le4_5⟩; (try dsimp only at *);rw [←hk21] at hk; (try dsimp only at hk);have le2_5:=le2_4.trans le4_5;haveI:=hc_18.1.oneC;haveI:=hc_20.oneC;refine ef ?_;refine jh ?_;rw [←hn15] at hk;exact K.next ((k_16+1),c_18,vc_18,cc_18,c_19,c_20,vc_20,F5) ⟨hk,hc_18,hc_20,le2_5⟩ b5 (.c (.c (.c (.c .nil)))) (List.Sublist.refl _)
       ·have p17:=of_decide_eq_false h17;rw [fH a7,←hkk15] at hk; (try dsimp only at hk);refine eN ?_;exact cY (c_12,vc_12,cc_12,c_13,c_14,vc_14,F4) ⟨hk,hc_12,hc_14,le2_4⟩ .nil (List.Sublist.refl _)
     ·rintro ⟨c_8,vc_8,cc_8,c_9,c_10,vc_10,F3⟩ ⟨hk,hc_8,hc_10,le2_3⟩; (try dsimp only at *);rw [←hk11] at hk; (try dsimp only at hk);have le1_3:=le1_2.trans le2_3;haveI:=hc_8.1.oneC;haveI:=hc_10.oneC;refine T.seq ?_;have hq:=dw hk;clear hk;obtain ⟨r132,hr132,hk⟩:=hq; (try dsimp only at hk);refine gy ?_;refine cX (de rfl rfl rfl (fun w hw=>zd8 _ w (hw.fr (i:=1) rfl) (hgl.mono le1_3) fuel r132 hr132)) ?_;refine ee ?_;refine iw ?_;obtain rfl:=Option.some.inj hk;exact d8
  ·replace hk:=dt hk h2;refine eO ?_;refine jB ?_;refine dy ?_;refine cX (d5 [1,0] [] [.row g7 23 [.int .i64 i.Activity, .int .i64 i.Step]] rfl rfl rfl rfl a8 (fun w hw hw2 hF=>(zd5 _ w hF l vl hl bidders vbidders cbidders hbidders i key vkey hkey r33 hr33).mono (fun e w' hp=>hp.2 h2))) ?_;rintro _ _ ⟨⟨⟩,F12,le1_12, -,rfl,rfl⟩;refine ft ?_;refine io ?_;refine iT ?_;refine c9 (ι:=Unit) (fun z=>[(0,vl),(4,vrounds),(11, .pointer none),(12, .int .i64 r33.2),(41, .bool ((decide (¬r33.2=0))||true))]) (fun z=>[.row g7 23 [.int .i64 i.Activity, .int .i64 i.Step], .fr F12]) (fun z=>True) ?_ ?_
   ·refine ie ?_;refine dg rfl rfl rfl (fun h32=>?_) (fun h32=>?_)
    ·have p32:=of_decide_eq_true h32;refine q3P ?_;refine K.pick [1,0] rfl a8 ?_;exact cY () trivial (.c (.c (.c (.c (.b (eD h32).symm .nil))))) (List.Sublist.refl _)
    ·have p32:=of_decide_eq_false h32;refine dy ?_;refine q2m ?_;refine jv ?_;refine K.pick [1,0] rfl a8 ?_;exact cY () trivial (.c (.c (.c (.c (.b (fw h32 rfl).symm .nil))))) (List.Sublist.refl _)
   ·rintro _ _;refine T.cond rfl (fun h33=>?_) (fun h33=>?_)
    ·replace hk:=dr hk h33;refine T.seq ?_; (try dsimp only at hk);have hq:=d7 hk;clear hk;obtain ⟨k35,hk35,hk⟩:=hq; (try dsimp only at hk);refine c9 (ι:=Bool) (fun z=>[(10, .bool z)]) (fun z=>[.fr F12]) (fun z=>k35 z=some r) ?_ ?_
     ·refine ie ?_;refine dg rfl rfl rfl (fun h36=>?_) (fun h36=>?_)
      ·have p36:=of_decide_eq_true h36;replace hk:=dr hk h36;refine dy ?_;refine q2m ?_;refine ek ?_;have hq:=dw hk;clear hk;obtain ⟨r49,hr49,hk⟩:=hq;refine cX (de rfl rfl rfl (fun w hw=>zd8 _ w (hw.fr (i:=1) rfl) (hgl.mono le1_12) fuel r49 hr49)) ?_;refine kZ ?_;refine kH ?_;exact cY r49 hk (.c .nil) (List.Sublist.refl _)
      ·have p36:=of_decide_eq_false h36;replace hk:=dt hk h36;refine TL.run 7 rfl ?_;refine fG ?_;refine kH ?_;exact q4o
     ·rintro x_34 hk;rw [←hk35] at hk; (try dsimp only at hk);refine T.ret (gk ?_);obtain rfl:=Option.some.inj hk;exact d8
    ·have p33:=h33; (try simp only [iC] at p33);replace hk:=dt hk h33;refine j0 ?_;refine dZ ?_;have hq:=d7 hk;clear hk;obtain ⟨k37,hk37,hk⟩:=hq; (try dsimp only at hk);refine c9 (ι:=FzB w (fun _=>False) S0) (fun z=>[]) (fun z=>[.fr z]) (fun z=>k37 ()=some r∧F12.toFrz.Le z.toFrz) ?_ ?_
     ·have hq:=fJ hk;clear hk;obtain ⟨f38,kk38,hf38,hkk38,hk⟩:=hq;refine eH ?_;refine T.pick [1] rfl a8 ?_;refine T.loop (ι:=Nat×FzB w (fun _=>False) S0) (fun z=>[(0,vl),(4,vrounds),(11, .pointer none),(13, .int .i64 (z.1:Int))]) (fun z=>[.fr z.2]) (fun z=>dq f38 kk38 (rounds.length - z.1) z.1 ()=some r∧F12.toFrz.Le z.2.toFrz) (fun z=>rounds.length - z.1) (0,F12) ?_ ?_ ?_ ?_
      ·exact q4l
      ·exact jo
      ·exact eG
      ·rintro ⟨k_39,F14⟩ ⟨hk,le12_14⟩; (try dsimp only at *);have le1_14:=le1_12.trans le12_14;refine l6 ?_;refine cS (dk rfl rfl (SlD.mono (rep:=c7) (fun _ _ _ _=>R_List_GBid.mono) hrounds le1_14).1 (SlD.mono (rep:=c7) (fun _ _ _ _=>R_List_GBid.mono) hrounds le1_14).2.1) ?_;have hm53:rounds.length≤9223372036854775807:=(SlD.mono (rep:=c7) (fun _ _ _ _=>R_List_GBid.mono) hrounds le1_14).2.1▸(SlD.mono (rep:=c7) (fun _ _ _ _=>R_List_GBid.mono) hrounds le1_14).1.max;refine dZ ?_;refine T.cond rfl (fun h40=>?_) (fun h40=>?_)
       ·have p40:=of_decide_eq_true h40;rw [fF a7] at hk;generalize hn38:dq f38 kk38 (rounds.length - (k_39+1)) (k_39+1)=next38 at hk;rw [←hf38] at hk; (try dsimp only at hk);refine fN ?_;have hq:=d7 hk;clear hk;obtain ⟨k41,hk41,hk⟩:=hq; (try dsimp only at hk);refine c9 (ι:=FzB w (fun _=>False) S0) (fun z=>[(0,vl),(4,vrounds),(11, .pointer none),(13, .int .i64 (k_39:Int))]) (fun z=>[.fr z]) (fun z=>k41 ()=some r∧F14.toFrz.Le z.toFrz) ?_ ?_
        ·refine T.block (T.seq ?_);cases hk
        ·rintro F15 ⟨hk,le14_15⟩;rw [←hk41] at hk; (try dsimp only at hk);have le12_15:=le12_14.trans le14_15;refine ef ?_;refine jh ?_;rw [←hn38] at hk;exact K.next ((k_39+1),F15) ⟨hk,le12_15⟩ b5 (.c (.c (.c (.c .nil)))) (List.Sublist.refl _)
       ·have p40:=of_decide_eq_false h40;rw [fH a7,←hkk38] at hk; (try dsimp only at hk);refine eN ?_;exact cY F14 ⟨hk,le12_14⟩ .nil (List.Sublist.refl _)
     ·rintro F13 ⟨hk,le12_13⟩;rw [←hk37] at hk; (try dsimp only at hk);have le1_13:=le1_12.trans le12_13;refine T.seq ?_;have hq:=dw hk;clear hk;obtain ⟨r132,hr132,hk⟩:=hq; (try dsimp only at hk);refine gy ?_;refine cX (de rfl rfl rfl (fun w hw=>zd8 _ w (hw.fr (i:=0) rfl) (hgl.mono le1_13) fuel r132 hr132)) ?_;refine ee ?_;refine iw ?_;obtain rfl:=Option.some.inj hk;exact d8
theorem ze8 {ρ:Type}{f:Nat→(Unit→ρ)→Unit→ρ}{k:Unit→ρ}{n:Nat}{z:ρ}(q:Nat→Bool)(hf:∀i next,i<n→f i next ()=bif q i then next () else z):dq f k n 0 ()=bif (List.range n).all q then k () else z:=by
 have key:∀m i,i+m=n→dq f k m i ()=bif (List.range' i m).all q then k () else z:=by
  intro m
  induction m with
  |zero=>intro i _;rfl
  |succ m ih=>
   intro i e;rw [jM,hf i _ a7,List.range'_succ,List.all_cons]
   cases q i with
   |false=>rfl
   |true=>rw [cond_true,Bool.true_and];exact q4e
 rw [List.range_eq_range'];exact key n 0 a7
theorem zi7 {bs bs':List GBidder}(hl:bs'.length=bs.length)(h:∀j,j<bs.length→(nth bs' j).ID=(nth bs j).ID)(id:Int):ff bs' id=ff bs id:=by
 unfold ff;simp only [dF];rw [hl]
 have key:∀m i,i+m=bs.length→dq (fun (i_3:Nat) (next2:Unit→Int) (_:Unit)=>(bif decide ((nth bs' i_3).ID=id) then (i_3:Int) else next2 ())) (fun _=>(-1)) m i ()=dq (fun (i_3:Nat) (next2:Unit→Int) (_:Unit)=>(bif decide ((nth bs i_3).ID=id) then (i_3:Int) else next2 ())) (fun _=>(-1)) m i ():=by
  intro m
  induction m with
  |zero=>intro i _;rfl
  |succ m ih=>
   intro i e;rw [jM,jM]; (try dsimp only);rw [h i a7,ih (i+1) a7]
 exact key (bs.length - 0) 0 a7
theorem zl5 {f:Nat→Int}:∀ {n:Nat},(∀i,i<n→ -12≤f i∧f i≤12)→ -12* (n:Int)≤eT f n∧eT f n≤12*n
 |0,_=>by simp [eT]
 |n+1,h=>by
  have h1:=zl5 (n:=n) (fun i hi=>h i a7);have h2:=h n a7;rw [eT];omega
theorem zlh {a b:Int}(ha: -12≤a∧a≤12)(hb: -12≤b∧b≤12)(h:(0≤a∧0≤b)∨(a≤0∧b≤0)):0≤a*b∧a*b≤144:=by
 rcases h with ⟨h1,h2⟩|⟨h1,h2⟩
 ·exact ⟨Int.mul_nonneg h1 h2,Int.mul_le_mul ha.2 hb.2 h2 a7⟩
 ·rw [←Int.neg_mul_neg];exact ⟨Int.mul_nonneg a7 a7,Int.mul_le_mul (show -a≤12 by omega) (show -b≤12 by omega) a7 a7⟩
theorem zls {fuel:Nat}{a:GAuction}{bids:List GBid}(h:Good2 a)(R:RoundIs fuel a bids):zdv a.catalogue bids (apL bids (ep fuel a bids)) a.bidders (iR fuel a bids).bidders=some true:=by
 have hg:=h.g;have hn:=hg.val.n;have hv':Val a.catalogue (iR fuel a bids).bidders:=zhn R.inv.val h.act
 have hlen:(iR fuel a bids).bidders.length=a.bidders.length:=by
  show (ko _ _ _).length=_
  rw [zfO];exact R.inv.len
 have hnth:∀j,j<a.bidders.length→nth (iR fuel a bids).bidders j=jT a.catalogue a.increment.Activity (nth (ep fuel a bids).bs j):=fun j hj=>zfE (by rw [R.inv.len];exact hj)
 have hidx:∀id,ff (iR fuel a bids).bidders id=ff a.bidders id:=zi7 hlen (fun j hj=>by
  rw [hnth j hj]
  exact (R.inv.same j hj).1)
 have htt:∀p,fT (iR fuel a bids).bidders p=fT (ep fuel a bids).bs p:=fun p=>zky p;unfold zdv;rw [ziq hg.val,Option.bind_some,ziq hv',Option.bind_some];dsimp only
 rw [show (((((((decide (¬(0:Int)=0))||(decide (¬(0:Int)=0)))||(decide (¬((apL bids (ep fuel a bids)).length:Int)=(bids.length:Int))))||(decide (¬(a.bidders.length:Int)=((iR fuel a bids).bidders.length:Int))))||(decide (¬(((List.range a.catalogue.length).map (fT a.bidders)).length:Int)=(a.catalogue.length:Int))))||(decide (¬(((List.range a.catalogue.length).map (fT (iR fuel a bids).bidders)).length:Int)=(a.catalogue.length:Int)))))=false by
  rw [hlen];simp [apL],cond_false,List.nil_append,dJ (by unfold dm;simp;omega)]
 simp only [dF];generalize hA:(iR fuel a bids).bidders=A at *;have hap:∀i,i<bids.length→nth (apL bids (ep fuel a bids)) i=(nth bids i).Change - nth (ep fuel a bids).rest i:=fun i hi=>gJ hi
 have h12:∀i,i<bids.length→ -12≤(nth bids i).Change - nth (ep fuel a bids).rest i∧(nth bids i).Change - nth (ep fuel a bids).rest i≤12:=fun i hi=>by
  have h1:=R.inv.rb i hi;have h2:=R.c.ok.ch i hi;omega
 refine mc (n:=bids.length) (fun i (s:List Int)=>s=(List.range a.catalogue.length).map fun p=>fT a.bidders p+eT (fun i=>if eU bids i=p then (nth bids i).Change - nth (ep fuel a bids).rest i else 0) i) (fun o=>o=some true) (by simp [eT]) (fun s hs=>?_) (fun i s next hi hs hnx=>?_)
 ·subst hs
  rw [show a.catalogue.length - 0=a.catalogue.length from rfl,ze8 (n:=a.catalogue.length) (z:=some false) (fun _=>true) (fun p next hp=>by
   have h1:=R.inv.tt p hp;unfold lF at h1;have h2:=R.inv.keep p hp;rw [dJ cM,gJ hp,gJ hp,gJ hp,←h1,htt,decide_eq_false b6,Bool.false_or,cond_true];by_cases c1:(nth a.catalogue p).Supply≤fT a.bidders p
   ·rw [decide_eq_true c1,decide_eq_false (by have:=h2 c1;omega)];rfl
   ·rw [decide_eq_false c1];rfl)]
  rw [show (List.range a.catalogue.length).all (fun _=>true)=true by simp,cond_true]
  rw [show A.length - 0=A.length from rfl,ze8 (n:=A.length) (z:=some false) (fun _=>true) (fun j next hj=>by
   rw [hlen] at hj;have h1:=R.inv.same j hj;have h2:=zio hn hg.val.prods (R.inv.val.bids j (by rw [R.inv.len];exact hj)) h.act;rw [hnth j hj,show (jT a.catalogue a.increment.Activity (nth (ep fuel a bids).bs j)).ID=(nth (ep fuel a bids).bs j).ID from rfl,decide_eq_false (by rw [h1.1];simp),decide_eq_false a7,decide_eq_false a7]
   rfl)]
  rw [show (List.range A.length).all (fun _=>true)=true by simp,cond_true]
 ·obtain ⟨hp1,hp2⟩:=R.c.prd hi;obtain ⟨hh1,hh2⟩:=R.c.hix hi;have hch:=R.c.ok.ch i hi;have hrb:=R.inv.rb i hi;have hap2:=hap i hi;have hb12:=h12 i hi;have hbo:=R.inv.val.bids (fE a.bidders bids i) (by rw [R.inv.len];exact hh1);have hsm:=R.inv.same _ hh1; (have hAb:(nth A (fE a.bidders bids i)).Blocks=(nth (ep fuel a bids).bs (fE a.bidders bids i)).Blocks:=by rw [hnth _ hh1];rfl);have htb:=hg.val.tot_bd hp1
  have hxb:=zl5 (f:=fun j=>if eU bids j=eU bids i then (nth bids j).Change - nth (ep fuel a bids).rest j else 0) (n:=i) (fun j hj=>by
   (try dsimp only)
   split
   ·exact h12 j a7
   ·omega)
  (have hsl:s.length=a.catalogue.length:=by rw [hs];simp)
  have hz:fm a.catalogue bids a.bidders (ep fuel a bids).bs (ep fuel a bids).rest i=0:=by
   obtain ⟨k,k1,k2⟩:=R.c.all i hi;have:=R.inv.zero k (by rw [R.fin];exact k1);rw [k2,Int.toNat_natCast] at this;exact this
  have hnext:next (s.set (eU bids i) (wI (nth s (eU bids i)+nth (apL bids (ep fuel a bids)) i)))=some true:=by
   refine hnx _ ?_
   have e1:nth s (eU bids i)=fT a.bidders (eU bids i)+eT (fun j=>if eU bids j=eU bids i then (nth bids j).Change - nth (ep fuel a bids).rest j else 0) i:=by
    rw [hs,gJ hp1]
   have hfew:=R.c.few;rw [hap2,e1,gx a7];refine zhb (by rw [List.length_set,hsl];simp) fun p hp=>?_;rw [List.length_set,hsl] at hp;rw [iW (by rw [hsl];exact hp),gJ hp,eT];by_cases e:eU bids i=p
   ·subst e;rw [if_pos rfl,if_pos rfl];omega
   ·rw [if_neg e,if_neg e,hs,gJ hp];omega
  have hms:=zlh (a:=(nth bids i).Change - nth (ep fuel a bids).rest i) (b:=(nth bids i).Change) a7 a7 a7; (try dsimp only);rw [hidx,hh2,hp2,Int.toNat_natCast,Int.toNat_natCast,hap2,gx (x:=((nth bids i).Change - nth (ep fuel a bids).rest i) * (nth bids i).Change) a7,gx (x:=0 - (nth bids i).Change) a7,gx (x:=0 - ((nth bids i).Change - nth (ep fuel a bids).rest i)) a7];rw [decide_eq_false (show ¬((fE a.bidders bids i:Nat):Int)<0 by omega),decide_eq_false (show ¬((eU bids i:Nat):Int)<0 by omega),decide_eq_false (show ¬(a.catalogue.length:Int)≤((eU bids i:Nat):Int) by omega),decide_eq_false (show ¬((nth bids i).Change - nth (ep fuel a bids).rest i) * (nth bids i).Change<0 by omega),decide_eq_false a7];rw [show ((((false||false)||false)||false)||false)=false from rfl,cond_false,dJ a7,dJ (by rw [hlen];omega),hAb,decide_eq_false (by rw [hbo.dem.len];simp),cond_false];rw [hap2] at hnext;by_cases c1:(nth bids i).Change - nth (ep fuel a bids).rest i=(nth bids i).Change
  ·rw [decide_eq_true c1,cond_true];exact hnext
  ·rw [decide_eq_false c1,cond_false,gJ hp1,htt];have hblk:=R.inv.val.blk (by rw [R.inv.len];exact hh1:fE a.bidders bids i<(ep fuel a bids).bs.length) hp1;have hrm:=ziR hn hg.val.prods hbo hp1;unfold fm lu at hz
   have hbo2:BidOk a.catalogue (GBidder.mk (nth A (fE a.bidders bids i)).ID (nth a.bidders (fE a.bidders bids i)).Eligibility (nth A (fE a.bidders bids i)).Waivers (nth (ep fuel a bids).bs (fE a.bidders bids i)).Blocks):=by
    have hs9:=zio hn hg.val.prods hbo h.act;rw [hnth _ hh1];exact ⟨hs9.1.id,by rw [←hsm.2.1];exact hbo.el,hs9.1.wa,hbo.dem,by dsimp only;rw [←hsm.2.1];exact hbo.un⟩
   have hroom:zcD a.catalogue (GBidder.mk (nth A (fE a.bidders bids i)).ID (nth a.bidders (fE a.bidders bids i)).Eligibility (nth A (fE a.bidders bids i)).Waivers (nth (ep fuel a bids).bs (fE a.bidders bids i)).Blocks) ((eU bids i:Nat):Int)=some (ld a.catalogue (nth (ep fuel a bids).bs (fE a.bidders bids i)) (eU bids i),0):=by
    rw [zlL hn hg.val.prods hbo2 hp1];unfold ld;dsimp only;rw [hsm.2.1]
   rw [hroom,Option.bind_some];dsimp only;rw [decide_eq_false (show ¬ ¬(0:Int)=0 by simp),Bool.false_or];by_cases c2:0<(nth bids i).Change
   ·rw [decide_eq_false (show ¬(nth bids i).Change<0 by omega),Bool.false_and,Bool.false_and,cond_false];rw [if_pos a7] at hz; (have hr0:ld a.catalogue (nth (ep fuel a bids).bs (fE a.bidders bids i)) (eU bids i)=0:=by omega);rw [hr0,decide_eq_false (show ¬ ¬(0:Int)=0 by simp),Bool.and_false,cond_false];exact hnext
   ·rw [if_neg a7,if_pos a7] at hz;rw [decide_eq_false c2,Bool.false_and,cond_false]
    rw [show (((decide ((nth bids i).Change<0))&&(decide (0<nth (nth (ep fuel a bids).bs (fE a.bidders bids i)).Blocks (eU bids i))))&&(decide ((nth a.catalogue (eU bids i)).Supply<fT (ep fuel a bids).bs (eU bids i))))=false by
     rw [←Bool.not_eq_true,Bool.and_eq_true,Bool.and_eq_true,decide_eq_true_eq,decide_eq_true_eq,decide_eq_true_eq];rintro ⟨⟨_,c4⟩,c5⟩
     omega,cond_false]
    exact hnext
theorem new_x {l:List GProduct}{bs:List GBidder}{i:GIncrement}{key:List Int}(hn:l.length≤100)(hm:bs.length≤32)(hk:key.length≤100)(hr:jy bs){r:Bool}(h:j6 l bs=some r)(hv:r=true→it l=true):
  zc3 l bs i key=some (bif mz l bs i key r then (some (ir l bs i key),0) else (none,2)):=by
 rw [←zlH hn hm hk hr h hv];unfold zc3 zeu
 rfl
theorem zjA {l:List GProduct}{bs:List GBidder}{i:GIncrement}{key:List Int}(hv:Val l bs)(hr:jy bs)(hi:zbZ i=true)(hk:1≤key.length)(hk2:key.length≤32):Good2 (ir l bs i key):=by
 refine ⟨zkz hv hr hi hk,?_,hk2,show (0:Int)≤0∧(0:Int)≤10000 by decide⟩;unfold zbZ at hi;simp only [Bool.and_eq_true,decide_eq_true_eq] at hi;exact ⟨hi.1.1.1,hi.1.1.2⟩
theorem zis {a:GAuction}(h:Good a):zaz a=some a.prices:=by
 unfold zaz;rw [zg0 h,cond_false,dJ (by have:=h.val.n;rw [h.plen];unfold dm;omega)]
theorem zgu {a:GAuction}(h:Good a):zaN a=some a.bidders:=by
 unfold zaN;rw [zg0 h,cond_false,dJ h.rm]
theorem zi1 {l:List GProduct}{bs:List GBidder}{key:List Int}{rounds:List (List GBid)}(h:zcI l bs key rounds=true):∀k,k<rounds.length→(nth rounds k).length≤16:=by
 unfold zcI at h
 cases hc:((((decide (10<(l.length:Int)))||(decide (6<(bs.length:Int))))||(decide (40<(key.length:Int))))||(decide (4<(rounds.length:Int)))) with
 |true=>rw [hc] at h;cases h
 |false=>
  rw [hc,cond_false] at h;simp only [dF] at h
  rw [show rounds.length - 0=rounds.length from rfl,ze8 (z:=false) (fun k=>decide ((nth rounds k).length≤16)) (fun k next hk=>by
   by_cases c:(nth rounds k).length≤16
   ·rw [decide_eq_true c,decide_eq_false a7];rfl
   ·rw [decide_eq_false c,decide_eq_true a7];rfl)] at h
  intro k hk
  cases hall:(List.range rounds.length).all (fun k=>decide ((nth rounds k).length≤16)) with
  |false=>rw [hall] at h;cases h
  |true=>
   rw [List.all_eq_true] at hall;exact of_decide_eq_true (hall k (List.mem_range.2 hk))
theorem zk6 {rounds:List (List GBid)}(hd:∀q∈rounds,∀x∈q,(∀y∈x.Point.Num.Digits,0≤y∧y≤255)∧(∀y∈x.Point.Den.Digits,0≤y∧y≤255)):∀k,k<rounds.length→DigB (nth rounds k):=fun k hk i hi=>by
 have h1:=hd _ (ziO hk) _ (ziO hi);exact ⟨fun y hy=>by have:=h1.1 y hy;omega,fun y hy=>by have:=h1.2 y hy;omega⟩
theorem zhL {F:Nat}(hF:100000≤F)(l:List GProduct)(bs:List GBidder)(i:GIncrement)(key:List Int)(rounds:List (List GBid))(hb:∀x∈bs,dm x.Blocks.length 8)(hd:∀q∈rounds,∀x∈q,(∀y∈x.Point.Num.Digits,0≤y∧y≤255)∧(∀y∈x.Point.Den.Digits,0≤y∧y≤255)):zcw F l bs i key rounds=some true:=by
 unfold zcw;rw [zjy a7]
 cases hfew:zcI l bs key rounds with
 |false=>rfl
 |true=>
  obtain ⟨f1,f2,f3,f4⟩:=zl0 hfew;have f5:=zi1 hfew;have hdig:=zk6 hd;have hroom:jy bs:=⟨by unfold dm;omega,hb⟩;rw [Bool.not_true,cond_false];obtain ⟨r,hr1,hr2,hr3⟩:=zgI (fuel:=F) (l:=l) (bs:=bs) a7 a7 a7;rw [new_x a7 a7 a7 hroom hr1 (fun h=>(hr3 h).1),Option.bind_some]
  cases hv:mz l bs i key r with
  |false=>rfl
  |true=>
   unfold mz at hv;simp only [Bool.and_eq_true,decide_eq_true_eq] at hv;obtain ⟨⟨⟨v1,v2⟩,v3⟩,v4⟩:=hv;rw [v1] at hr1;have hval:=zkX a7 a7 hr1;have hgood:=zjA hval hroom v2 v3 v4;rw [cond_true];dsimp only;rw [Option.isSome_some,cond_true,decide_eq_false (show ¬ ¬(0:Int)=0 by simp),Bool.or_self,cond_false,Option.getD_some];simp only [dF];refine mc (n:=rounds.length) (fun k (s:List GBidder×Int×List Int)=>∃a:GAuction,Good2 a∧a.catalogue=l∧a.increment=⟨i.Activity,i.Step⟩∧a.key=key∧s=(a.bidders,a.rounds,a.prices)∧a.rounds≤k) (fun o=>o=some true) ⟨_,hgood,rfl,rfl,rfl,rfl,Int.le_refl _⟩ (fun s hs=>rfl) (fun k s next hk hs hnx=>?_);obtain ⟨a,ga,rfl,a2,rfl,rfl,a5⟩:=hs;dsimp only
   have ea:(GAuction.mk (ir a.catalogue bs i a.key).catalogue a.bidders (GIncrement.mk ((ir a.catalogue bs i a.key).increment.Activity) ((ir a.catalogue bs i a.key).increment.Step)) (ir a.catalogue bs i a.key).key a.rounds a.prices)=a:=by
    obtain ⟨c1,c2,c3,c4,c5,c6⟩:=a;dsimp only at a2;subst a2
    rfl
   have hg:=ga.g;rw [ea,zis hg,Option.bind_some,ziS hg,Option.bind_some,zgu hg,Option.bind_some];obtain ⟨e1,e2⟩:=zlb (fuel:=F) a7 ga (hdig k hk) (by have:=f5 k hk;omega);rw [e1,Option.bind_some];have hsame:next (a.bidders,a.rounds,a.prices)=some true:=hnx _ ⟨a,ga,rfl,a2,rfl,rfl,by omega⟩
   cases hD:zjn a with
   |true=>exact hsame
   |false=>
    cases hB:zhj a.catalogue a.bidders (nth rounds k)&&jP F (nth rounds k) with
    |false=>exact hsame
    |true=>
     cases hFu:zhP a with
     |true=>exact hsame
     |false=>
      rw [Bool.and_eq_true] at hB;have R:=e2 hD hB.1 hB.2 hFu;have hg2:=R.good a7
      have ea2:(GAuction.mk (ir a.catalogue bs i a.key).catalogue (iR F a (nth rounds k)).bidders (GIncrement.mk ((ir a.catalogue bs i a.key).increment.Activity) ((ir a.catalogue bs i a.key).increment.Step)) (ir a.catalogue bs i a.key).key (iR F a (nth rounds k)).rounds (iR F a (nth rounds k)).prices)=iR F a (nth rounds k):=by
       unfold iR;rw [a2]
       rfl
      rw [cond_false,Bool.not_true,cond_false,cond_false];dsimp only;rw [decide_eq_false (show ¬ ¬(0:Int)=0 by simp),cond_false,ea2,zgu hg2.g,Option.bind_some,zls ga R,Option.bind_some,Bool.not_true,cond_false,zis hg2.g,Option.bind_some];have hlen2:(iR F a (nth rounds k)).prices.length=a.catalogue.length:=hg2.g.plen;rw [hlen2,hg.plen,show (((decide (¬(a.catalogue.length:Int)=(a.catalogue.length:Int)))||(decide (¬(a.catalogue.length:Int)=(a.catalogue.length:Int))))||(decide (¬(((List.range a.catalogue.length).map (clk a)).length:Int)=(a.catalogue.length:Int))))=false by simp,cond_false]
      rw [show a.catalogue.length - 0=a.catalogue.length from rfl,ze8 (n:=a.catalogue.length) (z:=some false) (fun _=>true) (fun p nx hp=>by
       have h1:=R.post p hp;have h2:nth (iR F a (nth rounds k)).prices p=l7 a (nth rounds k) (ep F a (nth rounds k)) p:=gJ hp;rw [h2,gJ hp,decide_eq_false a7,decide_eq_false a7]
       rfl)]
      rw [show (List.range a.catalogue.length).all (fun _=>true)=true by simp,cond_true];refine hnx _ ⟨iR F a (nth rounds k),hg2,rfl,a2,rfl,rfl,?_⟩
      show a.rounds+1≤_
      omega
end Go.Proofs.YtmnjbhkcfghebaaGreatDoor
namespace Go.Proofs.YtmnjbhkcfghebaaGreatDoor
open Go.RowKit Go.ChangeShapes Go.WideShapes Go.Deep
def Opens {H:Type}(enc:TypeId×Value→H)(w:World)(base:Nat)(spare:Nat→Bool)(held:Bool)(t:TypeId){α:Type}(R:List Value→α→Prop):Prop:=
 ∀fuel cs y,DataW.trod enc Tryz.prog w base spare held fuel t cs=some y→∃x,R cs x
section
variable {H:Type}{enc:TypeId×Value→H}{w:World}{base:Nat}{spare:Nat→Bool}{held:Bool}
theorem Opens.int {t:TypeId}(ht:Tryz.prog.underlying t=some (.int .i64)):Opens enc w base spare held t (fun cs (x:Int)=>cs=[.int .i64 x]):=fun fuel cs y h=>by
 obtain ⟨k,hk,_⟩:=DataW.trod_int ht h;exact ⟨k,hk⟩
theorem zjl {a:Addr}{v:Value}(h:w.cell? a=some v):Cb w a.block:=by
 unfold World.cell? at h
 split at h
 all_goals (first|exact ⟨_,_,_,by assumption⟩|simp at h|skip)
theorem Opens.any {t e:TypeId}{k:Nat}{α:Type}[Inhabited α]{R:List Value→α→Prop}(ht:Tryz.prog.underlying t=some (.slice e))(hk:Tryz.prog.cellsOf e=k)(hpos:0<k)(ho:Opens enc w base spare held e R):
  Opens enc w base spare held t (fun cs (l:List α)=>∃v c,cs=[v]∧SlC (Frz.all w) v k c∧c.length=l.length∧∀i,i<l.length→R (nth c i) (nth l i)):=fun fuel cs y h=>by
 rcases open_slice ht h with ⟨h0,_⟩|⟨a,len,cap,m,n,D,Pl,hcs,hb,hl,hm,hmm,_,hx⟩
 ·exact ⟨[],_,[],h0,SlC.nil _ _,rfl,fun i hi=>absurd hi (Nat.not_lt_zero i)⟩
 ·subst hcs; (have hlm:len≤m:=by rw [hmm];split <;> omega)
  have each:∀i,i<m→∃x:List Value×α,x.1.length=k∧R x.1 x.2∧∀j,j<k→w.cell? (a.add (i*k+j))=x.1[j]?:=fun i hi=>by
   obtain ⟨cs',h1,h2⟩:=hx i hi;rw [hk] at h1;obtain ⟨_,hlen,hcell⟩:=World.cells?_some h1;obtain ⟨x,hR⟩:=ho _ _ _ h2;exact ⟨(cs',x),hlen,hR,fun j hj=>by rw [←hcell j hj,add_add]⟩
  obtain ⟨X,hX⟩:=choose_lt each
  have hn:∀i,i<len→nth ((List.range len).map fun i=>(X i).1) i=(X i).1:=fun i hi=>by
   rw [eZ (by simpa using hi)];simp
  have hn2:∀i,i<len→nth ((List.range len).map fun i=>(X i).2) i=(X i).2:=fun i hi=>by
   rw [eZ (by simpa using hi)];simp
  refine ⟨(List.range len).map fun i=>(X i).2,_,(List.range len).map fun i=>(X i).1,rfl,⟨some a,cap,by simp,by simpa using hl,by unfold maxLen at hm;omega,fun c hc=>?_,fun hp=>?_⟩,by simp,fun i hi=>?_⟩
  ·simp at hc;obtain ⟨i,hi,rfl⟩:=hc;exact (hX i a7).1
  ·(have hp':0<len:=by simpa using hp);have c0:=(hX 0 a7).2.2 0 hpos;have hx0:=(hX 0 a7).1;rw [List.getElem?_eq_getElem a7] at c0;have hcb:=zjl c0;have hs:=World.cell?_spot c0;simp [Addr.add] at hs hcb;obtain ⟨b,off,sp⟩:=a;simp at hs hcb;subst hs;refine ⟨b,off,rfl,hcb,fun i hi j hj=>?_⟩;simp at hi;rw [hn i hi] at hj ⊢;have hxi:=hX i a7;have:=hxi.2.2 j a7;refine Eq.trans ?_ this
   show w.cell? _=_
   rw [kG,Nat.add_assoc]
  ·simp at hi;rw [hn i hi,hn2 i hi];exact (hX i a7).2.1
theorem jz {t e:TypeId}{k:Nat}{α:Type}[Inhabited α]{en:α→List Value}(ht:Tryz.prog.underlying t=some (.slice e))(hk:Tryz.prog.cellsOf e=k)(hpos:0<k)(ho:Opens enc w base spare held e (fun cs (x:α)=>cs=en x)):
  Opens enc w base spare held t (fun cs (l:List α)=>∃v,cs=[v]∧SlC (Frz.all w) v k (l.map en)):=fun fuel cs y h=>by
 obtain ⟨l,v,c,h1,h2,h3,h4⟩:=Opens.any ht hk hpos ho _ _ _ h;refine ⟨l,v,h1,?_⟩
 have:c=l.map en:=by
  apply List.ext_getElem (by simpa using h3);intro i hi hi2;rw [←eZ hi,h4 i a7,List.getElem_map,eZ a7]
 rw [←this];exact h2
theorem Opens.bytes {t e:TypeId}(ht:Tryz.prog.underlying t=some (.slice e))(he:Tryz.prog.underlying e=some (.int .u8))(hk:Tryz.prog.cellsOf e=1):
  Opens enc w base spare held t (fun cs (l:List Int)=>∃v,cs=[v]∧SlC (Frz.all w) v 1 (l.map (eK .u8))∧∀x∈l,0≤x∧x≤255):=fun fuel cs y h=>by
 have ho:Opens enc w base spare held e (fun cs (x:Int)=>cs=eK .u8 x∧(0≤x∧x≤255)):=fun fuel cs y h=>by
  obtain ⟨k,h1,_,h2⟩:=DataW.trod_int he h;refine ⟨k,h1,?_⟩; (have e1:IntKind.u8.min=0:=by decide); (have e2:IntKind.u8.max=255:=by decide);simp only [Lit.wf,e1,e2,Bool.and_eq_true,decide_eq_true_eq] at h2;exact h2
 obtain ⟨l,v,c,h1,h2,h3,h4⟩:=Opens.any ht hk a8 ho _ _ _ h;refine ⟨l,v,h1,?_,fun x hx=>?_⟩
 ·have:c=l.map (eK .u8):=by
   apply List.ext_getElem (by simpa using h3);intro i hi hi2;rw [←eZ hi,(h4 i a7).1,List.getElem_map,eZ a7]
  rw [←this];exact h2
 ·obtain ⟨i,hi,e⟩:=List.mem_iff_getElem.1 hx;have:=(h4 i hi).2;rw [eZ hi,e] at this;exact this
end
end Go.Proofs.YtmnjbhkcfghebaaGreatDoor
