/- Pw Cv Lc Ga Gg Ba Lq Na Wn Bb Wp Bc: shortened and put together by squeeze.py. -/
import Derived.Test.YtgoeeefoinkepaaGreatDoorQ13
set_option maxRecDepth 100000
set_option maxHeartbeats 4000000
set_option linter.unusedVariables false
set_option linter.unusedSectionVars false
set_option linter.unusedSimpArgs false
namespace Go.Proofs.YtgoeeefoinkepaaGreatDoor
open Go.RowKit
def kx:List Int→List Int→Bool
 |a :: x,b :: y=>if a=b then kx x y else decide (a<b)
 |_,_=>false
theorem zkt {x y:List Int}{k:Nat}(h:k<x.length)(h2:k<y.length):kx (x.drop k) (y.drop k)=if cH x k=cH y k then kx (x.drop (k+1)) (y.drop (k+1)) else decide (cH x k<cH y k):=by
 rw [List.drop_eq_getElem_cons h,List.drop_eq_getElem_cons h2,d5 h,d5 h2];rfl
def zhG (ds:List Dx)(s:Int):Int:=match ds.findIdx? (fun d=>decide (d.st=s)) with|some i=>(i:Int)|none=> -1
theorem gA {n a b:Int}:inB n a b=true↔a≤n∧n≤b:=by simp [inB]
def zhq (xs:List Pr)(k:Nat):Bool:=decide ((inB (cH xs k).a 0 511=true∧inB (cH xs k).b 0 511=true∧(cH xs k).a<(cH xs k).b∧ -1≤(cH xs k).off∧(cH xs k).off≤1∧fe (cH xs k).lo (cH xs k).hi=true)∧(0<k→kx [(cH xs (k - 1)).a,(cH xs (k - 1)).b,(cH xs (k - 1)).off,(cH xs (k - 1)).lo,(cH xs (k - 1)).hi] [(cH xs k).a,(cH xs k).b,(cH xs k).off,(cH xs k).lo,(cH xs k).hi]=true))
def zhn (xs:List Ld)(k:Nat):Bool:=decide ((inB (cH xs k).to 0 511=true∧inB (cH xs k).fr 0 511=true∧¬(cH xs k).to=(cH xs k).fr∧1≤(cH xs k).wt∧(cH xs k).wt≤1073741824∧fe (cH xs k).lo (cH xs k).hi=true)∧(0<k→kx [(cH xs (k - 1)).to,(cH xs (k - 1)).fr,(cH xs (k - 1)).wt,(cH xs (k - 1)).lo,(cH xs (k - 1)).hi] [(cH xs k).to,(cH xs k).fr,(cH xs k).wt,(cH xs k).lo,(cH xs k).hi]=true))
def zg9 (xs:List Cp)(k:Nat):Bool:=decide ((inB (cH xs k).st 0 511=true∧0≤(cH xs k).mx∧(cH xs k).mx≤1099511627776∧fe (cH xs k).lo (cH xs k).hi=true)∧(0<k→kx [(cH xs (k - 1)).st,(cH xs (k - 1)).mx,(cH xs (k - 1)).lo,(cH xs (k - 1)).hi] [(cH xs k).st,(cH xs k).mx,(cH xs k).lo,(cH xs k).hi]=true))
def zgR (P:Pb):Bool:=decide (P.ps.length≤4096∧P.ls.length≤1024∧P.cs.length≤1024)&&((List.range P.ps.length).all (zhq P.ps)&&((List.range P.ls.length).all (zhn P.ls)&&(List.range P.cs.length).all (zg9 P.cs)))
def ziA (cs:List Int)(j:Nat):Bool:=decide (2≤cH cs j∧cH cs j≤51∧(0<j→cH cs (j - 1)<cH cs j))
def zkm (ds:List Dx)(k:Nat):Bool:=decide ((inB (cH ds k).st 0 511=true∧(0<k→(cH ds (k - 1)).st<(cH ds k).st)∧(cH ds k).chs.length≤50)∧(List.range (cH ds k).chs.length).all (ziA (cH ds k).chs)=true)
def zki (P:Pb)(k:Nat):Bool:=decide (0≤zhG P.ds (cH P.ps k).a∧0≤zhG P.ds (cH P.ps k).b)
def zkg (P:Pb)(k:Nat):Bool:=decide (0≤zhG P.ds (cH P.ls k).to∧0≤zhG P.ds (cH P.ls k).fr)
def zkv (P:Pb)(k:Nat):Bool:=decide (0≤zhG P.ds (cH P.cs k).st)
def zkJ (P:Pb):Bool:=decide (P.ds.length≤512)&&(zgR P&&((List.range P.ds.length).all (zkm P.ds)&&((List.range P.ps.length).all (zki P)&&((List.range P.ls.length).all (zkg P)&&(List.range P.cs.length).all (zkv P)))))
theorem zfV {α:Type}[Inhabited α]{c:α→α→Int}{xs:List α}:fE c xs=true↔∀k,0<k→k<xs.length→c (cH xs (k - 1)) (cH xs k)<0:=by
 unfold fE;rw [List.all_eq_true];constructor
 ·intro h k h0 hk;have:=h k (List.mem_range.2 hk);simp only [Bool.or_eq_true,decide_eq_true_eq,Bool.not_eq_true',decide_eq_false_iff_not] at this;omega
 ·intro h k hk;simp only [Bool.or_eq_true,decide_eq_true_eq,Bool.not_eq_true',decide_eq_false_iff_not];by_cases h0:k=0
  ·exact .inl h0
  ·have:=h k a6 (List.mem_range.1 hk);exact .inr a6
theorem iJ {f:Nat→Bool}{n:Nat}:(List.range n).all f=true↔∀k,k<n→f k=true:=by
 rw [List.all_eq_true];exact ⟨fun h k hk=>h k (List.mem_range.2 hk),fun h k hk=>h k (List.mem_range.1 hk)⟩
theorem ze5 {a b:Int}:dM a b<0↔a<b:=by unfold dM;split <;> (try split) <;> omega
theorem j0 {a b:Int}:dM a b=0↔a=b:=by unfold dM;split <;> (try split) <;> omega
theorem zhb:∀(xs ys:List Int),xs.length=ys.length→(kx xs ys=true↔kq (List.zipWith dM xs ys)<0)
 | [],[],_=>by simp [kx,kq]
 |a :: x,b :: y,h=>by
  have ih:=zhb x y (by simpa using h);unfold kx;rw [List.zipWith_cons_cons];unfold kq;by_cases e:a=b
  ·rw [if_pos e,if_pos (j0.2 e)];exact ih
  ·rw [if_neg e,if_neg (fun hh=>e (j0.1 hh)),ze5,decide_eq_true_eq]
 | [],_ :: _,h=>by simp at h
 |_ :: _,[],h=>by simp at h
theorem zlk {xs:List Pr}{k:Nat}:zhq xs k=true↔(cH xs k).ok=true∧(0<k→Pr.cmp (cH xs (k - 1)) (cH xs k)<0):=by
 have e:=zhb [(cH xs (k - 1)).a,(cH xs (k - 1)).b,(cH xs (k - 1)).off,(cH xs (k - 1)).lo,(cH xs (k - 1)).hi] [(cH xs k).a,(cH xs k).b,(cH xs k).off,(cH xs k).lo,(cH xs k).hi] rfl;simp only [zhq,decide_eq_true_eq,e,Pr.ok,Bool.and_eq_true,gA,Pr.cmp,List.zipWith,and_assoc]
theorem zlR {xs:List Ld}{k:Nat}:zhn xs k=true↔(cH xs k).ok=true∧(0<k→Ld.cmp (cH xs (k - 1)) (cH xs k)<0):=by
 have e:=zhb [(cH xs (k - 1)).to,(cH xs (k - 1)).fr,(cH xs (k - 1)).wt,(cH xs (k - 1)).lo,(cH xs (k - 1)).hi] [(cH xs k).to,(cH xs k).fr,(cH xs k).wt,(cH xs k).lo,(cH xs k).hi] rfl;simp only [zhn,decide_eq_true_eq,e,Ld.ok,Bool.and_eq_true,gA,Ld.cmp,List.zipWith,and_assoc]
theorem zlr {xs:List Cp}{k:Nat}:zg9 xs k=true↔(cH xs k).ok=true∧(0<k→Cp.cmp (cH xs (k - 1)) (cH xs k)<0):=by
 have e:=zhb [(cH xs (k - 1)).st,(cH xs (k - 1)).mx,(cH xs (k - 1)).lo,(cH xs (k - 1)).hi] [(cH xs k).st,(cH xs k).mx,(cH xs k).lo,(cH xs k).hi] rfl;simp only [zg9,decide_eq_true_eq,e,Cp.ok,Bool.and_eq_true,gA,Cp.cmp,List.zipWith,and_assoc]
theorem zfW {α:Type}[Inhabited α]{r:List α→Nat→Bool}{q:α→Bool}{c:α→α→Int}{xs:List α}(h:∀k,r xs k=true↔q (cH xs k)=true∧(0<k→c (cH xs (k - 1)) (cH xs k)<0)):(List.range xs.length).all (r xs)=true↔fG q xs=true∧fE c xs=true:=by
 rw [iJ,zeq,zfV];exact ⟨fun hh=>⟨fun k hk=>((h k).1 (hh k hk)).1,fun k h0 hk=>((h k).1 (hh k hk)).2 h0⟩,fun hh k hk=>(h k).2 ⟨hh.1 k hk,fun h0=>hh.2 k h0 hk⟩⟩
theorem zlt (P:Pb):zgR P=P.rulesOk:=by
 rw [Bool.eq_iff_iff];simp only [zgR,Pb.rulesOk,Bool.and_eq_true,decide_eq_true_eq,zfW (r:=zhq) (q:=Pr.ok) (c:=Pr.cmp) (xs:=P.ps) (fun k=>zlk),zfW (r:=zhn) (q:=Ld.ok) (c:=Ld.cmp) (xs:=P.ls) (fun k=>zlR),zfW (r:=zg9) (q:=Cp.ok) (c:=Cp.cmp) (xs:=P.cs) (fun k=>zlr)];constructor
 ·rintro ⟨⟨h1,h2,h3⟩,⟨h4,h5⟩,⟨h6,h7⟩,h8,h9⟩;exact ⟨by omega,h4,h5,by omega,h6,h7,by omega,h8,h9⟩
 ·rintro ⟨h1,h4,h5,h2,h6,h7,h3,h8,h9⟩;exact ⟨⟨by omega,by omega,by omega⟩,⟨h4,h5⟩,⟨h6,h7⟩,h8,h9⟩
theorem zjR {f:Nat→Int}{lo hi:Int}{n:Nat}(h0:∀k,k<n→lo≤f k∧f k≤hi)(h:∀k,0<k→k<n→f (k - 1)<f k):(n:Int)≤hi - lo+1∨n=0:=by
 have key:∀k,k<n→lo+(k:Int)≤f k:=by
  intro k
  induction k with
  |zero=>intro hk;have:=h0 0 hk;omega
  |succ k ih=>intro hk;have:=ih a6;have:=h (k+1) a6 hk;rw [Nat.add_sub_cancel] at this;omega
 rcases Nat.eq_zero_or_pos n with h1|h1
 ·exact .inr h1
 ·have:=key (n - 1) a6;have:=h0 (n - 1) a6;exact .inl a6
theorem zib {ds:List Dx}{s:Int}:0≤zhG ds s↔∃i,i<ds.length∧(cH ds i).st=s:=by
 unfold zhG
 cases hf:ds.findIdx? (fun d=>decide (d.st=s)) with
 |none=>
  refine ⟨fun h=>by simp at h,fun ⟨i,hi,h⟩=>?_⟩;rw [List.findIdx?_eq_none_iff] at hf;have:=hf (cH ds i) (iZ hi);simp [h] at this
 |some i=>
  refine ⟨fun _=>?_,fun _=>by simp⟩;obtain ⟨hi,h1,_⟩:=List.findIdx?_eq_some_iff_getElem.1 hf;exact ⟨i,hi,by rw [d5 hi];simpa using h1⟩
theorem zdx {P:Pb}(hst:∀d∈P.ds,0≤d.st∧d.st≤511){s:Int}:P.has s=true↔0≤zhG P.ds s:=by
 unfold Pb.has;rw [ziv (P.ds.map fun d:Dx=>d.st) (fun y hy=>by obtain ⟨d,hd,rfl⟩:=List.mem_map.1 hy;exact hst d hd),zib,List.mem_map];constructor
 ·rintro ⟨d,hd,rfl⟩;obtain ⟨i,hi,rfl⟩:=List.mem_iff_getElem.1 hd;exact ⟨i,hi,by rw [d5 hi]⟩
 ·rintro ⟨i,hi,rfl⟩;exact ⟨_,iZ hi,rfl⟩
theorem jO {cs:List Int}:(List.range cs.length).all (ziA cs)=true↔fG (fun c=>inB c 2 51) cs=true∧fE dM cs=true:=by
 refine zfW (r:=ziA) (q:=fun c=>inB c 2 51) (c:=dM) fun k=>?_;simp only [ziA,decide_eq_true_eq,gA,ze5,and_assoc]
theorem zlI (P:Pb):zkJ P=P.ok:=by
 rw [Bool.eq_iff_iff];simp only [zkJ,Pb.ok,Bool.and_eq_true,decide_eq_true_eq,zlt,iJ,zeq,zfV,ze5,zkm,zki,zkg,zkv,Dx.ok]
 have stOf:(∀k,k<P.ds.length→inB (cH P.ds k).st 0 511=true)→∀d∈P.ds,0≤d.st∧d.st≤511:=fun h d hd=>by
  obtain ⟨i,hi,rfl⟩:=List.mem_iff_getElem.1 hd;have:=gA.1 (h i hi)
  rwa [d5 hi] at this
 constructor
 ·rintro ⟨h1,h2,h3,h4,h5,h6⟩;have hst:=stOf fun k hk=>(h3 k hk).1.1;refine ⟨fun k hk=>⟨(h3 k hk).1.1,?_⟩,h2,fun k h0 hk=>(h3 k hk).1.2.1 h0,fun k hk=>⟨(zdx hst).2 (h4 k hk).1,(zdx hst).2 (h4 k hk).2⟩,fun k hk=>⟨(zdx hst).2 (h5 k hk).1,(zdx hst).2 (h5 k hk).2⟩,fun k hk=>(zdx hst).2 (h6 k hk)⟩;have:=jO.1 (iJ.2 (h3 k hk).2);simp only [zeq,zfV,ze5] at this;exact this
 ·rintro ⟨h1,h2,h3,h4,h5,h6⟩;have hst:=stOf fun k hk=>(h1 k hk).1;refine ⟨?_,h2,fun k hk=>⟨⟨(h1 k hk).1,fun h0=>h3 k h0 hk,?_⟩,?_⟩,fun k hk=>⟨(zdx hst).1 (h4 k hk).1,(zdx hst).1 (h4 k hk).2⟩,fun k hk=>⟨(zdx hst).1 (h5 k hk).1,(zdx hst).1 (h5 k hk).2⟩,fun k hk=>(zdx hst).1 (h6 k hk)⟩
  ·have:=zjR (f:=fun k=>(cH P.ds k).st) (lo:=0) (hi:=511) (n:=P.ds.length) (fun k hk=>gA.1 (h1 k hk).1) h3;omega
  ·have:=zjR (f:=cH (cH P.ds k).chs) (lo:=2) (hi:=51) (n:=(cH P.ds k).chs.length) (fun j hj=>gA.1 ((h1 k hk).2.1 j hj)) (h1 k hk).2.2;omega
  ·exact iJ.1 (jO.2 (by simp only [zeq,zfV,ze5];exact (h1 k hk).2))
theorem zck {ρ:Type}{f:Nat→(Unit→ρ)→Unit→ρ}{k:Unit→ρ}{n:Nat}{z:ρ}(q:Nat→Bool)(hf:∀i next,i<n→f i next ()=bif q i then next () else z):di f k n 0 ()=bif (List.range n).all q then k () else z:=by
 have key:∀m i,i+m=n→di f k m i ()=bif (List.range' i m).all q then k () else z:=by
  intro m
  induction m with
  |zero=>intro i _;rfl
  |succ m ih=>
   intro i e
   show f i (di f k m (i+1)) ()=_
   rw [hf i _ a6,ih (i+1) a6,List.range'_succ,List.all_cons]
   cases q i <;> rfl
 rw [key n 0 a6,List.range_eq_range']
theorem zd4 {n:Int}:ko n=inB n 0 511:=rfl
theorem zlF {a b:Int}:mW a b=fe a b:=by
 unfold mW fe;by_cases h1:2≤a <;> by_cases h2:a≤b <;> by_cases h3:b≤51 <;> simp [h1,h2,h3]
theorem zl5 {a b:List Int}(h:a.length=b.length):zbo a b=some (kx a b):=by
 unfold zbo;refine j4 ?_
 have key:∀m i,i+m=a.length→di (fun (i:Nat) (next:Unit→Option Bool) (_:Unit)=>em (0≤(i:Int)∧(i:Int)<(b.length:Int)) (bif decide (¬cH a i=cH b i) then some (decide (cH a i<cH b i)) else next ())) (fun _=>some false) m i ()=some (kx (a.drop i) (b.drop i)):=by
  intro m
  induction m with
  |zero=>intro i e;rw [List.drop_eq_nil_of_le (show a.length≤i by omega)];rfl
  |succ m ih=>
   intro i e;have h2:=ih (i+1) a6
   show em _ _=_
   rw [fA ⟨by omega,by omega⟩,zkt a6 a6];by_cases e2:cH a i=cH b i
   ·rw [if_pos e2,decide_eq_false (fun hn=>hn e2),cond_false];exact h2
   ·rw [if_neg e2,decide_eq_true e2,cond_true]
 exact key a.length 0 a6
def hasS (p:GProblem)(s:Int):Bool:=p.Domains.any fun d=>decide (d.Station=s)
theorem zoo {p:GProblem}{s:Int}:jh p s<0↔hasS p s=false:=by
 unfold jh hasS;refine j4 ?_
 have key:∀m i,i+m=p.Domains.length→(di (fun (i:Nat) (next:Unit→Int) (_:Unit)=>bif decide ((cH p.Domains i).Station=s) then (i:Int) else next ()) (fun _=>(-1)) m i ()<0↔((p.Domains.drop i).any fun d=>decide (d.Station=s))=false):=by
  intro m
  induction m with
  |zero=>intro i e;rw [List.drop_eq_nil_of_le (show p.Domains.length≤i by omega)];exact ⟨fun _=>rfl,fun _=>by show (-1:Int)<0;omega⟩
  |succ m ih=>
   intro i e;have h2:=ih (i+1) a6;rw [List.drop_eq_getElem_cons (show i<p.Domains.length by omega),List.any_cons,←d5 (show i<p.Domains.length by omega)]
   show (bif decide ((cH p.Domains i).Station=s) then (i:Int) else _)<0↔_
   cases decide ((cH p.Domains i).Station=s) with
   |true=>simp
   |false=>rw [cond_false,Bool.false_or];exact h2
 have:=key p.Domains.length 0 a6
 rwa [List.drop_zero] at this
theorem zcl (i:Nat):((i:Int) - 1).toNat=i - 1:=by omega
theorem znS {p : GProblem} {i : Nat} {next : Unit → Option Bool} (hi : i < p.Rules.Pairs.length) :
    (bif !(ko ((cH p.Rules.Pairs i).A)) then (bif true then some false else next ()) else
      (bif !(ko ((cH p.Rules.Pairs i).B)) then (bif true then some false else next ()) else
      (bif decide ((cH p.Rules.Pairs i).B ≤ (cH p.Rules.Pairs i).A) then (bif true then some false else next ()) else
      (bif decide ((cH p.Rules.Pairs i).Offset < (-1)) then (bif true then some false else next ()) else
      (bif decide (1 < (cH p.Rules.Pairs i).Offset) then (bif true then some false else next ()) else
      (bif !(mW ((cH p.Rules.Pairs i).Low) ((cH p.Rules.Pairs i).High)) then (bif true then some false else next ()) else
      (bif decide (0 < (i : Int)) then (zbo (lF (cH p.Rules.Pairs (((i : Int) - 1).toNat))) (lF (cH p.Rules.Pairs i))).bind fun r => (bif !r then some false else next ()) else (bif false then some false else next ())))))))) = bif zhq (d7 p).ps i then next () else some false := by
  have e1 : cH (d7 p).ps i = (cH p.Rules.Pairs i).b := jC hi; have e2 : cH (d7 p).ps (i - 1) = (cH p.Rules.Pairs (i - 1)).b := jC a6; rw [zcl, zl5 (by rfl), Option.bind_some];simp only [zd4, zlF]
  have hr : zhq (d7 p).ps i = (inB (cH p.Rules.Pairs i).A 0 511 && (inB (cH p.Rules.Pairs i).B 0 511 && (!decide ((cH p.Rules.Pairs i).B ≤ (cH p.Rules.Pairs i).A) && (!decide ((cH p.Rules.Pairs i).Offset < (-1)) && (!decide (1 < (cH p.Rules.Pairs i).Offset) && (fe (cH p.Rules.Pairs i).Low (cH p.Rules.Pairs i).High && (!decide (0 < (i : Int)) || kx (lF (cH p.Rules.Pairs (i - 1))) (lF (cH p.Rules.Pairs i))))))))) := by
    unfold zhq; rw [e1, e2, Bool.eq_iff_iff, decide_eq_true_eq];simp only [Bool.and_eq_true, Bool.or_eq_true, Bool.not_eq_true', decide_eq_false_iff_not, GPair.b, lF]; constructor
    · rintro ⟨⟨h1, h2, h3, h4, h5, h6⟩, h9⟩; refine ⟨h1, h2, by omega, by omega, by omega, h6, ?_⟩; rcases Nat.eq_zero_or_pos i with h | h
      · exact .inl a6
      · exact .inr (h9 h)
    · rintro ⟨h1, h2, h3, h4, h5, h6, h9⟩; refine ⟨⟨h1, h2, by omega, by omega, by omega, h6⟩, fun h => ?_⟩; rcases h9 with h9 | h9
      · omega
      · exact h9
  rw [hr]
  cases inB (cH p.Rules.Pairs i).A 0 511
  · rfl
  cases inB (cH p.Rules.Pairs i).B 0 511
  · rfl
  cases decide ((cH p.Rules.Pairs i).B ≤ (cH p.Rules.Pairs i).A)
  rotate_left
  · rfl
  cases decide ((cH p.Rules.Pairs i).Offset < (-1))
  rotate_left
  · rfl
  cases decide (1 < (cH p.Rules.Pairs i).Offset)
  rotate_left
  · rfl
  cases fe (cH p.Rules.Pairs i).Low (cH p.Rules.Pairs i).High
  · rfl
  cases decide (0 < (i : Int))
  · rfl
  cases kx (lF (cH p.Rules.Pairs (i - 1))) (lF (cH p.Rules.Pairs i)) <;> rfl
theorem znV {p : GProblem} {i : Nat} {next : Unit → Option Bool} (hi : i < p.Rules.Loads.length) :
    (bif !(ko ((cH p.Rules.Loads i).To)) then (bif true then some false else next ()) else
      (bif !(ko ((cH p.Rules.Loads i).From)) then (bif true then some false else next ()) else
      (bif decide ((cH p.Rules.Loads i).To = (cH p.Rules.Loads i).From) then (bif true then some false else next ()) else
      (bif decide ((cH p.Rules.Loads i).Weight < 1) then (bif true then some false else next ()) else
      (bif decide (1073741824 < (cH p.Rules.Loads i).Weight) then (bif true then some false else next ()) else
      (bif !(mW ((cH p.Rules.Loads i).Low) ((cH p.Rules.Loads i).High)) then (bif true then some false else next ()) else
      (bif decide (0 < (i : Int)) then (zbo (lN (cH p.Rules.Loads (((i : Int) - 1).toNat))) (lN (cH p.Rules.Loads i))).bind fun r => (bif !r then some false else next ()) else (bif false then some false else next ())))))))) = bif zhn (d7 p).ls i then next () else some false := by
  have e1 : cH (d7 p).ls i = (cH p.Rules.Loads i).b := jC hi; have e2 : cH (d7 p).ls (i - 1) = (cH p.Rules.Loads (i - 1)).b := jC a6; rw [zcl, zl5 (by rfl), Option.bind_some];simp only [zd4, zlF]
  have hr : zhn (d7 p).ls i = (inB (cH p.Rules.Loads i).To 0 511 && (inB (cH p.Rules.Loads i).From 0 511 && (!decide ((cH p.Rules.Loads i).To = (cH p.Rules.Loads i).From) && (!decide ((cH p.Rules.Loads i).Weight < 1) && (!decide (1073741824 < (cH p.Rules.Loads i).Weight) && (fe (cH p.Rules.Loads i).Low (cH p.Rules.Loads i).High && (!decide (0 < (i : Int)) || kx (lN (cH p.Rules.Loads (i - 1))) (lN (cH p.Rules.Loads i))))))))) := by
    unfold zhn; rw [e1, e2, Bool.eq_iff_iff, decide_eq_true_eq];simp only [Bool.and_eq_true, Bool.or_eq_true, Bool.not_eq_true', decide_eq_false_iff_not, GLoad.b, lN]; constructor
    · rintro ⟨⟨h1, h2, h3, h4, h5, h6⟩, h9⟩; refine ⟨h1, h2, by omega, by omega, by omega, h6, ?_⟩; rcases Nat.eq_zero_or_pos i with h | h
      · exact .inl a6
      · exact .inr (h9 h)
    · rintro ⟨h1, h2, h3, h4, h5, h6, h9⟩; refine ⟨⟨h1, h2, by omega, by omega, by omega, h6⟩, fun h => ?_⟩; rcases h9 with h9 | h9
      · omega
      · exact h9
  rw [hr]
  cases inB (cH p.Rules.Loads i).To 0 511
  · rfl
  cases inB (cH p.Rules.Loads i).From 0 511
  · rfl
  cases decide ((cH p.Rules.Loads i).To = (cH p.Rules.Loads i).From)
  rotate_left
  · rfl
  cases decide ((cH p.Rules.Loads i).Weight < 1)
  rotate_left
  · rfl
  cases decide (1073741824 < (cH p.Rules.Loads i).Weight)
  rotate_left
  · rfl
  cases fe (cH p.Rules.Loads i).Low (cH p.Rules.Loads i).High
  · rfl
  cases decide (0 < (i : Int))
  · rfl
  cases kx (lN (cH p.Rules.Loads (i - 1))) (lN (cH p.Rules.Loads i)) <;> rfl
theorem zn2 {p : GProblem} {i : Nat} {next : Unit → Option Bool} (hi : i < p.Rules.Caps.length) :
    (bif !(ko ((cH p.Rules.Caps i).Station)) then (bif true then some false else next ()) else
      (bif decide ((cH p.Rules.Caps i).Max < 0) then (bif true then some false else next ()) else
      (bif decide (1099511627776 < (cH p.Rules.Caps i).Max) then (bif true then some false else next ()) else
      (bif !(mW ((cH p.Rules.Caps i).Low) ((cH p.Rules.Caps i).High)) then (bif true then some false else next ()) else
      (bif decide (0 < (i : Int)) then (zbo (lL (cH p.Rules.Caps (((i : Int) - 1).toNat))) (lL (cH p.Rules.Caps i))).bind fun r => (bif !r then some false else next ()) else (bif false then some false else next ())))))) = bif zg9 (d7 p).cs i then next () else some false := by
  have e1 : cH (d7 p).cs i = (cH p.Rules.Caps i).b := jC hi; have e2 : cH (d7 p).cs (i - 1) = (cH p.Rules.Caps (i - 1)).b := jC a6; rw [zcl, zl5 (by rfl), Option.bind_some];simp only [zd4, zlF]
  have hr : zg9 (d7 p).cs i = (inB (cH p.Rules.Caps i).Station 0 511 && (!decide ((cH p.Rules.Caps i).Max < 0) && (!decide (1099511627776 < (cH p.Rules.Caps i).Max) && (fe (cH p.Rules.Caps i).Low (cH p.Rules.Caps i).High && (!decide (0 < (i : Int)) || kx (lL (cH p.Rules.Caps (i - 1))) (lL (cH p.Rules.Caps i))))))) := by
    unfold zg9; rw [e1, e2, Bool.eq_iff_iff, decide_eq_true_eq];simp only [Bool.and_eq_true, Bool.or_eq_true, Bool.not_eq_true', decide_eq_false_iff_not, GCap.b, lL]; constructor
    · rintro ⟨⟨h1, h2, h3, h4⟩, h9⟩; refine ⟨h1, by omega, by omega, h4, ?_⟩; rcases Nat.eq_zero_or_pos i with h | h
      · exact .inl a6
      · exact .inr (h9 h)
    · rintro ⟨h1, h2, h3, h4, h9⟩; refine ⟨⟨h1, by omega, by omega, h4⟩, fun h => ?_⟩; rcases h9 with h9 | h9
      · omega
      · exact h9
  rw [hr]
  cases inB (cH p.Rules.Caps i).Station 0 511
  · rfl
  cases decide ((cH p.Rules.Caps i).Max < 0)
  rotate_left
  · rfl
  cases decide (1099511627776 < (cH p.Rules.Caps i).Max)
  rotate_left
  · rfl
  cases fe (cH p.Rules.Caps i).Low (cH p.Rules.Caps i).High
  · rfl
  cases decide (0 < (i : Int))
  · rfl
  cases kx (lL (cH p.Rules.Caps (i - 1))) (lL (cH p.Rules.Caps i)) <;> rfl
theorem ziB {p:GProblem}:zbD p.Rules=some (zgR (d7 p)):=by
 unfold zbD;refine j4 ?_;rw [zck (n:=p.Rules.Pairs.length) (z:=some false) (zhq (d7 p).ps) (fun i next hi=>znS hi),zck (n:=p.Rules.Loads.length) (z:=some false) (zhn (d7 p).ls) (fun i next hi=>znV hi),zck (n:=p.Rules.Caps.length) (z:=some false) (zg9 (d7 p).cs) (fun i next hi=>zn2 hi)];have l1:(d7 p).ps.length=p.Rules.Pairs.length:=List.length_map _;have l2:(d7 p).ls.length=p.Rules.Loads.length:=List.length_map _;have l3:(d7 p).cs.length=p.Rules.Caps.length:=List.length_map _;unfold zgR;rw [l1,l2,l3];by_cases h:p.Rules.Pairs.length≤4096∧p.Rules.Loads.length≤1024∧p.Rules.Caps.length≤1024
 ·rw [decide_eq_true h,decide_eq_false a6,decide_eq_false a6,decide_eq_false a6]
  cases (List.range p.Rules.Pairs.length).all (zhq (d7 p).ps)
  ·rfl
  cases (List.range p.Rules.Loads.length).all (zhn (d7 p).ls)
  ·rfl
  cases (List.range p.Rules.Caps.length).all (zg9 (d7 p).cs) <;> rfl
 ·rw [decide_eq_false h];by_cases h1:(4096:Int)<p.Rules.Pairs.length
  ·rw [decide_eq_true h1];rfl
  ·by_cases h2:(1024:Int)<p.Rules.Loads.length
   ·rw [decide_eq_true h2,Bool.or_true];rfl
   ·rw [decide_eq_true (show (1024:Int)<p.Rules.Caps.length by omega),Bool.or_true];rfl
theorem ziT {p:GProblem}{s:Int}:jh p s<0↔¬0≤zhG (d7 p).ds s:=by
 rw [zoo,zib];unfold hasS;rw [List.any_eq_false];have l:(d7 p).ds.length=p.Domains.length:=List.length_map _;constructor
 ·rintro h ⟨i,hi,e⟩;rw [l] at hi;have e1:cH (d7 p).ds i=(cH p.Domains i).b:=jC hi;rw [e1] at e;exact h _ (eF hi) (decide_eq_true e)
 ·intro h x hx hd;obtain ⟨i,hi,rfl⟩:=gW hx;refine h ⟨i,by rw [l];exact hi,?_⟩;have e1:cH (d7 p).ds i=(cH p.Domains i).b:=jC hi;rw [e1];exact of_decide_eq_true hd
theorem znu {p:GProblem}:zcw p=some (eD p):=by
 have l0:(d7 p).ds.length=p.Domains.length:=List.length_map _;have l1:(d7 p).ps.length=p.Rules.Pairs.length:=List.length_map _;have l2:(d7 p).ls.length=p.Rules.Loads.length:=List.length_map _;have l3:(d7 p).cs.length=p.Rules.Caps.length:=List.length_map _;have n0:∀k,k<p.Domains.length→cH (d7 p).ds k=(cH p.Domains k).b:=fun k hk=>jC hk;have n1:∀k,k<p.Rules.Pairs.length→cH (d7 p).ps k=(cH p.Rules.Pairs k).b:=fun k hk=>jC hk;have n2:∀k,k<p.Rules.Loads.length→cH (d7 p).ls k=(cH p.Rules.Loads k).b:=fun k hk=>jC hk;have n3:∀k,k<p.Rules.Caps.length→cH (d7 p).cs k=(cH p.Rules.Caps k).b:=fun k hk=>jC hk;unfold zcw eD;rw [←zlI];simp only [dV,Nat.sub_zero,ziB,Option.bind_some];rw [zck (n:=p.Domains.length) (z:=some false) (zkm (d7 p).ds) (fun i next hi=>?_),zck (n:=p.Rules.Pairs.length) (z:=some false) (zki (d7 p)) (fun i next hi=>?_),zck (n:=p.Rules.Loads.length) (z:=some false) (zkg (d7 p)) (fun i next hi=>?_),zck (n:=p.Rules.Caps.length) (z:=some false) (zkv (d7 p)) (fun i next hi=>?_)]
 ·unfold zkJ;rw [l0,l1,l2,l3];by_cases h:p.Domains.length≤512
  ·rw [decide_eq_true h,decide_eq_false a6]
   cases zgR (d7 p)
   ·rfl
   cases (List.range p.Domains.length).all (zkm (d7 p).ds)
   ·rfl
   cases (List.range p.Rules.Pairs.length).all (zki (d7 p))
   ·rfl
   cases (List.range p.Rules.Loads.length).all (zkg (d7 p))
   ·rfl
   cases (List.range p.Rules.Caps.length).all (zkv (d7 p)) <;> rfl
  ·rw [decide_eq_false h,decide_eq_true a6];rfl
 ·have hr:zkv (d7 p) i= !decide (jh p (cH p.Rules.Caps i).Station<0):=by
   unfold zkv;rw [n3 i hi,Bool.eq_iff_iff,decide_eq_true_eq];simp only [Bool.not_eq_true',decide_eq_false_iff_not,ziT,Decidable.not_not,GCap.b]
  rw [hr]
  cases decide (jh p (cH p.Rules.Caps i).Station<0) <;> rfl
 ·have hr:zkg (d7 p) i=(!decide (jh p (cH p.Rules.Loads i).To<0)&& !decide (jh p (cH p.Rules.Loads i).From<0)):=by
   unfold zkg;rw [n2 i hi,Bool.eq_iff_iff,decide_eq_true_eq];simp only [Bool.and_eq_true,Bool.not_eq_true',decide_eq_false_iff_not,ziT,Decidable.not_not,GLoad.b]
  rw [hr]
  cases decide (jh p (cH p.Rules.Loads i).To<0) <;> cases decide (jh p (cH p.Rules.Loads i).From<0) <;> rfl
 ·have hr:zki (d7 p) i=(!decide (jh p (cH p.Rules.Pairs i).A<0)&& !decide (jh p (cH p.Rules.Pairs i).B<0)):=by
   unfold zki;rw [n1 i hi,Bool.eq_iff_iff,decide_eq_true_eq];simp only [Bool.and_eq_true,Bool.not_eq_true',decide_eq_false_iff_not,ziT,Decidable.not_not,GPair.b]
  rw [hr]
  cases decide (jh p (cH p.Rules.Pairs i).A<0) <;> cases decide (jh p (cH p.Rules.Pairs i).B<0) <;> rfl
 ·rw [zck (n:=(cH p.Domains i).Channels.length) (z:=some false) (ziA (cH p.Domains i).Channels) (fun k nx hk=>?_)]
  ·have hr:zkm (d7 p).ds i=(inB (cH p.Domains i).Station 0 511&&(!(decide (0<(i:Int))&&decide ((cH p.Domains i).Station≤(cH p.Domains (i - 1)).Station))&&(!decide (50<((cH p.Domains i).Channels.length:Int))&&(List.range (cH p.Domains i).Channels.length).all (ziA (cH p.Domains i).Channels)))):=by
    unfold zkm;rw [n0 i hi,n0 (i - 1) a6,Bool.eq_iff_iff,decide_eq_true_eq];simp only [Bool.and_eq_true,Bool.not_eq_true',Bool.and_eq_false_iff,decide_eq_false_iff_not,GDomain.b];constructor
    ·rintro ⟨⟨h1,h2,h3⟩,h4⟩;exact ⟨h1,by rcases Nat.eq_zero_or_pos i with h|h;exact .inl a6;exact .inr (by have:=h2 h;omega),by omega,h4⟩
    ·rintro ⟨h1,h2,h3,h4⟩;exact ⟨⟨h1,fun h=>by omega,by omega⟩,h4⟩
   rw [hr,zcl,zd4]
   cases inB (cH p.Domains i).Station 0 511
   ·rfl
   cases (decide (0<(i:Int))&&decide ((cH p.Domains i).Station≤(cH p.Domains (i - 1)).Station))
   rotate_left
   ·rfl
   cases decide (50<((cH p.Domains i).Channels.length:Int))
   rotate_left
   ·rfl
   rfl
  ·have hr:ziA (cH p.Domains i).Channels k=(!decide (cH (cH p.Domains i).Channels k<2)&&(!decide (51<cH (cH p.Domains i).Channels k)&& !(decide (0<(k:Int))&&decide (cH (cH p.Domains i).Channels k≤cH (cH p.Domains i).Channels (k - 1))))):=by
    unfold ziA;rw [Bool.eq_iff_iff,decide_eq_true_eq];simp only [Bool.and_eq_true,Bool.not_eq_true',Bool.and_eq_false_iff,decide_eq_false_iff_not];omega
   rw [hr,zcl]
   cases decide (cH (cH p.Domains i).Channels k<2)
   rotate_left
   ·rfl
   cases decide (51<cH (cH p.Domains i).Channels k)
   rotate_left
   ·rfl
   cases (decide (0<(k:Int))&&decide (cH (cH p.Domains i).Channels k≤cH (cH p.Domains i).Channels (k - 1))) <;> rfl
theorem znz {p:GProblem}{a b:Int}{fuel:Nat}(hf:1000≤fuel):∃r,zcs fuel p a b=some r:=by
 unfold zcs;simp only [dV];refine zeu (σ:=Int) (I:=fun i=>0≤i∧i≤600) (μ:=fun i=>(600 - i).toNat) (post:=fun o=>∃r,o=some r) ⟨by omega,by omega⟩ a6 ?_;intro i next hi hn;by_cases h1:i<(p.Domains.length:Int) <;> by_cases h2:i<600
 ·rw [decide_eq_true h1,decide_eq_true h2,Bool.and_true,cond_true,fA ⟨hi.1,h1⟩]
  cases decide (60<((cH p.Domains i.toNat).Channels.length:Int))
  ·exact hn _ ⟨by omega,by omega⟩ a6
  ·exact ⟨_,rfl⟩
 ·rw [decide_eq_false h2,Bool.and_false,cond_false];exact ⟨_,rfl⟩
 ·rw [decide_eq_false h1,Bool.false_and,cond_false];exact ⟨_,rfl⟩
 ·rw [decide_eq_false h1,Bool.false_and,cond_false];exact ⟨_,rfl⟩
theorem gu {s c:Int}{x:GDomain}{q:Int}:q∈(iV s c x).Channels↔q∈x.Channels∧(x.Station=s→q=c):=by
 unfold iV;dsimp only;by_cases hs:x.Station=s
 ·rw [decide_eq_true hs,cond_true]
  cases ha:x.Channels.any (fun k=>decide (k=c)) with
  |true=>
   rw [cond_true];obtain ⟨k,hk,he⟩:=List.any_eq_true.1 ha;have:=of_decide_eq_true he;subst this;simp only [List.mem_singleton];exact ⟨fun h=>by subst h;exact ⟨hk,fun _=>rfl⟩,fun h=>h.2 hs⟩
  |false=>
   rw [cond_false];refine ⟨(fun h=>by cases h),fun h=>?_⟩;have:=h.2 hs;subst this;have:=List.any_eq_false.1 ha q h.1;simp at this
 ·rw [decide_eq_false hs,cond_false];exact ⟨fun h=>⟨h,fun h2=>absurd h2 hs⟩,fun h=>h.1⟩
theorem zhZ {s c:Int}{x:GDomain}:(iV s c x).Channels.Sublist x.Channels:=by
 unfold iV;dsimp only
 cases decide (x.Station=s)
 ·exact eN
 ·cases ha:x.Channels.any (fun k=>decide (k=c))
  ·exact List.nil_sublist _
  ·obtain ⟨k,hk,he⟩:=List.any_eq_true.1 ha;have:=of_decide_eq_true he;subst this;exact List.singleton_sublist.2 hk
section
variable {p:GProblem}{a b d:List GDomain}
theorem ni {s c:Int}:SubD (d.map (iV s c)) d∧OrdD (d.map (iV s c)) d:=by
 refine ⟨⟨List.length_map _,fun i hi=>?_⟩,fun i hi=>?_⟩
 ·rw [iz hi];exact ⟨rfl,fun k hk=>(gu.1 hk).1⟩
 ·rw [iz hi];exact zhZ
theorem zma {s c:Int}(h:SubD a b):SubD (a.map (iV s c)) (b.map (iV s c)):=by
 refine ⟨by rw [List.length_map,List.length_map,h.1],fun i hi=>?_⟩;rw [List.length_map] at hi;rw [iz hi,iz (by rw [h.1];exact hi)];have h2:=h.2 i hi;refine ⟨h2.1,fun k hk=>?_⟩;rw [gu] at hk ⊢;exact ⟨h2.2 k hk.1,fun e=>hk.2 (h2.1.trans e)⟩
theorem OrdD.trans {c:List GDomain}(h:OrdD a b)(k:OrdD b c)(hl:b.length=c.length):OrdD a c:=fun i hi=>(h i (by rw [hl];exact hi)).trans (k i hi)
theorem Bd.ord (hb:Bd b)(hl:a.length=b.length)(h:OrdD a b):Bd a:=by
 refine ⟨by rw [hl];exact hb.len,fun x hx=>?_⟩;obtain ⟨i,hi,rfl⟩:=gW hx; (have hi':i<b.length:=by rw [←hl];exact hi);have h2:=hb.ch _ (eF hi');exact ⟨Nat.le_trans (h i hi').length_le h2.1,h2.2.sublist (h i hi')⟩
theorem zdS:∀ {a b:List GDomain},a.length=b.length→OrdD a b→ep a≤ep b
 | [],[],_,_=>Nat.le_refl _
 |x :: r,y :: q,hl,h=>by
  have h0:=(h 0 b2).length_le
  have ih:=zdS (a:=r) (b:=q) (by simpa using hl) (fun i hi=>by
   have:=h (i+1) cE
   simpa [cH] using this)
  simp only [ep,List.map_cons,List.sum_cons] at ih ⊢;have e1:cH (x :: r) 0=x:=rfl;have e2:cH (y :: q) 0=y:=rfl;rw [e1,e2] at h0;omega
theorem PropD.eq {r r':List GDomain×Bool}(hb:Bd d)(h:PropD p d r)(h':PropD p d r'):r=r':=by
 rcases h with ⟨h1,h2,h3,h4⟩|⟨h1,h2⟩
 ·rcases h' with ⟨g1,g2,g3,g4⟩|⟨g1,g2⟩
  ·have e1:=h4 _ g2 g3.1;have e2:=g4 _ h2 h3.1
   have:r.1=r'.1:=by
    refine zd5 (by rw [e2.1]) fun i hi=>?_; (have hi1:i<r'.1.length:=by rw [←e2.1];exact hi); (have hid:i<d.length:=by rw [←h3.1.1];exact hi);have a1:=e1.2 i hi;have a2:=e2.2 i hi1;have hch:(cH r.1 i).Channels=(cH r'.1 i).Channels:=zdl (h3.2 i hid) (g3.2 i hid) (hb.ch _ (eF hid)).2 (fun x=>⟨a2.2 x,a1.2 x⟩)
    cases hx:cH r.1 i with
    |mk s1 c1=>
     cases hy:cH r'.1 i with
     |mk s2 c2=>
      have b1:=a2.1;rw [hx,hy] at b1 hch;simp only at b1 hch;rw [b1,hch]
   exact Prod.ext this (h1.trans g1.symm)
  ·exact absurd h3.1 (g2 _ h2)
 ·rcases h' with ⟨g1,g2,g3,g4⟩|⟨g1,g2⟩
  ·exact absurd g3.1 (h2 _ g2)
  ·rw [h1,g1]
theorem PropD.keep {m r:List GDomain×Bool}{s c:Int}(h:PropD p d m)(hm:m.2=true)(hr:PropD p (m.1.map (iV s c)) r):PropD p (d.map (iV s c)) r:=by
 rcases h with ⟨_,h2,h3,h4⟩|⟨h1,_⟩
 ·have hsup:∀S,ClosedD p S→SubD S (d.map (iV s c))→SubD S (m.1.map (iV s c)):=fun S hS hs=>by
   have h5:=h4 S hS (hs.trans ni.1);refine ⟨by rw [List.length_map];exact h5.1,fun i hi=>?_⟩;rw [List.length_map] at hi; (have hid:i<d.length:=by rw [←h3.1.1];exact hi);rw [iz hi];have h6:=h5.2 i hi;refine ⟨h6.1,fun k hk=>gu.2 ⟨h6.2 k hk,fun e=>?_⟩⟩;have h7:=(hs.2 i (by rw [List.length_map];exact hid)).2 k hk;rw [iz hid] at h7;exact (gu.1 h7).2 (by rw [←(h3.1.2 i hid).1];exact e)
  rcases hr with ⟨g1,g2,g3,g4⟩|⟨g1,g2⟩
  ·refine .inl ⟨g1,g2,⟨g3.1.trans (zma h3.1),fun i hi=>?_⟩,fun S hS hs=>g4 S hS (hsup S hS hs)⟩;rw [List.length_map] at hi; (have hi':i<m.1.length:=by rw [h3.1.1];exact hi);have h8:=g3.2 i (by rw [List.length_map];exact hi');rw [iz hi'] at h8;rw [iz hi];refine h8.trans ?_;have hst:=(h3.1.2 i hi).1;have hsb:=h3.2 i hi;unfold iV;dsimp only;rw [hst]
   cases decide ((cH d i).Station=s)
   ·exact hsb
   ·cases ha:(cH m.1 i).Channels.any (fun k=>decide (k=c))
    ·exact List.nil_sublist _
    ·obtain ⟨k,hk,he⟩:=List.any_eq_true.1 ha;rw [List.any_eq_true.2 ⟨k,hsb.subset hk,he⟩];exact eN
  ·exact .inr ⟨g1,fun S hS hs=>g2 S hS (hsup S hS hs)⟩
 ·rw [h1] at hm;cases hm
theorem PropD.keepBad {m:List GDomain×Bool}{d':List GDomain}(h:PropD p d m)(hm:m.2=false)(hs:SubD d' d):PropD p d' m:=by
 rcases h with ⟨h1,_⟩|⟨h1,h2⟩
 ·rw [h1] at hm;cases hm
 ·exact .inr ⟨h1,fun S hS hh=>h2 S hS (hh.trans hs)⟩
theorem PropD.ord {m:List GDomain×Bool}(h:PropD p d m)(hm:m.2=true):m.1.length=d.length∧OrdD m.1 d:=by
 rcases h with ⟨_,_,h3,_⟩|⟨h1,_⟩
 ·exact ⟨h3.1.1,h3.2⟩
 ·rw [h1] at hm;cases hm
def lO (l:List GChoice)(i:Nat):Bool:=inB (cH l i).Station 0 511&&(inB (cH l i).Channel 2 51&& !(decide (0<(i:Int))&&decide ((cH l i).Station≤(cH l (i - 1)).Station)))
theorem zfy {l:List GChoice}:zaO l=(List.range l.length).all (lO l):=by
 unfold zaO;refine j4 ?_;rw [zda (lO l) (fun i next _=>?_),Bool.and_true];rw [zcl,zd4]
 have e:lO l i=(inB (cH l i).Station 0 511&&(!decide ((cH l i).Channel<2)&&(!decide (51<(cH l i).Channel)&& !(decide (0<(i:Int))&&decide ((cH l i).Station≤(cH l (i - 1)).Station))))):=by
  unfold lO;rw [←Bool.and_assoc (!decide _)]
  congr 1
  congr 1
  unfold inB;by_cases h1:2≤(cH l i).Channel <;> by_cases h2:(cH l i).Channel≤51 <;> simp [h1,h2,Int.not_lt,Int.not_le] <;> omega
 rw [e]
 cases inB (cH l i).Station 0 511 <;> cases decide ((cH l i).Channel<2) <;> cases decide (51<(cH l i).Channel) <;> cases (decide (0<(i:Int))&&decide ((cH l i).Station≤(cH l (i - 1)).Station)) <;> rfl
theorem zof (p:GProblem):(d7 p).er=p:=by
 unfold d7 Pb.er;dsimp only;rw [zeD (g:=Dx.er) (fun _=>rfl),zeD (g:=Pr.er) (fun _=>rfl),zeD (g:=Ld.er) (fun _=>rfl),zeD (g:=Cp.er) (fun _=>rfl)]
theorem ziV {d:List GDomain}{n:Nat}(h:∀x∈d,x.Channels.length≤n):ep d≤d.length*n:=by
 induction d with
 |nil=>simp [ep]
 |cons x r ih=>
  have h1:=h x b2;have h2:=ih (fun y hy=>h y (by simp [hy]));simp only [ep,List.map_cons,List.sum_cons,List.length_cons,Nat.add_mul] at h2 ⊢;omega
theorem zfA (h:eD p=true):WtP p∧Bd p.Domains∧ep p.Domains≤30000∧p.Domains.length≤512:=by
 have hG:=Pb.good h;have hw:=znZ h;rw [zof] at hw;have hl:(d7 p).ds.length=p.Domains.length:=List.length_map _; (have hn:p.Domains.length≤512:=by rw [←hl];exact hG.n)
 have hc:∀x∈p.Domains,x.Channels.length≤52∧x.Channels.Nodup:=fun x hx=>by
  obtain ⟨i,hi,rfl⟩:=gW hx;have e:cH (d7 p).ds i=(cH p.Domains i).b:=jC hi;have h1:=hG.chs _ (eF (show i<(d7 p).ds.length by rw [hl];exact hi));have h2:=zkX h (i:=i) (by rw [hl];exact hi);rw [e] at h1 h2;exact ⟨h1.1,(zew List.nodup_range').sublist h2⟩
 refine ⟨hw,⟨by omega,fun x hx=>⟨by have:=(hc x hx).1;omega,(hc x hx).2⟩⟩,?_,hn⟩;have:=ziV (d:=p.Domains) (n:=52) (fun x hx=>(hc x hx).1);omega
end
structure GG (p:GProblem):Prop where
 n:p.Domains.length≤512
 st:∀x∈p.Domains,0≤x.Station∧x.Station≤511
 chs:∀x∈p.Domains,x.Channels.length≤52∧∀c∈x.Channels,2≤c∧c≤51
 inc:∀i j,i<j→j<p.Domains.length→(cH p.Domains i).Station<(cH p.Domains j).Station
 ps:∀x∈p.Rules.Pairs,(iD p x.A=true∧iD p x.B=true)∧(x.A<x.B∧ -1≤x.Offset∧x.Offset≤1)∧2≤x.Low∧x.Low≤x.High∧x.High≤51
 ls:∀x∈p.Rules.Loads,(iD p x.To=true∧iD p x.From=true)∧(x.To≠x.From∧1≤x.Weight∧x.Weight≤1073741824)∧2≤x.Low∧x.Low≤x.High∧x.High≤51
 cs:∀x∈p.Rules.Caps,iD p x.Station=true∧(0≤x.Max∧x.Max≤1099511627776)∧2≤x.Low∧x.Low≤x.High∧x.High≤51
 lls:p.Rules.Loads.length≤1024
 lps:p.Rules.Pairs.length≤4096
 lcs:p.Rules.Caps.length≤1024
theorem gm {p:GProblem}{s:Int}:iD p s=true↔∃x∈p.Domains,x.Station=s:=by
 unfold iD;rw [List.any_eq_true];simp only [decide_eq_true_eq]
theorem zeV {p:GProblem}(h:eD p=true):GG p:=by
 have hG:=Pb.good h;have hl:(d7 p).ds.length=p.Domains.length:=List.length_map _;have hn:∀i,i<p.Domains.length→cH (d7 p).ds i=(cH p.Domains i).b:=fun i hi=>iz hi
 have hs:∀ {s:Int},(∃i,i<(d7 p).ds.length∧s=(cH (d7 p).ds i).st)→iD p s=true:=fun ⟨i,hi,e⟩=>by
  rw [hl] at hi;rw [hn i hi] at e;exact gm.2 ⟨_,eF hi,e.symm⟩
 refine ⟨by rw [←hl];exact hG.n,fun x hx=>hG.st x.b (List.mem_map.2 ⟨x,hx,rfl⟩),fun x hx=>hG.chs x.b (List.mem_map.2 ⟨x,hx,rfl⟩),fun i j hij hj=>?_,fun x hx=>?_,fun x hx=>?_,fun x hx=>?_,?_,?_,?_⟩
 ·have:=hG.inc i j hij (by rw [hl];exact hj);rw [hn i a6,hn j hj] at this;exact this
 ·obtain ⟨h1,h2,h3⟩:=hG.ps x.b (List.mem_map.2 ⟨x,hx,rfl⟩);simp only [Pr.ok,fe,inB,Bool.and_eq_true,decide_eq_true_eq] at h1;exact ⟨⟨hs h2,hs h3⟩,by show x.A<x.B∧_;exact ⟨h1.2.2.1,h1.2.2.2.1.1,h1.2.2.2.1.2⟩,h1.2.2.2.2.1,h1.2.2.2.2.2.1,h1.2.2.2.2.2.2⟩
 ·obtain ⟨h1,h2,h3⟩:=hG.ls x.b (List.mem_map.2 ⟨x,hx,rfl⟩);simp only [Ld.ok,fe,inB,Bool.and_eq_true,decide_eq_true_eq] at h1;exact ⟨⟨hs h2,hs h3⟩,⟨h1.2.2.1,h1.2.2.2.1.1,h1.2.2.2.1.2⟩,h1.2.2.2.2.1,h1.2.2.2.2.2.1,h1.2.2.2.2.2.2⟩
 ·obtain ⟨h1,h2⟩:=hG.cs x.b (List.mem_map.2 ⟨x,hx,rfl⟩);simp only [Cp.ok,fe,inB,Bool.and_eq_true,decide_eq_true_eq] at h1;exact ⟨hs h2,⟨h1.2.1.1,h1.2.1.2⟩,h1.2.2.1,h1.2.2.2.1,h1.2.2.2.2⟩
 ·have:=hG.lls;have e:(d7 p).ls.length=p.Rules.Loads.length:=List.length_map _;omega
 ·have:=hG.lps;have e:(d7 p).ps.length=p.Rules.Pairs.length:=List.length_map _;omega
 ·have:=hG.lcs;have e:(d7 p).cs.length=p.Rules.Caps.length:=List.length_map _;omega
theorem zdj {σ ρ:Type}{f:Nat→(σ→ρ)→σ→ρ}{k:σ→ρ}{n:Nat}{s:σ}(q:Nat→Bool)(v:Nat→ρ)(hf:∀i next,i<n→f i next s=bif q i then v i else next s):di f k n 0 s=match (List.range n).find? q with|some i=>v i|none=>k s:=by
 have key:∀m i,i+m=n→di f k m i s=match (List.range' i m).find? q with|some i=>v i|none=>k s:=by
  intro m
  induction m with
  |zero=>intro i _;rfl
  |succ m ih=>
   intro i e
   show f i (di f k m (i+1)) s=_
   rw [hf i _ a6,ih (i+1) a6,List.range'_succ,List.find?_cons]
   cases q i <;> rfl
 rw [key n 0 a6,List.range_eq_range']
def mm (l:List GChoice)(n:Int):Int:=match l.find? (fun c=>decide (c.Station=n)) with|some c=>c.Channel|none=>0
theorem zj8 {α:Type}[Inhabited α]{l:List α}{q:α→Bool}:((List.range l.length).find? fun i=>q (cH l i)).map (cH l)=l.find? q:=by
 induction l with
 |nil=>rfl
 |cons x r ih=>
  rw [List.length_cons,List.range_succ_eq_map,List.find?_cons,List.find?_cons];have e:cH (x :: r) 0=x:=rfl;rw [e]
  cases q x with
  |true=>rfl
  |false=>
   show Option.map (cH (x :: r)) (List.find? (fun i=>q (cH (x :: r) i)) ((List.range r.length).map Nat.succ))=r.find? q
   rw [List.find?_map,Option.map_map,←ih]
   congr 1
theorem on_x {l:List GChoice}{n:Int}:mM l n=mm l n:=by
 unfold mM mm;refine j4 ?_;rw [zdj (fun i=>decide ((cH l i).Station=n)) (fun i=>(cH l i).Channel) (fun i next _=>rfl),←zj8 (l:=l) (q:=fun c=>decide (c.Station=n))]
 cases (List.range l.length).find? fun i=>decide ((cH l i).Station=n) <;> rfl
structure ValidL (l:List GChoice):Prop where
 good:∀c∈l,0≤c.Station∧c.Station≤511∧2≤c.Channel∧c.Channel≤51
 inc:∀i j,i<j→j<l.length→(cH l i).Station<(cH l j).Station
theorem ex {l:List GChoice}:(List.range l.length).all (lO l)=true↔ValidL l:=by
 rw [List.all_eq_true];simp only [List.mem_range,lO,inB,Bool.and_eq_true,decide_eq_true_eq,Bool.not_eq_true',Bool.and_eq_false_iff,decide_eq_false_iff_not];constructor
 ·intro h;refine ⟨fun c hc=>?_,fun i j hij hj=>?_⟩
  ·obtain ⟨i,hi,rfl⟩:=gW hc;have:=h i hi;omega
  ·have key:∀m,i+m+1<l.length→(cH l i).Station<(cH l (i+m+1)).Station:=by
    intro m
    induction m with
    |zero=>intro hm;have:=(h (i+1) hm).2.2;rw [show i+1 - 1=i by omega] at this;rw [Nat.add_zero];omega
    |succ m ih=>intro hm;have h1:=ih a6;have:=(h (i+(m+1)+1) hm).2.2;rw [show i+(m+1)+1 - 1=i+m+1 by omega] at this;omega
   have:=key (j - i - 1) a6
   rwa [show i+(j - i - 1)+1=j by omega] at this
 ·intro h i hi;have:=h.good _ (eF hi);refine ⟨by omega,by omega,?_⟩;rcases Nat.eq_zero_or_pos i with h0|h0
  ·subst h0;left;omega
  ·right;have:=h.inc (i - 1) i a6 hi;omega
theorem ValidL.inj {l:List GChoice}(h:ValidL l){a b:GChoice}(ha:a∈l)(hb:b∈l)(e:a.Station=b.Station):a=b:=by
 obtain ⟨i,hi,rfl⟩:=gW ha;obtain ⟨j,hj,rfl⟩:=gW hb;rcases Nat.lt_trichotomy i j with h1|h1|h1
 ·have:=h.inc i j h1 hj;omega
 ·rw [h1]
 ·have:=h.inc j i h1 hi;omega
theorem zmi {l:List GChoice}{n:Int}(h:∀c∈l,c.Station≠n):mm l n=0:=by
 unfold mm;rw [List.find?_eq_none.2 (fun c hc=>by simpa using h c hc)]
def lossP (p:GProblem)(f:Int→Int)(t c:Int):Int:=p.Rules.Loads.foldl (fun n x=>bif decide (x.To=t)&&decide (f x.From=c)&&decide (x.Low≤c)&&decide (c≤x.High) then wI (n+x.Weight) else n) 0
def brP (f:Int→Int)(x:GPair):Bool:=decide (¬f x.A=0)&&decide (¬f x.B=0)&&decide (x.Low≤f x.A)&&decide (f x.A≤x.High)&&decide (f x.B=wI (f x.A+x.Offset))
def brC (p:GProblem)(f:Int→Int)(x:GCap):Bool:=decide (¬f x.Station=0)&&decide (x.Low≤f x.Station)&&decide (f x.Station≤x.High)&&decide (x.Max<lossP p f x.Station (f x.Station))
def orV (k:Int)(o:Option Nat)(r:GViolation):GViolation:=match o with
 |some i=>⟨k,(i:Int)⟩
 |none=>r
structure FineP (p:GProblem) (l:List GChoice):Prop where
 val:ValidL l
 dom:∀x∈p.Domains,mm l x.Station∈x.Channels∧mm l x.Station≠0
 own:∀c∈l,iD p c.Station=true
 pr:∀x∈p.Rules.Pairs,brP (mm l) x=false
 cp:∀x∈p.Rules.Caps,brC p (mm l) x=false
def sing (d:List GDomain)(f:Int→Int):List GDomain:=d.map fun x=>⟨x.Station,[f x.Station]⟩
section
variable {p:GProblem}{f:Int→Int}
end
theorem zlL (n:Nat):zbT (n+100000)=some true:=by kernel_rfl
theorem zlN {fuel:Nat}(hf:100000≤fuel):zbT fuel=some true:=by
 obtain ⟨n,rfl⟩:∃n,fuel=n+100000:=⟨fuel - 100000,by omega⟩;exact zlL n
theorem zej {l:List GChoice}:kE l=(List.range l.length).all (lO l):=by
 unfold kE;refine j4 ?_;rw [zda (lO l) (fun i next _=>?_),Bool.and_true];rw [zcl];unfold lO
 show (bif !(inB (cH l i).Station 0 511)|| !(inB (cH l i).Channel 2 51) then false else _)=_
 cases inB (cH l i).Station 0 511 <;> cases inB (cH l i).Channel 2 51 <;> cases (decide (0<(i:Int))&&decide ((cH l i).Station≤(cH l (i - 1)).Station)) <;> rfl
theorem zgN (s:List Int)(v:Int):mZ s v=s.any fun x=>decide (x=v):=by
 have e:zaP s v=match (List.range s.length).find? (fun i=>decide (v=cH s i)) with|some i=>(i:Int)|none=> -1:=by
  unfold zaP;refine j4 ?_;rw [zdj (fun i=>decide (v=cH s i)) (fun i=>(i:Int)) (fun i next _=>rfl)]
  all_goals (cases (List.range s.length).find? fun i=>decide (v=cH s i) <;> rfl)
 unfold mZ;rw [e,Bool.eq_iff_iff,List.any_eq_true]
 cases h:(List.range s.length).find? fun i=>decide (v=cH s i) with
 |none=>
  have h2:=List.find?_eq_none.1 h;constructor
  ·intro h3;exact absurd (of_decide_eq_true h3) a7
  ·rintro ⟨x,hx,h3⟩;obtain ⟨i,hi,rfl⟩:=gW hx;exact absurd (decide_eq_true (of_decide_eq_true h3).symm) (h2 i (List.mem_range.2 hi))
 |some i=>
  have h2:=List.find?_some h;have h3:=List.mem_range.1 (List.mem_of_find?_eq_some h);constructor
  ·intro _;exact ⟨cH s i,eF h3,decide_eq_true (of_decide_eq_true h2).symm⟩
  ·intro _;exact decide_eq_true (show (0:Int)≤(i:Int) by omega)
def eu (l:List GDomain)(i:Int):Int:=((cH l i.toNat).Channels.length:Int)
def stB (l:List GDomain)(i:Nat)(b:Int):Int:=if b<0∨(1<eu l i∧(eu l b≤1∨eu l i<eu l b)) then (i:Int) else b
def stA (l:List GDomain)(i:Nat)(a:Int):Int:=if 1<eu l i∧(a<0∨eu l i<eu l a) then (i:Int) else a
def lE (l:List GDomain)(n:Nat):Int:=(List.range n).foldl (fun s i=>stB l i s) (-1)
def jo (l:List GDomain)(n:Nat):Int:=(List.range n).foldl (fun s i=>stA l i s) (-1)
theorem zm5 (l : List GDomain) : ∀ m, (jo l m = -1 ∧ (m = 0 ∧ lE l m = -1 ∨ 0 ≤ lE l m ∧ lE l m < m ∧ eu l (lE l m) ≤ 1)) ∨ (jo l m = lE l m ∧ 0 ≤ lE l m ∧ lE l m < m ∧ 1 < eu l (lE l m))
  | 0 => .inl ⟨rfl, .inl ⟨rfl, rfl⟩⟩
  | m + 1 => by
    have ih := zm5 l m; (have ea : jo l (m + 1) = stA l m (jo l m) := by unfold jo; rw [List.range_succ, List.foldl_append]; rfl); (have eb : lE l (m + 1) = stB l m (lE l m) := by unfold lE; rw [List.range_succ, List.foldl_append]; rfl); rw [ea, eb]; generalize jo l m = a at *; generalize lE l m = b at *; unfold stA stB; have e0 : eu l (m : Int) = eu l m := rfl; rcases ih with ⟨rfl, h⟩ | ⟨rfl, h1, h2, h3⟩
    · by_cases h1 : 1 < eu l m
      · rw [if_pos ⟨h1, .inl a7⟩]
        have : b < 0 ∨ (1 < eu l m ∧ (eu l b ≤ 1 ∨ eu l m < eu l b)) := by
          rcases h with ⟨_, rfl⟩ | ⟨_, _, h⟩
          · exact .inl a7
          · exact .inr ⟨h1, .inl h⟩
        rw [if_pos this]; exact .inr ⟨rfl, by omega, by omega, h1⟩
      · rw [if_neg (fun h => h1 h.1)];refine .inl ⟨rfl, .inr ?_⟩; rcases h with ⟨rfl, rfl⟩ | ⟨h2, h3, h4⟩
        · rw [if_pos (.inl a7)]; exact ⟨by omega, by omega, by omega⟩
        · rw [if_neg (by rintro (h | h); · omega
                         · exact h1 h.1)]
          exact ⟨h2, by omega, h4⟩
    · by_cases h4 : 1 < eu l m ∧ eu l m < eu l a
      · rw [if_pos ⟨h4.1, .inr h4.2⟩, if_pos (.inr ⟨h4.1, .inr h4.2⟩)]; exact .inr ⟨rfl, by omega, by omega, h4.1⟩
      · rw [if_neg (by rintro ⟨h5, h6 | h6⟩; · omega
                       · exact h4 ⟨h5, h6⟩), if_neg (by rintro (h5 | ⟨h5, h6 | h6⟩); · omega
                                                        · omega
                                                        · exact h4 ⟨h5, h6⟩)]
        exact .inr ⟨rfl, h1, by omega, h3⟩
theorem znD (l : List GDomain) : zaD l = some (lE l l.length) := by
  unfold zaD;simp only [dV, Nat.sub_zero]; refine (zde (fun (i : Nat) (s : Int) => -1 ≤ s ∧ s < (i : Int)) (fun (i : Nat) (s : Int) => stB l i s) ⟨by decide, by decide⟩ (fun i s hi hs => ?_) (fun i next s hi hs => ?_)).1
  · unfold stB; split <;> omega
  · unfold stB; by_cases h : s < 0
    · rw [decide_eq_true h, cond_true, cond_true, if_pos (.inl h)]
    · rw [decide_eq_false h, cond_false, fA ⟨by omega, by omega⟩]
      have e : za9 (cH l i) (cH l s.toNat) = decide (1 < eu l i ∧ (eu l s ≤ 1 ∨ eu l i < eu l s)) := by
        unfold za9 eu; by_cases h1 : 1 < ((cH l i).Channels.length : Int) <;> by_cases h2 : ((cH l s.toNat).Channels.length : Int) ≤ 1 <;> by_cases h3 : ((cH l i).Channels.length : Int) < ((cH l s.toNat).Channels.length : Int) <;> simp [h1, h2, h3, dV]
      rw [e]; by_cases h4 : 1 < eu l i ∧ (eu l s ≤ 1 ∨ eu l i < eu l s)
      · rw [decide_eq_true h4, cond_true, if_pos (.inr h4)]
      · rw [decide_eq_false h4, cond_false, if_neg (by rintro (h5 | h5); · exact h h5
                                                       · exact h4 h5)]
theorem znf (l:List GDomain):∀m,jo l m<0→∀i:Nat,i<m→eu l i≤1
 |0,_,i,hi=>absurd hi (Nat.not_lt_zero i)
 |m+1,h,i,hi=>by
  (have ea:jo l (m+1)=stA l m (jo l m):=by unfold jo;rw [List.range_succ,List.foldl_append];rfl);rw [ea] at h;unfold stA at h;by_cases h1:1<eu l m∧(jo l m<0∨eu l m<eu l (jo l m))
  ·rw [if_pos h1] at h;omega
  ·rw [if_neg h1] at h;rcases Nat.lt_or_ge i m with h2|h2
   ·exact znf l m h i h2
   ·(obtain rfl:i=m:=by omega);exact Int.not_lt.1 fun h3=>h1 ⟨h3, .inl h⟩
theorem zhg {l : List GDomain} {hints : List GChoice} (hok : eD ⟨l, ⟨[], [], []⟩⟩ = true) (hv : ValidL hints) :
    (∃ c, nf l hints = some (c, true) ∧ za5 l hints = some (c, 0) ∧ ∃ x ∈ l, c.Station = x.Station ∧ c.Channel ∈ x.Channels ∧ 1 < x.Channels.length ∧ ∀ h ∈ hints, h.Station = x.Station → h.Channel ∈ x.Channels → c = h) ∨ (nf l hints = some (⟨0, 0⟩, false) ∧ za5 l hints = some (⟨0, 0⟩, 9) ∧ ∀ x ∈ l, x.Channels.length ≤ 1) := by
  have hg := zeV hok
  have hp : kE hints = true := by
    rw [zej]; exact ex.2 hv
  have hinv := zm5 l l.length
  have hall : jo l l.length < 0 → ∀ x ∈ l, x.Channels.length ≤ 1 := fun h x hx => by
    obtain ⟨i, hi, rfl⟩ := gW hx; have h1 := znf l _ h i hi; have h2 : ((cH l i).Channels.length : Int) ≤ 1 := h1; omega
  have hR : nf l hints = (bif decide (jo l l.length < 0) then some ((GChoice.mk 0 0), false) else
      em (0 ≤ jo l l.length ∧ jo l l.length < (l.length : Int)) <|
      (bif !(zb5 ((cH l (jo l l.length).toNat).Channels) (mM hints ((cH l (jo l l.length).toNat).Station))) then
        em (0 ≤ 0 ∧ 0 < (((cH l (jo l l.length).toNat).Channels).length : Int)) <|
        some ((GChoice.mk ((cH l (jo l l.length).toNat).Station) (cH ((cH l (jo l l.length).toNat).Channels) 0)), true)
        else
        some ((GChoice.mk ((cH l (jo l l.length).toNat).Station) (mM hints ((cH l (jo l l.length).toNat).Station))), true))) := by
    unfold nf;simp only [dV, Nat.sub_zero]; refine (zde (fun (i : Nat) (s : Int) => -1 ≤ s ∧ s < (i : Int)) (fun (i : Nat) (s : Int) => stA l i s) ⟨by decide, by decide⟩ (fun i s hi hs => ?_) (fun i next s hi hs => ?_)).1
    · unfold stA; split <;> omega
    · unfold stA; by_cases h1 : 1 < eu l i
      · have h1' : 1 < ((cH l i).Channels.length : Int) := h1; rw [decide_eq_true h1', cond_true]; by_cases h : s < 0
        · rw [decide_eq_true h, cond_true, cond_true, if_pos ⟨h1, .inl h⟩]
        · rw [decide_eq_false h, cond_false, fA ⟨by omega, by omega⟩]; by_cases h2 : eu l i < eu l s
          · have h2' : ((cH l i).Channels.length : Int) < ((cH l s.toNat).Channels.length : Int) := h2; rw [decide_eq_true h2', cond_true, if_pos ⟨h1, .inr h2⟩]
          · have h2' : ¬ ((cH l i).Channels.length : Int) < ((cH l s.toNat).Channels.length : Int) := h2
            rw [decide_eq_false h2', cond_false, if_neg (by rintro ⟨_, h3 | h3⟩; · exact h h3
                                                            · exact h2 h3)]
      · have h1' : ¬ 1 < ((cH l i).Channels.length : Int) := h1; rw [decide_eq_false h1', cond_false, cond_false, if_neg (fun h => h1 h.1)]
  rw [hR]; unfold za5; rw [hok, hp, znD, Bool.not_true, Bool.or_false, cond_false, Option.bind_some];simp only [dV, Nat.sub_zero]; generalize jo l l.length = a at *; generalize lE l l.length = b at *; rcases hinv with ⟨rfl, h⟩ | ⟨rfl, h1, h2, h3⟩
  · right;refine ⟨rfl, ?_, hall a6⟩; rcases h with ⟨_, rfl⟩ | ⟨h1, h2, h3⟩
    · rfl
    · have h3' : ((cH l b.toNat).Channels.length : Int) ≤ 1 := h3; rw [decide_eq_false a6, cond_false, fA ⟨h1, h2⟩, decide_eq_true h3']; rfl
  · left; (have h3' : ¬ ((cH l a.toNat).Channels.length : Int) ≤ 1 := by have : 1 < ((cH l a.toNat).Channels.length : Int) := h3; omega); (have h4 : 0 < ((cH l a.toNat).Channels.length : Int) := by omega); have g1 : 0 ≤ a ∧ a < (l.length : Int) := ⟨h1, h2⟩; have hd : cH l a.toNat ∈ l := eF a6; have hch := (hg.chs (cH l a.toNat) hd).2; rw [decide_eq_false (show ¬ a < 0 by omega), cond_false, cond_false, fA ⟨h1, h2⟩, decide_eq_false h3', cond_false, fA ⟨by omega, h4⟩, on_x, zoD]; generalize cH l a.toNat = d at *; rw [zdj (fun i => (decide ((cH hints i).Station = d.Station) && mZ d.Channels (cH hints i).Channel)) (fun i => some (cH hints i, 0)) (fun i next _ => rfl)]; by_cases hex : ∃ h ∈ hints, h.Station = d.Station
    · obtain ⟨h, hh, hst⟩ := hex
      have hon : mm hints d.Station = h.Channel := by
        unfold mm
        cases hf : hints.find? (fun c => decide (c.Station = d.Station)) with
        | none => exact absurd (decide_eq_true hst) (List.find?_eq_none.1 hf h hh)
        | some c =>
          have e0 := List.find?_some hf; have e1 := of_decide_eq_true e0; rw [hv.inj (List.mem_of_find?_eq_some hf) hh a6]
      rw [hon]
      cases hc : d.Channels.any fun k => decide (k = h.Channel) with
      | true =>
        cases hf : (List.range hints.length).find? fun i => (decide ((cH hints i).Station = d.Station) && mZ d.Channels (cH hints i).Channel) with
        | none =>
          obtain ⟨i, hi, rfl⟩ := gW hh; have := List.find?_eq_none.1 hf i (List.mem_range.2 hi); rw [decide_eq_true hst, zgN, hc] at this; exact absurd rfl this
        | some i =>
          have e1 := List.find?_some hf; have hi := List.mem_range.1 (List.mem_of_find?_eq_some hf); rw [Bool.and_eq_true, decide_eq_true_eq] at e1; have e2 : cH hints i = h := hv.inj (eF hi) hh a6
          refine ⟨⟨d.Station, h.Channel⟩, rfl, ?_, d, hd, rfl, (by
            obtain ⟨k, hk, h6⟩ := List.any_eq_true.1 hc
            rw [← of_decide_eq_true h6]; exact hk), by omega, fun h' hh' e' _ => by
              rw [hv.inj hh' hh a6, ← hst]⟩
          repeat rw [fA g1]
          rw [fA ⟨by omega, h4⟩]
          show some (cH hints i, (0 : Int)) = _
          rw [e2, ← hst]
      | false =>
        have hf : ((List.range hints.length).find? fun i => (decide ((cH hints i).Station = d.Station) && mZ d.Channels (cH hints i).Channel)) = none := by
          refine List.find?_eq_none.2 fun i hi => ?_; rw [Bool.and_eq_true, decide_eq_true_eq]; rintro ⟨e1, e2⟩; have e3 : cH hints i = h := hv.inj (eF (List.mem_range.1 hi)) hh a6; rw [zgN, e3, hc] at e2; cases e2
        rw [hf]
        refine ⟨_, rfl, ?_, d, hd, rfl, eF a6, by omega, fun h' hh' e' hm => by
          rw [hv.inj hh' hh a6] at hm
          exact absurd (List.any_eq_true.2 ⟨_, hm, decide_eq_true rfl⟩) (by rw [hc]; decide)⟩
        repeat rw [fA g1]
        rw [fA ⟨by omega, h4⟩]
    · have hon : mm hints d.Station = 0 := zmi fun c hc e => hex ⟨c, hc, e⟩
      have hno : (d.Channels.any fun k => decide (k = 0)) = false := by
        rw [Bool.eq_false_iff]; intro h5; obtain ⟨k, hk, h6⟩ := List.any_eq_true.1 h5; have := hch k hk; have := of_decide_eq_true h6; omega
      have hf : ((List.range hints.length).find? fun i => (decide ((cH hints i).Station = d.Station) && mZ d.Channels (cH hints i).Channel)) = none := by
        refine List.find?_eq_none.2 fun i hi => ?_; rw [Bool.and_eq_true, decide_eq_true_eq]; rintro ⟨e1, _⟩; exact hex ⟨_, eF (List.mem_range.1 hi), e1⟩
      rw [hon, hno, hf];refine ⟨_, rfl, ?_, d, hd, rfl, eF a6, by omega, fun h' hh' e' _ => absurd ⟨h', hh', e'⟩ hex⟩
      repeat rw [fA g1]
      rw [fA ⟨by omega, h4⟩]
structure FiltD (f:GDomain→GDomain) (φ:Int→Int→Prop):Prop where
 st:∀x,(f x).Station=x.Station
 mem:∀x q,q∈(f x).Channels↔q∈x.Channels∧φ x.Station q
 sub:∀x,(f x).Channels.Sublist x.Channels
 mono:∀x y,x.Station=y.Station→x.Channels.Sublist y.Channels→(f x).Channels.Sublist (f y).Channels
theorem nl:FiltD id (fun _ _=>True):=⟨fun _=>rfl,fun _ _=>by simp,fun _=>List.Sublist.refl _,fun _ _ _ h=>h⟩
theorem FiltD.keep (s c:Int):FiltD (iV s c) (fun t q=>t=s→q=c):=by
 refine ⟨fun _=>rfl,fun _ _=>gu,fun _=>zhZ,fun x y hst hsb=>?_⟩;unfold iV;dsimp only;rw [hst]
 cases decide (y.Station=s)
 ·exact hsb
 ·cases ha:x.Channels.any (fun k=>decide (k=c))
  ·exact List.nil_sublist _
  ·obtain ⟨k,hk,he⟩:=List.any_eq_true.1 ha;rw [List.any_eq_true.2 ⟨k,hsb.subset hk,he⟩];exact eN
theorem FiltD.drop (s c:Int):FiltD (i8 s c) (fun t q=>¬t=s∨¬q=c):=by
 refine ⟨fun _=>rfl,fun x q=>?_,fun _=>List.filter_sublist,fun x y hst hsb=>?_⟩
 ·unfold i8;simp only [List.mem_filter,Bool.or_eq_true,decide_eq_true_eq]
 ·unfold i8;dsimp only;rw [hst];exact hsb.filter _
section
variable {p:GProblem}{a b d:List GDomain}{f:GDomain→GDomain}{φ:Int→Int→Prop}
theorem FiltD.subD (h:FiltD f φ):SubD (d.map f) d∧OrdD (d.map f) d:=by
 refine ⟨⟨List.length_map _,fun i hi=>?_⟩,fun i hi=>?_⟩
 ·rw [iz hi];exact ⟨h.st _,fun c hc=>((h.mem _ _).1 hc).1⟩
 ·rw [iz hi];exact h.sub _
theorem FiltD.monoD (h:FiltD f φ)(hs:SubD a b):SubD (a.map f) (b.map f):=by
 refine ⟨by rw [List.length_map,List.length_map];exact hs.1,fun i hi=>?_⟩;rw [List.length_map] at hi;rw [iz hi,iz (by rw [hs.1];exact hi)];have h2:=hs.2 i hi;refine ⟨by rw [h.st,h.st];exact h2.1,fun c hc=>?_⟩;have h3:=(h.mem _ _).1 hc;exact (h.mem _ _).2 ⟨h2.2 c h3.1,by rw [←h2.1];exact h3.2⟩
theorem lk {m r:List GDomain×Bool}(hf:FiltD f φ)(h:PropD p d m)(hm:m.2=true)(hr:PropD p (m.1.map f) r):PropD p (d.map f) r:=by
 rcases h with ⟨_,h2,h3,h4⟩|⟨h1,_⟩
 ·have hsup:∀S,ClosedD p S→SubD S (d.map f)→SubD S (m.1.map f):=fun S hS hs=>by
   have h5:=h4 S hS (hs.trans hf.subD.1);refine ⟨by rw [List.length_map];exact h5.1,fun i hi=>?_⟩;rw [List.length_map] at hi; (have hid:i<d.length:=by rw [←h3.1.1];exact hi);rw [iz hi];have h6:=h5.2 i hi;refine ⟨by rw [hf.st];exact h6.1,fun k hk=>(hf.mem _ _).2 ⟨h6.2 k hk,?_⟩⟩;have h7:=(hs.2 i (by rw [List.length_map];exact hid)).2 k hk;rw [iz hid] at h7;rw [(h3.1.2 i hid).1];exact ((hf.mem _ _).1 h7).2
  rcases hr with ⟨g1,g2,g3,g4⟩|⟨g1,g2⟩
  ·refine .inl ⟨g1,g2,⟨g3.1.trans (hf.monoD h3.1),fun i hi=>?_⟩,fun S hS hs=>g4 S hS (hsup S hS hs)⟩;rw [List.length_map] at hi; (have hi':i<m.1.length:=by rw [h3.1.1];exact hi);have h8:=g3.2 i (by rw [List.length_map];exact hi');rw [iz hi'] at h8;rw [iz hi];exact h8.trans (hf.mono _ _ (h3.1.2 i hi).1 (h3.2 i hi))
  ·exact .inr ⟨g1,fun S hS hs=>g2 S hS (hsup S hS hs)⟩
 ·rw [h1] at hm;cases hm
def fV (keep:Bool)(c:GChoice):GDomain→GDomain:=bif j9 c then (bif keep then iV c.Station c.Channel else i8 c.Station c.Channel) else id
def actQ (keep:Bool)(c:GChoice)(s q:Int):Prop:=j9 c=true→s=c.Station→(q=c.Channel↔keep=true)
theorem zeo (keep:Bool)(c:GChoice):FiltD (fV keep c) (actQ keep c):=by
 have key:∀ {φ ψ:Int→Int→Prop} {f:GDomain→GDomain},FiltD f φ→(∀s q,φ s q↔ψ s q)→FiltD f ψ:=fun h k=>⟨h.st,fun x q=>by rw [h.mem,k],h.sub,h.mono⟩;unfold fV actQ
 cases j9 c
 ·exact key nl (fun s q=>by simp)
 ·cases keep
  ·exact key (FiltD.drop _ _) (fun s q=>by simp;constructor <;> intro h <;> by_cases e:s=c.Station <;> simp_all)
  ·exact key (FiltD.keep _ _) (fun s q=>by simp)
theorem zl6 {fuel:Nat}(hf:100000≤fuel)(hok:eD p=true)(hd:SubD d p.Domains∧OrdD d p.Domains){m:List GDomain×Bool}(h:PropD p d m)(keep:Bool)(c:GChoice):∃r,mA fuel p m keep c=some (r,bif !j9 c then 2 else bif !m.2 then 8 else bif !iD p c.Station then 9 else 0)∧PropD p (d.map (fV keep c)) r:=by
 obtain ⟨hw,hbd,ht,hn⟩:=zfA hok;unfold mA
 cases hg:j9 c
 ·refine ⟨m,rfl,?_⟩; (have e:fV keep c=id:=by unfold fV;rw [hg];rfl);rw [e,List.map_id];exact h
 ·cases hm:m.2
  ·exact ⟨m,rfl,h.keepBad hm (zeo keep c).subD.1⟩
  ·cases hh:iD p c.Station
   ·refine ⟨m,rfl,?_⟩
    have e:d.map (fV keep c)=d:=by
     refine (List.map_congr_left (g:=id) fun x hx=>?_).trans (List.map_id _);obtain ⟨i,hi,rfl⟩:=gW hx; (have hi':i<p.Domains.length:=by rw [←hd.1.1];exact hi)
     have hne:¬(cH d i).Station=c.Station:=by
      rw [(hd.1.2 i hi').1];intro e;have:iD p c.Station=true:=List.any_eq_true.2 ⟨_,eF hi',by simpa using e⟩;rw [hh] at this;cases this
     unfold fV;rw [hg,cond_true]
     cases keep
     ·show i8 _ _ _=_
      unfold i8;have:(cH d i).Channels.filter (fun k=>decide (¬(cH d i).Station=c.Station)||decide (¬k=c.Channel))=(cH d i).Channels:=List.filter_eq_self.2 (fun k _=>by simp [hne]);rw [this];rfl
     ·show iV _ _ _=_
      unfold iV;rw [decide_eq_false hne];rfl
    rw [e];exact h
   ·have ho:=h.ord hm;have hol:=ho.2.trans hd.2 hd.1.1;have hlen:m.1.length=p.Domains.length:=ho.1.trans hd.1.1;have hb1:=hbd.ord hlen hol;have ht1:=zdS hlen hol;have hs:=(zeo keep c).subD (d:=m.1);have hb2:=hb1.ord hs.1.1 hs.2;have ht2:=zdS hs.1.1 hs.2;obtain ⟨r,h5,h6⟩:=zeK (fuel:=fuel) hw hb2 (by rw [hs.1.1];omega) a6;refine ⟨r,?_,lk (zeo keep c) h hm h6⟩
    have e:(bif keep then zbp m.1 c.Station c.Channel else mP m.1 c.Station c.Channel)=some (m.1.map (fV keep c)):=by
     unfold fV;rw [hg]
     cases keep
     ·exact zkP hb1.len (fun x hx=>(hb1.ch x hx).1)
     ·exact zlz hb1.len (fun x hx=>(hb1.ch x hx).1)
    simp only [Bool.not_true,cond_false];rw [e,Option.bind_some,h5];rfl
end
theorem zfD {l:List GChoice}:kE l=(List.range l.length).all (lO l):=by
 unfold kE;refine j4 ?_;rw [zda (lO l) (fun i next _=>?_),Bool.and_true];rw [zcl];unfold lO
 show (bif !(inB (cH l i).Station 0 511)|| !(inB (cH l i).Channel 2 51) then false else _)=_
 cases inB (cH l i).Station 0 511 <;> cases inB (cH l i).Channel 2 51 <;> cases (decide (0<(i:Int))&&decide ((cH l i).Station≤(cH l (i - 1)).Station)) <;> rfl
def l4 (p:GProblem)(i:Nat)(n b:Nat):Prop:=∃j,j<i∧(cH p.Domains j).Station=(n:Int)∧(b=0∨(b:Int)∈(cH p.Domains j).Channels)
theorem znp {c b:Nat}(hc:c<64):((1#64) <<< c).getLsbD b=decide (b=c):=by
 rw [BitVec.getLsbD_shiftLeft];by_cases h:b=c
 ·subst h;simp [hc]
 ·by_cases h1:b<c
  ·simp [h1,h]
  ·(have:b - c≠0:=by omega);rw [decide_eq_false h];by_cases h2:b<64
   ·have e:(1#64).getLsbD (b - c)=false:=by
     rw [BitVec.getLsbD_one];simp;omega
    rw [e,Bool.and_false]
   ·simp [h2]
theorem zll {p:GProblem}(hG:GG p):∃v,zbZ p=some v∧∀n b,n<512→b<64→((Vec.get v n).getLsbD b=true↔l4 p p.Domains.length n b):=by
 unfold zbZ;refine j4 ?_;refine kO (fun i (c:Vec 512 (BitVec 64))=>∀n b,n<512→b<64→((Vec.get c n).getLsbD b=true↔l4 p i n b)) (fun o=>∃v:Vec 512 (BitVec 64),o=some v∧∀n b,n<512→b<64→((Vec.get v n).getLsbD b=true↔l4 p p.Domains.length n b)) ?_ (fun v hv=>⟨v,rfl,hv⟩) (fun i c next hi hc hn=>?_)
 ·intro n b hn hb;rw [iP hn];constructor
  ·intro h;simp at h
  ·rintro ⟨j,hj,_⟩;omega
 have hs:=hG.st _ (eF hi);have hch:=hG.chs _ (eF hi);rw [fA a6]; (have hlt:(cH p.Domains i).Station.toNat<512:=by omega);refine kO (fun k (e:Vec 512 (BitVec 64))=>∀n b,n<512→b<64→((Vec.get e n).getLsbD b=true↔l4 p i n b∨((cH p.Domains i).Station=(n:Int)∧(b=0∨∃q,q<k∧cH (cH p.Domains i).Channels q=(b:Int))))) (fun o=>∃v:Vec 512 (BitVec 64),o=some v∧∀n b,n<512→b<64→((Vec.get v n).getLsbD b=true↔l4 p p.Domains.length n b)) ?_ (fun e he=>hn e fun n b h1 h2=>?_) (fun k e next' hk he hn'=>?_)
 ·intro n b h1 h2;rw [fX hlt];by_cases e:n=(cH p.Domains i).Station.toNat
  ·rw [if_pos e,BitVec.getLsbD_one]; (have e':(cH p.Domains i).Station=(n:Int):=by omega);constructor
   ·intro h;simp at h;exact .inr ⟨e', .inl h⟩
   ·rintro (⟨j,hj,h3,_⟩|⟨_,h3|⟨q,hq,_⟩⟩)
    ·have:=hG.inc j i hj hi;omega
    ·simp [h3]
    ·omega
  ·rw [if_neg e,hc n b h1 h2]; (have e':¬(cH p.Domains i).Station=(n:Int):=by omega);simp [e']
 ·rw [he n b h1 h2];constructor
  ·rintro (⟨j,hj,h3⟩|⟨h3,h4⟩)
   ·exact ⟨j,by omega,h3⟩
   ·refine ⟨i,by omega,h3,h4.imp id ?_⟩;rintro ⟨q,hq,e⟩;rw [←e];exact eF hq
  ·rintro ⟨j,hj,h3,h4⟩;rcases Nat.lt_or_ge j i with h5|h5
   ·exact .inl ⟨j,h5,h3,h4⟩
   ·(obtain rfl:j=i:=by omega);refine .inr ⟨h3,h4.imp id fun h=>?_⟩;obtain ⟨q,hq,e⟩:=gW h;exact ⟨q,hq,e⟩
 ·have hc2:=hch.2 _ (eF hk);rw [fA a6];refine hn' _ fun n b h1 h2=>?_;rw [fX hlt];by_cases e:n=(cH p.Domains i).Station.toNat
  ·(have e':(cH p.Domains i).Station=(n:Int):=by omega);rw [if_pos e,BitVec.getLsbD_or,znp a6,Bool.or_eq_true,decide_eq_true_eq,←e,he n b h1 h2];constructor
   ·rintro ((h3|⟨h3,h4|⟨q,hq,h5⟩⟩)|h3)
    ·exact .inl h3
    ·exact .inr ⟨e', .inl h4⟩
    ·exact .inr ⟨e', .inr ⟨q,by omega,h5⟩⟩
    ·exact .inr ⟨e', .inr ⟨k,by omega,by omega⟩⟩
   ·rintro (h3|⟨h3,h4|⟨q,hq,h5⟩⟩)
    ·exact .inl (.inl h3)
    ·exact .inl (.inr ⟨e', .inl h4⟩)
    ·rcases Nat.lt_or_ge q k with h6|h6
     ·exact .inl (.inr ⟨e', .inr ⟨q,h6,h5⟩⟩)
     ·(obtain rfl:q=k:=by omega);exact .inr a6
  ·(have e':¬(cH p.Domains i).Station=(n:Int):=by omega);rw [if_neg e,he n b h1 h2];simp [e']
def TabN (p:GProblem)(v:Vec 512 (BitVec 64)):Prop:=∀n b,n<512→b<64→((Vec.get v n).getLsbD b=true↔l4 p p.Domains.length n b)
theorem TabN.zero {p:GProblem}{v:Vec 512 (BitVec 64)}(hG:GG p)(h:TabN p v){s:Int}(h0:0≤s∧s≤511):decide (((Vec.get v s.toNat).toNat:Int)=((0#64).toNat:Int))= !iD p s:=by
 have key:iD p s=true↔(Vec.get v s.toNat).getLsbD 0=true:=by
  rw [h _ _ a6 a6,gm];constructor
  ·rintro ⟨x,hx,e⟩;obtain ⟨j,hj,rfl⟩:=gW hx;exact ⟨j,hj,by omega, .inl rfl⟩
  ·rintro ⟨j,hj,e,_⟩;exact ⟨_,eF hj,by omega⟩
 have none:iD p s=false→∀b,b<64→(Vec.get v s.toNat).getLsbD b=false:=fun hf b hb=>by
  cases hg:(Vec.get v s.toNat).getLsbD b with
  |false=>rfl
  |true=>
   obtain ⟨j,hj,e,_⟩:=(h _ _ a6 hb).1 hg;have:iD p s=true:=gm.2 ⟨_,eF hj,by omega⟩;rw [hf] at this;cases this
 cases hh:iD p s with
 |true=>
  refine decide_eq_false fun e=>?_;have h1:=key.1 hh;have e2:Vec.get v s.toNat=0#64:=BitVec.eq_of_toNat_eq a6;rw [e2] at h1;simp at h1
 |false=>
  refine decide_eq_true ?_; (have e2:Vec.get v s.toNat=0#64:=BitVec.eq_of_getLsbD_eq fun b hb=>by rw [none hh b hb];simp);rw [e2]
def mI (p:GProblem)(s c:Int):Bool:=p.Domains.any fun x=>decide (x.Station=s)&&x.Channels.any fun k=>decide (k=c)
theorem i5 {p:GProblem}{s c:Int}:mI p s c=true↔∃x∈p.Domains,x.Station=s∧c∈x.Channels:=by
 unfold mI;simp only [List.any_eq_true,Bool.and_eq_true,decide_eq_true_eq];constructor
 ·rintro ⟨x,hx,h1,k,hk,rfl⟩;exact ⟨x,hx,h1,hk⟩
 ·rintro ⟨x,hx,h1,hk⟩;exact ⟨x,hx,h1,c,hk,rfl⟩
theorem znr {x:BitVec 64}{c:Nat}:decide ((((x >>> c) &&& (1#64)).toNat:Int)=((0#64).toNat:Int))= !x.getLsbD c:=by
 have e:((x >>> c) &&& (1#64))=bif x.getLsbD c then 1#64 else 0#64:=by
  refine BitVec.eq_of_getLsbD_eq fun b hb=>?_;rw [BitVec.getLsbD_and,BitVec.getLsbD_ushiftRight,BitVec.getLsbD_one];by_cases h0:b=0
  ·subst h0;cases x.getLsbD c <;> simp
  ·cases x.getLsbD c <;> simp [h0]
 rw [e]
 cases x.getLsbD c <;> rfl
theorem TabN.bit {p:GProblem}{v:Vec 512 (BitVec 64)}(h:TabN p v){s c:Int}(h0:0≤s∧s≤511)(h1:2≤c∧c≤51):(Vec.get v s.toNat).getLsbD c.toNat=mI p s c:=by
 rw [Bool.eq_iff_iff,h _ _ a6 a6,i5];constructor
 ·rintro ⟨j,hj,e,h2|h2⟩
  ·omega
  ·exact ⟨_,eF hj,by omega,by rw [show c=((c.toNat:Nat):Int) by omega];exact h2⟩
 ·rintro ⟨x,hx,e,h2⟩;obtain ⟨j,hj,rfl⟩:=gW hx;exact ⟨j,hj,by omega, .inr (by rw [show ((c.toNat:Nat):Int)=c by omega];exact h2)⟩
def iG (p:GProblem)(g:List GChoice):Bool:=(List.range g.length).all (lO g)&&(List.range g.length).all fun i=>mI p (cH g i).Station (cH g i).Channel
theorem fY {p:GProblem}{g:List GChoice}:iG p g=true↔ValidL g∧∀c∈g,mI p c.Station c.Channel=true:=by
 unfold iG;rw [Bool.and_eq_true,ex,List.all_eq_true];constructor
 ·rintro ⟨h1,h2⟩;refine ⟨h1,fun c hc=>?_⟩;obtain ⟨i,hi,rfl⟩:=gW hc;exact h2 i (List.mem_range.2 hi)
 ·rintro ⟨h1,h2⟩;exact ⟨h1,fun i hi=>h2 _ (eF (List.mem_range.1 hi))⟩
theorem zhc {p:GProblem}{t:GStore}{g:List GChoice}(h:TabN p t.domains):zaE t g=some (iG p g):=by
 unfold zaE iG;rw [zfD]
 cases hv:(List.range g.length).all (lO g) with
 |false=>rfl
 |true=>
  have hl:=ex.1 hv;simp only [dV,Nat.sub_zero,Bool.not_true,cond_false,Bool.true_and];refine (kO (fun i _=>(List.range i).all (fun i=>mI p (cH g i).Station (cH g i).Channel)=true) (fun o=>o=some ((List.range g.length).all fun i=>mI p (cH g i).Station (cH g i).Channel)) rfl (fun _ h=>by rw [h]) (fun i _ next hi hI hn=>?_));have hg:=hl.good _ (eF hi);rw [fA a6,fA a6,znr,h.bit a6 a6]
  cases hc:mI p (cH g i).Station (cH g i).Channel with
  |false=>
   have:(List.range g.length).all (fun i=>mI p (cH g i).Station (cH g i).Channel)=false:=by
    rw [List.all_eq_false];exact ⟨i,List.mem_range.2 hi,by simp [hc]⟩
   rw [this];rfl
  |true=>exact hn () (by rw [List.range_succ,List.all_append,hI];simp [hc])
structure SubP (p:GProblem) (d:List GDomain):Prop where
 sub:SubD d p.Domains
 ord:OrdD d p.Domains
section
variable {p:GProblem}{d:List GDomain}
theorem SubP.len (h:SubP p d):d.length=p.Domains.length:=h.sub.1
theorem SubP.inc (hG:GG p)(h:SubP p d){i j:Nat}(hi:i<d.length)(hj:j<d.length)(e:(cH d i).Station=(cH d j).Station):i=j:=by
 (have hi':i<p.Domains.length:=by rw [←h.len];exact hi); (have hj':j<p.Domains.length:=by rw [←h.len];exact hj);rw [(h.sub.2 i hi').1,(h.sub.2 j hj').1] at e;rcases Nat.lt_trichotomy i j with h1|h1|h1
 ·have:=hG.inc i j h1 hj';omega
 ·exact h1
 ·have:=hG.inc j i h1 hi';omega
theorem SubP.inj (hG:GG p)(h:SubP p d){x y:GDomain}(hx:x∈d)(hy:y∈d)(e:x.Station=y.Station):x=y:=by
 obtain ⟨i,hi,rfl⟩:=gW hx;obtain ⟨j,hj,rfl⟩:=gW hy;rw [h.inc hG hi hj e]
theorem SubP.st (hG:GG p)(h:SubP p d){x:GDomain}(hx:x∈d):0≤x.Station∧x.Station≤511:=by
 obtain ⟨i,hi,rfl⟩:=gW hx; (have hi':i<p.Domains.length:=by rw [←h.len];exact hi);rw [(h.sub.2 i hi').1];exact hG.st _ (eF hi')
theorem SubP.ch (hG:GG p)(h:SubP p d){x:GDomain}(hx:x∈d){c:Int}(hc:c∈x.Channels):2≤c∧c≤51:=by
 obtain ⟨i,hi,rfl⟩:=gW hx; (have hi':i<p.Domains.length:=by rw [←h.len];exact hi);exact (hG.chs _ (eF hi')).2 _ ((h.sub.2 i hi').2 c hc)
theorem SubP.has (h:SubP p d){s:Int}(hs:iD p s=true):∃x∈d,x.Station=s:=by
 obtain ⟨x,hx,rfl⟩:=gm.1 hs;obtain ⟨i,hi,rfl⟩:=gW hx;exact ⟨_,eF (by rw [h.len];exact hi),(h.sub.2 i hi).1⟩
theorem zhd {s c:Int}(h:mI p s c=true):iD p s=true:=by
 obtain ⟨x,hx,e,_⟩:=i5.1 h;exact gm.2 ⟨x,hx,e⟩
def lg (d:List GDomain)(v:Vec 512 Int):Prop:=∀x∈d,Vec.get v x.Station.toNat=bif decide (x.Channels.length=1) then cH x.Channels 0 else 0
theorem gN {c:GChoice}:c∈fm d↔∃x∈d,x.Channels.length=1∧c=⟨x.Station,cH x.Channels 0⟩:=by
 unfold fm;rw [List.mem_map];constructor
 ·rintro ⟨x,hx,rfl⟩;rw [List.mem_filter,decide_eq_true_eq] at hx;exact ⟨x,hx.1,hx.2,rfl⟩
 ·rintro ⟨x,hx,h1,rfl⟩;exact ⟨x,List.mem_filter.2 ⟨hx,decide_eq_true h1⟩,rfl⟩
theorem mS {α:Type}[Inhabited α]{l:List α}{i:Nat}(hi:i<l.length):l.take (i+1)=l.take i++[cH l i]:=by
 rw [List.take_succ_eq_append_getElem hi,d5 hi]
theorem zlf {m:List GDomain×Bool}(hG:GG p)(h:SubP p m.1)(h2:m.2=true):∃v,zbz p m=some v∧lg m.1 v:=by
 (have e1:jd m=fm m.1:=by unfold jd;rw [h2];rfl)
 have hin:∀c∈fm m.1,∀c'∈fm m.1,c.Station=c'.Station→c=c':=fun c hc c' hc' e=>by
  obtain ⟨x,hx,_,rfl⟩:=gN.1 hc;obtain ⟨y,hy,_,rfl⟩:=gN.1 hc';rw [h.inj hG hx hy e]
 have hst:∀c∈fm m.1,0≤c.Station∧c.Station≤511:=fun c hc=>by
  obtain ⟨x,hx,_,rfl⟩:=gN.1 hc;exact h.st hG hx
 unfold zbz;simp only [dV,Nat.sub_zero,e1];refine kO (fun k (v:Vec 512 Int)=>(∀c∈(fm m.1).take k,Vec.get v c.Station.toNat=c.Channel)∧∀n:Nat,n<512→(∀c∈(fm m.1).take k,c.Station≠(n:Int))→Vec.get v n=0) (fun o=>∃v:Vec 512 Int,o=some v∧lg m.1 v) ⟨fun c hc=>by simp at hc,fun n hn _=>iP hn⟩ (fun v hv=>⟨v,rfl,fun x hx=>?_⟩) (fun i v next hi hI hn=>?_)
 ·rw [List.take_of_length_le (Nat.le_refl _)] at hv;have hs:=h.st hG hx;by_cases hl:x.Channels.length=1
  ·rw [decide_eq_true hl,cond_true];exact hv.1 ⟨x.Station,cH x.Channels 0⟩ (gN.2 ⟨x,hx,hl,rfl⟩)
  ·rw [decide_eq_false hl,cond_false];refine hv.2 _ a6 fun c hc e=>?_;obtain ⟨y,hy,h3,rfl⟩:=gN.1 hc;have:y=x:=h.inj hG hy hx (by dsimp only at e;omega);rw [this] at h3;exact hl h3
 ·have hm:=eF hi;have hs:=hst _ hm;rw [fA a6];refine hn _ ⟨fun c hc=>?_,fun n h1 hc=>?_⟩
  ·rw [fX a6];rw [mS hi,List.mem_append,List.mem_singleton] at hc;rcases hc with hc|rfl
   ·have h3:=hst c (List.mem_of_mem_take hc);by_cases e:c.Station.toNat=(cH (fm m.1) i).Station.toNat
    ·rw [if_pos e,hin c (List.mem_of_mem_take hc) _ hm a6]
    ·rw [if_neg e];exact hI.1 c hc
   ·rw [if_pos rfl]
  ·rw [fX a6];rw [mS hi] at hc;have h3:=hc (cH (fm m.1) i) (List.mem_append.2 (.inr (List.mem_singleton.2 rfl)));rw [if_neg a6];exact hI.2 n h1 fun c h4=>hc c (List.mem_append.2 (.inl h4))
def jp (v:Vec 512 Int)(g:List GChoice):List GChoice:=g.filter fun c=> !decide (Vec.get v c.Station.toNat=c.Channel)
def kr (m:List GDomain×Bool)(v:Vec 512 Int)(g:List GChoice):GChoice×Bool:=match jp v g with
 | []=>(bif decide (0<(g.length:Int)) then cH g 0 else ⟨0,0⟩,true)
 | [c]=>(c,zgG m c)
 |_=>(⟨0,0⟩,false)
theorem zg8 {v:Vec 512 Int}{g:List GChoice}{c:GChoice}:jp v (g++[c])=jp v g++bif decide (¬Vec.get v c.Station.toNat=c.Channel) then [c] else []:=by
 unfold jp;rw [List.filter_append];by_cases h:Vec.get v c.Station.toNat=c.Channel
 ·simp [h]
 ·simp [h]
theorem zmu {m:List GDomain×Bool}{v:Vec 512 Int}{g:List GChoice}(hg:ValidL g):zb1 p m v g=some (kr m v g):=by
 unfold zb1;refine j4 ?_;refine kO (fun i (s:Int×Int×Int×Int×Int)=>(jp v (g.take i)=[]∧s.1=0∧s.2.2.2.1=0∧s.2.2.2.2=0)∨(jp v (g.take i)=[⟨s.2.2.2.1,s.2.2.2.2⟩]∧s.1=1)) (fun o=>o=some (kr m v g)) (.inl ⟨by simp [jp],rfl,rfl,rfl⟩) (fun s hs=>?_) (fun i s next hi hI hn=>?_)
 ·rw [List.take_of_length_le (Nat.le_refl _)] at hs;unfold kr;rcases hs with ⟨h1,h2,h3,h4⟩|⟨h1,h2⟩
  ·rw [h1]; (try dsimp only);rw [h2,h3,h4,decide_eq_true rfl,Bool.true_and,Bool.true_or]
   cases decide (0<(g.length:Int)) <;> rfl
  ·rw [h1]; (try dsimp only);rw [h2,show decide ((1:Int)=0)=false from rfl,Bool.false_and,Bool.false_or];rfl
 ·have h1:=hg.good _ (eF hi);rw [fA a6];by_cases e:Vec.get v (cH g i).Station.toNat=(cH g i).Channel
  ·(have e2:jp v (g.take (i+1))=jp v (g.take i):=by rw [mS hi,zg8,decide_eq_false (by simpa using e),cond_false,List.append_nil]);rw [decide_eq_false (by simpa using e),cond_false]; (try dsimp only);rw [decide_eq_false (by rcases hI with h|h <;> omega),cond_false];exact hn _ (by rw [e2];exact hI)
  ·(have e2:jp v (g.take (i+1))=jp v (g.take i)++[cH g i]:=by rw [mS hi,zg8,decide_eq_true e,cond_true]);rw [decide_eq_true e,cond_true]; (try dsimp only);rcases hI with ⟨h2,h3,h4,h5⟩|⟨h2,h3⟩
   ·rw [h3,show wI (0+1)=1 from rfl,show decide ((1:Int)<1)=false from rfl,cond_false];exact hn _ (.inr ⟨by rw [e2,h2];rfl,rfl⟩)
   ·rw [h3,show wI (1+1)=2 from rfl,show decide ((1:Int)<2)=true from rfl,cond_true];have h6:(jp v (g.take (i+1))).Sublist (jp v g):=(List.take_sublist _ _).filter _;rw [e2,h2] at h6;have h7:=h6.length_le;unfold kr
    match h8:jp v g with
    | []=>rw [h8] at h7;simp at h7
    | [c]=>rw [h8] at h7;simp at h7
    |_ :: _ :: _=>rfl
end
def gK (d:List GDomain)(g:List GChoice)(s c:Int):Bool:=(g.any fun x=>decide (x.Station=s)&&decide (x.Channel=c))&&g.all fun x=>decide (x.Station=s)||iR d x.Station x.Channel
structure ClosedN (p:GProblem) (S:List (List GChoice)) (d:List GDomain):Prop where
 cl:ClosedD p d
 ne:∀g∈S,g≠[]
 calm:∀g∈S,∀x∈d,∀c∈x.Channels,gK d g x.Station c=false
section
variable {p:GProblem}{S:List (List GChoice)}{d e:List GDomain}{m:List GDomain×Bool}{v:Vec 512 Int}{g:List GChoice}
theorem zlJ {s c:Int}(hG:GG p)(hd:SubP p d){x:GDomain}(hx:x∈d)(hs:x.Station=s)(hl:x.Channels.length=1)(h0:cH x.Channels 0=c):iR d s c=true:=by
 rw [fo];intro y hy e k hk;have:y=x:=hd.inj hG hy hx (by rw [e,hs]);subst this;obtain ⟨z,hz⟩:=List.length_eq_one_iff.1 hl;rw [hz] at hk h0;simp [cH] at hk h0;rw [hk,h0]
theorem ziC (hG:GG p)(hd:SubP p d)(hv:lg d v)(hg:iG p g=true){c:GChoice}(hc:c∈g)(h:Vec.get v c.Station.toNat=c.Channel):∃x∈d,x.Station=c.Station∧x.Channels.length=1∧cH x.Channels 0=c.Channel:=by
 obtain ⟨hl,hh⟩:=fY.1 hg;obtain ⟨x,hx,e⟩:=hd.has (zhd (hh c hc));have h1:=hv x hx;have h2:=hl.good c hc;rw [e,h] at h1;by_cases h3:x.Channels.length=1
 ·rw [decide_eq_true h3,cond_true] at h1;exact ⟨x,hx,e,h3,h1.symm⟩
 ·rw [decide_eq_false h3,cond_false] at h1;omega
theorem zj3 {c:GChoice}(hc:c∈g)(h:c∉jp v g):Vec.get v c.Station.toNat=c.Channel:=by
 refine Decidable.byContradiction fun e=>h ?_;unfold jp;rw [List.mem_filter];exact ⟨hc,by simp [e]⟩
theorem ld {c:GChoice}:zgG m c=true↔m.2=true∧∃x∈m.1,x.Station=c.Station∧c.Channel∈x.Channels:=by
 unfold zgG;simp only [Bool.and_eq_true,List.any_eq_true,decide_eq_true_eq];constructor
 ·rintro ⟨h,x,hx,h1,k,hk,rfl⟩;exact ⟨h,x,hx,h1,hk⟩
 ·rintro ⟨h,x,hx,h1,hk⟩;exact ⟨h,x,hx,h1,_,hk,rfl⟩
theorem zhN (hG:GG p)(hd:SubP p m.1)(h2:m.2=true)(hv:lg m.1 v)(hg:iG p g=true)(h0:g≠[])(h:(kr m v g).2=true):(kr m v g).1∈g∧zgG m (kr m v g).1=true∧∀x∈g,x≠(kr m v g).1→iR m.1 x.Station x.Channel=true:=by
 have hpos:0<g.length:=List.length_pos_iff.2 h0
 have only:∀x∈g,x∉jp v g→iR m.1 x.Station x.Channel=true:=fun x hx hn=>by
  obtain ⟨y,hy,h3,h4,h5⟩:=ziC hG hd hv hg hx (zj3 hx hn);exact zlJ hG hd hy h3 h4 h5
 unfold kr at h ⊢
 match h8:jp v g with
 | []=>
  rw [h8] at h;dsimp only at h ⊢;rw [decide_eq_true a6,cond_true];refine ⟨eF hpos,?_,fun x hx _=>only x hx (by rw [h8];simp)⟩;obtain ⟨y,hy,h3,h4,h5⟩:=ziC hG hd hv hg (eF hpos) (zj3 (eF hpos) (by rw [h8];simp));obtain ⟨z,hz⟩:=List.length_eq_one_iff.1 h4;refine ld.2 ⟨h2,y,hy,h3,?_⟩;rw [←h5,hz];simp [cH]
 | [c]=>
  rw [h8] at h;dsimp only at h ⊢; (have hc:c∈jp v g:=by rw [h8];simp);refine ⟨(List.mem_filter.1 hc).1,h,fun x hx hne=>only x hx (by rw [h8];simpa using hne)⟩
 |_ :: _ :: _=>rw [h8] at h;cases h
theorem zlj (hG:GG p)(hd:SubP p m.1)(h2:m.2=true)(hv:lg m.1 v)(hg:iG p g=true)(h0:g≠[])(hS:g∈S)(h:(kr m v g).2=true)(he:ClosedN p S e)(hs:SubD e m.1):SubD e (m.1.map (i8 (kr m v g).1.Station (kr m v g).1.Channel)):=by
 obtain ⟨h3,h4,h5⟩:=zhN hG hd h2 hv hg h0 h;generalize (kr m v g).1=c at h3 h4 h5 ⊢;obtain ⟨hl,_⟩:=fY.1 hg;refine ⟨by rw [List.length_map];exact hs.1,fun i hi=>?_⟩;rw [List.length_map] at hi;rw [iz hi];have h6:=hs.2 i hi;refine ⟨h6.1,fun k hk=>?_⟩;unfold i8;dsimp only;rw [List.mem_filter];refine ⟨h6.2 k hk,?_⟩;rw [Bool.or_eq_true,decide_eq_true_eq,decide_eq_true_eq];by_cases e1:(cH m.1 i).Station=c.Station
 ·refine .inr fun e2=>?_; (have hi':i<e.length:=by rw [hs.1];exact hi);have h7:=he.calm g hS _ (eF hi') k hk
  have h8:gK e g (cH e i).Station k=true:=by
   unfold gK;rw [Bool.and_eq_true,List.any_eq_true,List.all_eq_true];refine ⟨⟨c,h3,by rw [h6.1,e1,e2];simp⟩,fun x hx=>?_⟩;by_cases e3:x=c
   ·rw [e3,h6.1,e1];simp
   ·rw [zcn hs (h5 x hx e3)];simp
  rw [h8] at h7;cases h7
 ·exact .inl e1
theorem zkd (hG : GG p) (hB : ∀ x ∈ m.1, x.Channels.Nodup) (hd : SubP p m.1) (h2 : m.2 = true) (hc : ClosedD p m.1) (hv : lg m.1 v) (hg : iG p g = true) (h : (kr m v g).2 = false) : g ≠ [] ∧ ∀ x ∈ m.1, ∀ c ∈ x.Channels, gK m.1 g x.Station c = false := by
  obtain ⟨hl, hh⟩ := fY.1 hg; refine ⟨fun e => ?_, fun x hx c hcx => ?_⟩
  · subst e; cases h
  · cases hr : gK m.1 g x.Station c with
    | false => rfl
    | true =>
      unfold gK at hr; rw [Bool.and_eq_true, List.any_eq_true, List.all_eq_true] at hr; obtain ⟨⟨y, hy, h3⟩, h4⟩ := hr; rw [Bool.and_eq_true, decide_eq_true_eq, decide_eq_true_eq] at h3
      -- the others are made
      have ho : ∀ z ∈ jp v g, z = y := fun z hz => by
        have hzg := (List.mem_filter.1 hz); have h5 := h4 z hzg.1; rw [Bool.or_eq_true, decide_eq_true_eq] at h5; rcases h5 with h5 | h5
        · exact hl.inj hzg.1 hy (by rw [h5, h3.1])
        · exfalso; obtain ⟨u, hu, e⟩ := hd.has (zhd (hh z hzg.1)); have h6 := fo.1 h5 u hu e
          have h7 : u.Channels = [z.Channel] := by
            have hne := hc.ne u hu; have hnd := hB u hu
            match hq : u.Channels with
            | [] => exact absurd hq hne
            | [a] => rw [hq] at h6; rw [h6 a b2]
            | a :: b :: r =>
              rw [hq] at h6 hnd; have h8 := h6 a b2; have h9 := h6 b b2; rw [h8, h9] at hnd; simp at hnd
          have h8 := hv u hu; rw [h7] at h8; have h9 := hzg.2; rw [← e, h8] at h9; simp [cH] at h9
      have hyo : zgG m y = true := ld.2 ⟨h2, x, hx, h3.1.symm, by rw [h3.2]; exact hcx⟩
      have hnd : (jp v g).length ≤ 1 := by
        match h8 : jp v g with
        | [] => simp
        | [_] => simp
        | a :: b :: r =>
          exfalso; have hsub : (jp v g).Sublist g := List.filter_sublist
          have hgn : g.Nodup := by
            rw [List.Nodup, List.pairwise_iff_getElem]; intro i j hi hj hij e; have := hl.inc i j hij hj; rw [d5 hi, d5 hj, e] at this; omega
          have := hgn.sublist hsub; rw [h8] at this ho; rw [ho a b2, ho b b2] at this; simp at this
      unfold kr at h
      match h8 : jp v g with
      | [] => rw [h8] at h; cases h
      | [a] => rw [h8] at h ho; rw [ho a b2] at h; dsimp only at h; rw [hyo] at h; cases h
      | a :: b :: r => rw [h8] at hnd; simp at hnd
end
def dK (p:GProblem)(l:List GChoice):List GDomain:=l.foldl (fun d c=>d.map (fV true c)) p.Domains
def RunN (p:GProblem)(S:List (List GChoice))(d:List GDomain)(r:Option (GProblem×(List GDomain×Bool))×Bool):Prop:=
 (∃m:List GDomain×Bool,r=(some (p,m),false)∧m.2=true∧ClosedN p S m.1∧SubP p m.1∧SubD m.1 d∧∀e,ClosedN p S e→SubD e d→SubD e m.1)∨(r=(none,true)∧∀e,ClosedN p S e→¬SubD e d)
section
variable {p:GProblem}{S:List (List GChoice)}{d e:List GDomain}{m:List GDomain×Bool}
theorem zlQ {l:List GChoice}{i:Nat}(hi:i<l.length):dK p (l.take (i+1))=(dK p (l.take i)).map (fV true (cH l i)):=by
 unfold dK;rw [mS hi,List.foldl_append];rfl
theorem zh4:∀l:List GChoice,SubP p (dK p l):=fun l=>by
 have key:∀(l:List GChoice) (d:List GDomain),SubP p d→SubP p (l.foldl (fun d c=>d.map (fV true c)) d):=by
  intro l
  induction l with
  |nil=>exact fun d h=>h
  |cons c r ih=>
   intro d h;have h2:=(zeo true c).subD (d:=d);exact ih _ ⟨h2.1.trans h.sub,h2.2.trans h.ord h.sub.1⟩
 exact key l _ ⟨.refl _,fun _ _=>List.Sublist.refl _⟩
structure MidN (p:GProblem) (S:List (List GChoice)) (d:List GDomain) (m:List GDomain×Bool):Prop where
 ok:m.2=true
 sp:SubP p m.1
 cl:ClosedD p m.1
 sd:SubD m.1 d
 all:∀e,ClosedN p S e→SubD e d→SubD e m.1
theorem MidN.prop (h:MidN p S d m):PropD p m.1 m:= .inl ⟨h.ok,h.cl,⟨.refl _,fun _ _=>List.Sublist.refl _⟩,fun _ _ h=>h⟩
theorem znh {d':List GDomain}(hd:SubP p d')(hs:SubD d' d)(hm:PropD p d' m)(hall:∀e,ClosedN p S e→SubD e d→SubD e d'):(m.2=true∧MidN p S d m)∨(m.2=false∧∀e,ClosedN p S e→¬SubD e d):=by
 rcases hm with ⟨h1,h2,h3,h4⟩|⟨h1,h2⟩
 ·exact .inl ⟨h1,h1,⟨h3.1.trans hd.sub,h3.2.trans hd.ord hd.sub.1⟩,h2,h3.1.trans hs,fun e he hh=>h4 e he.cl (hall e he hh)⟩
 ·exact .inr ⟨by rw [h1],fun e he hh=>h2 e he.cl (hall e he hh)⟩
theorem zjW {fuel:Nat}(hf:100000≤fuel)(hok:eD p=true){t:GStore}(ht:t.start.1=p)(hm:PropD p p.Domains t.start.2)(hS:∀g∈t.list,iG p g=true)(l:List GChoice):∃r,zaC fuel t l=some r∧RunN p t.list (dK p l) r:=by
 obtain ⟨hw,hbd,htot,hn⟩:=zfA hok;have hG:=zeV hok;have nodup:∀ {m:List GDomain×Bool},SubP p m.1→∀x∈m.1,x.Channels.Nodup:=fun h x hx=>((hbd.ord h.sub.1 h.ord).ch x hx).2;unfold zaC;simp only [dV,Nat.sub_zero,ht];refine kO (fun i (m:List GDomain×Bool)=>PropD p (dK p (l.take i)) m) (fun o=>∃r,o=some r∧RunN p t.list (dK p l) r) (by simpa [dK] using hm) (fun m hI=>?_) (fun i m next hi hI hnx=>?_)
 ·rw [List.take_of_length_le (Nat.le_refl _)] at hI;have hst:=znh (S:=t.list) (zh4 l) (.refl _) hI (fun _ _ h=>h);refine zeu (σ:=Bool×(List GDomain×Bool)) (I:=fun s=>(s.2.2=true∧MidN p t.list (dK p l) s.2∧(s.1=false→ClosedN p t.list s.2.1))∨(s.2.2=false∧s.1=true∧∀e,ClosedN p t.list e→¬SubD e (dK p l))) (μ:=fun s=>ep s.2.1+(bif s.1 then 1 else 0)) (post:=fun o=>∃r,o=some r∧RunN p t.list (dK p l) r) ?_ ?_ ?_
  ·rcases hst with ⟨h1,h2⟩|⟨h1,h2⟩
   ·exact .inl ⟨h1,h2,fun h=>by cases h⟩
   ·exact .inr ⟨h1,rfl,h2⟩
  ·have h1:ep m.1≤30000:=by
    rcases hI with ⟨_,_,h3,_⟩|⟨h1,_⟩
    ·have hk:=zh4 (p:=p) l;have:=zdS h3.1.1 h3.2;have:=zdS hk.sub.1 hk.ord;omega
    ·rw [h1];simp [ep]
   dsimp only;rw [cond_true];omega
  ·rintro ⟨again,m⟩ next hJ hnx;dsimp only at hJ hnx ⊢
   cases again with
   |false=>
    rcases hJ with ⟨h1,h2,h3⟩|⟨_,h2,_⟩
    ·exact ⟨_,rfl, .inl ⟨m,rfl,h1,h3 rfl,h2.sp,h2.sd,h2.all⟩⟩
    ·cases h2
   |true=>
    rw [cond_true];rcases hJ with ⟨h1,h2,_⟩|⟨h1,_,h2⟩
    ·rw [h1,Bool.not_true,cond_false];obtain ⟨v,hv1,hv2⟩:=zlf hG h2.sp h1;rw [hv1,Option.bind_some];refine kO (fun i (s:Bool×(List GDomain×Bool)×Vec 512 Int)=>MidN p t.list (dK p l) s.2.1∧lg s.2.1.1 s.2.2∧((s.1=true∧ep s.2.1.1<ep m.1)∨(s.1=false∧s.2.1=m∧∀j,j<i→(kr s.2.1 s.2.2 (cH t.list j)).2=false))) (fun o=>∃r,o=some r∧RunN p t.list (dK p l) r) ⟨h2,hv2, .inr ⟨rfl,rfl,fun j hj=>by omega⟩⟩ ?_ ?_
     ·rintro ⟨ch,m',v'⟩ ⟨g1,g2,g3⟩;dsimp only at g1 g2 g3 ⊢;refine hnx _ (.inl ⟨g1.ok,g1,fun e=>?_⟩) ?_
      ·dsimp only at e;rcases g3 with ⟨g3,_⟩|⟨_,g3,g4⟩
       ·rw [e] at g3;cases g3
       ·have key:∀g∈t.list,g≠[]∧∀x∈m'.1,∀c∈x.Channels,gK m'.1 g x.Station c=false:=fun g hg=>by
         obtain ⟨j,hj,rfl⟩:=gW hg;exact zkd hG (nodup g1.sp) g1.sp g1.ok g1.cl g2 (hS _ (eF hj)) (g4 j hj)
        exact ⟨g1.cl,fun g hg=>(key g hg).1,fun g hg=>(key g hg).2⟩
      ·dsimp only;rcases g3 with ⟨g3,g4⟩|⟨g3,g4,_⟩
       ·rw [g3,cond_true];omega
       ·rw [g3,g4,cond_false,cond_true];omega
     ·rintro i ⟨ch,m',v'⟩ nx hi ⟨g1,g2,g3⟩ hk;dsimp only at g1 g2 g3 ⊢;have hg:=hS _ (eF hi);rw [zmu (fY.1 hg).1,Option.bind_some]
      cases hfo:(kr m' v' (cH t.list i)).2 with
      |false=>
       rw [Bool.not_false,cond_true];refine hk _ ⟨g1,g2,g3.imp id fun h=>⟨h.1,h.2.1,fun j hj=>?_⟩⟩;rcases Nat.lt_or_ge j i with h3|h3
       ·exact h.2.2 j h3
       ·(obtain rfl:j=i:=by omega);exact hfo
      |true=>
       rw [Bool.not_true,cond_false];by_cases h0:cH t.list i=[]
       ·rw [h0];exact ⟨_,rfl, .inr ⟨rfl,fun e he _=>he.ne _ (eF hi) h0⟩⟩
       ·have hlen:0<(cH t.list i).length:=List.length_pos_iff.2 h0;rw [decide_eq_false a6,cond_false];obtain ⟨q1,q2,q3⟩:=zhN hG g1.sp g1.ok g2 hg h0 hfo;have q4:=fun e he hs=>zlj (e:=e) hG g1.sp g1.ok g2 hg h0 (eF hi) hfo he hs;generalize (kr m' v' (cH t.list i)).1=c at q1 q2 q3 q4
        have hgc:j9 c=true:=by
         have:=(fY.1 hg).1.good c q1;unfold j9;exact decide_eq_true a6
        (have eact:fV false c=i8 c.Station c.Channel:=by unfold fV;rw [hgc];rfl);obtain ⟨r,q5,q6⟩:=zl6 hf hok ⟨g1.sp.sub,g1.sp.ord⟩ g1.prop false c;rw [q5,Option.bind_some];rw [eact] at q6;have hsub:=(FiltD.drop c.Station c.Channel).subD (d:=m'.1);have hsp:SubP p (m'.1.map (i8 c.Station c.Channel)):=⟨hsub.1.trans g1.sp.sub,hsub.2.trans g1.sp.ord g1.sp.sub.1⟩;have hmid:=znh (S:=t.list) hsp (hsub.1.trans g1.sd) q6 (fun e he hh=>q4 e he (g1.all e he hh));dsimp only;rcases hmid with ⟨q7,q8⟩|⟨q7,q8⟩
        ·rw [q7,Bool.not_true,cond_false];obtain ⟨v2,w1,w2⟩:=zlf hG q8.sp q7;rw [w1,Option.bind_some];refine hk _ ⟨q8,w2, .inl ⟨rfl,?_⟩⟩;dsimp only;obtain ⟨_,x,hx,hx1,hx2⟩:=ld.1 q2;obtain ⟨ix,hix,rfl⟩:=gW hx;have h7:=zlU hix hx1 hx2
         have h8:ep r.1≤ep (m'.1.map (i8 c.Station c.Channel)):=by
          rcases q6 with ⟨_,_,h9,_⟩|⟨h9,_⟩
          ·exact zdS h9.1.1 h9.2
          ·rw [h9] at q7;cases q7
         have h9:ep m'.1≤ep m.1:=by
          rcases g3 with ⟨_,h⟩|⟨_,h,_⟩
          ·omega
          ·rw [h];exact Nat.le_refl _
         omega
        ·rw [q7,Bool.not_false,cond_true];exact ⟨_,rfl, .inr ⟨rfl,q8⟩⟩
    ·rw [h1,Bool.not_false,cond_true];exact ⟨_,rfl, .inr ⟨rfl,h2⟩⟩
 ·cases h2:m.2 with
  |false=>
   rw [Bool.not_false,cond_true];refine ⟨_,rfl, .inr ⟨rfl,fun e he hs=>?_⟩⟩;rcases hI with ⟨h3,_⟩|⟨_,h4⟩
   ·rw [h2] at h3;cases h3
   ·refine h4 e he.cl (hs.trans ?_)
    have key:∀(r:List GChoice) (d:List GDomain),SubD (r.foldl (fun d c=>d.map (fV true c)) d) d:=by
     intro r
     induction r with
     |nil=>exact fun d=> .refl _
     |cons c r ih=>exact fun d=>(ih _).trans (zeo true c).subD.1
    have:=key (l.drop i) (dK p (l.take i));unfold dK at this ⊢;rw [←List.foldl_append,List.take_append_drop] at this;exact this
  |true=>
   rw [Bool.not_true,cond_false];have hk:=zh4 (p:=p) (l.take i);obtain ⟨r,g1,g2⟩:=zl6 hf hok ⟨hk.sub,hk.ord⟩ hI true (cH l i);rw [g1,Option.bind_some];exact hnx _ (by rw [zlQ hi];exact g2)
end
structure StN (p:GProblem) (t:GStore):Prop where
 pr:t.start.1=p
 st:PropD p p.Domains t.start.2
 tb:TabN p t.domains
 ok:∀g∈t.list,iG p g=true
section
variable {p:GProblem}{t:GStore}{fuel:Nat}
theorem zoH (hf:100000≤fuel)(hok:eD p=true):∃t,zcU fuel p=some (some t,0)∧StN p t∧t.list=[]:=by
 obtain ⟨hw,hbd,ht,hn⟩:=zfA hok;obtain ⟨m,g1,g2⟩:=zeK (fuel:=fuel) hw hbd a6 a6;obtain ⟨v,h1,h2⟩:=zll (zeV hok);unfold zcU;rw [hok,cond_true,g1,Option.bind_some,h1,Option.bind_some];exact ⟨_,rfl,⟨rfl,g2,h2,fun g hg=>by cases hg⟩,rfl⟩
theorem RunN.conf {S:List (List GChoice)}{d:List GDomain}{r:Option (GProblem×(List GDomain×Bool))×Bool}(h:RunN p S d r):r.2=true↔∀e,ClosedN p S e→¬SubD e d:=by
 rcases h with ⟨m,rfl,h1,h2,h3,h4,h5⟩|⟨rfl,h⟩
 ·exact ⟨fun h=>(by cases h),fun h=>absurd h4 (h _ h2)⟩
 ·exact ⟨fun _=>h,fun _=>rfl⟩
theorem zlx (hf:100000≤fuel)(hok:eD p=true)(h:StN p t){g:List GChoice}:∃b,zan fuel t g=some (b,bif iG p g then 0 else 2)∧(iG p g=false→b=false)∧(iG p g=true→(b=true↔∀e,ClosedN p t.list e→¬SubD e (dK p g))):=by
 unfold zan zak;rw [cond_false,zhc h.tb,Option.bind_some]
 cases hg:iG p g with
 |false=>exact ⟨false,rfl,fun _=>rfl,fun h=>by cases h⟩
 |true=>
  obtain ⟨r,h1,h2⟩:=zjW hf hok h.pr h.st h.ok g;rw [Bool.not_true,cond_false,h1,Option.bind_some];refine ⟨r.2,?_,fun h=>(by cases h),fun _=>h2.conf⟩
  cases r.1.isSome <;> rfl
theorem zok (h:StN p t){g:List GChoice}(hl:t.list.length<4096)(hg:g.length≤1000):zat t g=some (bif iG p g then (0,t.list++[g]) else (2,t.list)):=by
 unfold zat zak;rw [cond_false,zhc h.tb,Option.bind_some]
 cases hn:iG p g with
 |false=>rfl
 |true=>
  rw [Bool.not_true,cond_false,decide_eq_false a6,cond_false,fA (by simp only [dv];omega),fA b6];rfl
theorem StN.add (h:StN p t){g:List GChoice}(hg:iG p g=true):StN p ⟨t.domains,(t.start.1,t.start.2),t.list++[g]⟩:=⟨h.pr,h.st,h.tb,fun x hx=>by
 rcases List.mem_append.1 hx with hx|hx
 ·exact h.ok x hx
 ·simp at hx;rw [hx];exact hg⟩
theorem run_x (hf:100000≤fuel)(hok:eD p=true)(h:StN p t){l:List GChoice}(hl:ValidL l)(hs:∀c∈l,iD p c.Station=true):(∃m:List GDomain×Bool,zap fuel t l=some (m.1,false,0)∧ClosedN p t.list m.1∧SubP p m.1∧SubD m.1 (dK p l)∧∀e,ClosedN p t.list e→SubD e (dK p l)→SubD e m.1)∨(zap fuel t l=some ([],true,0)∧∀e,ClosedN p t.list e→¬SubD e (dK p l)):=by
 unfold zap zak;rw [cond_false,zfD,ex.2 hl,Bool.not_true,cond_false];refine j4 ?_;refine kO (fun i _=>True) (fun o=>(∃m:List GDomain×Bool,o=some (m.1,false,0)∧ClosedN p t.list m.1∧SubP p m.1∧SubD m.1 (dK p l)∧∀e,ClosedN p t.list e→SubD e (dK p l)→SubD e m.1)∨(o=some ([],true,0)∧∀e,ClosedN p t.list e→¬SubD e (dK p l))) trivial (fun _ _=>?_) (fun i _ next hi _ hn=>?_)
 ·obtain ⟨r,h1,h2⟩:=zjW hf hok h.pr h.st h.ok l;rw [h1,Option.bind_some];rcases h2 with ⟨m,rfl,g1,g2,g3,g4,g5⟩|⟨rfl,g⟩
  ·exact .inl ⟨m,rfl,g2,g3,g4,g5⟩
  ·exact .inr ⟨rfl,g⟩
 ·have hg:=hl.good _ (eF hi);rw [fA a6,h.tb.zero (zeV hok) a6,hs _ (eF hi),Bool.not_true,cond_false];exact hn () trivial
end
section
variable {p:GProblem}{a:List GChoice}
end
theorem zfi {a b:List GChoice}:zaV a b=decide (a=b):=by
 unfold zaV;refine j4 ?_;by_cases hl:a.length=b.length
 ·rw [decide_eq_false (by simp [hl]),cond_false,zda (fun i=>decide (cH a i=cH b i)) (fun i next _=>?_),Bool.and_true,Bool.eq_iff_iff,List.all_eq_true,decide_eq_true_eq]
  ·constructor
   ·intro h;exact zd5 hl fun i hi=>of_decide_eq_true (h i (List.mem_range.2 hi))
   ·rintro rfl i _;simp
  ·have e:(decide ((cH a i).Station=(cH b i).Station)&&decide ((cH a i).Channel=(cH b i).Channel))=decide (cH a i=cH b i):=by
    rw [Bool.eq_iff_iff]
    cases cH a i;cases cH b i
    simp
   rw [e]
   cases decide (cH a i=cH b i) <;> rfl
 ·rw [decide_eq_true a6,cond_true,decide_eq_false (fun e=>hl (by rw [e]))]
theorem zmk {a:List (List GChoice)}:zb8 a a=true:=by
 unfold zb8;simp only [dV,Nat.sub_zero,zfi];rw [decide_eq_false b2,cond_false,zda (fun _=>true) (fun i next _=>by simp),Bool.and_true];simp
section
variable {p:GProblem}{t:GStore}{fuel:Nat}{l S:List (List GChoice)}
end
def QN (p:GProblem)(S:List (List GChoice))(d:List GDomain)(r:List GDomain×Bool):Prop:=
 (r.2=true∧ClosedN p S r.1∧SubP p r.1∧SubD r.1 d∧∀e,ClosedN p S e→SubD e d→SubD e r.1)∨(r=([],false)∧∀e,ClosedN p S e→¬SubD e d)
def R21 (p:GProblem)(S:List (List GChoice))(d:List GDomain)(s c:Int):Bool:=(S.any fun g=>gK d g s c)||jj p d s c
section
variable {p:GProblem}{S S':List (List GChoice)}{d a b:List GDomain}{t:GStore}{fuel:Nat}{l:List GChoice}
theorem znq (hok:eD p=true)(ha:SubP p a)(hb:SubP p b)(h1:SubD a b)(h2:SubD b a):a=b:=by
 obtain ⟨_,hbd,_,_⟩:=zfA hok;refine zd5 h1.1 fun i hi=>?_; (have hi':i<b.length:=by rw [←h1.1];exact hi); (have hp:i<p.Domains.length:=by rw [←ha.len];exact hi);have hch:(cH a i).Channels=(cH b i).Channels:=zdl (ha.ord i hp) (hb.ord i hp) (hbd.ch _ (eF hp)).2 (fun x=>⟨(h1.2 i hi').2 x,(h2.2 i hi).2 x⟩);have hst:=(h1.2 i hi').1
 cases hx:cH a i;cases hy:cH b i
 rw [hx,hy] at hch hst;simp only at hch hst;rw [hch,hst]
theorem QN.eq {r r':List GDomain×Bool}(hok:eD p=true)(h:QN p S d r)(h':QN p S d r'):r=r':=by
 rcases h with ⟨h1,h2,h3,h4,h5⟩|⟨h1,h2⟩
 ·rcases h' with ⟨g1,g2,g3,g4,g5⟩|⟨g1,g2⟩
  ·exact Prod.ext (znq hok h3 g3 (g5 _ h2 h4) (h5 _ g2 g4)) (h1.trans g1.symm)
  ·exact absurd h4 (g2 _ h2)
 ·rcases h' with ⟨g1,g2,g3,g4,g5⟩|⟨g1,g2⟩
  ·exact absurd g4 (h2 _ g2)
  ·rw [h1,g1]
theorem ClosedN.mono (h:ClosedN p S d)(hs:∀g∈S',g∈S):ClosedN p S' d:=⟨h.cl,fun g hg=>h.ne g (hs g hg),fun g hg=>h.calm g (hs g hg)⟩
theorem QN.congr {r:List GDomain×Bool}(h:QN p S d r)(hs:∀g,g∈S↔g∈S'):QN p S' d r:=by
 have f:∀ {e},ClosedN p S' e→ClosedN p S e:=fun he=>he.mono fun g hg=>(hs g).1 hg;rcases h with ⟨h1,h2,h3,h4,h5⟩|⟨h1,h2⟩
 ·exact .inl ⟨h1,h2.mono fun g hg=>(hs g).2 hg,h3,h4,fun e he=>h5 e (f he)⟩
 ·exact .inr ⟨h1,fun e he=>h2 e (f he)⟩
theorem byN_x {g:List GChoice}(hg:ValidL g){s c:Int}:zbj d g s c=gK d g s c:=by
 unfold zbj;simp only [dV,Nat.sub_zero,zjZ];refine kO (fun i (b:Bool)=>b=((g.take i).any fun x=>decide (x.Station=s)&&decide (x.Channel=c))∧((g.take i).all fun x=>decide (x.Station=s)||iR d x.Station x.Channel)=true) (fun r=>r=gK d g s c) ⟨rfl,rfl⟩ (fun b hb=>?_) (fun i b next hi hb hn=>?_)
 ·rw [List.take_length] at hb;unfold gK;rw [hb.1,hb.2,Bool.and_true]
 ·by_cases hs:(cH g i).Station=s
  ·rw [decide_eq_true hs,cond_true];refine hn _ ⟨?_,?_⟩
   ·have h0:((g.take i).any fun x=>decide (x.Station=s)&&decide (x.Channel=c))=false:=by
     rw [List.any_eq_false];intro x hx;obtain ⟨j,hj,rfl⟩:=List.mem_iff_getElem.1 hx;rw [List.length_take] at hj;rw [List.getElem_take];have:=hg.inc j i a6 hi;rw [d5 a6] at this;simp;intro e;omega
    rw [mS hi,List.any_append,h0];simp [hs]
   ·rw [mS hi,List.all_append,hb.2];simp [hs]
  ·rw [decide_eq_false hs,cond_false]
   cases ho:iR d (cH g i).Station (cH g i).Channel with
   |false=>
    rw [Bool.not_false,cond_true];unfold gK
    have:(g.all fun x=>decide (x.Station=s)||iR d x.Station x.Channel)=false:=by
     rw [List.all_eq_false];exact ⟨cH g i,eF hi,by simp [hs,ho]⟩
    rw [this,Bool.and_false]
   |true=>
    rw [Bool.not_true,cond_false];refine hn _ ⟨?_,?_⟩
    ·rw [mS hi,List.any_append,←hb.1];simp [hs]
    ·rw [mS hi,List.all_append,hb.2];simp [ho]
theorem ziR (hS:∀g∈S,iG p g=true){s c:Int}:zdc p S d s c=R21 p S d s c:=by
 unfold zdc R21;simp only [dV,Nat.sub_zero,zhY];rw [zef (fun i=>gK d (cH S i) s c) (fun i next hi=>by rw [byN_x (fY.1 (hS _ (eF hi))).1];cases gK d (cH S i) s c <;> rfl),zdJ (q:=fun g=>gK d g s c)]
theorem R21.mono (hok:eD p=true):MonoR (R21 p S):=fun a b s c h hr=>by
 unfold R21 at hr ⊢;rw [Bool.or_eq_true,List.any_eq_true] at hr ⊢;rcases hr with ⟨g,hg,hr⟩|hr
 ·refine .inl ⟨g,hg,?_⟩;unfold gK at hr ⊢;rw [Bool.and_eq_true,List.all_eq_true] at hr ⊢;refine ⟨hr.1,fun x hx=>?_⟩;have:=hr.2 x hx;rw [Bool.or_eq_true] at this ⊢;exact this.imp id (zcn h)
 ·exact .inr (zge (zfA hok).1 h hr)
theorem ClosedN.calmR (h:ClosedN p S d):zlh (R21 p S) d:=fun x hx c hc=>by
 unfold R21;rw [Bool.or_eq_false_iff,List.any_eq_false];exact ⟨fun g hg=>by rw [h.calm g hg x hx c hc];simp,h.cl.calm x hx c hc⟩
theorem zl4 (hf:100000≤fuel)(hok:eD p=true)(hS:∀g∈S,iG p g=true)(hd:SubP p d):∃r,zcD fuel p S d=some r∧QN p S d r:=by
 obtain ⟨hw,hbd,htot,hn⟩:=zfA hok;have hb:Bd d:=hbd.ord hd.len hd.ord;have ht:=zdS hd.len hd.ord;unfold zcD;simp only [dV,Nat.sub_zero,ziR hS];refine zkV (R:=R21 p S) (k2:=fun d=>di (fun (i:Nat) (next:Unit→Option (List GDomain×Bool)) (_:Unit)=>bif decide ((((cH d i).Channels).length:Int)=0) then some ([],false) else next ()) (fun (_:Unit)=>di (fun (i:Nat) (next:Unit→Option (List GDomain×Bool)) (_:Unit)=>bif decide (((cH S i).length:Int)=0) then some ([],false) else next ()) (fun (_:Unit)=>some (d,true)) S.length 0 ()) d.length 0 ()) (fun o=>∃r,o=some r∧QN p S d r) (R21.mono hok) hb (by rw [hd.len];omega) a6 fun d' hI hA=>?_;refine kO (σ:=Unit) (I:=fun i _=>∀j,j<i→(cH d' j).Channels≠[]) (post:=fun o=>∃r,o=some r∧QN p S d r) (fun j hj=>absurd hj (Nat.not_lt_zero j)) (fun _ hne=>?_) (fun i _ next hi h hnx=>?_)
 ·refine kO (σ:=Unit) (I:=fun i _=>∀j,j<i→cH S j≠[]) (post:=fun o=>∃r,o=some r∧QN p S d r) (fun j hj=>absurd hj (Nat.not_lt_zero j)) (fun _ h=>?_) (fun i _ next hi h hnx=>?_)
  ·refine ⟨_,rfl, .inl ⟨rfl,⟨⟨fun x hx=>?_,fun x hx c hc=>?_⟩,fun g hg=>?_,fun g hg x hx c hc=>?_⟩,⟨hI.sub.trans hd.sub,hI.ord.trans hd.ord hd.len⟩,hI.sub,fun e he hs=>hI.sup e he.calmR hs⟩⟩
   ·obtain ⟨j,hj,rfl⟩:=gW hx;exact hne j hj
   ·have:=hA x hx c hc;unfold R21 at this;exact (Bool.or_eq_false_iff.1 this).2
   ·obtain ⟨j,hj,rfl⟩:=gW hg;exact h j hj
   ·have:=hA x hx c hc;unfold R21 at this;have:=List.any_eq_false.1 (Bool.or_eq_false_iff.1 this).1 g hg;simpa using this
  ·by_cases he:cH S i=[]
   ·rw [he];exact ⟨_,rfl, .inr ⟨rfl,fun e hc _=>hc.ne _ (eF hi) he⟩⟩
   ·have:¬((cH S i).length:Int)=0:=fun h0=>he (List.eq_nil_of_length_eq_zero a6);rw [decide_eq_false this,cond_false];refine hnx () (fun j hj=>?_);rcases Nat.lt_or_ge j i with h1|h1
    ·exact h j h1
    ·rw [show j=i by omega];exact he
 ·by_cases he:(cH d' i).Channels=[]
  ·rw [he];refine ⟨_,rfl, .inr ⟨rfl,fun e hc hs=>?_⟩⟩;have h2:=hI.sup e hc.calmR hs;have h3:=(h2.2 i hi).2;rw [he] at h3;apply hc.cl.ne _ (eF (show i<e.length by rw [h2.1];exact hi))
   cases hch:(cH e i).Channels with
   |nil=>rfl
   |cons c r=>exact absurd (h3 c (by rw [hch];simp)) b2
  ·have:¬((cH d' i).Channels.length:Int)=0:=fun h0=>he (List.eq_nil_of_length_eq_zero a6);rw [decide_eq_false this,cond_false];refine hnx () (fun j hj=>?_);rcases Nat.lt_or_ge j i with h1|h1
   ·exact h j h1
   ·rw [show j=i by omega];exact he
theorem znR (hf:100000≤fuel)(hok:eD p=true)(h:StN p t)(hl:ValidL l)(hs:∀c∈l,iD p c.Station=true):∃r:List GDomain×Bool,zap fuel t l=some (r.1,!r.2,0)∧QN p t.list (dK p l) r:=by
 rcases run_x hf hok h hl hs with ⟨m,q1,q2,q3,q4,q5⟩|⟨q1,q2⟩
 ·exact ⟨(m.1,true),q1, .inl ⟨rfl,q2,q3,q4,q5⟩⟩
 ·exact ⟨([],false),q1, .inr ⟨rfl,q2⟩⟩
theorem ValidL.take (h:ValidL l)(n:Nat):ValidL (l.take n):=by
 refine ⟨fun x hx=>h.good x (List.mem_of_mem_take hx),fun i j hij hj=>?_⟩;rw [List.length_take] at hj;rw [d5 (by rw [List.length_take];omega),d5 (by rw [List.length_take];omega),List.getElem_take,List.getElem_take];have:=h.inc i j hij a6
 rwa [d5 a6,d5 a6] at this
end
section
variable {p:GProblem}{fuel:Nat}
end
structure DecP (p:GProblem) (l:List GChoice):Prop where
 good:∀c∈l,0≤c.Station∧c.Station≤511∧2≤c.Channel∧c.Channel≤51
 has:∀c∈l,mI p c.Station c.Channel=true
 nd:(l.map GChoice.Station).Nodup
theorem DecP.st {p:GProblem}{l:List GChoice}(h:DecP p l):∀c∈l,iD p c.Station=true:=fun c hc=>zhd (h.has c hc)
theorem DecP.sub {p:GProblem}{l l':List GChoice}(h:DecP p l)(hs:l'.Sublist l):DecP p l':=⟨fun c hc=>h.good c (hs.subset hc),fun c hc=>h.has c (hs.subset hc),h.nd.sublist (hs.map _)⟩
theorem zfT {l:List GChoice}(hn:(l.map GChoice.Station).Nodup)(hl:l.length≤100000):lV l=some (gQ l):=by
 unfold lV zhu;rw [fA (by unfold dv;omega),fA ⟨by omega,hn⟩];rfl
theorem DecP.len {p:GProblem}{l:List GChoice}(h:DecP p l):l.length≤512:=by
 have key:∀(n:Nat) (s:List Int),s.Nodup→(∀x∈s,0≤x∧x<(n:Int))→s.length≤n:=by
  intro n
  induction n with
  |zero=>intro s _ h;cases s with
   |nil=>exact Nat.le_refl _
   |cons x s=>have:=h x (List.mem_cons_self ..);omega
  |succ n ih=>
   intro s hs h
   have h1:=ih (s.erase (n:Int)) (hs.erase _) (fun x hx=>by
    have h2:=(List.Nodup.mem_erase_iff hs).1 hx;have h3:=h x h2.2;have:x≠(n:Int):=h2.1
    omega)
   have h4:=List.length_erase (a:=(n:Int)) (l:=s)
   split at h4 <;> omega
 have:=key 512 (l.map GChoice.Station) h.nd (fun x hx=>by
  obtain ⟨c,hc,rfl⟩:=List.mem_map.1 hx;have:=h.good c hc
  omega)
 rwa [List.length_map] at this
theorem zgf {p:GProblem}{l:List GChoice}(h:DecP p l):ValidL (gQ l):=by
 have hp:=ml l;have hn:((gQ l).map GChoice.Station).Nodup:=(hp.map GChoice.Station).nodup_iff.2 h.nd;refine ⟨fun c hc=>h.good c (hp.mem_iff.1 hc),fun i j hij hj=>?_⟩;have h1:=List.pairwise_iff_getElem.1 (zdp l) i j a6 hj hij;have h2:=List.pairwise_iff_getElem.1 hn i j cC cC hij;rw [List.getElem_map,List.getElem_map] at h2;rw [d5 (show i<(gQ l).length by omega),d5 hj];have h3:(gQ l)[i].Station≤(gQ l)[j].Station:=h1;omega
theorem zk7 (ch:List Int)(a b:Int):(bif (bif ch.any (fun k=>decide (k=b)) then [b] else []).any (fun k=>decide (k=a)) then [a] else [])=(bif (bif ch.any (fun k=>decide (k=a)) then [a] else []).any (fun k=>decide (k=b)) then [b] else ([]:List Int)):=by
 by_cases e:a=b
 ·subst e;rfl
 ·(have h1:([b].any fun k=>decide (k=a))=false:=by simp;omega); (have h2:([a].any fun k=>decide (k=b))=false:=by simp;omega)
  cases ch.any (fun k=>decide (k=b)) <;> cases ch.any (fun k=>decide (k=a)) <;> simp only [cond_true,cond_false,h1,h2] <;> rfl
theorem zkF {a b:GChoice}(x:GDomain):fV true a (fV true b x)=fV true b (fV true a x):=by
 unfold fV
 cases j9 a <;> cases j9 b <;> simp only [cond_true,cond_false,id]
 unfold iV;by_cases h1:x.Station=a.Station <;> by_cases h2:x.Station=b.Station
 ·rw [decide_eq_true h1,decide_eq_true h2];simp only [cond_true,zk7 x.Channels a.Channel b.Channel]
 ·rw [decide_eq_true h1,decide_eq_false h2];rfl
 ·rw [decide_eq_false h1,decide_eq_true h2];rfl
 ·rw [decide_eq_false h1,decide_eq_false h2];rfl
theorem zjr {p:GProblem}{a b:List GChoice}(h:a.Perm b):dK p a=dK p b:=by
 unfold dK;refine h.foldl_eq' (fun x _ y _ z=>?_) _;rw [List.map_map,List.map_map];exact List.map_congr_left fun d _=>zkF d
def zjj (p:GProblem)(l:List GChoice):List GChoice:=p.Domains.flatMap fun d=>l.filter fun c=>decide (c.Station=d.Station)
theorem zm1 {p:GProblem}(hok:eD p=true){l:List GChoice}(h:DecP p l):zjj p l=gQ l:=by
 have hg:=zeV hok;have hne:l.Pairwise fun a b=>a.Station≠b.Station:=List.pairwise_map.1 h.nd
 have hpw:(zjj p l).Pairwise fun a b=>a.Station<b.Station:=by
  unfold zjj;refine List.pairwise_flatMap.2 ⟨fun d _=>?_,?_⟩
  ·refine (hne.filter _).imp_of_mem fun {a b} ha hb hab=>?_;have h1:=of_decide_eq_true (List.mem_filter.1 ha).2;have h2:=of_decide_eq_true (List.mem_filter.1 hb).2;exact absurd (h1.trans h2.symm) hab
  ·refine List.pairwise_iff_getElem.2 fun i j hi hj hij x hx y hy=>?_;have h1:=of_decide_eq_true (List.mem_filter.1 hx).2;have h2:=of_decide_eq_true (List.mem_filter.1 hy).2;have h3:=hg.inc i j hij hj;rw [d5 hi,d5 hj] at h3;rw [h1,h2];exact h3
 have hmem:∀c,c∈zjj p l↔c∈l:=fun c=>by
  unfold zjj;rw [List.mem_flatMap];constructor
  ·rintro ⟨d,_,hc⟩;exact (List.mem_filter.1 hc).1
  ·intro hc;obtain ⟨d,hd,e⟩:=gm.1 (h.st c hc);exact ⟨d,hd,List.mem_filter.2 ⟨hc,decide_eq_true e.symm⟩⟩
 (have hnd1:(zjj p l).Nodup:=hpw.imp fun {a b} hab e=>by rw [e] at hab;exact Int.lt_irrefl _ hab);have hnd2:l.Nodup:=hne.imp fun {a b} hab e=>hab (by rw [e]);have hperm:(zjj p l).Perm l:=(List.perm_ext_iff_of_nodup hnd1 hnd2).2 hmem;refine znM (hperm.trans (ml l).symm) ((hperm.map GChoice.Station).nodup_iff.2 h.nd) (hpw.imp fun {a b} hab=>?_) (zdp l)
 show a.Station≤b.Station
 omega
theorem ziX {ρ : Type} {l : List GChoice} (q : GChoice → Bool) {k : List GChoice → Option ρ} {s0 : List GChoice} (hs : s0.length + l.length ≤ 1000000) :
    di (fun (i : Nat) (next : List GChoice → Option ρ) (s : List GChoice) => (bif q (cH l i) then em (dv (s ++ [cH l i]).length 16) <| next (s ++ [cH l i]) else next s)) k (l.length - 0) 0 s0 = k (s0 ++ l.filter q) := by
  have key : ∀ m i s, i + m = l.length → s.length + m ≤ 1000000 → di (fun (i : Nat) (next : List GChoice → Option ρ) (s : List GChoice) => (bif q (cH l i) then em (dv (s ++ [cH l i]).length 16) <| next (s ++ [cH l i]) else next s)) k m i s = k (s ++ (l.drop i).filter q) := by
    intro m
    induction m with
    | zero => intro i s e _; rw [List.drop_eq_nil_of_le a6, List.filter_nil, List.append_nil]; rfl
    | succ m ih =>
      intro i s e hs; rw [List.drop_eq_getElem_cons (show i < l.length by omega), ← d5 (show i < l.length by omega), List.filter_cons]
      show (bif q (cH l i) then em (dv (s ++ [cH l i]).length 16) <| di _ k m (i + 1) (s ++ [cH l i]) else di _ k m (i + 1) s) = _
      cases q (cH l i) with
      | true =>
        (have hlen : (s ++ [cH l i]).length = s.length + 1 := by rw [List.length_append]; rfl); rw [cond_true, hlen, fA (by unfold dv; omega), ih (i + 1) (s ++ [cH l i]) a6 a6, if_pos rfl, List.append_assoc]; rfl
      | false => rw [cond_false, ih (i + 1) s a6 a6, if_neg a7]
  have := key (l.length - 0) 0 s0 a6 a6
  rwa [List.drop_zero] at this
theorem ziP {p : GProblem} (hok : eD p = true) {l : List GChoice} (h : DecP p l) : zch p l = some (gQ l) := by
  have hl := h.len; have hd := (zeV hok).n; rw [← zm1 hok h]; unfold zch;simp only [dV]
  have key : ∀ m i (s : List GChoice), i + m = p.Domains.length → s.length ≤ i * 512 →
      di (fun (i_5 : Nat) (next4 : List GChoice → Option (List GChoice)) (out_3 : List GChoice) =>
        di (fun (k_9 : Nat) (next8 : List GChoice → Option (List GChoice)) (out_7 : List GChoice) =>
          (bif decide ((cH l k_9).Station = (cH p.Domains i_5).Station) then
            em (dv (out_7 ++ [(cH l k_9)]).length 16) <|
            next8 (out_7 ++ [(cH l k_9)])
            else
            next8 out_7))
        (fun (out_7 : List GChoice) => next4 out_7) (l.length - 0) 0 out_3) (fun (out_3 : List GChoice) => some out_3) m i s = some (s ++ (p.Domains.drop i).flatMap fun d => l.filter fun c => decide (c.Station = d.Station)) := by
    intro m
    induction m with
    | zero => intro i s e _; rw [List.drop_eq_nil_of_le a6, List.flatMap_nil, List.append_nil]; rfl
    | succ m ih =>
      intro i s e hs; rw [List.drop_eq_getElem_cons (show i < p.Domains.length by omega), ← d5 (show i < p.Domains.length by omega), List.flatMap_cons]; have hf := List.length_filter_le (fun c => decide (c.Station = (cH p.Domains i).Station)) l; have := ih (i + 1) (s ++ l.filter fun c => decide (c.Station = (cH p.Domains i).Station)) a6 (by rw [List.length_append]; omega); rw [← List.append_assoc, ← this]; exact ziX (fun c => decide (c.Station = (cH p.Domains i).Station)) (by have : i * 512 ≤ 512 * 512 := Nat.mul_le_mul_right _ a6; omega)
  have := key (p.Domains.length - 0) 0 [] a6 b2
  rwa [List.drop_zero, List.nil_append] at this
section
variable {p:GProblem}{S:List (List GChoice)}{l:List GChoice}{t:GStore}{fuel:Nat}
theorem zhv (hf:100000≤fuel)(hok:eD p=true)(hS:∀g∈S,iG p g=true)(hl:∀c∈l,0≤c.Station∧c.Station≤511∧2≤c.Channel∧c.Channel≤51):∃r,zcb fuel p S l=some r∧QN p S (dK p l) r:=by
 obtain ⟨hw,hbd,htot,hn⟩:=zfA hok;unfold zcb;refine j4 ?_;refine kO (σ:=List GDomain) (fun i d=>d=dK p (l.take i)) (fun o=>∃r,o=some r∧QN p S (dK p l) r) rfl (fun d hd=>?_) (fun i d next hi hd hnx=>?_)
 ·rw [List.take_length] at hd;subst hd;obtain ⟨r,h1,h2⟩:=zl4 (fuel:=fuel) hf hok hS (zh4 l);exact ⟨r,by rw [h1];rfl,h2⟩
 ·subst hd;have hs:=zh4 (p:=p) (l.take i);have hb:Bd (dK p (l.take i)):=hbd.ord hs.len hs.ord;rw [zlz hb.len (fun x hx=>(hb.ch x hx).1),Option.bind_some];refine hnx _ ?_;have hg:=hl _ (eF hi); (have hgc:j9 (cH l i)=true:=by unfold j9;exact decide_eq_true a6);rw [zlQ hi]
  congr 1
  unfold fV;rw [hgc];rfl
theorem zoB (hf : 100000 ≤ fuel) (hok : eD p = true) (h : StN p t) (hS : ∀ g ∈ t.list, iG p g = true) (hl : DecP p l) :
    ∃ r : List GDomain × Bool, lV l = some (gQ l) ∧ zap fuel t (gQ l) = some (r.1, !r.2, 0) ∧ zcb fuel p t.list l = some r ∧ QN p t.list (dK p l) r := by
  have hlen := hl.len; have hp := ml l; obtain ⟨r, h1, h2⟩ := znR hf hok h (zgf hl) (fun c hc => hl.st c (hp.mem_iff.1 hc)); obtain ⟨r', h3, h4⟩ := zhv (fuel := fuel) hf hok hS hl.good; rw [zjr hp] at h2; obtain rfl := QN.eq hok h2 h4; exact ⟨r, zfT hl.nd a6, h1, h3, h4⟩
theorem ziQ (h:DecP p l):iG p (gQ l)=true:=fY.2 ⟨zgf h,fun c hc=>h.has c ((ml l).mem_iff.1 hc)⟩
def wo (l:List GChoice)(i:Nat):List GChoice:=l.take i++l.drop (i+1)
theorem zjN (l:List GChoice)(i:Nat):(wo l i).Sublist l:=by
 unfold wo
 have h:(l.drop (i+1)).Sublist (l.drop i):=by
  rw [←List.drop_drop];exact List.drop_sublist _ _
 have h2:=(List.Sublist.refl (l.take i)).append h
 rwa [List.take_append_drop] at h2
theorem zoa {l:List GChoice}{i:Nat}(h:i<l.length):(wo l i).length+1=l.length:=by
 unfold wo;rw [List.length_append,List.length_take,List.length_drop];omega
theorem zmD {l:List GChoice}{i:Nat}(h:i<l.length):zfc l (i:Int) ((i:Int)+1)=some (wo l i):=by
 unfold zfc;rw [fA ⟨by omega,rfl,by omega⟩];rfl
theorem zkz {l:List GChoice}{i:Nat}(h:i<l.length)(hl:l.length≤1000):zaZ l (i:Int)=some (wo l i):=by
 unfold zaZ;rw [fA a6,fA ⟨by omega,by omega⟩,fA (by unfold dv;rw [List.length_append,List.length_take];simp;omega),fA ⟨by omega,by omega⟩,fA (by unfold dv;rw [List.length_append,List.length_append,List.length_take,List.length_drop];simp;omega)]
 rfl
def Conf (p:GProblem)(S:List (List GChoice))(l:List GChoice):Prop:=∀e,ClosedN p S e→¬SubD e (dK p l)
theorem QN.conf {r:List GDomain×Bool}(h:QN p S (dK p l) r):r.2=false↔Conf p S l:=by
 rcases h with ⟨h1,h2,h3,h4,_⟩|⟨h1,h2⟩
 ·rw [h1];exact ⟨fun h=>(by cases h),fun h=>absurd h4 (h _ h2)⟩
 ·rw [h1];exact ⟨fun _=>h2,fun _=>rfl⟩
theorem zle (hf:100000≤fuel)(hok:eD p=true)(h:StN p t)(hS:∀g∈t.list,iG p g=true)(hl:DecP p l):∃(b:Bool) (r:List GDomain×Bool),zan fuel t (gQ l)=some (b,0)∧zcb fuel p t.list l=some r∧b= !r.2:=by
 obtain ⟨b,h1,_,h3⟩:=zlx hf hok h (g:=gQ l);have hk:=ziQ hl;obtain ⟨r,h4,h5⟩:=zhv (fuel:=fuel) hf hok hS hl.good;rw [hk] at h1;refine ⟨b,r,h1,h4,?_⟩
 have h6:b=true↔Conf p t.list l:=by
  rw [h3 hk,zjr (ml l)];exact Iff.rfl
 have h7:=QN.conf h5
 cases b <;> cases hr:r.2
 ·exact absurd (h6.2 (h7.1 hr)) a7
 ·rfl
 ·rfl
 ·exact absurd (h7.2 (h6.1 rfl)) (by rw [hr];decide)
end
section
variable {p:GProblem}{a b d:List GDomain}{f:GDomain→GDomain}{φ:Int→Int→Prop}
theorem znk (hok:eD p=true)(hd:SubD d p.Domains∧OrdD d p.Domains):eD ⟨d,p.Rules⟩=true:=by
 have hlen:(d7 ⟨d,p.Rules⟩).ds.length=d.length:=List.length_map _;have hlp:(d7 p).ds.length=p.Domains.length:=List.length_map _
 have hst:(d7 ⟨d,p.Rules⟩).ds.map (·.st)=(d7 p).ds.map (·.st):=by
  show (d.map GDomain.b).map (·.st)=(p.Domains.map GDomain.b).map (·.st)
  rw [List.map_map,List.map_map];refine zd5 (by rw [List.length_map,List.length_map];exact hd.1.1) (fun i hi=>?_);rw [List.length_map] at hi; (have hi':i<p.Domains.length:=by rw [←hd.1.1];exact hi);rw [iz hi,iz hi'];exact (hd.1.2 i hi').1
 have hn1:∀i,i<d.length→cH (d7 ⟨d,p.Rules⟩).ds i=(cH d i).b:=fun i hi=>iz hi;have hn2:∀i,i<p.Domains.length→cH (d7 p).ds i=(cH p.Domains i).b:=fun i hi=>iz hi;unfold eD at hok ⊢;simp only [Pb.ok,Bool.and_eq_true] at hok ⊢;obtain ⟨h1,h2,h3,h4,h5,h6⟩:=hok; (have hhas:∀i,(d7 ⟨d,p.Rules⟩).has i=(d7 p).has i:=fun i=>by unfold Pb.has;rw [hst]);refine ⟨?_,h2,?_,?_,?_,?_⟩
 ·rw [zeq] at h1 ⊢;intro i hi;rw [hlen] at hi; (have hi':i<p.Domains.length:=by rw [←hd.1.1];exact hi);have h7:=h1 i (by rw [hlp];exact hi');rw [hn2 i hi'] at h7;rw [hn1 i hi];simp only [Dx.ok,Bool.and_eq_true] at h7 ⊢;have hsub:=hd.2 i hi';refine ⟨by show inB (cH d i).Station 0 511=true;rw [(hd.1.2 i hi').1];exact h7.1,?_,?_⟩
  ·rw [d3] at h7 ⊢;exact fun q hq=>h7.2.1 q (hsub.subset hq)
  ·have h8:=(zlo h7.2.2).sublist hsub;rw [ic];intro k hk
   have:cH (cH d i).Channels k<cH (cH d i).Channels (k+1):=by
    have hk':k+1<(cH d i).Channels.length:=hk;rw [d5 a6,d5 hk'];exact List.pairwise_iff_getElem.1 h8 k (k+1) a6 hk' a6
   show dM (cH (cH d i).Channels k) (cH (cH d i).Channels (k+1))<0
   unfold dM;rw [if_pos this];omega
 ·rw [ic] at h3 ⊢;intro k hk;rw [hlen] at hk; (have hk':k+1<p.Domains.length:=by rw [←hd.1.1];exact hk);have:=h3 k (by rw [hlp];exact hk');rw [hn2 _ a6,hn2 _ hk'] at this;rw [hn1 _ a6,hn1 _ hk]
  show dM (cH d k).Station (cH d (k+1)).Station<0
  rw [(hd.1.2 k a6).1,(hd.1.2 (k+1) hk').1];exact this
 ·simp only [hhas];exact h4
 ·simp only [hhas];exact h5
 ·simp only [hhas];exact h6
end
theorem zc7 {α:Type}[Inhabited α]{c:α→α→Int}(ht:∀x y z,c x y<0→c y z<0→c x z<0){l:List α}:fE c l=true↔l.Pairwise fun x y=>c x y<0:=by
 rw [ic,List.pairwise_iff_getElem];constructor
 ·intro h i j hi hj hij
  have key:∀m,i+m+1<l.length→c (cH l i) (cH l (i+m+1))<0:=by
   intro m
   induction m with
   |zero=>intro hm;exact h i hm
   |succ m ih=>intro hm;exact ht _ _ _ (ih a6) (h (i+m+1) a6)
  have:=key (j - i - 1) a6;rw [show i+(j - i - 1)+1=j by omega,d5 hi,d5 hj] at this;exact this
 ·intro h i hi;rw [d5 a6,d5 hi];exact h i (i+1) a6 hi a6
theorem zg3 (a b:Int):(dM a b= -1∧a<b)∨(dM a b=0∧a=b)∨(dM a b=1∧b<a):=by
 unfold dM
 split
 ·exact .inl ⟨rfl,by assumption⟩
 ·split
  ·exact .inr (.inr ⟨rfl,by omega⟩)
  ·exact .inr (.inl ⟨rfl,by omega⟩)
theorem zhz (a:Int)(l:List Int):kq (a :: l)<0↔a<0∨(a=0∧kq l<0):=by
 have e:kq (a :: l)=if a=0 then kq l else a:=rfl;rw [e];by_cases h:a=0
 ·rw [if_pos h];simp [h]
 ·rw [if_neg h];simp [h]
theorem zju:¬kq []<0:=by unfold kq;simp
theorem zl7 {a b:Int}:dM a b<0↔a<b:=by rcases zg3 a b with h|h|h <;> omega
theorem zlV {a b:Int}:dM a b=0↔a=b:=by rcases zg3 a b with h|h|h <;> omega
theorem Pr.trans (x y z:Pr)(h:Pr.cmp x y<0)(k:Pr.cmp y z<0):Pr.cmp x z<0:=by
 simp only [Pr.cmp,zhz,zl7,zlV,zju,and_false,or_false] at h k ⊢;omega
theorem Ld.trans (x y z:Ld)(h:Ld.cmp x y<0)(k:Ld.cmp y z<0):Ld.cmp x z<0:=by
 simp only [Ld.cmp,zhz,zl7,zlV,zju,and_false,or_false] at h k ⊢;omega
theorem Cp.trans (x y z:Cp)(h:Cp.cmp x y<0)(k:Cp.cmp y z<0):Cp.cmp x z<0:=by
 simp only [Cp.cmp,zhz,zl7,zlV,zju,and_false,or_false] at h k ⊢;omega
structure SubR (q p:GRules):Prop where
 ps:q.Pairs.Sublist p.Pairs
 ls:q.Loads.Sublist p.Loads
 cs:q.Caps.Sublist p.Caps
section
variable {p q:GProblem}
theorem znO (hok:eD p=true)(hd:q.Domains=p.Domains)(h:SubR q.Rules p.Rules):eD q=true:=by
 unfold eD at hok ⊢;simp only [Pb.ok,Pb.rulesOk,Bool.and_eq_true,decide_eq_true_eq] at hok ⊢;obtain ⟨h1,⟨h2,h3,h4,h5,h6,h7,h8,h9,h10⟩,h11,h12,h13,h14⟩:=hok; (have e1:(d7 q).ds=(d7 p).ds:=by unfold d7;rw [hd]);have sp:(d7 q).ps.Sublist (d7 p).ps:=h.ps.map _;have sl:(d7 q).ls.Sublist (d7 p).ls:=h.ls.map _;have sc:(d7 q).cs.Sublist (d7 p).cs:=h.cs.map _; (have hhas:∀i,(d7 q).has i=(d7 p).has i:=fun i=>by unfold Pb.has;rw [e1]);have all:∀ {α:Type} [Inhabited α] {f:α→Bool} {a b:List α},a.Sublist b→fG f b=true→fG f a=true:=fun hs hb=>d3.2 fun x hx=>d3.1 hb x (hs.subset hx);have l1:=sp.length_le;have l2:=sl.length_le;have l3:=sc.length_le;refine ⟨by rw [e1];exact h1,⟨by omega,all sp h3,?_,by omega,all sl h6,?_,by omega,all sc h9,?_⟩,by rw [e1];exact h11,?_,?_,?_⟩
 ·exact (zc7 Pr.trans).2 (((zc7 Pr.trans).1 h4).sublist sp)
 ·exact (zc7 Ld.trans).2 (((zc7 Ld.trans).1 h7).sublist sl)
 ·exact (zc7 Cp.trans).2 (((zc7 Cp.trans).1 h10).sublist sc)
 ·simp only [hhas];exact all sp h12
 ·simp only [hhas];exact all sl h13
 ·simp only [hhas];exact all sc h14
end
theorem zf0 {p:GProblem}{d:List GDomain}(hok:eD p=true)(h:SubP p d):eD ⟨d,⟨[],[],[]⟩⟩=true:=
 znO (p:=⟨d,p.Rules⟩) (q:=⟨d,⟨[],[],[]⟩⟩) (znk hok ⟨h.sub,h.ord⟩) rfl (by constructor <;> simp)
end Go.Proofs.YtgoeeefoinkepaaGreatDoor
