/- Yd Cb Cc A B: shortened and put together by squeeze.py. -/
import Derived.Test.YtogbggmckmnlfaaGreatDoorQ02
set_option maxRecDepth 100000
set_option maxHeartbeats 4000000
set_option linter.unusedVariables false
set_option linter.unusedSectionVars false
set_option linter.unusedSimpArgs false
namespace Go.Proofs.YtogbggmckmnlfaaGreatDoor
open Go.RowKit
def zdd (d:List GDomain)(s:Int)(c:Int):Option (List GDomain):=
 dS (fun (out_1:List GDomain)=>
  some out_1)
 (fun k2=>
  di (fun (i_5:Nat) (next4:List GDomain→Option (List GDomain)) (out_3:List GDomain)=>
   d4 (db ([]++(cH d i_5).Channels).length 8) <|
   dS (fun (s9:Int×List Int)=>
    d4 (db (out_3++[(GDomain.mk s9.1 s9.2)]).length 32) <|
    next4 (out_3++[(GDomain.mk s9.1 s9.2)]))
   (fun k9=>
    (bif decide ((cH d i_5).Station=s) then
     (bif (jb ((cH d i_5).Channels) c) then
      k9 ((cH d i_5).Station,[c])
      else
      k9 ((cH d i_5).Station,[]))
     else
     k9 ((cH d i_5).Station,([]++(cH d i_5).Channels)))))
  (fun (out_3:List GDomain)=>
   k2 out_3) (d.length - 0) 0 [])
def zca (d:List GDomain)(s:Int)(c:Int):Option (List GDomain):=
 dS (fun (out_1:List GDomain)=>
  some out_1)
 (fun k2=>
  di (fun (i_5:Nat) (next4:List GDomain→Option (List GDomain)) (out_3:List GDomain)=>
   dS (fun (s9:Int×List Int)=>
    d4 (db (out_3++[(GDomain.mk s9.1 s9.2)]).length 32) <|
    next4 (out_3++[(GDomain.mk s9.1 s9.2)]))
   (fun k9=>
    di (fun (k_13:Nat) (next12:(Int×List Int)→Option (List GDomain)) (s12:Int×List Int)=>
     (bif ((decide (¬(cH d i_5).Station=s))||(decide (¬(cH ((cH d i_5).Channels) k_13)=c))) then
      d4 (db (s12.2++[(cH ((cH d i_5).Channels) k_13)]).length 8) <|
      next12 (s12.1,(s12.2++[(cH ((cH d i_5).Channels) k_13)]))
      else
      next12 (s12.1,s12.2)))
    (fun (s12:Int×List Int)=>
     k9 (s12.1,s12.2)) ((((cH d i_5).Channels).length) - 0) 0 ((cH d i_5).Station,[])))
  (fun (out_3:List GDomain)=>
   k2 out_3) (d.length - 0) 0 [])
def zbF (low:Int)(c:Int)(high:Int):Bool:=
 ((decide (low≤c))&&(decide (c≤high)))
def zb9 (d:List GDomain)(station:Int)(channel:Int):Bool:=
 dS (fun (_:Unit)=>
  true)
 (fun k1=>
  di (fun (i_3:Nat) (next2:Unit→Bool) (_:Unit)=>
   dS (fun (_:Unit)=>
    next2 ())
   (fun k5=>
    (bif decide (¬(cH d i_3).Station=station) then
     k5 ()
     else
     di (fun (k_8:Nat) (next7:Unit→Bool) (_:Unit)=>
      (bif decide (¬(cH ((cH d i_3).Channels) k_8)=channel) then
       false
       else
       next7 ()))
     (fun (_:Unit)=>
      k5 ()) ((((cH d i_3).Channels).length) - 0) 0 ())))
  (fun (_:Unit)=>
   k1 ()) (d.length - 0) 0 ())
def zdj (p:GProblem)(d:List GDomain)(s:Int)(c:Int):Bool:=
 dS (fun (_:Unit)=>
  false)
 (fun k1=>
  di (fun (i_3:Nat) (next2:Unit→Bool) (_:Unit)=>
   (bif (((decide ((cH p.Rules.Pairs i_3).A=s))&&(zbF ((cH p.Rules.Pairs i_3).Low) c ((cH p.Rules.Pairs i_3).High)))&&(zb9 d ((cH p.Rules.Pairs i_3).B) (wI (c+((cH p.Rules.Pairs i_3).Offset))))) then
    true
    else
    (bif (((decide ((cH p.Rules.Pairs i_3).B=s))&&(zbF ((cH p.Rules.Pairs i_3).Low) (wI (c - ((cH p.Rules.Pairs i_3).Offset))) ((cH p.Rules.Pairs i_3).High)))&&(zb9 d ((cH p.Rules.Pairs i_3).A) (wI (c - ((cH p.Rules.Pairs i_3).Offset))))) then
     true
     else
     next2 ())))
  (fun (_:Unit)=>
   k1 ()) (p.Rules.Pairs.length - 0) 0 ())
def zdI (p:GProblem)(d:List GDomain)(to_:Int)(c:Int)(further:Int):Int:=
 dS (fun (n_1:Int)=>
  n_1)
 (fun k2=>
  di (fun (i_5:Nat) (next4:Int→Int) (n_3:Int)=>
   (bif (((decide ((cH p.Rules.Loads i_5).To=to_))&&(zbF ((cH p.Rules.Loads i_5).Low) c ((cH p.Rules.Loads i_5).High)))&&((decide ((cH p.Rules.Loads i_5).From=further))||(zb9 d ((cH p.Rules.Loads i_5).From) c))) then
    next4 (wI (n_3+((cH p.Rules.Loads i_5).Weight)))
    else
    next4 n_3))
  (fun (n_3:Int)=>
   k2 n_3) (p.Rules.Loads.length - 0) 0 0)
def zc9 (p:GProblem)(station:Int)(c:Int)(loss:Int):Bool:=
 dS (fun (_:Unit)=>
  false)
 (fun k1=>
  di (fun (i_3:Nat) (next2:Unit→Bool) (_:Unit)=>
   (bif (((decide ((cH p.Rules.Caps i_3).Station=station))&&(zbF ((cH p.Rules.Caps i_3).Low) c ((cH p.Rules.Caps i_3).High)))&&(decide ((cH p.Rules.Caps i_3).Max<loss))) then
    true
    else
    next2 ()))
  (fun (_:Unit)=>
   k1 ()) (p.Rules.Caps.length - 0) 0 ())
def zdh (p:GProblem)(d:List GDomain)(s:Int)(c:Int):Bool:=
 dS (fun (_:Unit)=>
  false)
 (fun k1=>
  di (fun (i_3:Nat) (next2:Unit→Bool) (_:Unit)=>
   (bif ((((decide ((cH p.Rules.Loads i_3).From=s))&&(zbF ((cH p.Rules.Loads i_3).Low) c ((cH p.Rules.Loads i_3).High)))&&(zb9 d ((cH p.Rules.Loads i_3).To) c))&&(zc9 p ((cH p.Rules.Loads i_3).To) c (zdI p d ((cH p.Rules.Loads i_3).To) c s))) then
    true
    else
    next2 ()))
  (fun (_:Unit)=>
   k1 ()) (p.Rules.Loads.length - 0) 0 ())
def zc3 (p:GProblem)(d:List GDomain)(s:Int)(c:Int):Bool:=
 (((zdj p d s c)||(zc9 p s c (zdI p d s c (-1))))||(zdh p d s c))
theorem has_x {l:List Int}{n:Int}:jb l n=l.any fun k=>decide (k=n):=by
 unfold jb;simp only [dS,Nat.sub_zero];rw [zdX (fun i=>decide (cH l i=n)) (fun i next _=>?_),zdw (q:=fun k=>decide (k=n)),Bool.or_false]
 cases decide (cH l i=n) <;> rfl
def jo (d:List GDomain)(s c:Int):Bool:=d.all fun x=>(decide (¬x.Station=s)||x.Channels.all fun k=>decide (k=c))
theorem zkp {d:List GDomain}{s c:Int}:zb9 d s c=jo d s c:=by
 unfold zb9 jo;simp only [dS,Nat.sub_zero];rw [zeN (fun i=>(decide (¬(cH d i).Station=s)||(cH d i).Channels.all fun k=>decide (k=c))) (fun i next _=>?_),zeH (l:=d) (q:=fun x=>(decide (¬x.Station=s)||x.Channels.all fun k=>decide (k=c))),Bool.and_true];rw [zeN (fun k=>decide (cH (cH d i).Channels k=c)) (fun k nx _=>?_),zeH (q:=fun k=>decide (k=c))]
 ·cases decide (¬(cH d i).Station=s) <;> rfl
 ·by_cases h:cH (cH d i).Channels k=c <;> simp [h]
theorem zfy {a b c:Int}:zbF a b c=decide (a≤b∧b≤c):=by
 unfold zbF;by_cases h1:a≤b <;> by_cases h2:b≤c <;> simp [h1,h2]
def zgT (d:List GDomain)(s c:Int)(x:GPair):Bool:=(decide (x.A=s)&&decide (x.Low≤c∧c≤x.High)&&jo d x.B (wI (c+x.Offset)))||(decide (x.B=s)&&decide (x.Low≤wI (c - x.Offset)∧wI (c - x.Offset)≤x.High)&&jo d x.A (wI (c - x.Offset)))
theorem zk1 {p:GProblem}{d:List GDomain}{s c:Int}:zdj p d s c=p.Rules.Pairs.any (zgT d s c):=by
 unfold zdj;simp only [dS,Nat.sub_zero,zkp,zfy];rw [zdX (fun i=>zgT d s c (cH p.Rules.Pairs i)) (fun i next _=>?_),zdw (q:=zgT d s c),Bool.or_false];unfold zgT;generalize (decide ((cH p.Rules.Pairs i).A=s)&&decide ((cH p.Rules.Pairs i).Low≤c∧c≤(cH p.Rules.Pairs i).High)&&jo d (cH p.Rules.Pairs i).B (wI (c+(cH p.Rules.Pairs i).Offset)))=a
 cases a
 ·rw [cond_false,Bool.false_or];generalize (decide ((cH p.Rules.Pairs i).B=s)&&decide ((cH p.Rules.Pairs i).Low≤wI (c - (cH p.Rules.Pairs i).Offset)∧wI (c - (cH p.Rules.Pairs i).Offset)≤(cH p.Rules.Pairs i).High)&&jo d (cH p.Rules.Pairs i).A (wI (c - (cH p.Rules.Pairs i).Offset)))=b
  cases b <;> rfl
 ·rfl
def loadC (d:List GDomain)(t c f:Int)(x:GLoad):Bool:=decide (x.To=t)&&decide (x.Low≤c∧c≤x.High)&&(decide (x.From=f)||jo d x.From c)
def hJ (p:GProblem)(d:List GDomain)(t c f:Int):Int:=p.Rules.Loads.foldl (fun n x=>bif loadC d t c f x then wI (n+x.Weight) else n) 0
theorem zm6 {p:GProblem}{d:List GDomain}{t c f:Int}:zdI p d t c f=hJ p d t c f:=by
 unfold zdI hJ;simp only [dS,Nat.sub_zero,zkp,zfy];rw [zjp (fun i n=>bif loadC d t c f (cH p.Rules.Loads i) then wI (n+(cH p.Rules.Loads i).Weight) else n) (fun i next n _=>?_),zdF (g:=fun n x=>bif loadC d t c f x then wI (n+x.Weight) else n)];unfold loadC;generalize (decide ((cH p.Rules.Loads i).To=t)&&decide ((cH p.Rules.Loads i).Low≤c∧c≤(cH p.Rules.Loads i).High)&&(decide ((cH p.Rules.Loads i).From=f)||jo d (cH p.Rules.Loads i).From c))=a
 cases a <;> rfl
def lI (p:GProblem)(s c l:Int):Bool:=p.Rules.Caps.any fun x=>decide (x.Station=s)&&decide (x.Low≤c∧c≤x.High)&&decide (x.Max<l)
theorem zlV {p:GProblem}{s c l:Int}:zc9 p s c l=lI p s c l:=by
 unfold zc9 lI;simp only [dS,Nat.sub_zero,zfy];rw [zdX (fun i=>decide ((cH p.Rules.Caps i).Station=s)&&decide ((cH p.Rules.Caps i).Low≤c∧c≤(cH p.Rules.Caps i).High)&&decide ((cH p.Rules.Caps i).Max<l)) (fun i next _=>?_),zdw (l:=p.Rules.Caps) (q:=fun x=>decide (x.Station=s)&&decide (x.Low≤c∧c≤x.High)&&decide (x.Max<l)),Bool.or_false];generalize (decide ((cH p.Rules.Caps i).Station=s)&&decide ((cH p.Rules.Caps i).Low≤c∧c≤(cH p.Rules.Caps i).High)&&decide ((cH p.Rules.Caps i).Max<l))=a
 cases a <;> rfl
def loadR (p:GProblem)(d:List GDomain)(s c:Int)(x:GLoad):Bool:=decide (x.From=s)&&decide (x.Low≤c∧c≤x.High)&&jo d x.To c&&lI p x.To c (hJ p d x.To c s)
theorem zlx {p:GProblem}{d:List GDomain}{s c:Int}:zdh p d s c=p.Rules.Loads.any (loadR p d s c):=by
 unfold zdh;simp only [dS,Nat.sub_zero,zkp,zfy,zlV,zm6];rw [zdX (fun i=>loadR p d s c (cH p.Rules.Loads i)) (fun i next _=>?_),zdw (q:=loadR p d s c),Bool.or_false];unfold loadR;generalize (decide ((cH p.Rules.Loads i).From=s)&&decide ((cH p.Rules.Loads i).Low≤c∧c≤(cH p.Rules.Loads i).High)&&jo d (cH p.Rules.Loads i).To c&&lI p (cH p.Rules.Loads i).To c (hJ p d (cH p.Rules.Loads i).To c s))=a
 cases a <;> rfl
def iF (p:GProblem)(d:List GDomain)(s c:Int):Bool:=p.Rules.Pairs.any (zgT d s c)||lI p s c (hJ p d s c (-1))||p.Rules.Loads.any (loadR p d s c)
theorem zkI {p:GProblem}{d:List GDomain}{s c:Int}:zc3 p d s c=iF p d s c:=by
 unfold zc3 iF;rw [zk1,zlV,zm6,zlx]
def jL (s c:Int)(x:GDomain):GDomain:=⟨x.Station,x.Channels.filter fun k=>decide (¬x.Station=s)||decide (¬k=c)⟩
theorem zlP {d:List GDomain}{s c:Int}(hd:d.length≤100000)(hc:∀x∈d,x.Channels.length≤100000):zca d s c=some (d.map (jL s c)):=by
 unfold zca;simp only [dS,Nat.sub_zero];refine (zc0 (fun i out=>out.length=i) (fun i out=>out++[jL s c (cH d i)]) rfl (fun i out _ h=>by simp [h]) (fun i next out hi hl=>?_)).1.trans ?_
 ·have hci:=hc (cH d i) (by rw [dW hi];exact List.getElem_mem _);refine (zc0 (fun k (t:Int×List Int)=>t.2.length≤k) (fun k t=>(t.1,bif (decide (¬(cH d i).Station=s)||decide (¬cH (cH d i).Channels k=c)) then t.2++[cH (cH d i).Channels k] else t.2)) (by exact Nat.le_refl 0) (fun k t _ h=>?_) (fun k nx t hk ht=>?_)).1.trans ?_
  ·(try dsimp only)
   cases (decide (¬(cH d i).Station=s)||decide (¬cH (cH d i).Channels k=c)) <;> simp <;> omega
  ·(try dsimp only)
   cases (decide (¬(cH d i).Station=s)||decide (¬cH (cH d i).Channels k=c))
   ·rfl
   ·exact gG (by simp only [db,List.length_append,List.length_singleton];omega)
  ·rw [zkJ (g:=fun t k=>bif (decide (¬(cH d i).Station=s)||decide (¬cH (cH d i).Channels k=c)) then t++[cH (cH d i).Channels k] else t),zdF (l:=(cH d i).Channels) (g:=fun t k=>bif (decide (¬(cH d i).Station=s)||decide (¬k=c)) then t++[k] else t),zjc (g:=fun k=>k)];rw [gG (by simp only [db,List.length_append,List.length_singleton];omega)];simp [jL]
 ·rw [zdF (l:=d) (g:=fun out x=>out++[jL s c x]),zgu];rfl
def iL (s c:Int)(x:GDomain):GDomain:=⟨x.Station,bif decide (x.Station=s) then (bif x.Channels.any (fun k=>decide (k=c)) then [c] else []) else x.Channels⟩
theorem znj {d:List GDomain}{s c:Int}(hd:d.length≤100000)(hc:∀x∈d,x.Channels.length≤100000):zdd d s c=some (d.map (iL s c)):=by
 unfold zdd;simp only [dS,Nat.sub_zero,has_x];refine (zc0 (fun i out=>out.length=i) (fun i out=>out++[iL s c (cH d i)]) rfl (fun i out _ h=>by simp [h]) (fun i next out hi hl=>?_)).1.trans ?_
 ·have hci:=hc (cH d i) (by rw [dW hi];exact List.getElem_mem _);rw [gG (by simp only [db,List.nil_append];omega)]; (have hr:∀y:GDomain,db (out++[y]).length 32:=fun y=>by simp only [db,List.length_append,List.length_singleton];omega);simp only [gG (hr _),iL]
  cases decide ((cH d i).Station=s) <;> cases ((cH d i).Channels.any fun k=>decide (k=c)) <;> rfl
 ·rw [zdF (l:=d) (g:=fun out x=>out++[iL s c x]),zgu];rfl
def zbf (fuel:Nat)(p:GProblem)(d:List GDomain):Option (List GDomain×Bool):=
 dS (fun (d_1:List GDomain)=>
  dS (fun (_:Unit)=>
   some (d_1,true))
  (fun k20=>
   di (fun (i_22:Nat) (next21:Unit→Option (List GDomain×Bool)) (_:Unit)=>
    (bif decide ((((cH d_1 i_22).Channels).length:Int)=0) then
     some ([],false)
     else
     next21 ()))
   (fun (_:Unit)=>
    k20 ()) (d_1.length - 0) 0 ()))
 (fun k2=>
  kg (fun (next5:(List GDomain×Bool)→Option (List GDomain×Bool)) (s5:List GDomain×Bool)=>
   (bif s5.2 then
    kg (fun (next11:(List GDomain×Bool×Int)→Option (List GDomain×Bool)) (s11:List GDomain×Bool×Int)=>
     (bif decide (s11.2.2<(s11.1.length:Int)) then
      d4 (0≤s11.2.2∧s11.2.2<(s11.1.length:Int)) <|
      lY (fun (k_17:Nat) (next16:(List GDomain×Bool)→Option (List GDomain×Bool)) (s16:List GDomain×Bool)=>
       d4 (0≤s11.2.2∧s11.2.2<(s16.1.length:Int)) <|
       d4 (0≤(k_17:Int)∧(k_17:Int)<(((cH s16.1 s11.2.2.toNat).Channels).length:Int)) <|
       (bif (zc3 p s16.1 ((cH s16.1 s11.2.2.toNat).Station) (cH ((cH s16.1 s11.2.2.toNat).Channels) k_17)) then
        (zca s16.1 ((cH s16.1 s11.2.2.toNat).Station) (cH ((cH s16.1 s11.2.2.toNat).Channels) k_17)).bind fun r51=>
        next16 (r51,true)
        else
        next16 (s16.1,s16.2)))
      (fun (s16:List GDomain×Bool)=>
       next11 (s16.1,s16.2,(s11.2.2+1))) (((cH s11.1 s11.2.2.toNat).Channels).length) (s11.1,s11.2.1)
      else
      next5 (s11.1,s11.2.1))) fuel (s5.1,false,0)
    else
    k2 s5.1)) fuel (d,true))
theorem gp {α:Type}[Inhabited α]{xs:List α}{k:Nat}(h:k<xs.length):cH xs k∈xs:=by rw [dW h];exact List.getElem_mem _
theorem iS {α:Type}[Inhabited α]{xs:List α}{x:α}(h:x∈xs):∃k,k<xs.length∧cH xs k=x:=by
 obtain ⟨k,hk,rfl⟩:=List.mem_iff_getElem.1 h;exact ⟨k,hk,dW hk⟩
theorem jW {α β:Type}[Inhabited α][Inhabited β]{f:α→β}{xs:List α}{i:Nat}(h:i<xs.length):cH (xs.map f) i=f (cH xs i):=zcv h
theorem ze8 {α:Type}[Inhabited α]{a b:List α}(hl:a.length=b.length)(h:∀i,i<a.length→cH a i=cH b i):a=b:=by
 apply List.ext_getElem hl;intro i h1 h2;have:=h i h1
 rwa [dW h1,dW h2] at this
def SubD (a b:List GDomain):Prop:=a.length=b.length∧∀i,i<b.length→(cH a i).Station=(cH b i).Station∧∀c∈(cH a i).Channels,c∈(cH b i).Channels
theorem SubD.refl (a:List GDomain):SubD a a:=⟨rfl,fun _ _=>⟨rfl,fun _ h=>h⟩⟩
theorem SubD.trans {a b c:List GDomain}(h:SubD a b)(k:SubD b c):SubD a c:=⟨h.1.trans k.1,fun i hi=>⟨((h.2 i (by rw [k.1];exact hi)).1).trans (k.2 i hi).1,fun x hx=>(k.2 i hi).2 x ((h.2 i (by rw [k.1];exact hi)).2 x hx)⟩⟩
def WtP (p:GProblem):Prop:=p.Rules.Loads.length≤1024∧∀x∈p.Rules.Loads,0≤x.Weight∧x.Weight≤1073741824
section
variable {p:GProblem}{a b d:List GDomain}
theorem zhM {s c:Int}:jo d s c=true↔∀x∈d,x.Station=s→∀k∈x.Channels,k=c:=by
 unfold jo;simp only [List.all_eq_true,Bool.or_eq_true,decide_eq_true_eq];constructor
 ·intro h x hx hs k hk;rcases h x hx with h1|h1
  ·exact absurd hs h1
  ·exact h1 k hk
 ·intro h x hx;by_cases hs:x.Station=s
  ·exact .inr (h x hx hs)
  ·exact .inl hs
theorem zdp (h:SubD a b){s c:Int}(ho:jo b s c=true):jo a s c=true:=by
 rw [zhM] at ho ⊢;intro x hx hs k hk;obtain ⟨i,hi,rfl⟩:=iS hx;have h2:=h.2 i (by rw [←h.1];exact hi);exact ho (cH b i) (gp (by rw [←h.1];exact hi)) (by rw [←h2.1];exact hs) k (h2.2 k hk)
theorem zff {t c f : Int} (h : SubD a b) : ∀ (l : List GLoad), (∀ x ∈ l, 0 ≤ x.Weight ∧ x.Weight ≤ 1073741824) → ∀ n n' : Int, 0 ≤ n → n ≤ n' → n' + 1073741824 * (l.length : Int) ≤ 4611686018427387904 →
    l.foldl (fun n x => bif loadC b t c f x then wI (n + x.Weight) else n) n ≤ l.foldl (fun n x => bif loadC a t c f x then wI (n + x.Weight) else n) n'
  | [], _, n, n', _, hn, _ => hn
  | x :: r, hw, n, n', h0, hn, hb => by
    have h1 := hw x a7; simp only [List.length_cons] at hb; rw [List.foldl_cons, List.foldl_cons]; have e1 : wI (n + x.Weight) = n + x.Weight := zhG a5; have e2 : wI (n' + x.Weight) = n' + x.Weight := zhG a5; rw [e1, e2]
    have hc : loadC b t c f x = true → loadC a t c f x = true := by
      unfold loadC;simp only [Bool.and_eq_true, Bool.or_eq_true]; rintro ⟨h3, h4⟩; exact ⟨h3, h4.imp id (zdp h)⟩
    refine zff h r (fun y hy => hw y (by simp [hy])) _ _ ?_ ?_ ?_
    · cases loadC b t c f x <;> simp <;> omega
    · cases hb' : loadC b t c f x
      · cases loadC a t c f x <;> simp <;> omega
      · rw [hc hb']; simp; omega
    · cases loadC a t c f x <;> simp <;> omega
theorem zhd (hp:WtP p)(h:SubD a b){t c f:Int}:hJ p b t c f≤hJ p a t c f:=by
 unfold hJ;have:=hp.1;exact zff h _ hp.2 0 0 a5 a5 a5
theorem zgs {s c l l':Int}(hl:l≤l')(h:lI p s c l=true):lI p s c l'=true:=by
 unfold lI at h ⊢;rw [List.any_eq_true] at h ⊢;obtain ⟨x,hx,h⟩:=h;refine ⟨x,hx,?_⟩;simp only [Bool.and_eq_true,decide_eq_true_eq] at h ⊢;exact ⟨h.1,by omega⟩
theorem zfT (hp:WtP p)(h:SubD a b){s c:Int}(hr:iF p b s c=true):iF p a s c=true:=by
 unfold iF at hr ⊢;simp only [Bool.or_eq_true,List.any_eq_true] at hr ⊢;rcases hr with (⟨x,hx,hr⟩|hr)|⟨x,hx,hr⟩
 ·refine .inl (.inl ⟨x,hx,?_⟩);unfold zgT at hr ⊢;simp only [Bool.or_eq_true,Bool.and_eq_true] at hr ⊢;exact hr.imp (fun q=>⟨q.1,zdp h q.2⟩) (fun q=>⟨q.1,zdp h q.2⟩)
 ·exact .inl (.inr (zgs (zhd hp h) hr))
 ·refine .inr ⟨x,hx,?_⟩;unfold loadR at hr ⊢;simp only [Bool.and_eq_true] at hr ⊢;exact ⟨⟨hr.1.1,zdp h hr.1.2⟩,zgs (zhd hp h) hr.2⟩
structure ClosedD (p:GProblem) (d:List GDomain):Prop where
 ne:∀x∈d,x.Channels≠[]
 calm:∀x∈d,∀c∈x.Channels,iF p d x.Station c=false
def OrdD (a b:List GDomain):Prop:=∀i,i<b.length→(cH a i).Channels.Sublist (cH b i).Channels
def PropD (p:GProblem)(d:List GDomain)(r:List GDomain×Bool):Prop:=
 (r.2=true∧ClosedD p r.1∧(SubD r.1 d∧OrdD r.1 d)∧∀S,ClosedD p S→SubD S d→SubD S r.1)∨(r=([],false)∧∀S,ClosedD p S→¬SubD S d)
def zkU (R:List GDomain→Int→Int→Bool)(d:List GDomain):Prop:=∀x∈d,∀c∈x.Channels,R d x.Station c=false
def MonoR (R:List GDomain→Int→Int→Bool):Prop:=∀a b s c,SubD a b→R b s c=true→R a s c=true
theorem zjd {R:List GDomain→Int→Int→Bool}(hp:MonoR R){S:List GDomain}(hS:zkU R S)(h:SubD S d){s c:Int}(hr:R d s c=true):SubD S (d.map (jL s c)):=by
 refine ⟨by rw [h.1,List.length_map],fun i hi=>?_⟩;rw [List.length_map] at hi;rw [jW hi];have h2:=h.2 i hi;refine ⟨h2.1,fun k hk=>?_⟩;unfold jL;rw [List.mem_filter];refine ⟨h2.2 k hk,?_⟩;simp only [Bool.or_eq_true,decide_eq_true_eq];by_cases hs:(cH d i).Station=s
 ·refine .inr fun hkc=>?_;subst hkc;have hm:=gp (show i<S.length by rw [h.1];exact hi);have:=hS _ hm k hk;rw [h2.1,hs,hp _ _ _ _ h hr] at this
  cases this
 ·exact .inl hs
theorem drop_sub {s c:Int}:SubD (d.map (jL s c)) d:=by
 refine ⟨List.length_map _,fun i hi=>?_⟩;rw [jW hi];exact ⟨rfl,fun k hk=>(List.mem_filter.1 hk).1⟩
def fu (d:List GDomain):Nat:=(d.map fun x=>x.Channels.length).sum
theorem zj0:∀(d:List GDomain) (f:GDomain→GDomain),(∀x∈d,(f x).Channels.length≤x.Channels.length)→fu (d.map f)≤fu d
 | [],_,_=>Nat.le_refl _
 |x :: r,f,h=>by
  have:=zj0 r f (fun y hy=>h y (by simp [hy]));have h1:=h x a7;simp only [fu,List.map_cons,List.sum_cons] at this ⊢;omega
theorem zkK:∀(d:List GDomain) (f:GDomain→GDomain),(∀x∈d,(f x).Channels.length≤x.Channels.length)→(∃x∈d,(f x).Channels.length<x.Channels.length)→fu (d.map f)<fu d
 |x :: r,f,h,he=>by
  have h1:=h x a7;obtain ⟨y,hy,hlt⟩:=he;rcases List.mem_cons.1 hy with rfl|hy
  ·have:=zj0 r f (fun z hz=>h z (by simp [hz]));simp only [fu,List.map_cons,List.sum_cons] at this ⊢;omega
  ·have:=zkK r f (fun z hz=>h z (by simp [hz])) ⟨y,hy,hlt⟩;simp only [fu,List.map_cons,List.sum_cons] at this ⊢;omega
theorem zgD {α:Type}{q:α→Bool}:∀ {l:List α} {x:α},x∈l→q x=false→(l.filter q).length<l.length
 |y :: r,x,hx,hq=>by
  rcases List.mem_cons.1 hx with rfl|hx
  ·rw [List.filter_cons,hq];have:=List.length_filter_le q r;simp;omega
  ·have:=zgD hx hq;rw [List.filter_cons];split <;> simp only [List.length_cons] <;> omega
theorem zmc {s c:Int}{i:Nat}(hi:i<d.length)(hs:(cH d i).Station=s)(hc:c∈(cH d i).Channels):fu (d.map (jL s c))<fu d:=
 zkK d _ (fun x _=>List.length_filter_le _ _) ⟨cH d i,gp hi,zgD hc (by simp [hs])⟩
structure Bd (d:List GDomain):Prop where
 len:d.length≤100000
 ch:∀x∈d,x.Channels.length≤100000∧x.Channels.Nodup
theorem Bd.drop (h:Bd d){s c:Int}:Bd (d.map (jL s c)):=by
 refine ⟨by rw [List.length_map];exact h.len,fun x hx=>?_⟩;obtain ⟨y,hy,rfl⟩:=List.mem_map.1 hx;exact ⟨Nat.le_trans (List.length_filter_le _ _) (h.ch y hy).1,(h.ch y hy).2.filter _⟩
theorem zjz {s c:Int}{i k:Nat}(hb:Bd d)(hi:i<d.length)(hk:k<(cH d i).Channels.length)(hc:cH (cH d i).Channels k=c):k≤(cH (d.map (jL s c)) i).Channels.length:=by
 rw [jW hi];unfold jL;have hn:=(hb.ch _ (gp hi)).2;have e:(cH d i).Channels=(cH d i).Channels.take k++(cH d i).Channels.drop k:=(List.take_append_drop k _).symm
 have hf:((cH d i).Channels.take k).filter (fun q=>decide (¬(cH d i).Station=s)||decide (¬q=c))=(cH d i).Channels.take k:=by
  rw [List.filter_eq_self];intro q hq;simp only [Bool.or_eq_true,decide_eq_true_eq];refine .inr fun hqc=>?_;obtain ⟨j,hj,rfl⟩:=List.mem_iff_getElem.1 hq;simp only [List.length_take] at hj;rw [List.getElem_take] at hqc;rw [dW hk] at hc;have:=(List.getElem_inj (h₀:=by omega) (h₁:=hk) hn).1 (hqc.trans hc.symm);omega
 show k≤((cH d i).Channels.filter _).length
 rw [e,List.filter_append,hf,List.length_append,List.length_take];omega
structure InvR (R:List GDomain→Int→Int→Bool) (d0 d:List GDomain):Prop where
 bd:Bd d
 sub:SubD d d0
 ord:OrdD d d0
 sup:∀S,zkU R S→SubD S d0→SubD S d
theorem InvR.step {R:List GDomain→Int→Int→Bool}{d0:List GDomain}(hp:MonoR R)(h:InvR R d0 d){s c:Int}(hr:R d s c=true):InvR R d0 (d.map (jL s c)):=
 ⟨h.bd.drop,drop_sub.trans h.sub,fun i hi=>by
  rw [jW (by rw [h.sub.1];exact hi)]
  exact (List.filter_sublist).trans (h.ord i hi),fun S hS hs=>zjd hp hS (h.sup S hS hs) hr⟩
theorem zmE {R : List GDomain → Int → Int → Bool} {ρ : Type} {fuel : Nat} {d0 : List GDomain} {k2 : List GDomain → Option ρ} (post : Option ρ → Prop) (hp : MonoR R) (hb : Bd d0) (hf1 : d0.length < fuel) (hf2 : fu d0 + 1 < fuel) (hend : ∀ d, InvR R d0 d → zkU R d → post (k2 d)) :
    post (kg (fun (next5 : (List GDomain × Bool) → Option ρ) (s5 : List GDomain × Bool) =>
      (bif s5.2 then
        kg (fun (next11 : (List GDomain × Bool × Int) → Option ρ) (s11 : List GDomain × Bool × Int) =>
          (bif decide (s11.2.2 < (s11.1.length : Int)) then
            d4 (0 ≤ s11.2.2 ∧ s11.2.2 < (s11.1.length : Int)) <|
            lY (fun (k_17 : Nat) (next16 : (List GDomain × Bool) → Option ρ) (s16 : List GDomain × Bool) =>
              d4 (0 ≤ s11.2.2 ∧ s11.2.2 < (s16.1.length : Int)) <|
              d4 (0 ≤ (k_17 : Int) ∧ (k_17 : Int) < (((cH s16.1 s11.2.2.toNat).Channels).length : Int)) <|
              (bif (R s16.1 ((cH s16.1 s11.2.2.toNat).Station) (cH ((cH s16.1 s11.2.2.toNat).Channels) k_17)) then
                (zca s16.1 ((cH s16.1 s11.2.2.toNat).Station) (cH ((cH s16.1 s11.2.2.toNat).Channels) k_17)).bind fun r51 =>
                next16 (r51, true)
                else
                next16 (s16.1, s16.2)))
            (fun (s16 : List GDomain × Bool) =>
              next11 (s16.1, s16.2, (s11.2.2 + 1))) (((cH s11.1 s11.2.2.toNat).Channels).length) (s11.1, s11.2.1)
            else
            next5 (s11.1, s11.2.1))) fuel (s5.1, false, 0)
        else
        k2 s5.1)) fuel (d0, true)) := by
  refine zeV (σ := List GDomain × Bool) (I := fun s => InvR R d0 s.1 ∧ (s.2 = false → zkU R s.1)) (μ := fun s => fu s.1 + (bif s.2 then 1 else 0)) (post := post) ⟨⟨hb, .refl _, fun _ _ => List.Sublist.refl _, fun S _ h => h⟩, fun h => by cases h⟩ hf2 ?_; rintro ⟨d, again⟩ next ⟨hI, hA⟩ hn; dsimp only at hI hA hn ⊢
  cases again with
  | false =>
    rw [cond_false]; exact hend d hI (hA rfl)
  | true =>
    rw [cond_true]
    -- one sweep over the stations
    refine zeV (σ := List GDomain × Bool × Int) (I := fun s => InvR R d0 s.1 ∧ 0 ≤ s.2.2 ∧ s.2.2 ≤ s.1.length ∧ s.1.length = d.length ∧ (s.2.1 = false → s.1 = d ∧ ∀ j : Nat, (j : Int) < s.2.2 → ∀ c ∈ (cH d j).Channels, R d (cH d j).Station c = false) ∧ (s.2.1 = true → fu s.1 < fu d)) (μ := fun s => (s.1.length - s.2.2).toNat) (post := post) ⟨hI, by simp, by simp, rfl, fun _ => ⟨rfl, fun j hj => absurd hj a7⟩, fun h => by cases h⟩ (by simp only [Int.sub_zero, Int.toNat_natCast]; rw [hI.sub.1]; exact hf1) ?_; rintro ⟨d1, ag, i⟩ next1 ⟨hI1, h0, h1, hl, hF, hT⟩ hn1; dsimp only at hI1 h0 h1 hl hF hT hn1 ⊢; by_cases hi : i < (d1.length : Int)
    · rw [decide_eq_true hi, cond_true, gG ⟨h0, hi⟩]; (have hin : i.toNat < d1.length := by omega); refine zjF (σ := List GDomain × Bool) (I := fun m s => InvR R d0 s.1 ∧ s.1.length = d.length ∧ m ≤ (cH s.1 i.toNat).Channels.length ∧ (s.2 = false → s.1 = d ∧ (∀ j : Nat, (j : Int) < i → ∀ c ∈ (cH d j).Channels, R d (cH d j).Station c = false) ∧ ∀ k, m ≤ k → k < (cH d i.toNat).Channels.length → R d (cH d i.toNat).Station (cH (cH d i.toNat).Channels k) = false) ∧ (s.2 = true → fu s.1 < fu d)) (post := post) ?_ ?_ ?_
      · dsimp only; refine ⟨hI1, hl, Nat.le_refl _, fun h => ?_, hT⟩; obtain ⟨h2, h3⟩ := hF h; subst h2; exact ⟨rfl, h3, fun k h4 h5 => absurd h5 a5⟩
      · rintro ⟨d2, ag2⟩ ⟨g1, g2, _, g4, g5⟩; dsimp only at g1 g2 g4 g5 ⊢; refine hn1 _ ⟨g1, by dsimp only; omega, by dsimp only; omega, g2, fun h => ?_, g5⟩ (by dsimp only; omega); dsimp only at h; obtain ⟨h2, h3, h4⟩ := g4 h; refine ⟨h2, fun j hj c hc => ?_⟩; dsimp only at hj; by_cases hji : (j : Int) < i
        · exact h3 j hji c hc
        · (obtain rfl : j = i.toNat := by omega); obtain ⟨k, hk, rfl⟩ := iS hc; exact h4 k (Nat.zero_le _) hk
      · rintro k ⟨d2, ag2⟩ nx hk ⟨g1, g2, g3, g4, g5⟩ hnx; dsimp only at g1 g2 g3 g4 g5 hnx ⊢; (have hid : i.toNat < d2.length := by omega); rw [gG ⟨h0, by omega⟩, gG ⟨by omega, by omega⟩]
        cases hr : R d2 (cH d2 i.toNat).Station (cH (cH d2 i.toNat).Channels k) with
        | true =>
          rw [cond_true, zlP g1.bd.len (fun x hx => (g1.bd.ch x hx).1), Option.bind_some]; refine hnx _ ⟨g1.step hp hr, by dsimp only; rw [List.length_map]; exact g2, zjz g1.bd hid a5 rfl, (fun h => by cases h), fun _ => ?_⟩;dsimp only; have h6 := zmc hid rfl (gp (show k < (cH d2 i.toNat).Channels.length by omega))
          cases ag2 with
          | true => have := g5 rfl; omega
          | false => obtain ⟨h7, _⟩ := g4 rfl; subst h7; exact h6
        | false =>
          rw [cond_false]; refine hnx _ ⟨g1, g2, by dsimp only; omega, fun h => ?_, g5⟩; dsimp only at h ⊢; obtain ⟨h7, h8, h9⟩ := g4 h; refine ⟨h7, h8, fun q h10 h11 => ?_⟩; rcases Nat.lt_or_ge k q with h12 | h12
          · exact h9 q h12 h11
          · (obtain rfl : q = k := by omega); subst h7; exact hr
    · rw [decide_eq_false hi, cond_false]; (have hil : i = d1.length := by omega); refine hn (d1, ag) ⟨hI1, fun h => ?_⟩ ?_
      · dsimp only at h ⊢; obtain ⟨h2, h3⟩ := hF h; subst h2; intro x hx c hc; obtain ⟨j, hj, rfl⟩ := iS hx; exact h3 j a5 c hc
      · dsimp only
        cases ag with
        | true => have := hT rfl;simp only [cond_true]; omega
        | false => obtain ⟨h2, _⟩ := hF rfl; subst h2;simp only [cond_true, cond_false]; omega
theorem MonoR.rem (hp:WtP p):MonoR (iF p):=fun _ _ _ _ h hr=>zfT hp h hr
theorem zif {fuel : Nat} {d0 : List GDomain} (hp : WtP p) (hb : Bd d0) (hf1 : d0.length < fuel) (hf2 : fu d0 + 1 < fuel) : ∃ r, zbf fuel p d0 = some r ∧ PropD p d0 r := by
  unfold zbf;simp only [dS, Nat.sub_zero, zkI]; refine zmE (R := iF p) (k2 := fun d => di (fun (i : Nat) (next : Unit → Option (List GDomain × Bool)) (_ : Unit) => bif decide ((((cH d i).Channels).length : Int) = 0) then some ([], false) else next ()) (fun (_ : Unit) => some (d, true)) d.length 0 ()) (fun o => ∃ r, o = some r ∧ PropD p d0 r) (.rem hp) hb hf1 hf2 fun d hI hA => ?_
  -- the end: is a domain empty?
  refine zkL (σ := Unit) (I := fun i _ => ∀ j, j < i → (cH d j).Channels ≠ []) (post := fun o => ∃ r, o = some r ∧ PropD p d0 r) (fun j hj => absurd hj (Nat.not_lt_zero j)) ?_ ?_
  · intro _ h; refine ⟨_, rfl, .inl ⟨rfl, ⟨fun x hx => ?_, hA⟩, ⟨hI.sub, hI.ord⟩, fun S hS => hI.sup S hS.calm⟩⟩; obtain ⟨i, hi, rfl⟩ := iS hx; exact h i hi
  · intro i _ nx hi h hnx; by_cases he : (cH d i).Channels = []
    · rw [he]; refine ⟨_, rfl, .inr ⟨rfl, fun S hS hs => ?_⟩⟩; have h2 := hI.sup S hS.calm hs; have h3 := (h2.2 i hi).2; rw [he] at h3; have hm := gp (show i < S.length by rw [h2.1]; exact hi); apply hS.ne _ hm
      cases hc : (cH S i).Channels with
      | nil => rfl
      | cons c r => exact absurd (h3 c (by rw [hc]; simp)) a7
    · have : ¬ ((cH d i).Channels.length : Int) = 0 := fun h0 => he (List.eq_nil_of_length_eq_zero a5); rw [decide_eq_false this, cond_false]; refine hnx () (fun j hj => ?_); rcases Nat.lt_or_ge j i with h1 | h1
      · exact h j h1
      · rw [show j = i by omega]; exact he
end
def inB (n a b:Int):Bool:=decide (a≤n)&&decide (n≤b)
def ij (lo hi:Int):Bool:=decide (2≤lo)&&(decide (lo≤hi)&&decide (hi≤51))
def Ie (z:Int):List Value:=[.int .i64 z]
abbrev zfQ (w:World)(v:Value)(l:List Int):Prop:=SlOf w v Ie 1 l
structure Dx where
 st:Int
 v:Value
 chs:List Int
instance:Inhabited Dx:=⟨⟨0, .slice none 0 0,[]⟩⟩
def Dx.cells (d:Dx):List Value:=[.int .i64 d.st,d.v]
structure Pr where
 a:Int
 b:Int
 off:Int
 lo:Int
 hi:Int
deriving DecidableEq,Inhabited
def Pr.cells (x:Pr):List Value:=[.int .i64 x.a, .int .i64 x.b, .int .i64 x.off, .int .i64 x.lo, .int .i64 x.hi]
structure Ld where
 to:Int
 fr:Int
 wt:Int
 lo:Int
 hi:Int
deriving DecidableEq,Inhabited
def Ld.cells (x:Ld):List Value:=[.int .i64 x.to, .int .i64 x.fr, .int .i64 x.wt, .int .i64 x.lo, .int .i64 x.hi]
structure Cp where
 st:Int
 mx:Int
 lo:Int
 hi:Int
deriving DecidableEq,Inhabited
def Cp.cells (x:Cp):List Value:=[.int .i64 x.st, .int .i64 x.mx, .int .i64 x.lo, .int .i64 x.hi]
structure Ch where
 st:Int
 ch:Int
deriving DecidableEq,Inhabited
def Ch.cells (x:Ch):List Value:=[.int .i64 x.st, .int .i64 x.ch]
abbrev PrsAt (w:World)(v:Value)(l:List Pr):Prop:=SlOf w v Pr.cells 5 l
abbrev LdsAt (w:World)(v:Value)(l:List Ld):Prop:=SlOf w v Ld.cells 5 l
abbrev CpsAt (w:World)(v:Value)(l:List Cp):Prop:=SlOf w v Cp.cells 4 l
structure DomsAt (w:World) (v:Value) (l:List Dx):Prop where
 sl:SlOf w v Dx.cells 2 l
 each:∀d∈l,zfQ w d.v d.chs
theorem SlOf.one {α:Type}{w:World}{v:Value}{enc:α→List Value}{size:Nat}{xs:List α}(h:SlOf w v enc size xs):OneC v:=by
 obtain ⟨A,cap,rfl,_⟩:=h;exact inferInstance
theorem iD {α:Type}[Inhabited α]{xs:List α}{k:Nat}(h:k<xs.length):cH xs k∈xs:=by rw [dW h];exact List.getElem_mem _
theorem DomsAt.at {w:World}{v:Value}{l:List Dx}(h:DomsAt w v l){k:Nat}(hk:k<l.length):zfQ w (cH l k).v (cH l k).chs:=h.each _ (iD hk)
theorem DomsAt.kept {B w:World}{hs:HS}{v:Value}{l:List Dx}(hw:Hp B (fun _=>False) hs w)(h:DomsAt B v l):DomsAt w v l:=⟨h.sl.kept hw,fun d hd=>(h.each d hd).kept hw⟩
structure Pb where
 ds:List Dx
 ps:List Pr
 ls:List Ld
 cs:List Cp
structure RulesAt (w:World) (vp vl vc:Value) (P:Pb):Prop where
 ps:PrsAt w vp P.ps
 ls:LdsAt w vl P.ls
 cs:CpsAt w vc P.cs
 hps:P.ps.length≤9223372036854775807
 hls:P.ls.length≤9223372036854775807
 hcs:P.cs.length≤9223372036854775807
structure ProbAt (w:World) (vd vp vl vc:Value) (P:Pb):Prop where
 ds:DomsAt w vd P.ds
 ru:RulesAt w vp vl vc P
 hds:P.ds.length≤9223372036854775807
 hch:∀d∈P.ds,d.chs.length≤9223372036854775807
theorem RulesAt.kept {B w:World}{hs:HS}{vp vl vc:Value}{P:Pb}(hw:Hp B (fun _=>False) hs w)(h:RulesAt B vp vl vc P):RulesAt w vp vl vc P:=⟨h.ps.kept hw,h.ls.kept hw,h.cs.kept hw,h.hps,h.hls,h.hcs⟩
theorem ProbAt.kept {B w:World}{hs:HS}{vd vp vl vc:Value}{P:Pb}(hw:Hp B (fun _=>False) hs w)(h:ProbAt B vd vp vl vc P):ProbAt w vd vp vl vc P:=⟨h.ds.kept hw,h.ru.kept hw,h.hds,h.hch⟩
def dV (a b:Int):Int:=if a<b then -1 else if b<a then 1 else 0
def fG {α:Type}[Inhabited α](c:α→α→Int)(xs:List α):Bool:=(List.range xs.length).all fun k=>decide (k=0)|| !decide (0≤c (cH xs (k - 1)) (cH xs k))
def fF {α:Type}[Inhabited α](q:α→Bool)(xs:List α):Bool:=(List.range xs.length).all fun k=>q (cH xs k)
def orL:List Int→Int
 | []=>0
 |x :: r=>if x=0 then orL r else x
theorem ziU {l:List Int}{k:Nat}(h:k<l.length):orL (l.drop k)=if cH l k=0 then orL (l.drop (k+1)) else cH l k:=by
 rw [List.drop_eq_getElem_cons h,dW h];rfl
theorem zc4 (n a b:Int)(w:World):Calls Tryz.prog 80 #[.int .i64 n, .int .i64 a, .int .i64 b] w fun e w'=>e= .returned (.bool (inB n a b))∧Below w.heap.size w w':=by
 refine dq (M:=fun _=>False) (hs:=[]) Tryz.func80 rfl rfl rfl (Hp.refl _ _) ?_;refine lr ?_;refine TL.run 4 rfl ?_;refine dk rfl rfl rfl (fun h1=>?_) (fun h1=>?_)
 ·have p1:=h1; (try simp only [cV] at p1);refine jC ?_;refine jC ?_;refine jC ?_;refine kd ?_;refine eU ?_;refine cU rfl rfl (fun w' hw=>⟨?_,hw.isBelow⟩);exact q4E
 ·have p1:=h1; (try simp only [cV] at p1);refine q1j ?_;refine eU ?_;refine cU rfl rfl (fun w' hw=>⟨?_,hw.isBelow⟩);exact q4E
theorem zb1 (n:Int)(w:World):Calls Tryz.prog 79 #[.int .i64 n] w fun e w'=>e= .returned (.bool (inB n 0 511))∧Below w.heap.size w w':=by
 refine dq (M:=fun _=>False) (hs:=[]) Tryz.func79 rfl rfl rfl (Hp.refl _ _) ?_;refine mh ?_; (refine cK (Wt.none) rfl rfl (cL rfl rfl rfl (fun w hw=>zc4 _ _ _ _)) ?_;rintro _ _ ⟨rfl,rfl⟩);refine eU ?_;refine cU rfl rfl (fun w' hw=>⟨?_,hw.isBelow⟩)
 rfl
theorem zej (lo hi:Int)(w:World):Calls Tryz.prog 151 #[.int .i64 lo, .int .i64 hi] w fun e w'=>e= .returned (.bool (ij lo hi))∧Below w.heap.size w w':=by
 refine dq (M:=fun _=>False) (hs:=[]) Tryz.func151 rfl rfl rfl (Hp.refl _ _) ?_;refine lr ?_;refine eM ?_;refine dk rfl rfl rfl (fun h1=>?_) (fun h1=>?_)
 ·have p1:=h1; (try simp only [cV] at p1);refine jC ?_;refine jC ?_;refine jC ?_;refine kd ?_;refine dd ?_;refine dk rfl rfl rfl (fun h2=>?_) (fun h2=>?_)
  ·have p2:=h2; (try simp only [cV] at p2);refine lB ?_;refine lB ?_;refine q2s ?_;refine eU ?_;refine cU rfl rfl (fun w' hw=>⟨?_,hw.isBelow⟩);exact q4r
  ·have p2:=h2; (try simp only [cV] at p2);refine q1J ?_;refine eU ?_;refine cU rfl rfl (fun w' hw=>⟨?_,hw.isBelow⟩);exact q4r
 ·have p1:=h1; (try simp only [cV] at p1);refine q1j ?_;refine TL.run 5 rfl ?_;refine fJ ?_;refine cU rfl rfl (fun w' hw=>⟨?_,hw.isBelow⟩);exact q4r
theorem zhs (n:Int)(w:World):Calls Tryz.prog 140 #[.int .i64 n] w fun e w'=>e= .returned (.bool false)∧Below w.heap.size w w':=by
 refine dq (M:=fun _=>False) (hs:=[]) Tryz.func140 rfl rfl rfl (Hp.refl _ _) ?_;refine lr ?_;refine TL.run 4 rfl ?_;refine fJ ?_;refine cU rfl rfl (fun w' hw=>⟨?_,hw.isBelow⟩);exact jG a7
theorem kh (a b:Int)(w:World):Calls Tryz.prog 107 #[.int .i64 a, .int .i64 b] w fun e w'=>e= .returned (.int .i64 (dV a b))∧Below w.heap.size w w':=by
 refine dq (M:=fun _=>False) (hs:=[]) Tryz.func107 rfl rfl rfl (Hp.refl _ _) ?_;refine mh ?_; (refine cK (Wt.none) rfl rfl (cL rfl rfl rfl (fun w hw=>zhs _ _)) ?_;rintro _ _ ⟨rfl,rfl⟩);refine kn ?_; (refine cK (Wt.none) rfl rfl (cL rfl rfl rfl (fun w hw=>zhs _ _)) ?_;rintro _ _ ⟨rfl,rfl⟩);refine jd ?_;refine dP ?_;refine ii rfl rfl ?_;refine jR ?_;refine dP ?_;refine ii rfl rfl ?_;refine jR ?_;refine eM ?_;refine TL.ns ?_;refine T.cond rfl (fun h1=>?_) (fun h1=>?_)
 ·have p1:=h1; (try simp only [cV] at p1);refine gF ?_;refine cU rfl rfl (fun w' hw=>⟨?_,hw.isBelow⟩);exact q4s
 ·have p1:=h1; (try simp only [cV] at p1);refine jR ?_;refine eM ?_;refine TL.ns ?_;refine T.cond rfl (fun h2=>?_) (fun h2=>?_)
  ·have p2:=h2; (try simp only [cV] at p2);refine gF ?_;refine cU rfl rfl (fun w' hw=>⟨?_,hw.isBelow⟩);exact q4s
  ·have p2:=h2; (try simp only [cV] at p2);refine gV ?_;refine eU ?_;refine cU rfl rfl (fun w' hw=>⟨?_,hw.isBelow⟩);exact q4s
theorem zjB (l:List Int)(v:Value)(w:World)(h:zfQ w v l)(hl:l.length≤9223372036854775807):Calls Tryz.prog 152 #[v] w fun e w'=>e= .returned (.int .i64 (orL l))∧Below w.heap.size w w':=by
 obtain ⟨A,cap,rfl,hsl⟩:=h.op;refine dq (M:=fun _=>False) (hs:=[]) Tryz.func152 rfl rfl rfl (Hp.refl _ _) ?_;refine lr ?_;refine kL ?_;refine jj ?_;refine T.loop (ι:=Nat) (fun k=>[(3, .int .i64 0),(6, .slice A l.length cap),(7, .int .i64 (l.length:Int)),(8, .int .i64 (k:Int))]) (fun k=>[]) (fun k=>k≤l.length∧orL (l.drop k)=orL l) (fun k=>l.length - k) 0 ?_ ?_ ?_ ?_
 ·exact ⟨by omega,rfl⟩
 ·exact (by repeat (first|exact Sub.nil|refine Sub.cons rfl ?_))
 ·exact Sx
 ·intro k hphi;obtain ⟨hkl,hor⟩:=hphi;refine ei ?_;refine T.cond rfl (fun h1=>?_) (fun h1=>?_)
  ·have p1:=h1; (try simp only [cV] at p1);obtain ⟨g,off,rfl,hc⟩:=hsl a5;have hk:=hc k a5;simp only [Ie] at hk;refine fq ?_;refine q1V ?_;refine f9 ?_;refine eM ?_;refine TL.ns ?_;refine T.cond rfl (fun h2=>?_) (fun h2=>?_)
   ·have p2:=h2; (try simp only [cV] at p2);refine iA ?_;refine q0B ?_;refine cU rfl rfl (fun w' hw=>⟨?_,hw.isBelow⟩);exact zcF (by rw [ziU a5,if_neg b6] at hor;exact hor)
   ·have p2:=h2; (try simp only [cV] at p2);refine gB ?_;exact K.next (k+1) ⟨by omega,by rw [ziU a5,if_pos b6] at hor;exact hor⟩ a5 (by repeat (first|exact Sub.nil|refine Sub.cons rfl ?_)) Sx
  ·have p1:=h1; (try simp only [cV] at p1);refine q0Y ?_;refine ji ?_;refine cU rfl rfl (fun w' hw=>⟨?_,hw.isBelow⟩);exact zcF (by rw [List.drop_eq_nil_of_le a5] at hor;exact hor)
theorem zk4 {q:Dx→Bool}(xs:List Dx)(v:Value)(f:FuncId)(caps:Array Value)(w:World)(h:SlOf w v Dx.cells 2 xs)(ho1:∀k,k<xs.length→OneC (cH xs k).v)[hE:Enters Tryz.prog f](hC:∀k,k<xs.length→∀w',Below w.heap.size w w'→Calls Tryz.prog f (.agg (Dx.cells (cH xs k)).toArray :: caps.toList).toArray w' fun e w''=>e= .returned (.bool (q (cH xs k)))∧Below w'.heap.size w' w'')(hl:xs.length≤9223372036854775807):Calls Tryz.prog 103 #[v, .func (.func f) #[] caps] w fun e w'=>e= .returned (.bool (fF q xs))∧Below w.heap.size w w':=by
 obtain ⟨A,cap,rfl,hsl⟩:=h.op;refine dq (M:=fun _=>False) (hs:=[]) Tryz.func103 rfl rfl rfl (Hp.refl _ _) ?_;refine iE ?_;refine jj ?_;refine T.loop (ι:=Nat) (fun k=>[(1, .func (.func f) #[] caps),(7, .slice A xs.length cap),(8, .int .i64 (xs.length:Int)),(9, .int .i64 (k:Int))]) (fun k=>[]) (fun k=>k≤xs.length∧∀j,j<k→q (cH xs j)=true) (fun k=>xs.length - k) 0 ?_ ?_ ?_ ?_
 ·exact q4d
 ·exact (by repeat (first|exact Sub.nil|refine Sub.cons rfl ?_))
 ·exact Sx
 ·intro k hphi;obtain ⟨hkl,hall⟩:=hphi;refine ei ?_;refine T.cond rfl (fun h1=>?_) (fun h1=>?_)
  ·have p1:=h1; (try simp only [cV] at p1);obtain ⟨g,off,rfl,hc⟩:=hsl a5;have hk:=hc k a5;haveI:=ho1 k a5;simp only [Dx.cells] at hk;refine fq ?_;refine lc ?_; (refine cK (Wt.none) rfl rfl (Ew.alloc) ?_;rintro _ _ ⟨g6,rfl,rfl⟩); (refine dB (Wt.none) rfl (dr 0) ?_;rintro _ _ ⟨rfl,rfl⟩);refine lm ?_;refine gY ?_; (refine cK (Wt.none) rfl rfl (j8 rfl rfl rfl (fun w hw=>hC k a5 w hw.isBelow)) ?_;rintro _ _ ⟨rfl,rfl⟩);refine dP ?_;refine T.cond rfl (fun h2=>?_) (fun h2=>?_)
   ·have p2:=h2; (try simp only [cV] at p2);refine jT ?_;refine cU rfl rfl (fun w' hw=>⟨?_,hw.isBelow⟩);exact q4e
   ·have p2:=h2; (try simp only [cV] at p2);refine gB ?_;exact K.next (k+1) ⟨by omega,zdQ hall (by simpa using p2)⟩ a5 (by repeat (first|exact Sub.nil|refine Sub.cons rfl ?_)) Sx
  ·have p1:=h1; (try simp only [cV] at p1);refine q3N ?_;refine cU rfl rfl (fun w' hw=>⟨?_,hw.isBelow⟩);exact q4f
theorem zgQ {c:Dx→Dx→Int}(xs:List Dx)(v:Value)(f:FuncId)(w:World)(h:SlOf w v Dx.cells 2 xs)(ho1:∀k,k<xs.length→OneC (cH xs k).v)[hE:Enters Tryz.prog f](hC:∀x y:Dx,OneC x.v→OneC y.v→∀w':World,Calls Tryz.prog f #[.agg (Dx.cells (x)).toArray, .agg (Dx.cells (y)).toArray] w' fun e w''=>e= .returned (.int .i64 (c x y))∧Below w'.heap.size w' w'')(hl:xs.length≤9223372036854775807):Calls Tryz.prog 108 #[v, .func (.func f) #[] #[]] w fun e w'=>e= .returned (.bool (fG c xs))∧Below w.heap.size w w':=by
 obtain ⟨A,cap,rfl,hsl⟩:=h.op;refine dq (M:=fun _=>False) (hs:=[]) Tryz.func108 rfl rfl rfl (Hp.refl _ _) ?_;refine iE ?_;refine TL.ns (T.block ?_);refine T.loop (ι:=Nat) (fun k=>[(0, .slice A xs.length cap),(1, .func (.func f) #[] #[]),(5, .int .i64 (k:Int))]) (fun k=>[]) (fun k=>1≤k∧∀j,j<k→j<xs.length→(decide (j=0)|| !decide (0≤c (cH xs (j - 1)) (cH xs j)))=true) (fun k=>xs.length - k) 1 ?_ ?_ ?_ ?_
 ·exact q4g
 ·exact (by repeat (first|exact Sub.nil|refine Sub.cons rfl ?_))
 ·exact Sx
 ·intro k hphi;obtain ⟨hk0,hall⟩:=hphi;refine q2i ?_;refine T.cond rfl (fun h1=>?_) (fun h1=>?_)
  ·have p1:=h1; (try simp only [cV] at p1);obtain ⟨g,off,rfl,hc⟩:=hsl a5;have hk:=hc k a5;have hk1:=hc (k - 1) a5;have o1:=ho1 k a5;have o2:=ho1 (k - 1) a5;simp only [Dx.cells] at hk hk1;refine q0o ?_; (refine c6 rfl (Wt.none) rfl rfl (cL rfl rfl rfl (fun w hw=>hC (cH xs (k - 1)) (cH xs k) o2 o1 w)) ?_;rintro _ _ ⟨rfl,rfl⟩;refine ⟨Sx,?_⟩);refine ky ?_;refine T.cond rfl (fun h2=>?_) (fun h2=>?_)
   ·have p2:=h2; (try simp only [cV] at p2);refine jT ?_;refine cU rfl rfl (fun w' hw=>⟨?_,hw.isBelow⟩);exact q4h
   ·have p2:=h2; (try simp only [cV] at p2);refine q1m ?_;exact K.next (k+1) ⟨by omega,fun j hj hjl=>by rcases Nat.lt_or_ge j k with hh|hh;exact hall j hh hjl;rw [show j=k from by omega,decide_eq_false a5];simpa using p2⟩ a5 (by repeat (first|exact Sub.nil|refine Sub.cons rfl ?_)) Sx
  ·have p1:=h1; (try simp only [cV] at p1);refine q3N ?_;refine cU rfl rfl (fun w' hw=>⟨?_,hw.isBelow⟩);exact q4i
theorem zj3 {q:Pr→Bool}(xs:List Pr)(v:Value)(f:FuncId)(caps:Array Value)(w:World)(h:SlOf w v Pr.cells 5 xs)[hE:Enters Tryz.prog f](hC:∀k,k<xs.length→∀w',Below w.heap.size w w'→Calls Tryz.prog f (.agg (Pr.cells (cH xs k)).toArray :: caps.toList).toArray w' fun e w''=>e= .returned (.bool (q (cH xs k)))∧Below w'.heap.size w' w'')(hl:xs.length≤9223372036854775807):Calls Tryz.prog 110 #[v, .func (.func f) #[] caps] w fun e w'=>e= .returned (.bool (fF q xs))∧Below w.heap.size w w':=by
 obtain ⟨A,cap,rfl,hsl⟩:=h.op;refine dq (M:=fun _=>False) (hs:=[]) Tryz.func110 rfl rfl rfl (Hp.refl _ _) ?_;refine iE ?_;refine jj ?_;refine T.loop (ι:=Nat) (fun k=>[(1, .func (.func f) #[] caps),(7, .slice A xs.length cap),(8, .int .i64 (xs.length:Int)),(9, .int .i64 (k:Int))]) (fun k=>[]) (fun k=>k≤xs.length∧∀j,j<k→q (cH xs j)=true) (fun k=>xs.length - k) 0 ?_ ?_ ?_ ?_
 ·exact q4d
 ·exact (by repeat (first|exact Sub.nil|refine Sub.cons rfl ?_))
 ·exact Sx
 ·intro k hphi;obtain ⟨hkl,hall⟩:=hphi;refine ei ?_;refine T.cond rfl (fun h1=>?_) (fun h1=>?_)
  ·have p1:=h1; (try simp only [cV] at p1);obtain ⟨g,off,rfl,hc⟩:=hsl a5;have hk:=hc k a5;simp only [Pr.cells] at hk;refine fq ?_;refine lc ?_; (refine cK (Wt.none) rfl rfl (Ew.alloc) ?_;rintro _ _ ⟨g6,rfl,rfl⟩); (refine dB (Wt.none) rfl (dr 0) ?_;rintro _ _ ⟨rfl,rfl⟩);refine lm ?_;refine gY ?_; (refine cK (Wt.none) rfl rfl (j8 rfl rfl rfl (fun w hw=>hC k a5 w hw.isBelow)) ?_;rintro _ _ ⟨rfl,rfl⟩);refine dP ?_;refine T.cond rfl (fun h2=>?_) (fun h2=>?_)
   ·have p2:=h2; (try simp only [cV] at p2);refine jT ?_;refine cU rfl rfl (fun w' hw=>⟨?_,hw.isBelow⟩);exact q4e
   ·have p2:=h2; (try simp only [cV] at p2);refine gB ?_;exact K.next (k+1) ⟨by omega,zdQ hall (by simpa using p2)⟩ a5 (by repeat (first|exact Sub.nil|refine Sub.cons rfl ?_)) Sx
  ·have p1:=h1; (try simp only [cV] at p1);refine q3N ?_;refine cU rfl rfl (fun w' hw=>⟨?_,hw.isBelow⟩);exact q4f
theorem zhl {c:Pr→Pr→Int}(xs:List Pr)(v:Value)(f:FuncId)(w:World)(h:SlOf w v Pr.cells 5 xs)[hE:Enters Tryz.prog f](hC:∀x y:Pr,∀w':World,Calls Tryz.prog f #[.agg (Pr.cells (x)).toArray, .agg (Pr.cells (y)).toArray] w' fun e w''=>e= .returned (.int .i64 (c x y))∧Below w'.heap.size w' w'')(hl:xs.length≤9223372036854775807):Calls Tryz.prog 132 #[v, .func (.func f) #[] #[]] w fun e w'=>e= .returned (.bool (fG c xs))∧Below w.heap.size w w':=by
 obtain ⟨A,cap,rfl,hsl⟩:=h.op;refine dq (M:=fun _=>False) (hs:=[]) Tryz.func132 rfl rfl rfl (Hp.refl _ _) ?_;refine iE ?_;refine TL.ns (T.block ?_);refine T.loop (ι:=Nat) (fun k=>[(0, .slice A xs.length cap),(1, .func (.func f) #[] #[]),(5, .int .i64 (k:Int))]) (fun k=>[]) (fun k=>1≤k∧∀j,j<k→j<xs.length→(decide (j=0)|| !decide (0≤c (cH xs (j - 1)) (cH xs j)))=true) (fun k=>xs.length - k) 1 ?_ ?_ ?_ ?_
 ·exact q4g
 ·exact (by repeat (first|exact Sub.nil|refine Sub.cons rfl ?_))
 ·exact Sx
 ·intro k hphi;obtain ⟨hk0,hall⟩:=hphi;refine q2i ?_;refine T.cond rfl (fun h1=>?_) (fun h1=>?_)
  ·have p1:=h1; (try simp only [cV] at p1);obtain ⟨g,off,rfl,hc⟩:=hsl a5;have hk:=hc k a5;have hk1:=hc (k - 1) a5;simp only [Pr.cells] at hk hk1;refine q0o ?_; (refine c6 rfl (Wt.none) rfl rfl (cL rfl rfl rfl (fun w hw=>hC (cH xs (k - 1)) (cH xs k) w)) ?_;rintro _ _ ⟨rfl,rfl⟩;refine ⟨Sx,?_⟩);refine ky ?_;refine T.cond rfl (fun h2=>?_) (fun h2=>?_)
   ·have p2:=h2; (try simp only [cV] at p2);refine jT ?_;refine cU rfl rfl (fun w' hw=>⟨?_,hw.isBelow⟩);exact q4h
   ·have p2:=h2; (try simp only [cV] at p2);refine q1m ?_;exact K.next (k+1) ⟨by omega,fun j hj hjl=>by rcases Nat.lt_or_ge j k with hh|hh;exact hall j hh hjl;rw [show j=k from by omega,decide_eq_false a5];simpa using p2⟩ a5 (by repeat (first|exact Sub.nil|refine Sub.cons rfl ?_)) Sx
  ·have p1:=h1; (try simp only [cV] at p1);refine q3N ?_;refine cU rfl rfl (fun w' hw=>⟨?_,hw.isBelow⟩);exact q4i
theorem zkq {q:Ld→Bool}(xs:List Ld)(v:Value)(f:FuncId)(caps:Array Value)(w:World)(h:SlOf w v Ld.cells 5 xs)[hE:Enters Tryz.prog f](hC:∀k,k<xs.length→∀w',Below w.heap.size w w'→Calls Tryz.prog f (.agg (Ld.cells (cH xs k)).toArray :: caps.toList).toArray w' fun e w''=>e= .returned (.bool (q (cH xs k)))∧Below w'.heap.size w' w'')(hl:xs.length≤9223372036854775807):Calls Tryz.prog 112 #[v, .func (.func f) #[] caps] w fun e w'=>e= .returned (.bool (fF q xs))∧Below w.heap.size w w':=by
 obtain ⟨A,cap,rfl,hsl⟩:=h.op;refine dq (M:=fun _=>False) (hs:=[]) Tryz.func112 rfl rfl rfl (Hp.refl _ _) ?_;refine iE ?_;refine jj ?_;refine T.loop (ι:=Nat) (fun k=>[(1, .func (.func f) #[] caps),(7, .slice A xs.length cap),(8, .int .i64 (xs.length:Int)),(9, .int .i64 (k:Int))]) (fun k=>[]) (fun k=>k≤xs.length∧∀j,j<k→q (cH xs j)=true) (fun k=>xs.length - k) 0 ?_ ?_ ?_ ?_
 ·exact q4d
 ·exact (by repeat (first|exact Sub.nil|refine Sub.cons rfl ?_))
 ·exact Sx
 ·intro k hphi;obtain ⟨hkl,hall⟩:=hphi;refine ei ?_;refine T.cond rfl (fun h1=>?_) (fun h1=>?_)
  ·have p1:=h1; (try simp only [cV] at p1);obtain ⟨g,off,rfl,hc⟩:=hsl a5;have hk:=hc k a5;simp only [Ld.cells] at hk;refine fq ?_;refine lc ?_; (refine cK (Wt.none) rfl rfl (Ew.alloc) ?_;rintro _ _ ⟨g6,rfl,rfl⟩); (refine dB (Wt.none) rfl (dr 0) ?_;rintro _ _ ⟨rfl,rfl⟩);refine lm ?_;refine gY ?_; (refine cK (Wt.none) rfl rfl (j8 rfl rfl rfl (fun w hw=>hC k a5 w hw.isBelow)) ?_;rintro _ _ ⟨rfl,rfl⟩);refine dP ?_;refine T.cond rfl (fun h2=>?_) (fun h2=>?_)
   ·have p2:=h2; (try simp only [cV] at p2);refine jT ?_;refine cU rfl rfl (fun w' hw=>⟨?_,hw.isBelow⟩);exact q4e
   ·have p2:=h2; (try simp only [cV] at p2);refine gB ?_;exact K.next (k+1) ⟨by omega,zdQ hall (by simpa using p2)⟩ a5 (by repeat (first|exact Sub.nil|refine Sub.cons rfl ?_)) Sx
  ·have p1:=h1; (try simp only [cV] at p1);refine q3N ?_;refine cU rfl rfl (fun w' hw=>⟨?_,hw.isBelow⟩);exact q4f
theorem zhS {c:Ld→Ld→Int}(xs:List Ld)(v:Value)(f:FuncId)(w:World)(h:SlOf w v Ld.cells 5 xs)[hE:Enters Tryz.prog f](hC:∀x y:Ld,∀w':World,Calls Tryz.prog f #[.agg (Ld.cells (x)).toArray, .agg (Ld.cells (y)).toArray] w' fun e w''=>e= .returned (.int .i64 (c x y))∧Below w'.heap.size w' w'')(hl:xs.length≤9223372036854775807):Calls Tryz.prog 135 #[v, .func (.func f) #[] #[]] w fun e w'=>e= .returned (.bool (fG c xs))∧Below w.heap.size w w':=by
 obtain ⟨A,cap,rfl,hsl⟩:=h.op;refine dq (M:=fun _=>False) (hs:=[]) Tryz.func135 rfl rfl rfl (Hp.refl _ _) ?_;refine iE ?_;refine TL.ns (T.block ?_);refine T.loop (ι:=Nat) (fun k=>[(0, .slice A xs.length cap),(1, .func (.func f) #[] #[]),(5, .int .i64 (k:Int))]) (fun k=>[]) (fun k=>1≤k∧∀j,j<k→j<xs.length→(decide (j=0)|| !decide (0≤c (cH xs (j - 1)) (cH xs j)))=true) (fun k=>xs.length - k) 1 ?_ ?_ ?_ ?_
 ·exact q4g
 ·exact (by repeat (first|exact Sub.nil|refine Sub.cons rfl ?_))
 ·exact Sx
 ·intro k hphi;obtain ⟨hk0,hall⟩:=hphi;refine q2i ?_;refine T.cond rfl (fun h1=>?_) (fun h1=>?_)
  ·have p1:=h1; (try simp only [cV] at p1);obtain ⟨g,off,rfl,hc⟩:=hsl a5;have hk:=hc k a5;have hk1:=hc (k - 1) a5;simp only [Ld.cells] at hk hk1;refine q0o ?_; (refine c6 rfl (Wt.none) rfl rfl (cL rfl rfl rfl (fun w hw=>hC (cH xs (k - 1)) (cH xs k) w)) ?_;rintro _ _ ⟨rfl,rfl⟩;refine ⟨Sx,?_⟩);refine ky ?_;refine T.cond rfl (fun h2=>?_) (fun h2=>?_)
   ·have p2:=h2; (try simp only [cV] at p2);refine jT ?_;refine cU rfl rfl (fun w' hw=>⟨?_,hw.isBelow⟩);exact q4h
   ·have p2:=h2; (try simp only [cV] at p2);refine q1m ?_;exact K.next (k+1) ⟨by omega,fun j hj hjl=>by rcases Nat.lt_or_ge j k with hh|hh;exact hall j hh hjl;rw [show j=k from by omega,decide_eq_false a5];simpa using p2⟩ a5 (by repeat (first|exact Sub.nil|refine Sub.cons rfl ?_)) Sx
  ·have p1:=h1; (try simp only [cV] at p1);refine q3N ?_;refine cU rfl rfl (fun w' hw=>⟨?_,hw.isBelow⟩);exact q4i
theorem zkF {q:Cp→Bool}(xs:List Cp)(v:Value)(f:FuncId)(caps:Array Value)(w:World)(h:SlOf w v Cp.cells 4 xs)[hE:Enters Tryz.prog f](hC:∀k,k<xs.length→∀w',Below w.heap.size w w'→Calls Tryz.prog f (.agg (Cp.cells (cH xs k)).toArray :: caps.toList).toArray w' fun e w''=>e= .returned (.bool (q (cH xs k)))∧Below w'.heap.size w' w'')(hl:xs.length≤9223372036854775807):Calls Tryz.prog 114 #[v, .func (.func f) #[] caps] w fun e w'=>e= .returned (.bool (fF q xs))∧Below w.heap.size w w':=by
 obtain ⟨A,cap,rfl,hsl⟩:=h.op;refine dq (M:=fun _=>False) (hs:=[]) Tryz.func114 rfl rfl rfl (Hp.refl _ _) ?_;refine iE ?_;refine jj ?_;refine T.loop (ι:=Nat) (fun k=>[(1, .func (.func f) #[] caps),(7, .slice A xs.length cap),(8, .int .i64 (xs.length:Int)),(9, .int .i64 (k:Int))]) (fun k=>[]) (fun k=>k≤xs.length∧∀j,j<k→q (cH xs j)=true) (fun k=>xs.length - k) 0 ?_ ?_ ?_ ?_
 ·exact q4d
 ·exact (by repeat (first|exact Sub.nil|refine Sub.cons rfl ?_))
 ·exact Sx
 ·intro k hphi;obtain ⟨hkl,hall⟩:=hphi;refine ei ?_;refine T.cond rfl (fun h1=>?_) (fun h1=>?_)
  ·have p1:=h1; (try simp only [cV] at p1);obtain ⟨g,off,rfl,hc⟩:=hsl a5;have hk:=hc k a5;simp only [Cp.cells] at hk;refine fq ?_;refine lc ?_; (refine cK (Wt.none) rfl rfl (Ew.alloc) ?_;rintro _ _ ⟨g6,rfl,rfl⟩); (refine dB (Wt.none) rfl (dr 0) ?_;rintro _ _ ⟨rfl,rfl⟩);refine lm ?_;refine gY ?_; (refine cK (Wt.none) rfl rfl (j8 rfl rfl rfl (fun w hw=>hC k a5 w hw.isBelow)) ?_;rintro _ _ ⟨rfl,rfl⟩);refine dP ?_;refine T.cond rfl (fun h2=>?_) (fun h2=>?_)
   ·have p2:=h2; (try simp only [cV] at p2);refine jT ?_;refine cU rfl rfl (fun w' hw=>⟨?_,hw.isBelow⟩);exact q4e
   ·have p2:=h2; (try simp only [cV] at p2);refine gB ?_;exact K.next (k+1) ⟨by omega,zdQ hall (by simpa using p2)⟩ a5 (by repeat (first|exact Sub.nil|refine Sub.cons rfl ?_)) Sx
  ·have p1:=h1; (try simp only [cV] at p1);refine q3N ?_;refine cU rfl rfl (fun w' hw=>⟨?_,hw.isBelow⟩);exact q4f
theorem zhv {c:Cp→Cp→Int}(xs:List Cp)(v:Value)(f:FuncId)(w:World)(h:SlOf w v Cp.cells 4 xs)[hE:Enters Tryz.prog f](hC:∀x y:Cp,∀w':World,Calls Tryz.prog f #[.agg (Cp.cells (x)).toArray, .agg (Cp.cells (y)).toArray] w' fun e w''=>e= .returned (.int .i64 (c x y))∧Below w'.heap.size w' w'')(hl:xs.length≤9223372036854775807):Calls Tryz.prog 138 #[v, .func (.func f) #[] #[]] w fun e w'=>e= .returned (.bool (fG c xs))∧Below w.heap.size w w':=by
 obtain ⟨A,cap,rfl,hsl⟩:=h.op;refine dq (M:=fun _=>False) (hs:=[]) Tryz.func138 rfl rfl rfl (Hp.refl _ _) ?_;refine iE ?_;refine TL.ns (T.block ?_);refine T.loop (ι:=Nat) (fun k=>[(0, .slice A xs.length cap),(1, .func (.func f) #[] #[]),(5, .int .i64 (k:Int))]) (fun k=>[]) (fun k=>1≤k∧∀j,j<k→j<xs.length→(decide (j=0)|| !decide (0≤c (cH xs (j - 1)) (cH xs j)))=true) (fun k=>xs.length - k) 1 ?_ ?_ ?_ ?_
 ·exact q4g
 ·exact (by repeat (first|exact Sub.nil|refine Sub.cons rfl ?_))
 ·exact Sx
 ·intro k hphi;obtain ⟨hk0,hall⟩:=hphi;refine q2i ?_;refine T.cond rfl (fun h1=>?_) (fun h1=>?_)
  ·have p1:=h1; (try simp only [cV] at p1);obtain ⟨g,off,rfl,hc⟩:=hsl a5;have hk:=hc k a5;have hk1:=hc (k - 1) a5;simp only [Cp.cells] at hk hk1;refine q0o ?_; (refine c6 rfl (Wt.none) rfl rfl (cL rfl rfl rfl (fun w hw=>hC (cH xs (k - 1)) (cH xs k) w)) ?_;rintro _ _ ⟨rfl,rfl⟩;refine ⟨Sx,?_⟩);refine ky ?_;refine T.cond rfl (fun h2=>?_) (fun h2=>?_)
   ·have p2:=h2; (try simp only [cV] at p2);refine jT ?_;refine cU rfl rfl (fun w' hw=>⟨?_,hw.isBelow⟩);exact q4h
   ·have p2:=h2; (try simp only [cV] at p2);refine q1m ?_;exact K.next (k+1) ⟨by omega,fun j hj hjl=>by rcases Nat.lt_or_ge j k with hh|hh;exact hall j hh hjl;rw [show j=k from by omega,decide_eq_false a5];simpa using p2⟩ a5 (by repeat (first|exact Sub.nil|refine Sub.cons rfl ?_)) Sx
  ·have p1:=h1; (try simp only [cV] at p1);refine q3N ?_;refine cU rfl rfl (fun w' hw=>⟨?_,hw.isBelow⟩);exact q4i
theorem zlv {q:Int→Bool}(xs:List Int)(v:Value)(f:FuncId)(caps:Array Value)(w:World)(h:SlOf w v Ie 1 xs)[hE:Enters Tryz.prog f](hC:∀k,k<xs.length→∀w',Below w.heap.size w w'→Calls Tryz.prog f (.int .i64 (cH xs k) :: caps.toList).toArray w' fun e w''=>e= .returned (.bool (q (cH xs k)))∧Below w'.heap.size w' w'')(hl:xs.length≤9223372036854775807):Calls Tryz.prog 122 #[v, .func (.func f) #[] caps] w fun e w'=>e= .returned (.bool (fF q xs))∧Below w.heap.size w w':=by
 obtain ⟨A,cap,rfl,hsl⟩:=h.op;refine dq (M:=fun _=>False) (hs:=[]) Tryz.func122 rfl rfl rfl (Hp.refl _ _) ?_;refine iE ?_;refine jj ?_;refine T.loop (ι:=Nat) (fun k=>[(1, .func (.func f) #[] caps),(7, .slice A xs.length cap),(8, .int .i64 (xs.length:Int)),(9, .int .i64 (k:Int))]) (fun k=>[]) (fun k=>k≤xs.length∧∀j,j<k→q (cH xs j)=true) (fun k=>xs.length - k) 0 ?_ ?_ ?_ ?_
 ·exact q4d
 ·exact (by repeat (first|exact Sub.nil|refine Sub.cons rfl ?_))
 ·exact Sx
 ·intro k hphi;obtain ⟨hkl,hall⟩:=hphi;refine ei ?_;refine T.cond rfl (fun h1=>?_) (fun h1=>?_)
  ·have p1:=h1; (try simp only [cV] at p1);obtain ⟨g,off,rfl,hc⟩:=hsl a5;have hk:=hc k a5;simp only [Ie] at hk;refine fq ?_;refine q1V ?_;refine f9 ?_;refine d5 ?_; (refine cK (Wt.none) rfl rfl (j8 rfl rfl rfl (fun w hw=>hC k a5 w hw.isBelow)) ?_;rintro _ _ ⟨rfl,rfl⟩);refine dP ?_;refine T.cond rfl (fun h2=>?_) (fun h2=>?_)
   ·have p2:=h2; (try simp only [cV] at p2);refine jT ?_;refine cU rfl rfl (fun w' hw=>⟨?_,hw.isBelow⟩);exact q4e
   ·have p2:=h2; (try simp only [cV] at p2);refine gB ?_;exact K.next (k+1) ⟨by omega,zdQ hall (by simpa using p2)⟩ a5 (by repeat (first|exact Sub.nil|refine Sub.cons rfl ?_)) Sx
  ·have p1:=h1; (try simp only [cV] at p1);refine q3N ?_;refine cU rfl rfl (fun w' hw=>⟨?_,hw.isBelow⟩);exact q4f
theorem zg4 {c:Int→Int→Int}(xs:List Int)(v:Value)(f:FuncId)(w:World)(h:SlOf w v Ie 1 xs)[hE:Enters Tryz.prog f](hC:∀x y:Int,∀w':World,Calls Tryz.prog f #[.int .i64 (x), .int .i64 (y)] w' fun e w''=>e= .returned (.int .i64 (c x y))∧Below w'.heap.size w' w'')(hl:xs.length≤9223372036854775807):Calls Tryz.prog 123 #[v, .func (.func f) #[] #[]] w fun e w'=>e= .returned (.bool (fG c xs))∧Below w.heap.size w w':=by
 obtain ⟨A,cap,rfl,hsl⟩:=h.op;refine dq (M:=fun _=>False) (hs:=[]) Tryz.func123 rfl rfl rfl (Hp.refl _ _) ?_;refine iE ?_;refine TL.ns (T.block ?_);refine T.loop (ι:=Nat) (fun k=>[(0, .slice A xs.length cap),(1, .func (.func f) #[] #[]),(5, .int .i64 (k:Int))]) (fun k=>[]) (fun k=>1≤k∧∀j,j<k→j<xs.length→(decide (j=0)|| !decide (0≤c (cH xs (j - 1)) (cH xs j)))=true) (fun k=>xs.length - k) 1 ?_ ?_ ?_ ?_
 ·exact q4g
 ·exact (by repeat (first|exact Sub.nil|refine Sub.cons rfl ?_))
 ·exact Sx
 ·intro k hphi;obtain ⟨hk0,hall⟩:=hphi;refine q2i ?_;refine T.cond rfl (fun h1=>?_) (fun h1=>?_)
  ·have p1:=h1; (try simp only [cV] at p1);obtain ⟨g,off,rfl,hc⟩:=hsl a5;have hk:=hc k a5;have hk1:=hc (k - 1) a5;simp only [Ie] at hk hk1;refine q1S ?_;refine q2t ?_;refine cR rfl (fV rfl rfl rfl (show (k:Int) - 1=((k - 1:Nat):Int) from by omega) a5) ?_;refine cR rfl (dY (j:=0) rfl rfl hk1 rfl rfl (fun h=>h)) ?_;refine iQ ?_;refine q2E ?_;refine cR rfl (dY (j:=0) rfl rfl hk rfl rfl (fun h=>h)) ?_;refine dF ?_; (refine c6 rfl (Wt.none) rfl rfl (cL rfl rfl rfl (fun w hw=>hC (cH xs (k - 1)) (cH xs k) w)) ?_;rintro _ _ ⟨rfl,rfl⟩;refine ⟨Sx,?_⟩);refine ky ?_;refine T.cond rfl (fun h2=>?_) (fun h2=>?_)
   ·have p2:=h2; (try simp only [cV] at p2);refine jT ?_;refine cU rfl rfl (fun w' hw=>⟨?_,hw.isBelow⟩);exact q4h
   ·have p2:=h2; (try simp only [cV] at p2);refine q1m ?_;exact K.next (k+1) ⟨by omega,fun j hj hjl=>by rcases Nat.lt_or_ge j k with hh|hh;exact hall j hh hjl;rw [show j=k from by omega,decide_eq_false a5];simpa using p2⟩ a5 (by repeat (first|exact Sub.nil|refine Sub.cons rfl ?_)) Sx
  ·have p1:=h1; (try simp only [cV] at p1);refine q3N ?_;refine cU rfl rfl (fun w' hw=>⟨?_,hw.isBelow⟩);exact q4i
def Pr.ok (x:Pr):Bool:=inB x.a 0 511&&(inB x.b 0 511&&(decide (x.a<x.b)&&(inB x.off (-1) 1&&ij x.lo x.hi)))
def Ld.ok (x:Ld):Bool:=inB x.to 0 511&&(inB x.fr 0 511&&(decide (¬x.to=x.fr)&&(inB x.wt 1 1073741824&&ij x.lo x.hi)))
def Cp.ok (x:Cp):Bool:=inB x.st 0 511&&(inB x.mx 0 1099511627776&&ij x.lo x.hi)
def Pr.cmp (x y:Pr):Int:=orL [dV x.a y.a,dV x.b y.b,dV x.off y.off,dV x.lo y.lo,dV x.hi y.hi]
def Ld.cmp (x y:Ld):Int:=orL [dV x.to y.to,dV x.fr y.fr,dV x.wt y.wt,dV x.lo y.lo,dV x.hi y.hi]
def Cp.cmp (x y:Cp):Int:=orL [dV x.st y.st,dV x.mx y.mx,dV x.lo y.lo,dV x.hi y.hi]
theorem zhD (x:Pr)(w:World):Calls Tryz.prog 131 #[.agg (Pr.cells x).toArray] w fun e w'=>e= .returned (.bool x.ok)∧Below w.heap.size w w':=by
 refine dq (M:=fun _=>False) (hs:=[]) Tryz.func131 rfl rfl rfl (Hp.refl _ _) ?_;simp only [Pr.cells];refine de ?_; (refine cK (Wt.none) rfl rfl (dv) ?_;rintro _ _ ⟨g1,rfl,rfl⟩);refine f9 ?_;refine eu ?_; (refine cK (Wt.none) rfl rfl (cL rfl rfl rfl (fun w hw=>zb1 _ _)) ?_;rintro _ _ ⟨rfl,rfl⟩);refine dd ?_;refine dk rfl rfl rfl (fun h1=>?_) (fun h1=>?_)
 ·have p1:=h1; (try simp only [cV] at p1);refine q0I ?_; (refine cK (Wt.some rfl rfl rfl h1) rfl rfl (cL rfl rfl rfl (fun w hw=>zb1 _ _)) ?_;rintro _ _ ⟨rfl,rfl⟩);refine kd ?_;refine dd ?_;refine dk rfl rfl rfl (fun h2=>?_) (fun h2=>?_)
  ·have p2:=h2; (try simp only [cV] at p2);refine mb ?_;refine mb ?_;refine lB ?_;refine q2s ?_;refine dd ?_;refine dk rfl rfl rfl (fun h3=>?_) (fun h3=>?_)
   ·have p3:=h3; (try simp only [cV] at p3);refine q0P ?_; (refine cK (Wt.some rfl rfl rfl h3) rfl rfl (cL rfl rfl rfl (fun w hw=>zc4 _ _ _ _)) ?_;rintro _ _ ⟨rfl,rfl⟩);refine q3r ?_;refine dd ?_;refine dk rfl rfl rfl (fun h4=>?_) (fun h4=>?_)
    ·have p4:=h4; (try simp only [cV] at p4);refine q0S ?_;refine q0S ?_; (refine cK (Wt.some rfl rfl rfl h4) rfl rfl (cL rfl rfl rfl (fun w hw=>zej _ _ _)) ?_;rintro _ _ ⟨rfl,rfl⟩);refine cI (ez rfl rfl h4) ?_;refine eU ?_;refine cU rfl rfl (fun w' hw=>⟨?_,hw.isBelow⟩);exact q4j
    ·have p4:=h4; (try simp only [cV] at p4);refine q15 ?_;refine eU ?_;refine cU rfl rfl (fun w' hw=>⟨?_,hw.isBelow⟩);exact q4j
   ·have p3:=h3; (try simp only [cV] at p3);refine q0n ?_;refine cI (d9 rfl rfl h3) ?_;refine TL.run 8 rfl ?_;refine fJ ?_;refine cU rfl rfl (fun w' hw=>⟨?_,hw.isBelow⟩);exact q4j
  ·have p2:=h2; (try simp only [cV] at p2);refine q0i ?_;refine q1J ?_;refine TL.run 13 rfl ?_;refine fJ ?_;refine cU rfl rfl (fun w' hw=>⟨?_,hw.isBelow⟩);exact q4j
 ·have p1:=h1; (try simp only [cV] at p1);refine q1j ?_;refine TL.run 20 rfl ?_;refine fJ ?_;refine cU rfl rfl (fun w' hw=>⟨?_,hw.isBelow⟩);exact q4j
theorem zfl (x y:Pr)(w:World):Calls Tryz.prog 133 #[.agg (Pr.cells x).toArray, .agg (Pr.cells y).toArray] w fun e w'=>e= .returned (.int .i64 (x.cmp y))∧Below w.heap.size w w':=by
 refine dq (M:=fun _=>False) (hs:=[]) Tryz.func133 rfl rfl rfl (Hp.refl _ _) ?_;simp only [Pr.cells];refine de ?_; (refine cK (Wt.none) rfl rfl (dv) ?_;rintro _ _ ⟨g2,rfl,rfl⟩); (refine cK (Wt.none) rfl rfl (dv) ?_;rintro _ _ ⟨g3,rfl,rfl⟩);refine dd ?_;refine q1e ?_; (refine c6 rfl (Wt.none) rfl rfl (cL rfl rfl rfl (fun w hw=>kh _ _ _)) ?_;rintro _ _ ⟨rfl,rfl⟩;refine ⟨Sx,?_⟩);refine dF ?_; (refine c6 rfl (Wt.none) rfl rfl (cL rfl rfl rfl (fun w hw=>kh _ _ _)) ?_;rintro _ _ ⟨rfl,rfl⟩;refine ⟨Sx,?_⟩);refine dF ?_; (refine c6 rfl (Wt.none) rfl rfl (cL rfl rfl rfl (fun w hw=>kh _ _ _)) ?_;rintro _ _ ⟨rfl,rfl⟩;refine ⟨Sx,?_⟩);refine dF ?_; (refine c6 rfl (Wt.none) rfl rfl (cL rfl rfl rfl (fun w hw=>kh _ _ _)) ?_;rintro _ _ ⟨rfl,rfl⟩;refine ⟨Sx,?_⟩);refine dF ?_; (refine c6 rfl (Wt.none) rfl rfl (cL rfl rfl rfl (fun w hw=>kh _ _ _)) ?_;rintro _ _ ⟨rfl,rfl⟩;refine ⟨Sx,?_⟩);refine dF ?_; (refine c6 rfl (Wt.none) rfl rfl (Ew.buildSlice rfl rfl rfl a6) ?_;rintro _ _ ⟨g30,rfl,rfl⟩;refine ⟨Sx,?_⟩);refine dF ?_; (refine c6 rfl (Wt.none) rfl rfl (cL rfl rfl rfl (fun w hw=>zjB [dV x.a y.a,dV x.b y.b,dV x.off y.off,dV x.lo y.lo,dV x.hi y.hi] _ w (SlOf.lit (enc:=Ie) (size:=1) (fun _=>rfl) _ (cW.1 (hw.get (i:=0) rfl)) rfl rfl) a7)) ?_;rintro _ _ ⟨rfl,rfl⟩;refine ⟨Sx,?_⟩);refine q3X ?_;refine cU rfl rfl (fun w' hw=>⟨?_,hw.isBelow⟩)
 rfl
theorem zht (x:Ld)(w:World):Calls Tryz.prog 134 #[.agg (Ld.cells x).toArray] w fun e w'=>e= .returned (.bool x.ok)∧Below w.heap.size w w':=by
 refine dq (M:=fun _=>False) (hs:=[]) Tryz.func134 rfl rfl rfl (Hp.refl _ _) ?_;simp only [Ld.cells];refine de ?_; (refine cK (Wt.none) rfl rfl (dv) ?_;rintro _ _ ⟨g1,rfl,rfl⟩);refine f9 ?_;refine eu ?_; (refine cK (Wt.none) rfl rfl (cL rfl rfl rfl (fun w hw=>zb1 _ _)) ?_;rintro _ _ ⟨rfl,rfl⟩);refine dd ?_;refine dk rfl rfl rfl (fun h1=>?_) (fun h1=>?_)
 ·have p1:=h1; (try simp only [cV] at p1);refine q0I ?_; (refine cK (Wt.some rfl rfl rfl h1) rfl rfl (cL rfl rfl rfl (fun w hw=>zb1 _ _)) ?_;rintro _ _ ⟨rfl,rfl⟩);refine kd ?_;refine dd ?_;refine dk rfl rfl rfl (fun h2=>?_) (fun h2=>?_)
  ·have p2:=h2; (try simp only [cV] at p2);refine mb ?_;refine mb ?_;refine lB ?_;refine q2s ?_;refine dd ?_;refine dk rfl rfl rfl (fun h3=>?_) (fun h3=>?_)
   ·have p3:=h3; (try simp only [cV] at p3);refine q0P ?_; (refine cK (Wt.some rfl rfl rfl h3) rfl rfl (cL rfl rfl rfl (fun w hw=>zc4 _ _ _ _)) ?_;rintro _ _ ⟨rfl,rfl⟩);refine q3r ?_;refine dd ?_;refine dk rfl rfl rfl (fun h4=>?_) (fun h4=>?_)
    ·have p4:=h4; (try simp only [cV] at p4);refine q0S ?_;refine q0S ?_; (refine cK (Wt.some rfl rfl rfl h4) rfl rfl (cL rfl rfl rfl (fun w hw=>zej _ _ _)) ?_;rintro _ _ ⟨rfl,rfl⟩);refine cI (ez rfl rfl h4) ?_;refine eU ?_;refine cU rfl rfl (fun w' hw=>⟨?_,hw.isBelow⟩);exact q4k
    ·have p4:=h4; (try simp only [cV] at p4);refine q15 ?_;refine eU ?_;refine cU rfl rfl (fun w' hw=>⟨?_,hw.isBelow⟩);exact q4k
   ·have p3:=h3; (try simp only [cV] at p3);refine q0n ?_;refine cI (d9 rfl rfl h3) ?_;refine TL.run 8 rfl ?_;refine fJ ?_;refine cU rfl rfl (fun w' hw=>⟨?_,hw.isBelow⟩);exact q4k
  ·have p2:=h2; (try simp only [cV] at p2);refine q0i ?_;refine q1J ?_;refine TL.run 13 rfl ?_;refine fJ ?_;refine cU rfl rfl (fun w' hw=>⟨?_,hw.isBelow⟩);exact q4k
 ·have p1:=h1; (try simp only [cV] at p1);refine q1j ?_;refine TL.run 20 rfl ?_;refine fJ ?_;refine cU rfl rfl (fun w' hw=>⟨?_,hw.isBelow⟩);exact q4k
theorem zfn (x y:Ld)(w:World):Calls Tryz.prog 136 #[.agg (Ld.cells x).toArray, .agg (Ld.cells y).toArray] w fun e w'=>e= .returned (.int .i64 (x.cmp y))∧Below w.heap.size w w':=by
 refine dq (M:=fun _=>False) (hs:=[]) Tryz.func136 rfl rfl rfl (Hp.refl _ _) ?_;simp only [Ld.cells];refine de ?_; (refine cK (Wt.none) rfl rfl (dv) ?_;rintro _ _ ⟨g2,rfl,rfl⟩); (refine cK (Wt.none) rfl rfl (dv) ?_;rintro _ _ ⟨g3,rfl,rfl⟩);refine dd ?_;refine q1e ?_; (refine c6 rfl (Wt.none) rfl rfl (cL rfl rfl rfl (fun w hw=>kh _ _ _)) ?_;rintro _ _ ⟨rfl,rfl⟩;refine ⟨Sx,?_⟩);refine dF ?_; (refine c6 rfl (Wt.none) rfl rfl (cL rfl rfl rfl (fun w hw=>kh _ _ _)) ?_;rintro _ _ ⟨rfl,rfl⟩;refine ⟨Sx,?_⟩);refine dF ?_; (refine c6 rfl (Wt.none) rfl rfl (cL rfl rfl rfl (fun w hw=>kh _ _ _)) ?_;rintro _ _ ⟨rfl,rfl⟩;refine ⟨Sx,?_⟩);refine dF ?_; (refine c6 rfl (Wt.none) rfl rfl (cL rfl rfl rfl (fun w hw=>kh _ _ _)) ?_;rintro _ _ ⟨rfl,rfl⟩;refine ⟨Sx,?_⟩);refine dF ?_; (refine c6 rfl (Wt.none) rfl rfl (cL rfl rfl rfl (fun w hw=>kh _ _ _)) ?_;rintro _ _ ⟨rfl,rfl⟩;refine ⟨Sx,?_⟩);refine dF ?_; (refine c6 rfl (Wt.none) rfl rfl (Ew.buildSlice rfl rfl rfl a6) ?_;rintro _ _ ⟨g30,rfl,rfl⟩;refine ⟨Sx,?_⟩);refine dF ?_; (refine c6 rfl (Wt.none) rfl rfl (cL rfl rfl rfl (fun w hw=>zjB [dV x.to y.to,dV x.fr y.fr,dV x.wt y.wt,dV x.lo y.lo,dV x.hi y.hi] _ w (SlOf.lit (enc:=Ie) (size:=1) (fun _=>rfl) _ (cW.1 (hw.get (i:=0) rfl)) rfl rfl) a7)) ?_;rintro _ _ ⟨rfl,rfl⟩;refine ⟨Sx,?_⟩);refine q3X ?_;refine cU rfl rfl (fun w' hw=>⟨?_,hw.isBelow⟩)
 rfl
theorem zh9 (x:Cp)(w:World):Calls Tryz.prog 137 #[.agg (Cp.cells x).toArray] w fun e w'=>e= .returned (.bool x.ok)∧Below w.heap.size w w':=by
 refine dq (M:=fun _=>False) (hs:=[]) Tryz.func137 rfl rfl rfl (Hp.refl _ _) ?_;simp only [Cp.cells];refine de ?_; (refine cK (Wt.none) rfl rfl (dv) ?_;rintro _ _ ⟨g1,rfl,rfl⟩);refine f9 ?_;refine eu ?_; (refine cK (Wt.none) rfl rfl (cL rfl rfl rfl (fun w hw=>zb1 _ _)) ?_;rintro _ _ ⟨rfl,rfl⟩);refine dd ?_;refine dk rfl rfl rfl (fun h1=>?_) (fun h1=>?_)
 ·have p1:=h1; (try simp only [cV] at p1);refine q0I ?_; (refine cK (Wt.some rfl rfl rfl h1) rfl rfl (cL rfl rfl rfl (fun w hw=>zc4 _ _ _ _)) ?_;rintro _ _ ⟨rfl,rfl⟩);refine kd ?_;refine dd ?_;refine dk rfl rfl rfl (fun h2=>?_) (fun h2=>?_)
  ·have p2:=h2; (try simp only [cV] at p2);refine mb ?_;refine mb ?_; (refine cK (Wt.some rfl rfl rfl h2) rfl rfl (cL rfl rfl rfl (fun w hw=>zej _ _ _)) ?_;rintro _ _ ⟨rfl,rfl⟩);refine q2s ?_;refine eU ?_;refine cU rfl rfl (fun w' hw=>⟨?_,hw.isBelow⟩);exact q4t
  ·have p2:=h2; (try simp only [cV] at p2);refine q0i ?_;refine q1J ?_;refine eU ?_;refine cU rfl rfl (fun w' hw=>⟨?_,hw.isBelow⟩);exact q4t
 ·have p1:=h1; (try simp only [cV] at p1);refine q1j ?_;refine TL.run 8 rfl ?_;refine fJ ?_;refine cU rfl rfl (fun w' hw=>⟨?_,hw.isBelow⟩);exact q4t
theorem zfE (x y:Cp)(w:World):Calls Tryz.prog 139 #[.agg (Cp.cells x).toArray, .agg (Cp.cells y).toArray] w fun e w'=>e= .returned (.int .i64 (x.cmp y))∧Below w.heap.size w w':=by
 refine dq (M:=fun _=>False) (hs:=[]) Tryz.func139 rfl rfl rfl (Hp.refl _ _) ?_;simp only [Cp.cells];refine de ?_; (refine cK (Wt.none) rfl rfl (dv) ?_;rintro _ _ ⟨g2,rfl,rfl⟩); (refine cK (Wt.none) rfl rfl (dv) ?_;rintro _ _ ⟨g3,rfl,rfl⟩);refine kx ?_;refine dT (sN 0 4 (sN 5 4 (sN 10 4 (sN 15 4 (.eff 4 (.eff 9 (.eff 14 (.eff 19 (.eff 20 (.eff 21 (.still 22 .done))))))))))) _ a8 (List.Sublist.refl _) ?_;refine q0x ?_;refine iq ?_;refine cR rfl (cS 1) ?_;refine fY ?_;refine dF ?_; (refine c6 rfl (Wt.none) rfl rfl (cL rfl rfl rfl (fun w hw=>kh _ _ _)) ?_;rintro _ _ ⟨rfl,rfl⟩;refine ⟨Sx,?_⟩);refine dF ?_; (refine c6 rfl (Wt.none) rfl rfl (cL rfl rfl rfl (fun w hw=>kh _ _ _)) ?_;rintro _ _ ⟨rfl,rfl⟩;refine ⟨Sx,?_⟩);refine dF ?_; (refine c6 rfl (Wt.none) rfl rfl (cL rfl rfl rfl (fun w hw=>kh _ _ _)) ?_;rintro _ _ ⟨rfl,rfl⟩;refine ⟨Sx,?_⟩);refine dF ?_; (refine c6 rfl (Wt.none) rfl rfl (cL rfl rfl rfl (fun w hw=>kh _ _ _)) ?_;rintro _ _ ⟨rfl,rfl⟩;refine ⟨Sx,?_⟩);refine dF ?_; (refine c6 rfl (Wt.none) rfl rfl (Ew.buildSlice rfl rfl rfl a6) ?_;rintro _ _ ⟨g25,rfl,rfl⟩;refine ⟨Sx,?_⟩);refine dF ?_; (refine c6 rfl (Wt.none) rfl rfl (cL rfl rfl rfl (fun w hw=>zjB [dV x.st y.st,dV x.mx y.mx,dV x.lo y.lo,dV x.hi y.hi] _ w (SlOf.lit (enc:=Ie) (size:=1) (fun _=>rfl) _ (cW.1 (hw.get (i:=0) rfl)) rfl rfl) a7)) ?_;rintro _ _ ⟨rfl,rfl⟩;refine ⟨Sx,?_⟩);refine q3X ?_;refine cU rfl rfl (fun w' hw=>⟨?_,hw.isBelow⟩)
 rfl
theorem Cs.later {w w':World}(hb:Below w.heap.size w w'){g p:Nat}{l:List Value}(h:Cs w g p l):Cs w' g p l:=h.kept (gj hb) (fun h=>h)
def Dx.ok (d:Dx):Bool:=inB d.st 0 511&&(fF (fun c=>inB c 2 51) d.chs&&fG dV d.chs)
def Pb.rulesOk (P:Pb):Bool:=decide ((P.ps.length:Int)≤4096)&&(fF Pr.ok P.ps&&(fG Pr.cmp P.ps&&(decide ((P.ls.length:Int)≤1024)&&(fF Ld.ok P.ls&&(fG Ld.cmp P.ls&&(decide ((P.cs.length:Int)≤1024)&&(fF Cp.ok P.cs&&fG Cp.cmp P.cs)))))))
abbrev Ws:=List (BitVec 64)
abbrev Ws.cells (ws:Ws):List Value:=ws.map fun b=>U b
def e9:Ws:=List.replicate 8 0#64
def dR (ws:Ws)(i:Nat):Ws:=ws.set (i / 64) (cH ws (i / 64) ||| 1#64 <<< (i % 64))
def et (ws:Ws)(i:Nat):Bool:=(cH ws (i / 64)).getLsbD (i % 64)
def je (ws:Ws)(i:Int):Bool:=inB i 0 511&&et ws i.toNat
def ln (l:List Int):Ws:=l.foldl (fun s i=>dR s i.toNat) e9
theorem kz {ws:Ws}{i:Nat}:(dR ws i).length=ws.length:=by simp [dR]
theorem kv (l:List Int):(ln l).length=8:=by
 have:∀(l:List Int) (s:Ws),(l.foldl (fun s i=>dR s i.toNat) s).length=s.length:=by
  intro l
  induction l with
  |nil=>intro s;rfl
  |cons x r ih=>intro s;simp only [List.foldl_cons,ih,kz]
 exact this l e9
theorem zjo {l:List Int}{k:Nat}(h:k<l.length):ln (l.take (k+1))=dR (ln (l.take k)) (cH l k).toNat:=by
 unfold ln;rw [List.take_succ_eq_append_getElem h,dW h,List.foldl_append];rfl
theorem Ws.get {ws:Ws}{i p:Nat}(h:i<ws.length)(hp:p=i):ws.cells[p]?=some (U (cH ws i)):=by
 subst hp;simp [cH,h]
theorem Ws.put {ws:Ws}{i p:Nat}{b:BitVec 64}(hp:p=i):ws.cells.set p (U b)=Ws.cells (ws.set i b):=by
 subst hp;simp [List.map_set]
theorem zhJ (a:BitVec 64)(j:Nat):decide (((((a >>> j) &&& 1#64).toNat:Nat):Int)=1)=a.getLsbD j:=by
 rw [BitVec.toNat_and,BitVec.toNat_ushiftRight]
 show decide ((((a.toNat >>> j &&& 1):Nat):Int)=1)=a.toNat.testBit j
 rw [Nat.and_one_is_mod,Nat.testBit,Nat.and_comm,Nat.and_one_is_mod];rcases Nat.mod_two_eq_zero_or_one (a.toNat >>> j) with h|h <;> rw [h] <;> rfl
theorem zfu {ws:Ws}{i j:Nat}(hl:ws.length=8)(hi:i<512)(hj:j<512):et (dR ws i) j=(et ws j||decide (i=j)):=by
 unfold et dR cH;simp only [List.getD_eq_getElem?_getD];by_cases h:i / 64=j / 64
 ·rw [h,List.getElem?_set_self a5];simp only [Option.getD_some,BitVec.getLsbD_or,BitVec.getLsbD_shiftLeft];by_cases h2:i=j
  ·subst h2;have hm:i % 64<64:=Nat.mod_lt _ a6;simp [hm]
  ·(have hm:¬i % 64=j % 64:=by omega);rw [decide_eq_false h2,Bool.or_false]
   have:(decide (j % 64<64)&& !decide (j % 64<i % 64)&&(1#64).getLsbD (j % 64 - i % 64))=false:=by
    by_cases h3:j % 64<i % 64
    ·simp [h3]
    ·rw [show (1#64).getLsbD (j % 64 - i % 64)=false from by rw [BitVec.getLsbD_one];simp;omega];simp
   rw [this,Bool.or_false]
 ·rw [List.getElem?_set_ne h,decide_eq_false (by intro hh;subst hh;exact h rfl),Bool.or_false]
theorem zdH (j:Nat):et e9 j=false:=by
 unfold et e9 cH;rw [List.getD_eq_getElem?_getD,List.getElem?_replicate]
 split
 ·simp
 ·exact BitVec.getLsbD_zero
theorem zjD (l:List Int)(hl:∀x∈l,0≤x∧x≤511)(j:Int):je (ln l) j=true↔j∈l:=by
 have key:∀(l:List Int) (s:Ws),s.length=8→(∀x∈l,0≤x∧x≤511)→∀j:Nat,j<512→(et (l.foldl (fun s i=>dR s i.toNat) s) j=true↔et s j=true∨(j:Int)∈l):=by
  intro l
  induction l with
  |nil=>intro s _ _ j _;simp
  |cons x r ih=>
   intro s hs hx j hj;have h1:=hx x a7;rw [List.foldl_cons,ih _ (by rw [kz,hs]) (fun y hy=>hx y (by simp [hy])) j hj,zfu hs a5 hj];simp only [Bool.or_eq_true,decide_eq_true_eq,List.mem_cons];constructor
   ·rintro ((h|h)|h)
    ·exact .inl h
    ·exact .inr (.inl a5)
    ·exact .inr (.inr h)
   ·rintro (h|h|h)
    ·exact .inl (.inl h)
    ·exact .inl (.inr a5)
    ·exact .inr h
 unfold je inB;by_cases h:0≤j∧j≤511
 ·rw [decide_eq_true h.1,decide_eq_true h.2,Bool.and_true,Bool.true_and,show et (ln l) j.toNat=true↔_ from key l e9 (by rfl) hl j.toNat a5,zdH,Int.toNat_of_nonneg h.1];simp
 ·constructor
  ·intro hh;simp only [Bool.and_eq_true,decide_eq_true_eq] at hh;exact absurd hh.1 h
  ·intro hm;exact absurd (hl j hm) h
def Pb.has (P:Pb)(i:Int):Bool:=je (ln (P.ds.map (·.st))) i
def Pb.ok (P:Pb):Bool:=fF Dx.ok P.ds&&(P.rulesOk&&(fG (fun a b=>dV a.st b.st) P.ds&&(fF (fun x:Pr=>P.has x.a&&P.has x.b) P.ps&&(fF (fun x:Ld=>P.has x.to&&P.has x.fr) P.ls&&fF (fun x:Cp=>P.has x.st) P.cs))))
theorem zln {α:Type}[Inhabited α]{q:α→Bool}{xs:List α}:fF q xs=true↔∀k,k<xs.length→q (cH xs k)=true:=by
 unfold fF;rw [List.all_eq_true];simp only [List.mem_range]
theorem ec {α:Type}[Inhabited α]{q:α→Bool}{xs:List α}:fF q xs=true↔∀x∈xs,q x=true:=by
 rw [zln];constructor
 ·intro h x hx;obtain ⟨k,hk,rfl⟩:=List.mem_iff_getElem.1 hx;rw [←dW hk];exact h k hk
 ·intro h k hk;exact h _ (iD hk)
theorem j3 {α:Type}[Inhabited α]{c:α→α→Int}{xs:List α}:fG c xs=true↔∀k,k+1<xs.length→c (cH xs k) (cH xs (k+1))<0:=by
 unfold fG;rw [List.all_eq_true];simp only [List.mem_range];constructor
 ·intro h k hk;have:=h (k+1) hk;simp at this;omega
 ·intro h k hk
  cases k with
  |zero=>rfl
  |succ k=>have:=h k hk;simp;omega
theorem j5 {a b:Int}:dV a b<0↔a<b:=by unfold dV;split <;> (try split) <;> omega
theorem zkM {α:Type}[Inhabited α]{f:α→Int}{xs:List α}(hi:fG (fun a b=>dV (f a) (f b)) xs=true)(h0:∀x∈xs,0≤f x):∀k,k<xs.length→(k:Int)≤f (cH xs k)
 |0,h=>h0 _ (iD h)
 |k+1,h=>by
  have h1:=zkM hi h0 k a5;have h2:=j5.1 (j3.1 hi k h);omega
theorem zj4 {xs:List Dx}(hi:fG (fun a b:Dx=>dV a.st b.st) xs=true)(hr:fF Dx.ok xs=true):xs.length≤512:=by
 have hst:∀x∈xs,0≤x.st∧x.st≤511:=fun x hx=>by
  have:=ec.1 hr x hx;simp only [Dx.ok,inB,Bool.and_eq_true,decide_eq_true_eq] at this;exact this.1
 rcases Nat.lt_or_ge 512 xs.length with h|h
 ·have h1:=zkM (f:=Dx.st) hi (fun x hx=>(hst x hx).1) 512 h;have h2:=hst _ (iD h);omega
 ·exact h
theorem zjm (c:Int)(w:World):Calls Tryz.prog 130 #[.int .i64 c] w fun e w'=>e= .returned (.bool (inB c 2 51))∧Below w.heap.size w w':=by
 refine dq (M:=fun _=>False) (hs:=[]) Tryz.func130 rfl rfl rfl (Hp.refl _ _) ?_;refine mh ?_; (refine cK (Wt.none) rfl rfl (cL rfl rfl rfl (fun w hw=>zc4 _ _ _ _)) ?_;rintro _ _ ⟨rfl,rfl⟩);refine eU ?_;refine cU rfl rfl (fun w' hw=>⟨?_,hw.isBelow⟩)
 rfl
theorem zgj (d:Dx)(w:World)(h:zfQ w d.v d.chs)(hl:d.chs.length≤9223372036854775807):Calls Tryz.prog 104 #[.agg (Dx.cells d).toArray] w fun e w'=>e= .returned (.bool d.ok)∧Below w.heap.size w w':=by
 haveI:=h.one;refine dq (M:=fun _=>False) (hs:=[]) Tryz.func104 rfl rfl rfl (Hp.refl _ _) ?_;simp only [Dx.cells];refine de ?_; (refine cK (Wt.none) rfl rfl (dv) ?_;rintro _ _ ⟨g1,rfl,rfl⟩);refine f9 ?_;refine f9 ?_;refine eu ?_; (refine cK (Wt.none) rfl rfl (cL rfl rfl rfl (fun w hw=>zb1 _ _)) ?_;rintro _ _ ⟨rfl,rfl⟩);refine dd ?_;refine dk rfl rfl rfl (fun h1=>?_) (fun h1=>?_)
 ·have p1:=h1; (try simp only [cV] at p1);refine q0I ?_;refine jC ?_; (refine cK (Wt.some rfl rfl rfl h1) rfl rfl (cL rfl rfl rfl (fun w hw=>zlv (q:=fun c=>inB c 2 51) d.chs _ _ #[] w (h.kept hw) (fun k hk w1 hb=>zjm _ w1) hl)) ?_;rintro _ _ ⟨rfl,rfl⟩);refine kd ?_;refine dd ?_;refine dk rfl rfl rfl (fun h2=>?_) (fun h2=>?_)
  ·have p2:=h2; (try simp only [cV] at p2);refine mb ?_; (refine cK (Wt.some rfl rfl rfl h2) rfl rfl (cL rfl rfl rfl (fun w hw=>zg4 (c:=dV) d.chs _ _ w (h.kept hw) (fun x y w1=>kh x y w1) hl)) ?_;rintro _ _ ⟨rfl,rfl⟩);refine q2s ?_;refine eU ?_;refine cU rfl rfl (fun w' hw=>⟨?_,hw.isBelow⟩);exact q4u
  ·have p2:=h2; (try simp only [cV] at p2);refine q0i ?_;refine q3V ?_;refine eU ?_;refine cU rfl rfl (fun w' hw=>⟨?_,hw.isBelow⟩);exact q4u
 ·have p1:=h1; (try simp only [cV] at p1);refine jN ?_;refine jN ?_;refine q2J ?_;refine TL.run 6 rfl ?_;refine fJ ?_;refine cU rfl rfl (fun w' hw=>⟨?_,hw.isBelow⟩);exact q4u
theorem zg1 (x y:Dx)(hx:OneC x.v)(hy:OneC y.v)(w:World):Calls Tryz.prog 106 #[.agg (Dx.cells x).toArray, .agg (Dx.cells y).toArray] w fun e w'=>e= .returned (.int .i64 (dV x.st y.st))∧Below w.heap.size w w':=by
 refine dq (M:=fun _=>False) (hs:=[]) Tryz.func106 rfl rfl rfl (Hp.refl _ _) ?_;simp only [Dx.cells];refine de ?_; (refine cK (Wt.none) rfl rfl (dv) ?_;rintro _ _ ⟨g2,rfl,rfl⟩); (refine cK (Wt.none) rfl rfl (dv) ?_;rintro _ _ ⟨g3,rfl,rfl⟩);refine f9 ?_;refine kX ?_;refine eu ?_; (refine cK (Wt.none) rfl rfl (cL rfl rfl rfl (fun w hw=>kh _ _ _)) ?_;rintro _ _ ⟨rfl,rfl⟩);refine eU ?_;refine cU rfl rfl (fun w' hw=>⟨?_,hw.isBelow⟩)
 rfl
theorem zgk (P:Pb)(vp vl vc:Value)(w:World)(h:RulesAt w vp vl vc P):Calls Tryz.prog 105 #[.agg [vp,vl,vc].toArray] w fun e w'=>e= .returned (.bool P.rulesOk)∧Below w.heap.size w w':=by
 obtain ⟨A1,cap1,rfl, -⟩:=h.ps.op;obtain ⟨A2,cap2,rfl, -⟩:=h.ls.op;obtain ⟨A3,cap3,rfl, -⟩:=h.cs.op;refine dq (M:=fun _=>False) (hs:=[]) Tryz.func105 rfl rfl rfl (Hp.refl _ _) ?_;refine de ?_; (refine cK (Wt.none) rfl rfl (dv) ?_;rintro _ _ ⟨g1,rfl,rfl⟩);refine f9 ?_;refine eu ?_;refine q3Y ?_;refine d5 ?_;refine dk rfl rfl rfl (fun h1=>?_) (fun h1=>?_)
 ·have p1:=h1; (try simp only [cV] at p1);refine q0I ?_; (refine cK (Wt.some rfl rfl rfl h1) rfl rfl (cL rfl rfl rfl (fun w hw=>zj3 (q:=Pr.ok) P.ps _ 131 #[] w (h.ps.kept hw) (fun k hk w1 hb=>zhD _ w1) h.hps)) ?_;rintro _ _ ⟨rfl,rfl⟩);refine kd ?_;refine dd ?_;refine dk rfl rfl rfl (fun h2=>?_) (fun h2=>?_)
  ·have p2:=h2; (try simp only [cV] at p2);refine mb ?_; (refine cK (Wt.some rfl rfl rfl h2) rfl rfl (cL rfl rfl rfl (fun w hw=>zhl (c:=Pr.cmp) P.ps _ 133 w (h.ps.kept hw) (fun x y w1=>zfl x y w1) h.hps)) ?_;rintro _ _ ⟨rfl,rfl⟩);refine q2s ?_;refine dd ?_;refine dk rfl rfl rfl (fun h3=>?_) (fun h3=>?_)
   ·have p3:=h3; (try simp only [cV] at p3);refine q0P ?_;refine cY (Wt.some rfl rfl rfl h3) rfl rfl (gm rfl rfl) ?_;refine q1H ?_;refine q3r ?_;refine dd ?_;refine dk rfl rfl rfl (fun h4=>?_) (fun h4=>?_)
    ·have p4:=h4; (try simp only [cV] at p4);refine q0S ?_; (refine cK (Wt.some rfl rfl rfl h4) rfl rfl (cL rfl rfl rfl (fun w hw=>zkq (q:=Ld.ok) P.ls _ 134 #[] w (h.ls.kept hw) (fun k hk w1 hb=>zht _ w1) h.hls)) ?_;rintro _ _ ⟨rfl,rfl⟩);refine cI (ez rfl rfl h4) ?_;refine dd ?_;refine dk rfl rfl rfl (fun h5=>?_) (fun h5=>?_)
     ·have p5:=h5; (try simp only [cV] at p5);refine cY (Wt.some rfl rfl rfl h5) rfl rfl (Yv.fieldAddr) ?_;refine cY (Wt.some rfl rfl rfl h5) rfl rfl (cS 0) ?_; (refine cK (Wt.some rfl rfl rfl h5) rfl rfl (cL rfl rfl rfl (fun w hw=>zhS (c:=Ld.cmp) P.ls _ 136 w (h.ls.kept hw) (fun x y w1=>zfn x y w1) h.hls)) ?_;rintro _ _ ⟨rfl,rfl⟩);refine cI (ez rfl rfl h5) ?_;refine dd ?_;refine dk rfl rfl rfl (fun h6=>?_) (fun h6=>?_)
      ·have p6:=h6; (try simp only [cV] at p6);refine cY (Wt.some rfl rfl rfl h6) rfl rfl (Yv.fieldAddr) ?_;refine cY (Wt.some rfl rfl rfl h6) rfl rfl (cS 0) ?_;refine cY (Wt.some rfl rfl rfl h6) rfl rfl (gm rfl rfl) ?_;refine cY (Wt.some rfl rfl rfl h6) rfl rfl (dU) ?_;refine cI (ez rfl rfl h6) ?_;refine dd ?_;refine dk rfl rfl rfl (fun h7=>?_) (fun h7=>?_)
       ·have p7:=h7; (try simp only [cV] at p7);refine q3D ?_; (refine cK (Wt.some rfl rfl rfl h7) rfl rfl (cL rfl rfl rfl (fun w hw=>zkF (q:=Cp.ok) P.cs _ 137 #[] w (h.cs.kept hw) (fun k hk w1 hb=>zh9 _ w1) h.hcs)) ?_;rintro _ _ ⟨rfl,rfl⟩);refine cI (ez rfl rfl h7) ?_;refine dd ?_;refine dk rfl rfl rfl (fun h8=>?_) (fun h8=>?_)
        ·have p8:=h8; (try simp only [cV] at p8);refine q3F ?_; (refine cK (Wt.some rfl rfl rfl h8) rfl rfl (cL rfl rfl rfl (fun w hw=>zhv (c:=Cp.cmp) P.cs _ 139 w (h.cs.kept hw) (fun x y w1=>zfE x y w1) h.hcs)) ?_;rintro _ _ ⟨rfl,rfl⟩);refine cI (ez rfl rfl h8) ?_;refine eU ?_;refine cU rfl rfl (fun w' hw=>⟨?_,hw.isBelow⟩);exact q35
        ·have p8:=h8; (try simp only [cV] at p8);refine q1g ?_;refine cI (d9 rfl rfl h8) ?_;refine eU ?_;refine cU rfl rfl (fun w' hw=>⟨?_,hw.isBelow⟩);exact q35
       ·have p7:=h7; (try simp only [cV] at p7);refine q1B ?_;refine TL.off (Wt.not rfl rfl rfl h7) rfl rfl ?_;refine cI (d9 rfl rfl h7) ?_;refine TL.run 6 rfl ?_;refine fJ ?_;refine cU rfl rfl (fun w' hw=>⟨?_,hw.isBelow⟩);exact q35
      ·have p6:=h6; (try simp only [cV] at p6);refine q00 ?_;refine q00 ?_;refine cI (d9 rfl rfl h6) ?_;refine TL.run 11 rfl ?_;refine fJ ?_;refine cU rfl rfl (fun w' hw=>⟨?_,hw.isBelow⟩);exact q35
     ·have p5:=h5; (try simp only [cV] at p5);refine q1C ?_;refine TL.off (Wt.not rfl rfl rfl h5) rfl rfl ?_;refine cI (d9 rfl rfl h5) ?_;refine TL.run 17 rfl ?_;refine fJ ?_;refine cU rfl rfl (fun w' hw=>⟨?_,hw.isBelow⟩);exact q35
    ·have p4:=h4; (try simp only [cV] at p4);refine q0l ?_;refine cI (d9 rfl rfl h4) ?_;refine TL.run 22 rfl ?_;refine fJ ?_;refine cU rfl rfl (fun w' hw=>⟨?_,hw.isBelow⟩);exact q35
   ·have p3:=h3; (try simp only [cV] at p3);refine q27 ?_;refine TL.run 27 rfl ?_;refine fJ ?_;refine cU rfl rfl (fun w' hw=>⟨?_,hw.isBelow⟩);exact q35
  ·have p2:=h2; (try simp only [cV] at p2);refine q0i ?_;refine q3V ?_;refine TL.run 33 rfl ?_;refine fJ ?_;refine cU rfl rfl (fun w' hw=>⟨?_,hw.isBelow⟩);exact q35
 ·have p1:=h1; (try simp only [cV] at p1);refine q1j ?_;refine TL.run 38 rfl ?_;refine fJ ?_;refine cU rfl rfl (fun w' hw=>⟨?_,hw.isBelow⟩);exact q35
theorem zen (i:Int)(w:World):Calls Tryz.prog 78 #[.int .i64 i] w fun e w'=>e= .returned (.bool (inB i 0 511))∧Below w.heap.size w w':=by
 refine dq (M:=fun _=>False) (hs:=[]) Tryz.func78 rfl rfl rfl (Hp.refl _ _) ?_;refine de ?_;refine TL.run 1 rfl ?_;refine dG ?_;refine TL.run 3 rfl ?_;refine dk rfl rfl rfl (fun h1=>?_) (fun h1=>?_)
 ·have p1:=h1; (try simp only [cV] at p1);refine cY (Wt.some rfl rfl rfl h1) rfl rfl (dU rfl) ?_;refine cY (Wt.some rfl rfl rfl h1) rfl rfl (dU rfl) ?_;refine cI (ez rfl rfl h1 rfl) ?_;refine TL.run 1 rfl ?_;refine TL.ns (T.ret ?_);refine cU rfl rfl (fun w' hw=>⟨?_,hw.isBelow⟩);refine jG ?_;simp only [inB, *,Bool.not_true,Bool.not_false,Bool.or_false,Bool.false_or,Bool.or_true,Bool.true_or,Bool.and_false,Bool.false_and,Bool.true_and,Bool.and_true,Bool.or_self,Bool.and_self,Bool.not_not,decide_true,decide_false,not_true_eq_false,not_false_eq_true,cond_true,cond_false]; (try exact decide_eq_decide.2 (by omega))
 ·have p1:=h1; (try simp only [cV] at p1);refine TL.off (Wt.not rfl rfl rfl h1) rfl rfl ?_;refine TL.off (Wt.not rfl rfl rfl h1) rfl rfl ?_;refine cI (d9 rfl rfl h1 rfl) ?_;refine TL.run 1 rfl ?_;refine TL.ns (T.ret ?_);refine cU rfl rfl (fun w' hw=>⟨?_,hw.isBelow⟩);refine jG ?_;simp only [inB, *,Bool.not_true,Bool.not_false,Bool.or_false,Bool.false_or,Bool.or_true,Bool.true_or,Bool.and_false,Bool.false_and,Bool.true_and,Bool.and_true,Bool.or_self,Bool.and_self,Bool.not_not,decide_true,decide_false,not_true_eq_false,not_false_eq_true,cond_true,cond_false]; (try exact decide_eq_decide.2 (by omega))
theorem zfF (ws:Ws)(hws:ws.length=8)(i:Int)(w:World):Calls Tryz.prog 43 #[.agg ws.cells.toArray, .int .i64 i] w fun e w'=>e= .returned (.bool (je ws i))∧Below w.heap.size w w':=by
 refine dq (M:=fun _=>False) (hs:=[]) Tryz.func43 rfl rfl rfl (Hp.refl _ _) ?_;refine de ?_; (refine cK (Wt.none) rfl rfl (dv) ?_;rintro _ _ ⟨g2,rfl,rfl⟩);refine kn ?_; (refine cK (Wt.none) rfl rfl (cL rfl rfl rfl (fun w hw=>zen _ _)) ?_;rintro _ _ ⟨rfl,rfl⟩);refine dd ?_;refine dk rfl rfl rfl (fun h1=>?_) (fun h1=>?_)
 ·have p1:=h1; (try simp only [cV] at p1); (try simp only [inB,Bool.and_eq_true,decide_eq_true_eq] at p1); (try have hld:=Ws.get (ws:=ws) (i:=i.toNat / 64) (p:=0+0+i.toNat / 64*1) a5 a5);refine jC ?_;refine cY (Wt.some rfl rfl rfl h1) rfl rfl (jm rfl rfl rfl a5) ?_;refine cY (Wt.some rfl rfl rfl h1) rfl rfl (Yv.fieldAddr) ?_;refine cY (Wt.some rfl rfl rfl h1) rfl rfl (dX rfl rfl rfl (show i / 64=((i.toNat / 64:Nat):Int) from by omega) a5) ?_;refine cY (Wt.some rfl rfl rfl h1) rfl rfl (cS 0 rfl rfl rfl hld) ?_;refine jC ?_;refine cY (Wt.some rfl rfl rfl h1) rfl rfl (i8 rfl rfl rfl a5) ?_;refine cY (Wt.some rfl rfl rfl h1) rfl rfl (fD (i.toNat % 64) rfl rfl rfl a5 a5) ?_;refine cY (Wt.some rfl rfl rfl h1) rfl rfl (fL (b:=1#64)) ?_;refine jC ?_;refine kd ?_;refine eU ?_;refine cU rfl rfl (fun w' hw=>⟨?_,hw.isBelow⟩);exact q4F
 ·have p1:=h1; (try simp only [cV] at p1); (try simp only [inB,Bool.and_eq_true,decide_eq_true_eq] at p1); (try have hld:=Ws.get (ws:=ws) (i:=i.toNat / 64) (p:=0+0+i.toNat / 64*1) a5 a5);refine jN ?_;refine jN ?_;refine jN ?_;refine jN ?_;refine jN ?_;refine q2J ?_;refine eU ?_;refine cU rfl rfl (fun w' hw=>⟨?_,hw.isBelow⟩);exact q4F
theorem zm7 (l:List Int)(v:Value)(w:World)(h:zfQ w v l)(hl:l.length≤9223372036854775807)(hr:∀x∈l,0≤x∧x≤511):Calls Tryz.prog 41 #[v] w fun e w'=>e= .returned (.tuple #[.agg (Ws.cells (ln l)).toArray, .int .i64 0])∧Below w.heap.size w w':=by
 obtain ⟨A,cap,rfl,hsl⟩:=h.op;refine dq (M:=fun _=>False) (hs:=[]) Tryz.func41 rfl rfl rfl (Hp.refl _ _) ?_;refine de ?_; (refine cK (Wt.none) rfl rfl (Ew.alloc) ?_;rintro _ _ ⟨g2,rfl,rfl⟩);refine f9 ?_; (refine cK (Wt.none) rfl rfl (Ew.alloc) ?_;rintro _ _ ⟨g4,rfl,rfl⟩);refine gX ?_;refine dd ?_;refine jj ?_;refine T.loop (ι:=Nat) (fun k=>[(2, .pointer (some ⟨g2,0,none⟩)),(4, .pointer (some ⟨g4,0,none⟩)),(7, .slice A l.length cap),(8, .int .i64 (l.length:Int)),(9, .int .i64 (k:Int))]) (fun k=>[.row g4 83 (Ws.cells (ln (l.take k))), .row g2 83 (Ws.cells e9)]) (fun k=>k≤l.length) (fun k=>l.length - k) 0 ?_ ?_ ?_ ?_
 ·omega
 ·exact (by repeat (first|exact Sub.nil|refine Sub.cons rfl ?_))
 ·exact Sx
 ·intro k hphi;have hlen:=kv (l.take k); (have hsl8:(Ws.cells (ln (l.take k))).length=8:=by rw [List.length_map,hlen]);refine ei ?_;refine T.cond rfl (fun h1=>?_) (fun h1=>?_)
  ·have p1:=h1; (try simp only [cV] at p1);obtain ⟨g,off,rfl,hc⟩:=hsl a5;have hk:=hc k a5;simp only [Ie] at hk;have hr1:=hr _ (iD (xs:=l) (k:=k) a5);have hld:=Ws.get (ws:=ln (l.take k)) (i:=(cH l k).toNat / 64) (p:=0+0+(cH l k).toNat / 64*1) a5 a5;refine fq ?_;refine q1V ?_;refine kL ?_; (refine cK (Wt.none) rfl rfl (cL rfl rfl rfl (fun w hw=>zen _ _)) ?_;rintro _ _ ⟨rfl,rfl⟩);refine dP ?_;refine ii rfl (by rw [inB,decide_eq_true hr1.1,decide_eq_true hr1.2];rfl) ?_;refine kl ?_;refine dT (sN 0 4 (sN 5 3 (.still 9 (.eff 4 (.still 8 (.still 10 (.eff 11 .done))))))) [.row g2 83 (Ws.cells e9)] a8 Sx ?_;refine gR ?_;refine cR rfl (jm rfl rfl rfl a5) ?_;refine iq ?_;refine cR rfl (dX rfl rfl rfl (show (cH l k) / 64=(((cH l k).toNat / 64:Nat):Int) from by omega) a5) ?_;refine gR ?_;refine cR rfl (i8 rfl rfl rfl a5) ?_;refine cR rfl (fW (a:=1#64) ((cH l k).toNat % 64) rfl rfl rfl a5 a5) ?_;refine jc ?_;refine ep rfl (Wt.none) rfl rfl (cS 0 rfl rfl rfl hld) Sx ?_;refine cR rfl (fH) ?_;refine cR rfl (dX rfl rfl rfl (show (cH l k) / 64=(((cH l k).toNat / 64:Nat):Int) from by omega) a5) ?_;refine dF ?_; (refine dx rfl (Wt.none) rfl (gJ 0 (Ws.cells (dR (ln (l.take k)) (cH l k).toNat)) rfl rfl rfl rfl (by rw [List.length_map,hlen];omega) (Ws.put a5)) ?_;rintro _ _ ⟨rfl,rfl⟩;refine ⟨Sx,?_⟩);refine q1s ?_;exact K.next (k+1) a5 a5 (by repeat (first|exact Sub.nil|refine Sub.cons rfl ?_)) (by rw [zjo a5];exact Sx)
  ·have p1:=h1; (try simp only [cV] at p1);refine q0Y ?_;refine cI (dJ 0 rfl rfl rfl hsl8) ?_; (refine dB (Wt.none) rfl (dr 1 rfl rfl rfl rfl (by rw [List.length_map,kv]) (by rw [List.length_map,kv];rfl)) ?_;rintro _ _ ⟨rfl,rfl⟩);refine eU ?_;exact gz 1 rfl rfl rfl rfl (by rw [List.length_map,kv]) (fun w' hw=>⟨by rw [List.take_of_length_le a5],hw.isBelow⟩)
end Go.Proofs.YtogbggmckmnlfaaGreatDoor
