/- Od Yg Bt Yd Kc Yw Dp Yt Dt: shortened and put together by squeeze.py. -/
import Derived.Test.YtmnjbhkcfghebaaGreatDoorQ06
import Derived.RecoverIn
set_option maxRecDepth 100000
set_option maxHeartbeats 4000000
set_option linter.unusedVariables false
set_option linter.unusedSectionVars false
set_option linter.unusedSimpArgs false
namespace Go.Proofs.YtmnjbhkcfghebaaGreatDoor
open Go.RowKit
theorem zfq {size:Nat}:∀(cs:List (List Value)),(∀d∈cs,d.length=size)→cs.flatten.length=cs.length*size
 | [],_=>by simp
 |c :: r,h=>by
  rw [List.flatten_cons,List.length_append,zfq r (fun d hd=>h d (List.mem_cons_of_mem _ hd)),h c List.mem_cons_self,List.length_cons,Nat.add_mul];omega
theorem zgQ {size:Nat}:∀(cs:List (List Value)) (i:Nat) (c:List Value),(∀d∈cs,d.length=size)→c.length=size→i<cs.length→cs.flatten.take (i*size)++c++cs.flatten.drop (i*size+c.length)=(cs.set i c).flatten
 |d :: r,0,c,h,hc,_=>by
  have hd:=h d List.mem_cons_self;rw [List.set_cons_zero,List.flatten_cons,List.flatten_cons,Nat.zero_mul,List.take_zero,List.nil_append,Nat.zero_add,List.drop_left' (by rw [hc,hd])]
 |d :: r,i+1,c,h,hc,hi=>by
  have ih:=zgQ r i c (fun d hd=>h d (List.mem_cons_of_mem _ hd)) hc (by simpa using hi);have hd:=h d List.mem_cons_self;rw [List.set_cons_succ,List.flatten_cons,List.flatten_cons,←ih,Nat.add_mul,Nat.one_mul,show i*size+size=d.length+i*size by omega,List.take_length_add_append,show d.length+i*size+c.length=d.length+(i*size+c.length) by omega,List.drop_length_add_append];simp only [List.append_assoc]
theorem zje {size:Nat}{cs:List (List Value)}{i:Nat}{c:List Value}(h:∀d∈cs,d.length=size)(hc:c.length=size)(hi:i<cs.length):i*size+c.length≤cs.flatten.length:=by
 rw [zfq cs h,hc];have:(i+1) *size≤cs.length*size:=Nat.mul_le_mul_right _ hi;rw [Nat.add_mul] at this;omega
section
variable {α:Type}[Inhabited α]{rep:Frz→List Value→α→Prop}{F:Frz}{size n i:Nat}{cs:List (List Value)}{xs:List α}{c:List Value}{x:α}
theorem zeS {β:Type}[Inhabited β]{l:List β}{i j:Nat}{b:β}(h:j<l.length):nth (l.set i b) j=if i=j then b else nth l j:=by
 unfold nth;rw [List.getD_eq_getElem?_getD,List.getD_eq_getElem?_getD];by_cases e:i=j
 ·subst e;rw [if_pos rfl,List.getElem?_set_self h];rfl
 ·rw [if_neg e,List.getElem?_set_ne e]
theorem OwnD.set (h:OwnD rep F size cs xs)(hc:rep F c x)(hl:c.length=size):OwnD rep F size (cs.set i c) (xs.set i x):=by
 refine ⟨by simp [h.1],fun d hd=>?_,fun j hj=>?_⟩
 ·rcases List.mem_or_eq_of_mem_set hd with hd|hd
  ·exact h.2.1 d hd
  ·rw [hd];exact hl
 ·rw [List.length_set] at hj;rw [zeS hj,zeS (by rw [h.1];exact hj)];by_cases e:i=j
  ·rw [if_pos e,if_pos e];exact hc
  ·rw [if_neg e,if_neg e];exact h.2.2 j hj
theorem ziH {β:Type}[Inhabited β]{b:β}{n j:Nat}(h:j<n):nth (List.replicate n b) j=b:=by
 rw [fT (by rw [List.length_replicate];exact h),List.getElem_replicate]
theorem OwnD.fill (hc:rep F c x)(hl:c.length=size):OwnD rep F size (List.replicate n c) (List.replicate n x):=by
 refine ⟨by rw [List.length_replicate,List.length_replicate],fun d hd=>by rw [List.eq_of_mem_replicate hd];exact hl,fun j hj=>?_⟩;rw [List.length_replicate] at hj;rw [ziH hj,ziH hj];exact hc
theorem SlD.own {v:Value}(h:SlD rep F v size cs xs):OwnD rep F size cs xs:=by
 obtain ⟨⟨A,cap,h1,h2,h3,h4,h5⟩,h6,h7⟩:=h;exact ⟨h6,h4,h7⟩
end
theorem zhu {size:Nat}:∀(cs:List (List Value)) (i j:Nat) (v:Value),(∀d∈cs,d.length=size)→i<cs.length→j<size→cs.flatten.set (i*size+j) v=(cs.set i ((nth cs i).set j v)).flatten
 |d :: r,0,j,v,h,_,hj=>by
  have hd:=h d List.mem_cons_self;rw [List.set_cons_zero,List.flatten_cons,List.flatten_cons,Nat.zero_mul,Nat.zero_add,List.set_append_left _ _ a6];rfl
 |d :: r,i+1,j,v,h,hi,hj=>by
  have ih:=zhu r i j v (fun d hd=>h d (List.mem_cons_of_mem _ hd)) (by simpa using hi) hj;have hd:=h d List.mem_cons_self;rw [List.set_cons_succ,List.flatten_cons,List.flatten_cons,Nat.add_mul,Nat.one_mul,List.set_append_right _ _ a6,show i*size+size+j - d.length=i*size+j by omega,ih];rfl
theorem zi5 {size i j:Nat}{cs:List (List Value)}{c:List Value}{v:Value}(h:∀d∈cs,d.length=size)(hi:i<cs.length)(hc:((nth cs i).drop 0).take size=c)(hj:j<size):cs.flatten.set (i*size+j) v=(cs.set i (c.set j v)).flatten:=by
 (have h1:(nth cs i).length=size:=by rw [fT hi];exact h _ (List.getElem_mem hi));rw [List.drop_zero,List.take_of_length_le a6] at hc;rw [zhu cs i j v h hi hj,hc]
theorem zi9 {cs:List (List Value)}{i:Nat}{v:Value}(h:∀d∈cs,d.length=1)(hi:i<cs.length):cs.flatten.set (i*1) v=(cs.set i [v]).flatten:=by
 rw [←zgQ cs i [v] h rfl hi];have hl:=zfq cs h;exact (ze6 cs.flatten (i*1) v a6).symm
section
variable {P:Program}{n:Nat}{B D:World}{M S0:Nat→Prop}{fs:eJ}{hs:HS}{o:Oper}
theorem Ew.cn {α:Type}{t e:TypeId}{size bytes n':Nat}{z:List Value}{x y:Operand}{q q':IntKind}{xi:Int}{u:α}[hT:TyE P t e size bytes z](ho:o.op= .makeSlice t x y)(hx:ev fs x=some (.int q xi))(hy:ev fs y=some (.int q' xi))(hn:xi=(n':Int))(hr:dK n' bytes)(hb:0<bytes)(hp:0<size)(hz:z.length=size):
  Ew P n B M fs hs o (fun v hs'=>OneC v∧hs'= .sl v e size (List.replicate n' u).length (List.replicate n' z).flatten :: hs):=by
 have h:=gm (P:=P) (n:=n) (B:=B) (M:=M) (fs:=fs) (hs:=hs) (o:=o) (α:=Unit) (enc:=fun _=>z) (u:=()) ho hx hy hn hr hb hp (fun _=>hz) rfl;rw [List.flatMap_def,List.map_replicate,List.length_replicate] at h;rw [List.length_replicate];exact h
end
structure GProduct where
 Area:Int
 Category:Int
 Supply:Int
 Units:Int
 Reserve:Int
deriving DecidableEq,Inhabited
abbrev dh (x:GProduct):List Value:=[.int .i64 x.Area, .int .i64 x.Category, .int .i64 x.Supply, .int .i64 x.Units, .int .i64 x.Reserve]
theorem GProduct.len (x:GProduct):(dh x).length=5:=rfl
structure GBidder where
 ID:Int
 Eligibility:Int
 Waivers:Int
 Blocks:List Int
deriving DecidableEq,Inhabited
def cZ (F:Frz)(c:List Value)(x:GBidder):Prop:=∃(v3:Value),c=[.int .i64 x.ID, .int .i64 x.Eligibility, .int .i64 x.Waivers,v3]∧SlC F v3 1 (x.Blocks.map eI)
theorem GBidder.mono {F G:Frz}{c:List Value}{x:GBidder}(hle:F.Le G)(h:cZ F c x):cZ G c x:=by
 obtain ⟨v3,h0,h4⟩:=h;exact ⟨v3,h0,h4.mono hle⟩
theorem GBidder.len {F:Frz}{c:List Value}{x:GBidder}(h:cZ F c x):c.length=4:=by
 obtain ⟨v3,h0,h4⟩:=h;subst h0;rfl
theorem GBidder.one {F:Frz}{c:List Value}{x:GBidder}(h:cZ F c x):OneCs c:=by
 obtain ⟨v3,h0,h4⟩:=h;subst h0;haveI:=h4.oneC
 infer_instance
theorem fB {F:Frz}{c:List Value}{x:GBidder}(h:cZ F c x):c[3]?=some (nth c 3)∧SlC F (nth c 3) 1 (x.Blocks.map eI):=by
 obtain ⟨v3,h0,h4⟩:=h;subst h0;exact ⟨rfl,h4⟩
theorem fF {F:Frz}{c:List Value}{x:GBidder}(h:cZ F c x):(c.drop 0).take 4=[.int .i64 x.ID, .int .i64 x.Eligibility, .int .i64 x.Waivers,nth c 3]:=by
 obtain ⟨v3,h0,h4⟩:=h;subst h0;rfl
structure GBid where
 Bidder:Int
 Product:Int
 Change:Int
 Point:GRatio
deriving DecidableEq,Inhabited
def df (F:Frz)(c:List Value)(x:GBid):Prop:=∃(v4:Value) (v6:Value),c=[.int .i64 x.Bidder, .int .i64 x.Product, .int .i64 x.Change, .bool x.Point.Num.Neg,v4, .bool x.Point.Den.Neg,v6]∧SlC F v4 1 (x.Point.Num.Digits.map (eK .u8))∧SlC F v6 1 (x.Point.Den.Digits.map (eK .u8))
theorem GBid.mono {F G:Frz}{c:List Value}{x:GBid}(hle:F.Le G)(h:df F c x):df G c x:=by
 obtain ⟨v4,v6,h0,h5,h7⟩:=h;exact ⟨v4,v6,h0,h5.mono hle,h7.mono hle⟩
theorem GBid.len {F:Frz}{c:List Value}{x:GBid}(h:df F c x):c.length=7:=by
 obtain ⟨v4,v6,h0,h5,h7⟩:=h;subst h0;rfl
theorem GBid.one {F:Frz}{c:List Value}{x:GBid}(h:df F c x):OneCs c:=by
 obtain ⟨v4,v6,h0,h5,h7⟩:=h;subst h0;haveI:=h5.oneC;haveI:=h7.oneC
 infer_instance
theorem je {F:Frz}{c:List Value}{x:GBid}(h:df F c x):c[0]?=some (.int .i64 x.Bidder):=by
 obtain ⟨v4,v6,h0,h5,h7⟩:=h;subst h0;rfl
theorem ji {F:Frz}{c:List Value}{x:GBid}(h:df F c x):c[1]?=some (.int .i64 x.Product):=by
 obtain ⟨v4,v6,h0,h5,h7⟩:=h;subst h0;rfl
theorem ly {F:Frz}{c:List Value}{x:GBid}(h:df F c x):c[2]?=some (.int .i64 x.Change):=by
 obtain ⟨v4,v6,h0,h5,h7⟩:=h;subst h0;rfl
theorem fo {F:Frz}{c:List Value}{x:GBid}(h:df F c x):c[4]?=some (nth c 4)∧SlC F (nth c 4) 1 (x.Point.Num.Digits.map (eK .u8)):=by
 obtain ⟨v4,v6,h0,h5,h7⟩:=h;subst h0;exact ⟨rfl,h5⟩
theorem fm {F:Frz}{c:List Value}{x:GBid}(h:df F c x):c[6]?=some (nth c 6)∧SlC F (nth c 6) 1 (x.Point.Den.Digits.map (eK .u8)):=by
 obtain ⟨v4,v6,h0,h5,h7⟩:=h;subst h0;exact ⟨rfl,h7⟩
theorem eL {F:Frz}{c:List Value}{x:GBid}(h:df F c x):(c.drop 0).take 7=[.int .i64 x.Bidder, .int .i64 x.Product, .int .i64 x.Change, .bool x.Point.Num.Neg,nth c 4, .bool x.Point.Den.Neg,nth c 6]:=by
 obtain ⟨v4,v6,h0,h5,h7⟩:=h;subst h0;rfl
def SlV {n:Nat}{α:Type}[Inhabited α](F:Frz)(vs:Vec n Value)(size:Nat)(enc:α→List Value)(ls:Vec n (List α)):Prop:=∀i,i<n→SlC F (vs.get i) size ((ls.get i).map enc)
theorem SlV.mono {n:Nat}{α:Type}[Inhabited α]{F G:Frz}{vs:Vec n Value}{size:Nat}{enc:α→List Value}{ls:Vec n (List α)}(h:SlV F vs size enc ls)(hle:F.Le G):SlV G vs size enc ls:=fun i hi=>(h i hi).mono hle
theorem SlV.fill {n:Nat}{α:Type}[Inhabited α](F:Frz)(size:Nat)(enc:α→List Value):SlV F (Vec.fill n (.slice none 0 0)) size enc (Vec.fill n []):=fun i hi=>by
 rw [iC hi,iC hi];exact SlC.nil F size
theorem SlV.put {n:Nat}{α:Type}[Inhabited α]{F:Frz}{vs:Vec n Value}{size:Nat}{enc:α→List Value}{ls:Vec n (List α)}(h:SlV F vs size enc ls){a:Nat}{v:Value}{l:List α}(ha:a<n)(hv:SlC F v size (l.map enc)):SlV F (vs.put a v) size enc (ls.put a l):=fun i hi=>by
 rw [iQ ha,iQ ha];by_cases e:i=a
 ·rw [if_pos e,if_pos e];exact hv
 ·rw [if_neg e,if_neg e];exact h i hi
def FzB.addS {B:World}{M S0:Nat→Prop}{w:World}(F:FzB B M S0)(hF:F.toFrz.At w){T:Nat→Prop}(hg:∀g,T g→Cb w g)(hb:∀g,T g→M g∨B.heap.size≤g):FzB B M S0 where
 S k:=F.S k∨T k
 w:=w
 c k hk:=by rcases hk with h|h;exact hF.cb h;exact hg k h
 base k hk h1 h2:=by
  rcases hk with h|h
  ·rw [hF k h,F.base k h h1 h2]
  ·rcases hb k h with h|h
   ·exact absurd h h2
   ·omega
 new k hk:=by
  rcases hk with h|h
  ·exact F.new k h
  ·exact .inr (hb k h)
section
variable {B D:World}{M S0:Nat→Prop}{hs hs':HS}{w:World}{n:Nat}{α:Type}[Inhabited α]{e:TypeId}{size:Nat}{enc:α→List Value}{vs:Vec n Value}{ls:Vec n (List α)}{v:Value}
end
def kA (x:GBidder)(v:Value):List Value:=[.int .i64 x.ID, .int .i64 x.Eligibility, .int .i64 x.Waivers,v]
def ic (xs:List GBidder)(vs:List Value):List (List Value):=(List.range xs.length).map fun i=>kA (nth xs i) (nth vs i)
def iJ (ei:TypeId)(xs:List GBidder)(vs:List Value):HS:=(List.range xs.length).map fun i=> .sl (nth vs i) ei 1 (nth xs i).Blocks.length ((nth xs i).Blocks.flatMap eI)
abbrev eD (e ei:TypeId)(v:Value)(vs:List Value)(xs:List GBidder):Ent:= .bag (.sl v e 4 xs.length (ic xs vs).flatten :: iJ ei xs vs)
theorem zfL {ei:TypeId}{xs:List GBidder}{vs:List Value}{i:Nat}(hi:i<xs.length):(iJ ei xs vs)[i]?=some (.sl (nth vs i) ei 1 (nth xs i).Blocks.length ((nth xs i).Blocks.flatMap eI)):=by
 unfold iJ;rw [List.getElem?_map,List.getElem?_range hi];rfl
theorem zhR {ei:TypeId}{xs:List GBidder}{vs:List Value}:(iJ ei xs vs).length=xs.length:=by unfold iJ;simp
theorem mG {xs:List GBidder}{vs:List Value}:(ic xs vs).length=xs.length:=by unfold ic;simp
theorem zfH {xs:List GBidder}{vs:List Value}:∀d∈ic xs vs,d.length=4:=fun d hd=>by
 unfold ic at hd;obtain ⟨i,_,rfl⟩:=List.mem_map.1 hd;rfl
theorem zeL {xs:List GBidder}{vs:List Value}{i:Nat}(hi:i<xs.length):nth (ic xs vs) i=kA (nth xs i) (nth vs i):=by
 rw [fT (by rw [mG];exact hi)];unfold ic;rw [List.getElem_map,List.getElem_range]
theorem zko {xs:List GBidder}{vs:List Value}:(ic xs vs).flatten.length=xs.length*4:=by rw [zfq _ zfH,mG]
theorem zgl {xs:List GBidder}{vs:List Value}{i:Nat}(hi:i<xs.length):((ic xs vs).flatten.drop (i*4)).take 4=kA (nth xs i) (nth vs i):=by
 have h:∀(cs:List (List Value)) (i:Nat),(∀d∈cs,d.length=4)→i<cs.length→(cs.flatten.drop (i*4)).take 4=nth cs i:=by
  intro cs
  induction cs with
  |nil=>intro i _ h;cases h
  |cons d r ih=>
   intro i hd hi;have h4:=hd d List.mem_cons_self
   cases i with
   |zero=>rw [Nat.zero_mul,List.drop_zero,List.flatten_cons,List.take_left' h4];rfl
   |succ i=>
    rw [List.flatten_cons,show (i+1) *4=d.length+i*4 by omega,List.drop_length_add_append];exact ih i (fun d hd'=>hd d (List.mem_cons_of_mem _ hd')) (by simpa using hi)
 rw [h _ _ zfH (by rw [mG];exact hi),zeL hi]
theorem zht {xs:List GBidder}{vs:List Value}{i j:Nat}{val:Value}(hi:i<xs.length)(hj:j<4)(h:(kA (nth xs i) (nth vs i))[j]?=some val):(ic xs vs).flatten[i*4+j]?=some val:=by
 rw [←zgl hi,List.getElem?_take_of_lt hj,List.getElem?_drop] at h;exact h
theorem zjo {xs:List GBidder}{vs:List Value}{h:Nat}{x:GBidder}(hi:h<xs.length)(h1:x.ID=(nth xs h).ID)(h2:x.Eligibility=(nth xs h).Eligibility)(h3:x.Waivers=(nth xs h).Waivers):ic (xs.set h x) vs=ic xs vs:=by
 unfold ic;rw [List.length_set];refine List.map_congr_left fun i hm=>?_;have hm:=List.mem_range.1 hm;rw [zeS hm];by_cases e:h=i
 ·subst e;rw [if_pos rfl];unfold kA;rw [h1,h2,h3]
 ·rw [if_neg e]
theorem zkk {ei:TypeId}{xs:List GBidder}{vs:List Value}{h:Nat}{x:GBidder}(hi:h<xs.length):(iJ ei xs vs).set h (.sl (nth vs h) ei 1 x.Blocks.length (x.Blocks.flatMap eI))=iJ ei (xs.set h x) vs:=by
 refine List.ext_getElem? fun i=>?_;by_cases hm:i<xs.length
 ·rw [zfL (xs:=xs.set h x) (by rw [List.length_set];exact hm),zeS hm];by_cases e:h=i
  ·subst e;rw [List.getElem?_set_self (by rw [zhR];exact hi),if_pos rfl]
  ·rw [List.getElem?_set_ne e,zfL hm,if_neg e]
 ·rw [List.getElem?_eq_none (by rw [List.length_set,zhR];omega),List.getElem?_eq_none (by rw [zhR,List.length_set];omega)]
section
variable {P:Program}{n:Nat}{B D:World}{M S0:Nat→Prop}{fs:eJ}{hs:HS}{o:Oper}{e ei:TypeId}{v val:Value}{vs:List Value}{xs:List GBidder}{w:World}
theorem iI (j:Nat)(hj:hs[j]?=some (eD e ei v vs xs))(h:Yv P n B M fs (.sl v e 4 xs.length (ic xs vs).flatten :: hs.set j (.bag (iJ ei xs vs))) o val):Yv P n B M fs hs o val:=fun a w ha hw=>h a w ha (hw.openB (a:=0) hj rfl)
theorem lm (j i:Nat)(hj:hs[j]?=some (eD e ei v vs xs))(hi:i<xs.length)(h:Yv P n B M fs (.sl (nth vs i) ei 1 (nth xs i).Blocks.length ((nth xs i).Blocks.flatMap eI) :: hs.set j (.bag ((Ent.sl v e 4 xs.length (ic xs vs).flatten :: iJ ei xs vs).eraseIdx (i+1)))) o val):Yv P n B M fs hs o val:=fun a w ha hw=>h a w ha (hw.openB (a:=i+1) hj (zfL hi))
theorem zhr (h:(eD e ei v vs xs).ok w):OneC v∧xs.length≤9223372036854775807:=by
 have h0:=(eC.1 h).1 _ List.mem_cons_self;exact ⟨gV h0,ij h0⟩
theorem zjO (h:(eD e ei v vs xs).ok w){i:Nat}(hi:i<xs.length):OneC (nth vs i)∧(nth xs i).Blocks.length≤9223372036854775807:=by
 have h0:=(eC.1 h).1 _ (List.mem_cons_of_mem _ (List.mem_of_getElem? (zfL hi)));exact ⟨gV h0,ij h0⟩
end
section
variable {Fe:Fence}[hFe:Calm Fe]{P:Program}{n:Nat}{B D:World}{M S0:Nat→Prop}{Q:Exit→Act→World→Prop}{fs:eJ}{hs:HS}{ops:Array Oper}{e ei:TypeId}{v:Value}{vs:List Value}{xs:List GBidder}
theorem TL.bD {l:List Oper}(j:Nat)(hj:hs[j]?=some (eD e ei v vs xs))(h:OneC v→xs.length≤9223372036854775807→TL Fe P n B D M ops Q l fs hs):TL Fe P n B D M ops Q l fs hs:=
 im (ι:=Unit) (φ:=fun _=>OneC v∧xs.length≤9223372036854775807) (hs':=fun _=>hs) (fun w hw=>⟨(),zhr (hw.get hj),hw⟩) (fun _ hx=>h hx.1 hx.2)
theorem TS.bD {hs0:HS}{r:Ord}(j:Nat)(hj:hs[j]?=some (eD e ei v vs xs))(h:OneC v→xs.length≤9223372036854775807→TS Fe P n B D M ops Q hs0 r fs hs):TS Fe P n B D M ops Q hs0 r fs hs:=
 jo (ι:=Unit) (φ:=fun _=>OneC v∧xs.length≤9223372036854775807) (hs':=fun _=>hs) (fun w hw=>⟨(),zhr (hw.get hj),hw⟩) (fun _ hx=>h hx.1 hx.2)
theorem TL.bG {l:List Oper}(j i:Nat)(hj:hs[j]?=some (eD e ei v vs xs))(hi:i<xs.length)(h:OneC (nth vs i)→(nth xs i).Blocks.length≤9223372036854775807→TL Fe P n B D M ops Q l fs hs):TL Fe P n B D M ops Q l fs hs:=
 im (ι:=Unit) (φ:=fun _=>OneC (nth vs i)∧(nth xs i).Blocks.length≤9223372036854775807) (hs':=fun _=>hs) (fun w hw=>⟨(),zjO (hw.get hj) hi,hw⟩) (fun _ hx=>h hx.1 hx.2)
theorem TS.bG {hs0:HS}{r:Ord}(j i:Nat)(hj:hs[j]?=some (eD e ei v vs xs))(hi:i<xs.length)(h:OneC (nth vs i)→(nth xs i).Blocks.length≤9223372036854775807→TS Fe P n B D M ops Q hs0 r fs hs):TS Fe P n B D M ops Q hs0 r fs hs:=
 jo (ι:=Unit) (φ:=fun _=>OneC (nth vs i)∧(nth xs i).Blocks.length≤9223372036854775807) (hs':=fun _=>hs) (fun w hw=>⟨(),zjO (hw.get hj) hi,hw⟩) (fun _ hx=>h hx.1 hx.2)
end
theorem zkh {e ei:TypeId}{v:Value}{vs:List Value}{xs:List GBidder}{w:World}(h:(eD e ei v vs xs).ok w){g:Nat}(hg:(eD e ei v vs xs).fp g):Cb w g:=by
 obtain ⟨x,hx,hg⟩:=d8.1 hg;have hok:=(eC.1 h).1 x hx
 have key:∀ {v:Value} {e:TypeId} {size k:Nat} {l:List Value},(Ent.sl v e size k l).ok w→(Ent.sl v e size k l).fp g→Cb w g:=by
  intro v e size k l hok hg;have ho:=dQ.1 hok;have hfp:=dZ.1 hg;rcases ho.2 with ⟨h0,_⟩|⟨g',cap,cur,h1,hb,hg',_⟩
  ·rw [h0] at hfp;cases hfp
  ·rw [h1] at hfp;cases hfp;exact ⟨_,_,_,hg'⟩
 rcases List.mem_cons.1 hx with rfl|hx
 ·exact key hok hg
 ·obtain ⟨i,_,rfl⟩:=List.mem_map.1 hx;exact key hok hg
theorem zhV {e ei:TypeId}{v:Value}{vs:List Value}{xs:List GBidder}{w:World}{G:Frz}(h:(eD e ei v vs xs).ok w)(hw:G.w=w)(hS:∀g,(eD e ei v vs xs).fp g→G.S g):SlD cZ G v 4 (ic xs vs) xs:=by
 have hb:=eC.1 h
 have ho:OwnD cZ G 4 (ic xs vs) xs:=by
  refine ⟨mG,zfH,fun i hi=>?_⟩;rw [zeL hi];have hm:=List.mem_cons_of_mem (Ent.sl v e 4 xs.length (ic xs vs).flatten) (List.mem_of_getElem? (zfL (ei:=ei) (vs:=vs) hi));have h1:=SlK.ent (hb.1 _ hm) hw (fun g hg _=>hS g (d8.2 ⟨_,hm,hg⟩));exact ⟨_,rfl,h1.toF rfl (fun _=>rfl)⟩
 exact (SlK.ent (hb.1 _ List.mem_cons_self) hw (fun g hg _=>hS g (d8.2 ⟨_,List.mem_cons_self,hg⟩))).toD ho rfl
section
variable {B:World}{M S0:Nat→Prop}{hs hs':HS}{e ei:TypeId}{v:Value}{vs:List Value}{xs:List GBidder}{w:World}
theorem Hp.freezeBd {i j:Nat}{F:FzB B M S0}(hw:Hp B M hs w)(hij:i≠j)(hi:hs[i]?=some (.fr F))(hj:hs[j]?=some (eD e ei v vs xs)):
  ∃G:FzB B M S0,(F.toFrz.Le G.toFrz∧SlD cZ G.toFrz v 4 (ic xs vs) xs)∧Hp B M ((hs.set i (.fr G)).eraseIdx j) w:=by
 have hF:=hw.fr hi;have hok:=hw.get hj;have hnew:∀g,(eD e ei v vs xs).fp g→M g∨B.heap.size≤g:=fun g hg=>hw.new _ (List.mem_of_getElem? hj) g hg;refine ⟨F.addS hF (fun g hg=>zkh hok hg) hnew,⟨fun k hk=>⟨.inl hk,hF k hk⟩,zhV hok rfl (fun g hg=> .inr hg)⟩,?_⟩;obtain ⟨r,h1,h2⟩:=zfT (a':= .fr (F.addS hF (fun g hg=>zkh hok hg) hnew)) hij hi hj;refine Hp.perm ?_ h2.symm;refine gK (hw.perm h1) ?_ ?_ (List.pairwise_singleton _ _)
 ·intro x hx;simp at hx;subst hx;exact fC.2 (fun k hk=>rfl)
 ·intro x hx k hk;simp at hx;subst hx;have h:=d9.1 hk;rcases h.1 with h3|h3
  ·exact ⟨_,by simp,d9.2 ⟨h3,h.2⟩⟩
  ·exact ⟨_,by simp,h3⟩
theorem Hp.borBd {i j:Nat}{F:FzB B M S0}(hw:Hp B M hs w)(hi:hs[i]?=some (.fr F))(hj:hs[j]?=some (eD e ei v vs xs)):∃F':Frz,Bor F.toFrz (eD e ei v vs xs) w F'∧SlD cZ F' v 4 (ic xs vs) xs:=by
 have hF:=hw.fr hi;have hok:=hw.get hj;exact ⟨⟨fun k=>F.S k∨(eD e ei v vs xs).fp k,w,fun k hk=>hk.elim (fun h=>hF.cb h) (fun h=>zkh hok h)⟩,⟨fun k hk=>⟨.inl hk,hF k hk⟩,fun k _=>rfl,fun k hk=>hk⟩,zhV hok rfl (fun g hg=> .inr hg)⟩
end
theorem zlq {F:Frz}{v:Value}{vs:List Value}{xs:List GBidder}(h:SlD cZ F v 4 (ic xs vs) xs){i:Nat}(hi:i<xs.length):SlC F (nth vs i) 1 ((nth xs i).Blocks.map eI):=by
 have h1:=h.2.2 i hi;rw [zeL hi] at h1;obtain ⟨v0,h0,h2⟩:=h1;unfold kA at h0;simp only [List.cons.injEq,and_true,true_and] at h0;rw [h0];exact h2
section
variable {P:Program}{n:Nat}{B D:World}{M S0:Nat→Prop}{fs:eJ}{hs:HS}{o:Oper}{e ei:TypeId}{v:Value}{vs:List Value}{xs:List GBidder}
theorem Ew.cT {i a:Nat}{es:HS}{x x':Ent}(hj:hs[i]?=some (.bag es))(ha:es[a]?=some x)(h:Ew P n B M fs (x :: hs.set i (.bag (es.eraseIdx a))) o (fun u hs''=>u=undef∧hs''=x' :: hs.set i (.bag (es.eraseIdx a)))):Ew P n B M fs hs o (fun u hs''=>u=undef∧hs''=hs.set i (.bag (es.set a x'))):=
 fun F hF Q K a' w ha' hp k=>h F hF Q K a' w ha' (hp.openB hj ha) fun v w' hs'' hk hp' hΦ=>by
  obtain ⟨h1,rfl⟩:=hΦ;have h2:=hp'.closeB (i:=i) (es:=es) (a:=a) (by rw [List.getElem?_set_self (List.getElem?_eq_some_iff.1 hj).1]) (List.getElem?_eq_some_iff.1 ha).1;rw [List.set_set] at h2;exact k v w' _ hk h2 ⟨h1,rfl⟩
theorem Ew.cp (j h p:Nat){t:TypeId}{z:Int}{x:GBidder}{hs':HS}[hT:TyS P t]{a b:Operand}(ho:o.op= .store t a b)(ha:ev fs a=some (jA (nth vs h) (p*1)))(hb:ev fs b=some (.int .i64 z))
  (hj:hs[j]?=some (eD e ei v vs xs)) (hh:h<xs.length) (hp:p<(nth xs h).Blocks.length) (hx:x={ nth xs h with Blocks:=(nth xs h).Blocks.set p z }) [hH:SetAt hs j (eD e ei v vs (xs.set h x)) hs']:Ew P n B M fs hs o (fun u hs''=>u=undef∧hs''=hs'):=by
 have h2:Ew P n B M fs (.sl (nth vs h) ei 1 (nth xs h).Blocks.length ((nth xs h).Blocks.flatMap eI) :: hs.set j (.bag ((Ent.sl v e 4 xs.length (ic xs vs).flatten :: iJ ei xs vs).eraseIdx (h+1)))) o (fun u hs''=>u=undef∧hs''= .sl (nth vs h) ei 1 x.Blocks.length (x.Blocks.flatMap eI) :: hs.set j (.bag ((Ent.sl v e 4 xs.length (ic xs vs).flatten :: iJ ei xs vs).eraseIdx (h+1)))):=by
  subst hx;exact eU 0 (k':=((nth xs h).Blocks.set p z).length) (l':=((nth xs h).Blocks.set p z).flatMap eI) ho ha hb rfl a6 (iF (enc:=eI) (xs:=(nth xs h).Blocks) (i:=p) (j:=0) (size:=1) (fun _=>rfl) hp a7 a6) (iE (enc:=eI) (xs:=(nth xs h).Blocks) (i:=p) (j:=0) (size:=1) (x:=z) (fun _=>rfl) hp a7 a6 rfl) (List.length_set ..) (hH:=⟨rfl⟩)
 rw [←hH.h];have h3:=Ew.cT (i:=j) (a:=h+1) (x:= .sl (nth vs h) ei 1 (nth xs h).Blocks.length ((nth xs h).Blocks.flatMap eI)) hj (zfL hh) h2
 have h4:(Ent.sl v e 4 xs.length (ic xs vs).flatten :: iJ ei xs vs).set (h+1) (.sl (nth vs h) ei 1 x.Blocks.length (x.Blocks.flatMap eI))=(Ent.sl v e 4 (xs.set h x).length (ic (xs.set h x) vs).flatten :: iJ ei (xs.set h x) vs):=by
  rw [List.set_cons_succ,zkk hh,zjo hh (by rw [hx]) (by rw [hx]) (by rw [hx]),List.length_set]
 rw [h4] at h3;exact h3
end
theorem zez (F0:Frz)(w:World)(hF0:F0.At w)(l:List GProduct)(vl:Value)(hl:SlC F0 vl 5 (l.map dh))(hr:dK l.length 40):Calls Tryz.prog 53 #[vl] w fun e w'=>∃v':Value,True∧e= .returned v'∧Hp w (fun _=>False) [.sl v' 55 5 l.length (l.flatMap dh)] w':=by
 haveI:=hl.oneC;have hl0:=hl;obtain ⟨A,cap,hv,hlc,hcm,hcl,hcs⟩:=hl0;have hlen:(l.map dh).length=l.length:=List.length_map _;obtain ⟨S0,F1,hF1,hS0,hp0⟩:=eH hF0
 cases hA:A with
 |none=>
  have h0:l=[]:=by
   cases l with
   |nil=>rfl
   |cons x r=>
    obtain ⟨g,off,h1,_⟩:=hcs b3;rw [hA] at h1;cases h1
  subst h0;refine dT (M:=fun _=>False) (hs:=[.fr F1]) Tryz.func53 rfl rfl rfl hp0 ?_;refine q1D ?_;refine TL.slNil 55 5 ?_;refine jF ?_;exact q4S
 |some a=>
  rw [←hF1] at hl;refine dT (M:=fun _=>False) (hs:=[.fr F1]) Tryz.func53 rfl rfl rfl hp0 ?_;refine q1g ?_;rintro _ _ ⟨g,rfl,rfl⟩;refine dH ?_;refine de (kz 0 1 (k':=l.length) (l':=l.flatMap dh) (zhT (enc:=dh) (fun _=>inferInstance)) rfl rfl rfl rfl rfl hl (by rw [List.length_map];omega) cX hr a7) ?_;rintro v' _ ⟨hv',rfl⟩;refine gW ?_;exact q4T
theorem zey (F0:Frz)(w:World)(hF0:F0.At w)(l:List GProduct)(vl:Value)(hl:SlC F0 vl 5 (l.map dh))(hr:dK l.length 40):Calls Tryz.prog 53 #[vl] w fun e w'=>∃(y:Value) (G:Frz),SlC G y 5 (l.map dh)∧e= .returned y∧Fx F0 w G w':=by
 refine (zez F0 w hF0 l vl hl hr).mono ?_;rintro e w' ⟨v',_,rfl,hw⟩;obtain ⟨G,h1,h2,h3⟩:=Fx.hp hF0 hw;have h4:=SlK.ent (G:=G) (hw.own (.sl v' 55 5 l.length (l.flatMap dh)) b3) h2 (h3 _ b3);exact ⟨v',G,h4.toF rfl (fun _=>rfl),rfl,h1⟩
theorem zic (F0:Frz)(w:World)(hF0:F0.At w)(l:List Int)(vl:Value)(hl:SlC F0 vl 1 (l.map (eK .u8)))(hr:dK l.length 1):Calls Tryz.prog 55 #[vl] w fun e w'=>∃v':Value,True∧e= .returned v'∧Hp w (fun _=>False) [.sl v' 5 1 l.length (l.flatMap (eK .u8))] w':=by
 haveI:=hl.oneC;have hl0:=hl;obtain ⟨A,cap,hv,hlc,hcm,hcl,hcs⟩:=hl0;have hlen:(l.map (eK .u8)).length=l.length:=List.length_map _;obtain ⟨S0,F1,hF1,hS0,hp0⟩:=eH hF0
 cases hA:A with
 |none=>
  have h0:l=[]:=by
   cases l with
   |nil=>rfl
   |cons x r=>
    obtain ⟨g,off,h1,_⟩:=hcs b3;rw [hA] at h1;cases h1
  subst h0;refine dT (M:=fun _=>False) (hs:=[.fr F1]) Tryz.func55 rfl rfl rfl hp0 ?_;refine q1D ?_;refine kU ?_;refine jF ?_;exact q4S
 |some a=>
  rw [←hF1] at hl;refine dT (M:=fun _=>False) (hs:=[.fr F1]) Tryz.func55 rfl rfl rfl hp0 ?_;refine q1g ?_;rintro _ _ ⟨g,rfl,rfl⟩;refine dH ?_;refine de (kz 0 1 (k':=l.length) (l':=l.flatMap (eK .u8)) (zhT (enc:=(eK .u8)) (fun _=>inferInstance)) rfl rfl rfl rfl rfl hl (by rw [List.length_map];omega) cX hr a7) ?_;rintro v' _ ⟨hv',rfl⟩;refine gW ?_;exact q4T
theorem zii (F0:Frz)(w:World)(hF0:F0.At w)(l:List Int)(vl:Value)(hl:SlC F0 vl 1 (l.map (eK .u8)))(hr:dK l.length 1):Calls Tryz.prog 55 #[vl] w fun e w'=>∃(y:Value) (G:Frz),SlC G y 1 (l.map (eK .u8))∧e= .returned y∧Fx F0 w G w':=by
 refine (zic F0 w hF0 l vl hl hr).mono ?_;rintro e w' ⟨v',_,rfl,hw⟩;obtain ⟨G,h1,h2,h3⟩:=Fx.hp hF0 hw;have h4:=SlK.ent (G:=G) (hw.own (.sl v' 5 1 l.length (l.flatMap (eK .u8))) b3) h2 (h3 _ b3);exact ⟨v',G,h4.toF rfl (fun _=>rfl),rfl,h1⟩
theorem zfb (F0:Frz)(w:World)(hF0:F0.At w)(l:List Int)(vl:Value)(hl:SlC F0 vl 1 (l.map eI))(hr:dK l.length 8):Calls Tryz.prog 57 #[vl] w fun e w'=>∃v':Value,True∧e= .returned v'∧Hp w (fun _=>False) [.sl v' 3 1 l.length (l.flatMap eI)] w':=by
 haveI:=hl.oneC;have hl0:=hl;obtain ⟨A,cap,hv,hlc,hcm,hcl,hcs⟩:=hl0;have hlen:(l.map eI).length=l.length:=List.length_map _;obtain ⟨S0,F1,hF1,hS0,hp0⟩:=eH hF0
 cases hA:A with
 |none=>
  have h0:l=[]:=by
   cases l with
   |nil=>rfl
   |cons x r=>
    obtain ⟨g,off,h1,_⟩:=hcs b3;rw [hA] at h1;cases h1
  subst h0;refine dT (M:=fun _=>False) (hs:=[.fr F1]) Tryz.func57 rfl rfl rfl hp0 ?_;refine q1D ?_;refine TL.slNil 3 1 ?_;refine jF ?_;exact q4S
 |some a=>
  rw [←hF1] at hl;refine dT (M:=fun _=>False) (hs:=[.fr F1]) Tryz.func57 rfl rfl rfl hp0 ?_;refine q1g ?_;rintro _ _ ⟨g,rfl,rfl⟩;refine dH ?_;refine de (kz 0 1 (k':=l.length) (l':=l.flatMap eI) (zhT (enc:=eI) (fun _=>inferInstance)) rfl rfl rfl rfl rfl hl (by rw [List.length_map];omega) cX hr a7) ?_;rintro v' _ ⟨hv',rfl⟩;refine gW ?_;exact q4T
theorem zg9 (F0:Frz)(w:World)(hF0:F0.At w)(l:List Int)(vl:Value)(hl:SlC F0 vl 1 (l.map eI))(hr:dK l.length 8):Calls Tryz.prog 57 #[vl] w fun e w'=>∃(y:Value) (G:Frz),SlC G y 1 (l.map eI)∧e= .returned y∧Fx F0 w G w':=by
 refine (zfb F0 w hF0 l vl hl hr).mono ?_;rintro e w' ⟨v',_,rfl,hw⟩;obtain ⟨G,h1,h2,h3⟩:=Fx.hp hF0 hw;have h4:=SlK.ent (G:=G) (hw.own (.sl v' 3 1 l.length (l.flatMap eI)) b3) h2 (h3 _ b3);exact ⟨v',G,h4.toF rfl (fun _=>rfl),rfl,h1⟩
theorem zeH (F0:Frz)(w:World)(hF0:F0.At w)(l:List GBidder)(vl:Value)(cl:List (List Value))(hl:SlD cZ F0 vl 4 cl l)(hr:dK l.length 48):Calls Tryz.prog 139 #[vl] w fun e w'=>∃v':Value,True∧e= .returned v'∧Hp w (fun _=>False) [.sl v' 57 4 l.length cl.flatten] w':=by
 haveI:=hl.1.oneC;have hl0:=hl.1;obtain ⟨A,cap,hv,hlc,hcm,hcl,hcs⟩:=hl0;have hlen:=hl.2.1;obtain ⟨S0,F1,hF1,hS0,hp0⟩:=eH hF0
 cases hA:A with
 |none=>
  have h0:l=[]:=by
   refine List.eq_nil_of_length_eq_zero ?_;rw [←hlen];refine Nat.eq_zero_of_not_pos fun h=>?_;obtain ⟨g,off,h1,_⟩:=hcs h;rw [hA] at h1;cases h1
  subst h0;obtain rfl:cl=[]:=List.eq_nil_of_length_eq_zero hlen;refine dT (M:=fun _=>False) (hs:=[.fr F1]) Tryz.func139 rfl rfl rfl hp0 ?_;refine q1D ?_;refine TL.slNil 57 4 ?_;refine jF ?_;exact q4S
 |some a=>
  rw [←hF1] at hl;refine dT (M:=fun _=>False) (hs:=[.fr F1]) Tryz.func139 rfl rfl rfl hp0 ?_;refine q1g ?_;rintro _ _ ⟨g,rfl,rfl⟩;refine dH ?_;refine de (kz 0 1 (k':=l.length) (l':=cl.flatten) (zk2 hl (fun _ _ _=>GBidder.one)) rfl rfl rfl rfl rfl hl.1 (by rw [hl.2.1];omega) (by rw [List.nil_append]) hr a7) ?_;rintro v' _ ⟨hv',rfl⟩;refine gW ?_;exact q4T
structure Gfault where
 first:Int
deriving DecidableEq,Inhabited
abbrev kO (x:Gfault):List Value:=[.int .i64 x.first]
theorem Gfault.len (x:Gfault):(kO x).length=1:=rfl
structure GWriter where
 fault:Gfault
 out:List Int
deriving DecidableEq,Inhabited
def gr (F:Frz)(c:List Value)(x:GWriter):Prop:=∃(v1:Value),c=[.int .i64 x.fault.first,v1]∧SlC F v1 1 (x.out.map (eK .u8))
theorem GWriter.mono {F G:Frz}{c:List Value}{x:GWriter}(hle:F.Le G)(h:gr F c x):gr G c x:=by
 obtain ⟨v1,h0,h2⟩:=h;exact ⟨v1,h0,h2.mono hle⟩
theorem GWriter.len {F:Frz}{c:List Value}{x:GWriter}(h:gr F c x):c.length=2:=by
 obtain ⟨v1,h0,h2⟩:=h;subst h0;rfl
theorem GWriter.one {F:Frz}{c:List Value}{x:GWriter}(h:gr F c x):OneCs c:=by
 obtain ⟨v1,h0,h2⟩:=h;subst h0;haveI:=h2.oneC
 infer_instance
def zcg (fuel:Nat)(l0_:List Int)(n:BitVec 64):Option (List Int):=
 dO (fun (s3:List Int×BitVec 64)=>
 dB (dK (s3.1++[(IntKind.u8.wrap (s3.2.toNat:Int))]).length 1) <|
 some (s3.1++[(IntKind.u8.wrap (s3.2.toNat:Int))]))
 (fun k3=>
 eV (fun (next6:(List Int×BitVec 64)→Option (List Int)) (s6:List Int×BitVec 64)=>
 (bif decide (((127#64).toNat:Int)<(s6.2.toNat:Int)) then
 dB (dK (s6.1++[(orK .u8 (IntKind.u8.wrap (s6.2.toNat:Int)) 128)]).length 1) <|
 next6 ((s6.1++[(orK .u8 (IntKind.u8.wrap (s6.2.toNat:Int)) 128)]),(s6.2 >>> 7))
 else
 k3 (s6.1,s6.2))) fuel (l0_,n))
theorem zfc (F0:Frz)(w:World)(hF0:F0.At w)(l0_:List Int)(v0_:Value)(n:BitVec 64)(hO:Hp w (dD [.sl v0_ 5 1 l0_.length (l0_.flatMap (eK .u8))]) [.sl v0_ 5 1 l0_.length (l0_.flatMap (eK .u8))] w)(hA:∀g,dD [.sl v0_ 5 1 l0_.length (l0_.flatMap (eK .u8))] g→¬F0.S g)(fuel:Nat)(r:List Int)(hr:zcg fuel l0_ n=some r):Calls Tryz.prog 182 #[v0_,U n] w fun e w'=>∃(y:Value),(True)∧e= .returned (y)∧FxM F0 w (dD [.sl v0_ 5 1 l0_.length (l0_.flatMap (eK .u8))]) F0 [.sl y 5 1 r.length (r.flatMap (eK .u8))] w':=by
 have hk:=hr;unfold zcg at hk;haveI:=gV (hO.own (.sl v0_ 5 1 l0_.length (l0_.flatMap (eK .u8))) b3);have hmx0_:=ij (hO.own (.sl v0_ 5 1 l0_.length (l0_.flatMap (eK .u8))) b3);obtain ⟨S0,F1,rfl,hS0,hp0⟩:=fN hF0 hO hA;refine dT (hs:=[.sl v0_ 5 1 l0_.length (l0_.flatMap (eK .u8)), .fr F1]) Tryz.func182 rfl rfl rfl hp0 ?_;refine gA ?_;refine kU ?_;refine fv ?_;have hq:=ek hk;clear hk;obtain ⟨k3,hk3,hk⟩:=hq; (try dsimp only at hk);refine dk (ι:=List Int×Value×BitVec 64) (fun z=>[(0,z.2.1),(1,U z.2.2)]) (fun z=>[.sl z.2.1 5 1 z.1.length (z.1.flatMap (eK .u8)), .fr F1]) (fun z=>k3 (z.1,z.2.2)=some r∧OneC z.2.1) ?_ ?_
 ·have hq:=j7 hk;clear hk;obtain ⟨f6,hf6,hk⟩:=hq;refine ff ?_;refine T.pick [1,2] rfl a7 ?_;refine T.loop (ι:=Nat×List Int×Value×BitVec 64) (fun z=>[(0,z.2.2.1),(1,U z.2.2.2)]) (fun z=>[.sl z.2.2.1 5 1 z.2.1.length (z.2.1.flatMap (eK .u8)), .fr F1]) (fun z=>eV f6 z.1 (z.2.1,z.2.2.2)=some r∧OneC z.2.2.1) (fun z=>z.1) (fuel,l0_,v0_,n) ?_ ?_ ?_ ?_
  ·exact q4G
  ·exact (.c (.c .nil))
  ·exact fa
  ·rintro ⟨m_7,out_4,vout_4,n_5⟩ ⟨hk,oout_4⟩; (try dsimp only at *);have hq:=jZ hk;clear hk;obtain ⟨m_7',rfl,hk⟩:=hq;generalize hn6:eV f6 m_7'=next6 at hk;rw [←hf6] at hk; (try dsimp only at hk);refine j3 ?_;refine T.cond rfl (fun h8=>?_) (fun h8=>?_)
   ·replace hk:=dt hk h8;refine T.skip (K.seq (T.block (T.seq ?_)));have hq:(dK (out_4++[(orK .u8 (IntKind.u8.wrap (n_5.toNat:Int)) 128)]).length 1)∧_:=dJ hk;clear hk;obtain ⟨g12,hk⟩:=hq; (try dsimp only at hk);refine eZ ?_;refine cY (dY (z:=(n_5.toNat:Int))) ?_;refine cY (Yv.orK (a:=(IntKind.u8.wrap (n_5.toNat:Int))) (b:=128)) ?_;refine iA ?_;rintro _ _ ⟨g11,rfl,rfl⟩;refine de (gP 1 0 rfl rfl rfl rfl rfl rfl (l7 (ys:=[(orK .u8 (IntKind.u8.wrap (n_5.toNat:Int)) 128)])) (zdl (enc:=(eK .u8)) (xs:=out_4) (ys:=[(orK .u8 (IntKind.u8.wrap (n_5.toNat:Int)) 128)])) g12 a7) ?_;rintro v12 _ ⟨hv12,rfl⟩;refine dH ?_;refine q2B ?_;refine cY (gX (a:=n_5) 7 rfl rfl rfl (show (7:Int)=((7:Nat):Int) from rfl) a6) ?_;refine q3S ?_;rw [←hn6] at hk;refine q4g ?_;exact K.next (m_7',(out_4++[(orK .u8 (IntKind.u8.wrap (n_5.toNat:Int)) 128)]),v12,(n_5 >>> 7)) ⟨hk,inferInstance⟩ a9 (.c (.c .nil)) (List.Sublist.refl _)
   ·replace hk:=dw hk h8;refine fi ?_;exact dg (out_4,vout_4,n_5) ⟨hk,inferInstance⟩ (.c (.c .nil)) (List.Sublist.refl _)
 ·rintro ⟨out_1,vout_1,n_2⟩ ⟨hk,oout_1⟩; (try dsimp only at *);rw [←hk3] at hk; (try dsimp only at hk);refine T.seq ?_;have hq:(dK (out_1++[(IntKind.u8.wrap (n_2.toNat:Int))]).length 1)∧_:=dJ hk;clear hk;obtain ⟨g19,hk⟩:=hq; (try dsimp only at hk);refine eZ ?_;refine cY (dY (z:=(n_2.toNat:Int))) ?_;refine iA ?_;rintro _ _ ⟨g18,rfl,rfl⟩;refine de (gP 1 0 rfl rfl rfl rfl rfl rfl (l7 (ys:=[(IntKind.u8.wrap (n_2.toNat:Int))])) (zdl (enc:=(eK .u8)) (xs:=out_1) (ys:=[(IntKind.u8.wrap (n_2.toNat:Int))])) g19 a7) ?_;rintro v19 _ ⟨hv19,rfl⟩;refine gW ?_;obtain rfl:=Option.some.inj hk;exact fg rfl rfl (fun w' hw=>⟨v19,trivial,rfl,dz (hw.pick (idx:=[1,2]) rfl a7) hS0 (Frz.Le.refl _)⟩)
def zdp (fuel:Nat)(l0_:List Int)(n:Int):Option (List Int):=
 (bif decide (n<0) then
 (zcg fuel l0_ (((BitVec.ofInt 64 (wI (0 - (wI (n+1))))) <<< 1) ||| (1#64))).bind fun r14=>
 some r14
 else
 (zcg fuel l0_ ((BitVec.ofInt 64 n) <<< 1)).bind fun r19=>
 some r19)
theorem zhU (F0:Frz)(w:World)(hF0:F0.At w)(l0_:List Int)(v0_:Value)(n:Int)(hO:Hp w (dD [.sl v0_ 5 1 l0_.length (l0_.flatMap (eK .u8))]) [.sl v0_ 5 1 l0_.length (l0_.flatMap (eK .u8))] w)(hA:∀g,dD [.sl v0_ 5 1 l0_.length (l0_.flatMap (eK .u8))] g→¬F0.S g)(fuel:Nat)(r:List Int)(hr:zdp fuel l0_ n=some r):Calls Tryz.prog 183 #[v0_, .int .i64 n] w fun e w'=>∃(y:Value),(True)∧e= .returned (y)∧FxM F0 w (dD [.sl v0_ 5 1 l0_.length (l0_.flatMap (eK .u8))]) F0 [.sl y 5 1 r.length (r.flatMap (eK .u8))] w':=by
 have hk:=hr;unfold zdp at hk;haveI:=gV (hO.own (.sl v0_ 5 1 l0_.length (l0_.flatMap (eK .u8))) b3);have hmx0_:=ij (hO.own (.sl v0_ 5 1 l0_.length (l0_.flatMap (eK .u8))) b3);obtain ⟨S0,F1,rfl,hS0,hp0⟩:=fN hF0 hO hA;refine dT (hs:=[.sl v0_ 5 1 l0_.length (l0_.flatMap (eK .u8)), .fr F1]) Tryz.func183 rfl rfl rfl hp0 ?_;refine gA ?_;refine mA ?_;refine T.cond rfl (fun h1=>?_) (fun h1=>?_)
 ·have p1:=of_decide_eq_true h1;replace hk:=dt hk h1;refine T.seq ?_;have hq:=dC hk;clear hk;obtain ⟨r14,hr14,hk⟩:=hq; (try dsimp only at hk);refine eZ ?_;refine cY (dq (v:= .int .i64 (wI (n+1)))) ?_;refine q4p ?_;refine cY (eO (z:=(wI (0 - (wI (n+1)))))) ?_;refine cY (io (a:=(BitVec.ofInt 64 (wI (0 - (wI (n+1)))))) 1 rfl rfl rfl (show (1:Int)=((1:Nat):Int) from rfl) a6) ?_;refine cY (jn (a:=((BitVec.ofInt 64 (wI (0 - (wI (n+1))))) <<< 1)) (b:=1#64)) ?_;refine de (dG [0,1] [.sl v0_ 5 1 l0_.length (l0_.flatMap (eK .u8))] [] rfl rfl rfl rfl a7 (fun w hw hw2 hF=>zfc _ w hF l0_ v0_ (((BitVec.ofInt 64 (wI (0 - (wI (n+1))))) <<< 1) ||| (1#64)) hw2.takes.1 hw2.takes.2 fuel r14 hr14)) ?_;rintro v14_0_0 _ ⟨_, -,rfl,rfl⟩;refine mj ?_;intro iv14_0_0 hmv14_0_0;refine iV ?_;obtain rfl:=Option.some.inj hk;exact fg rfl rfl (fun w' hw=>⟨v14_0_0,trivial,rfl,dz (hw.pick (idx:=[0,1]) rfl a7) hS0 (Frz.Le.refl _)⟩)
 ·have p1:=of_decide_eq_false h1;replace hk:=dw hk h1;refine fV ?_;have hq:=dC hk;clear hk;obtain ⟨r19,hr19,hk⟩:=hq; (try dsimp only at hk);refine eZ ?_;refine cY (eO (z:=n)) ?_;refine cY (io (a:=(BitVec.ofInt 64 n)) 1 rfl rfl rfl (show (1:Int)=((1:Nat):Int) from rfl) a6) ?_;refine de (dG [0,1] [.sl v0_ 5 1 l0_.length (l0_.flatMap (eK .u8))] [] rfl rfl rfl rfl a7 (fun w hw hw2 hF=>zfc _ w hF l0_ v0_ ((BitVec.ofInt 64 n) <<< 1) hw2.takes.1 hw2.takes.2 fuel r19 hr19)) ?_;rintro v19_0_0 _ ⟨_, -,rfl,rfl⟩;refine mj ?_;intro iv19_0_0 hmv19_0_0;refine gW ?_;obtain rfl:=Option.some.inj hk;exact fg rfl rfl (fun w' hw=>⟨v19_0_0,trivial,rfl,dz (hw.pick (idx:=[0,1]) rfl a7) hS0 (Frz.Le.refl _)⟩)
def za9 (x0_:GWriter):Bool:=
 (decide (x0_.fault.first=0))
theorem zcP (F0:Frz)(w:World)(hF0:F0.At w)(x0_:GWriter)(g0_:Nat)(v0_1:Value)(hO:Hp w (dD [.row g0_ 145 [.int .i64 x0_.fault.first,v0_1], .sl v0_1 5 1 x0_.out.length (x0_.out.flatMap (eK .u8))]) [.row g0_ 145 [.int .i64 x0_.fault.first,v0_1], .sl v0_1 5 1 x0_.out.length (x0_.out.flatMap (eK .u8))] w)(hA:∀g,dD [.row g0_ 145 [.int .i64 x0_.fault.first,v0_1], .sl v0_1 5 1 x0_.out.length (x0_.out.flatMap (eK .u8))] g→¬F0.S g):Calls Tryz.prog 179 #[.pointer (some ⟨g0_,0,none⟩)] w fun e w'=>∃(y:Unit),(True)∧e= .returned (.bool (za9 x0_))∧FxM F0 w (dD [.row g0_ 145 [.int .i64 x0_.fault.first,v0_1], .sl v0_1 5 1 x0_.out.length (x0_.out.flatMap (eK .u8))]) F0 [.row g0_ 145 [.int .i64 x0_.fault.first,v0_1], .sl v0_1 5 1 x0_.out.length (x0_.out.flatMap (eK .u8))] w':=by
 obtain ⟨r,hk⟩:∃r,za9 x0_=r:=⟨_,rfl⟩;rw [hk];unfold za9 at hk;haveI:=gV (hO.own (.sl v0_1 5 1 x0_.out.length (x0_.out.flatMap (eK .u8))) b3);have hmx0_1:=ij (hO.own (.sl v0_1 5 1 x0_.out.length (x0_.out.flatMap (eK .u8))) b3);obtain ⟨S0,F1,rfl,hS0,hp0⟩:=fN hF0 hO hA;refine dT (hs:=[.row g0_ 145 [.int .i64 x0_.fault.first,v0_1], .sl v0_1 5 1 x0_.out.length (x0_.out.flatMap (eK .u8)), .fr F1]) Tryz.func179 rfl rfl rfl hp0 ?_;refine ft ?_;refine dk (ι:=Unit) (fun z=>[(2, .bool (decide (x0_.fault.first=0)))]) (fun z=>[.row g0_ 145 [.int .i64 x0_.fault.first,v0_1], .sl v0_1 5 1 x0_.out.length (x0_.out.flatMap (eK .u8)), .fr F1]) (fun z=>True) ?_ ?_
 ·refine eF ?_;refine cY (mg (e:=145) a8 rfl rfl rfl) ?_;refine fU ?_;refine fK ?_;refine gh ?_;refine iU ?_;exact q4U
 ·refine mv ?_;subst hk;exact q4E
def zaG (x0_:GWriter)(l1_:List Int):Option (List Int):=
 (bif decide (65536<(l1_.length:Int)) then
 none
 else
 some l1_)
theorem zcH (F0:Frz)(w:World)(hF0:F0.At w)(x0_:GWriter)(g0_:Nat)(v0_1:Value)[iv0_1:OneC v0_1](l1_:List Int)(v1_:Value)(hO:Hp w (dD [.row g0_ 145 [.int .i64 x0_.fault.first,v0_1], .sl v1_ 5 1 l1_.length (l1_.flatMap (eK .u8))]) [.row g0_ 145 [.int .i64 x0_.fault.first,v0_1], .sl v1_ 5 1 l1_.length (l1_.flatMap (eK .u8))] w)(hA:∀g,dD [.row g0_ 145 [.int .i64 x0_.fault.first,v0_1], .sl v1_ 5 1 l1_.length (l1_.flatMap (eK .u8))] g→¬F0.S g)(r:List Int)(hr:zaG x0_ l1_=some r):Calls Tryz.prog 181 #[.pointer (some ⟨g0_,0,none⟩),v1_] w fun e w'=>∃(y:Value),(True)∧e= .returned (.tuple #[])∧FxM F0 w (dD [.row g0_ 145 [.int .i64 x0_.fault.first,v0_1], .sl v1_ 5 1 l1_.length (l1_.flatMap (eK .u8))]) F0 [.row g0_ 145 [.int .i64 x0_.fault.first,y], .sl y 5 1 r.length (r.flatMap (eK .u8))] w':=by
 have hk:=hr;unfold zaG at hk;haveI:=gV (hO.own (.sl v1_ 5 1 l1_.length (l1_.flatMap (eK .u8))) b3);have hmx1_:=ij (hO.own (.sl v1_ 5 1 l1_.length (l1_.flatMap (eK .u8))) b3);obtain ⟨S0,F1,rfl,hS0,hp0⟩:=fN hF0 hO hA;refine dT (hs:=[.row g0_ 145 [.int .i64 x0_.fault.first,v0_1], .sl v1_ 5 1 l1_.length (l1_.flatMap (eK .u8)), .fr F1]) Tryz.func181 rfl rfl rfl hp0 ?_;refine q4b ?_;refine cY (gM 1 rfl rfl rfl) ?_;refine ez ?_;refine T.cond rfl (fun h1=>?_) (fun h1=>?_)
 ·have p1:=of_decide_eq_true h1;replace hk:=dt hk h1;refine T.seq ?_;cases hk
 ·have p1:=of_decide_eq_false h1;replace hk:=dw hk h1;refine T.skip (K.seq (T.region ?_));refine fU ?_;refine fK ?_;refine q1A ?_;refine fM ?_;obtain rfl:=Option.some.inj hk;exact fH rfl (fun w' hw=>⟨v1_,trivial,rfl,dz (hw.pick (idx:=[0,1,2]) rfl a7) hS0 (Frz.Le.refl _)⟩)
def lS (fuel:Nat)(x0_:GWriter)(n:Int):Option (List Int):=
 (bif !(za9 x0_) then
 some x0_.out
 else
 (bif decide (n<0) then
 none
 else
 (zcg fuel x0_.out (BitVec.ofInt 64 n)).bind fun r20=>
 (zaG x0_ r20).bind fun r21=>
 some r21))
theorem zaD (F0:Frz)(w:World)(hF0:F0.At w)(x0_:GWriter)(g0_:Nat)(v0_1:Value)(n:Int)(hO:Hp w (dD [.row g0_ 145 [.int .i64 x0_.fault.first,v0_1], .sl v0_1 5 1 x0_.out.length (x0_.out.flatMap (eK .u8))]) [.row g0_ 145 [.int .i64 x0_.fault.first,v0_1], .sl v0_1 5 1 x0_.out.length (x0_.out.flatMap (eK .u8))] w)(hA:∀g,dD [.row g0_ 145 [.int .i64 x0_.fault.first,v0_1], .sl v0_1 5 1 x0_.out.length (x0_.out.flatMap (eK .u8))] g→¬F0.S g)(fuel:Nat)(r:List Int)(hr:lS fuel x0_ n=some r):Calls Tryz.prog 96 #[.pointer (some ⟨g0_,0,none⟩), .int .i64 n] w fun e w'=>∃(y:Value),(True)∧e= .returned (.tuple #[])∧FxM F0 w (dD [.row g0_ 145 [.int .i64 x0_.fault.first,v0_1], .sl v0_1 5 1 x0_.out.length (x0_.out.flatMap (eK .u8))]) F0 [.row g0_ 145 [.int .i64 x0_.fault.first,y], .sl y 5 1 r.length (r.flatMap (eK .u8))] w':=by
 have hk:=hr;unfold lS at hk;haveI:=gV (hO.own (.sl v0_1 5 1 x0_.out.length (x0_.out.flatMap (eK .u8))) b3);have hmx0_1:=ij (hO.own (.sl v0_1 5 1 x0_.out.length (x0_.out.flatMap (eK .u8))) b3);obtain ⟨S0,F1,rfl,hS0,hp0⟩:=fN hF0 hO hA;refine dT (hs:=[.row g0_ 145 [.int .i64 x0_.fault.first,v0_1], .sl v0_1 5 1 x0_.out.length (x0_.out.flatMap (eK .u8)), .fr F1]) Tryz.func96 rfl rfl rfl hp0 ?_;refine q4b ?_;refine q2P ?_;rintro _ _ ⟨⟨⟩, -,rfl,rfl⟩;refine fe ?_;refine ez ?_;refine T.cond rfl (fun h1=>?_) (fun h1=>?_)
 ·replace hk:=dt hk h1;refine T.ret (dS ?_);obtain rfl:=Option.some.inj hk;exact K.ret0 rfl (fun w' hw=>⟨v0_1,trivial,rfl,dz (hw.pick (idx:=[0,1,2]) rfl a7) hS0 (Frz.Le.refl _)⟩)
 ·replace hk:=dw hk h1;refine jQ ?_;refine jG ?_;refine T.cond rfl (fun h2=>?_) (fun h2=>?_)
  ·have p2:=of_decide_eq_true h2;replace hk:=dt hk h2;refine T.seq ?_;cases hk
  ·have p2:=of_decide_eq_false h2;replace hk:=dw hk h2;refine T.skip (K.seq ?_);have hq:=dC hk;clear hk;obtain ⟨r20,hr20,hk⟩:=hq;have hq:=dC hk;clear hk;obtain ⟨r21,hr21,hk⟩:=hq; (try dsimp only at hk);refine gR ?_;refine kg ?_;refine cY (eO (z:=n)) ?_;refine de (dG [1,2,0] [.sl v0_1 5 1 x0_.out.length (x0_.out.flatMap (eK .u8))] [.row g0_ 145 [.int .i64 x0_.fault.first,v0_1]] rfl rfl rfl rfl a7 (fun w hw hw2 hF=>zfc _ w hF x0_.out v0_1 (BitVec.ofInt 64 n) hw2.takes.1 hw2.takes.2 fuel r20 hr20)) ?_;rintro v20_0_0 _ ⟨_, -,rfl,rfl⟩;refine mj ?_;intro iv20_0_0 hmv20_0_0;refine de (dG [2,0,1] [.row g0_ 145 [.int .i64 x0_.fault.first,v0_1], .sl v20_0_0 5 1 r20.length (r20.flatMap (eK .u8))] [] rfl rfl rfl rfl a7 (fun w hw hw2 hF=>zcH _ w hF x0_ g0_ v0_1 r20 v20_0_0 hw2.takes.1 hw2.takes.2 r21 hr21)) ?_;rintro _ _ ⟨v21_0_1, -,rfl,rfl⟩;refine lg ?_;intro iv21_0_1 hmv21_0_1;refine fM ?_;obtain rfl:=Option.some.inj hk;exact fH rfl (fun w' hw=>⟨v21_0_1,trivial,rfl,dz (hw.pick (idx:=[0,1,2]) rfl a7) hS0 (Frz.Le.refl _)⟩)
def zbl (fuel:Nat)(x0_:GWriter)(n:Int):Option (List Int):=
 (bif (za9 x0_) then
 (zdp fuel x0_.out n).bind fun r12=>
 (zaG x0_ r12).bind fun r13=>
 some r13
 else
 some x0_.out)
theorem zes (F0:Frz)(w:World)(hF0:F0.At w)(x0_:GWriter)(g0_:Nat)(v0_1:Value)(n:Int)(hO:Hp w (dD [.row g0_ 145 [.int .i64 x0_.fault.first,v0_1], .sl v0_1 5 1 x0_.out.length (x0_.out.flatMap (eK .u8))]) [.row g0_ 145 [.int .i64 x0_.fault.first,v0_1], .sl v0_1 5 1 x0_.out.length (x0_.out.flatMap (eK .u8))] w)(hA:∀g,dD [.row g0_ 145 [.int .i64 x0_.fault.first,v0_1], .sl v0_1 5 1 x0_.out.length (x0_.out.flatMap (eK .u8))] g→¬F0.S g)(fuel:Nat)(r:List Int)(hr:zbl fuel x0_ n=some r):Calls Tryz.prog 98 #[.pointer (some ⟨g0_,0,none⟩), .int .i64 n] w fun e w'=>∃(y:Value),(True)∧e= .returned (.tuple #[])∧FxM F0 w (dD [.row g0_ 145 [.int .i64 x0_.fault.first,v0_1], .sl v0_1 5 1 x0_.out.length (x0_.out.flatMap (eK .u8))]) F0 [.row g0_ 145 [.int .i64 x0_.fault.first,y], .sl y 5 1 r.length (r.flatMap (eK .u8))] w':=by
 have hk:=hr;unfold zbl at hk;haveI:=gV (hO.own (.sl v0_1 5 1 x0_.out.length (x0_.out.flatMap (eK .u8))) b3);have hmx0_1:=ij (hO.own (.sl v0_1 5 1 x0_.out.length (x0_.out.flatMap (eK .u8))) b3);obtain ⟨S0,F1,rfl,hS0,hp0⟩:=fN hF0 hO hA;refine dT (hs:=[.row g0_ 145 [.int .i64 x0_.fault.first,v0_1], .sl v0_1 5 1 x0_.out.length (x0_.out.flatMap (eK .u8)), .fr F1]) Tryz.func98 rfl rfl rfl hp0 ?_;refine gA ?_;refine q2P ?_;rintro _ _ ⟨⟨⟩, -,rfl,rfl⟩;refine ms ?_;refine T.cond rfl (fun h1=>?_) (fun h1=>?_)
 ·replace hk:=dt hk h1;have hq:=dC hk;clear hk;obtain ⟨r12,hr12,hk⟩:=hq;have hq:=dC hk;clear hk;obtain ⟨r13,hr13,hk⟩:=hq; (try dsimp only at hk);refine gR ?_;refine kg ?_;refine de (dG [1,2,0] [.sl v0_1 5 1 x0_.out.length (x0_.out.flatMap (eK .u8))] [.row g0_ 145 [.int .i64 x0_.fault.first,v0_1]] rfl rfl rfl rfl a7 (fun w hw hw2 hF=>zhU _ w hF x0_.out v0_1 n hw2.takes.1 hw2.takes.2 fuel r12 hr12)) ?_;rintro v12_0_0 _ ⟨_, -,rfl,rfl⟩;refine mj ?_;intro iv12_0_0 hmv12_0_0;refine de (dG [2,0,1] [.row g0_ 145 [.int .i64 x0_.fault.first,v0_1], .sl v12_0_0 5 1 r12.length (r12.flatMap (eK .u8))] [] rfl rfl rfl rfl a7 (fun w hw hw2 hF=>zcH _ w hF x0_ g0_ v0_1 r12 v12_0_0 hw2.takes.1 hw2.takes.2 r13 hr13)) ?_;rintro _ _ ⟨v13_0_1, -,rfl,rfl⟩;refine lg ?_;intro iv13_0_1 hmv13_0_1;refine fM ?_;obtain rfl:=Option.some.inj hk;exact fH rfl (fun w' hw=>⟨v13_0_1,trivial,rfl,dz (hw.pick (idx:=[0,1,2]) rfl a7) hS0 (Frz.Le.refl _)⟩)
 ·replace hk:=dw hk h1;refine T.skip ?_;obtain rfl:=Option.some.inj hk;exact fH rfl (fun w' hw=>⟨v0_1,trivial,rfl,dz (hw.pick (idx:=[0,1,2]) rfl a7) hS0 (Frz.Le.refl _)⟩)
def zbk (x0_:GWriter):Option (List Int×Int):=
 (bif decide (¬x0_.fault.first=0) then
 some ([],x0_.fault.first)
 else
 dB (dK ([]++x0_.out).length 1) <|
 some (([]++x0_.out),0))
theorem zc2 (F0:Frz)(w:World)(hF0:F0.At w)(x0_:GWriter)(g0_:Nat)(v0_1:Value)(hO:Hp w (dD [.row g0_ 145 [.int .i64 x0_.fault.first,v0_1], .sl v0_1 5 1 x0_.out.length (x0_.out.flatMap (eK .u8))]) [.row g0_ 145 [.int .i64 x0_.fault.first,v0_1], .sl v0_1 5 1 x0_.out.length (x0_.out.flatMap (eK .u8))] w)(hA:∀g,dD [.row g0_ 145 [.int .i64 x0_.fault.first,v0_1], .sl v0_1 5 1 x0_.out.length (x0_.out.flatMap (eK .u8))] g→¬F0.S g)(r:List Int×Int)(hr:zbk x0_=some r):Calls Tryz.prog 99 #[.pointer (some ⟨g0_,0,none⟩)] w fun e w'=>∃(y:Value),(True)∧e= .returned (.tuple #[y, .int .i64 r.2])∧FxM F0 w (dD [.row g0_ 145 [.int .i64 x0_.fault.first,v0_1], .sl v0_1 5 1 x0_.out.length (x0_.out.flatMap (eK .u8))]) F0 [.row g0_ 145 [.int .i64 x0_.fault.first,v0_1], .sl v0_1 5 1 x0_.out.length (x0_.out.flatMap (eK .u8)), .sl y 5 1 r.1.length (r.1.flatMap (eK .u8))] w':=by
 have hk:=hr;unfold zbk at hk;haveI:=gV (hO.own (.sl v0_1 5 1 x0_.out.length (x0_.out.flatMap (eK .u8))) b3);have hmx0_1:=ij (hO.own (.sl v0_1 5 1 x0_.out.length (x0_.out.flatMap (eK .u8))) b3);obtain ⟨S0,F1,rfl,hS0,hp0⟩:=fN hF0 hO hA;refine dT (hs:=[.row g0_ 145 [.int .i64 x0_.fault.first,v0_1], .sl v0_1 5 1 x0_.out.length (x0_.out.flatMap (eK .u8)), .fr F1]) Tryz.func99 rfl rfl rfl hp0 ?_;refine gA ?_;refine kU ?_;refine jb ?_;refine cY (mD (e:=145) a8 rfl rfl rfl) ?_;refine dX ?_;refine T.bA rfl rfl ?_;refine jQ ?_;refine ep ?_;refine fK ?_;refine kV ?_;refine ez ?_;refine T.cond rfl (fun h1=>?_) (fun h1=>?_)
 ·have p1:=of_decide_eq_true h1;replace hk:=dt hk h1;refine T.seq ?_;refine ef (sN 0 6 (.still 6 .done)) _ a8 (List.Sublist.refl _) ?_;refine lR ?_;refine kG ?_;refine gB ?_;refine TS.slNil 5 1 ?_;refine jp ?_;refine K.seq (T.ret (dS ?_));obtain rfl:=Option.some.inj hk;exact fk rfl rfl rfl (fun w' hw=>⟨(.slice none 0 0),trivial,rfl,dz (hw.pick (idx:=[2,3,0,4]) rfl a7) hS0 (Frz.Le.refl _)⟩)
 ·have p1:=of_decide_eq_false h1;replace hk:=dw hk h1;refine fV ?_;have hq:(dK ([]++x0_.out).length 1)∧_:=dJ hk;clear hk;obtain ⟨g21,hk⟩:=hq; (try dsimp only at hk);refine eZ ?_;refine kV ?_;refine kU ?_;refine de (Ew.cj 0 3 (zj9 (fun _=>inferInstance)) rfl rfl rfl rfl rfl (zkr ([]:List Int) x0_.out) (zjn (enc:=(eK .u8)) ([]:List Int) x0_.out) g21 a7) ?_;rintro v21 _ ⟨hv21,rfl⟩;refine kW ?_;obtain rfl:=Option.some.inj hk;exact fk rfl rfl rfl (fun w' hw=>⟨v21,trivial,rfl,dz (hw.pick (idx:=[2,3,0,4]) rfl a7) hS0 (Frz.Le.refl _)⟩)
inductive Dy (α β:Type) where
 |ok (x:α)
 |er (z:β)
instance {α β:Type} [Inhabited α]:Inhabited (Dy α β):=⟨.ok default⟩
def fS {α β:Type}:Dy α β→Bool
 | .ok _=>true
 | .er _=>false
def eE {α β:Type}[Inhabited α]:Dy α β→α
 | .ok x=>x
 | .er _=>default
def gp {α β:Type}[Inhabited β]:Dy α β→β
 | .ok _=>default
 | .er z=>z
abbrev dyE (t:TypeId)(k:Int):List PanicEntry:=[{ v:= .iface t (.int .i64 k),recovered:=false }]
def zjH (P:Program)(fn:Func)(R:Ending→World→Prop):Exit→Act→World→Prop
 | .normal,a,w| .ret,a,w=>LeavesInM Fence.wide 0 P fn a.tmps R a.defers .returning w
 | .panic ch,a,w=>∀tmps,LeavesInM Fence.wide 0 P fn tmps R a.defers (.panicking ch) w
 |_,_,_=>False
instance (P:Program) (fn:Func) (R:Ending→World→Prop):NP (zjH P fn R):=⟨fun c a d v w h=>by
 cases d <;> exact h⟩
section
variable {F:Fence}{P:Program}{n:Nat}{B D:World}{M:Nat→Prop}{Q:Exit→Act→World→Prop}{fs:eJ}{hs:HS}{ops:Array Oper}{l rest:List Oper}{ch:List PanicEntry}{id:Nat}
theorem zfk {f:FuncId}{fn:Func}{c:Code}{args:List Value}{w:World}{R:Ending→World→Prop}(hf:P.funcs[f]?=some fn)(hb:fn.body=some c)(hn:fn.ntmps=n)(hlen:Nat.ble args.length n=true)
  (hh:Hp w M hs w) (h:T Fence.wide P n w w M c (zjH P fn R) (jC 0 args) hs):Calls P f args.toArray w R:=by
 (have hle:args.length≤n:=by simpa using hlen);refine callsIn_wide.1 (callsIn_of_wp_marks (F:=Fence.wide) (n:=0) hf hb trivial (wpIn_mono (h.out { tmps:=args.toArray++Array.replicate (fn.ntmps - args.toArray.size) undef,defers:=[] } w ⟨?_,?_⟩ hh ⟨Kp.refl w,[],rfl,List.nodup_nil,fun _ h=>by cases h⟩) ?_))
 ·simp [hn];omega
 ·intro t v e;obtain ⟨_,h2⟩:=zfv _ _ _ _ e;rw [Nat.sub_zero] at h2;have ht:t<args.length:=(List.getElem?_eq_some_iff.1 h2).1;rw [Array.getElem?_append_left (by simpa using ht)];simpa using h2
 ·intro e a w hq
  cases e <;> first|exact hq|exact hq a.tmps|exact hq.elim
theorem mL {fn:Func}{R:Ending→World→Prop}(h:K n B D M (kf P fn R) .ret fs hs):K n B D M (zjH P fn R) .ret fs hs:=⟨fun a w ha hw hm=>h.out a w ha hw hm⟩
theorem K.cJ {fn:Func}{R:Ending→World→Prop}(h:K n B D M (kf P fn R) .normal fs hs):K n B D M (zjH P fn R) .normal fs hs:=⟨fun a w ha hw hm=>h.out a w ha hw hm⟩
theorem kM {N:Act→World→Prop}(h:K n B D M Q (.panic ch) fs hs):K n B D M (Exit.then N Q) (.panic ch) fs hs:=⟨fun a w ha hw hm=>h.out a w ha hw hm⟩
theorem K.aW (h:K n B D M Q (.panic ch) fs hs):K n B D M (Exit.inBlock id Q) (.panic ch) fs hs:=⟨fun a w ha hw hm=>h.out a w ha hw hm⟩
theorem zgb {fn:Func}{R:Ending→World→Prop}{tmps:Array Value}(hv:∀w,Hp B M hs w→R (.panicked ch) w):
  ∀(rs:List Nat) (w:World),Hp B M hs w→Kp D w→rs.Nodup→(∀r∈rs,w.heap[r]?=some (.deferred (some []))∧B.heap.size≤r∧D.heap.size≤r)→LeavesInM Fence.wide 0 P fn tmps R (rs.map mark) (.panicking ch) w
 | [],w,h,hk,_,_=>hv w h
 |r :: rs,w,h,hk,hn,hr=>by
  obtain ⟨h1,h2,h3⟩:=hr r b3;have hlt:=(Array.getElem?_eq_some_iff.1 h1).1;have ho:Only (· =r) w (w.putObj r (.deferred none)):=⟨rfl,rfl,rfl,by rw [World.putObj_size];exact Nat.le_refl _,fun k hk hne=>World.putObj_heap_other hne⟩;refine ⟨by simp, .inl ⟨r,w.putObj r (.deferred none),rfl,run_takeDeferred h1,?_⟩⟩;rw [List.nodup_cons] at hn;refine zgb hv rs _ (h.other ho h2 (h.notMark h1)) ⟨Nat.le_trans hk.size ho.size,fun q c hq=>?_⟩ hn.2 (fun q hq=>?_)
  ·have hq':=(Array.getElem?_eq_some_iff.1 hq).1;exact (World.putObj_heap_other a6).trans (hk.keep q c hq)
  ·have hq':=hr q (by simp [hq]);exact q48
theorem K.bj {fn:Func}{R:Ending→World→Prop}(h:∀w,Hp B M hs w→R (.panicked ch) w):K n B D M (zjH P fn R) (.panic ch) fs hs:=
 ⟨fun a w ha hw ⟨h0,rs,h1,h2,h3⟩=>by
  intro tmps
  rw [h1];exact zgb h rs w hw h0 h2 h3⟩
end
section
variable {Fe:Fence}[hFe:Calm Fe]{P:Program}{n:Nat}{B D:World}{M S0:Nat→Prop}{Q:Exit→Act→World→Prop}{fs:eJ}{hs:HS}{ops:Array Oper}{rest:List Oper}{o:Oper}{v:Value}
def zi1 (P:Program)(t:TypeId):Bool:=
 match P.underlying t with
 |some (.interface _)=>false
 |some _=>true
 |none=>false
theorem Yv.bX {t:TypeId}{x:Operand}(ho:o.op= .makeInterface t x)(hx:ev fs x=some v)(ht:zi1 P t=true):Yv P n B M fs hs o (.iface t v):=fun a w ha _=>by
 have h1:(Instr.makeInterface t v).run P w= .ok (.iface t v) w:=by
  unfold zi1 at ht
  cases hU:P.underlying t with
  |none=>rw [hU] at ht;cases ht
  |some d=>
   rw [hU] at ht
   cases d <;> first|(cases ht;done)|simp [Instr.makeInterface,underlying,hU]
 unfold execOp;simp only [ho,ha.ev hx];rw [Sem.run_bind,h1];rfl
theorem TL.bY {t:TypeId}{x:Operand}(hg:o.guard=none)(ho:o.op= .panic x)(hx:ev fs x=some (.iface t v))(k:K n B D M Q (.panic [{ v:= .iface t v,recovered:=false }]) fs hs):TL Fe P n B D M ops Q (o :: rest) fs hs:=
 ⟨fun a w ha hp hm=>wpListIn_step fun K hK=>by
  rw [if_pos (c9 hg a ha)]
  have hr:(execOp a.eval o).run P w= .halt (.panic (.iface t v)) w:=by
   unfold execOp;simp only [ho,ha.ev hx]
   rfl
  refine zhN (fun c e=>by rw [ho] at e;cases e) ?_;rw [hr]
  exact k.out a w ha hp hm⟩
theorem ziR {c:Operand}{xs:Array Operand}{ts:Array TypeId}{f:FuncId}{fst caps:Array Value}{vs:List Value}[hE:Enters P f](ho:o.op= .call { callee:= .value c,args:=xs,argTypes:=ts })(hc:ev fs c=some (.func (.func f) fst caps))(hv:evs fs xs.toList=some vs)
  {a:Act} {w:World} (ha:Fr n fs a) {R:Ending→World→Prop} (C:Calls P f (fst.toList++vs++caps.toList).toArray w R) {K:Act→World→Prop} (h1:∀v w',R (.returned v) w'→K (a.put o.dst v) w') (h2:∀ch w',R (.panicked ch) w'→Q (.panic ch) a w') (h3:∀w',¬R .outgrown w'):o.wpIn Fe 0 P a w K Q:=by
 (have h4:xs.map a.eval=vs.toArray:=by rw [←ha.evs hv];apply Array.ext';simp)
 have hrun:(execOp a.eval o).run P w= .ok (.enter f (fst.toList++vs++caps.toList).toArray) w:=by
  unfold execOp;have:=hE.run (fst.toList++vs++caps.toList).toArray w;simp only [ho,resolve,ha.ev hc,Deferred.ofValue,h4,invoke,Sem.run_bind,Sem.run_pure,Result.andThen_ok];rw [←this]
  congr 2
  apply Array.ext';simp
 refine zhN (ziJ hrun) ?_;rw [hrun,Oper.uponIn_enter];refine ⟨(fun h=>by rw [hFe.depth] at h;cases h),zgz C ?_⟩;intro e w' hR
 cases e with
 |returned v=>exact h1 v w' hR
 |panicked ch=>exact h2 ch w' hR
 |outgrown=>exact absurd hR (h3 w')
theorem jS (idx:List Nat)(bs rs:HS){ι:Type}{F:FzB B M S0}{φ:ι→Prop}{ch:List PanicEntry}{es:ι→HS}{c:Operand}{xs:Array Operand}{ts:Array TypeId}{f:FuncId}{fst caps:Array Value}{vs:List Value}[hE:Enters P f](hg:o.guard=none)
  (ho:o.op= .call { callee:= .value c,args:=xs,argTypes:=ts }) (hc:ev fs c=some (.func (.func f) fst caps)) (hv:evs fs xs.toList=some vs) (hp:lV hs idx=some (bs++ .fr F :: rs)) (hn:idx.Nodup)
  (C:∀w,Hp B M hs w→Hp B M (bs++ .fr F :: rs) w→F.toFrz.At w→Calls P f (fst.toList++vs++caps.toList).toArray w (fun e w'=>∃y,φ y∧e= .panicked ch∧FxM F.toFrz w (dD bs) F.toFrz (es y) w'))
  (k:∀y,φ y→K n B D M Q (.panic ch) fs (es y++ .fr F :: rs)):TL Fe P n B D M ops Q (o :: rest) fs hs:=
 ⟨fun a w ha hw hm=>wpListIn_step fun K hK=>by
  rw [if_pos (c9 hg a ha)];have hw2:=hw.pick hp hn;have hF:F.toFrz.At w:=hw2.fr (i:=bs.length) b3;refine ziR ho hc hv ha (C w hw hw2 hF) (fun v w' h=>?_) (fun ch2 w' h=>?_) (fun w' h=>?_)
  ·obtain ⟨_,_,e,_⟩:=h;cases e
  ·obtain ⟨y,hy,e,hx⟩:=h
   cases e
   refine (k y hy).out a w' ha ?_ (hm.next (Kp.only hx.hp.only fun g hg c=>?_))
   ·exact q49
   ·obtain ⟨e,h1,h2⟩:=hg;exact q4Z
  ·obtain ⟨_,_,e,_⟩:=h;cases e⟩
end
structure GReader where
 fault:Gfault
 made:Bool
 in_:List Int
 at_:Int
deriving DecidableEq,Inhabited
def gq (F:Frz)(c:List Value)(x:GReader):Prop:=∃(v2:Value),c=[.int .i64 x.fault.first, .bool x.made,v2, .int .i64 x.at_]∧SlC F v2 1 (x.in_.map (eK .u8))
theorem GReader.mono {F G:Frz}{c:List Value}{x:GReader}(hle:F.Le G)(h:gq F c x):gq G c x:=by
 obtain ⟨v2,h0,h3⟩:=h;exact ⟨v2,h0,h3.mono hle⟩
theorem GReader.len {F:Frz}{c:List Value}{x:GReader}(h:gq F c x):c.length=4:=by
 obtain ⟨v2,h0,h3⟩:=h;subst h0;rfl
theorem GReader.one {F:Frz}{c:List Value}{x:GReader}(h:gq F c x):OneCs c:=by
 obtain ⟨v2,h0,h3⟩:=h;subst h0;haveI:=h3.oneC
 infer_instance
def za7 (x0_:GReader):Bool:=
 x0_.made
theorem zcM (F0:Frz)(w:World)(hF0:F0.At w)(x0_:GReader)(g0_:Nat)(v0_2:Value)(hO:Hp w (dD [.row g0_ 232 [.int .i64 x0_.fault.first, .bool x0_.made,v0_2, .int .i64 x0_.at_], .sl v0_2 5 1 x0_.in_.length (x0_.in_.flatMap (eK .u8))]) [.row g0_ 232 [.int .i64 x0_.fault.first, .bool x0_.made,v0_2, .int .i64 x0_.at_], .sl v0_2 5 1 x0_.in_.length (x0_.in_.flatMap (eK .u8))] w)(hA:∀g,dD [.row g0_ 232 [.int .i64 x0_.fault.first, .bool x0_.made,v0_2, .int .i64 x0_.at_], .sl v0_2 5 1 x0_.in_.length (x0_.in_.flatMap (eK .u8))] g→¬F0.S g):Calls Tryz.prog 187 #[.pointer (some ⟨g0_,0,none⟩)] w fun e w'=>∃(y:Unit),(True)∧e= .returned (.bool (za7 x0_))∧FxM F0 w (dD [.row g0_ 232 [.int .i64 x0_.fault.first, .bool x0_.made,v0_2, .int .i64 x0_.at_], .sl v0_2 5 1 x0_.in_.length (x0_.in_.flatMap (eK .u8))]) F0 [.row g0_ 232 [.int .i64 x0_.fault.first, .bool x0_.made,v0_2, .int .i64 x0_.at_], .sl v0_2 5 1 x0_.in_.length (x0_.in_.flatMap (eK .u8))] w':=by
 obtain ⟨r,hk⟩:∃r,za7 x0_=r:=⟨_,rfl⟩;rw [hk];unfold za7 at hk;haveI:=gV (hO.own (.sl v0_2 5 1 x0_.in_.length (x0_.in_.flatMap (eK .u8))) b3);have hmx0_2:=ij (hO.own (.sl v0_2 5 1 x0_.in_.length (x0_.in_.flatMap (eK .u8))) b3);obtain ⟨S0,F1,rfl,hS0,hp0⟩:=fN hF0 hO hA;refine dT (hs:=[.row g0_ 232 [.int .i64 x0_.fault.first, .bool x0_.made,v0_2, .int .i64 x0_.at_], .sl v0_2 5 1 x0_.in_.length (x0_.in_.flatMap (eK .u8)), .fr F1]) Tryz.func187 rfl rfl rfl hp0 ?_;refine ft ?_;refine dk (ι:=Unit) (fun z=>[(2, .bool x0_.made)]) (fun z=>[.row g0_ 232 [.int .i64 x0_.fault.first, .bool x0_.made,v0_2, .int .i64 x0_.at_], .sl v0_2 5 1 x0_.in_.length (x0_.in_.flatMap (eK .u8)), .fr F1]) (fun z=>True) ?_ ?_
 ·refine eF ?_;refine cY (mg (e:=232) a8 rfl rfl rfl) ?_;refine fU ?_;refine gh ?_;refine jh ?_;exact q4U
 ·refine mv ?_;subst hk;exact q4E
def mc (x0_:GReader):Option (Dy (Int×Int) (Int×Int)):=
 dO (fun (_:Unit)=>
 dB (0≤x0_.at_∧x0_.at_<(x0_.in_.length:Int)) <|
 some (Dy.ok ((nth x0_.in_ x0_.at_.toNat),(x0_.at_+1))))
 (fun k1=>
 (bif decide ((x0_.in_.length:Int)≤x0_.at_) then
 some (Dy.er (4,x0_.at_))
 else
 k1 ()))
theorem zcV (F0:Frz)(w:World)(hF0:F0.At w)(x0_:GReader)(g0_:Nat)(v0_2:Value)(hO:Hp w (dD [.row g0_ 232 [.int .i64 x0_.fault.first, .bool x0_.made,v0_2, .int .i64 x0_.at_], .sl v0_2 5 1 x0_.in_.length (x0_.in_.flatMap (eK .u8))]) [.row g0_ 232 [.int .i64 x0_.fault.first, .bool x0_.made,v0_2, .int .i64 x0_.at_], .sl v0_2 5 1 x0_.in_.length (x0_.in_.flatMap (eK .u8))] w)(hA:∀g,dD [.row g0_ 232 [.int .i64 x0_.fault.first, .bool x0_.made,v0_2, .int .i64 x0_.at_], .sl v0_2 5 1 x0_.in_.length (x0_.in_.flatMap (eK .u8))] g→¬F0.S g)(r:Dy (Int×Int) (Int×Int))(hr:mc x0_=some r):Calls Tryz.prog 224 #[.pointer (some ⟨g0_,0,none⟩)] w fun e w'=>((fS r=true→∃(y:Unit),(True)∧e= .returned (.int .u8 ((eE r).1))∧FxM F0 w (dD [.row g0_ 232 [.int .i64 x0_.fault.first, .bool x0_.made,v0_2, .int .i64 x0_.at_], .sl v0_2 5 1 x0_.in_.length (x0_.in_.flatMap (eK .u8))]) F0 [.row g0_ 232 [.int .i64 x0_.fault.first, .bool x0_.made,v0_2, .int .i64 ((eE r).2)], .sl v0_2 5 1 x0_.in_.length (x0_.in_.flatMap (eK .u8))] w')∧(fS r=false→∃(y:Unit),(True)∧e= .panicked (dyE 38 ((gp r).1))∧FxM F0 w (dD [.row g0_ 232 [.int .i64 x0_.fault.first, .bool x0_.made,v0_2, .int .i64 x0_.at_], .sl v0_2 5 1 x0_.in_.length (x0_.in_.flatMap (eK .u8))]) F0 [.row g0_ 232 [.int .i64 x0_.fault.first, .bool x0_.made,v0_2, .int .i64 ((gp r).2)], .sl v0_2 5 1 x0_.in_.length (x0_.in_.flatMap (eK .u8))] w')):=by
 have hk:=hr;unfold mc at hk;haveI:=gV (hO.own (.sl v0_2 5 1 x0_.in_.length (x0_.in_.flatMap (eK .u8))) b3);have hmx0_2:=ij (hO.own (.sl v0_2 5 1 x0_.in_.length (x0_.in_.flatMap (eK .u8))) b3);obtain ⟨S0,F1,rfl,hS0,hp0⟩:=fN hF0 hO hA;refine zfk (hs:=[.row g0_ 232 [.int .i64 x0_.fault.first, .bool x0_.made,v0_2, .int .i64 x0_.at_], .sl v0_2 5 1 x0_.in_.length (x0_.in_.flatMap (eK .u8)), .fr F1]) Tryz.func224 rfl rfl rfl hp0 ?_;refine gA ?_;refine jv ?_;refine ef (sN 0 9 (.still 9 .done)) _ a8 (List.Sublist.refl _) ?_;refine kR ?_;refine kR ?_;refine dc rfl (gM 1 rfl rfl rfl) ?_;refine jp ?_;refine K.seq ?_;have hq:=ek hk;clear hk;obtain ⟨k1,hk1,hk⟩:=hq; (try dsimp only at hk);refine dk (ι:=Unit) (fun z=>[(0, .pointer (some ⟨g0_,0,none⟩))]) (fun z=>[.row g0_ 232 [.int .i64 x0_.fault.first, .bool x0_.made,v0_2, .int .i64 x0_.at_], .sl v0_2 5 1 x0_.in_.length (x0_.in_.flatMap (eK .u8)), .fr F1]) (fun z=>k1 ()=some r) ?_ ?_
 ·refine T.cond rfl (fun h2=>?_) (fun h2=>?_)
  ·have p2:=of_decide_eq_true h2;replace hk:=dt hk h2;refine q1W ?_;refine kM ?_;obtain rfl:=Option.some.inj hk;exact q4C
  ·have p2:=of_decide_eq_false h2;replace hk:=dw hk h2;refine T.skip ?_;exact q4F
 ·rintro _ hk;rw [←hk1] at hk; (try dsimp only at hk);refine T.seq ?_;have hq:(0≤x0_.at_∧x0_.at_<(x0_.in_.length:Int))∧_:=dJ hk;clear hk;obtain ⟨g23,hk⟩:=hq; (try dsimp only at hk);refine q3q ?_;refine kR ?_;refine kR ?_;refine dc rfl (dW 1 (i:=x0_.at_.toNat) rfl rfl rfl rfl a6 a6) ?_;refine dc rfl (eR 1 rfl rfl rfl a6 (ir (enc:=(eK .u8)) (i:=x0_.at_.toNat) (j:=0) (fun _=>rfl) a6 a7)) ?_;refine jp ?_;refine K.seq (ee ?_);refine ep ?_;refine gh ?_;refine q2s ?_;refine dH ?_;refine fK ?_;refine q1A ?_;refine eP ?_;refine kW ?_;obtain rfl:=Option.some.inj hk;refine mL ?_;exact q4L
def mP (x0_:GReader)(most:Int):Option (Dy (BitVec 64×Int) (Int×Int)):=
 dB (most≤10) <|
 dO (fun (s3:BitVec 64×Int)=>
 some (Dy.er (6,s3.2)))
 (fun k3=>
 dN (fun (i_8:Nat) (next7:(BitVec 64×BitVec 64×Int)→Option (Dy (BitVec 64×Int) (Int×Int))) (s7:BitVec 64×BitVec 64×Int)=>
 (mc (GReader.mk (Gfault.mk x0_.fault.first) x0_.made x0_.in_ s7.2.2)).bind fun r14=>
 (bif fS r14 then
 dO (fun (_:Unit)=>
 (bif decide ((eE r14).1<128) then
 dO (fun (_:Unit)=>
 some (Dy.ok ((s7.2.1 ||| ((BitVec.ofInt 64 (andK .u8 ((eE r14).1) 127)) <<< ((7* (i_8:Int)).toNat))),((eE r14).2))))
 (fun k16=>
 (bif ((decide ((eE r14).1=0))&&(decide (0<(i_8:Int)))) then
 some (Dy.er (6,((eE r14).2)))
 else
 k16 ()))
 else
 next7 (s7.1,(s7.2.1 ||| ((BitVec.ofInt 64 (andK .u8 ((eE r14).1) 127)) <<< ((7* (i_8:Int)).toNat))),(eE r14).2)))
 (fun k12=>
 (bif ((decide ((i_8:Int)=9))&&(decide (((1#64).toNat:Int)<((BitVec.ofInt 64 (andK .u8 ((eE r14).1) 127)).toNat:Int)))) then
 some (Dy.er (6,((eE r14).2)))
 else
 k12 ()))
 else
 some (Dy.er ((gp r14).1,((gp r14).2)))))
 (fun (s7:BitVec 64×BitVec 64×Int)=>
 k3 (s7.1,s7.2.2)) (most.toNat - 0) 0 (0#64,0#64,x0_.at_))
theorem zaV (F0:Frz)(w:World)(hF0:F0.At w)(x0_:GReader)(g0_:Nat)(v0_2:Value)(most:Int)(hO:Hp w (dD [.row g0_ 232 [.int .i64 x0_.fault.first, .bool x0_.made,v0_2, .int .i64 x0_.at_], .sl v0_2 5 1 x0_.in_.length (x0_.in_.flatMap (eK .u8))]) [.row g0_ 232 [.int .i64 x0_.fault.first, .bool x0_.made,v0_2, .int .i64 x0_.at_], .sl v0_2 5 1 x0_.in_.length (x0_.in_.flatMap (eK .u8))] w)(hA:∀g,dD [.row g0_ 232 [.int .i64 x0_.fault.first, .bool x0_.made,v0_2, .int .i64 x0_.at_], .sl v0_2 5 1 x0_.in_.length (x0_.in_.flatMap (eK .u8))] g→¬F0.S g)(r:Dy (BitVec 64×Int) (Int×Int))(hr:mP x0_ most=some r):Calls Tryz.prog 189 #[.pointer (some ⟨g0_,0,none⟩), .int .i64 most] w fun e w'=>((fS r=true→∃(y:Unit),(True)∧e= .returned (U ((eE r).1))∧FxM F0 w (dD [.row g0_ 232 [.int .i64 x0_.fault.first, .bool x0_.made,v0_2, .int .i64 x0_.at_], .sl v0_2 5 1 x0_.in_.length (x0_.in_.flatMap (eK .u8))]) F0 [.row g0_ 232 [.int .i64 x0_.fault.first, .bool x0_.made,v0_2, .int .i64 ((eE r).2)], .sl v0_2 5 1 x0_.in_.length (x0_.in_.flatMap (eK .u8))] w')∧(fS r=false→∃(y:Unit),(True)∧e= .panicked (dyE 38 ((gp r).1))∧FxM F0 w (dD [.row g0_ 232 [.int .i64 x0_.fault.first, .bool x0_.made,v0_2, .int .i64 x0_.at_], .sl v0_2 5 1 x0_.in_.length (x0_.in_.flatMap (eK .u8))]) F0 [.row g0_ 232 [.int .i64 x0_.fault.first, .bool x0_.made,v0_2, .int .i64 ((gp r).2)], .sl v0_2 5 1 x0_.in_.length (x0_.in_.flatMap (eK .u8))] w')):=by
 have hk:=hr;unfold mP at hk;haveI:=gV (hO.own (.sl v0_2 5 1 x0_.in_.length (x0_.in_.flatMap (eK .u8))) b3);have hmx0_2:=ij (hO.own (.sl v0_2 5 1 x0_.in_.length (x0_.in_.flatMap (eK .u8))) b3);obtain ⟨S0,F1,rfl,hS0,hp0⟩:=fN hF0 hO hA;refine zfk (hs:=[.row g0_ 232 [.int .i64 x0_.fault.first, .bool x0_.made,v0_2, .int .i64 x0_.at_], .sl v0_2 5 1 x0_.in_.length (x0_.in_.flatMap (eK .u8)), .fr F1]) Tryz.func189 rfl rfl rfl hp0 ?_;have hq:(most≤10)∧_:=dJ hk;clear hk;obtain ⟨gmost,hk⟩:=hq;refine jE ?_;refine kH ?_;have hq:=ek hk;clear hk;obtain ⟨k3,hk3,hk⟩:=hq; (try dsimp only at hk);refine dk (ι:=BitVec 64×Int) (fun z=>[(4,U z.1)]) (fun z=>[.row g0_ 232 [.int .i64 x0_.fault.first, .bool x0_.made,v0_2, .int .i64 z.2], .sl v0_2 5 1 x0_.in_.length (x0_.in_.flatMap (eK .u8)), .fr F1]) (fun z=>k3 (z.1,z.2)=some r) ?_ ?_
 ·have hq:=fX hk;clear hk;obtain ⟨f7,kk7,hf7,hkk7,hk⟩:=hq;refine ff ?_;refine T.loop (ι:=Nat×BitVec 64×BitVec 64×Int) (fun z=>[(0, .pointer (some ⟨g0_,0,none⟩)),(4,U z.2.1),(5,U z.2.2.1),(9, .int .i64 most),(10, .int .i64 (z.1:Int))]) (fun z=>[.row g0_ 232 [.int .i64 x0_.fault.first, .bool x0_.made,v0_2, .int .i64 z.2.2.2], .sl v0_2 5 1 x0_.in_.length (x0_.in_.flatMap (eK .u8)), .fr F1]) (fun z=>dN f7 kk7 (most.toNat - z.1) z.1 (z.2.1,z.2.2.1,z.2.2.2)=some r) (fun z=>most.toNat - z.1) (0,0#64,0#64,x0_.at_) ?_ ?_ ?_ ?_
  ·exact hk
  ·exact jW
  ·exact fa
  ·rintro ⟨i_8,x_4,n_5,c_6⟩ hk; (try dsimp only at *);refine ft ?_;refine T.cond rfl (fun h9=>?_) (fun h9=>?_)
   ·have p9:=of_decide_eq_true h9;rw [fW a6] at hk;generalize hn7:dN f7 kk7 (most.toNat - (i_8+1)) (i_8+1)=next7 at hk;rw [←hf7] at hk; (try dsimp only at hk);refine jc ?_;refine ep ?_;refine fv ?_;have hq:=dC hk;clear hk;obtain ⟨r14,hr14,hk⟩:=hq; (try dsimp only at hk);refine jz (fS r14) (fun h10=>?_) (fun h10=>?_)
    ·replace hk:=dt hk h10;refine eF ?_;refine de (dG [0,1,2] [.row g0_ 232 [.int .i64 x0_.fault.first, .bool x0_.made,v0_2, .int .i64 c_6], .sl v0_2 5 1 x0_.in_.length (x0_.in_.flatMap (eK .u8))] [] rfl rfl rfl rfl a7 (fun w hw hw2 hF=>(zcV _ w hF (GReader.mk (Gfault.mk x0_.fault.first) x0_.made x0_.in_ c_6) g0_ v0_2 hw2.takes.1 hw2.takes.2 r14 hr14).mono (fun e w' hp=>hp.1 h10))) ?_;rintro _ _ ⟨⟨⟩, -,rfl,rfl⟩;refine fe ?_;refine iw ?_;refine dH ?_;refine cY (Yv.andK (a:=(eE r14).1) (b:=127) rfl rfl rfl) ?_;refine cY (eO (z:=(andK .u8 ((eE r14).1) 127))) ?_;refine jr ?_;refine dk (ι:=Unit) (fun z=>[(0, .pointer (some ⟨g0_,0,none⟩)),(4,U x_4),(5,U n_5),(6, .int .i64 (i_8:Int)),(7, .int .u8 ((eE r14).1)),(8,U (BitVec.ofInt 64 (andK .u8 ((eE r14).1) 127))),(9, .int .i64 most),(10, .int .i64 (i_8:Int)),(23, .bool ((decide ((i_8:Int)=9))&&(decide (((1#64).toNat:Int)<((BitVec.ofInt 64 (andK .u8 ((eE r14).1) 127)).toNat:Int)))))]) (fun z=>[.row g0_ 232 [.int .i64 x0_.fault.first, .bool x0_.made,v0_2, .int .i64 ((eE r14).2)], .sl v0_2 5 1 x0_.in_.length (x0_.in_.flatMap (eK .u8)), .fr F1]) (fun z=>True) ?_ ?_
     ·refine gR ?_;refine dp rfl rfl rfl (fun h11=>?_) (fun h11=>?_)
      ·have p11:=of_decide_eq_true h11;refine iU ?_;exact dg () trivial (.c (.c (.c (.c (.c (.c (.c (.c (.b (iX h11) .nil))))))))) (List.Sublist.refl _)
      ·have p11:=of_decide_eq_false h11;refine iU ?_;exact dg () trivial (.c (.c (.c (.c (.c (.c (.c (.c (.b (gQ h11).symm .nil))))))))) (List.Sublist.refl _)
     ·rintro _ _;have hq:=ek hk;clear hk;obtain ⟨k12,hk12,hk⟩:=hq; (try dsimp only at hk);refine dk (ι:=Unit) (fun z=>[(0, .pointer (some ⟨g0_,0,none⟩)),(4,U x_4),(5,U n_5),(6, .int .i64 (i_8:Int)),(7, .int .u8 ((eE r14).1)),(8,U (BitVec.ofInt 64 (andK .u8 ((eE r14).1) 127))),(9, .int .i64 most),(10, .int .i64 (i_8:Int))]) (fun z=>[.row g0_ 232 [.int .i64 x0_.fault.first, .bool x0_.made,v0_2, .int .i64 ((eE r14).2)], .sl v0_2 5 1 x0_.in_.length (x0_.in_.flatMap (eK .u8)), .fr F1]) (fun z=>k12 ()=some r) ?_ ?_
      ·refine T.cond rfl (fun h13=>?_) (fun h13=>?_)
       ·have p13:=h13; (try simp only [iy] at p13);replace hk:=dt hk h13;refine q1W ?_;refine q3D ?_;refine q3D ?_;obtain rfl:=Option.some.inj hk;exact q4C
       ·replace hk:=dw hk h13;refine T.skip ?_;exact dg () hk (.c (.c (.c (.c (.c (.c (.c (.c .nil)))))))) (List.Sublist.refl _)
      ·rintro _ hk;rw [←hk12] at hk; (try dsimp only at hk);refine iY ?_;refine cY (Yv.bZ rfl rfl rfl a6) ?_;refine cY (io (a:=(BitVec.ofInt 64 (andK .u8 ((eE r14).1) 127))) ((7* (i_8:Int)).toNat) rfl rfl rfl a6 a6) ?_;refine cY (jn) ?_;refine iw ?_;refine jG ?_;refine T.cond rfl (fun h14=>?_) (fun h14=>?_)
       ·have p14:=of_decide_eq_true h14;replace hk:=dt hk h14;refine li ?_;refine dk (ι:=Unit) (fun z=>[(5,U (n_5 ||| ((BitVec.ofInt 64 (andK .u8 ((eE r14).1) 127)) <<< ((7* (i_8:Int)).toNat)))),(38, .bool ((decide ((eE r14).1=0))&&(decide (0<(i_8:Int)))))]) (fun z=>[.row g0_ 232 [.int .i64 x0_.fault.first, .bool x0_.made,v0_2, .int .i64 ((eE r14).2)], .sl v0_2 5 1 x0_.in_.length (x0_.in_.flatMap (eK .u8)), .fr F1]) (fun z=>True) ?_ ?_
        ·refine gR ?_;refine dp rfl rfl rfl (fun h15=>?_) (fun h15=>?_)
         ·have p15:=of_decide_eq_true h15;refine iU ?_;exact dg () trivial (.c (.b (iX h15) .nil)) (List.Sublist.refl _)
         ·have p15:=of_decide_eq_false h15;refine iU ?_;exact dg () trivial (.c (.b (gQ h15).symm .nil)) (List.Sublist.refl _)
        ·rintro _ _;have hq:=ek hk;clear hk;obtain ⟨k16,hk16,hk⟩:=hq; (try dsimp only at hk);refine dk (ι:=Unit) (fun z=>[(5,U (n_5 ||| ((BitVec.ofInt 64 (andK .u8 ((eE r14).1) 127)) <<< ((7* (i_8:Int)).toNat))))]) (fun z=>[.row g0_ 232 [.int .i64 x0_.fault.first, .bool x0_.made,v0_2, .int .i64 ((eE r14).2)], .sl v0_2 5 1 x0_.in_.length (x0_.in_.flatMap (eK .u8)), .fr F1]) (fun z=>k16 ()=some r) ?_ ?_
         ·refine T.cond rfl (fun h17=>?_) (fun h17=>?_)
          ·have p17:=h17; (try simp only [iy] at p17);replace hk:=dt hk h17;refine q1W ?_;refine q3D ?_;refine q3D ?_;obtain rfl:=Option.some.inj hk;exact q4C
          ·replace hk:=dw hk h17;refine T.skip ?_;exact q4F
         ·rintro _ hk;rw [←hk16] at hk; (try dsimp only at hk);refine gS ?_;refine kE ?_;obtain rfl:=Option.some.inj hk;refine mL ?_;exact q4L
       ·have p14:=of_decide_eq_false h14;replace hk:=dw hk h14;refine mm ?_;rw [←hn7] at hk;exact K.next ((i_8+1),x_4,(n_5 ||| ((BitVec.ofInt 64 (andK .u8 ((eE r14).1) 127)) <<< ((7* (i_8:Int)).toNat))),(eE r14).2) hk a9 (.c (.c (.c (.c (.c .nil))))) (List.Sublist.refl _)
    ·replace hk:=dw hk h10;refine eF ?_;refine jS [0,1,2] [.row g0_ 232 [.int .i64 x0_.fault.first, .bool x0_.made,v0_2, .int .i64 c_6], .sl v0_2 5 1 x0_.in_.length (x0_.in_.flatMap (eK .u8))] [] rfl rfl rfl rfl rfl a7 (fun w hw hw2 hF=>(zcV _ w hF (GReader.mk (Gfault.mk x0_.fault.first) x0_.made x0_.in_ c_6) g0_ v0_2 hw2.takes.1 hw2.takes.2 r14 hr14).mono (fun e w' hp=>hp.2 h10)) ?_;rintro ⟨⟩ -;refine fe ?_;refine q3D ?_;refine q3D ?_;obtain rfl:=Option.some.inj hk;exact q4C
   ·have p9:=of_decide_eq_false h9;rw [fY a6,←hkk7] at hk; (try dsimp only at hk);refine fi ?_;exact dg (x_4,c_6) hk (.c .nil) (List.Sublist.refl _)
 ·rintro ⟨x_1,c_2⟩ hk; (try dsimp only at *);rw [←hk3] at hk; (try dsimp only at hk);refine q1W ?_;obtain rfl:=Option.some.inj hk;exact q4C
def zaO (x0_:GReader)(limit:Int):Option (Dy (Int×Int) (Int×Int)):=
 (mP x0_ 9).bind fun r7=>
 (bif fS r7 then
 dO (fun (_:Unit)=>
 dO (fun (_:Unit)=>
 some (Dy.ok ((wI (((eE r7).1).toNat:Int)),((eE r7).2))))
 (fun k4=>
 (bif decide (limit<(wI (((eE r7).1).toNat:Int))) then
 some (Dy.er (7,((eE r7).2)))
 else
 k4 ())))
 (fun k2=>
 (bif decide (limit<0) then
 some (Dy.er (2,((eE r7).2)))
 else
 k2 ()))
 else
 some (Dy.er ((gp r7).1,((gp r7).2))))
theorem zcS (F0:Frz)(w:World)(hF0:F0.At w)(x0_:GReader)(g0_:Nat)(v0_2:Value)(limit:Int)(hO:Hp w (dD [.row g0_ 232 [.int .i64 x0_.fault.first, .bool x0_.made,v0_2, .int .i64 x0_.at_], .sl v0_2 5 1 x0_.in_.length (x0_.in_.flatMap (eK .u8))]) [.row g0_ 232 [.int .i64 x0_.fault.first, .bool x0_.made,v0_2, .int .i64 x0_.at_], .sl v0_2 5 1 x0_.in_.length (x0_.in_.flatMap (eK .u8))] w)(hA:∀g,dD [.row g0_ 232 [.int .i64 x0_.fault.first, .bool x0_.made,v0_2, .int .i64 x0_.at_], .sl v0_2 5 1 x0_.in_.length (x0_.in_.flatMap (eK .u8))] g→¬F0.S g)(r:Dy (Int×Int) (Int×Int))(hr:zaO x0_ limit=some r):Calls Tryz.prog 186 #[.pointer (some ⟨g0_,0,none⟩), .int .i64 limit] w fun e w'=>((fS r=true→∃(y:Unit),(True)∧e= .returned (.int .i64 ((eE r).1))∧FxM F0 w (dD [.row g0_ 232 [.int .i64 x0_.fault.first, .bool x0_.made,v0_2, .int .i64 x0_.at_], .sl v0_2 5 1 x0_.in_.length (x0_.in_.flatMap (eK .u8))]) F0 [.row g0_ 232 [.int .i64 x0_.fault.first, .bool x0_.made,v0_2, .int .i64 ((eE r).2)], .sl v0_2 5 1 x0_.in_.length (x0_.in_.flatMap (eK .u8))] w')∧(fS r=false→∃(y:Unit),(True)∧e= .panicked (dyE 38 ((gp r).1))∧FxM F0 w (dD [.row g0_ 232 [.int .i64 x0_.fault.first, .bool x0_.made,v0_2, .int .i64 x0_.at_], .sl v0_2 5 1 x0_.in_.length (x0_.in_.flatMap (eK .u8))]) F0 [.row g0_ 232 [.int .i64 x0_.fault.first, .bool x0_.made,v0_2, .int .i64 ((gp r).2)], .sl v0_2 5 1 x0_.in_.length (x0_.in_.flatMap (eK .u8))] w')):=by
 have hk:=hr;unfold zaO at hk;haveI:=gV (hO.own (.sl v0_2 5 1 x0_.in_.length (x0_.in_.flatMap (eK .u8))) b3);have hmx0_2:=ij (hO.own (.sl v0_2 5 1 x0_.in_.length (x0_.in_.flatMap (eK .u8))) b3);obtain ⟨S0,F1,rfl,hS0,hp0⟩:=fN hF0 hO hA;refine zfk (hs:=[.row g0_ 232 [.int .i64 x0_.fault.first, .bool x0_.made,v0_2, .int .i64 x0_.at_], .sl v0_2 5 1 x0_.in_.length (x0_.in_.flatMap (eK .u8)), .fr F1]) Tryz.func186 rfl rfl rfl hp0 ?_;refine ft ?_;have hq:=dC hk;clear hk;obtain ⟨r7,hr7,hk⟩:=hq; (try dsimp only at hk);refine jz (fS r7) (fun h1=>?_) (fun h1=>?_)
 ·replace hk:=dt hk h1;refine eF ?_;refine de (dG [0,1,2] [.row g0_ 232 [.int .i64 x0_.fault.first, .bool x0_.made,v0_2, .int .i64 x0_.at_], .sl v0_2 5 1 x0_.in_.length (x0_.in_.flatMap (eK .u8))] [] rfl rfl rfl rfl a7 (fun w hw hw2 hF=>(zaV _ w hF x0_ g0_ v0_2 9 hw2.takes.1 hw2.takes.2 r7 hr7).mono (fun e w' hp=>hp.1 h1))) ?_;rintro _ _ ⟨⟨⟩, -,rfl,rfl⟩;refine fe ?_;refine cY (dY (z:=(((eE r7).1).toNat:Int))) ?_;refine kH ?_;have hq:=ek hk;clear hk;obtain ⟨k2,hk2,hk⟩:=hq; (try dsimp only at hk);refine dk (ι:=Unit) (fun z=>[(1, .int .i64 limit),(5, .int .i64 (wI (((eE r7).1).toNat:Int)))]) (fun z=>[.row g0_ 232 [.int .i64 x0_.fault.first, .bool x0_.made,v0_2, .int .i64 ((eE r7).2)], .sl v0_2 5 1 x0_.in_.length (x0_.in_.flatMap (eK .u8)), .fr F1]) (fun z=>k2 ()=some r) ?_ ?_
  ·refine T.cond rfl (fun h3=>?_) (fun h3=>?_)
   ·have p3:=of_decide_eq_true h3;replace hk:=dt hk h3;refine q1W ?_;refine kM ?_;obtain rfl:=Option.some.inj hk;exact q4C
   ·have p3:=of_decide_eq_false h3;replace hk:=dw hk h3;refine T.skip ?_;exact dg () hk (.c (.c .nil)) (List.Sublist.refl _)
  ·rintro _ hk;rw [←hk2] at hk; (try dsimp only at hk);refine ju ?_;refine lX ?_;have hq:=ek hk;clear hk;obtain ⟨k4,hk4,hk⟩:=hq; (try dsimp only at hk);refine dk (ι:=Unit) (fun z=>[(5, .int .i64 (wI (((eE r7).1).toNat:Int)))]) (fun z=>[.row g0_ 232 [.int .i64 x0_.fault.first, .bool x0_.made,v0_2, .int .i64 ((eE r7).2)], .sl v0_2 5 1 x0_.in_.length (x0_.in_.flatMap (eK .u8)), .fr F1]) (fun z=>k4 ()=some r) ?_ ?_
   ·refine T.cond rfl (fun h5=>?_) (fun h5=>?_)
    ·have p5:=of_decide_eq_true h5;replace hk:=dt hk h5;refine q1W ?_;refine kM ?_;obtain rfl:=Option.some.inj hk;exact q4C
    ·have p5:=of_decide_eq_false h5;replace hk:=dw hk h5;refine T.skip ?_;exact q4F
   ·rintro _ hk;rw [←hk4] at hk; (try dsimp only at hk);refine lW ?_;obtain rfl:=Option.some.inj hk;refine mL ?_;exact q4L
 ·replace hk:=dw hk h1;refine eF ?_;refine jS [0,1,2] [.row g0_ 232 [.int .i64 x0_.fault.first, .bool x0_.made,v0_2, .int .i64 x0_.at_], .sl v0_2 5 1 x0_.in_.length (x0_.in_.flatMap (eK .u8))] [] rfl rfl rfl rfl rfl a7 (fun w hw hw2 hF=>(zaV _ w hF x0_ g0_ v0_2 9 hw2.takes.1 hw2.takes.2 r7 hr7).mono (fun e w' hp=>hp.2 h1)) ?_;rintro ⟨⟩ -;refine fe ?_;refine kM ?_;obtain rfl:=Option.some.inj hk;exact q4C
def zaF (x0_:GReader):Option (Dy (Int×Int) (Int×Int)):=
 (mP x0_ 10).bind fun r6=>
 (bif fS r6 then
 (bif decide (((((eE r6).1) &&& (1#64)).toNat:Int)=((1#64).toNat:Int)) then
 some (Dy.ok (wI ((wI (0 - (wI ((((eE r6).1) >>> 1).toNat:Int)))) - 1),((eE r6).2)))
 else
 some (Dy.ok ((wI ((((eE r6).1) >>> 1).toNat:Int)),((eE r6).2))))
 else
 some (Dy.er ((gp r6).1,((gp r6).2))))
theorem zcI (F0:Frz)(w:World)(hF0:F0.At w)(x0_:GReader)(g0_:Nat)(v0_2:Value)(hO:Hp w (dD [.row g0_ 232 [.int .i64 x0_.fault.first, .bool x0_.made,v0_2, .int .i64 x0_.at_], .sl v0_2 5 1 x0_.in_.length (x0_.in_.flatMap (eK .u8))]) [.row g0_ 232 [.int .i64 x0_.fault.first, .bool x0_.made,v0_2, .int .i64 x0_.at_], .sl v0_2 5 1 x0_.in_.length (x0_.in_.flatMap (eK .u8))] w)(hA:∀g,dD [.row g0_ 232 [.int .i64 x0_.fault.first, .bool x0_.made,v0_2, .int .i64 x0_.at_], .sl v0_2 5 1 x0_.in_.length (x0_.in_.flatMap (eK .u8))] g→¬F0.S g)(r:Dy (Int×Int) (Int×Int))(hr:zaF x0_=some r):Calls Tryz.prog 191 #[.pointer (some ⟨g0_,0,none⟩)] w fun e w'=>((fS r=true→∃(y:Unit),(True)∧e= .returned (.int .i64 ((eE r).1))∧FxM F0 w (dD [.row g0_ 232 [.int .i64 x0_.fault.first, .bool x0_.made,v0_2, .int .i64 x0_.at_], .sl v0_2 5 1 x0_.in_.length (x0_.in_.flatMap (eK .u8))]) F0 [.row g0_ 232 [.int .i64 x0_.fault.first, .bool x0_.made,v0_2, .int .i64 ((eE r).2)], .sl v0_2 5 1 x0_.in_.length (x0_.in_.flatMap (eK .u8))] w')∧(fS r=false→∃(y:Unit),(True)∧e= .panicked (dyE 38 ((gp r).1))∧FxM F0 w (dD [.row g0_ 232 [.int .i64 x0_.fault.first, .bool x0_.made,v0_2, .int .i64 x0_.at_], .sl v0_2 5 1 x0_.in_.length (x0_.in_.flatMap (eK .u8))]) F0 [.row g0_ 232 [.int .i64 x0_.fault.first, .bool x0_.made,v0_2, .int .i64 ((gp r).2)], .sl v0_2 5 1 x0_.in_.length (x0_.in_.flatMap (eK .u8))] w')):=by
 have hk:=hr;unfold zaF at hk;haveI:=gV (hO.own (.sl v0_2 5 1 x0_.in_.length (x0_.in_.flatMap (eK .u8))) b3);have hmx0_2:=ij (hO.own (.sl v0_2 5 1 x0_.in_.length (x0_.in_.flatMap (eK .u8))) b3);obtain ⟨S0,F1,rfl,hS0,hp0⟩:=fN hF0 hO hA;refine zfk (hs:=[.row g0_ 232 [.int .i64 x0_.fault.first, .bool x0_.made,v0_2, .int .i64 x0_.at_], .sl v0_2 5 1 x0_.in_.length (x0_.in_.flatMap (eK .u8)), .fr F1]) Tryz.func191 rfl rfl rfl hp0 ?_;refine ft ?_;have hq:=dC hk;clear hk;obtain ⟨r6,hr6,hk⟩:=hq; (try dsimp only at hk);refine jz (fS r6) (fun h1=>?_) (fun h1=>?_)
 ·replace hk:=dt hk h1;refine eF ?_;refine de (dG [0,1,2] [.row g0_ 232 [.int .i64 x0_.fault.first, .bool x0_.made,v0_2, .int .i64 x0_.at_], .sl v0_2 5 1 x0_.in_.length (x0_.in_.flatMap (eK .u8))] [] rfl rfl rfl rfl a7 (fun w hw hw2 hF=>(zaV _ w hF x0_ g0_ v0_2 10 hw2.takes.1 hw2.takes.2 r6 hr6).mono (fun e w' hp=>hp.1 h1))) ?_;rintro _ _ ⟨⟨⟩, -,rfl,rfl⟩;refine fe ?_;refine iw ?_;refine dH ?_;refine cY (gX (a:=(eE r6).1) 1 rfl rfl rfl (show (1:Int)=((1:Nat):Int) from rfl) a6) ?_;refine cY (dY (z:=((((eE r6).1) >>> 1).toNat:Int))) ?_;refine jb ?_;refine cY (Yv.cy (a:=(eE r6).1) (b:=1#64) rfl rfl rfl) ?_;refine ez ?_;refine T.cond rfl (fun h2=>?_) (fun h2=>?_)
  ·replace hk:=dt hk h2;refine gA ?_;refine q4p ?_;refine cY (dq (v:= .int .i64 (wI ((wI (0 - (wI ((((eE r6).1) >>> 1).toNat:Int)))) - 1)))) ?_;refine iV ?_;obtain rfl:=Option.some.inj hk;refine mL ?_;exact q4L
  ·replace hk:=dw hk h2;refine iz ?_;refine kW ?_;obtain rfl:=Option.some.inj hk;refine mL ?_;exact q4L
 ·replace hk:=dw hk h1;refine eF ?_;refine jS [0,1,2] [.row g0_ 232 [.int .i64 x0_.fault.first, .bool x0_.made,v0_2, .int .i64 x0_.at_], .sl v0_2 5 1 x0_.in_.length (x0_.in_.flatMap (eK .u8))] [] rfl rfl rfl rfl rfl a7 (fun w hw hw2 hF=>(zaV _ w hF x0_ g0_ v0_2 10 hw2.takes.1 hw2.takes.2 r6 hr6).mono (fun e w' hp=>hp.2 h1)) ?_;rintro ⟨⟩ -;refine fe ?_;refine kM ?_;obtain rfl:=Option.some.inj hk;exact q4C
section
variable (P:Program)(n:Nat)(B:World)(M:Nat→Prop)(ds:List Deferred)
structure DK (Q:Exit→Act→World→Prop) (e:Exit) (fs:eJ) (hs:HS):Prop where
 out:∀a w,Fr n fs a→Hp B M hs w→a.defers=ds→Q e a w
structure DT (c:Code) (Q:Exit→Act→World→Prop) (fs:eJ) (hs:HS):Prop where
 out:∀a w,Fr n fs a→Hp B M hs w→a.defers=ds→c.wpIn Fence.wide 0 P Q a w
structure DL (ops:Array Oper) (Q:Exit→Act→World→Prop) (l:List Oper) (fs:eJ) (hs:HS):Prop where
 out:∀a w,Fr n fs a→Hp B M hs w→a.defers=ds→wpListIn Fence.wide 0 P ops Q l a w
end
theorem put_defers (a:Act)(d:Option Nat)(v:Value):(a.put d v).defers=a.defers:=by cases d <;> rfl
section
variable {P:Program}{n:Nat}{B:World}{M:Nat→Prop}{ds:List Deferred}{Q:Exit→Act→World→Prop}{fs fs':eJ}{hs hs':HS}{ops:Array Oper}{l l' rest:List Oper}{c c1 c2:Code}{id:Nat}{o:Oper}{v:Value}
theorem DT.seq (h:DT P n B M ds c1 (Exit.then (c2.wpIn Fence.wide 0 P Q) Q) fs hs):DT P n B M ds (.seq c1 c2) Q fs hs:=⟨fun a w ha hw hm=>wpIn_seq (h.out a w ha hw hm)⟩
theorem DT.skip (h:DK n B M ds Q .normal fs hs):DT P n B M ds .skip Q fs hs:=⟨fun a w ha hw hm=>wpIn_skip (h.out a w ha hw hm)⟩
theorem DT.ret (h:DK n B M ds Q .ret fs hs):DT P n B M ds .ret Q fs hs:=⟨fun a w ha hw hm=>wpIn_ret (h.out a w ha hw hm)⟩
theorem DT.cond {o:Operand}{b:Bool}(hb:ev fs o=some (.bool b))(h1:b=true→DT P n B M ds c1 Q fs hs)(h2:b=false→DT P n B M ds c2 Q fs hs):DT P n B M ds (.cond o c1 c2) Q fs hs:=
 ⟨fun a w ha hw hm=>wpIn_cond_split (ha.ev hb) (fun h=>(h1 h).out a w ha hw hm) (fun h=>(h2 h).out a w ha hw hm)⟩
theorem DT.region {l:List Oper}(h:DL P n B M ds l.toArray Q l fs hs):DT P n B M ds (.region id l.toArray false) Q fs hs:=⟨fun a w ha hw hm=>wpIn_region_lit (h.out a w ha hw hm)⟩
theorem DL.nil (h:DK n B M ds Q .normal fs hs):DL P n B M ds ops Q [] fs hs:=⟨fun a w ha hw hm=>wpListIn_nil (h.out a w ha hw hm)⟩
theorem DK.seq (h:DT P n B M ds c Q fs hs):DK n B M ds (Exit.then (c.wpIn Fence.wide 0 P Q) Q) .normal fs hs:=⟨fun a w ha hw hm=>h.out a w ha hw hm⟩
theorem fP {N:Act→World→Prop}(h:DK n B M ds Q .ret fs hs):DK n B M ds (Exit.then N Q) .ret fs hs:=⟨fun a w ha hw hm=>h.out a w ha hw hm⟩
theorem jT {gs:eJ}(h1:Sub fs gs)(h:DL P n B M ds ops Q l gs hs):DL P n B M ds ops Q l fs hs:=⟨fun a w ha hw hm=>h.out a w (ha.sub h1) hw hm⟩
theorem DL.yv {d:Nat}(hw:Wt n ops fs o true)(hd:o.dst=some d)(hb:Nat.blt d n=true)(h:Yv P n B M fs hs o v)(k:DL P n B M ds ops Q rest ((d,v) :: fs) hs):DL P n B M ds ops Q (o :: rest) fs hs:=
 ⟨fun a w ha hp hm=>wpListIn_step fun K hK=>by
  rw [if_pos (hw a ha)];refine zhN (zhE (h a w ha hp)) ?_;rw [h a w ha hp,Oper.uponIn_value,hd]
  exact hK _ _ (k.out _ w (ha.put hb v) hp (by rw [put_defers];exact hm))⟩
theorem DL.off {d:Nat}(hw:Wt n ops fs o false)(hd:o.dst=some d)(hb:Nat.blt d n=true)(k:DL P n B M ds ops Q rest ((d,undef) :: fs) hs):DL P n B M ds ops Q (o :: rest) fs hs:=
 ⟨fun a w ha hp hm=>wpListIn_step fun K hK=>by
  rw [if_neg (by rw [hw a ha];simp),hd]
  exact ⟨fun f _=>trivial,hK _ _ (k.out _ w (ha.put hb undef) hp (by rw [put_defers];exact hm))⟩⟩
theorem DL.run:∀(k:Nat) {fs fs':eJ} {l l':List Oper},j8 n ops k fs l=some (fs',l')→DL P n B M ds ops Q l' fs' hs→DL P n B M ds ops Q l fs hs
 |0,fs,fs',l,l',h,t=>by simp only [j8,Option.some.injEq,Prod.mk.injEq] at h;rw [h.1,h.2];exact t
 |k+1,fs,fs',[],l',h,t=>by simp [j8] at h
 |k+1,fs,fs',o :: r,l',h,t=>by
  simp only [j8] at h
  split at h
  ·rename_i f1 h1;obtain ⟨d,v,hd,hb,rfl,h2⟩:=zgN h1;have ih:=DL.run k h t;rcases h2 with ⟨hg,hv⟩|⟨hg,rfl⟩
   ·exact DL.yv (kN hg) hd hb (mO hv) ih
   ·exact DL.off (kN hg) hd hb ih
  ·cases h
theorem DL.gs {d j:Nat}{want b:Bool}(hg:o.guard=some (j,want))(hd:(ops[j]?).bind (·.dst)=some d)(hl:e6 fs d=some (.bool b))(h1:b=true→DL P n B M ds ops Q (o :: rest) ((d, .bool true) :: fs) hs)(h2:b=false→DL P n B M ds ops Q (o :: rest) ((d, .bool false) :: fs) hs):DL P n B M ds ops Q (o :: rest) fs hs:=by
 cases b with
 |true=>exact jT (Sub.cons hl Sub.refl) (h1 rfl)
 |false=>exact jT (Sub.cons hl Sub.refl) (h2 rfl)
theorem iG {d:Nat}(h:Yv P n B M fs hs o v)(k:DL P n B M ds ops Q rest ((d,v) :: fs) hs)(hw:lw ops fs o=some true:=by rfl)(hd:o.dst=some d:=by rfl)(hb:Nat.blt d n=true:=by rfl):DL P n B M ds ops Q (o :: rest) fs hs:=DL.yv (kN hw) hd hb h k
theorem DL.e {d:Nat}{Φ:Value→HS→Prop}(h:Ew P n B M fs hs o Φ)(k:∀v hs',Φ v hs'→DL P n B M ds ops Q rest ((d,v) :: fs) hs')(hw:lw ops fs o=some true:=by rfl)(hd:o.dst=some d:=by rfl)(hb:Nat.blt d n=true:=by rfl):DL P n B M ds ops Q (o :: rest) fs hs:=
 ⟨fun a w ha hp hm=>wpListIn_step fun K hK=>by
  rw [if_pos (kN hw a ha)]
  exact h Fence.wide inferInstance Q K a w ha hp fun v w' hs' hk hp' hΦ=>hK _ _ (by rw [hd];exact (k v hs' hΦ).out _ w' (ha.put hb v) hp' (by rw [put_defers];exact hm))⟩
theorem DL.e0 {Φ:Value→HS→Prop}(h:Ew P n B M fs hs o Φ)(k:∀v hs',Φ v hs'→DL P n B M ds ops Q rest fs hs')(hw:lw ops fs o=some true:=by rfl)(hd:o.dst=none:=by rfl):DL P n B M ds ops Q (o :: rest) fs hs:=
 ⟨fun a w ha hp hm=>wpListIn_step fun K hK=>by
  rw [if_pos (kN hw a ha)]
  exact h Fence.wide inferInstance Q K a w ha hp fun v w' hs' hk hp' hΦ=>hK _ _ (by rw [hd];exact (k v hs' hΦ).out _ w' (ha.put_none v) hp' (by rw [put_defers];exact hm))⟩
theorem mF {d:Nat}{c:Operand}{xs:Array Operand}{ts:Array TypeId}{f:FuncId}{fst caps:Array Value}{vs:List Value}{φ1:Value→HS→Prop}{φ2:List PanicEntry→HS→Prop}[hE:Enters P f](ho:o.op= .call { callee:= .value c,args:=xs,argTypes:=ts })(hc:ev fs c=some (.func (.func f) fst caps))(hv:evs fs xs.toList=some vs)
  (C:∀w,Hp B M hs w→Calls P f (fst.toList++vs++caps.toList).toArray w (fun e w'=>(∃v hs',e= .returned v∧Hp B M hs' w'∧φ1 v hs')∨∃ch hs',e= .panicked ch∧Hp B M hs' w'∧φ2 ch hs'))
  (k1:∀v hs',φ1 v hs'→DL P n B M ds ops Q rest ((d,v) :: fs) hs') (k2:∀ch hs',φ2 ch hs'→DK n B M ds Q (.panic ch) fs hs') (hw:lw ops fs o=some true:=by rfl) (hd:o.dst=some d:=by rfl) (hb:Nat.blt d n=true:=by rfl):DL P n B M ds ops Q (o :: rest) fs hs:=
 ⟨fun a w ha hp hm=>wpListIn_step fun K hK=>by
  rw [if_pos (kN hw a ha)];refine ziR ho hc hv ha (C w hp) (fun v w' h=>?_) (fun ch w' h=>?_) (fun w' h=>?_)
  ·rcases h with ⟨v',hs',e,h1,h2⟩|⟨ch,hs',e,h1,h2⟩
   ·cases e
    exact hK _ _ (by rw [hd];exact (k1 v hs' h2).out _ w' (ha.put hb v) h1 (by rw [put_defers];exact hm))
   ·cases e
  ·rcases h with ⟨v',hs',e,h1,h2⟩|⟨ch,hs',e,h1,h2⟩
   ·cases e
   ·cases e
    exact (k2 _ hs' h2).out a w' ha h1 hm
  ·rcases h with ⟨v',hs',e,h1,h2⟩|⟨ch,hs',e,h1,h2⟩ <;> cases e⟩
theorem DL.defer {c:Operand}{fn:Fn}{cap:Array Value}{ts:Array TypeId}(ho:o.op= .defer { callee:= .value c,args:= #[],argTypes:=ts })(hc:ev fs c=some (.func fn #[] cap))(k:DL P n B M ({ target:= .fn fn cap,args:= #[] } :: ds) ops Q rest fs hs)(hw:lw ops fs o=some true:=by rfl)(hd:o.dst=none:=by rfl):DL P n B M ds ops Q (o :: rest) fs hs:=
 ⟨fun a w ha hp hm=>wpListIn_step fun K hK=>by
  rw [if_pos (kN hw a ha)];refine ⟨fun f _=>trivial,?_⟩
  have hr:(execOp a.eval o).run P w= .ok (.defer { target:= .fn fn cap,args:= #[] }) w:=by
   unfold execOp;simp [ho,resolve,ha.ev hc,Deferred.ofValue]
  rw [show Fence.wide.round=none from rfl,Oper.semAt_none,hr,Oper.uponIn_defer];refine hK _ _ (k.out _ w ?_ hp ?_)
  ·rw [hd];exact ⟨ha.size,ha.get⟩
  ·rw [put_defers];show _ :: a.defers=_;rw [hm]⟩
theorem ziQ {f:FuncId}{fn:Func}{c:Code}{args:List Value}{w:World}{R:Ending→World→Prop}(hf:P.funcs[f]?=some fn)(hb:fn.body=some c)(hn:fn.ntmps=n)(hlen:Nat.ble args.length n=true)
  (hh:Hp w M hs w) (h:DT P n w M [] c (bodyPostM Fence.wide 0 P fn R) (jC 0 args) hs):Calls P f args.toArray w R:=by
 (have hle:args.length≤n:=by simpa using hlen);refine callsIn_wide.1 (callsIn_of_wp_marks (F:=Fence.wide) (n:=0) hf hb trivial (h.out { tmps:=args.toArray++Array.replicate (fn.ntmps - args.toArray.size) undef,defers:=[] } w ⟨?_,?_⟩ hh rfl))
 ·simp [hn];omega
 ·intro t v e;obtain ⟨_,h2⟩:=zfv _ _ _ _ e;rw [Nat.sub_zero] at h2;have ht:t<args.length:=(List.getElem?_eq_some_iff.1 h2).1;rw [Array.getElem?_append_left (by simpa using ht)];simpa using h2
theorem DK.end0 {fn:Func}{R:Ending→World→Prop}(hr:fn.results= #[])(h:∀w,Hp B M hs w→R (.returned (.tuple #[])) w):DK n B M [] (bodyPostM Fence.wide 0 P fn R) .normal fs hs:=
 ⟨fun a w ha hw hm=>by
  show LeavesInM Fence.wide 0 P fn a.tmps R a.defers .returning w
  rw [hm];exact ⟨_,results_none hr _ _ _,h w hw⟩⟩
theorem jg {fn:Func}{R:Ending→World→Prop}(hr:fn.results= #[])(h:∀w,Hp B M hs w→R (.returned (.tuple #[])) w):DK n B M [] (bodyPostM Fence.wide 0 P fn R) .ret fs hs:=
 ⟨fun a w ha hw hm=>(DK.end0 (n:=n) (fs:=fs) hr h).out a w ha hw hm⟩
theorem zkL {f:FuncId}{cap:Array Value}{fn:Func}{R:Ending→World→Prop}{u:FrameMode}{tmps:Array Value}{w:World}[hE:Enters P f](hu:u≠ .run)(hr:fn.results= #[])
  (C:CallsDIn Fence.wide 0 P f cap u w (fun e u' w'=>e= .returned (.tuple #[])∧settle u'= .returning∧R (.returned (.tuple #[])) w')):LeavesInM Fence.wide 0 P fn tmps R [{ target:= .fn (.func f) cap,args:= #[] }] u w:=by
 refine ⟨hu, .inr ⟨(fun h=>by cases h), .func f,cap,f,cap,rfl,?_,fun _ _=>trivial,?_⟩⟩
 ·have:=hE.run cap w;simp only [invoke];rw [show (#[]++cap:Array Value)=cap from by simp];exact this
 ·refine C.mono ?_;rintro e u' w' ⟨rfl,hs,hR⟩
  show LeavesIn Fence.wide 0 P fn tmps R [] (settle u') w'
  rw [hs];exact ⟨_,results_none hr _ _ _,hR⟩
theorem DK.end1 {f:FuncId}{cap:Array Value}{fn:Func}{R:Ending→World→Prop}[hE:Enters P f](hr:fn.results= #[])
  (C:∀w,Hp B M hs w→CallsDIn Fence.wide 0 P f cap .returning w (fun e u' w'=>e= .returned (.tuple #[])∧settle u'= .returning∧R (.returned (.tuple #[])) w')):DK n B M [{ target:= .fn (.func f) cap,args:= #[] }] (bodyPostM Fence.wide 0 P fn R) .normal fs hs:=
 ⟨fun a w ha hw hm=>by
  show LeavesInM Fence.wide 0 P fn a.tmps R a.defers .returning w
  rw [hm];exact zkL b3 hr (C w hw)⟩
theorem DK.die1 {f:FuncId}{cap:Array Value}{fn:Func}{R:Ending→World→Prop}{ch:List PanicEntry}[hE:Enters P f](hr:fn.results= #[])
  (C:∀w,Hp B M hs w→CallsDIn Fence.wide 0 P f cap (.panicking ch) w (fun e u' w'=>e= .returned (.tuple #[])∧settle u'= .returning∧R (.returned (.tuple #[])) w')):DK n B M [{ target:= .fn (.func f) cap,args:= #[] }] (bodyPostM Fence.wide 0 P fn R) (.panic ch) fs hs:=
 ⟨fun a w ha hw hm=>by
  show LeavesInM Fence.wide 0 P fn a.tmps R a.defers (.panicking ch) w
  rw [hm];exact zkL b3 hr (C w hw)⟩
theorem zhm {f:FuncId}{fn:Func}{rest:Code}{args:List Value}{u u':FrameMode}{w:World}{R:Ending→FrameMode→World→Prop}{id d1 d2:Nat}{o1 o2:Oper}{v:Value}
  (hf:P.funcs[f]?=some fn) (hb:fn.body=some (.seq (.region id #[o1,o2] false) rest)) (hn:fn.ntmps=n) (hlen:Nat.ble args.length n=true) (hres:fn.results= #[])
  (h1:∃ts,o1.op= .call { callee:= .builtin .recover,args:= #[],argTypes:=ts }) (g1:o1.guard=none) (e1:o1.dst=some d1) (h2:o2.op= .assign (.tmp d1)) (g2:o2.guard=none) (e2:o2.dst=some d2) (l1:Nat.blt d1 n=true) (l2:Nat.blt d2 n=true)
  (hu:(u= .returning∧u'= .returning∧v= .nilIface)∨(u= .panicking [{ v:=v,recovered:=false }]∧u'= .panicking [{ v:=v,recovered:=true }]))
  (hh:Hp B M hs w) (h:DT P n B M [] rest (fun e a w'=>(e= .normal∨e= .ret)∧a.defers=[]∧R (.returned (.tuple #[])) u' w') ((d2,v) :: (d1,v) :: jC 0 args) hs):CallsDIn Fence.wide 0 P f args.toArray u w R:=by
 (have hle:args.length≤n:=by simpa using hlen);refine callsDIn_of_wpSIn hf hb trivial fun c₀ cs hc=>?_;refine wpSIn_seq (wpSIn_region ?_);obtain ⟨ts,h1⟩:=h1
 have ha:Fr n (jC 0 args) { tmps:=args.toArray++Array.replicate (fn.ntmps - args.toArray.size) undef,defers:=[] }:=by
  refine ⟨?_,?_⟩
  ·simp [hn];omega
  ·intro t v e;obtain ⟨_,h2⟩:=zfv _ _ _ _ e;rw [Nat.sub_zero] at h2;have ht:t<args.length:=(List.getElem?_eq_some_iff.1 h2).1;rw [Array.getElem?_append_left (by simpa using ht)];simpa using h2
 generalize hA:({ tmps:=args.toArray++Array.replicate (fn.ntmps - args.toArray.size) undef,defers:=[] }:Act)=a at ha; (have had:a.defers=[]:=by rw [←hA]); (have w1:∀a:Act,Region.wanted o1 (yielded #[o1,o2] a.tmps)=true:=fun a=>by simp [Region.wanted,g1]); (have w2:∀a:Act,Region.wanted o2 (yielded #[o1,o2] a.tmps)=true:=fun a=>by simp [Region.wanted,g2])
 have r1:∀(ρ:Operand→Value) (w:World),(execOp ρ o1).run P w= .ok .recover w:=fun ρ w=>by
  unfold execOp;simp [h1,resolve,invoke,builtin]
 have r2:∀(ρ:Operand→Value) (w:World),(execOp ρ o2).run P w= .ok (.value (ρ (.tmp d1))) w:=fun ρ w=>by
  unfold execOp;simp [h2]
 have fin:∀(c1:Frame),c1={ c₀ with mode:=u' }→wpOpsSIn Fence.wide 0 P #[o1,o2] (Exit.thenS (rest.wpSIn Fence.wide 0 P (bodyPostS P fn c₀ cs R)) (bodyPostS P fn c₀ cs R)) [1] (a.put o1.dst v) (c1 :: cs) w:=fun c1 hc1=>by
  subst hc1;have ha1:Fr n ((d1,v) :: jC 0 args) (a.put (some d1) v):=ha.put l1 v;simp only [wpOpsSIn];simp only [show (#[o1,o2]:Array Oper)[1]?=some o2 from rfl];refine ⟨fun _ _=>trivial,?_⟩;rw [if_pos (w2 _),r2];simp only []
  show rest.wpSIn Fence.wide 0 P _ _ _ _
  refine wpSIn_of_wpIn rfl ?_;rw [e1,e2];have hv:(a.put (some d1) v).eval (.tmp d1)=v:=ha1.ev (x:= .tmp d1) (by show e6 _ _=_;simp [e6]);rw [hv];refine wpIn_mono (h.out _ w (ha1.put l2 v) hh (by rw [put_defers,put_defers];exact had)) ?_;rintro e a' w' ⟨he,hd,hR⟩;rcases he with rfl|rfl
  ·exact ⟨hd,u',rfl,_,results_none hres _ _ _,hR⟩
  ·exact ⟨hd,u',rfl,_,results_none hres _ _ _,hR⟩
 show wpOpsSIn Fence.wide 0 P #[o1,o2] _ [0,1] a (c₀ :: cs) w
 unfold wpOpsSIn;simp only [show (#[o1,o2]:Array Oper)[0]?=some o1 from rfl];refine ⟨fun _ _=>trivial,?_⟩;rw [if_pos (w1 _),r1];simp only [];rcases hu with ⟨rfl,rfl,rfl⟩|⟨rfl,rfl⟩
 ·(have:recoverD (c₀ :: cs)=none:=by simp [recoverD,hc]);rw [this];exact fin c₀ (by rw [←hc])
 ·(have:recoverD (c₀ :: cs)=some (v,{ c₀ with mode:= .panicking [{ v:=v,recovered:=true }] } :: cs):=by simp [recoverD,hc]);rw [this];exact fin _ rfl
end
end Go.Proofs.YtmnjbhkcfghebaaGreatDoor
