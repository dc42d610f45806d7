/- Od Yg Bt Yd Kc Yw Ye Mi By: shortened and put together by squeeze.py. -/
import Derived.Test.YtmnjbhkcfghebaaGreatDoorQ06
import Derived.Maps.RangeRun
import Derived.Lib.Bytealg
import Derived.Laws.Externs
set_option maxRecDepth 100000
set_option maxHeartbeats 4000000
set_option linter.unusedVariables false
set_option linter.unusedSectionVars false
set_option linter.unusedSimpArgs false
namespace Go.Proofs.YtmnjbhkcfghebaaGreatDoor
open Go.RowKit
theorem ze0 {size:Nat}:∀(cs:List (List Value)),(∀d∈cs,d.length=size)→cs.flatten.length=cs.length*size
 | [],_=>by simp
 |c :: r,h=>by
  rw [List.flatten_cons,List.length_append,ze0 r (fun d hd=>h d (List.mem_cons_of_mem _ hd)),h c List.mem_cons_self,List.length_cons,Nat.add_mul];omega
theorem zgv {size:Nat}:∀(cs:List (List Value)) (i:Nat) (c:List Value),(∀d∈cs,d.length=size)→c.length=size→i<cs.length→cs.flatten.take (i*size)++c++cs.flatten.drop (i*size+c.length)=(cs.set i c).flatten
 |d :: r,0,c,h,hc,_=>by
  have hd:=h d List.mem_cons_self;rw [List.set_cons_zero,List.flatten_cons,List.flatten_cons,Nat.zero_mul,List.take_zero,List.nil_append,Nat.zero_add,List.drop_left' (by rw [hc,hd])]
 |d :: r,i+1,c,h,hc,hi=>by
  have ih:=zgv r i c (fun d hd=>h d (List.mem_cons_of_mem _ hd)) hc (by simpa using hi);have hd:=h d List.mem_cons_self;rw [List.set_cons_succ,List.flatten_cons,List.flatten_cons,←ih,Nat.add_mul,Nat.one_mul,show i*size+size=d.length+i*size by omega,List.take_length_add_append,show d.length+i*size+c.length=d.length+(i*size+c.length) by omega,List.drop_length_add_append];simp only [List.append_assoc]
theorem zja {size:Nat}{cs:List (List Value)}{i:Nat}{c:List Value}(h:∀d∈cs,d.length=size)(hc:c.length=size)(hi:i<cs.length):i*size+c.length≤cs.flatten.length:=by
 rw [ze0 cs h,hc];have:(i+1) *size≤cs.length*size:=Nat.mul_le_mul_right _ hi;rw [Nat.add_mul] at this;omega
section
variable {α:Type}[Inhabited α]{rep:Frz→List Value→α→Prop}{F:Frz}{size n i:Nat}{cs:List (List Value)}{xs:List α}{c:List Value}{x:α}
theorem iW {β:Type}[Inhabited β]{l:List β}{i j:Nat}{b:β}(h:j<l.length):nth (l.set i b) j=if i=j then b else nth l j:=by
 unfold nth;rw [List.getD_eq_getElem?_getD,List.getD_eq_getElem?_getD];by_cases e:i=j
 ·subst e;rw [if_pos rfl,List.getElem?_set_self h];rfl
 ·rw [if_neg e,List.getElem?_set_ne e]
theorem OwnD.set (h:OwnD rep F size cs xs)(hc:rep F c x)(hl:c.length=size):OwnD rep F size (cs.set i c) (xs.set i x):=by
 refine ⟨by simp [h.1],fun d hd=>?_,fun j hj=>?_⟩
 ·rcases List.mem_or_eq_of_mem_set hd with hd|hd
  ·exact h.2.1 d hd
  ·rw [hd];exact hl
 ·rw [List.length_set] at hj;rw [iW hj,iW (by rw [h.1];exact hj)];by_cases e:i=j
  ·rw [if_pos e,if_pos e];exact hc
  ·rw [if_neg e,if_neg e];exact h.2.2 j hj
theorem zix {β:Type}[Inhabited β]{b:β}{n j:Nat}(h:j<n):nth (List.replicate n b) j=b:=by
 rw [eZ (by rw [List.length_replicate];exact h),List.getElem_replicate]
theorem OwnD.fill (hc:rep F c x)(hl:c.length=size):OwnD rep F size (List.replicate n c) (List.replicate n x):=by
 refine ⟨by rw [List.length_replicate,List.length_replicate],fun d hd=>by rw [List.eq_of_mem_replicate hd];exact hl,fun j hj=>?_⟩;rw [List.length_replicate] at hj;rw [zix hj,zix hj];exact hc
theorem SlD.own {v:Value}(h:SlD rep F v size cs xs):OwnD rep F size cs xs:=by
 obtain ⟨⟨A,cap,h1,h2,h3,h4,h5⟩,h6,h7⟩:=h;exact ⟨h6,h4,h7⟩
end
theorem zgT {size:Nat}:∀(cs:List (List Value)) (i j:Nat) (v:Value),(∀d∈cs,d.length=size)→i<cs.length→j<size→cs.flatten.set (i*size+j) v=(cs.set i ((nth cs i).set j v)).flatten
 |d :: r,0,j,v,h,_,hj=>by
  have hd:=h d List.mem_cons_self;rw [List.set_cons_zero,List.flatten_cons,List.flatten_cons,Nat.zero_mul,Nat.zero_add,List.set_append_left _ _ a7];rfl
 |d :: r,i+1,j,v,h,hi,hj=>by
  have ih:=zgT r i j v (fun d hd=>h d (List.mem_cons_of_mem _ hd)) (by simpa using hi) hj;have hd:=h d List.mem_cons_self;rw [List.set_cons_succ,List.flatten_cons,List.flatten_cons,Nat.add_mul,Nat.one_mul,List.set_append_right _ _ a7,show i*size+size+j - d.length=i*size+j by omega,ih];rfl
theorem ziT {size i j:Nat}{cs:List (List Value)}{c:List Value}{v:Value}(h:∀d∈cs,d.length=size)(hi:i<cs.length)(hc:((nth cs i).drop 0).take size=c)(hj:j<size):cs.flatten.set (i*size+j) v=(cs.set i (c.set j v)).flatten:=by
 (have h1:(nth cs i).length=size:=by rw [eZ hi];exact h _ (List.getElem_mem hi));rw [List.drop_zero,List.take_of_length_le a7] at hc;rw [zgT cs i j v h hi hj,hc]
theorem zi3 {cs:List (List Value)}{i:Nat}{v:Value}(h:∀d∈cs,d.length=1)(hi:i<cs.length):cs.flatten.set (i*1) v=(cs.set i [v]).flatten:=by
 rw [←zgv cs i [v] h rfl hi];have hl:=ze0 cs h;exact (zey cs.flatten (i*1) v a7).symm
section
variable {P:Program}{n:Nat}{B D:World}{M S0:Nat→Prop}{fs:eb}{hs:HS}{o:Oper}
theorem Ew.cc {α:Type}{t e:TypeId}{size bytes n':Nat}{z:List Value}{x y:Operand}{q q':IntKind}{xi:Int}{u:α}[hT:TyE P t e size bytes z](ho:o.op= .makeSlice t x y)(hx:ev fs x=some (.int q xi))(hy:ev fs y=some (.int q' xi))(hn:xi=(n':Int))(hr:dm n' bytes)(hb:0<bytes)(hp:0<size)(hz:z.length=size):
  Ew P n B M fs hs o (fun v hs'=>OneC v∧hs'= .sl v e size (List.replicate n' u).length (List.replicate n' z).flatten :: hs):=by
 have h:=fZ (P:=P) (n:=n) (B:=B) (M:=M) (fs:=fs) (hs:=hs) (o:=o) (α:=Unit) (enc:=fun _=>z) (u:=()) ho hx hy hn hr hb hp (fun _=>hz) rfl;rw [List.flatMap_def,List.map_replicate,List.length_replicate] at h;rw [List.length_replicate];exact h
end
structure GProduct where
 Area:Int
 Category:Int
 Supply:Int
 Units:Int
 Reserve:Int
deriving DecidableEq,Inhabited
abbrev cV (x:GProduct):List Value:=[.int .i64 x.Area, .int .i64 x.Category, .int .i64 x.Supply, .int .i64 x.Units, .int .i64 x.Reserve]
theorem GProduct.len (x:GProduct):(cV x).length=5:=rfl
structure GBidder where
 ID:Int
 Eligibility:Int
 Waivers:Int
 Blocks:List Int
deriving DecidableEq,Inhabited
def cR (F:Frz)(c:List Value)(x:GBidder):Prop:=∃(v3:Value),c=[.int .i64 x.ID, .int .i64 x.Eligibility, .int .i64 x.Waivers,v3]∧SlC F v3 1 (x.Blocks.map eI)
theorem GBidder.mono {F G:Frz}{c:List Value}{x:GBidder}(hle:F.Le G)(h:cR F c x):cR G c x:=by
 obtain ⟨v3,h0,h4⟩:=h;exact ⟨v3,h0,h4.mono hle⟩
theorem GBidder.len {F:Frz}{c:List Value}{x:GBidder}(h:cR F c x):c.length=4:=by
 obtain ⟨v3,h0,h4⟩:=h;subst h0;rfl
theorem GBidder.one {F:Frz}{c:List Value}{x:GBidder}(h:cR F c x):OneCs c:=by
 obtain ⟨v3,h0,h4⟩:=h;subst h0;haveI:=h4.oneC
 infer_instance
theorem ig {F:Frz}{c:List Value}{x:GBidder}(h:cR F c x):c[0]?=some (.int .i64 x.ID):=by
 obtain ⟨v3,h0,h4⟩:=h;subst h0;rfl
theorem ic {F:Frz}{c:List Value}{x:GBidder}(h:cR F c x):c[1]?=some (.int .i64 x.Eligibility):=by
 obtain ⟨v3,h0,h4⟩:=h;subst h0;rfl
theorem jd {F:Frz}{c:List Value}{x:GBidder}(h:cR F c x):c[2]?=some (.int .i64 x.Waivers):=by
 obtain ⟨v3,h0,h4⟩:=h;subst h0;rfl
theorem eL {F:Frz}{c:List Value}{x:GBidder}(h:cR F c x):c[3]?=some (nth c 3)∧SlC F (nth c 3) 1 (x.Blocks.map eI):=by
 obtain ⟨v3,h0,h4⟩:=h;subst h0;exact ⟨rfl,h4⟩
theorem eP {F:Frz}{c:List Value}{x:GBidder}(h:cR F c x):(c.drop 0).take 4=[.int .i64 x.ID, .int .i64 x.Eligibility, .int .i64 x.Waivers,nth c 3]:=by
 obtain ⟨v3,h0,h4⟩:=h;subst h0;rfl
structure GBid where
 Bidder:Int
 Product:Int
 Change:Int
 Point:GRatio
deriving DecidableEq,Inhabited
def cW (F:Frz)(c:List Value)(x:GBid):Prop:=∃(v4:Value) (v6:Value),c=[.int .i64 x.Bidder, .int .i64 x.Product, .int .i64 x.Change, .bool x.Point.Num.Neg,v4, .bool x.Point.Den.Neg,v6]∧SlC F v4 1 (x.Point.Num.Digits.map (eK .u8))∧SlC F v6 1 (x.Point.Den.Digits.map (eK .u8))
theorem GBid.mono {F G:Frz}{c:List Value}{x:GBid}(hle:F.Le G)(h:cW F c x):cW G c x:=by
 obtain ⟨v4,v6,h0,h5,h7⟩:=h;exact ⟨v4,v6,h0,h5.mono hle,h7.mono hle⟩
theorem GBid.len {F:Frz}{c:List Value}{x:GBid}(h:cW F c x):c.length=7:=by
 obtain ⟨v4,v6,h0,h5,h7⟩:=h;subst h0;rfl
theorem GBid.one {F:Frz}{c:List Value}{x:GBid}(h:cW F c x):OneCs c:=by
 obtain ⟨v4,v6,h0,h5,h7⟩:=h;subst h0;haveI:=h5.oneC;haveI:=h7.oneC
 infer_instance
theorem GBid.c0 {F:Frz}{c:List Value}{x:GBid}(h:cW F c x):c[0]?=some (.int .i64 x.Bidder):=by
 obtain ⟨v4,v6,h0,h5,h7⟩:=h;subst h0;rfl
theorem lm {F:Frz}{c:List Value}{x:GBid}(h:cW F c x):c[1]?=some (.int .i64 x.Product):=by
 obtain ⟨v4,v6,h0,h5,h7⟩:=h;subst h0;rfl
theorem fo {F:Frz}{c:List Value}{x:GBid}(h:cW F c x):c[4]?=some (nth c 4)∧SlC F (nth c 4) 1 (x.Point.Num.Digits.map (eK .u8)):=by
 obtain ⟨v4,v6,h0,h5,h7⟩:=h;subst h0;exact ⟨rfl,h5⟩
theorem fj {F:Frz}{c:List Value}{x:GBid}(h:cW F c x):c[6]?=some (nth c 6)∧SlC F (nth c 6) 1 (x.Point.Den.Digits.map (eK .u8)):=by
 obtain ⟨v4,v6,h0,h5,h7⟩:=h;subst h0;exact ⟨rfl,h7⟩
theorem eC {F:Frz}{c:List Value}{x:GBid}(h:cW F c x):(c.drop 0).take 7=[.int .i64 x.Bidder, .int .i64 x.Product, .int .i64 x.Change, .bool x.Point.Num.Neg,nth c 4, .bool x.Point.Den.Neg,nth c 6]:=by
 obtain ⟨v4,v6,h0,h5,h7⟩:=h;subst h0;rfl
def SlV {n:Nat}{α:Type}[Inhabited α](F:Frz)(vs:Vec n Value)(size:Nat)(enc:α→List Value)(ls:Vec n (List α)):Prop:=∀i,i<n→SlC F (vs.get i) size ((ls.get i).map enc)
theorem SlV.mono {n:Nat}{α:Type}[Inhabited α]{F G:Frz}{vs:Vec n Value}{size:Nat}{enc:α→List Value}{ls:Vec n (List α)}(h:SlV F vs size enc ls)(hle:F.Le G):SlV G vs size enc ls:=fun i hi=>(h i hi).mono hle
theorem SlV.fill {n:Nat}{α:Type}[Inhabited α](F:Frz)(size:Nat)(enc:α→List Value):SlV F (Vec.fill n (.slice none 0 0)) size enc (Vec.fill n []):=fun i hi=>by
 rw [gq hi,gq hi];exact SlC.nil F size
theorem SlV.put {n:Nat}{α:Type}[Inhabited α]{F:Frz}{vs:Vec n Value}{size:Nat}{enc:α→List Value}{ls:Vec n (List α)}(h:SlV F vs size enc ls){a:Nat}{v:Value}{l:List α}(ha:a<n)(hv:SlC F v size (l.map enc)):SlV F (vs.put a v) size enc (ls.put a l):=fun i hi=>by
 rw [fC ha,fC ha];by_cases e:i=a
 ·rw [if_pos e,if_pos e];exact hv
 ·rw [if_neg e,if_neg e];exact h i hi
def FzB.addS {B:World}{M S0:Nat→Prop}{w:World}(F:FzB B M S0)(hF:F.toFrz.At w){T:Nat→Prop}(hg:∀g,T g→Cb w g)(hb:∀g,T g→M g∨B.heap.size≤g):FzB B M S0 where
 S k:=F.S k∨T k
 w:=w
 c k hk:=by rcases hk with h|h;exact hF.cb h;exact hg k h
 base k hk h1 h2:=by
  rcases hk with h|h
  ·rw [hF k h,F.base k h h1 h2]
  ·rcases hb k h with h|h
   ·exact absurd h h2
   ·omega
 new k hk:=by
  rcases hk with h|h
  ·exact F.new k h
  ·exact .inr (hb k h)
section
variable {B D:World}{M S0:Nat→Prop}{hs hs':HS}{w:World}{n:Nat}{α:Type}[Inhabited α]{e:TypeId}{size:Nat}{enc:α→List Value}{vs:Vec n Value}{ls:Vec n (List α)}{v:Value}
end
def ku (x:GBidder)(v:Value):List Value:=[.int .i64 x.ID, .int .i64 x.Eligibility, .int .i64 x.Waivers,v]
def gL (xs:List GBidder)(vs:List Value):List (List Value):=(List.range xs.length).map fun i=>ku (nth xs i) (nth vs i)
def iq (ei:TypeId)(xs:List GBidder)(vs:List Value):HS:=(List.range xs.length).map fun i=> .sl (nth vs i) ei 1 (nth xs i).Blocks.length ((nth xs i).Blocks.flatMap eI)
abbrev d9 (e ei:TypeId)(v:Value)(vs:List Value)(xs:List GBidder):Ent:= .bag (.sl v e 4 xs.length (gL xs vs).flatten :: iq ei xs vs)
theorem zfa {ei:TypeId}{xs:List GBidder}{vs:List Value}{i:Nat}(hi:i<xs.length):(iq ei xs vs)[i]?=some (.sl (nth vs i) ei 1 (nth xs i).Blocks.length ((nth xs i).Blocks.flatMap eI)):=by
 unfold iq;rw [List.getElem?_map,List.getElem?_range hi];rfl
theorem zhk {ei:TypeId}{xs:List GBidder}{vs:List Value}:(iq ei xs vs).length=xs.length:=by unfold iq;simp
theorem my {xs:List GBidder}{vs:List Value}:(gL xs vs).length=xs.length:=by unfold gL;simp
theorem ze9 {xs:List GBidder}{vs:List Value}:∀d∈gL xs vs,d.length=4:=fun d hd=>by
 unfold gL at hd;obtain ⟨i,_,rfl⟩:=List.mem_map.1 hd;rfl
theorem zeg {xs:List GBidder}{vs:List Value}{i:Nat}(hi:i<xs.length):nth (gL xs vs) i=ku (nth xs i) (nth vs i):=by
 rw [eZ (by rw [my];exact hi)];unfold gL;rw [List.getElem_map,List.getElem_range]
theorem zkq {xs:List GBidder}{vs:List Value}:(gL xs vs).flatten.length=xs.length*4:=by rw [ze0 _ ze9,my]
theorem zf4 {xs:List GBidder}{vs:List Value}{i:Nat}(hi:i<xs.length):((gL xs vs).flatten.drop (i*4)).take 4=ku (nth xs i) (nth vs i):=by
 have h:∀(cs:List (List Value)) (i:Nat),(∀d∈cs,d.length=4)→i<cs.length→(cs.flatten.drop (i*4)).take 4=nth cs i:=by
  intro cs
  induction cs with
  |nil=>intro i _ h;cases h
  |cons d r ih=>
   intro i hd hi;have h4:=hd d List.mem_cons_self
   cases i with
   |zero=>rw [Nat.zero_mul,List.drop_zero,List.flatten_cons,List.take_left' h4];rfl
   |succ i=>
    rw [List.flatten_cons,show (i+1) *4=d.length+i*4 by omega,List.drop_length_add_append];exact ih i (fun d hd'=>hd d (List.mem_cons_of_mem _ hd')) (by simpa using hi)
 rw [h _ _ ze9 (by rw [my];exact hi),zeg hi]
theorem zgW {xs:List GBidder}{vs:List Value}{i j:Nat}{val:Value}(hi:i<xs.length)(hj:j<4)(h:(ku (nth xs i) (nth vs i))[j]?=some val):(gL xs vs).flatten[i*4+j]?=some val:=by
 rw [←zf4 hi,List.getElem?_take_of_lt hj,List.getElem?_drop] at h;exact h
theorem zjv {xs:List GBidder}{vs:List Value}{h:Nat}{x:GBidder}(hi:h<xs.length)(h1:x.ID=(nth xs h).ID)(h2:x.Eligibility=(nth xs h).Eligibility)(h3:x.Waivers=(nth xs h).Waivers):gL (xs.set h x) vs=gL xs vs:=by
 unfold gL;rw [List.length_set];refine List.map_congr_left fun i hm=>?_;have hm:=List.mem_range.1 hm;rw [iW hm];by_cases e:h=i
 ·subst e;rw [if_pos rfl];unfold ku;rw [h1,h2,h3]
 ·rw [if_neg e]
theorem zkt {ei:TypeId}{xs:List GBidder}{vs:List Value}{h:Nat}{x:GBidder}(hi:h<xs.length):(iq ei xs vs).set h (.sl (nth vs h) ei 1 x.Blocks.length (x.Blocks.flatMap eI))=iq ei (xs.set h x) vs:=by
 refine List.ext_getElem? fun i=>?_;by_cases hm:i<xs.length
 ·rw [zfa (xs:=xs.set h x) (by rw [List.length_set];exact hm),iW hm];by_cases e:h=i
  ·subst e;rw [List.getElem?_set_self (by rw [zhk];exact hi),if_pos rfl]
  ·rw [List.getElem?_set_ne e,zfa hm,if_neg e]
 ·rw [List.getElem?_eq_none (by rw [List.length_set,zhk];omega),List.getElem?_eq_none (by rw [zhk,List.length_set];omega)]
section
variable {P:Program}{n:Nat}{B D:World}{M S0:Nat→Prop}{fs:eb}{hs:HS}{o:Oper}{e ei:TypeId}{v val:Value}{vs:List Value}{xs:List GBidder}{w:World}
theorem iu (j:Nat)(hj:hs[j]?=some (d9 e ei v vs xs))(h:Yv P n B M fs (.sl v e 4 xs.length (gL xs vs).flatten :: hs.set j (.bag (iq ei xs vs))) o val):Yv P n B M fs hs o val:=fun a w ha hw=>h a w ha (hw.openB (a:=0) hj rfl)
theorem lx (j i:Nat)(hj:hs[j]?=some (d9 e ei v vs xs))(hi:i<xs.length)(h:Yv P n B M fs (.sl (nth vs i) ei 1 (nth xs i).Blocks.length ((nth xs i).Blocks.flatMap eI) :: hs.set j (.bag ((Ent.sl v e 4 xs.length (gL xs vs).flatten :: iq ei xs vs).eraseIdx (i+1)))) o val):Yv P n B M fs hs o val:=fun a w ha hw=>h a w ha (hw.openB (a:=i+1) hj (zfa hi))
theorem zg4 (h:(d9 e ei v vs xs).ok w):OneC v∧xs.length≤9223372036854775807:=by
 have h0:=(d6.1 h).1 _ List.mem_cons_self;exact ⟨iJ h0,iF h0⟩
theorem zjg (h:(d9 e ei v vs xs).ok w){i:Nat}(hi:i<xs.length):OneC (nth vs i)∧(nth xs i).Blocks.length≤9223372036854775807:=by
 have h0:=(d6.1 h).1 _ (List.mem_cons_of_mem _ (List.mem_of_getElem? (zfa hi)));exact ⟨iJ h0,iF h0⟩
end
section
variable {Fe:Fence}[hFe:Calm Fe]{P:Program}{n:Nat}{B D:World}{M S0:Nat→Prop}{Q:Exit→Act→World→Prop}{fs:eb}{hs:HS}{ops:Array Oper}{e ei:TypeId}{v:Value}{vs:List Value}{xs:List GBidder}
theorem TL.bB {l:List Oper}(j:Nat)(hj:hs[j]?=some (d9 e ei v vs xs))(h:OneC v→xs.length≤9223372036854775807→TL Fe P n B D M ops Q l fs hs):TL Fe P n B D M ops Q l fs hs:=
 gX (ι:=Unit) (φ:=fun _=>OneC v∧xs.length≤9223372036854775807) (hs':=fun _=>hs) (fun w hw=>⟨(),zg4 (hw.get hj),hw⟩) (fun _ hx=>h hx.1 hx.2)
theorem TS.bB {hs0:HS}{r:Ord}(j:Nat)(hj:hs[j]?=some (d9 e ei v vs xs))(h:OneC v→xs.length≤9223372036854775807→TS Fe P n B D M ops Q hs0 r fs hs):TS Fe P n B D M ops Q hs0 r fs hs:=
 i9 (ι:=Unit) (φ:=fun _=>OneC v∧xs.length≤9223372036854775807) (hs':=fun _=>hs) (fun w hw=>⟨(),zg4 (hw.get hj),hw⟩) (fun _ hx=>h hx.1 hx.2)
theorem TL.bG {l:List Oper}(j i:Nat)(hj:hs[j]?=some (d9 e ei v vs xs))(hi:i<xs.length)(h:OneC (nth vs i)→(nth xs i).Blocks.length≤9223372036854775807→TL Fe P n B D M ops Q l fs hs):TL Fe P n B D M ops Q l fs hs:=
 gX (ι:=Unit) (φ:=fun _=>OneC (nth vs i)∧(nth xs i).Blocks.length≤9223372036854775807) (hs':=fun _=>hs) (fun w hw=>⟨(),zjg (hw.get hj) hi,hw⟩) (fun _ hx=>h hx.1 hx.2)
theorem TS.bG {hs0:HS}{r:Ord}(j i:Nat)(hj:hs[j]?=some (d9 e ei v vs xs))(hi:i<xs.length)(h:OneC (nth vs i)→(nth xs i).Blocks.length≤9223372036854775807→TS Fe P n B D M ops Q hs0 r fs hs):TS Fe P n B D M ops Q hs0 r fs hs:=
 i9 (ι:=Unit) (φ:=fun _=>OneC (nth vs i)∧(nth xs i).Blocks.length≤9223372036854775807) (hs':=fun _=>hs) (fun w hw=>⟨(),zjg (hw.get hj) hi,hw⟩) (fun _ hx=>h hx.1 hx.2)
end
theorem zkx {e ei:TypeId}{v:Value}{vs:List Value}{xs:List GBidder}{w:World}(h:(d9 e ei v vs xs).ok w){g:Nat}(hg:(d9 e ei v vs xs).fp g):Cb w g:=by
 obtain ⟨x,hx,hg⟩:=dP.1 hg;have hok:=(d6.1 h).1 x hx
 have key:∀ {v:Value} {e:TypeId} {size k:Nat} {l:List Value},(Ent.sl v e size k l).ok w→(Ent.sl v e size k l).fp g→Cb w g:=by
  intro v e size k l hok hg;have ho:=dH.1 hok;have hfp:=dO.1 hg;rcases ho.2 with ⟨h0,_⟩|⟨g',cap,cur,h1,hb,hg',_⟩
  ·rw [h0] at hfp;cases hfp
  ·rw [h1] at hfp;cases hfp;exact ⟨_,_,_,hg'⟩
 rcases List.mem_cons.1 hx with rfl|hx
 ·exact key hok hg
 ·obtain ⟨i,_,rfl⟩:=List.mem_map.1 hx;exact key hok hg
theorem zg9 {e ei:TypeId}{v:Value}{vs:List Value}{xs:List GBidder}{w:World}{G:Frz}(h:(d9 e ei v vs xs).ok w)(hw:G.w=w)(hS:∀g,(d9 e ei v vs xs).fp g→G.S g):SlD cR G v 4 (gL xs vs) xs:=by
 have hb:=d6.1 h
 have ho:OwnD cR G 4 (gL xs vs) xs:=by
  refine ⟨my,ze9,fun i hi=>?_⟩;rw [zeg hi];have hm:=List.mem_cons_of_mem (Ent.sl v e 4 xs.length (gL xs vs).flatten) (List.mem_of_getElem? (zfa (ei:=ei) (vs:=vs) hi));have h1:=SlK.ent (hb.1 _ hm) hw (fun g hg _=>hS g (dP.2 ⟨_,hm,hg⟩));exact ⟨_,rfl,h1.toF rfl (fun _=>rfl)⟩
 exact (SlK.ent (hb.1 _ List.mem_cons_self) hw (fun g hg _=>hS g (dP.2 ⟨_,List.mem_cons_self,hg⟩))).toD ho rfl
section
variable {B:World}{M S0:Nat→Prop}{hs hs':HS}{e ei:TypeId}{v:Value}{vs:List Value}{xs:List GBidder}{w:World}
theorem Hp.freezeBd {i j:Nat}{F:FzB B M S0}(hw:Hp B M hs w)(hij:i≠j)(hi:hs[i]?=some (.fr F))(hj:hs[j]?=some (d9 e ei v vs xs)):
  ∃G:FzB B M S0,(F.toFrz.Le G.toFrz∧SlD cR G.toFrz v 4 (gL xs vs) xs)∧Hp B M ((hs.set i (.fr G)).eraseIdx j) w:=by
 have hF:=hw.fr hi;have hok:=hw.get hj;have hnew:∀g,(d9 e ei v vs xs).fp g→M g∨B.heap.size≤g:=fun g hg=>hw.new _ (List.mem_of_getElem? hj) g hg;refine ⟨F.addS hF (fun g hg=>zkx hok hg) hnew,⟨fun k hk=>⟨.inl hk,hF k hk⟩,zg9 hok rfl (fun g hg=> .inr hg)⟩,?_⟩;obtain ⟨r,h1,h2⟩:=zfm (a':= .fr (F.addS hF (fun g hg=>zkx hok hg) hnew)) hij hi hj;refine Hp.perm ?_ h2.symm;refine gm (hw.perm h1) ?_ ?_ (List.pairwise_singleton _ _)
 ·intro x hx;simp at hx;subst hx;exact fb.2 (fun k hk=>rfl)
 ·intro x hx k hk;simp at hx;subst hx;have h:=dR.1 hk;rcases h.1 with h3|h3
  ·exact ⟨_,by simp,dR.2 ⟨h3,h.2⟩⟩
  ·exact ⟨_,by simp,h3⟩
theorem Hp.borBd {i j:Nat}{F:FzB B M S0}(hw:Hp B M hs w)(hi:hs[i]?=some (.fr F))(hj:hs[j]?=some (d9 e ei v vs xs)):∃F':Frz,Bor F.toFrz (d9 e ei v vs xs) w F'∧SlD cR F' v 4 (gL xs vs) xs:=by
 have hF:=hw.fr hi;have hok:=hw.get hj;exact ⟨⟨fun k=>F.S k∨(d9 e ei v vs xs).fp k,w,fun k hk=>hk.elim (fun h=>hF.cb h) (fun h=>zkx hok h)⟩,⟨fun k hk=>⟨.inl hk,hF k hk⟩,fun k _=>rfl,fun k hk=>hk⟩,zg9 hok rfl (fun g hg=> .inr hg)⟩
end
theorem zlS {F:Frz}{v:Value}{vs:List Value}{xs:List GBidder}(h:SlD cR F v 4 (gL xs vs) xs){i:Nat}(hi:i<xs.length):SlC F (nth vs i) 1 ((nth xs i).Blocks.map eI):=by
 have h1:=h.2.2 i hi;rw [zeg hi] at h1;obtain ⟨v0,h0,h2⟩:=h1;unfold ku at h0;simp only [List.cons.injEq,and_true,true_and] at h0;rw [h0];exact h2
section
variable {P:Program}{n:Nat}{B D:World}{M S0:Nat→Prop}{fs:eb}{hs:HS}{o:Oper}{e ei:TypeId}{v:Value}{vs:List Value}{xs:List GBidder}
theorem Ew.cL {i a:Nat}{es:HS}{x x':Ent}(hj:hs[i]?=some (.bag es))(ha:es[a]?=some x)(h:Ew P n B M fs (x :: hs.set i (.bag (es.eraseIdx a))) o (fun u hs''=>u=undef∧hs''=x' :: hs.set i (.bag (es.eraseIdx a)))):Ew P n B M fs hs o (fun u hs''=>u=undef∧hs''=hs.set i (.bag (es.set a x'))):=
 fun F hF Q K a' w ha' hp k=>h F hF Q K a' w ha' (hp.openB hj ha) fun v w' hs'' hk hp' hΦ=>by
  obtain ⟨h1,rfl⟩:=hΦ;have h2:=hp'.closeB (i:=i) (es:=es) (a:=a) (by rw [List.getElem?_set_self (List.getElem?_eq_some_iff.1 hj).1]) (List.getElem?_eq_some_iff.1 ha).1;rw [List.set_set] at h2;exact k v w' _ hk h2 ⟨h1,rfl⟩
theorem Ew.ce (j h p:Nat){t:TypeId}{z:Int}{x:GBidder}{hs':HS}[hT:TyS P t]{a b:Operand}(ho:o.op= .store t a b)(ha:ev fs a=some (jl (nth vs h) (p*1)))(hb:ev fs b=some (.int .i64 z))
  (hj:hs[j]?=some (d9 e ei v vs xs)) (hh:h<xs.length) (hp:p<(nth xs h).Blocks.length) (hx:x={ nth xs h with Blocks:=(nth xs h).Blocks.set p z }) [hH:SetAt hs j (d9 e ei v vs (xs.set h x)) hs']:Ew P n B M fs hs o (fun u hs''=>u=undef∧hs''=hs'):=by
 have h2:Ew P n B M fs (.sl (nth vs h) ei 1 (nth xs h).Blocks.length ((nth xs h).Blocks.flatMap eI) :: hs.set j (.bag ((Ent.sl v e 4 xs.length (gL xs vs).flatten :: iq ei xs vs).eraseIdx (h+1)))) o (fun u hs''=>u=undef∧hs''= .sl (nth vs h) ei 1 x.Blocks.length (x.Blocks.flatMap eI) :: hs.set j (.bag ((Ent.sl v e 4 xs.length (gL xs vs).flatten :: iq ei xs vs).eraseIdx (h+1)))):=by
  subst hx;exact ez 0 (k':=((nth xs h).Blocks.set p z).length) (l':=((nth xs h).Blocks.set p z).flatMap eI) ho ha hb rfl a7 (ik (enc:=eI) (xs:=(nth xs h).Blocks) (i:=p) (j:=0) (size:=1) (fun _=>rfl) hp a8 a7) (ij (enc:=eI) (xs:=(nth xs h).Blocks) (i:=p) (j:=0) (size:=1) (x:=z) (fun _=>rfl) hp a8 a7 rfl) (List.length_set ..) (hH:=⟨rfl⟩)
 rw [←hH.h];have h3:=Ew.cL (i:=j) (a:=h+1) (x:= .sl (nth vs h) ei 1 (nth xs h).Blocks.length ((nth xs h).Blocks.flatMap eI)) hj (zfa hh) h2
 have h4:(Ent.sl v e 4 xs.length (gL xs vs).flatten :: iq ei xs vs).set (h+1) (.sl (nth vs h) ei 1 x.Blocks.length (x.Blocks.flatMap eI))=(Ent.sl v e 4 (xs.set h x).length (gL (xs.set h x) vs).flatten :: iq ei (xs.set h x) vs):=by
  rw [List.set_cons_succ,zkt hh,zjv hh (by rw [hx]) (by rw [hx]) (by rw [hx]),List.length_set]
 rw [h4] at h3;exact h3
end
theorem zd6 (F0:Frz)(w:World)(hF0:F0.At w)(l:List GProduct)(vl:Value)(hl:SlC F0 vl 5 (l.map cV))(hr:dm l.length 40):Calls Tryz.prog 53 #[vl] w fun e w'=>∃v':Value,True∧e= .returned v'∧Hp w (fun _=>False) [.sl v' 55 5 l.length (l.flatMap cV)] w':=by
 haveI:=hl.oneC;have hl0:=hl;obtain ⟨A,cap,hv,hlc,hcm,hcl,hcs⟩:=hl0;have hlen:(l.map cV).length=l.length:=List.length_map _;obtain ⟨S0,F1,hF1,hS0,hp0⟩:=eo hF0
 cases hA:A with
 |none=>
  have h0:l=[]:=by
   cases l with
   |nil=>rfl
   |cons x r=>
    obtain ⟨g,off,h1,_⟩:=hcs b6;rw [hA] at h1;cases h1
  subst h0;refine dQ (M:=fun _=>False) (hs:=[.fr F1]) Tryz.func53 rfl rfl rfl hp0 ?_;refine q1v ?_;refine TL.slNil 55 5 ?_;refine jt ?_;exact q4s
 |some a=>
  rw [←hF1] at hl;refine dQ (M:=fun _=>False) (hs:=[.fr F1]) Tryz.func53 rfl rfl rfl hp0 ?_;refine q1b ?_;rintro _ _ ⟨g,rfl,rfl⟩;refine dy ?_;refine cX (kq 0 1 (k':=l.length) (l':=l.flatMap cV) (zhe (enc:=cV) (fun _=>inferInstance)) rfl rfl rfl rfl rfl hl (by rw [List.length_map];omega) cO hr a8) ?_;rintro v' _ ⟨hv',rfl⟩;refine iw ?_;exact q4t
theorem zd3 (F0:Frz)(w:World)(hF0:F0.At w)(l:List GProduct)(vl:Value)(hl:SlC F0 vl 5 (l.map cV))(hr:dm l.length 40):Calls Tryz.prog 53 #[vl] w fun e w'=>∃(y:Value) (G:Frz),SlC G y 5 (l.map cV)∧e= .returned y∧Fx F0 w G w':=by
 refine (zd6 F0 w hF0 l vl hl hr).mono ?_;rintro e w' ⟨v',_,rfl,hw⟩;obtain ⟨G,h1,h2,h3⟩:=Fx.hp hF0 hw;have h4:=SlK.ent (G:=G) (hw.own (.sl v' 55 5 l.length (l.flatMap cV)) b6) h2 (h3 _ b6);exact ⟨v',G,h4.toF rfl (fun _=>rfl),rfl,h1⟩
theorem zhO (F0:Frz)(w:World)(hF0:F0.At w)(l:List Int)(vl:Value)(hl:SlC F0 vl 1 (l.map (eK .u8)))(hr:dm l.length 1):Calls Tryz.prog 55 #[vl] w fun e w'=>∃v':Value,True∧e= .returned v'∧Hp w (fun _=>False) [.sl v' 5 1 l.length (l.flatMap (eK .u8))] w':=by
 haveI:=hl.oneC;have hl0:=hl;obtain ⟨A,cap,hv,hlc,hcm,hcl,hcs⟩:=hl0;have hlen:(l.map (eK .u8)).length=l.length:=List.length_map _;obtain ⟨S0,F1,hF1,hS0,hp0⟩:=eo hF0
 cases hA:A with
 |none=>
  have h0:l=[]:=by
   cases l with
   |nil=>rfl
   |cons x r=>
    obtain ⟨g,off,h1,_⟩:=hcs b6;rw [hA] at h1;cases h1
  subst h0;refine dQ (M:=fun _=>False) (hs:=[.fr F1]) Tryz.func55 rfl rfl rfl hp0 ?_;refine q1v ?_;refine TL.slNil 5 1 ?_;refine jt ?_;exact q4s
 |some a=>
  rw [←hF1] at hl;refine dQ (M:=fun _=>False) (hs:=[.fr F1]) Tryz.func55 rfl rfl rfl hp0 ?_;refine q1b ?_;rintro _ _ ⟨g,rfl,rfl⟩;refine dy ?_;refine cX (kq 0 1 (k':=l.length) (l':=l.flatMap (eK .u8)) (zhe (enc:=(eK .u8)) (fun _=>inferInstance)) rfl rfl rfl rfl rfl hl (by rw [List.length_map];omega) cO hr a8) ?_;rintro v' _ ⟨hv',rfl⟩;refine iw ?_;exact q4t
theorem zhS (F0:Frz)(w:World)(hF0:F0.At w)(l:List Int)(vl:Value)(hl:SlC F0 vl 1 (l.map (eK .u8)))(hr:dm l.length 1):Calls Tryz.prog 55 #[vl] w fun e w'=>∃(y:Value) (G:Frz),SlC G y 1 (l.map (eK .u8))∧e= .returned y∧Fx F0 w G w':=by
 refine (zhO F0 w hF0 l vl hl hr).mono ?_;rintro e w' ⟨v',_,rfl,hw⟩;obtain ⟨G,h1,h2,h3⟩:=Fx.hp hF0 hw;have h4:=SlK.ent (G:=G) (hw.own (.sl v' 5 1 l.length (l.flatMap (eK .u8))) b6) h2 (h3 _ b6);exact ⟨v',G,h4.toF rfl (fun _=>rfl),rfl,h1⟩
theorem zeT (F0:Frz)(w:World)(hF0:F0.At w)(l:List Int)(vl:Value)(hl:SlC F0 vl 1 (l.map eI))(hr:dm l.length 8):Calls Tryz.prog 57 #[vl] w fun e w'=>∃v':Value,True∧e= .returned v'∧Hp w (fun _=>False) [.sl v' 3 1 l.length (l.flatMap eI)] w':=by
 haveI:=hl.oneC;have hl0:=hl;obtain ⟨A,cap,hv,hlc,hcm,hcl,hcs⟩:=hl0;have hlen:(l.map eI).length=l.length:=List.length_map _;obtain ⟨S0,F1,hF1,hS0,hp0⟩:=eo hF0
 cases hA:A with
 |none=>
  have h0:l=[]:=by
   cases l with
   |nil=>rfl
   |cons x r=>
    obtain ⟨g,off,h1,_⟩:=hcs b6;rw [hA] at h1;cases h1
  subst h0;refine dQ (M:=fun _=>False) (hs:=[.fr F1]) Tryz.func57 rfl rfl rfl hp0 ?_;refine q1v ?_;refine TL.slNil 3 1 ?_;refine jt ?_;exact q4s
 |some a=>
  rw [←hF1] at hl;refine dQ (M:=fun _=>False) (hs:=[.fr F1]) Tryz.func57 rfl rfl rfl hp0 ?_;refine q1b ?_;rintro _ _ ⟨g,rfl,rfl⟩;refine dy ?_;refine cX (kq 0 1 (k':=l.length) (l':=l.flatMap eI) (zhe (enc:=eI) (fun _=>inferInstance)) rfl rfl rfl rfl rfl hl (by rw [List.length_map];omega) cO hr a8) ?_;rintro v' _ ⟨hv',rfl⟩;refine iw ?_;exact q4t
theorem zgl (F0:Frz)(w:World)(hF0:F0.At w)(l:List Int)(vl:Value)(hl:SlC F0 vl 1 (l.map eI))(hr:dm l.length 8):Calls Tryz.prog 57 #[vl] w fun e w'=>∃(y:Value) (G:Frz),SlC G y 1 (l.map eI)∧e= .returned y∧Fx F0 w G w':=by
 refine (zeT F0 w hF0 l vl hl hr).mono ?_;rintro e w' ⟨v',_,rfl,hw⟩;obtain ⟨G,h1,h2,h3⟩:=Fx.hp hF0 hw;have h4:=SlK.ent (G:=G) (hw.own (.sl v' 3 1 l.length (l.flatMap eI)) b6) h2 (h3 _ b6);exact ⟨v',G,h4.toF rfl (fun _=>rfl),rfl,h1⟩
theorem zei (F0:Frz)(w:World)(hF0:F0.At w)(l:List GBidder)(vl:Value)(cl:List (List Value))(hl:SlD cR F0 vl 4 cl l)(hr:dm l.length 48):Calls Tryz.prog 139 #[vl] w fun e w'=>∃v':Value,True∧e= .returned v'∧Hp w (fun _=>False) [.sl v' 57 4 l.length cl.flatten] w':=by
 haveI:=hl.1.oneC;have hl0:=hl.1;obtain ⟨A,cap,hv,hlc,hcm,hcl,hcs⟩:=hl0;have hlen:=hl.2.1;obtain ⟨S0,F1,hF1,hS0,hp0⟩:=eo hF0
 cases hA:A with
 |none=>
  have h0:l=[]:=by
   refine List.eq_nil_of_length_eq_zero ?_;rw [←hlen];refine Nat.eq_zero_of_not_pos fun h=>?_;obtain ⟨g,off,h1,_⟩:=hcs h;rw [hA] at h1;cases h1
  subst h0;obtain rfl:cl=[]:=List.eq_nil_of_length_eq_zero hlen;refine dQ (M:=fun _=>False) (hs:=[.fr F1]) Tryz.func139 rfl rfl rfl hp0 ?_;refine q1v ?_;refine TL.slNil 57 4 ?_;refine jt ?_;exact q4s
 |some a=>
  rw [←hF1] at hl;refine dQ (M:=fun _=>False) (hs:=[.fr F1]) Tryz.func139 rfl rfl rfl hp0 ?_;refine q1b ?_;rintro _ _ ⟨g,rfl,rfl⟩;refine dy ?_;refine cX (kq 0 1 (k':=l.length) (l':=cl.flatten) (zlg hl (fun _ _ _=>GBidder.one)) rfl rfl rfl rfl rfl hl.1 (by rw [hl.2.1];omega) (by rw [List.nil_append]) hr a8) ?_;rintro v' _ ⟨hv',rfl⟩;refine iw ?_;exact q4t
structure Gfault where
 first:Int
deriving DecidableEq,Inhabited
abbrev kU (x:Gfault):List Value:=[.int .i64 x.first]
theorem Gfault.len (x:Gfault):(kU x).length=1:=rfl
structure GWriter where
 fault:Gfault
 out:List Int
deriving DecidableEq,Inhabited
def fX (F:Frz)(c:List Value)(x:GWriter):Prop:=∃(v1:Value),c=[.int .i64 x.fault.first,v1]∧SlC F v1 1 (x.out.map (eK .u8))
theorem GWriter.mono {F G:Frz}{c:List Value}{x:GWriter}(hle:F.Le G)(h:fX F c x):fX G c x:=by
 obtain ⟨v1,h0,h2⟩:=h;exact ⟨v1,h0,h2.mono hle⟩
theorem GWriter.len {F:Frz}{c:List Value}{x:GWriter}(h:fX F c x):c.length=2:=by
 obtain ⟨v1,h0,h2⟩:=h;subst h0;rfl
theorem GWriter.one {F:Frz}{c:List Value}{x:GWriter}(h:fX F c x):OneCs c:=by
 obtain ⟨v1,h0,h2⟩:=h;subst h0;haveI:=h2.oneC
 infer_instance
def zb9 (fuel:Nat)(l0_:List Int)(n:BitVec 64):Option (List Int):=
 dF (fun (s3:List Int×BitVec 64)=>
 dj (dm (s3.1++[(IntKind.u8.wrap (s3.2.toNat:Int))]).length 1) <|
 some (s3.1++[(IntKind.u8.wrap (s3.2.toNat:Int))]))
 (fun k3=>
 eS (fun (next6:(List Int×BitVec 64)→Option (List Int)) (s6:List Int×BitVec 64)=>
 (bif decide (((127#64).toNat:Int)<(s6.2.toNat:Int)) then
 dj (dm (s6.1++[(orK .u8 (IntKind.u8.wrap (s6.2.toNat:Int)) 128)]).length 1) <|
 next6 ((s6.1++[(orK .u8 (IntKind.u8.wrap (s6.2.toNat:Int)) 128)]),(s6.2 >>> 7))
 else
 k3 (s6.1,s6.2))) fuel (l0_,n))
theorem zeS (F0:Frz)(w:World)(hF0:F0.At w)(l0_:List Int)(v0_:Value)(n:BitVec 64)(hO:Hp w (dG [.sl v0_ 5 1 l0_.length (l0_.flatMap (eK .u8))]) [.sl v0_ 5 1 l0_.length (l0_.flatMap (eK .u8))] w)(hA:∀g,dG [.sl v0_ 5 1 l0_.length (l0_.flatMap (eK .u8))] g→¬F0.S g)(fuel:Nat)(r:List Int)(hr:zb9 fuel l0_ n=some r):Calls Tryz.prog 182 #[v0_,U n] w fun e w'=>∃(y:Value),(True)∧e= .returned (y)∧FxM F0 w (dG [.sl v0_ 5 1 l0_.length (l0_.flatMap (eK .u8))]) F0 [.sl y 5 1 r.length (r.flatMap (eK .u8))] w':=by
 have hk:=hr;unfold zb9 at hk;haveI:=iJ (hO.own (.sl v0_ 5 1 l0_.length (l0_.flatMap (eK .u8))) b6);have hmx0_:=iF (hO.own (.sl v0_ 5 1 l0_.length (l0_.flatMap (eK .u8))) b6);obtain ⟨S0,F1,rfl,hS0,hp0⟩:=gl hF0 hO hA;refine dQ (hs:=[.sl v0_ 5 1 l0_.length (l0_.flatMap (eK .u8)), .fr F1]) Tryz.func182 rfl rfl rfl hp0 ?_;refine eV ?_;refine TL.slNil 5 1 ?_;refine fi ?_;have hq:=d7 hk;clear hk;obtain ⟨k3,hk3,hk⟩:=hq; (try dsimp only at hk);refine c9 (ι:=List Int×Value×BitVec 64) (fun z=>[(0,z.2.1),(1,U z.2.2)]) (fun z=>[.sl z.2.1 5 1 z.1.length (z.1.flatMap (eK .u8)), .fr F1]) (fun z=>k3 (z.1,z.2.2)=some r∧OneC z.2.1) ?_ ?_
 ·have hq:=kF hk;clear hk;obtain ⟨f6,hf6,hk⟩:=hq;refine eH ?_;refine T.pick [1,2] rfl a8 ?_;refine T.loop (ι:=Nat×List Int×Value×BitVec 64) (fun z=>[(0,z.2.2.1),(1,U z.2.2.2)]) (fun z=>[.sl z.2.2.1 5 1 z.2.1.length (z.2.1.flatMap (eK .u8)), .fr F1]) (fun z=>eS f6 z.1 (z.2.1,z.2.2.2)=some r∧OneC z.2.2.1) (fun z=>z.1) (fuel,l0_,v0_,n) ?_ ?_ ?_ ?_
  ·exact q4g
  ·exact (.c (.c .nil))
  ·exact eG
  ·rintro ⟨m_7,out_4,vout_4,n_5⟩ ⟨hk,oout_4⟩; (try dsimp only at *);have hq:=kE hk;clear hk;obtain ⟨m_7',rfl,hk⟩:=hq;generalize hn6:eS f6 m_7'=next6 at hk;rw [←hf6] at hk; (try dsimp only at hk);refine lT ?_;refine T.cond rfl (fun h8=>?_) (fun h8=>?_)
   ·replace hk:=dr hk h8;refine T.skip (K.seq (T.block (T.seq ?_)));have hq:(dm (out_4++[(orK .u8 (IntKind.u8.wrap (n_5.toNat:Int)) 128)]).length 1)∧_:=dB hk;clear hk;obtain ⟨g12,hk⟩:=hq; (try dsimp only at hk);refine eO ?_;refine cS (dV (z:=(n_5.toNat:Int))) ?_;refine cS (Yv.orK (a:=(IntKind.u8.wrap (n_5.toNat:Int))) (b:=128)) ?_;refine iz ?_;rintro _ _ ⟨g11,rfl,rfl⟩;refine cX (gT 1 0 rfl rfl rfl rfl rfl rfl (zdC (ys:=[(orK .u8 (IntKind.u8.wrap (n_5.toNat:Int)) 128)])) (zc9 (enc:=(eK .u8)) (xs:=out_4) (ys:=[(orK .u8 (IntKind.u8.wrap (n_5.toNat:Int)) 128)])) g12 a8) ?_;rintro v12 _ ⟨hv12,rfl⟩;refine dy ?_;refine q2i ?_;refine cS (gU (a:=n_5) 7 rfl rfl rfl (show (7:Int)=((7:Nat):Int) from rfl) a7) ?_;refine q3u ?_;rw [←hn6] at hk;refine K.pick [1,2] rfl a8 ?_;exact K.next (m_7',(out_4++[(orK .u8 (IntKind.u8.wrap (n_5.toNat:Int)) 128)]),v12,(n_5 >>> 7)) ⟨hk,inferInstance⟩ b5 (.c (.c .nil)) (List.Sublist.refl _)
   ·replace hk:=dt hk h8;refine eN ?_;exact cY (out_4,vout_4,n_5) ⟨hk,inferInstance⟩ (.c (.c .nil)) (List.Sublist.refl _)
 ·rintro ⟨out_1,vout_1,n_2⟩ ⟨hk,oout_1⟩; (try dsimp only at *);rw [←hk3] at hk; (try dsimp only at hk);refine T.seq ?_;have hq:(dm (out_1++[(IntKind.u8.wrap (n_2.toNat:Int))]).length 1)∧_:=dB hk;clear hk;obtain ⟨g19,hk⟩:=hq; (try dsimp only at hk);refine eO ?_;refine cS (dV (z:=(n_2.toNat:Int))) ?_;refine iz ?_;rintro _ _ ⟨g18,rfl,rfl⟩;refine cX (gT 1 0 rfl rfl rfl rfl rfl rfl (zdC (ys:=[(IntKind.u8.wrap (n_2.toNat:Int))])) (zc9 (enc:=(eK .u8)) (xs:=out_1) (ys:=[(IntKind.u8.wrap (n_2.toNat:Int))])) g19 a8) ?_;rintro v19 _ ⟨hv19,rfl⟩;refine iw ?_;obtain rfl:=Option.some.inj hk;exact eQ rfl rfl (fun w' hw=>⟨v19,trivial,rfl,dp (hw.pick (idx:=[1,2]) rfl a8) hS0 (Frz.Le.refl _)⟩)
def zeM (fuel:Nat)(l0_:List Int)(n:Int):Option (List Int):=
 (bif decide (n<0) then
 (zb9 fuel l0_ (((BitVec.ofInt 64 (wI (0 - (wI (n+1))))) <<< 1) ||| (1#64))).bind fun r14=>
 some r14
 else
 (zb9 fuel l0_ ((BitVec.ofInt 64 n) <<< 1)).bind fun r19=>
 some r19)
theorem zhp (F0:Frz)(w:World)(hF0:F0.At w)(l0_:List Int)(v0_:Value)(n:Int)(hO:Hp w (dG [.sl v0_ 5 1 l0_.length (l0_.flatMap (eK .u8))]) [.sl v0_ 5 1 l0_.length (l0_.flatMap (eK .u8))] w)(hA:∀g,dG [.sl v0_ 5 1 l0_.length (l0_.flatMap (eK .u8))] g→¬F0.S g)(fuel:Nat)(r:List Int)(hr:zeM fuel l0_ n=some r):Calls Tryz.prog 183 #[v0_, .int .i64 n] w fun e w'=>∃(y:Value),(True)∧e= .returned (y)∧FxM F0 w (dG [.sl v0_ 5 1 l0_.length (l0_.flatMap (eK .u8))]) F0 [.sl y 5 1 r.length (r.flatMap (eK .u8))] w':=by
 have hk:=hr;unfold zeM at hk;haveI:=iJ (hO.own (.sl v0_ 5 1 l0_.length (l0_.flatMap (eK .u8))) b6);have hmx0_:=iF (hO.own (.sl v0_ 5 1 l0_.length (l0_.flatMap (eK .u8))) b6);obtain ⟨S0,F1,rfl,hS0,hp0⟩:=gl hF0 hO hA;refine dQ (hs:=[.sl v0_ 5 1 l0_.length (l0_.flatMap (eK .u8)), .fr F1]) Tryz.func183 rfl rfl rfl hp0 ?_;refine eV ?_;refine lS ?_;refine T.cond rfl (fun h1=>?_) (fun h1=>?_)
 ·have p1:=of_decide_eq_true h1;replace hk:=dr hk h1;refine T.seq ?_;have hq:=dw hk;clear hk;obtain ⟨r14,hr14,hk⟩:=hq; (try dsimp only at hk);refine eO ?_;refine cS (dh (v:= .int .i64 (wI (n+1)))) ?_;refine cS (gY) ?_;refine cS (ey (z:=(wI (0 - (wI (n+1)))))) ?_;refine cS (iI (a:=(BitVec.ofInt 64 (wI (0 - (wI (n+1)))))) 1 rfl rfl rfl (show (1:Int)=((1:Nat):Int) from rfl) a7) ?_;refine cS (j7 (a:=((BitVec.ofInt 64 (wI (0 - (wI (n+1))))) <<< 1)) (b:=1#64)) ?_;refine cX (dI [0,1] [.sl v0_ 5 1 l0_.length (l0_.flatMap (eK .u8))] [] rfl rfl rfl rfl a8 (fun w hw hw2 hF=>zeS _ w hF l0_ v0_ (((BitVec.ofInt 64 (wI (0 - (wI (n+1))))) <<< 1) ||| (1#64)) hw2.takes.1 hw2.takes.2 fuel r14 hr14)) ?_;rintro v14_0_0 _ ⟨_, -,rfl,rfl⟩;refine lz ?_;intro iv14_0_0 hmv14_0_0;refine lw ?_;obtain rfl:=Option.some.inj hk;exact eQ rfl rfl (fun w' hw=>⟨v14_0_0,trivial,rfl,dp (hw.pick (idx:=[0,1]) rfl a8) hS0 (Frz.Le.refl _)⟩)
 ·have p1:=of_decide_eq_false h1;replace hk:=dt hk h1;refine fN ?_;have hq:=dw hk;clear hk;obtain ⟨r19,hr19,hk⟩:=hq; (try dsimp only at hk);refine eO ?_;refine cS (ey (z:=n)) ?_;refine cS (iI (a:=(BitVec.ofInt 64 n)) 1 rfl rfl rfl (show (1:Int)=((1:Nat):Int) from rfl) a7) ?_;refine cX (dI [0,1] [.sl v0_ 5 1 l0_.length (l0_.flatMap (eK .u8))] [] rfl rfl rfl rfl a8 (fun w hw hw2 hF=>zeS _ w hF l0_ v0_ ((BitVec.ofInt 64 n) <<< 1) hw2.takes.1 hw2.takes.2 fuel r19 hr19)) ?_;rintro v19_0_0 _ ⟨_, -,rfl,rfl⟩;refine lz ?_;intro iv19_0_0 hmv19_0_0;refine iw ?_;obtain rfl:=Option.some.inj hk;exact eQ rfl rfl (fun w' hw=>⟨v19_0_0,trivial,rfl,dp (hw.pick (idx:=[0,1]) rfl a8) hS0 (Frz.Le.refl _)⟩)
def zbr (x0_:GWriter):Bool:=
 (decide (x0_.fault.first=0))
theorem zcB (F0:Frz)(w:World)(hF0:F0.At w)(x0_:GWriter)(g0_:Nat)(v0_1:Value)(hO:Hp w (dG [.row g0_ 145 [.int .i64 x0_.fault.first,v0_1], .sl v0_1 5 1 x0_.out.length (x0_.out.flatMap (eK .u8))]) [.row g0_ 145 [.int .i64 x0_.fault.first,v0_1], .sl v0_1 5 1 x0_.out.length (x0_.out.flatMap (eK .u8))] w)(hA:∀g,dG [.row g0_ 145 [.int .i64 x0_.fault.first,v0_1], .sl v0_1 5 1 x0_.out.length (x0_.out.flatMap (eK .u8))] g→¬F0.S g):Calls Tryz.prog 179 #[.pointer (some ⟨g0_,0,none⟩)] w fun e w'=>∃(y:Unit),(True)∧e= .returned (.bool (zbr x0_))∧FxM F0 w (dG [.row g0_ 145 [.int .i64 x0_.fault.first,v0_1], .sl v0_1 5 1 x0_.out.length (x0_.out.flatMap (eK .u8))]) F0 [.row g0_ 145 [.int .i64 x0_.fault.first,v0_1], .sl v0_1 5 1 x0_.out.length (x0_.out.flatMap (eK .u8))] w':=by
 obtain ⟨r,hk⟩:∃r,zbr x0_=r:=⟨_,rfl⟩;rw [hk];unfold zbr at hk;haveI:=iJ (hO.own (.sl v0_1 5 1 x0_.out.length (x0_.out.flatMap (eK .u8))) b6);have hmx0_1:=iF (hO.own (.sl v0_1 5 1 x0_.out.length (x0_.out.flatMap (eK .u8))) b6);obtain ⟨S0,F1,rfl,hS0,hp0⟩:=gl hF0 hO hA;refine dQ (hs:=[.row g0_ 145 [.int .i64 x0_.fault.first,v0_1], .sl v0_1 5 1 x0_.out.length (x0_.out.flatMap (eK .u8)), .fr F1]) Tryz.func179 rfl rfl rfl hp0 ?_;refine eW ?_;refine c9 (ι:=Unit) (fun z=>[(2, .bool (decide (x0_.fault.first=0)))]) (fun z=>[.row g0_ 145 [.int .i64 x0_.fault.first,v0_1], .sl v0_1 5 1 x0_.out.length (x0_.out.flatMap (eK .u8)), .fr F1]) (fun z=>True) ?_ ?_
 ·refine ef ?_;refine cS (Yv.cv (e:=145) b0 rfl rfl rfl) ?_;refine fP ?_;refine gn ?_;refine kN ?_;refine fG ?_;exact cY () trivial (.c .nil) (List.Sublist.refl _)
 ·rintro _ _;refine T.ret ?_;subst hk;exact eQ rfl rfl (fun w' hw=>⟨⟨⟩,trivial,rfl,dp (hw.pick (idx:=[0,1,2]) rfl a8) hS0 (Frz.Le.refl _)⟩)
def za2 (x0_:GWriter)(l1_:List Int):Option (List Int):=
 (bif decide (65536<(l1_.length:Int)) then
 none
 else
 some l1_)
theorem zcu (F0:Frz)(w:World)(hF0:F0.At w)(x0_:GWriter)(g0_:Nat)(v0_1:Value)[iv0_1:OneC v0_1](l1_:List Int)(v1_:Value)(hO:Hp w (dG [.row g0_ 145 [.int .i64 x0_.fault.first,v0_1], .sl v1_ 5 1 l1_.length (l1_.flatMap (eK .u8))]) [.row g0_ 145 [.int .i64 x0_.fault.first,v0_1], .sl v1_ 5 1 l1_.length (l1_.flatMap (eK .u8))] w)(hA:∀g,dG [.row g0_ 145 [.int .i64 x0_.fault.first,v0_1], .sl v1_ 5 1 l1_.length (l1_.flatMap (eK .u8))] g→¬F0.S g)(r:List Int)(hr:za2 x0_ l1_=some r):Calls Tryz.prog 181 #[.pointer (some ⟨g0_,0,none⟩),v1_] w fun e w'=>∃(y:Value),(True)∧e= .returned (.tuple #[])∧FxM F0 w (dG [.row g0_ 145 [.int .i64 x0_.fault.first,v0_1], .sl v1_ 5 1 l1_.length (l1_.flatMap (eK .u8))]) F0 [.row g0_ 145 [.int .i64 x0_.fault.first,y], .sl y 5 1 r.length (r.flatMap (eK .u8))] w':=by
 have hk:=hr;unfold za2 at hk;haveI:=iJ (hO.own (.sl v1_ 5 1 l1_.length (l1_.flatMap (eK .u8))) b6);have hmx1_:=iF (hO.own (.sl v1_ 5 1 l1_.length (l1_.flatMap (eK .u8))) b6);obtain ⟨S0,F1,rfl,hS0,hp0⟩:=gl hF0 hO hA;refine dQ (hs:=[.row g0_ 145 [.int .i64 x0_.fault.first,v0_1], .sl v1_ 5 1 l1_.length (l1_.flatMap (eK .u8)), .fr F1]) Tryz.func181 rfl rfl rfl hp0 ?_;refine iS ?_;refine dy ?_;refine cS (gw 1 rfl rfl rfl) ?_;refine dZ ?_;refine T.cond rfl (fun h1=>?_) (fun h1=>?_)
 ·have p1:=of_decide_eq_true h1;replace hk:=dr hk h1;refine T.seq ?_;cases hk
 ·have p1:=of_decide_eq_false h1;replace hk:=dt hk h1;refine T.skip (K.seq (T.region ?_));refine fP ?_;refine gn ?_;refine dM (iv 0 rfl rfl rfl rfl b6) ?_;refine ee ?_;refine fG ?_;obtain rfl:=Option.some.inj hk;exact jx rfl (fun w' hw=>⟨v1_,trivial,rfl,dp (hw.pick (idx:=[0,1,2]) rfl a8) hS0 (Frz.Le.refl _)⟩)
def j4 (fuel:Nat)(x0_:GWriter)(n:Int):Option (List Int):=
 (bif !(zbr x0_) then
 some x0_.out
 else
 (bif decide (n<0) then
 none
 else
 (zb9 fuel x0_.out (BitVec.ofInt 64 n)).bind fun r20=>
 (za2 x0_ r20).bind fun r21=>
 some r21))
theorem zaF (F0:Frz)(w:World)(hF0:F0.At w)(x0_:GWriter)(g0_:Nat)(v0_1:Value)(n:Int)(hO:Hp w (dG [.row g0_ 145 [.int .i64 x0_.fault.first,v0_1], .sl v0_1 5 1 x0_.out.length (x0_.out.flatMap (eK .u8))]) [.row g0_ 145 [.int .i64 x0_.fault.first,v0_1], .sl v0_1 5 1 x0_.out.length (x0_.out.flatMap (eK .u8))] w)(hA:∀g,dG [.row g0_ 145 [.int .i64 x0_.fault.first,v0_1], .sl v0_1 5 1 x0_.out.length (x0_.out.flatMap (eK .u8))] g→¬F0.S g)(fuel:Nat)(r:List Int)(hr:j4 fuel x0_ n=some r):Calls Tryz.prog 96 #[.pointer (some ⟨g0_,0,none⟩), .int .i64 n] w fun e w'=>∃(y:Value),(True)∧e= .returned (.tuple #[])∧FxM F0 w (dG [.row g0_ 145 [.int .i64 x0_.fault.first,v0_1], .sl v0_1 5 1 x0_.out.length (x0_.out.flatMap (eK .u8))]) F0 [.row g0_ 145 [.int .i64 x0_.fault.first,y], .sl y 5 1 r.length (r.flatMap (eK .u8))] w':=by
 have hk:=hr;unfold j4 at hk;haveI:=iJ (hO.own (.sl v0_1 5 1 x0_.out.length (x0_.out.flatMap (eK .u8))) b6);have hmx0_1:=iF (hO.own (.sl v0_1 5 1 x0_.out.length (x0_.out.flatMap (eK .u8))) b6);obtain ⟨S0,F1,rfl,hS0,hp0⟩:=gl hF0 hO hA;refine dQ (hs:=[.row g0_ 145 [.int .i64 x0_.fault.first,v0_1], .sl v0_1 5 1 x0_.out.length (x0_.out.flatMap (eK .u8)), .fr F1]) Tryz.func96 rfl rfl rfl hp0 ?_;refine iS ?_;refine dy ?_;refine q2v ?_;rintro _ _ ⟨⟨⟩, -,rfl,rfl⟩;refine ft ?_;refine dZ ?_;refine T.cond rfl (fun h1=>?_) (fun h1=>?_)
 ·replace hk:=dr hk h1;refine T.ret (gk ?_);obtain rfl:=Option.some.inj hk;exact K.cD rfl (fun w' hw=>⟨v0_1,trivial,rfl,dp (hw.pick (idx:=[0,1,2]) rfl a8) hS0 (Frz.Le.refl _)⟩)
 ·replace hk:=dt hk h1;refine j0 ?_;refine kz ?_;refine T.cond rfl (fun h2=>?_) (fun h2=>?_)
  ·have p2:=of_decide_eq_true h2;replace hk:=dr hk h2;refine T.seq ?_;cases hk
  ·have p2:=of_decide_eq_false h2;replace hk:=dt hk h2;refine T.skip (K.seq ?_);have hq:=dw hk;clear hk;obtain ⟨r20,hr20,hk⟩:=hq;have hq:=dw hk;clear hk;obtain ⟨r21,hr21,hk⟩:=hq; (try dsimp only at hk);refine ie ?_;refine kA ?_;refine cS (ey (z:=n)) ?_;refine cX (dI [1,2,0] [.sl v0_1 5 1 x0_.out.length (x0_.out.flatMap (eK .u8))] [.row g0_ 145 [.int .i64 x0_.fault.first,v0_1]] rfl rfl rfl rfl a8 (fun w hw hw2 hF=>zeS _ w hF x0_.out v0_1 (BitVec.ofInt 64 n) hw2.takes.1 hw2.takes.2 fuel r20 hr20)) ?_;rintro v20_0_0 _ ⟨_, -,rfl,rfl⟩;refine lz ?_;intro iv20_0_0 hmv20_0_0;refine cX (dI [2,0,1] [.row g0_ 145 [.int .i64 x0_.fault.first,v0_1], .sl v20_0_0 5 1 r20.length (r20.flatMap (eK .u8))] [] rfl rfl rfl rfl a8 (fun w hw hw2 hF=>zcu _ w hF x0_ g0_ v0_1 r20 v20_0_0 hw2.takes.1 hw2.takes.2 r21 hr21)) ?_;rintro _ _ ⟨v21_0_1, -,rfl,rfl⟩;refine lv ?_;intro iv21_0_1 hmv21_0_1;refine fG ?_;obtain rfl:=Option.some.inj hk;exact jx rfl (fun w' hw=>⟨v21_0_1,trivial,rfl,dp (hw.pick (idx:=[0,1,2]) rfl a8) hS0 (Frz.Le.refl _)⟩)
def zb6 (fuel:Nat)(x0_:GWriter)(n:Int):Option (List Int):=
 (bif (zbr x0_) then
 (zeM fuel x0_.out n).bind fun r12=>
 (za2 x0_ r12).bind fun r13=>
 some r13
 else
 some x0_.out)
theorem zdY (F0:Frz)(w:World)(hF0:F0.At w)(x0_:GWriter)(g0_:Nat)(v0_1:Value)(n:Int)(hO:Hp w (dG [.row g0_ 145 [.int .i64 x0_.fault.first,v0_1], .sl v0_1 5 1 x0_.out.length (x0_.out.flatMap (eK .u8))]) [.row g0_ 145 [.int .i64 x0_.fault.first,v0_1], .sl v0_1 5 1 x0_.out.length (x0_.out.flatMap (eK .u8))] w)(hA:∀g,dG [.row g0_ 145 [.int .i64 x0_.fault.first,v0_1], .sl v0_1 5 1 x0_.out.length (x0_.out.flatMap (eK .u8))] g→¬F0.S g)(fuel:Nat)(r:List Int)(hr:zb6 fuel x0_ n=some r):Calls Tryz.prog 98 #[.pointer (some ⟨g0_,0,none⟩), .int .i64 n] w fun e w'=>∃(y:Value),(True)∧e= .returned (.tuple #[])∧FxM F0 w (dG [.row g0_ 145 [.int .i64 x0_.fault.first,v0_1], .sl v0_1 5 1 x0_.out.length (x0_.out.flatMap (eK .u8))]) F0 [.row g0_ 145 [.int .i64 x0_.fault.first,y], .sl y 5 1 r.length (r.flatMap (eK .u8))] w':=by
 have hk:=hr;unfold zb6 at hk;haveI:=iJ (hO.own (.sl v0_1 5 1 x0_.out.length (x0_.out.flatMap (eK .u8))) b6);have hmx0_1:=iF (hO.own (.sl v0_1 5 1 x0_.out.length (x0_.out.flatMap (eK .u8))) b6);obtain ⟨S0,F1,rfl,hS0,hp0⟩:=gl hF0 hO hA;refine dQ (hs:=[.row g0_ 145 [.int .i64 x0_.fault.first,v0_1], .sl v0_1 5 1 x0_.out.length (x0_.out.flatMap (eK .u8)), .fr F1]) Tryz.func98 rfl rfl rfl hp0 ?_;refine eV ?_;refine q2v ?_;rintro _ _ ⟨⟨⟩, -,rfl,rfl⟩;refine lY ?_;refine T.cond rfl (fun h1=>?_) (fun h1=>?_)
 ·replace hk:=dr hk h1;have hq:=dw hk;clear hk;obtain ⟨r12,hr12,hk⟩:=hq;have hq:=dw hk;clear hk;obtain ⟨r13,hr13,hk⟩:=hq; (try dsimp only at hk);refine ie ?_;refine kA ?_;refine cX (dI [1,2,0] [.sl v0_1 5 1 x0_.out.length (x0_.out.flatMap (eK .u8))] [.row g0_ 145 [.int .i64 x0_.fault.first,v0_1]] rfl rfl rfl rfl a8 (fun w hw hw2 hF=>zhp _ w hF x0_.out v0_1 n hw2.takes.1 hw2.takes.2 fuel r12 hr12)) ?_;rintro v12_0_0 _ ⟨_, -,rfl,rfl⟩;refine lz ?_;intro iv12_0_0 hmv12_0_0;refine cX (dI [2,0,1] [.row g0_ 145 [.int .i64 x0_.fault.first,v0_1], .sl v12_0_0 5 1 r12.length (r12.flatMap (eK .u8))] [] rfl rfl rfl rfl a8 (fun w hw hw2 hF=>zcu _ w hF x0_ g0_ v0_1 r12 v12_0_0 hw2.takes.1 hw2.takes.2 r13 hr13)) ?_;rintro _ _ ⟨v13_0_1, -,rfl,rfl⟩;refine lv ?_;intro iv13_0_1 hmv13_0_1;refine fG ?_;obtain rfl:=Option.some.inj hk;exact jx rfl (fun w' hw=>⟨v13_0_1,trivial,rfl,dp (hw.pick (idx:=[0,1,2]) rfl a8) hS0 (Frz.Le.refl _)⟩)
 ·replace hk:=dt hk h1;refine T.skip ?_;obtain rfl:=Option.some.inj hk;exact jx rfl (fun w' hw=>⟨v0_1,trivial,rfl,dp (hw.pick (idx:=[0,1,2]) rfl a8) hS0 (Frz.Le.refl _)⟩)
def zbf (x0_:GWriter):Option (List Int×Int):=
 (bif decide (¬x0_.fault.first=0) then
 some ([],x0_.fault.first)
 else
 dj (dm ([]++x0_.out).length 1) <|
 some (([]++x0_.out),0))
theorem zcL (F0:Frz)(w:World)(hF0:F0.At w)(x0_:GWriter)(g0_:Nat)(v0_1:Value)(hO:Hp w (dG [.row g0_ 145 [.int .i64 x0_.fault.first,v0_1], .sl v0_1 5 1 x0_.out.length (x0_.out.flatMap (eK .u8))]) [.row g0_ 145 [.int .i64 x0_.fault.first,v0_1], .sl v0_1 5 1 x0_.out.length (x0_.out.flatMap (eK .u8))] w)(hA:∀g,dG [.row g0_ 145 [.int .i64 x0_.fault.first,v0_1], .sl v0_1 5 1 x0_.out.length (x0_.out.flatMap (eK .u8))] g→¬F0.S g)(r:List Int×Int)(hr:zbf x0_=some r):Calls Tryz.prog 99 #[.pointer (some ⟨g0_,0,none⟩)] w fun e w'=>∃(y:Value),(True)∧e= .returned (.tuple #[y, .int .i64 r.2])∧FxM F0 w (dG [.row g0_ 145 [.int .i64 x0_.fault.first,v0_1], .sl v0_1 5 1 x0_.out.length (x0_.out.flatMap (eK .u8))]) F0 [.row g0_ 145 [.int .i64 x0_.fault.first,v0_1], .sl v0_1 5 1 x0_.out.length (x0_.out.flatMap (eK .u8)), .sl y 5 1 r.1.length (r.1.flatMap (eK .u8))] w':=by
 have hk:=hr;unfold zbf at hk;haveI:=iJ (hO.own (.sl v0_1 5 1 x0_.out.length (x0_.out.flatMap (eK .u8))) b6);have hmx0_1:=iF (hO.own (.sl v0_1 5 1 x0_.out.length (x0_.out.flatMap (eK .u8))) b6);obtain ⟨S0,F1,rfl,hS0,hp0⟩:=gl hF0 hO hA;refine dQ (hs:=[.row g0_ 145 [.int .i64 x0_.fault.first,v0_1], .sl v0_1 5 1 x0_.out.length (x0_.out.flatMap (eK .u8)), .fr F1]) Tryz.func99 rfl rfl rfl hp0 ?_;refine eV ?_;refine TL.slNil 5 1 ?_;refine li ?_;refine cS (Yv.bn (e:=145) b0 rfl rfl rfl) ?_;refine dz ?_;refine T.by rfl rfl ?_;refine j0 ?_;refine ek ?_;refine gn ?_;refine kP ?_;refine dZ ?_;refine T.cond rfl (fun h1=>?_) (fun h1=>?_)
 ·have p1:=of_decide_eq_true h1;replace hk:=dr hk h1;refine T.seq ?_;refine q3V ?_;refine lQ ?_;refine jw ?_;refine fS ?_;refine TS.slNil 5 1 ?_;refine iM ?_;refine K.seq (T.ret (gk ?_));obtain rfl:=Option.some.inj hk;exact fh rfl rfl rfl (fun w' hw=>⟨(.slice none 0 0),trivial,rfl,dp (hw.pick (idx:=[2,3,0,4]) rfl a8) hS0 (Frz.Le.refl _)⟩)
 ·have p1:=of_decide_eq_false h1;replace hk:=dt hk h1;refine fN ?_;have hq:(dm ([]++x0_.out).length 1)∧_:=dB hk;clear hk;obtain ⟨g21,hk⟩:=hq; (try dsimp only at hk);refine eO ?_;refine kP ?_;refine TL.slNil 5 1 ?_;refine cX (Ew.bY 0 3 (zkw (fun _=>inferInstance)) rfl rfl rfl rfl rfl (zkT ([]:List Int) x0_.out) (zjJ (enc:=(eK .u8)) ([]:List Int) x0_.out) g21 a8) ?_;rintro v21 _ ⟨hv21,rfl⟩;refine mf ?_;obtain rfl:=Option.some.inj hk;exact fh rfl rfl rfl (fun w' hw=>⟨v21,trivial,rfl,dp (hw.pick (idx:=[2,3,0,4]) rfl a8) hS0 (Frz.Le.refl _)⟩)
theorem zlt {F:Frz}{g n:Nat}{x:Vec n Int}{k:IntKind}(h:F.S g∧Cs F.w g 0 (x.1.map (Value.int k)))(hn:n≤9223372036854775807:=by decide):SlC F (.slice (some ⟨g,0,none⟩) n n) 1 (x.1.map (eK k)):=by
 have h1:=SlK.lit (k:=n) (c:=n) (size:=1) h (by rw [List.length_map,x.2,Nat.mul_one]) (Nat.le_refl _) hn;exact h1.toC (by rw [ze4]) (by rw [List.length_map,x.2]) (fun c hc=>by obtain ⟨_,_,rfl⟩:=List.mem_map.1 hc;rfl)
section
variable {P:Program}{n:Nat}{B D:World}{M:Nat→Prop}{fs:eb}{hs:HS}{o:Oper}{v:Value}
theorem K.cA (i j:Nat){fn:Func}{R:Ending→World→Prop}{t u t2 u2:TypeId}{s g k s2 g2 k2:Nat}{l l2:List Value}[hT:TyA P t k][hT2:TyA P t2 k2](hr:fn.results= #[.cell s t, .cell s2 t2])(hv:eJ fs s=some (.pointer (some ⟨g,0,none⟩)))(hv2:eJ fs s2=some (.pointer (some ⟨g2,0,none⟩)))(hi:hs[i]?=some (.row g u l))(hj:hs[j]?=some (.row g2 u2 l2))(hl:l.length=k)(hl2:l2.length=k2)(h:∀w,Hp B M hs w→R (.returned (.tuple #[.agg l.toArray, .agg l2.toArray])) w):K n B D M (kw P fn R) .ret fs hs:=
 (jW (fun a w ha hw=>by
  have h1:=zdJ (P:=P) (t:=t) (dC.1 (hw.get hi)) hl;have h2:=zdJ (P:=P) (t:=t2) (dC.1 (hw.get hj)) hl2
  simp [results,hr,ha.get s _ hv,ha.get s2 _ hv2,asAddr,h1,h2]) h).1
end
@[irreducible] def Ent.rowz (g:Nat) (t:TypeId) (l:List Value):Ent where
 fp:=(· =g)
 ok w:=∃fz,w.heap[g]?=some (.cells l.toArray t fz)
 loc h k:=by obtain ⟨fz,k⟩:=k;exact ⟨fz,(h g rfl).trans k⟩
 lt h k e:=by subst e;obtain ⟨fz,h⟩:=h;exact (Array.getElem?_eq_some_iff.1 h).1
 nd h k e c:=by subst e;obtain ⟨fz,h⟩:=h;rw [h];simp
theorem iG {g:Nat}{t:TypeId}{l:List Value}{k:Nat}:(Ent.rowz g t l).fp k↔k=g:=by unfold Ent.rowz;exact Iff.rfl
theorem gF {g:Nat}{t:TypeId}{l:List Value}{w:World}:(Ent.rowz g t l).ok w↔∃fz,w.heap[g]?=some (.cells l.toArray t fz):=by unfold Ent.rowz;exact Iff.rfl
theorem zjQ {g:Nat}{t:TypeId}{l:List Value}{w:World}(h:(Ent.rowz g t l).ok w)(q:Nat):w.cell? ⟨g,q,none⟩=l[q]?:=by
 obtain ⟨fz,h⟩:=gF.1 h;unfold World.cell?;simp [h]
theorem Ew.bv {P:Program}{n':Nat}{B:World}{M S0:Nat→Prop}{fs:eb}{hs:HS}{o:Oper}(i j:Nat)(hij:i≠j){F:FzB B M S0}{t e:TypeId}{x:Operand}{g n:Nat}{l:List Value}{xs:List Int}(ht:P.underlying t=some (.slice e))(he:P.underlying e=some (.int .u8))(ho:o.op= .convert t t x)(hx:ev fs x=some (.slice (some ⟨g,0,none⟩) n n))(hi:hs[i]?=some (.fr F))(hj:hs[j]?=some (.row g e l))(hl:l=xs.map (Value.int .u8))(hn:l.length=n)(hm:n≤9223372036854775807):
  Ew P n' B M fs hs o (fun v hs'=>∃G:FzB B M S0,(F.toFrz.Le G.toFrz∧SlC G.toFrz (.slice (some ⟨g,0,none⟩) n n) 1 (xs.map (eK .u8)))∧v= .slice (some ⟨g,0,none⟩) n n∧hs'=(hs.set i (.fr G)).eraseIdx j):=fQ fun a w ha hw=>by
 have hr:=dC.1 (hw.get hj);have hlt:=(Array.getElem?_eq_some_iff.1 hr).1
 have hsh:w.shape? g=some (e,n):=by
  unfold World.shape?;rw [hr];simp [hn]
 have hg:(w.freeze ⟨g,n,none⟩ 1).heap[g]?=some (.cells l.toArray e (n,n+1)):=by
  unfold World.freeze;rw [if_neg a8];simp [Array.getElem?_modify,hr]
 have hother:∀k,k≠g→(w.freeze ⟨g,n,none⟩ 1).heap[k]?=w.heap[k]?:=fun k hk=>by
  unfold World.freeze;rw [if_neg a8];simp [Array.getElem?_modify,Ne.symm hk]
 have hsize:(w.freeze ⟨g,n,none⟩ 1).heap.size=w.heap.size:=by
  unfold World.freeze;rw [if_neg a8];simp
 have hOnly:Only (· =g) w (w.freeze ⟨g,n,none⟩ 1):=⟨by unfold World.freeze;rw [if_neg a8],by unfold World.freeze;rw [if_neg a8],by unfold World.freeze;rw [if_neg a8],by rw [hsize];exact Nat.le_refl _,fun k _ hne=>hother k hne⟩;have h1:Hp B M (hs.set j (.rowz g e l)) (w.freeze ⟨g,n,none⟩ 1):=hw.updAt (S:=(· =g)) hj hOnly (fun k _ hk=>e6.2 hk) (gF.2 ⟨_,hg⟩) (fun k hk=> .inl (e6.2 (iG.1 hk)));have hjl:=(List.getElem?_eq_some_iff.1 hj).1; (have hi':(hs.set j (.rowz g e l))[i]?=some (.fr F):=by rw [List.getElem?_set_ne hij.symm];exact hi);have hj':(hs.set j (.rowz g e l))[j]?=some (.rowz g e l):=List.getElem?_set_self hjl;obtain ⟨G,k1,k2,k3,k4⟩:=h1.freezeB hij hi' hj' (g:=g) (iG.2 rfl) ⟨_,_,_,hg⟩;refine ⟨.slice (some ⟨g,0,none⟩) n n,w.freeze ⟨g,n,none⟩ 1,(hs.set i (.fr G)).eraseIdx j,?_,Kp.only hOnly (fun k hk c h=>by subst hk;rw [hr] at h;simp at h),?_,G,⟨k1,?_⟩,rfl,rfl⟩
 ·unfold execOp;simp [ho,ha.ev hx,convert,run_underlying ht,run_underlying he,markStringish,hsh]
 ·rw [List.set_comm _ _ hij.symm,List.eraseIdx_set_eq] at k4;exact k4
 ·have h2:SlK G.toFrz (.slice (some ⟨g,0,none⟩) n n) 1 n l:=SlK.lit ⟨k2,fun q hq=>by rw [k3,Nat.zero_add,zjQ (gF.2 ⟨_,hg⟩)]⟩ a7 (Nat.le_refl _) hm;refine h2.toC ?_ ?_ ?_
  ·rw [hl,ze4]
  ·rw [←hn,hl,List.length_map,List.length_map]
  ·intro c hc;obtain ⟨_,_,rfl⟩:=List.mem_map.1 hc;rfl
def jy (l:List GBidder):Prop:=dm l.length 48∧∀x∈l,dm x.Blocks.length 8
instance (l:List GBidder):Decidable (jy l):=by unfold jy;infer_instance
theorem ziL {cl:List (List Value)}{j:Nat}(h:j<cl.length):nth (cl.map fun c=>nth c 3) j=nth (nth cl j) 3:=by
 rw [eZ (by rw [List.length_map];exact h),List.getElem_map,eZ h]
theorem zkS {F:Frz}{v:Value}{cl:List (List Value)}{l:List GBidder}(h:SlD cR F v 4 cl l):gL l (cl.map fun c=>nth c 3)=cl∧∀j,j<l.length→SlC F (nth (cl.map fun c=>nth c 3) j) 1 ((nth l j).Blocks.map eI):=by
 have hl:=h.2.1;refine ⟨List.ext_getElem (by rw [my,hl]) fun i h1 h2=>?_,fun j hj=>?_⟩
 ·(have hi:i<l.length:=by rw [my] at h1;exact h1);have e1:=zeg (xs:=l) (vs:=cl.map fun c=>nth c 3) hi;rw [eZ h1] at e1;rw [e1,ziL h2];have h3:=h.2.2 i hi;rw [eZ h2] at h3 ⊢;obtain ⟨v0,h0,_⟩:=h3;rw [h0];rfl
 ·rw [ziL (by rw [hl];exact hj)];exact (eL (h.2.2 j hj)).2
def mu (ei:TypeId)(i:Nat)(xs:List GBidder)(vs:List Value):HS:=(List.range i).map fun i=> .sl (nth vs i) ei 1 (nth xs i).Blocks.length ((nth xs i).Blocks.flatMap eI)
theorem zjE {ei:TypeId}{i:Nat}{xs:List GBidder}{vs:List Value}{v:Value}(hi:i<vs.length):mu ei i xs vs++[.sl v ei 1 (nth xs i).Blocks.length ((nth xs i).Blocks.flatMap eI)]=mu ei (i+1) xs (vs.set i v):=by
 unfold mu;rw [List.range_succ,List.map_append,List.map_cons,List.map_nil,iW hi,if_pos rfl];refine congrArg (· ++_) (List.map_congr_left fun j hj=>?_);have hj:=List.mem_range.1 hj;rw [iW a7,if_neg a7]
theorem zir {xs:List GBidder}{vs:List Value}{v:Value}{i:Nat}(hi:i<xs.length)(hv:i<vs.length):(gL xs vs).flatten.set (i*4+3) v=(gL xs (vs.set i v)).flatten:=by
 rw [ziT (c:=ku (nth xs i) (nth vs i)) ze9 (by rw [my];exact hi) (by rw [zeg hi];rfl) a8];refine congrArg List.flatten (List.ext_getElem (by rw [List.length_set,my,my]) fun j h1 h2=>?_); (have hj:j<xs.length:=by rw [my] at h2;exact h2);have e2:=zeg (xs:=xs) (vs:=vs.set i v) hj;rw [eZ h2] at e2;rw [e2];rw [List.getElem_set];by_cases e:i=j
 ·subst e;rw [if_pos rfl,iW hv,if_pos rfl];rfl
 ·have e3:=zeg (xs:=xs) (vs:=vs) hj;rw [eZ (by rw [my];exact hj)] at e3;rw [if_neg e,e3];unfold ku
  congr 4
  unfold nth;rw [List.getD_eq_getElem?_getD,List.getD_eq_getElem?_getD,List.getElem?_set_ne e]
theorem Hp.toBd {B w:World}{M:Nat→Prop}{x:Ent}{es rest:HS}(h:Hp B M (x :: .bag es :: rest) w):Hp B M (.bag (x :: es) :: rest) w:=by
 have hx:=h.own x b6;have hb:=d6.1 (h.own (.bag es) b6);have ha:=(List.pairwise_cons.1 h.apart).1 (.bag es) b6;refine gm (es:=[x, .bag es]) (es':=[.bag (x :: es)]) (rest:=rest) h (fun e he=>?_) (fun e he g hg=>?_) (List.pairwise_singleton _ _)
 ·rw [List.mem_singleton.1 he];refine d6.2 ⟨fun y hy=>?_,List.pairwise_cons.2 ⟨fun y hy g hg hyg=>ha g hg (dP.2 ⟨y,hy,hyg⟩),hb.2⟩⟩;rcases List.mem_cons.1 hy with rfl|hy
  ·exact hx
  ·exact hb.1 y hy
 ·rw [List.mem_singleton.1 he] at hg;obtain ⟨y,hy,hyg⟩:=dP.1 hg;rcases List.mem_cons.1 hy with rfl|hy
  ·exact ⟨y,by simp,hyg⟩
  ·exact ⟨.bag es,by simp,dP.2 ⟨y,hy,hyg⟩⟩
theorem zhi (F0:Frz)(w:World)(hF0:F0.At w)(l:List GBidder)(vl:Value)(cl:List (List Value))(hl:SlD cR F0 vl 4 cl l)(hr:jy l):Calls Tryz.prog 54 #[vl] w fun e w'=>∃y:Value×List Value,True∧e= .returned y.1∧Hp w (fun _=>False) [d9 57 3 y.1 y.2 l] w':=by
 obtain ⟨g6,g7⟩:=hr;haveI:=hl.1.oneC;obtain ⟨S0,F1,rfl,hS0,hp0⟩:=eo hF0;obtain ⟨hrow,hblk⟩:=zkS hl;have hcl:=hl.2.1;generalize hus:(cl.map fun c=>nth c 3)=us at hrow hblk; (have hul:us.length=l.length:=by rw [←hus,List.length_map,hcl]);refine dQ Tryz.func54 rfl rfl rfl hp0 ?_;refine eV ?_;refine i0 ?_;refine cX (jC rfl rfl rfl (fun w hw=>zei _ w (hw.fr (i:=0) rfl) l vl cl hl g6)) ?_;rintro v6_ _ ⟨_,_,rfl,rfl⟩;refine lz ?_;intro iv6_ hmv6_;refine li ?_;refine cS (gw 0 rfl rfl rfl) ?_;refine dZ ?_;refine c9 (ι:=List Value) (fun us=>[(3,v6_)]) (fun us=>[.sl v6_ 57 4 l.length (gL l us).flatten, .bag (iq 3 l us), .fr F1]) (fun us=>True) ?_ ?_
 ·refine T.bag0 [] (fun _ _ h=>by cases h) (fun _ h=>by cases h) ?_;refine eH ?_;refine T.loop (ι:=Nat×List Value) (fun z=>[(3,v6_),(8, .int .i64 (l.length:Int)),(9, .int .i64 (z.1:Int))]) (fun z=>[.bag (mu 3 z.1 l z.2), .sl v6_ 57 4 l.length (gL l z.2).flatten, .fr F1]) (fun z=>z.1≤l.length∧z.2.length=l.length∧∀j,z.1≤j→j<l.length→SlC F1.toFrz (nth z.2 j) 1 ((nth l j).Blocks.map eI)) (fun z=>l.length - z.1) (0,us) ?_ ?_ ?_ ?_
  ·exact ⟨Nat.zero_le _,hul,fun j _ hj=>hblk j hj⟩
  ·exact mx
  ·dsimp only;rw [hrow];exact eG
  ·rintro ⟨i_5,us⟩ ⟨hle,hul,hb⟩;dsimp only at hle hul hb ⊢;refine eW ?_;refine T.cond rfl (fun h6=>?_) (fun h6=>?_)
   ·have p6:=of_decide_eq_true h6; (have hi:i_5<l.length:=by omega);have hd:=hb i_5 (Nat.le_refl _) hi; (have g19:dm (nth l i_5).Blocks.length 8:=by rw [eZ hi];exact g7 _ (List.getElem_mem hi));haveI:=hd.oneC;refine lP ?_;refine dz (T.region ?_);refine kJ ?_;refine cS (dL 1 (i:=i_5) rfl rfl rfl rfl rfl a7) ?_;refine cS (mA 1 rfl rfl rfl a7) ?_;refine cS (eg 1 rfl rfl rfl a7 (zgW hi a8 rfl)) ?_;refine cX (jC rfl rfl rfl (fun w hw=>zeT _ w (hw.fr (i:=2) rfl) (nth l i_5).Blocks (nth us i_5) hd g19)) ?_;rintro v19 _ ⟨_,_,rfl,rfl⟩;refine lz ?_;intro iv19 hmv19;refine cS (dL 2 (i:=i_5) rfl rfl rfl rfl rfl a7) ?_;refine cS (mA 2 rfl rfl rfl a7) ?_;refine dM (ez 2 (k':=l.length) (l':=(gL l (us.set i_5 v19)).flatten) rfl rfl rfl rfl a7 (by rw [zkq];omega) (zir hi a7) rfl) ?_;refine ee ?_;refine gX (ι:=Unit) (φ:=fun _=>True) (hs':=fun _=>[.bag (mu 3 (i_5+1) l (us.set i_5 v19)), .sl v6_ 57 4 l.length (gL l (us.set i_5 v19)).flatten, .fr F1]) (fun w hw=>⟨(),trivial,?_⟩) (fun _ _=>?_)
    ·rw [←zjE a7];exact hw.intoB (i:=0) rfl
    refine jg ?_;refine K.next (i_5+1,us.set i_5 v19) ⟨by dsimp only;omega,by rw [List.length_set];exact hul,fun j h1 h2=>?_⟩ b5 (.c (.c (.c .nil))) (List.Sublist.refl _);dsimp only at h1 ⊢;rw [iW a7,if_neg a7];exact hb j a7 h2
   ·have p6:=of_decide_eq_false h6; (have hi:i_5=l.length:=by omega);refine eN ?_;subst hi;refine K.pick [1,0,2] rfl a8 ?_;exact cY us trivial (.c .nil) (List.Sublist.refl _)
 ·rintro us _;refine q3S ?_;exact eQ rfl rfl (fun w' hw=>⟨(v6_,us),trivial,rfl,hw.toBd.sub Sx⟩)
theorem zhx (F0:Frz)(w:World)(hF0:F0.At w)(l:List GBidder)(vl:Value)(cl:List (List Value))(hl:SlD cR F0 vl 4 cl l)(hr:jy l):Calls Tryz.prog 54 #[vl] w fun e w'=>∃(y:Value×List (List Value)) (G:Frz),SlD cR G y.1 4 y.2 l∧e= .returned y.1∧Fx F0 w G w':=by
 refine (zhi F0 w hF0 l vl cl hl hr).mono ?_;rintro e w' ⟨⟨v',us⟩,_,rfl,hw⟩;obtain ⟨G,h1,h2,h3⟩:=Fx.hp hF0 hw;have hok:=hw.own (d9 57 3 v' us l) b6;exact ⟨(v',gL l us),G,zg9 hok h2 (fun g hg=>h3 _ b6 g hg (zkx hok hg)),rfl,h1⟩
open Go.ChangeMaps (setBlock)
def jm {α:Type}(f:Int→Option α)(k:Int)(v:α):Int→Option α:=fun j=>bif decide (j=k) then some v else f j
structure MapE {α:Type} (enc:α→Value) (es:Array MapEntry) (clock:Nat) (f:Int→Option α):Prop where
 st:MapKept.Stamped es clock
 ent:∀e∈es.toList,∃k v,e.key= .int .i64 k∧e.val=enc v∧f k=some v
 all:∀k v,f k=some v→∃e∈es.toList,e.key= .int .i64 k
section
variable {P:Program}{α:Type}{enc:α→Value}{es:Array MapEntry}{clock:Nat}{f:Int→Option α}{w:World}{g:Nat}{mt kt et:TypeId}{z:α}
theorem MapE.isKey (h:MapE enc es clock f):∀e∈es.toList,MapKept.IsKey (.int .i64) e.key:=fun e he=>by
 obtain ⟨k,v,h1,_⟩:=h.ent e he;rw [h1];rfl
theorem MapE.find (h:MapE enc es clock f)(k:Int):(Instr.findNow (.int .i64) (.int .i64 k) es.toList 0=some none∧f k=none∧∀e∈es.toList,e.key≠ .int .i64 k)∨∃j e v,Instr.findNow (.int .i64) (.int .i64 k) es.toList 0=some (some (j,enc v))∧es[j]?=some e∧e.key= .int .i64 k∧e.val=enc v∧f k=some v:=by
 rcases MapKept.findNow_spec (d:= .int .i64) (k:= .int .i64 k) rfl es.toList 0 h.isKey with ⟨h1,h2⟩|⟨j,e,h1,h2,h3⟩
 ·refine .inl ⟨h1,?_,h2⟩
  cases hf:f k with
  |none=>rfl
  |some v=>obtain ⟨e,he,hek⟩:=h.all k v hf;exact absurd hek (h2 e he)
 ·obtain ⟨k',v,h4,h5,h6⟩:=h.ent e (List.mem_of_getElem? h2);rw [h3] at h4; (obtain rfl:k=k':=by injection h4);exact .inr ⟨j,e,v,by rw [h1,Nat.zero_add,h5],by simpa using h2,h3,h5,h6⟩
class TyMi (P:Program) (mt:TypeId) (et:outParam TypeId) {α:outParam Type} (enc:outParam (α→Value)) (z:outParam α):Prop where
 h:∃kt,P.underlying mt=some (.map kt et)∧P.underlying kt=some (.int .i64)∧∀w,(zeroValue et).run P w= .ok (enc z) w
theorem zjI [hT:TyMi P mt et enc z](hb:w.heap[g]?=some (.map es clock))(h:MapE enc es clock f)(k:Int)(c:Bool):
  (Instr.lookup mt (.map (some g)) (.int .i64 k) c).run P w= .ok (if c then .tuple #[enc ((f k).getD z), .bool (f k).isSome] else enc ((f k).getD z)) w:=by
 obtain ⟨kt,hm,hd,hz⟩:=hT.h;have hk:∀b,(Instr.checkKey b 10000 kt (.int .i64 k)).run P w= .ok () w:=fun b=>MapKept.run_checkKey hd (d:= .int .i64) (k:= .int .i64 k) rfl b 9999;rcases h.find k with ⟨h1,h2,_⟩|⟨j,e,v,h1,_,_,_,h2⟩
 ·cases c <;> simp [Instr.lookup,run_underlying hm,MapKept.run_getObj_map hb,hk,MapKept.run_findKey hd h1,hz,h2,Result.andThen]
 ·cases c <;> simp [Instr.lookup,run_underlying hm,MapKept.run_getObj_map hb,hk,MapKept.run_findKey hd h1,h2,Result.andThen]
theorem zgm (f:Int→Option α)(k:Int)(v:α):jm f k v k=some v:=by simp [jm]
theorem zeE (f:Int→Option α){k j:Int}(v:α)(h:j≠k):jm f k v j=f j:=by simp [jm,h]
theorem zj4 [hT:TyMi P mt et enc z](hb:w.heap[g]?=some (.map es clock))(h:MapE enc es clock f)(k:Int)(v:α):
  ∃es' clock',(Instr.mapUpdate mt (.map (some g)) (.int .i64 k) (enc v)).run P w= .ok () { w with heap:=w.heap.setIfInBounds g (.map es' clock') }∧MapE enc es' clock' (jm f k v):=by
 obtain ⟨kt,hm,hd,hz⟩:=hT.h;have hk:∀b,(Instr.checkKey b 10000 kt (.int .i64 k)).run P w= .ok () w:=fun b=>MapKept.run_checkKey hd (d:= .int .i64) (k:= .int .i64 k) rfl b 9999;rcases h.find k with ⟨h1,h2,h3⟩|⟨j,e,v0,h1,hj,h3,h4,h2⟩
 ·refine ⟨es.push { key:= .int .i64 k,val:=enc v,born:=clock },clock+1,?_,MapKept.stamped_push h.st h3,fun e he=>?_,fun j u hj=>?_⟩
  ·simp [Instr.mapUpdate,run_underlying hm,MapKept.run_getObj_map hb,hk,MapKept.run_findKey hd h1,MapKept.run_setObj_map _ hb,Result.andThen]
  ·rw [Array.toList_push] at he;rcases List.mem_append.1 he with he|he
   ·obtain ⟨i,u,h5,h6,h7⟩:=h.ent e he;exact ⟨i,u,h5,h6,by rw [zeE f v (fun q=>h3 e he (by rw [h5,q]))];exact h7⟩
   ·simp at he;subst he;exact ⟨k,v,rfl,rfl,zgm f k v⟩
  ·rw [Array.toList_push];by_cases hjk:j=k
   ·exact ⟨_,List.mem_append.2 (.inr (List.mem_singleton.2 rfl)),by rw [hjk]⟩
   ·rw [zeE f v hjk] at hj;obtain ⟨e,he,hek⟩:=h.all j u hj;exact ⟨e,by simp [he],hek⟩
 ·have hget:∀i,(es.modify j fun e=>{ e with key:= .int .i64 k,val:=enc v }).toList[i]?=if j=i then es[i]?.map (fun e=>{ e with key:= .int .i64 k,val:=enc v }) else es[i]?:=fun i=>by
   rw [Array.getElem?_toList,Array.getElem?_modify]
  have hkeys:∀(a b:Nat) (e1 e2:MapEntry),es[a]?=some e1→es[b]?=some e2→e1.key=e2.key→a=b:=fun a b e1 e2 ha hb hab=>by
   have hn:=h.st.2.2; (have ha':(es.toList.map (·.key))[a]?=some e1.key:=by rw [List.getElem?_map,Array.getElem?_toList,ha];rfl); (have hb':(es.toList.map (·.key))[b]?=some e2.key:=by rw [List.getElem?_map,Array.getElem?_toList,hb];rfl);have la:=(List.getElem?_eq_some_iff.1 ha').1;exact (List.getElem?_inj la hn).1 (by rw [ha',hb',hab])
  refine ⟨es.modify j fun e=>{ e with key:= .int .i64 k,val:=enc v },clock,?_,MapKept.stamped_modify h.st j _ (fun _ _=>rfl) (fun e' _ he'=>by rw [hj] at he';cases he';exact h3.symm),fun e' he'=>?_,fun i u hi=>?_⟩
  ·simp [Instr.mapUpdate,run_underlying hm,MapKept.run_getObj_map hb,hk,MapKept.run_findKey hd h1,hj,h3,MapKept.run_keyThatStays (d:= .int .i64) (k:= .int .i64 k) rfl,MapKept.run_setObj_map _ hb,Result.andThen]
  ·obtain ⟨i,hi⟩:=List.mem_iff_getElem?.1 he';rw [hget] at hi
   split at hi
   ·rw [Option.map_eq_some_iff] at hi;obtain ⟨e0,_,rfl⟩:=hi;exact ⟨k,v,rfl,rfl,zgm f k v⟩
   ·rename_i hne;obtain ⟨a,u,h5,h6,h7⟩:=h.ent e' (List.mem_of_getElem? (by rw [Array.getElem?_toList];exact hi));refine ⟨a,u,h5,h6,?_⟩;rw [zeE f v (fun q=>hne (hkeys j i e e' hj hi (by rw [h3,h5,q])))];exact h7
  ·by_cases hik:i=k
   ·exact ⟨{ e with key:= .int .i64 k,val:=enc v },List.mem_iff_getElem?.2 ⟨j,by rw [hget,if_pos rfl,hj];rfl⟩,by rw [hik]⟩
   ·rw [zeE f v hik] at hi;obtain ⟨e0,he0,hk0⟩:=h.all i u hi;obtain ⟨a,ha⟩:=List.mem_iff_getElem?.1 he0;by_cases hja:j=a
    ·subst hja;rw [Array.getElem?_toList,hj] at ha;obtain rfl:=Option.some.inj ha;rw [h3] at hk0;exact absurd (by injection hk0 with _ q;exact q.symm) hik
    ·exact ⟨e0,List.mem_iff_getElem?.2 ⟨a,by rw [hget,if_neg hja,←Array.getElem?_toList];exact ha⟩,hk0⟩
end
@[irreducible] def Ent.mi {α:Type} (enc:α→Value) (g:Nat) (f:Int→Option α):Ent where
 fp:=(· =g)
 ok w:=∃es clock,w.heap[g]?=some (.map es clock)∧MapE enc es clock f
 loc h k:=by obtain ⟨es,cl,h1,h2⟩:=k;exact ⟨es,cl,(h g rfl).trans h1,h2⟩
 lt h k e:=by obtain ⟨es,cl,h1,h2⟩:=h;subst e;exact (Array.getElem?_eq_some_iff.1 h1).1
 nd h k e c:=by obtain ⟨es,cl,h1,h2⟩:=h;subst e;rw [h1];simp
theorem gN {α:Type}{enc:α→Value}{g:Nat}{f:Int→Option α}{k:Nat}:(Ent.mi enc g f).fp k↔k=g:=by unfold Ent.mi;exact Iff.rfl
theorem gP {α:Type}{enc:α→Value}{g:Nat}{f:Int→Option α}{w:World}:(Ent.mi enc g f).ok w↔∃es clock,w.heap[g]?=some (.map es clock)∧MapE enc es clock f:=by unfold Ent.mi;exact Iff.rfl
section
variable {P:Program}{n:Nat}{B D:World}{M:Nat→Prop}{F:Fence}[hF:Calm F]{Q:Exit→Act→World→Prop}{fs:eb}{hs:HS}{ops:Array Oper}{rest:List Oper}{o:Oper}{α:Type}{enc:α→Value}{f:Int→Option α}{g r:Nat}{mt kt et:TypeId}{z:α}
theorem Ew.cm [hT:TyMi P mt et enc z]{x:Operand}{k:Int}(ho:o.op= .makeMap mt (some x))(hx:ev fs x=some (.int .i64 k)):Ew P n B M fs hs o (fun v hs'=>∃g,v= .map (some g)∧hs'= .mi enc g (fun _=>none) :: hs):=fQ fun a w ha hp=>by
 obtain ⟨kt,hm,hd,hz⟩:=hT.h;refine ⟨_,w.alloc (.map #[] 0),_,?_,Kp.alloc w _,hp.fresh ((Below.refl _ _).alloc (Nat.le_refl _) _) (gP.2 ⟨#[],0,(MapKept.heap_alloc w _).1,MapKept.stamped_empty 0,fun e he=>by simp at he,fun c v hc=>by cases hc⟩) (fun g hg=>by rw [gN.1 hg];exact Nat.le_refl _),w.heap.size,rfl,rfl⟩;unfold execOp;have h1:(asIntOf (Value.int .i64 k)).run P w= .ok (.i64,k) w:=rfl;simp [ho,ha.ev hx,Instr.makeMap,run_underlying hm,asInt,h1,Result.andThen]
theorem Ew.cB [hT:TyMi P mt et enc z](i:Nat){x y u:Operand}{k:Int}{v:α}{hs':HS}(ho:o.op= .mapUpdate mt x y u)(hx:ev fs x=some (.map (some g)))(hy:ev fs y=some (.int .i64 k))(hu:ev fs u=some (enc v))(hi:hs[i]?=some (.mi enc g f))[hH:SetAt hs i (.mi enc g (jm f k v)) hs']:Ew P n B M fs hs o (fun v hs''=>v=undef∧hs''=hs'):=jD fun a w ha hp=>by
 obtain ⟨es,clock,hb,hS⟩:=gP.1 (hp.get hi);obtain ⟨es',cl',h1,h2⟩:=zj4 (P:=P) (mt:=mt) hb hS k v;have hlt:=(Array.getElem?_eq_some_iff.1 hb).1
 have hon:Only (· =g) w { w with heap:=w.heap.setIfInBounds g (.map es' cl') }:=⟨rfl,rfl,rfl,by simp,fun k hk hn=>by
  simp only [Array.getElem?_setIfInBounds]
  rw [if_neg (fun e=>hn e.symm)]⟩
 refine ⟨_,hs',?_,Kp.only hon (fun k e c=>by subst e;rw [hb];simp),?_,rfl,rfl⟩
 ·unfold execOp;simp [ho,ha.ev hx,ha.ev hy,ha.ev hu,h1,Result.andThen]
 ·rw [←hH.h];exact hp.updAt hi hon (fun k _ hk=>gN.2 hk) (gP.2 ⟨es',cl',by simp [hlt],h2⟩) (fun k hk=> .inl (gN.2 (gN.1 hk)))
theorem Yv.cC [hT:TyMi P mt et enc z](i:Nat){x y:Operand}{k:Int}(ho:o.op= .lookup mt x y false)(hx:ev fs x=some (.map (some g)))(hy:ev fs y=some (.int .i64 k))(hi:hs[i]?=some (.mi enc g f)):Yv P n B M fs hs o (enc ((f k).getD z)):=fun a w ha hp=>by
 obtain ⟨es,clock,hb,hS⟩:=gP.1 (hp.get hi);unfold execOp;simp [ho,ha.ev hx,ha.ev hy,zjI (P:=P) (mt:=mt) hb hS k false,Result.andThen]
theorem MapE.inj {es:Array MapEntry}{clock:Nat}(h:MapE enc es clock f){x y:MapEntry}(hx:x∈es.toList)(hy:y∈es.toList):(x.born=y.born↔x.key=y.key):=by
 obtain ⟨a,ha⟩:=List.mem_iff_getElem?.1 hx;obtain ⟨b,hb⟩:=List.mem_iff_getElem?.1 hy
 have key:∀ {β:Type} (q:MapEntry→β),(es.toList.map q).Nodup→q x=q y→a=b:=fun q hn hq=>by
  (have ha':(es.toList.map q)[a]?=some (q x):=by rw [List.getElem?_map,ha];rfl); (have hb':(es.toList.map q)[b]?=some (q y):=by rw [List.getElem?_map,hb];rfl);exact (List.getElem?_inj (List.getElem?_eq_some_iff.1 ha').1 hn).1 (by rw [ha',hb',hq])
 constructor
 ·intro q;have:=key (·.born) h.st.2.1 q;subst this;rw [ha] at hb;cases hb;rfl
 ·intro q;have:=key (·.key) h.st.2.2 q;subst this;rw [ha] at hb;cases hb;rfl
variable {left:Int→Bool}{cnt:Nat}{cur:Option Int}
end
section
variable {α:Type}{f f0:Int→Option α}{p left:Int→Bool}{k:Int}{u:α}
end
instance:TyMi Tryz.prog 217 4 Value.bool false:=⟨⟨3,by kernel_rfl,by kernel_rfl,fun w=>by kernel_rfl⟩⟩
instance:TyMi Tryz.prog 196 3 (Value.int .i64) 0:=⟨⟨3,by kernel_rfl,by kernel_rfl,fun w=>by kernel_rfl⟩⟩
theorem zhX {P:Program}(w:World)(g:Nat):∀(xs:List Int) (off:Nat) (acc:ByteArray),(∀i,i<xs.length→w.cell? ⟨g,off+i,none⟩=some (.int .u8 (nth xs i)))→(Extern.Bytes.loadBytes ⟨g,off,none⟩ xs.length acc).run P w= .ok ⟨acc.data++(u8s xs).toArray⟩ w
 | [],off,acc,_=>by simp [Extern.Bytes.loadBytes,u8s]
 |x :: r,off,acc,h=>by
  have h0:=h 0 b6;have ih:=zhX (P:=P) w g r (off+1) (acc.push x.toNat.toUInt8) (fun i hi=>by rw [Nat.add_assoc,Nat.add_comm 1 i];exact h (i+1) (by simpa using hi));rw [Nat.add_zero] at h0;simp [Extern.Bytes.loadBytes,h0,Addr.add,nth] at ih ⊢;rw [ih];simp [u8s]
theorem zgq {P:Program}{w:World}{F:Frz}{v:Value}{xs:List Int}(hF:F.At w)(h:SlC F v 1 (xs.map (eK .u8))):(Extern.Bytes.bytesOf v).run P w= .ok ⟨(u8s xs).toArray⟩ w:=by
 obtain ⟨A,cap,rfl,h2,h3,h4,h5⟩:=h
 cases xs with
 |nil=>
  cases A with
  |none=>rfl
  |some b=>obtain ⟨g,p,q⟩:=b;rfl
 |cons z r=>
  obtain ⟨g,off,rfl,hg,hc⟩:=h5 b6;have hl:(List.map (eK .u8) (z :: r)).length=(z :: r).length:=List.length_map _;rw [hl]
  have:=zhX (P:=P) w g (z :: r) off .empty (fun i hi=>by
   have h6:=jG hF hg (hc i (by rw [hl];exact hi)) 0 (by rw [zfc hi];simp);rw [zfc hi] at h6;rw [show off+i=off+i*1+0 by omega,h6]
   rfl)
  simp only [Extern.Bytes.bytesOf];rw [this];simp
def zcd (a b:List Int):Int:=Lib.compareBytes (u8s a) (u8s b)
theorem zka {P:Program}{w:World}{F:Frz}{v u:Value}{xs ys:List Int}(hF:F.At w)(h:SlC F v 1 (xs.map (eK .u8)))(k:SlC F u 1 (ys.map (eK .u8))):(Extern.BytealgCompare.compare #[v,u]).run P w= .ok (.int .i64 (zcd xs ys)) w:=by
 change Sem.run P (do pure (goInt (Extern.BytealgCompare.cmp (← Extern.Bytes.bytesOf v) (← Extern.Bytes.bytesOf u)))) w=_;simp only [Sem.run_bind,Sem.run_pure,Result.andThen,zgq hF h,zgq hF k];rw [Lib.cmp_eq]
 rfl
theorem zgM (F0:Frz)(w:World)(hF0:F0.At w)(a:List Int)(va:Value)(ha:SlC F0 va 1 (a.map (eK .u8)))(b:List Int)(vb:Value)(hb:SlC F0 vb 1 (b.map (eK .u8))):Calls Tryz.prog 148 #[va,vb] w fun e w'=>e= .returned (.int .i64 (zcd a b))∧Below w.heap.size w w':=by
 haveI:=ha.oneC;haveI:=hb.oneC;obtain ⟨S0,F1,rfl,hS0,hp0⟩:=eo hF0;refine dQ Tryz.func148 rfl rfl rfl hp0 ?_;refine eV ?_;refine lV ?_;refine cS (v:= .int .i64 (zcd a b)) (fun f w ha' hw=>?_) ?_
 ·unfold execOp;have h1:=ha'.ev (x:= .tmp 5) rfl;have h2:=ha'.ev (x:= .tmp 6) rfl;simp only [Act.eval] at h1 h2;simp [resolve,invoke,Deferred.ofValue,Act.eval,h1,h2];rw [run_callFunc_extern (by rfl) b0 b0 b0 (e:=Extern.BytealgCompare.compare) b0,zka (hw.fr (i:=0) rfl) ha hb]
  rfl
 refine iw ?_;exact d8
end Go.Proofs.YtmnjbhkcfghebaaGreatDoor
