/- P5 P6 P7 P8 P9 J1 J2 Ar Gl: shortened and put together by squeeze.py. -/
import Derived.Test.YtmnjbhkcfghebaaGreatDoorQ04
import Derived.Laws.CopyRow
set_option maxRecDepth 100000
set_option maxHeartbeats 4000000
set_option linter.unusedVariables false
set_option linter.unusedSectionVars false
set_option linter.unusedSimpArgs false
namespace Go.Proofs.YtmnjbhkcfghebaaGreatDoor
open Go.RowKit
theorem zgZ {σ ρ:Type}(f:(σ→Option ρ)→σ→Option ρ)(m:Nat)(s:σ):eR f (m+1) s=f (eR f m) s:=rfl
theorem ziX {σ ρ:Type}(f:Nat→(σ→ρ)→σ→ρ)(k:σ→ρ)(m:Nat)(s:σ):fQ f k (m+1) s=f m (fQ f k m) s:=rfl
def val (B:Nat):List Int→Nat
 | []=>0
 |x :: r=>x.toNat+B*val B r
def Dig (B:Nat)(l:List Int):Prop:=∀x∈l,0≤x∧x<(B:Int)
def kA (l:List Int):Prop:=l=[]∨nth l (l.length - 1)≠0
section
variable {B:Nat}{l m:List Int}{x:Int}{i:Nat}
theorem Dig.nil:Dig B []:=fun _ h=>by cases h
theorem Dig.cons (hx:0≤x∧x<(B:Int))(h:Dig B l):Dig B (x :: l):=fun y hy=>by
 rcases List.mem_cons.1 hy with rfl|hy
 ·exact hx
 ·exact h y hy
theorem Dig.tail (h:Dig B (x :: l)):Dig B l:=fun y hy=>h y (List.mem_cons_of_mem _ hy)
theorem Dig.head (h:Dig B (x :: l)):0≤x∧x<(B:Int):=h x List.mem_cons_self
theorem Dig.app (h:Dig B l)(k:Dig B m):Dig B (l++m):=fun y hy=>(List.mem_append.1 hy).elim (h y) (k y)
theorem Dig.take (h:Dig B l)(i:Nat):Dig B (l.take i):=fun y hy=>h y (List.mem_of_mem_take hy)
theorem Dig.drop (h:Dig B l)(i:Nat):Dig B (l.drop i):=fun y hy=>h y (List.mem_of_mem_drop hy)
theorem Dig.nth (h:Dig B l)(hi:i<l.length):0≤nth l i∧nth l i<(B:Int):=by
 rw [fq hi];exact h _ (List.getElem_mem hi)
theorem Dig.set (h:Dig B l)(hx:0≤x∧x<(B:Int)):Dig B (l.set i x):=fun y hy=>by
 rcases List.mem_or_eq_of_mem_set hy with hy|rfl
 ·exact h y hy
 ·exact hx
theorem fN (hB:0<B)(n:Nat):Dig B (List.replicate n 0):=fun y hy=>by
 rw [List.eq_of_mem_replicate hy];omega
theorem zho:val B (l++m)=val B l+B ^ l.length*val B m:=by
 induction l with
 |nil=>simp [val]
 |cons x l ih=>
  rw [List.cons_append,val,val,ih,List.length_cons,Nat.mul_add,Nat.pow_succ,Nat.mul_comm (B ^ l.length) B,Nat.mul_assoc];omega
theorem ji (h:Dig B l):val B l<B ^ l.length:=by
 induction l with
 |nil=>simp [val]
 |cons x l ih=>
  have h1:=h.head;have h2:=ih h.tail;rw [val,List.length_cons,Nat.pow_succ,Nat.mul_comm (B ^ l.length) B];have h3:B* (val B l+1)≤B*B ^ l.length:=Nat.mul_le_mul_left _ h2;rw [Nat.mul_add] at h3;omega
theorem zhm (n:Nat):val B (List.replicate n 0)=0:=by
 induction n with
 |zero=>rfl
 |succ n ih=>rw [List.replicate_succ,val,ih];simp
theorem zfs {y:Int}:nth (y :: l) 0=y:=rfl
theorem zf2 {y:Int}:nth (y :: l) (i+1)=nth l i:=rfl
theorem gL (hi:i<l.length):val B (l.take (i+1))=val B (l.take i)+B ^ i* (nth l i).toNat:=by
 induction l generalizing i with
 |nil=>cases hi
 |cons y l ih=>
  cases i with
  |zero=>simp [val,zfs]
  |succ i=>
   rw [List.take_succ_cons,List.take_succ_cons,val,val,ih (by simpa using hi),zf2,Nat.mul_add,Nat.pow_succ,Nat.mul_comm (B ^ i) B,Nat.mul_assoc];omega
theorem zdA (hi:i<l.length):val B (l.drop i)=(nth l i).toNat+B*val B (l.drop (i+1)):=by
 rw [List.drop_eq_getElem_cons hi,val,fq hi]
theorem zeO (i:Nat)(hi:i≤l.length):val B l=val B (l.take i)+B ^ i*val B (l.drop i):=by
 conv=>lhs;rw [←List.take_append_drop i l]
 rw [zho,List.length_take,Nat.min_eq_left hi]
theorem zio (hi:i<l.length):val B (l.set i x)+B ^ i* (nth l i).toNat=val B l+B ^ i*x.toNat:=by
 induction l generalizing i with
 |nil=>cases hi
 |cons y l ih=>
  cases i with
  |zero=>simp [val,zfs];omega
  |succ i=>
   have:=ih (i:=i) (by simpa using hi);rw [List.set_cons_succ,val,val,zf2,Nat.pow_succ,Nat.mul_comm (B ^ i) B,Nat.mul_assoc,Nat.mul_assoc]; (have h2:B* (val B (l.set i x)+B ^ i* (nth l i).toNat)=B* (val B l+B ^ i*x.toNat):=by rw [this]);rw [Nat.mul_add,Nat.mul_add] at h2;omega
theorem zhe (h:Dig B l)(ht:kA l)(hn:l≠[]):B ^ (l.length - 1)≤val B l:=by
 have hp:0<l.length:=List.length_pos_iff.2 hn;have h1:nth l (l.length - 1)≠0:=ht.elim (fun e=>absurd e hn) id;have h2:=h.nth (i:=l.length - 1) a4;have h3:=gL (B:=B) (l:=l) (i:=l.length - 1) a4;rw [show l.length - 1+1=l.length by omega,List.take_length] at h3;have h4:B ^ (l.length - 1) *1≤B ^ (l.length - 1) * (nth l (l.length - 1)).toNat:=Nat.mul_le_mul_left _ a4;omega
theorem zjf (h:Dig B l)(ht:kA l)(hn:l≠[])(hB:0<B):0<val B l:=Nat.lt_of_lt_of_le (Nat.pow_pos hB) (zhe h ht hn)
theorem zgA (h:Dig B l)(ht:kA l)(hB:0<B):val B l=0↔l=[]:=by
 constructor
 ·intro e;by_cases hn:l=[]
  ·exact hn
  ·have:=zjf h ht hn hB;omega
 ·rintro rfl;rfl
theorem zcI (hl:Dig B l)(hm:Dig B m)(ht:kA m)(h:l.length<m.length):val B l<val B m:=by
 (have hn:m≠[]:=fun e=>by rw [e] at h;cases h)
 have hB:0<B:=by
  have:=hm.nth (i:=0) a4;omega
 exact Nat.lt_of_lt_of_le (Nat.lt_of_lt_of_le (ji hl) (Nat.pow_le_pow_right hB a4)) (zhe hm ht hn)
theorem zh3:∀ {l m:List Int},Dig B l→Dig B m→l.length=m.length→val B l=val B m→l=m
 | [],[],_,_,_,_=>rfl
 |x :: l,y :: m,hl,hm,hn,he=>by
  have h1:=hl.head;have h2:=hm.head;rw [val,val] at he; (have hB:0<B:=by omega);have e1:=congrArg (· % B) he;simp only [Nat.add_mul_mod_self_left] at e1;rw [Nat.mod_eq_of_lt a4,Nat.mod_eq_of_lt a4] at e1;have e2:val B l=val B m:=Nat.eq_of_mul_eq_mul_left hB a4;rw [zh3 hl.tail hm.tail (by simpa using hn) e2,show x=y by omega]
theorem zhL (hl:Dig B l)(hm:Dig B m)(tl:kA l)(tm:kA m)(he:val B l=val B m):l=m:=by
 rcases Nat.lt_trichotomy l.length m.length with h|h|h
 ·have:=zcI hl hm tm h;omega
 ·exact zh3 hl hm h he
 ·have:=zcI hm hl tl h;omega
end
theorem zju (B:Nat):∀(n:Nat) (fuel:Nat) (l:List Int),l.length=n→n+1≤fuel→∃r,jo fuel l=some r∧val B r=val B l∧kA r∧(Dig B l→Dig B r)∧r.length≤l.length:=by
 intro n
 induction n with
 |zero=>
  intro fuel l hl hf;obtain ⟨f,rfl⟩:∃q,fuel=q+1:=⟨fuel - 1,by omega⟩;obtain rfl:=List.eq_nil_of_length_eq_zero hl;exact ⟨[],rfl,rfl, .inl rfl,id,Nat.le_refl _⟩
 |succ n ih=>
  intro fuel l hl hf;obtain ⟨f,rfl⟩:∃q,fuel=q+1:=⟨fuel - 1,by omega⟩;have e:jo (f+1) l=bif ((decide (0<(l.length:Int)))&&(decide ((nth l (((l.length:Int) - 1).toNat))=0))) then jo f (l.take (((l.length:Int) - 1).toNat)) else some l:=rfl;rw [e,decide_eq_true a4,Bool.true_and,show (((l.length:Int) - 1).toNat)=l.length - 1 by omega];by_cases h0:nth l (l.length - 1)=0
  ·rw [decide_eq_true h0,cond_true];obtain ⟨r,h1,h2,h3,h4,h5⟩:=ih f (l.take (l.length - 1)) b8 a4;refine ⟨r,h1,?_,h3,fun hd=>h4 (hd.take _),Nat.le_trans h5 b8⟩;have h6:=gL (B:=B) (l:=l) (i:=l.length - 1) a4;rw [show l.length - 1+1=l.length by omega,List.take_length,h0] at h6;rw [h2,h6];simp
  ·rw [decide_eq_false h0,cond_false];exact ⟨l,rfl,rfl, .inr h0,id,Nat.le_refl _⟩
theorem ziE {B : Nat} {x y : List Int} (hx : Dig B x) (hy : Dig B y) (tx : kA x) (ty : kA y) : za3 x y = if val B x < val B y then -1 else if val B y < val B x then 1 else 0 := by
  unfold za3; by_cases hl : x.length = y.length
  · rw [decide_eq_false a4, cond_false];simp only [dJ]
    have key : ∀ m, m ≤ x.length → fQ (fun (i_5 : Nat) (next4 : Unit → Int) (_ : Unit) =>
        (bif decide ((nth x i_5) < (nth y i_5)) then
          (-1)
          else
          (bif decide ((nth y i_5) < (nth x i_5)) then
            1
            else
            next4 ()))) (fun _ => (0 : Int)) m () = if val B (x.take m) < val B (y.take m) then -1 else if val B (y.take m) < val B (x.take m) then 1 else 0 := by
      intro m
      induction m with
      | zero => intro _; rfl
      | succ m ih =>
        intro hm; have a1 := hx.nth (i := m) a4; have a2 := hy.nth (i := m) a4; have b1 := ji (hx.take m); have b2 := ji (hy.take m); rw [List.length_take, Nat.min_eq_left a4] at b1 b2; rw [ziX, gL a4, gL a4]; (try dsimp only)
        have mono : ∀ p q : Nat, p < q → B ^ m * p + B ^ m ≤ B ^ m * q := fun p q h => by
          have := Nat.mul_le_mul_left (B ^ m) (show p + 1 ≤ q by omega); rw [Nat.mul_add, Nat.mul_one] at this; exact this
        by_cases h1 : nth x m < nth y m
        · have := mono (nth x m).toNat (nth y m).toNat a4; rw [decide_eq_true h1, cond_true, if_pos a4]
        · rw [decide_eq_false h1, cond_false]; by_cases h2 : nth y m < nth x m
          · have := mono (nth y m).toNat (nth x m).toNat a4; rw [decide_eq_true h2, cond_true, if_neg a4, if_pos a4]
          · rw [decide_eq_false h2, cond_false, ih a4, show nth x m = nth y m by omega]; generalize B ^ m * (nth y m).toNat = z
            repeat' split
            all_goals (first | rfl | (exfalso; omega))
    have := key x.length (Nat.le_refl _); rw [List.take_length, hl, List.take_length] at this; rw [← hl] at this; exact this
  · rw [decide_eq_true a4, cond_true]; by_cases h : x.length < y.length
    · rw [decide_eq_true a4, cond_true, if_pos (zcI hx hy ty h)]
    · have := zcI hy hx tx a4; rw [decide_eq_false a4, cond_false, if_neg a4, if_pos this]
theorem zg6 {a d s:Nat}(h:a<2 ^ s):a ||| (d*2 ^ s)=a+d*2 ^ s:=by
 have:=Nat.shiftLeft_add_eq_or_of_lt h d;rw [Nat.shiftLeft_eq] at this;rw [Nat.or_comm,←this];omega
theorem zhf (z:Int)(h:0≤z):IntKind.u32.wrap z=z % 4294967296:=by
 refine q2Z ?_;simp
theorem zdV (z:Int)(h:0≤z∧z<4294967296):IntKind.u32.wrap z=z:=by
 rw [zhf z h.1];omega
theorem zjb {a b:Int}(ha:0≤a∧a<4294967296)(hb:0≤b∧b<4294967296):orK .u32 a b=((a.toNat ||| b.toNat:Nat):Int):=by
 unfold orK; (have e1:(BitVec.ofInt 32 a).toNat=a.toNat:=by rw [BitVec.toNat_ofInt];omega); (have e2:(BitVec.ofInt 32 b).toNat=b.toNat:=by rw [BitVec.toNat_ofInt];omega);rw [show IntKind.u32.bits=32 from rfl,BitVec.toNat_or,e1,e2];have h:a.toNat ||| b.toNat<2 ^ 32:=Nat.or_lt_two_pow a4 a4;rw [zdV _ a4]
@[irreducible] def cW:Nat:=4294967296
theorem hJ:cW=4294967296:=by unfold cW;rfl
theorem gH:0<cW:=by rw [hJ];decide
theorem poly3 (W a a1 a2:Nat):a2+W* (a1+W*a)=(a*W+a1) *W+a2:=by
 rw [Nat.mul_add,Nat.add_mul,Nat.mul_comm W (W*a),Nat.mul_comm W a,Nat.mul_comm W a1];omega
theorem ofI {z:Int}(h:0≤z∧z<18446744073709551616):(BitVec.ofInt 64 z).toNat=z.toNat:=by
 rw [BitVec.toNat_ofInt];omega
theorem jN {z:Int}(h:0≤z∧z<(cW:Int)):(BitVec.ofInt 64 z).toNat=z.toNat:=ofI (by rw [hJ] at h;omega)
theorem ziG {a b:BitVec 64}(h:a.toNat+b.toNat<18446744073709551616):(a+b).toNat=a.toNat+b.toNat:=by
 rw [BitVec.toNat_add];omega
theorem zjo {a b:BitVec 64}(h:a.toNat*b.toNat<18446744073709551616):(a*b).toNat=a.toNat*b.toNat:=by
 rw [BitVec.toNat_mul,Nat.mod_eq_of_lt a4]
theorem zhq (a:BitVec 64)(k:Nat):(a >>> k).toNat=a.toNat / 2 ^ k:=by
 rw [BitVec.toNat_ushiftRight,Nat.shiftRight_eq_div_pow]
theorem zh9 {a b:BitVec 64}(ha:a.toNat<4294967296)(hb:b.toNat<4294967296):((a <<< 32) ||| b).toNat=a.toNat*4294967296+b.toNat:=by
 rw [BitVec.toNat_or,BitVec.toNat_shiftLeft,Nat.shiftLeft_eq,Nat.mod_eq_of_lt a4];have:=zg6 (a:=b.toNat) (d:=a.toNat) (s:=32) a4;rw [Nat.or_comm,this];omega
structure QIn (u v:List Int) (n:Nat):Prop where
 n2:2≤n
 vl:v.length=n
 ul:u.length=n+1
 du:Dig cW u
 dv:Dig cW v
 top:2147483648≤nth v (n - 1)
 lt:val cW u<cW*val cW v
section
variable {u v:List Int}{n:Nat}
theorem QIn.parts (h:QIn u v n):val cW u=val cW (u.take (n - 2))+cW ^ (n - 2) * (((nth u n).toNat*cW+(nth u (n - 1)).toNat) *cW+(nth u (n - 2)).toNat)∧val cW v=val cW (v.take (n - 2))+cW ^ (n - 2) * ((nth v (n - 1)).toNat*cW+(nth v (n - 2)).toNat)∧val cW (u.take (n - 2))<cW ^ (n - 2)∧val cW (v.take (n - 2))<cW ^ (n - 2):=by
 have:=h.n2;have hu:=h.ul;have hv:=h.vl;have b1:=ji (h.du.take (n - 2));have b2:=ji (h.dv.take (n - 2));rw [List.length_take,Nat.min_eq_left a4] at b1 b2;refine ⟨?_,?_,b1,b2⟩
 ·rw [zeO (n - 2) a4,zdA a4,show n - 2+1=n - 1 by omega,zdA a4,show n - 1+1=n by omega,zdA a4,List.drop_eq_nil_of_le a4];simp only [val,Nat.mul_zero,Nat.add_zero];rw [poly3]
 ·rw [zeO (n - 2) a4,zdA a4,show n - 2+1=n - 1 by omega,zdA a4,show n - 1+1=n by omega,List.drop_eq_nil_of_le a4];simp only [val,Nat.mul_zero,Nat.add_zero];rw [Nat.mul_comm (nth v (n - 1)).toNat cW,Nat.add_comm (nth v (n - 2)).toNat]
theorem QIn.lo (h:QIn u v n){Q:Nat}(hQ:Q*val cW v≤val cW u):Q* ((nth v (n - 1)).toNat*cW+(nth v (n - 2)).toNat)≤((nth u n).toNat*cW+(nth u (n - 1)).toNat) *cW+(nth u (n - 2)).toNat:=by
 obtain ⟨h1,h2,h3,h4⟩:=h.parts;generalize ((nth u n).toNat*cW+(nth u (n - 1)).toNat) *cW+(nth u (n - 2)).toNat=T at *;generalize (nth v (n - 1)).toNat*cW+(nth v (n - 2)).toNat=W at *;generalize cW ^ (n - 2)=b at *; (have hb:0<b:=by omega);rw [h1,h2,Nat.mul_add] at hQ; (have e:Q* (b*W)=b* (Q*W):=by rw [←Nat.mul_assoc,Nat.mul_comm Q b,Nat.mul_assoc]);rw [e] at hQ;refine Nat.le_of_lt_succ (Nat.lt_of_mul_lt_mul_left (a:=b) ?_);rw [Nat.succ_eq_add_one,Nat.mul_add,Nat.mul_one];omega
theorem QIn.hi (h : QIn u v n) {q : Nat} (hq : q < cW) (ht : q * ((nth v (n - 1)).toNat * cW + (nth v (n - 2)).toNat) ≤ ((nth u n).toNat * cW + (nth u (n - 1)).toNat) * cW + (nth u (n - 2)).toNat) : q ≤ val cW u / val cW v + 1 := by
  obtain ⟨h1, h2, h3, h4⟩ := h.parts; have htop := h.top
  have hW : cW ≤ (nth v (n - 1)).toNat * cW + (nth v (n - 2)).toNat := by
    have := Nat.mul_le_mul_right cW (show 1 ≤ (nth v (n - 1)).toNat by omega); omega
  generalize ((nth u n).toNat * cW + (nth u (n - 1)).toNat) * cW + (nth u (n - 2)).toNat = T at *; generalize (nth v (n - 1)).toNat * cW + (nth v (n - 2)).toNat = W at *; generalize cW ^ (n - 2) = b at *; (have hb : 0 < b := by omega)
  have hV : 0 < val cW v := by
    have := Nat.mul_le_mul hb hW; have := gH; omega
  refine Nat.le_of_not_lt fun hlt => ?_; have hlt2 := Nat.lt_mul_div_succ (val cW u) hV; generalize val cW u / val cW v = Q at hlt hlt2
  -- U < (Q + 1) * V ≤ (q - 1) * V
  have h5 : val cW v * (Q + 1) ≤ val cW v * (q - 1) := Nat.mul_le_mul_left _ a4; (have h6 : val cW v ≤ b * W + b := by omega); have h7 : val cW v * (q - 1) ≤ (b * W + b) * (q - 1) := Nat.mul_le_mul_right _ h6; have h8 : b * (q * W) ≤ b * T := Nat.mul_le_mul_left _ ht; (have h9 : (b * W + b) * (q - 1) = b * ((W + 1) * (q - 1)) := by rw [← Nat.mul_assoc, Nat.mul_add, Nat.mul_one])
  have h10 : b * (q * W) < b * ((W + 1) * (q - 1)) := by
    rw [← h9]; exact Nat.lt_of_le_of_lt (Nat.le_trans h8 (by rw [h1]; exact Nat.le_add_left _ _)) (Nat.lt_of_lt_of_le hlt2 (Nat.le_trans h5 h7))
  have h11 := Nat.lt_of_mul_lt_mul_left h10; obtain ⟨p, rfl⟩ : ∃ p, q = p + 1 := ⟨q - 1, by omega⟩; rw [show p + 1 - 1 = p by omega, Nat.add_mul, Nat.add_mul, Nat.mul_comm p W] at h11; omega
theorem QIn.topu (h : QIn u v n) : (nth u n).toNat ≤ (nth v (n - 1)).toNat := by
  obtain ⟨h1, h2, h3, h4⟩ := h.parts; have hlt := h.lt; have d1 := h.dv.nth (i := n - 2) (by have := h.n2; have := h.vl; omega); refine Nat.le_of_not_lt fun hc => ?_; rw [h1, h2] at hlt; generalize cW ^ (n - 2) = b at *; generalize (nth u n).toNat = a at *; generalize (nth v (n - 1)).toNat = c at *; generalize (nth u (n - 1)).toNat = a1 at *; generalize (nth u (n - 2)).toNat = a2 at *; generalize hv2 : (nth v (n - 2)).toNat = c2 at *; (have hc2 : c2 + 1 ≤ cW := by omega)
  -- V < b * (c * W + W) ≤ b * a * W
  have h5 : b * (c * cW + c2) + b ≤ b * (c * cW + cW) := by
    have := Nat.mul_le_mul_left b (show c * cW + c2 + 1 ≤ c * cW + cW by omega); rw [Nat.mul_add b _ 1, Nat.mul_one] at this; exact this
  have h6 : b * (c * cW + cW) ≤ b * (a * cW) := Nat.mul_le_mul_left _ (by
    have := Nat.mul_le_mul_right cW (show c + 1 ≤ a by omega)
    rw [Nat.add_mul, Nat.one_mul] at this; exact this)
  have h7 : cW * (val cW (v.take (n - 2)) + b * (c * cW + c2)) ≤ cW * (b * (a * cW)) := Nat.mul_le_mul_left _ a4; (have h8 : cW * (b * (a * cW)) = b * (a * cW * cW) := by rw [Nat.mul_comm, Nat.mul_assoc]); have h9 : b * (a * cW * cW) ≤ b * ((a * cW + a1) * cW + a2) := Nat.mul_le_mul_left _ (by rw [Nat.add_mul]; omega); omega
end
def zf1 (u v_ : List Int) (q_1 : BitVec 64) : Option (Int × List Int) :=
      dG (fun (i_20 : Nat) (next19 : (BitVec 64 × BitVec 64 × List Int) → Option (Int × List Int)) (s19 : BitVec 64 × BitVec 64 × List Int) =>
        dg (0 ≤ (i_20 : Int) ∧ (i_20 : Int) < (s19.2.2.length : Int)) <|
        next19 (((((BitVec.ofInt 64 (nth s19.2.2 i_20)) - (BitVec.ofInt 64 (IntKind.u32.wrap ((s19.2.1 + (q_1 * (BitVec.ofInt 64 (nth v_ i_20)))).toNat : Int)))) - s19.1) >>> 63), ((s19.2.1 + (q_1 * (BitVec.ofInt 64 (nth v_ i_20)))) >>> 32), (s19.2.2.set i_20 (IntKind.u32.wrap ((((BitVec.ofInt 64 (nth s19.2.2 i_20)) - (BitVec.ofInt 64 (IntKind.u32.wrap ((s19.2.1 + (q_1 * (BitVec.ofInt 64 (nth v_ i_20)))).toNat : Int)))) - s19.1).toNat : Int)))))
      (fun (s15 : BitVec 64 × BitVec 64 × List Int) =>
      dg (0 ≤ (v_.length : Int) ∧ (v_.length : Int) < (s15.2.2.length : Int)) <|
        (bif decide (¬ (((((BitVec.ofInt 64 (nth s15.2.2 v_.length)) - s15.2.1) - s15.1) >>> 63).toNat : Int) = ((0#64).toNat : Int)) then
            dG (fun (i_32 : Nat) (next31 : (BitVec 64 × List Int) → Option (Int × List Int)) (s31 : BitVec 64 × List Int) =>
              dg (0 ≤ (i_32 : Int) ∧ (i_32 : Int) < (s31.2.length : Int)) <|
              next31 (((s31.1 + ((BitVec.ofInt 64 (nth s31.2 i_32)) + (BitVec.ofInt 64 (nth v_ i_32)))) >>> 32), (s31.2.set i_32 (IntKind.u32.wrap ((s31.1 + ((BitVec.ofInt 64 (nth s31.2 i_32)) + (BitVec.ofInt 64 (nth v_ i_32)))).toNat : Int)))))
            (fun (s28 : BitVec 64 × List Int) =>
            dg (0 ≤ (v_.length : Int) ∧ (v_.length : Int) < (s28.2.length : Int)) <|
            some ((IntKind.u32.wrap ((q_1 - (1#64)).toNat : Int)), (s28.2.set v_.length (IntKind.u32.wrap ((nth s28.2 v_.length) + (IntKind.u32.wrap (s28.1.toNat : Int))))))) (v_.length - 0) 0 (0#64, (s15.2.2.set v_.length (IntKind.u32.wrap ((((BitVec.ofInt 64 (nth s15.2.2 v_.length)) - s15.2.1) - s15.1).toNat : Int))))
          else
          some ((IntKind.u32.wrap (q_1.toNat : Int)), (s15.2.2.set v_.length (IntKind.u32.wrap ((((BitVec.ofInt 64 (nth s15.2.2 v_.length)) - s15.2.1) - s15.1).toNat : Int)))))) (v_.length - 0) 0 (0#64, 0#64, u)
theorem zhO (a b:BitVec 64):(a - b).toNat=(18446744073709551616 - b.toNat+a.toNat) % 18446744073709551616:=BitVec.toNat_sub a b
theorem ziM {x : Int} {lo : Nat} {bb : BitVec 64} (hx : 0 ≤ x ∧ x < (cW : Int)) (hlo : lo < cW) (hb : bb.toNat ≤ 1) :
    ∃ b' w : Nat, (((BitVec.ofInt 64 x - BitVec.ofInt 64 (lo : Int)) - bb) >>> 63).toNat = b' ∧ IntKind.u32.wrap (((BitVec.ofInt 64 x - BitVec.ofInt 64 (lo : Int)) - bb).toNat : Int) = (w : Int) ∧ x.toNat + cW * b' = w + lo + bb.toNat ∧ w < cW ∧ b' ≤ 1 := by
  have e1 : (BitVec.ofInt 64 x).toNat = x.toNat := jN hx; (have e2 : (BitVec.ofInt 64 (lo : Int)).toNat = lo := by rw [jN a4]; omega); rw [hJ] at *
  have ed : ((BitVec.ofInt 64 x - BitVec.ofInt 64 (lo : Int)) - bb).toNat = if lo + bb.toNat ≤ x.toNat then x.toNat - lo - bb.toNat else 18446744073709551616 + x.toNat - lo - bb.toNat := by
    rw [zhO, zhO, e1, e2]
    split <;> omega
  refine ⟨_, (((BitVec.ofInt 64 x - BitVec.ofInt 64 (lo : Int)) - bb).toNat % 4294967296), rfl, ?_, ?_, ?_, ?_⟩
  · rw [zhf _ a4]; omega
  · rw [zhq, ed]; split <;> omega
  · omega
  · rw [zhq, ed]; split <;> omega
section
variable {u v:List Int}{n:Nat}
structure MI (u v:List Int) (n q i:Nat) (s:BitVec 64×BitVec 64×List Int):Prop where
 b:s.1.toNat≤1
 c:s.2.1.toNat<cW
 len:s.2.2.length=n+1
 dig:Dig cW s.2.2
 rest:∀j,i≤j→j≤n→nth s.2.2 j=nth u j
 eq:val cW (u.take i)+cW ^ i* (s.1.toNat+s.2.1.toNat)=val cW (s.2.2.take i)+q*val cW (v.take i)
theorem zdD {l:List Int}{i:Nat}{x:Int}:(l.set i x).take i=l.take i:=by
 rw [List.take_set_of_le (Nat.le_refl i)]
theorem jR {l:List Int}{i:Nat}{x:Int}(h:i<l.length):nth (l.set i x) i=x:=by
 unfold nth;rw [List.getD_eq_getElem?_getD,List.getElem?_set_self h];rfl
theorem zek {l:List Int}{i j:Nat}{x:Int}(h:i≠j):nth (l.set i x) j=nth l j:=by
 unfold nth;rw [List.getD_eq_getElem?_getD,List.getD_eq_getElem?_getD,List.getElem?_set_ne h]
theorem iI (m:Nat):IntKind.u32.wrap (m:Int)=((m % cW:Nat):Int):=by
 rw [zhf _ a4,hJ];omega
theorem MI.step (h : QIn u v n) {q : BitVec 64} (hq : q.toNat < cW) {i : Nat} (hi : i < n) {s : BitVec 64 × BitVec 64 × List Int} (k : MI u v n q.toNat i s) :
    MI u v n q.toNat (i + 1) (((((BitVec.ofInt 64 (nth s.2.2 i)) - (BitVec.ofInt 64 (IntKind.u32.wrap ((s.2.1 + (q * (BitVec.ofInt 64 (nth v i)))).toNat : Int)))) - s.1) >>> 63), ((s.2.1 + (q * (BitVec.ofInt 64 (nth v i)))) >>> 32), (s.2.2.set i (IntKind.u32.wrap ((((BitVec.ofInt 64 (nth s.2.2 i)) - (BitVec.ofInt 64 (IntKind.u32.wrap ((s.2.1 + (q * (BitVec.ofInt 64 (nth v i)))).toNat : Int)))) - s.1).toNat : Int)))) := by
  obtain ⟨kb, kc, kl, kd, kr, ke⟩ := k; have dv := h.dv.nth (i := i) (by have := h.vl; omega); have dx := kd.nth (i := i) a4; have ev : (BitVec.ofInt 64 (nth v i)).toNat = (nth v i).toNat := jN dv
  have hmul : q.toNat * (nth v i).toNat ≤ 18446744065119617025 := by
    have := Nat.mul_le_mul (show q.toNat ≤ 4294967295 by rw [hJ] at hq; omega) (show (nth v i).toNat ≤ 4294967295 by rw [hJ] at dv; omega); omega
  have em : (s.2.1 + (q * (BitVec.ofInt 64 (nth v i)))).toNat = s.2.1.toNat + q.toNat * (nth v i).toNat := by
    (have e1 : (q * (BitVec.ofInt 64 (nth v i))).toNat = q.toNat * (nth v i).toNat := by rw [zjo (by rw [ev]; omega), ev]); rw [ziG (by rw [e1]; rw [hJ] at kc; omega), e1]
  rw [em, iI]; generalize hm : s.2.1.toNat + q.toNat * (nth v i).toNat = m at *; obtain ⟨b', w, h1, h2, h3, h4, h5⟩ := ziM (x := nth s.2.2 i) (lo := m % cW) (bb := s.1) dx (Nat.mod_lt _ gH) kb; (have ec : ((s.2.1 + (q * (BitVec.ofInt 64 (nth v i)))) >>> 32).toNat = m / cW := by rw [zhq, em, hJ])
  have hm2 : m / cW < cW := by
    rw [Nat.div_lt_iff_lt_mul gH, hJ]; rw [hJ] at kc; omega
  refine ⟨by dsimp only; rw [h1]; exact h5, by dsimp only; rw [ec]; exact hm2, by dsimp only; rw [List.length_set]; exact kl, ?_, fun j hj hjn => ?_, ?_⟩
  · dsimp only; rw [h2]; exact kd.set a4
  · dsimp only; rw [zek a4]; exact kr j a4 hjn
  · dsimp only; rw [h1, ec, h2, gL (by have := h.ul; omega), gL b3, zdD, jR a4, gL (by have := h.vl; omega), ← kr i (Nat.le_refl i) a4]; have hdm := Nat.div_add_mod m cW
    -- multiplied by the weight of the word
    (have e1 : cW ^ i * ((nth s.2.2 i).toNat + cW * b') = cW ^ i * (w + m % cW + s.1.toNat) := by rw [h3]); (have e2 : cW ^ i * (cW * (m / cW) + m % cW) = cW ^ i * m := by rw [hdm])
    have e3 : cW ^ i * m = cW ^ i * s.2.1.toNat + q.toNat * (cW ^ i * (nth v i).toNat) := by
      rw [← hm, Nat.mul_add, ← Nat.mul_assoc, Nat.mul_comm (cW ^ i) q.toNat, Nat.mul_assoc]
    have e4 : cW ^ (i + 1) * (b' + m / cW) = cW ^ i * (cW * b') + cW ^ i * (cW * (m / cW)) := by
      rw [Nat.pow_succ, Nat.mul_add, Nat.mul_assoc, Nat.mul_assoc]
    (have e5 : ((w : Int)).toNat = w := by omega); rw [e4, e5, Nat.mul_add q.toNat]; rw [Nat.mul_add] at ke; rw [Nat.mul_add, Nat.mul_add, Nat.mul_add] at e1; rw [Nat.mul_add] at e2; omega
structure AI (u0 v:List Int) (n i:Nat) (s:BitVec 64×List Int):Prop where
 c:s.1.toNat≤1
 len:s.2.length=n+1
 dig:Dig cW s.2
 rest:∀j,i≤j→j≤n→nth s.2 j=nth u0 j
 eq:val cW (u0.take i)+val cW (v.take i)=val cW (s.2.take i)+cW ^ i*s.1.toNat
theorem AI.step {u0 : List Int} (hl : u0.length = n + 1) (hv : v.length = n) (hdv : Dig cW v) {i : Nat} (hi : i < n) {s : BitVec 64 × List Int} (k : AI u0 v n i s) :
    AI u0 v n (i + 1) (((s.1 + ((BitVec.ofInt 64 (nth s.2 i)) + (BitVec.ofInt 64 (nth v i)))) >>> 32), (s.2.set i (IntKind.u32.wrap ((s.1 + ((BitVec.ofInt 64 (nth s.2 i)) + (BitVec.ofInt 64 (nth v i)))).toNat : Int)))) := by
  obtain ⟨kc, kl, kd, kr, ke⟩ := k; have dv := hdv.nth (i := i) a4; have dx := kd.nth (i := i) a4; have ev : (BitVec.ofInt 64 (nth v i)).toNat = (nth v i).toNat := jN dv; have ex : (BitVec.ofInt 64 (nth s.2 i)).toNat = (nth s.2 i).toNat := jN dx; have hB := hJ; (have e1 : ((BitVec.ofInt 64 (nth s.2 i)) + (BitVec.ofInt 64 (nth v i))).toNat = (nth s.2 i).toNat + (nth v i).toNat := by rw [ziG (by rw [ev, ex]; omega), ev, ex]); (have em : (s.1 + ((BitVec.ofInt 64 (nth s.2 i)) + (BitVec.ofInt 64 (nth v i)))).toNat = s.1.toNat + ((nth s.2 i).toNat + (nth v i).toNat) := by rw [ziG (by rw [e1]; omega), e1]); rw [em, iI]; generalize hm : s.1.toNat + ((nth s.2 i).toNat + (nth v i).toNat) = m at *; (have ec : ((s.1 + ((BitVec.ofInt 64 (nth s.2 i)) + (BitVec.ofInt 64 (nth v i)))) >>> 32).toNat = m / cW := by rw [zhq, em, hJ]); have hdm := Nat.div_add_mod m cW; have hml := Nat.mod_lt m gH
  have hm2 : m / cW ≤ 1 := by
    (have : m / cW < 2 := by rw [Nat.div_lt_iff_lt_mul gH]; omega); omega
  refine ⟨by dsimp only; rw [ec]; exact hm2, by dsimp only; rw [List.length_set]; exact kl, by dsimp only; exact kd.set a4, fun j hj hjn => ?_, ?_⟩
  · dsimp only; rw [zek a4]; exact kr j a4 hjn
  · dsimp only; rw [ec, gL a4, gL a4, gL b3, zdD, jR a4, ← kr i (Nat.le_refl i) a4]; (have e2 : cW ^ i * (cW * (m / cW) + m % cW) = cW ^ i * m := by rw [hdm]); (have e3 : cW ^ i * m = cW ^ i * s.1.toNat + cW ^ i * (nth s.2 i).toNat + cW ^ i * (nth v i).toNat := by rw [← hm, Nat.mul_add, Nat.mul_add]; omega); (have e4 : cW ^ (i + 1) * (m / cW) = cW ^ i * (cW * (m / cW)) := by rw [Nat.pow_succ, Nat.mul_assoc]); rw [e4, show (((m % cW : Nat) : Int)).toNat = m % cW by omega]; rw [Nat.mul_add] at e2; omega
def jP (u v:List Int)(n:Nat)(x:Option (Int×List Int)):Prop:=∃u',x=some (((val cW u / val cW v:Nat):Int),u')∧u'.length=n+1∧Dig cW u'∧val cW (u'.take n)=val cW u % val cW v∧nth u' n=0
theorem zjB (h : QIn u v n) {q : BitVec 64} (hq : q.toNat < cW) (h1 : val cW u / val cW v ≤ q.toNat) (h2 : q.toNat ≤ val cW u / val cW v + 1) : jP u v n (zf1 u v q) := by
  have hB := hJ; have hn2 := h.n2; have hvl := h.vl; have hul := h.ul; have hVn := ji h.dv
  have hV : 0 < val cW v := by
    have h1 := h.parts.2.1; have := h.top; have h3 : 0 < cW ^ (n - 2) := Nat.pow_pos gH
    have h4 := Nat.mul_le_mul h3 (show 1 ≤ (nth v (n - 1)).toNat * cW + (nth v (n - 2)).toNat by
      have := Nat.mul_le_mul_right cW (show 1 ≤ (nth v (n - 1)).toNat by omega)
      omega)
    omega
  have hQV := Nat.div_mul_le_self (val cW u) (val cW v); have hmod := Nat.div_add_mod (val cW u) (val cW v); have hml := Nat.mod_lt (val cW u) hV; rw [hvl] at hVn; (have hQW : val cW u / val cW v < cW := by rw [Nat.div_lt_iff_lt_mul hV]; exact h.lt); unfold zf1; rw [hvl]; refine zd3 (n := n) (fun i s => MI u v n q.toNat i s) (jP u v n) ⟨by simp, by simp [gH], hul, h.du, fun _ _ _ => rfl, by simp [val]⟩ (fun s k => ?_) (fun i s next hi k hn => ?_)
  · obtain ⟨kb, kc, kl, kd, kr, ke⟩ := k
    have eu : val cW u = val cW (u.take n) + cW ^ n * (nth u n).toNat := by
      have := gL (B := cW) (l := u) (i := n) a4; rw [← hul, List.take_length] at this; exact this
    (have ev : v.take n = v := by rw [← hvl, List.take_length]); rw [ev] at ke; have hwl := ji (kd.take n); rw [List.length_take, Nat.min_eq_left a4] at hwl; have dn := h.du.nth (i := n) a4; rw [ep a4, kr n (Nat.le_refl n) (Nat.le_refl n)]; generalize hT : val cW (s.2.2.take n) = T at *; generalize hP : cW ^ n = b at *; generalize hUT : val cW (u.take n) = X at *; generalize hU : val cW u = U at *; generalize hVV : val cW v = V at *; generalize hQ : U / V = Q at *; generalize hR : U % V = R at *
    -- the highest word
    have eun : (BitVec.ofInt 64 (nth u n)).toNat = (nth u n).toNat := jN dn
    have ed : ((BitVec.ofInt 64 (nth u n) - s.2.1) - s.1).toNat = if s.2.1.toNat + s.1.toNat ≤ (nth u n).toNat then (nth u n).toNat - s.2.1.toNat - s.1.toNat else 18446744073709551616 + (nth u n).toNat - s.2.1.toNat - s.1.toNat := by
      rw [zhO, zhO, eun]
      split <;> omega
    have e63 : ((((BitVec.ofInt 64 (nth u n) - s.2.1) - s.1) >>> 63).toNat : Int) = if s.2.1.toNat + s.1.toNat ≤ (nth u n).toNat then 0 else 1 := by
      rw [zhq, ed]; split <;> omega
    rw [e63]; generalize hc : s.2.1.toNat + s.1.toNat = c at *; (have hc' : s.1.toNat + s.2.1.toNat = c := by omega); rw [hc'] at ke; generalize hun : (nth u n).toNat = un at *
    -- X + b * c = T + q * V, U = X + b * un
    by_cases hle : c ≤ un
    · rw [if_pos hle, show (((0#64).toNat : Nat) : Int) = 0 from rfl, decide_eq_false a9, cond_false]; rw [if_pos hle] at ed; obtain ⟨g, hg⟩ : ∃ g, un = c + g := ⟨un - c, by omega⟩
      have hqQ : q.toNat = Q := by
        rcases Nat.lt_or_ge Q q.toNat with hlt | hge
        · exfalso; (have e1 : q.toNat = Q + 1 := by omega); rw [e1, Nat.add_mul, Nat.one_mul] at ke; rw [hg, Nat.mul_add] at eu; rw [Nat.mul_comm V Q] at hmod; omega
        · omega
      rw [hqQ] at ke; rw [Nat.mul_comm V Q] at hmod; rw [hg, Nat.mul_add] at eu
      have hg0 : g = 0 := by
        rcases Nat.eq_zero_or_pos g with e | e
        · exact e
        · have := Nat.mul_le_mul_left b e; omega
      subst hg0; rw [Nat.mul_zero] at eu; (have ew : IntKind.u32.wrap ((((BitVec.ofInt 64 (nth u n) - s.2.1) - s.1)).toNat : Int) = 0 := by rw [ed, show un - s.2.1.toNat - s.1.toNat = 0 by omega]; rfl); rw [ew, hqQ, iI, Nat.mod_eq_of_lt a4]; refine ⟨_, by rw [hU, hVV, hQ], by rw [List.length_set]; exact kl, kd.set a4, ?_, jR a4⟩; rw [zdD, hT, hU, hVV, hR]; omega
    · rw [if_neg hle, show (((0#64).toNat : Nat) : Int) = 0 from rfl, decide_eq_true a9, cond_true]; rw [if_neg hle] at ed; obtain ⟨g, hg⟩ : ∃ g, c = un + (g + 1) := ⟨c - un - 1, by omega⟩
      have hqQ : q.toNat = Q + 1 := by
        rcases Nat.lt_or_ge Q q.toNat with hlt | hge
        · omega
        · exfalso; (have e1 : q.toNat = Q := by omega); rw [e1] at ke; rw [hg, Nat.mul_add, Nat.mul_add, Nat.mul_one] at ke; rw [Nat.mul_comm V Q] at hmod; omega
      rw [hqQ, Nat.add_mul, Nat.one_mul] at ke; rw [Nat.mul_comm V Q] at hmod; rw [hg, Nat.mul_add, Nat.mul_add, Nat.mul_one] at ke
      have hg0 : g = 0 := by
        rcases Nat.eq_zero_or_pos g with e | e
        · exact e
        · have := Nat.mul_le_mul_left b e; omega
      subst hg0; rw [Nat.mul_zero, Nat.zero_add] at ke; (have ew : IntKind.u32.wrap ((((BitVec.ofInt 64 (nth u n) - s.2.1) - s.1)).toNat : Int) = ((cW - 1 : Nat) : Int) := by rw [ed, iI, hB, show 18446744073709551616 + un - s.2.1.toNat - s.1.toNat = 18446744073709551615 by omega]); rw [ew]; (have kl0 : (s.2.2.set n ((cW - 1 : Nat) : Int)).length = n + 1 := by rw [List.length_set]; exact kl); have hd0 : Dig cW (s.2.2.set n ((cW - 1 : Nat) : Int)) := kd.set a4; refine zd3 (n := n) (fun i s' => AI (s.2.2.set n ((cW - 1 : Nat) : Int)) v n i s') (jP u v n) ⟨by simp, kl0, hd0, fun _ _ _ => rfl, by simp [val]⟩ (fun s' k => ?_) (fun i s' next hi k hn => ?_)
      · obtain ⟨ac, al, ad, ar, ae⟩ := k; rw [zdD, hT, ev, hVV] at ae; have hwl2 := ji (ad.take n); rw [List.length_take, Nat.min_eq_left a4, hP] at hwl2; rw [ep a4, ar n (Nat.le_refl n) (Nat.le_refl n), jR a4, iI]
        have e1 : s'.1.toNat = 1 := by
          rcases Nat.eq_zero_or_pos s'.1.toNat with e | e
          · rw [e, Nat.mul_zero] at ae; exfalso; (have z1 : T + V = R + b := by omega); omega
          · omega
        rw [e1, Nat.mul_one] at ae; (have e2 : IntKind.u32.wrap (((cW - 1 : Nat) : Int) + IntKind.u32.wrap ((1 : Nat) : Int)) = 0 := by rw [hB]; rfl); (have e3 : (q - 1#64).toNat = Q := by rw [zhO, hqQ, show (1#64).toNat = 1 from rfl]; omega); rw [e3, Nat.mod_eq_of_lt hQW, e1, e2]; refine ⟨_, by rw [hU, hVV, hQ], by rw [List.length_set]; exact al, ad.set a4, ?_, jR a4⟩; rw [zdD, hU, hVV, hR]; omega
      · have := k.len; rw [ep a4]; exact hn _ (AI.step kl0 hvl h.dv hi k)
  · have := k.len; rw [ep a4]; exact hn _ (MI.step h hq hi k)
theorem zfP {fuel : Nat} (hf : 4 ≤ fuel) (h : QIn u v n) : jP u v n (zbd fuel u v) := by
  have hB := hJ; have hn2 := h.n2; have hvl := h.vl; have hul := h.ul; have htop := h.top; have d1 := h.dv.nth (i := n - 1) a4; have d2 := h.dv.nth (i := n - 2) a4; have un := h.du.nth (i := n) a4; have u1 := h.du.nth (i := n - 1) a4; have u2 := h.du.nth (i := n - 2) a4; have ehi : (BitVec.ofInt 64 (nth v (n - 1))).toNat = (nth v (n - 1)).toNat := jN d1; have ev2 : (BitVec.ofInt 64 (nth v (n - 2))).toNat = (nth v (n - 2)).toNat := jN d2; have eun : (BitVec.ofInt 64 (nth u n)).toNat = (nth u n).toNat := jN un; have eu1 : (BitVec.ofInt 64 (nth u (n - 1))).toNat = (nth u (n - 1)).toNat := jN u1; have eu2 : (BitVec.ofInt 64 (nth u (n - 2))).toNat = (nth u (n - 2)).toNat := jN u2
  have hne : ¬ BitVec.ofInt 64 (nth v (n - 1)) = 0#64 := fun e => by
    have := congrArg BitVec.toNat e; rw [ehi, show (0#64).toNat = 0 from rfl] at this; omega
  have etop := zh9 (a := BitVec.ofInt 64 (nth u n)) (b := BitVec.ofInt 64 (nth u (n - 1))) a4 a4; rw [eun, eu1] at etop; unfold zbd; rw [hvl, show ((n : Int) - 1).toNat = n - 1 by omega, show ((n : Int) - 2).toNat = n - 2 by omega]; rw [ep a4, ep a4, ep hne, ep hne];simp only [dJ]
  have hV : 0 < val cW v := by
    have h1 := h.parts.2.1; have h3 : 0 < cW ^ (n - 2) := Nat.pow_pos gH
    have h4 := Nat.mul_le_mul h3 (show 1 ≤ (nth v (n - 1)).toNat * cW + (nth v (n - 2)).toNat by
      have := Nat.mul_le_mul_right cW (show 1 ≤ (nth v (n - 1)).toNat by omega)
      omega)
    omega
  (have hQW : val cW u / val cW v < cW := by rw [Nat.div_lt_iff_lt_mul hV]; exact h.lt); have hlo := h.lo (Q := val cW u / val cW v) (Nat.div_mul_le_self _ _); have htu := h.topu; have hhi : ∀ q : Nat, q < cW → q * ((nth v (n - 1)).toNat * cW + (nth v (n - 2)).toNat) ≤ ((nth u n).toNat * cW + (nth u (n - 1)).toNat) * cW + (nth u (n - 2)).toNat → q ≤ val cW u / val cW v + 1 := fun q h1 h2 => h.hi h1 h2; have htail : ∀ q : BitVec 64, q.toNat < cW → val cW u / val cW v ≤ q.toNat → q.toNat ≤ val cW u / val cW v + 1 → jP u v n (zf1 u v q) := fun q h1 h2 h3 => zjB h h1 h2 h3; unfold zf1 at htail; rw [hvl] at htail; generalize val cW u / val cW v = Q at *; generalize hhv : (nth v (n - 1)).toNat = hi at *; generalize hv2' : (nth v (n - 2)).toNat = v2 at *; generalize hun' : (nth u n).toNat = a at *; generalize hu1' : (nth u (n - 1)).toNat = a1 at *; generalize hu2' : (nth u (n - 2)).toNat = a2 at *; rw [hB] at hlo hhi; refine zfv (fun s => s.1.toNat * hi + s.2.toNat = a * 4294967296 + a1 ∧ s.2.toNat < 4294967296 ∧ Q ≤ s.1.toNat ∧ s.1.toNat ≤ 4294967300) (fun s => if s.2.toNat < 2147483648 then 1 else 0) (jP u v n) ?_ (by split <;> omega) ?_
  · (have hq0 : ((((BitVec.ofInt 64 (nth u n)) <<< 32) ||| (BitVec.ofInt 64 (nth u (n - 1)))) / (BitVec.ofInt 64 (nth v (n - 1)))).toNat = (a * 4294967296 + a1) / hi := by rw [BitVec.toNat_udiv, etop, ehi]); (have hr0 : ((((BitVec.ofInt 64 (nth u n)) <<< 32) ||| (BitVec.ofInt 64 (nth u (n - 1)))) % (BitVec.ofInt 64 (nth v (n - 1)))).toNat = (a * 4294967296 + a1) % hi := by rw [BitVec.toNat_umod, etop, ehi]);dsimp only; rw [hq0, hr0]; have hdm := Nat.div_add_mod (a * 4294967296 + a1) hi; have hml := Nat.mod_lt (a * 4294967296 + a1) (show 0 < hi by omega); rw [Nat.mul_comm] at hdm; refine ⟨hdm, by omega, ?_, ?_⟩
    · -- the true word is at most the guess
      rw [Nat.le_div_iff_mul_le a4]; have h5 : Q * (hi * 4294967296) ≤ Q * (hi * 4294967296 + v2) := Nat.mul_le_mul_left _ (Nat.le_add_right _ _); (have h6 : Q * (hi * 4294967296) = Q * hi * 4294967296 := by rw [Nat.mul_assoc]); omega
    · refine Nat.le_of_lt_succ ?_; rw [Nat.div_lt_iff_lt_mul a4]; have : a * 4294967296 ≤ hi * 4294967296 := Nat.mul_le_mul_right _ htu; omega
  · rintro ⟨q, r⟩ next ⟨i1, i2, i3, i4⟩ hn; dsimp only at i1 i2 i3 i4 hn ⊢
    -- what happens if the guess is too great
    have step : Q + 1 ≤ q.toNat → jP u v n (bif decide (((4294967296#64).toNat : Int) ≤ ((r + (BitVec.ofInt 64 (nth v (n - 1)))).toNat : Int)) then
            zf1 u v (q - 1#64)
            else
            next ((q - (1#64)), (r + (BitVec.ofInt 64 (nth v (n - 1)))))) := fun hgt => by
      (have er : (r + (BitVec.ofInt 64 (nth v (n - 1)))).toNat = r.toNat + hi := by rw [ziG (by rw [ehi]; omega), ehi]); (have eq : (q - 1#64).toNat = q.toNat - 1 := by rw [zhO, show (1#64).toNat = 1 from rfl]; omega); obtain ⟨p, hp⟩ : ∃ p, q.toNat = p + 1 := ⟨q.toNat - 1, by omega⟩; rw [hp, Nat.add_mul, Nat.one_mul] at i1; rw [er, show (((4294967296#64).toNat : Nat) : Int) = 4294967296 from rfl]; by_cases hbr : 4294967296 ≤ r.toNat + hi
      · rw [decide_eq_true a4, cond_true]
        have hpW : p < 4294967296 := by
          refine Nat.lt_of_mul_lt_mul_right (a := hi) ?_; have : a * 4294967296 ≤ hi * 4294967296 := Nat.mul_le_mul_right _ htu; rw [Nat.mul_comm 4294967296 hi]; omega
        have h2 : p * (hi * 4294967296 + v2) ≤ (a * 4294967296 + a1) * 4294967296 + a2 := by
          (have e1 : p * (hi * 4294967296 + v2) = p * hi * 4294967296 + p * v2 := by rw [Nat.mul_add, Nat.mul_assoc]); have e2 : p * v2 ≤ 4294967296 * 4294967296 := Nat.mul_le_mul a4 a4; omega
        have h3 := hhi p a4 h2; unfold zf1; rw [hvl]; exact htail _ a4 a4 a4
      · rw [decide_eq_false a4, cond_false]; refine hn _ ⟨?_, ?_, ?_, ?_⟩ ?_
        · dsimp only; rw [eq, er, hp]; show (p + 1 - 1) * hi + _ = _; rw [Nat.add_sub_cancel]; omega
        · dsimp only; omega
        · dsimp only; omega
        · dsimp only; omega
        · dsimp only; rw [er]; split <;> split <;> omega
    unfold zf1 at step; rw [hvl] at step; rw [show (((4294967296#64).toNat : Nat) : Int) = 4294967296 from rfl] at step ⊢; by_cases hbig : 4294967296 ≤ q.toNat
    · rw [decide_eq_true (show (4294967296 : Int) ≤ (q.toNat : Int) by omega), cond_true, cond_true]; exact step a4
    · rw [decide_eq_false (show ¬ (4294967296 : Int) ≤ (q.toNat : Int) by omega), cond_false, ep a4]; (have ej : ((r <<< 32) ||| (BitVec.ofInt 64 (nth u (n - 2)))).toNat = r.toNat * 4294967296 + a2 := by rw [zh9 a4 a4, eu2]); have hmul : q.toNat * v2 ≤ 4294967296 * 4294967295 := Nat.mul_le_mul a4 a4; (have em : (q * (BitVec.ofInt 64 (nth v (n - 2)))).toNat = q.toNat * v2 := by rw [zjo (by rw [ev2]; omega), ev2]); rw [ej, em]; (have e1 : q.toNat * (hi * 4294967296 + v2) = q.toNat * hi * 4294967296 + q.toNat * v2 := by rw [Nat.mul_add, Nat.mul_assoc]); by_cases htest : r.toNat * 4294967296 + a2 < q.toNat * v2
      · rw [decide_eq_true a4, cond_true]; refine step (Nat.succ_le_of_lt (Nat.lt_of_not_le fun hle => ?_)); have := Nat.mul_le_mul_right (hi * 4294967296 + v2) hle; omega
      · rw [decide_eq_false a4, cond_false]; have h3 := hhi q.toNat a4 (by rw [e1]; omega); exact htail _ a4 i3 h3
end
theorem fR {x:Int}(h: -9223372036854775808≤x∧x≤9223372036854775807):wI x=x:=IntWalk.i64_in _ h
theorem kj {l:List Int}{i:Nat}(h:l.length≤i):nth l i=0:=by
 unfold nth;rw [List.getD_eq_getElem?_getD,List.getElem?_eq_none h];rfl
section
variable {B:Nat}{l m:List Int}{i:Nat}
theorem zfQ (h:Dig B l)(hB:0<B)(i:Nat):0≤nth l i∧nth l i<(B:Int):=by
 rcases Nat.lt_or_ge i l.length with hi|hi
 ·exact h.nth hi
 ·rw [kj hi];omega
theorem zer (hB:0<B):∀ {l:List Int},Dig B l→∀i,(nth l i).toNat=val B l / B ^ i % B
 | [],_,i=>by rw [kj a9];simp [val]
 |x :: l,h,0=>by
  have:=h.head;rw [zfs,val,Nat.pow_zero,Nat.div_one,Nat.add_mul_mod_self_left,Nat.mod_eq_of_lt a4]
 |x :: l,h,i+1=>by
  have:=h.head;rw [zf2,zer hB h.tail i,val,Nat.pow_succ,Nat.mul_comm (B ^ i) B,←Nat.div_div_eq_div_mul,Nat.add_mul_div_left _ _ hB,Nat.div_eq_of_lt (show x.toNat<B by omega),Nat.zero_add]
theorem zfd {N:Nat}(hB:0<B)(h:∀i,i<l.length→(nth l i).toNat=N / B ^ i % B)(hN:N<B ^ l.length):val B l=N:=by
 have key:∀i,i≤l.length→val B (l.take i)=N % B ^ i:=by
  intro i
  induction i with
  |zero=>intro _;simp [val,Nat.mod_one]
  |succ i ih=>
   intro hi;rw [gL a4,ih a4,h i a4,Nat.pow_succ,Nat.mod_mul]
 have:=key l.length (Nat.le_refl _);rw [List.take_length,Nat.mod_eq_of_lt hN] at this;exact this
theorem zgY (hB:0<B)(h:Dig B l)(hz:∀k,nth l k=0):val B l=0:=by
 have:=zfd (B:=B) (l:=l) (N:=0) hB (fun i _=>by rw [hz i];simp) (Nat.pow_pos hB);exact this
theorem zhE {l:List Int}{n k:Nat}(h:k<n):nth (l.take n) k=nth l k:=by
 unfold nth;rw [List.getD_eq_getElem?_getD,List.getD_eq_getElem?_getD,List.getElem?_take_of_lt h]
theorem zft {l:List Int}{n k:Nat}:nth (l.drop n) k=nth l (n+k):=by
 unfold nth;rw [List.getD_eq_getElem?_getD,List.getD_eq_getElem?_getD,List.getElem?_drop]
theorem zhz {l m:List Int}{k:Nat}(h:k<l.length):nth (l++m) k=nth l k:=by
 unfold nth;rw [List.getD_eq_getElem?_getD,List.getD_eq_getElem?_getD,List.getElem?_append_left h]
theorem zhy {l m:List Int}{k:Nat}(h:l.length≤k):nth (l++m) k=nth m (k - l.length):=by
 unfold nth;rw [List.getD_eq_getElem?_getD,List.getD_eq_getElem?_getD,List.getElem?_append_right h]
theorem zfS {l:List Int}{k:Nat}(h:k<l.length):nth l.reverse k=nth l (l.length - 1 - k):=by
 unfold nth;rw [List.getD_eq_getElem?_getD,List.getD_eq_getElem?_getD,List.getElem?_reverse h]
theorem Dig.rev (h:Dig B l):Dig B l.reverse:=fun x hx=>h x (List.mem_reverse.1 hx)
end
structure NatIs (x:List Int) (X:Nat):Prop where
 dig:Dig cW x
 trm:kA x
 eq:val cW x=X
theorem NatIs.uniq {x y:List Int}{X:Nat}(h:NatIs x X)(k:NatIs y X):x=y:=zhL h.dig k.dig h.trm k.trm (h.eq.trans k.eq.symm)
theorem NatIs.nil {x:List Int}{X:Nat}(h:NatIs x X):x=[]↔X=0:=by
 rw [←h.eq];exact (zgA h.dig h.trm gH).symm
theorem NatIs.pos {x:List Int}{X:Nat}(h:NatIs x X):0<x.length↔0<X:=by
 have:=h.nil;rw [List.length_pos_iff];constructor
 ·intro e;rcases Nat.eq_zero_or_pos X with z|z
  ·exact absurd (this.2 z) e
  ·exact z
 ·intro e z;have:=this.1 z;omega
theorem NatIs.zero:NatIs [] 0:=⟨Dig.nil, .inl rfl,rfl⟩
theorem NatIs.len {x:List Int}{X k:Nat}(h:NatIs x X)(hk:X<cW ^ k):x.length≤k:=by
 by_cases hn:x=[]
 ·rw [hn];exact Nat.zero_le _
 ·have:=zhe h.dig h.trm hn;rw [h.eq] at this;have h2:=Nat.lt_of_le_of_lt this hk;have:=(Nat.pow_lt_pow_iff_right (show 1<cW by rw [hJ];decide)).1 h2;omega
theorem zhM {fuel:Nat}{l:List Int}(hf:l.length+1≤fuel)(hd:Dig cW l):∃r,jo fuel l=some r∧NatIs r (val cW l):=by
 obtain ⟨r,h1,h2,h3,h4,h5⟩:=zju cW l.length fuel l rfl hf;exact ⟨r,h1,h4 hd,h3,h2⟩
theorem zgM:cW=256 ^ 4:=by rw [hJ]
theorem u8w {x:Int}(h:0≤x∧x<256):IntKind.u8.wrap x=x:=by
 refine q2Z ?_;simp;omega
theorem zi4 {a d s:Nat}(hs:s≤3)(ha:a<256 ^ s)(hd:d<256):orK .u32 (a:Int) (shlK .u32 (d:Int) ((8*s:Nat):Int))=((a+d*256 ^ s:Nat):Int):=by
 have e1:shlK .u32 (d:Int) ((8*s:Nat):Int)=((d*256 ^ s:Nat):Int):=by
  unfold shlK;rw [show IntKind.u32.bits=32 from rfl,Int.toNat_natCast,Nat.min_eq_left a4];rw [show (2:Int) ^ (8*s)=((256 ^ s:Nat):Int) by rw [Int.pow_mul,Int.natCast_pow];rfl];rw [←Int.natCast_mul,zdV];refine ⟨by omega,?_⟩;have h1:d*256 ^ s≤255*256 ^ 3:=Nat.mul_le_mul a4 (Nat.pow_le_pow_right a4 hs);omega
 have h2:256 ^ s≤256 ^ 3:=Nat.pow_le_pow_right a4 hs;have h1:d*256 ^ s≤255*256 ^ 3:=Nat.mul_le_mul a4 h2;rw [e1,zjb a4 a4,Int.toNat_natCast,Int.toNat_natCast];have h3:=zg6 (a:=a) (d:=d) (s:=8*s) (by rw [Nat.pow_mul];exact ha);rw [Nat.pow_mul] at h3;rw [h3]
theorem zgB {fuel:Nat}{D:List Int}(hl:D.length≤1000000)(hf:D.length+4≤fuel)(hd:Dig 256 D):∃r,zbx fuel D=some r∧NatIs r (val 256 D.reverse):=by
 (have hw:wI ((D.length:Int)+3)=((D.length+3:Nat):Int):=by rw [fR a4];omega);unfold zbx;rw [hw,ep a4,ep a4,ep (by show _*_≤_;omega)];simp only [dJ]; (have hL:(((D.length+3:Nat):Int) / 4).toNat=(D.length+3) / 4:=by omega);rw [hL];generalize hn:D.length=n at *;have hr:Dig 256 D.reverse:=hd.rev; (have hrl:D.reverse.length=n:=by rw [List.length_reverse,hn]);refine zd3 (n:=n) (fun i (l:List Int)=>l.length=(n+3) / 4∧Dig cW l∧val cW l=val 256 (D.reverse.take i)∧(nth l (i / 4)).toNat<256 ^ (i % 4)∧∀k,i / 4<k→nth l k=0) (fun x=>∃r,x=some r∧NatIs r (val 256 D.reverse)) ?_ (fun l hI=>?_) (fun i l next hi hI hnx=>?_)
 ·refine ⟨by simp,fN gH _,by rw [zhm];simp [val],?_,fun k _=>?_⟩
  ·have:nth (List.replicate ((n+3) / 4) (0:Int)) (0 / 4)=0:=by
    by_cases h:0 / 4<(n+3) / 4
    ·rw [fq (by rw [List.length_replicate];exact h),List.getElem_replicate]
    ·exact kj (by rw [List.length_replicate];omega)
   rw [this];exact Nat.pow_pos a4
  ·by_cases h:k<(n+3) / 4
   ·rw [fq (by rw [List.length_replicate];exact h),List.getElem_replicate]
   ·exact kj (by rw [List.length_replicate];omega)
 ·obtain ⟨i1,i2,i3, -, -⟩:=hI;obtain ⟨r,h1,h2⟩:=zhM (fuel:=fuel) (l:=l) a4 i2;rw [h1];rw [←hrl,List.take_length] at i3;rw [i3] at h2;exact ⟨r,rfl,h2⟩
 ·obtain ⟨i1,i2,i3,i4,i5⟩:=hI;have hx:=hd.nth (i:=n - 1 - i) a4; (have hw2:wI (8* ((i:Int) % 4))=((8* (i % 4):Nat):Int):=by rw [fR a4];omega);rw [ep a4,ep a4,ep a4,hw2,ep a4];rw [show ((i:Int) / 4).toNat=i / 4 by omega,show (((n:Int) - 1) - (i:Int)).toNat=n - 1 - i by omega]; (have e32:IntKind.u32.wrap (nth D (n - 1 - i))=((nth D (n - 1 - i)).toNat:Int):=by rw [zdV _ a4];omega);have hl0:=i2.nth (i:=i / 4) a4
  have eor:orK .u32 (nth l (i / 4)) (shlK .u32 (IntKind.u32.wrap (nth D (n - 1 - i))) ((8* (i % 4):Nat):Int))=(((nth l (i / 4)).toNat+(nth D (n - 1 - i)).toNat*256 ^ (i % 4):Nat):Int):=by
   rw [e32];have:=zi4 (a:=(nth l (i / 4)).toNat) (d:=(nth D (n - 1 - i)).toNat) (s:=i % 4) a4 i4 a4;rw [Int.toNat_of_nonneg hl0.1] at this;exact this
  rw [eor];generalize hd':(nth D (n - 1 - i)).toNat=d at *;generalize ha:(nth l (i / 4)).toNat=a at *; (have hd256:d<256:=by omega);have hp3:256 ^ (i % 4)≤256 ^ 3:=Nat.pow_le_pow_right a4 a4
  have hp:d*256 ^ (i % 4)+256 ^ (i % 4)≤256 ^ (i % 4+1):=by
   have:=Nat.mul_le_mul_right (256 ^ (i % 4)) (show d+1≤256 by omega);rw [Nat.add_mul,Nat.one_mul] at this;rw [Nat.pow_succ];omega
  (have hp4:256 ^ (i % 4+1)≤cW:=by rw [zgM];exact Nat.pow_le_pow_right a4 a4);refine hnx _ ⟨by rw [List.length_set];exact i1,i2.set a4,?_,?_,fun k hk=>?_⟩
  ·have h1:=zio (B:=cW) (l:=l) (i:=i / 4) (x:=((a+d*256 ^ (i % 4):Nat):Int)) a4;rw [ha,Int.toNat_natCast,Nat.mul_add,i3] at h1;rw [gL a4,zfS a4,show D.length - 1 - i=n - 1 - i by omega,hd']
   have h2:cW ^ (i / 4) * (d*256 ^ (i % 4))=256 ^ i*d:=by
    rw [zgM,←Nat.pow_mul,Nat.mul_comm d,←Nat.mul_assoc,←Nat.pow_add,Nat.div_add_mod]
   omega
  ·by_cases h4:i % 4=3
   ·rw [show (i+1) / 4=i / 4+1 by omega,zek a4,i5 _ a4,show (i+1) % 4=0 by omega];decide
   ·rw [show (i+1) / 4=i / 4 by omega,jR a4,show (i+1) % 4=i % 4+1 by omega,Int.toNat_natCast];omega
  ·rw [zek a4];exact i5 k a4
theorem zhQ {fuel:Nat}{x:List Int}{X d:Nat}(hl:x.length≤1000000)(hf:x.length+1≤fuel)(hx:NatIs x X)(hd:0<d)(hd2:d<cW):∃q,zck fuel x (d:Int)=some (q,((X % d:Nat):Int))∧NatIs q (X / d):=by
 have hB:=hJ;unfold zck;rw [ep (by show _*_≤_;omega)];simp only [dJ]; (have ed:(BitVec.ofInt 64 (d:Int)).toNat=d:=by rw [ofI a4];omega)
 have hne:¬BitVec.ofInt 64 (d:Int)=0#64:=fun e=>by
  have:=congrArg BitVec.toNat e;rw [ed,show (0#64).toNat=0 from rfl] at this;omega
 refine zeL (n:=x.length) (fun m (s:BitVec 64×List Int)=>s.1.toNat<d∧s.2.length=x.length∧Dig cW s.2∧val cW (x.drop m)=val cW (s.2.drop m) *d+s.1.toNat) (fun o=>∃q,o=some (q,((X % d:Nat):Int))∧NatIs q (X / d)) ?_ (fun s hI=>?_) (fun i s next hi hI hnx=>?_)
 ·refine ⟨by simpa using hd,by simp,fN gH _,?_⟩;rw [List.drop_eq_nil_of_le (Nat.le_refl _),List.drop_eq_nil_of_le a9];simp [val]
 ·obtain ⟨i1,i2,i3,i4⟩:=hI;rw [List.drop_zero,List.drop_zero,hx.eq,Nat.mul_comm] at i4;obtain ⟨r,h1,h2⟩:=zhM (fuel:=fuel) (l:=s.2) a4 i3; (have e1:X / d=val cW s.2:=by rw [i4,Nat.mul_add_div hd,Nat.div_eq_of_lt i1,Nat.add_zero]); (have e2:X % d=s.1.toNat:=by rw [i4,Nat.mul_add_mod,Nat.mod_eq_of_lt i1]);rw [h1,e1,e2];refine ⟨r,?_,h2⟩;refine fW ?_;rw [zdV _ a4]
 ·obtain ⟨i1,i2,i3,i4⟩:=hI;rw [ep hne,ep a4,ep hne];have hxi:=hx.dig.nth hi
  have ej:((s.1 <<< 32) ||| (BitVec.ofInt 64 (nth x i))).toNat=s.1.toNat*4294967296+(nth x i).toNat:=by
   rw [zh9 a4 (by rw [jN hxi];omega),jN hxi]
  generalize hT:s.1.toNat*4294967296+(nth x i).toNat=T at *; (have e1:(((s.1 <<< 32) ||| (BitVec.ofInt 64 (nth x i))) % (BitVec.ofInt 64 (d:Int))).toNat=T % d:=by rw [BitVec.toNat_umod,ej,ed]); (have e2:(((s.1 <<< 32) ||| (BitVec.ofInt 64 (nth x i))) / (BitVec.ofInt 64 (d:Int))).toNat=T / d:=by rw [BitVec.toNat_udiv,ej,ed])
  have hq:T / d<cW:=by
   rw [Nat.div_lt_iff_lt_mul hd,hB];have:=Nat.mul_le_mul_right 4294967296 (show s.1.toNat+1≤d by omega);rw [Nat.mul_comm d] at this;omega
  have hdm:=Nat.div_add_mod T d;refine hnx _ ⟨by dsimp only;rw [e1];exact Nat.mod_lt _ hd,by dsimp only;rw [List.length_set];exact i2,by dsimp only;rw [e2,zdV _ a4];exact i3.set a4,?_⟩;dsimp only;rw [e1,e2,zdV _ a4,zdA hi,zdA (l:=s.2.set i _) b4,jR a4,Int.toNat_natCast,i4,List.drop_set_of_lt a4];rw [Nat.add_mul,Nat.mul_add,Nat.mul_assoc,Nat.mul_comm (T / d) d,hB];omega
theorem ziB:∀i:Fin 256,i.val≠0→0≤Lib.len8 (i.val:Int)∧1≤(Lib.len8 (i.val:Int)).toNat∧(Lib.len8 (i.val:Int)).toNat≤8∧2 ^ ((Lib.len8 (i.val:Int)).toNat - 1)≤i.val∧i.val<2 ^ (Lib.len8 (i.val:Int)).toNat:=by decide +kernel
theorem zi9 {i:Nat}(h0:0<i)(h:i<256):∃s:Nat,1≤s∧s≤8∧Lib.len8 (i:Int)=(s:Int)∧2 ^ (s - 1)≤i∧i<2 ^ s:=by
 have h1:=ziB ⟨i,h⟩ (by show i≠0;omega);refine ⟨(Lib.len8 (i:Int)).toNat,h1.2.1,h1.2.2.1,(Int.toNat_of_nonneg h1.1).symm,h1.2.2.2.1,h1.2.2.2.2⟩
theorem ziq {a b:Nat}(hb:b≤32):shrK .u32 (a:Int) (b:Int)=((a / 2 ^ b:Nat):Int):=by
 unfold shrK;rw [show IntKind.u32.bits=32 from rfl,Int.toNat_natCast,Nat.min_eq_left hb,Int.fdiv_eq_ediv_of_nonneg _ (by exact Int.le_of_lt (Int.pow_pos a4))];rw [Int.natCast_ediv,Int.natCast_pow];rfl
theorem zi8 {x y t s:Nat}(hy:y=x / 2 ^ t)(h1:2 ^ (s - 1)≤y)(h2:y<2 ^ s)(hs:1≤s):2 ^ (s+t - 1)≤x∧x<2 ^ (s+t):=by
 subst hy;constructor
 ·rw [Nat.le_div_iff_mul_le (Nat.pow_pos a4),←Nat.pow_add] at h1;rw [show s+t - 1=s - 1+t by omega];exact h1
 ·rw [Nat.div_lt_iff_lt_mul (Nat.pow_pos a4),←Nat.pow_add] at h2;exact h2
theorem zik {x:Nat}(h0:0<x)(h:x<4294967296):∃s:Nat,1≤s∧s≤32∧zbY (x:Int)=some (s:Int)∧2 ^ (s - 1)≤x∧x<2 ^ s:=by
 unfold zbY;simp only [dJ]
 have fin:∀(y t:Nat),y=x / 2 ^ t→0<y→y<256→t≤24→∃s:Nat,1≤s∧s≤32∧(dg (0≤(IntKind.u8.wrap (y:Int))∧(IntKind.u8.wrap (y:Int))≤(255:Int)) <| some (wI ((t:Int)+(wI (Lib.len8 (IntKind.u8.wrap (y:Int)))))))=some (s:Int)∧2 ^ (s - 1)≤x∧x<2 ^ s:=fun y t hy h1 h2 h3=>by
  obtain ⟨s,s1,s2,s3,s4,s5⟩:=zi9 h1 h2;obtain ⟨b1,b2⟩:=zi8 hy s4 s5 s1;rw [u8w a4,ep a4,s3,fR (x:=(s:Int)) a4,fR a4];exact ⟨s+t,by omega,by omega,by rw [Int.natCast_add,Int.add_comm],b1,b2⟩
 have e16:shrK .u32 (x:Int) (((16#64).toNat:Nat):Int)=((x / 2 ^ 16:Nat):Int):=ziq a5;have e8:∀a:Nat,shrK .u32 (a:Int) (((8#64).toNat:Nat):Int)=((a / 2 ^ 8:Nat):Int):=fun a=>ziq a5;by_cases hx:65536≤x
 ·rw [decide_eq_true (show (65536:Int)≤(x:Int) by omega),cond_true]; (try dsimp only);rw [e16];by_cases hy:256≤x / 2 ^ 16
  ·rw [decide_eq_true (show (256:Int)≤((x / 2 ^ 16:Nat):Int) by omega),cond_true];rw [e8];exact fin _ 24 (by rw [Nat.div_div_eq_div_mul,←Nat.pow_add]) a4 a4 a4
  ·rw [decide_eq_false (show ¬(256:Int)≤((x / 2 ^ 16:Nat):Int) by omega),cond_false];exact fin _ 16 rfl a4 a4 a4
 ·rw [decide_eq_false (show ¬(65536:Int)≤(x:Int) by omega),cond_false]; (try dsimp only);by_cases hy:256≤x
  ·rw [decide_eq_true (show (256:Int)≤(x:Int) by omega),cond_true];rw [e8];exact fin _ 8 rfl a4 a4 a4
  ·rw [decide_eq_false (show ¬(256:Int)≤(x:Int) by omega),cond_false];exact fin _ 0 a9 a4 a4 a4
theorem zjD {x:Nat}(h0:0<x)(h:x<4294967296):∃s:Nat,1≤s∧s≤32∧zbh (x:Int)=some ((32 - s:Nat):Int)∧2 ^ (s - 1)≤x∧x<2 ^ s:=by
 obtain ⟨s,h1,h2,h3,h4,h5⟩:=zik h0 h;refine ⟨s,h1,h2,?_,h4,h5⟩;unfold zbh;rw [h3];refine fW ?_;rw [fR a4];congr 1;omega
theorem ziK {s:Nat}(h:s≤32):2 ^ (32 - s) *2 ^ s=cW:=by
 rw [←Nat.pow_add,show 32 - s+s=32 by omega,hJ]
theorem zjH {a:BitVec 64}{s:Nat}(ha:a.toNat<4294967296)(hs:s≤32):(a <<< s).toNat=a.toNat*2 ^ s:=by
 rw [BitVec.toNat_shiftLeft,Nat.shiftLeft_eq,Nat.mod_eq_of_lt];have h1:a.toNat*2 ^ s≤4294967295*2 ^ 32:=Nat.mul_le_mul a4 (Nat.pow_le_pow_right a4 hs);omega
theorem zhj {x s:Nat}(hs:s≤32):x*2 ^ s % cW=(x % 2 ^ (32 - s)) *2 ^ s:=by
 rw [←ziK hs,Nat.mul_mod_mul_right]
theorem zfY {x:List Int}{s:Nat}(hl:x.length≤1000000)(hx:Dig cW x)(hs:s<32):∃r,zbP x (s:Int)=some r∧r.length=x.length+1∧Dig cW r∧val cW r=val cW x*2 ^ s:=by
 have hB:=hJ; (have hw:wI ((x.length:Int)+1)=((x.length+1:Nat):Int):=by rw [fR a4];omega);unfold zbP;rw [hw,ep a4,Int.toNat_natCast,ep (by show _*_≤_;omega)];simp only [dJ];refine zd3 (n:=x.length) (fun i (l:List Int)=>l.length=x.length+1∧Dig cW l∧val cW (l.take (i+1))=val cW (x.take i) *2 ^ s∧(nth l i).toNat<2 ^ s) (fun o=>∃r,o=some r∧r.length=x.length+1∧Dig cW r∧val cW r=val cW x*2 ^ s) ?_ (fun l hI=>?_) (fun i l next hi hI hnx=>?_)
 ·refine ⟨by simp,fN gH _,?_,?_⟩
  ·rw [List.take_replicate,zhm];simp [val]
  ·rw [fq a9,List.getElem_replicate];exact Nat.pow_pos a4
 ·obtain ⟨i1,i2,i3,i4⟩:=hI;rw [←i1,List.take_length,List.take_length] at i3;exact ⟨l,rfl,i1,i2,i3⟩
 ·obtain ⟨i1,i2,i3,i4⟩:=hI;have hxi:=hx.nth hi;have hli:=i2.nth (i:=i) a4;have ex:(BitVec.ofInt 64 (nth x i)).toNat=(nth x i).toNat:=jN hxi; (have ew:((BitVec.ofInt 64 (nth x i)) <<< s).toNat=(nth x i).toNat*2 ^ s:=by rw [zjH a4 a4,ex]); (have ew2:(((BitVec.ofInt 64 (nth x i)) <<< s) >>> 32).toNat=(nth x i).toNat*2 ^ s / cW:=by rw [zhq,ew,hB])
  have eor:orK .u32 (nth l i) (IntKind.u32.wrap ((((BitVec.ofInt 64 (nth x i)) <<< s).toNat:Nat):Int))=(((nth l i).toNat+(nth x i).toNat*2 ^ s % cW:Nat):Int):=by
   have hlow:=zhj (x:=(nth x i).toNat) (s:=s) a4;have hml:=Nat.mod_lt ((nth x i).toNat*2 ^ s) gH;rw [ew,iI,zjb a4 a4,Int.toNat_natCast,hlow,zg6 i4]
  rw [ep a4,ep a4,ep b4,Int.toNat_natCast,eor,ew2];have hml:=Nat.mod_lt ((nth x i).toNat*2 ^ s) gH;have hdm:=Nat.div_add_mod ((nth x i).toNat*2 ^ s) cW;have hlow:=zhj (x:=(nth x i).toNat) (s:=s) a4
  have hsum:(nth l i).toNat+(nth x i).toNat*2 ^ s % cW<cW:=by
   have h1:=Nat.mod_lt (nth x i).toNat (show 0<2 ^ (32 - s) from Nat.pow_pos a4);have h2:=Nat.mul_le_mul_right (2 ^ s) (show (nth x i).toNat % 2 ^ (32 - s)+1≤2 ^ (32 - s) by omega);rw [ziK a4,Nat.add_mul,Nat.one_mul] at h2;omega
  have hhi:(nth x i).toNat*2 ^ s / cW<2 ^ s:=by
   rw [Nat.div_lt_iff_lt_mul gH,Nat.mul_comm];exact Nat.mul_lt_mul_of_pos_left a4 (Nat.pow_pos a4)
  have hs32:2 ^ s≤2147483648:=by
   have:=Nat.pow_le_pow_right (n:=2) a4 (show s≤31 by omega);omega
  generalize hwd:(nth x i).toNat*2 ^ s=wide at *;rw [iI,Nat.mod_eq_of_lt (show wide / cW<cW by omega)];refine hnx _ ⟨by rw [List.length_set,List.length_set];exact i1,(i2.set a4).set a4,?_,?_⟩
  ·rw [gL (by rw [List.length_set,List.length_set];omega),jR b4,Int.toNat_natCast,zdD,gL b4,jR a4,Int.toNat_natCast,zdD,gL hi,Nat.add_mul,←i3,gL a4,Nat.mul_assoc,hwd]; (have e1:cW ^ (i+1) * (wide / cW)=cW ^ i* (cW* (wide / cW)):=by rw [Nat.pow_succ,Nat.mul_assoc]); (have e2:cW ^ i*wide=cW ^ i* (cW* (wide / cW))+cW ^ i* (wide % cW):=by rw [←Nat.mul_add,hdm]);rw [e1,e2,Nat.mul_add];omega
  ·rw [jR b4,Int.toNat_natCast];exact hhi
theorem zg3 {x : List Int} {s : Nat} (hl : x.length ≤ 1000000) (hx : Dig cW x) (hs : s < 32) : ∃ r, zbH x (s : Int) = some r ∧ r.length = x.length ∧ Dig cW r ∧ val cW r = val cW x / 2 ^ s := by
  have hB := hJ; have hp : 0 < 2 ^ s := Nat.pow_pos a4; have hp2 : 2 ^ (32 - s) * 2 ^ s = cW := ziK a4; unfold zbH; rw [ep (by show _ * _ ≤ _; omega)];simp only [dJ]; refine zd3 (n := x.length) (fun i (l : List Int) => l.length = x.length ∧ Dig cW l ∧ 2 ^ s * val cW (l.take i) + (nth x 0).toNat % 2 ^ s = val cW (x.take i) + cW ^ i * ((nth x i).toNat % 2 ^ s)) (fun o => ∃ r, o = some r ∧ r.length = x.length ∧ Dig cW r ∧ val cW r = val cW x / 2 ^ s) ?_ (fun l hI => ?_) (fun i l next hi hI hnx => ?_)
  · refine ⟨by simp, fN gH _, by simp [val]⟩
  · obtain ⟨i1, i2, i3⟩ := hI; rw [kj (Nat.le_refl x.length), show l.take x.length = l by rw [← i1, List.take_length], List.take_length] at i3;refine ⟨l, rfl, i1, i2, ?_⟩; (have e : val cW x = 2 ^ s * val cW l + (nth x 0).toNat % 2 ^ s := by simpa using i3.symm); rw [e, Nat.mul_add_div hp, Nat.div_eq_of_lt (Nat.mod_lt _ hp), Nat.add_zero]
  · obtain ⟨i1, i2, i3⟩ := hI; have hxi := hx.nth hi; have hx1 := zfQ hx gH (i + 1)
    have eh : shrK .u32 (nth x i) (s : Int) = (((nth x i).toNat / 2 ^ s : Nat) : Int) := by
      have := ziq (a := (nth x i).toNat) (b := s) a4; rw [Int.toNat_of_nonneg hxi.1] at this; exact this
    have hm1 := Nat.mod_lt (nth x (i + 1)).toNat hp; have q1 : (0 : Int) ≤ (((nth x i).toNat / 2 ^ s : Nat) : Int) := Int.natCast_nonneg _
    have hh : (nth x i).toNat / 2 ^ s < 2 ^ (32 - s) := by
      rw [Nat.div_lt_iff_lt_mul hp, hp2]; omega
    -- the new word
    have hnew : (nth x i).toNat / 2 ^ s + (nth x (i + 1)).toNat % 2 ^ s * 2 ^ (32 - s) < cW := by
      have h2 := Nat.mul_le_mul_right (2 ^ (32 - s)) (show (nth x (i + 1)).toNat % 2 ^ s + 1 ≤ 2 ^ s by omega); rw [Nat.mul_comm (2 ^ s), hp2, Nat.add_mul, Nat.one_mul] at h2; omega
    have hin : ∀ l' : List Int, l'.length = x.length → Dig cW l' → l'.take i = l.take i → nth l' i = (((nth x i).toNat / 2 ^ s + (nth x (i + 1)).toNat % 2 ^ s * 2 ^ (32 - s) : Nat) : Int) → l'.length = x.length ∧ Dig cW l' ∧ 2 ^ s * val cW (l'.take (i + 1)) + (nth x 0).toNat % 2 ^ s = val cW (x.take (i + 1)) + cW ^ (i + 1) * ((nth x (i + 1)).toNat % 2 ^ s) := fun l' h1 h2 h3 h4 => by
      refine ⟨h1, h2, ?_⟩; rw [gL a4, h3, h4, Int.toNat_natCast, gL hi]; have hdm := Nat.div_add_mod (nth x i).toNat (2 ^ s); generalize (nth x (i + 1)).toNat % 2 ^ s = m1 at *; generalize hmi : (nth x i).toNat % 2 ^ s = mi at *; generalize (nth x i).toNat / 2 ^ s = h at *
      have e1 : 2 ^ s * (cW ^ i * (h + m1 * 2 ^ (32 - s))) = cW ^ i * (2 ^ s * h) + cW ^ (i + 1) * m1 := by
        (have e3 : cW * m1 = 2 ^ s * (m1 * 2 ^ (32 - s)) := by rw [← hp2, Nat.mul_comm (2 ^ (32 - s)), Nat.mul_assoc, Nat.mul_comm m1]); rw [Nat.pow_succ, Nat.mul_assoc (cW ^ i) cW m1, e3, ← Nat.mul_add, Nat.mul_left_comm (2 ^ s) (cW ^ i), Nat.mul_add (2 ^ s) h]
      (have e2 : cW ^ i * (nth x i).toNat = cW ^ i * (2 ^ s * h) + cW ^ i * mi := by rw [← Nat.mul_add, hdm]); rw [Nat.mul_add, e1, e2]; omega
    rw [ep a4, ep a4, eh]; by_cases h1 : i + 1 < x.length
    · (have hw : wI (32 - (s : Int)) = ((32 - s : Nat) : Int) := by rw [fR a4]; omega); rw [decide_eq_true a4, cond_true, ep b3, hw, ep a4, Int.toNat_natCast, jR a4]; have ex : (BitVec.ofInt 64 (nth x (i + 1))).toNat = (nth x (i + 1)).toNat := jN hx1; (have ew : ((BitVec.ofInt 64 (nth x (i + 1))) <<< (32 - s)).toNat = (nth x (i + 1)).toNat * 2 ^ (32 - s) := by rw [zjH a4 a4, ex]); have hlow := zhj (x := (nth x (i + 1)).toNat) (s := 32 - s) a4; rw [show 32 - (32 - s) = s by omega] at hlow; (have hp32 : 2 ^ (32 - s) ≤ cW := by rw [← hp2]; exact Nat.le_mul_of_pos_right _ hp)
      have eor : orK .u32 (((nth x i).toNat / 2 ^ s : Nat) : Int) (IntKind.u32.wrap ((((BitVec.ofInt 64 (nth x (i + 1))) <<< (32 - s)).toNat : Nat) : Int)) = (((nth x i).toNat / 2 ^ s + (nth x (i + 1)).toNat % 2 ^ s * 2 ^ (32 - s) : Nat) : Int) := by
        rw [ew, iI, hlow, zjb a4 a4, Int.toNat_natCast, Int.toNat_natCast, zg6 hh]
      rw [eor]; exact hnx _ (hin _ (by rw [List.length_set, List.length_set]; exact i1) ((i2.set a4).set a4) (by rw [zdD, zdD]) (jR b3))
    · rw [decide_eq_false a4, cond_false]; have hz : nth x (i + 1) = 0 := kj a4; exact hnx _ (hin _ (by rw [List.length_set]; exact i1) (i2.set a4) zdD (by rw [jR a4, hz]; simp))
theorem zhD {x y:List Int}{X Y:Nat}(hx:NatIs x X)(hy:NatIs y Y):za3 x y=if X<Y then -1 else if Y<X then 1 else 0:=by
 have:=ziE hx.dig hy.dig hx.trm hy.trm;rw [hx.eq,hy.eq] at this;exact this
theorem zjh {fuel : Nat} {x y : List Int} {X Y : Nat} (hlx : x.length ≤ 1000) (hly : y.length ≤ 1000) (hf : 2000 ≤ fuel) (hx : NatIs x X) (hy : NatIs y Y) (hge : Y ≤ X) (hn2 : 2 ≤ y.length) {post : Option (List Int × List Int) → Prop} (h : ∀ q r, NatIs q (X / Y) → NatIs r (X % Y) → post (some (q, r))) {sh : Nat} (hsh : sh < 32) (v0 u0 : List Int) (hv0 : v0.length = y.length + 1) (hu0 : u0.length = x.length + 1) (dv0 : Dig cW v0) (du0 : Dig cW u0) (ev0 : val cW v0 = Y * 2 ^ sh) (eu0 : val cW u0 = X * 2 ^ sh) (htop : 2147483648 ≤ nth v0 (y.length - 1)) (hz : nth v0 y.length = 0) : post (fQ (fun (j_9 : Nat) (next8 : (List Int × List Int) → Option (List Int × List Int)) (s8 : List Int × List Int) =>
          dg (0 ≤ wI ((wI ((j_9 : Int) + (y.length : Int))) + 1) ∧ wI ((wI ((j_9 : Int) + (y.length : Int))) + 1) ≤ (s8.1.length : Int)) <|
          dg (0 ≤ (j_9 : Int) ∧ (j_9 : Int) ≤ (wI ((wI ((j_9 : Int) + (y.length : Int))) + 1) : Int)) <|
          dg (j_9 < ((wI ((wI ((j_9 : Int) + (y.length : Int))) + 1)).toNat)) <|
          (zbd fuel ((s8.1.drop j_9).take (((wI ((wI ((j_9 : Int) + (y.length : Int))) + 1)).toNat) - j_9)) (v0.take y.length)).bind fun r73 =>
          dg (0 ≤ (j_9 : Int) ∧ (j_9 : Int) < (s8.2.length : Int)) <|
          next8 ((s8.1.take j_9 ++ r73.2 ++ s8.1.drop (j_9 + (((wI ((wI ((j_9 : Int) + (y.length : Int))) + 1)).toNat) - j_9))), (s8.2.set j_9 r73.1)))
        (fun (s8 : List Int × List Int) =>
        (jo fuel s8.2).bind fun r76 =>
        dg (0 ≤ (y.length : Int) ∧ (y.length : Int) ≤ (s8.1.length : Int)) <|
        (zbH (s8.1.take y.length) (sh : Int)).bind fun r81 =>
        (jo fuel r81).bind fun r82 =>
        some (r76, r82)) ((List.replicate ((((x.length : Int) - (y.length : Int)) + 1).toNat) (0 : Int)).length) (u0, (List.replicate ((((x.length : Int) - (y.length : Int)) + 1).toNat) (0 : Int)))) := by
  have hB := hJ
  have hnx : y.length ≤ x.length := Nat.le_of_not_lt fun hlt => by
    have := zcI hx.dig hy.dig hy.trm hlt; rw [hx.eq, hy.eq] at this; omega
  have hp : 0 < 2 ^ sh := Nat.pow_pos a4
  have hYge : cW ^ (y.length - 1) ≤ Y := by
    have := zhe hy.dig hy.trm (fun e => by rw [e] at hn2; simp at hn2); rw [hy.eq] at this; exact this
  have hY0 : 0 < Y := Nat.lt_of_lt_of_le (Nat.pow_pos gH) hYge
  have hXlt : X < cW ^ x.length := by
    have := ji hx.dig; rw [hx.eq] at this; exact this
  generalize hn : y.length = n at *; rw [show (((x.length : Int) - (n : Int)) + 1).toNat = x.length - n + 1 by omega, List.length_replicate]
  -- the divisor
  have hv : val cW (v0.take n) = Y * 2 ^ sh := by
    have := gL (B := cW) (l := v0) (i := n) a4; rw [← hv0, List.take_length, ev0, hz] at this; simpa using this.symm
  (have hvl : (v0.take n).length = n := by rw [List.length_take]; omega); generalize hV : Y * 2 ^ sh = V at *; (have hV0 : 0 < V := by rw [← hV]; exact Nat.mul_pos hY0 hp)
  have hstart : val cW (u0.drop (x.length - n + 1)) < V := by
    have h1 := zeO (B := cW) (l := u0) (x.length - n + 1) a4
    have h2 : cW ^ (x.length - n + 1) * val cW (u0.drop (x.length - n + 1)) < cW ^ (x.length - n + 1) * V := by
      refine Nat.lt_of_le_of_lt (show _ ≤ X * 2 ^ sh by omega) ?_;refine Nat.lt_of_lt_of_le (Nat.mul_lt_mul_of_pos_right hXlt hp) ?_; rw [← hV, ← Nat.mul_assoc];refine Nat.mul_le_mul_right _ ?_;refine Nat.le_trans ?_ (Nat.mul_le_mul_left _ hYge); rw [← Nat.pow_add, show x.length - n + 1 + (n - 1) = x.length by omega]; exact Nat.le_refl _
    exact Nat.lt_of_mul_lt_mul_left h2
  refine zeL (n := x.length - n + 1) (fun m (s : List Int × List Int) => s.1.length = x.length + 1 ∧ Dig cW s.1 ∧ s.2.length = x.length - n + 1 ∧ Dig cW s.2 ∧ (∀ k, k < m → nth s.1 k = nth u0 k) ∧ (∀ k, m + n ≤ k → nth s.1 k = 0) ∧ val cW (s.1.drop m) < V ∧ val cW (u0.drop m) = val cW (s.2.drop m) * V + val cW (s.1.drop m)) post ?_ (fun s hI => ?_) (fun j s next hj hI hnx2 => ?_)
  · refine ⟨hu0, du0, by simp, fN gH _, fun _ _ => rfl, fun k hk => kj b5, hstart, ?_⟩; have e0 : (List.replicate (x.length - n + 1) (0 : Int)).drop (x.length - n + 1) = [] := List.drop_eq_nil_of_le a9;dsimp only; rw [e0]; simp [val]
  · obtain ⟨i1, i2, i3, i4, i5, i6, i7, i8⟩ := hI; rw [List.drop_zero] at i7; rw [List.drop_zero, List.drop_zero, List.drop_zero, eu0] at i8; obtain ⟨rq, q1, q2⟩ := zhM (fuel := fuel) (l := s.2) a4 i4
    have eu : val cW (s.1.take n) = val cW s.1 := by
      have h1 := zeO (B := cW) (l := s.1) n a4; rw [zgY gH (i2.drop n) (fun k => by rw [zft]; exact i6 _ a4), Nat.mul_zero, Nat.add_zero] at h1; exact h1.symm
    obtain ⟨r1, e1, e2, e3, e4⟩ := zg3 (x := s.1.take n) (s := sh) (by rw [List.length_take]; omega) (i2.take n) hsh; obtain ⟨rr, t1, t2⟩ := zhM (fuel := fuel) (l := r1) (by rw [e2, List.length_take]; omega) e3; rw [q1];refine fW ?_; rw [ep a4, e1];refine fW ?_; rw [t1];refine fW ?_; rw [e4, eu] at t2; generalize val cW s.2 = q at *; generalize val cW s.1 = u at *
    -- X * 2^sh = q * V + u
    rw [← hV] at i8 i7; (have hR : u / 2 ^ sh < Y := by rw [Nat.div_lt_iff_lt_mul hp]; exact i7)
    have hu : u = 2 ^ sh * (u / 2 ^ sh) := by
      have h1 := Nat.div_add_mod u (2 ^ sh)
      have h2 : u % 2 ^ sh = 0 := by
        (have h3 : (q * (Y * 2 ^ sh) + u) % 2 ^ sh = 0 := by rw [← i8]; exact Nat.mul_mod_left _ _); rw [← Nat.mul_assoc, Nat.add_mod, Nat.mul_mod_left, Nat.zero_add, Nat.mod_mod] at h3; exact h3
      omega
    generalize u / 2 ^ sh = R at *
    have hX : X = Y * q + R := by
      refine Nat.eq_of_mul_eq_mul_right hp ?_; rw [i8, hu, Nat.add_mul, Nat.mul_comm q, Nat.mul_comm (2 ^ sh) R, Nat.mul_assoc Y, Nat.mul_assoc Y, Nat.mul_comm (2 ^ sh) q]
    (have eq : X / Y = q := by rw [hX, Nat.mul_add_div hY0, Nat.div_eq_of_lt hR, Nat.add_zero]); (have er : X % Y = R := by rw [hX, Nat.mul_add_mod, Nat.mod_eq_of_lt hR]); exact h _ _ (by rw [eq]; exact q2) (by rw [er]; exact t2)
  · obtain ⟨i1, i2, i3, i4, i5, i6, i7, i8⟩ := hI
    have hw : wI ((wI ((j : Int) + (n : Int))) + 1) = ((j + n + 1 : Nat) : Int) := by
      rw [fR (x := (j : Int) + (n : Int)) a4, fR a4]; omega
    rw [hw, ep a4, ep a4, Int.toNat_natCast, ep a4, show j + n + 1 - j = n + 1 by omega]; (have hwl : ((s.1.drop j).take (n + 1)).length = n + 1 := by rw [List.length_take, List.length_drop]; omega); have hrest : val cW ((s.1.drop j).drop (n + 1)) = 0 := zgY gH ((i2.drop j).drop _) (fun k => by rw [zft, zft]; exact i6 _ a4)
    have ew : val cW ((s.1.drop j).take (n + 1)) = (nth u0 j).toNat + cW * val cW (s.1.drop (j + 1)) := by
      have h1 := zeO (B := cW) (l := s.1.drop j) (n + 1) (by rw [List.length_drop]; omega); rw [hrest, Nat.mul_zero, Nat.add_zero, zdA a4, i5 j a4] at h1; exact h1.symm
    have hu0j := du0.nth (i := j) a4
    have hq : QIn ((s.1.drop j).take (n + 1)) (v0.take n) n := by
      refine ⟨by omega, hvl, hwl, (i2.drop j).take _, dv0.take n, by rw [zhE a4]; exact htop, ?_⟩; rw [ew, hv]; have := Nat.mul_le_mul_left cW (show val cW (s.1.drop (j + 1)) + 1 ≤ V by omega); rw [Nat.mul_add, Nat.mul_one] at this; omega
    obtain ⟨u', e1, e2, e3, e4, e5⟩ := zfP (fuel := fuel) a4 hq; rw [e1];refine fW ?_; rw [ep a4]; rw [hv] at e4 ⊢
    have eu' : val cW u' = val cW ((s.1.drop j).take (n + 1)) % V := by
      have h1 := gL (B := cW) (l := u') (i := n) a4; rw [← e2, List.take_length, e5, e4] at h1; simpa using h1
    generalize hWv : val cW ((s.1.drop j).take (n + 1)) = Wv at *
    have hWlt : Wv / V < cW := by
      have := hq.lt; rw [hv, hWv] at this; rw [Nat.div_lt_iff_lt_mul hV0]; exact this
    have hdm := Nat.div_add_mod Wv V; (have htl : (s.1.take j).length = j := by rw [List.length_take]; omega)
    have hdrop : (s.1.take j ++ u' ++ s.1.drop (j + (n + 1))).drop j = u' ++ s.1.drop (j + (n + 1)) := by
      rw [List.append_assoc, List.drop_append_of_le_length a4, List.drop_eq_nil_of_le a4, List.nil_append]
    have hvd : val cW ((s.1.take j ++ u' ++ s.1.drop (j + (n + 1))).drop j) = Wv % V := by
      rw [List.drop_drop] at hrest; rw [hdrop, zho, hrest, Nat.mul_zero, Nat.add_zero, eu']
    refine hnx2 _ ⟨by dsimp only; rw [List.length_append, List.length_append, htl, e2, List.length_drop]; omega, ((i2.take j).app e3).app (i2.drop _), by dsimp only; rw [List.length_set]; exact i3, by dsimp only; exact i4.set ⟨Int.natCast_nonneg _, Int.ofNat_lt.2 hWlt⟩, fun k hk => ?_, fun k hk => ?_, by dsimp only; rw [hvd]; exact Nat.mod_lt _ hV0, ?_⟩
    · dsimp only; rw [List.append_assoc, zhz a4, zhE hk]; exact i5 k a4
    · dsimp only; rw [List.append_assoc, zhy a4, htl]; by_cases hkn : k = j + n
      · rw [zhz a4, show k - j = n by omega]; exact e5
      · rw [zhy a4, zft, e2]; exact i6 _ a4
    · dsimp only; rw [hvd, zdA (l := s.2.set j _) b3, jR a4, Int.toNat_natCast, List.drop_set_of_lt a4, zdA (l := u0) a4, i8]; (have h1 : cW * (val cW (s.2.drop (j + 1)) * V + val cW (s.1.drop (j + 1))) = cW * val cW (s.2.drop (j + 1)) * V + cW * val cW (s.1.drop (j + 1)) := by rw [Nat.mul_add, Nat.mul_assoc]); have h2 : Wv / V * V = V * (Wv / V) := Nat.mul_comm _ _; rw [h1, Nat.add_mul, h2]; omega
theorem ziO {fuel : Nat} {x y : List Int} {X Y : Nat} (hlx : x.length ≤ 1000) (hly : y.length ≤ 1000) (hf : 2000 ≤ fuel) (hx : NatIs x X) (hy : NatIs y Y) (hY : 0 < Y) : ∃ q r, zcm fuel x y = some (q, r) ∧ NatIs q (X / Y) ∧ NatIs r (X % Y) := by
  have hB := hJ; unfold zcm; rw [zhD hx hy]; by_cases hlt : X < Y
  · rw [if_pos hlt, decide_eq_true a5, cond_true]; exact ⟨[], x, rfl, by rw [Nat.div_eq_of_lt hlt]; exact .zero, by rw [Nat.mod_eq_of_lt hlt]; exact hx⟩
  · rw [if_neg hlt, decide_eq_false (by split <;> decide), cond_false]; have hp : 0 < y.length := hy.pos.2 hY; by_cases h1 : y.length = 1
    · rw [decide_eq_true a4, cond_true]; obtain ⟨d, rfl⟩ : ∃ d, y = [d] := List.length_eq_one_iff.1 h1; have hd := hy.dig.head
      have ed : Y = d.toNat := by
        have := hy.eq; simpa [val] using this.symm
      obtain ⟨q, e1, e2⟩ := zhQ (fuel := fuel) (d := d.toNat) a4 a4 hx a4 a4; rw [Int.toNat_of_nonneg hd.1] at e1; rw [zfs, e1];refine fW ?_; have hml := Nat.mod_lt X hY; rw [← ed] at e2 ⊢; obtain ⟨r, t1, t2⟩ := zhM (fuel := fuel) (l := [((X % Y : Nat) : Int)]) b9 (Dig.nil.cons a4); rw [t1]; (have e9 : val cW [((X % Y : Nat) : Int)] = X % Y := by rw [val, val, Nat.mul_zero, Nat.add_zero, Int.toNat_natCast]); rw [e9] at t2; exact ⟨q, r, rfl, e2, t2⟩
    · rw [decide_eq_false a4, cond_false, ep a4, show ((y.length : Int) - 1).toNat = y.length - 1 by omega]; have htn : nth y (y.length - 1) ≠ 0 := hy.trm.elim (fun e => by rw [e] at hp; cases hp) id; have htd := hy.dig.nth (i := y.length - 1) a4; obtain ⟨s, s1, s2, s3, s4, s5⟩ := zjD (x := (nth y (y.length - 1)).toNat) a4 a4; rw [Int.toNat_of_nonneg htd.1] at s3; rw [s3];refine fW ?_; obtain ⟨v0, v1, v2, v3, v4⟩ := zfY (x := y) (s := 32 - s) a4 hy.dig a4; obtain ⟨u0, u1, u2, u3, u4⟩ := zfY (x := x) (s := 32 - s) a4 hx.dig a4; rw [v1];refine fW ?_; rw [ep a4, u1];refine fW ?_
      have hnx : y.length ≤ x.length := Nat.le_of_not_lt fun hlt => by
        have := zcI hx.dig hy.dig hy.trm hlt; rw [hx.eq, hy.eq] at this; omega
      rw [ep a4, ep (by show _ * _ ≤ _; omega)];simp only [dJ]; rw [hy.eq] at v4; rw [hx.eq] at u4
      -- how great the divisor is
      have eY : Y = val cW (y.take (y.length - 1)) + cW ^ (y.length - 1) * (nth y (y.length - 1)).toNat := by
        have := gL (B := cW) (l := y) (i := y.length - 1) a4; rw [show y.length - 1 + 1 = y.length by omega, List.take_length, hy.eq] at this; exact this
      have htk := ji (hy.dig.take (y.length - 1)); rw [List.length_take, Nat.min_eq_left a4] at htk; (have hps : 2 ^ s * 2 ^ (32 - s) = cW := by rw [Nat.mul_comm]; exact ziK s2); (have hps1 : 2 ^ (s - 1) * 2 ^ (32 - s) = 2147483648 := by rw [← Nat.pow_add, show s - 1 + (32 - s) = 31 by omega])
      have hlo : cW ^ (y.length - 1) * 2147483648 ≤ Y * 2 ^ (32 - s) := by
        rw [← hps1, ← Nat.mul_assoc];refine Nat.mul_le_mul_right _ ?_; rw [eY]; exact Nat.le_trans (Nat.mul_le_mul_left _ s4) (Nat.le_add_left _ _)
      have hhi : Y * 2 ^ (32 - s) < cW ^ y.length := by
        have h5 : Y < cW ^ (y.length - 1) * 2 ^ s := by
          have := Nat.mul_le_mul_left (cW ^ (y.length - 1)) (show (nth y (y.length - 1)).toNat + 1 ≤ 2 ^ s by omega); rw [Nat.mul_add, Nat.mul_one] at this; rw [eY]; omega
        have h6 := Nat.mul_lt_mul_of_pos_right h5 (show 0 < 2 ^ (32 - s) from Nat.pow_pos a4); rw [Nat.mul_assoc, hps, ← Nat.pow_succ, show (y.length - 1).succ = y.length by omega] at h6; exact h6
      have hz : nth v0 y.length = 0 := by
        have h7 := zer gH v3 y.length; rw [v4, Nat.div_eq_of_lt hhi, Nat.zero_mod] at h7; have := v3.nth (i := y.length) a4; omega
      have htop : 2147483648 ≤ nth v0 (y.length - 1) := by
        have h7 := zer gH v3 (y.length - 1)
        have h8 : val cW v0 / cW ^ (y.length - 1) < cW := by
          rw [Nat.div_lt_iff_lt_mul (Nat.pow_pos gH), v4, Nat.mul_comm cW, ← Nat.pow_succ, show (y.length - 1).succ = y.length by omega]; exact hhi
        rw [Nat.mod_eq_of_lt h8, v4] at h7
        have h9 : 2147483648 ≤ Y * 2 ^ (32 - s) / cW ^ (y.length - 1) := by
          rw [Nat.le_div_iff_mul_le (Nat.pow_pos gH), Nat.mul_comm]; exact hlo
        have := v3.nth (i := y.length - 1) a4; omega
      exact zjh (post := fun o => ∃ q r, o = some (q, r) ∧ NatIs q (X / Y) ∧ NatIs r (X % Y)) hlx hly hf hx hy a4 a4 (fun q r h1 h2 => ⟨q, r, rfl, h1, h2⟩) (sh := 32 - s) a4 v0 u0 v2 u2 v3 u3 v4 u4 htop hz
theorem zhr (k:Nat):cW ^ k=2 ^ (32*k):=by rw [hJ,Nat.pow_mul]
theorem iZ (k:Nat):256 ^ k=2 ^ (8*k):=by rw [Nat.pow_mul]
@[irreducible] def fI:Nat:=256 ^ 64
theorem zgx:fI=256 ^ 64:=by unfold fI;rfl
theorem zfl {k:Nat}(h:k=512):fI=2 ^ k:=by
 (have e:8*64=k:=by omega);rw [zgx,iZ,e]
theorem zja {k:Nat}(h:512≤k):fI≤2 ^ k:=by
 obtain ⟨e,he⟩:∃e,e=512:=⟨_,rfl⟩;rw [zfl he];exact Nat.pow_le_pow_right a4 a4
theorem zgw {k:Nat}(h:k≤512):2 ^ k≤fI:=by
 obtain ⟨e,he⟩:∃e,e=512:=⟨_,rfl⟩;rw [zfl he];exact Nat.pow_le_pow_right a4 a4
structure BigIs (D:List Int) (N:Nat):Prop where
 dig:Dig 256 D
 lead:D=[]∨nth D 0≠0
 eq:val 256 D.reverse=N
theorem BigIs.trm {D:List Int}{N:Nat}(h:BigIs D N):kA D.reverse:=by
 rcases h.lead with e|e
 ·exact .inl (by rw [e];rfl)
 ·by_cases hn:D=[]
  ·exact .inl (by rw [hn];rfl)
  ·have:=List.length_pos_iff.2 hn;refine .inr ?_;rw [List.length_reverse,zfS a4,show D.length - 1 - (D.length - 1)=0 by omega];exact e
theorem BigIs.uniq {D E:List Int}{N:Nat}(h:BigIs D N)(k:BigIs E N):D=E:=by
 have:=zhL h.dig.rev k.dig.rev h.trm k.trm (h.eq.trans k.eq.symm);exact List.reverse_inj.1 this
theorem BigIs.nil {D:List Int}{N:Nat}(h:BigIs D N):D=[]↔N=0:=by
 rw [←h.eq,zgA h.dig.rev h.trm a5,List.reverse_eq_nil_iff]
theorem BigIs.pos {D:List Int}{N:Nat}(h:BigIs D N):0<D.length↔0<N:=by
 have:=h.nil;rw [List.length_pos_iff];constructor
 ·intro e;rcases Nat.eq_zero_or_pos N with z|z
  ·exact absurd (this.2 z) e
  ·exact z
 ·intro e z;have:=this.1 z;omega
theorem BigIs.len {D:List Int}{N k:Nat}(h:BigIs D N)(hk:N<256 ^ k):D.length≤k:=by
 by_cases hn:D=[]
 ·rw [hn];exact Nat.zero_le _
 ·have:=zhe h.dig.rev h.trm (by rw [ne_eq,List.reverse_eq_nil_iff];exact hn);rw [h.eq] at this;have h2:=Nat.lt_of_le_of_lt this hk;have:=(Nat.pow_lt_pow_iff_right (show 1<256 by decide)).1 h2;rw [List.length_reverse] at this;omega
theorem BigIs.lt {D:List Int}{N:Nat}(h:BigIs D N):N<256 ^ D.length:=by
 have:=ji h.dig.rev;rw [h.eq,List.length_reverse] at this;exact this
theorem ziY {x:List Int}{X:Nat}(hl:x.length≤1000000)(hx:NatIs x X):∃s:Nat,zaR x=some (s:Int)∧(X=0→s=0)∧(0<X→1≤s∧2 ^ (s - 1)≤X)∧X<2 ^ s∧s≤32*x.length:=by
 unfold zaR;by_cases hn:x=[]
 ·have h0:=hx.nil.1 hn;subst hn;exact ⟨0,rfl,fun _=>rfl,fun h=>by omega,by omega,Nat.zero_le _⟩
 ·have hp:=List.length_pos_iff.2 hn;have hX:=hx.pos.1 hp;have htd:=hx.dig.nth (i:=x.length - 1) a4;have htn:nth x (x.length - 1)≠0:=hx.trm.elim (fun e=>absurd e hn) id;have hB:=hJ;obtain ⟨s,s1,s2,s3,s4,s5⟩:=zik (x:=(nth x (x.length - 1)).toNat) a4 a4;rw [Int.toNat_of_nonneg htd.1] at s3;rw [decide_eq_false a4,cond_false,ep a4,show ((x.length:Int) - 1).toNat=x.length - 1 by omega,s3];refine fW ?_
  have eX:X=val cW (x.take (x.length - 1))+cW ^ (x.length - 1) * (nth x (x.length - 1)).toNat:=by
   have:=gL (B:=cW) (l:=x) (i:=x.length - 1) a4;rw [show x.length - 1+1=x.length by omega,List.take_length,hx.eq] at this;exact this
  have htk:=ji (hx.dig.take (x.length - 1));rw [List.length_take,Nat.min_eq_left a4] at htk;refine ⟨32* (x.length - 1)+s,?_,fun h=>by omega,fun _=>⟨by omega,?_⟩,?_,by omega⟩
  ·rw [fR (x:=32* ((x.length:Int) - 1)) a4,fR a4];congr 1;omega
  ·rw [show 32* (x.length - 1)+s - 1=32* (x.length - 1)+(s - 1) by omega,Nat.pow_add,←zhr,eX];exact Nat.le_trans (Nat.mul_le_mul_left _ s4) (Nat.le_add_left _ _)
  ·rw [Nat.pow_add,←zhr,eX];have:=Nat.mul_le_mul_left (cW ^ (x.length - 1)) (show (nth x (x.length - 1)).toNat+1≤2 ^ s by omega);rw [Nat.mul_add,Nat.mul_one] at this;omega
theorem u8n (m:Nat):IntKind.u8.wrap (m:Int)=((m % 256:Nat):Int):=by
 refine q2Z ?_;simp
theorem zis {x : List Int} {X : Nat} (hl : x.length ≤ 100000) (hx : NatIs x X) : ∃ D, za1 x = some D ∧ BigIs D X := by
  obtain ⟨s, h1, h2, h3, h4, h5⟩ := ziY a4 hx; (have hw7 : wI ((s : Int) + 7) = ((s + 7 : Nat) : Int) := by rw [fR a4]; omega); unfold za1; rw [h1];refine fW ?_; rw [hw7, ep a4]; by_cases h0 : X = 0
  · rw [h2 h0, decide_eq_true a5, cond_true]; exact ⟨[], rfl, Dig.nil, .inl rfl, by rw [h0]; rfl⟩
  · obtain ⟨h6, h7⟩ := h3 a4; rw [decide_eq_false a4, cond_false, ep a4, show (((s + 7 : Nat) : Int) / 8).toNat = (s + 7) / 8 by omega, ep (by show _ * _ ≤ _; omega)];simp only [dJ]; rw [List.length_replicate, show ((s + 7 : Nat) : Int) / 8 = (((s + 7) / 8 : Nat) : Int) by omega]; generalize hn : (s + 7) / 8 = n at *; (have hw1 : wI (((n : Nat) : Int) - 1) = ((n - 1 : Nat) : Int) := by rw [fR a4]; omega); rw [hw1]; (have hXn : X < 256 ^ n := by rw [iZ]; exact Nat.lt_of_lt_of_le h4 (Nat.pow_le_pow_right a4 a4)); refine zd3 (n := n) (fun i (l : List Int) => l.length = n ∧ Dig 256 l ∧ ∀ k, k < i → nth l (n - 1 - k) = ((X / 256 ^ k % 256 : Nat) : Int)) (fun o => ∃ D, o = some D ∧ BigIs D X) ?_ (fun l hI => ?_) (fun i l next hi hI hnx => ?_)
    · exact ⟨by simp, fN a5 _, fun k hk => absurd hk (Nat.not_lt_zero k)⟩
    · obtain ⟨i1, i2, i3⟩ := hI; refine ⟨l, rfl, i2, ?_, ?_⟩
      · by_cases he : l = []
        · exact .inl he
        · refine .inr ?_; have h8 := i3 (n - 1) a4; rw [show n - 1 - (n - 1) = 0 by omega] at h8; rw [h8]
          have h9 : 1 ≤ X / 256 ^ (n - 1) := by
            rw [Nat.le_div_iff_mul_le (Nat.pow_pos a5), Nat.one_mul, iZ]; exact Nat.le_trans (Nat.pow_le_pow_right a4 a4) h7
          have h10 : X / 256 ^ (n - 1) < 256 := by
            rw [Nat.div_lt_iff_lt_mul (Nat.pow_pos a5), Nat.mul_comm, ← Nat.pow_succ, show (n - 1).succ = n by omega]; exact hXn
          rw [Nat.mod_eq_of_lt h10]; omega
      · refine zfd a5 (fun k hk => ?_) (by rw [List.length_reverse, i1]; exact hXn); rw [List.length_reverse] at hk; rw [zfS hk, i1, i3 k a4, Int.toNat_natCast]
    · obtain ⟨i1, i2, i3⟩ := hI
      have h4i : i / 4 < x.length := by
        -- a digit lies in a word
        omega
      (have hw2 : wI (8 * ((i : Int) % 4)) = ((8 * (i % 4) : Nat) : Int) := by rw [fR a4]; omega); (have hw3 : wI (((n - 1 : Nat) : Int) - (i : Int)) = ((n - 1 - i : Nat) : Int) := by rw [fR a4]; omega); rw [hw2, hw3, ep a4, ep a4, ep a4, ep a4, ep a4, show ((i : Int) / 4).toNat = i / 4 by omega, Int.toNat_natCast]; have hxd := hx.dig.nth h4i; have hdg := zer gH hx.dig (i / 4); rw [hx.eq] at hdg
      have esh : shrK .u32 (nth x (i / 4)) ((8 * (i % 4) : Nat) : Int) = (((nth x (i / 4)).toNat / 2 ^ (8 * (i % 4)) : Nat) : Int) := by
        have := ziq (a := (nth x (i / 4)).toNat) (b := 8 * (i % 4)) a4; rw [Int.toNat_of_nonneg hxd.1] at this; exact this
      have e : (nth x (i / 4)).toNat / 2 ^ (8 * (i % 4)) % 256 = X / 256 ^ i % 256 := by
        rw [hdg, ← iZ]; (have e1 : 256 ^ i = cW ^ (i / 4) * 256 ^ (i % 4) := by rw [zgM, ← Nat.pow_mul, ← Nat.pow_add, Nat.div_add_mod])
        have e2 : cW = 256 ^ (i % 4) * (256 * 256 ^ (3 - i % 4)) := by
          rw [zgM, Nat.mul_left_comm, ← Nat.pow_add, show i % 4 + (3 - i % 4) = 3 by omega]
        rw [e1, ← Nat.div_div_eq_div_mul]; generalize X / cW ^ (i / 4) = Z; rw [e2, Nat.mod_mul_right_div_self, Nat.mod_mul_right_mod]
      rw [esh, u8n, e]; have hm := Nat.mod_lt (X / 256 ^ i) (show 0 < 256 by decide); refine hnx _ ⟨by rw [List.length_set]; exact i1, i2.set ⟨Int.natCast_nonneg _, Int.ofNat_lt.2 hm⟩, fun k hk => ?_⟩; by_cases hki : k = i
      · subst hki; rw [jR a4]
      · rw [zek a4]; exact i3 k a4
theorem zhK {x:List Int}{X:Nat}{neg:Bool}(hl:x.length≤100000)(hx:NatIs x X)(h:X<fI):∃D,zbN neg x=some (⟨neg&&decide (0<X),D⟩,0)∧BigIs D X:=by
 obtain ⟨s,h1,h2,h3,h4,h5⟩:=ziY a4 hx;obtain ⟨D,d1,d2⟩:=zis hl hx;unfold zbN;rw [h1];refine fW ?_
 have hs:¬512<s:=fun hc=>by
  have h0:0<X:=by
   rcases Nat.eq_zero_or_pos X with z|z
   ·have:=h2 z;omega
   ·exact z
  have:=zja (k:=s - 1) a4;exact Nat.lt_irrefl _ (Nat.lt_of_lt_of_le h (Nat.le_trans this (h3 h0).2))
 rw [decide_eq_false a4,cond_false,d1];refine fW ?_;refine ⟨D,?_,d2⟩;have e:decide (0<(x.length:Int))=decide (0<X):=decide_eq_decide.2 (by rw [←hx.pos];omega);rw [e]
abbrev dT (g:GInt):Nat:=val 256 g.Digits.reverse
structure VI (g:GInt):Prop where
 len:g.Digits.length≤64
 lead:g.Digits=[]∨nth g.Digits 0≠0
 sgn:g.Digits=[]→g.Neg=false
theorem VI.big {g:GInt}(h:VI g)(hd:Dig 256 g.Digits):BigIs g.Digits (dT g):=⟨hd,h.lead,rfl⟩
theorem VI.lt {g:GInt}(h:VI g)(hd:Dig 256 g.Digits):dT g<fI:=by
 have:=(h.big hd).lt;rw [iZ] at this;exact Nat.lt_of_lt_of_le this (zgw (by have:=h.len;omega))
theorem VI.of {D:List Int}{N:Nat}{neg:Bool}(h:BigIs D N)(hN:N<fI):VI ⟨neg&&decide (0<N),D⟩:=by
 refine ⟨h.len (by rw [←zgx];exact hN),h.lead,fun e=>?_⟩;have:=h.nil.1 e;rw [decide_eq_false a4,Bool.and_false]
theorem jY {D:List Int}{N:Nat}(h:BigIs D N)(hN:N<fI):VI ⟨false,D⟩:=⟨h.len (by rw [←zgx];exact hN),h.lead,fun _=>rfl⟩
theorem zfB {g:GInt}(h:VI g):kg g=some true:=by
 unfold kg;by_cases h0:g.Digits=[]
 ·rw [h.sgn h0,h0];rfl
 ·have:=List.length_pos_iff.2 h0;have h1:=h.lead.elim (fun e=>absurd e h0) id;have h2:=h.len;rw [decide_eq_false a4,cond_false];simp only [dJ];rw [decide_eq_true a4,cond_true,ep a4,decide_eq_true h1]
theorem zhl {g:GInt}(h:¬VI g):kg g=some false:=by
 unfold kg;by_cases h0:g.Digits=[]
 ·cases hn:g.Neg with
  |false=>exact absurd ⟨by rw [h0];decide, .inl h0,fun _=>hn⟩ h
  |true=>rw [h0];rfl
 ·have:=List.length_pos_iff.2 h0;rw [decide_eq_false a4,cond_false];simp only [dJ];by_cases h1:g.Digits.length≤64
  ·rw [decide_eq_true a4,cond_true,ep a4];by_cases h2:nth g.Digits 0=0
   ·rw [h2];rfl
   ·exact absurd ⟨h1, .inr h2,fun e=>absurd e h0⟩ h
  ·rw [decide_eq_false a4,cond_false]
theorem zjp {g:GInt}(h:¬VI g):zbM g=some 0:=by
 unfold zbM;rw [zhl h];rfl
theorem ziW {g:GInt}(h:VI g)(hd:Dig 256 g.Digits):zbM g=some (if dT g=0 then 0 else if g.Neg=true then -1 else 1):=by
 unfold zbM;rw [zfB h];have hn:=(h.big hd).nil;refine fW ?_;by_cases h0:g.Digits=[]
 ·rw [if_pos (hn.1 h0),h0];rfl
 ·have:=List.length_pos_iff.2 h0;rw [if_neg (fun e=>h0 (hn.2 e)),decide_eq_false a4]
  cases g.Neg <;> rfl
theorem lw {σ ρ:Type}{f:(σ→Option ρ)→σ→Option ρ}(I:σ→Nat→Nat→Prop)(post:Option ρ→Prop)(G:Nat)(hend:∀s next,I s G 0→post (f next s))(hstep:∀s next X Y,I s X Y→0<Y→(∀s',I s' Y (X % Y)→post (next s'))→post (f next s)):∀k m s X Y,I s X Y→X*Y<2 ^ k→Y≤X→Nat.gcd X Y=G→k+2≤m→post (eR f m s):=by
 intro k
 induction k with
 |zero=>
  intro m s X Y hI hk hle hG hm;obtain ⟨m',rfl⟩:∃q,m=q+1:=⟨m - 1,by omega⟩
  have h0:Y=0:=by
   rcases Nat.eq_zero_or_pos Y with z|z
   ·exact z
   ·have:=Nat.mul_le_mul (show 1≤X by omega) z;omega
  subst h0;rw [zgZ];rw [Nat.gcd_zero_right] at hG;subst hG;exact hend _ _ hI
 |succ k ih=>
  intro m s X Y hI hk hle hG hm;obtain ⟨m',rfl⟩:∃q,m=q+1:=⟨m - 1,by omega⟩;rw [zgZ];rcases Nat.eq_zero_or_pos Y with z|z
  ·subst z;rw [Nat.gcd_zero_right] at hG;subst hG;exact hend _ _ hI
  ·refine hstep _ _ X Y hI z (fun s' hI'=>ih m' s' Y (X % Y) hI' ?_ (Nat.le_of_lt (Nat.mod_lt _ z)) ?_ a4)
   ·have h1:=Nat.mod_lt X z
    have h2:X % Y+Y≤X:=by
     have h3:=Nat.div_add_mod X Y; (have h4:1≤X / Y:=by rw [Nat.le_div_iff_mul_le z];omega);have h5:=Nat.mul_le_mul_left Y h4;omega
    have h6:=Nat.mul_le_mul_right Y (show 2* (X % Y)≤X by omega);rw [Nat.mul_assoc,Nat.mul_comm (X % Y) Y] at h6;rw [Nat.pow_succ] at hk;omega
   ·rw [←hG,Nat.gcd_comm X Y,Nat.gcd_rec Y X,Nat.gcd_comm]
theorem j2 {σ ρ:Type}{f:(σ→Option ρ)→σ→Option ρ}(I:σ→Nat→Nat→Prop)(post:Option ρ→Prop){k m:Nat}{s:σ}{X Y:Nat}(hI:I s X Y)(hk:X*Y<2 ^ k)(hm:k+3≤m)(hend:∀s next,I s (Nat.gcd X Y) 0→post (f next s))(hstep:∀s next X Y,I s X Y→0<Y→(∀s',I s' Y (X % Y)→post (next s'))→post (f next s)):post (eR f m s):=by
 by_cases hle:Y≤X
 ·exact lw I post (Nat.gcd X Y) hend hstep k m s X Y hI hk hle rfl a4
 ·obtain ⟨m',rfl⟩:∃q,m=q+1:=⟨m - 1,by omega⟩;rw [zgZ];refine hstep _ _ X Y hI a4 (fun s' hI'=>?_);rw [Nat.mod_eq_of_lt a4] at hI';exact lw I post (Nat.gcd X Y) hend hstep k m' s' Y X hI' (by rw [Nat.mul_comm];exact hk) a4 (Nat.gcd_comm _ _) a4
theorem zjk {X Y K:Nat}(hX:X<K)(hY:Y<K):Nat.gcd X Y<K:=by
 rcases Nat.eq_zero_or_pos X with z|z
 ·subst z;rw [Nat.gcd_zero_left];exact hY
 ·exact Nat.lt_of_le_of_lt (Nat.gcd_le_left Y z) hX
theorem GCD_x {fuel:Nat}{a b:GInt}(hf:2000≤fuel)(ha:VI a)(hb:VI b)(da:Dig 256 a.Digits)(db:Dig 256 b.Digits):∃D,zcE fuel a b=some (⟨false,D⟩,0)∧BigIs D (Nat.gcd (dT a) (dT b)):=by
 have la:=ha.len;have lb:=hb.len;have va:=ha.lt da;have vb:=hb.lt db;obtain ⟨x,x1,x2⟩:=zgB (fuel:=fuel) a4 a4 da;obtain ⟨y,y1,y2⟩:=zgB (fuel:=fuel) a4 a4 db;unfold zcE;rw [zfB ha,zfB hb];simp only [Option.bind_some,dJ,Bool.not_true,cond_false];rw [x1];refine fW ?_;rw [y1];refine fW ?_;obtain ⟨e,he⟩:∃e,e=512:=⟨_,rfl⟩;obtain ⟨k16,h16k⟩:∃k,k=16:=⟨_,rfl⟩; (have h16:cW ^ k16=fI:=by rw [zhr,zfl (k:=32*k16) a4]);refine j2 (fun (s:List Int×List Int) X Y=>NatIs s.1 X∧NatIs s.2 Y∧X<fI∧Y<fI) (fun (o:Option (GInt×Int))=>∃D,o=some (GInt.mk false D,0)∧BigIs D (Nat.gcd (dT a) (dT b))) (k:=e+e) (X:=dT a) (Y:=dT b) (s:=(x,y)) (show NatIs x (dT a)∧NatIs y (dT b)∧dT a<fI∧dT b<fI from ⟨x2,y2,va,vb⟩) ?_ a4 (fun s next hI=>?_) (fun s next X Y hI hY hnx=>?_)
 ·have:=Nat.mul_lt_mul'' va vb;rw [zfl he,←Nat.pow_add] at this;exact this
 ·obtain ⟨i1,i2,i3,i4⟩:=hI;have e0:=i2.nil.2 rfl;rw [e0];rw [decide_eq_false a5,cond_false];have hl:=i1.len (k:=k16) (by rw [h16];exact i3);obtain ⟨D,d1,d2⟩:=zhK (neg:=false) a4 i1 i3;rw [d1];exact ⟨D,rfl,d2⟩
 ·obtain ⟨i1,i2,i3,i4⟩:=hI;have hp:=i2.pos.2 hY;have l1:=i1.len (k:=k16) (by rw [h16];exact i3);have l2:=i2.len (k:=k16) (by rw [h16];exact i4);rw [decide_eq_true a4,cond_true];obtain ⟨q,r,e1,e2,e3⟩:=ziO (fuel:=fuel) a4 a4 hf i1 i2 hY;rw [e1];refine fW ?_;exact hnx _ ⟨i2,e3,i4,Nat.lt_trans (Nat.mod_lt _ hY) i4⟩
theorem GCD_f {fuel:Nat}{a b:GInt}(h:¬(VI a∧VI b)):zcE fuel a b=some (⟨false,[]⟩,2):=by
 unfold zcE;by_cases ha:VI a
 ·rw [zfB ha,zhl (fun hb=>h ⟨ha,hb⟩)];rfl
 ·rw [zhl ha];rfl
theorem Of_x {fuel:Nat}{n:Int}(hf:2000≤fuel)(hn: -9223372036854775808≤n∧n≤9223372036854775807):∃D,zdp fuel n=some ⟨decide (n<0),D⟩∧BigIs D n.natAbs:=by
 have hB:=hJ
 have key:∀u:BitVec 64,u.toNat=n.natAbs→∃D,((jo fuel [(IntKind.u32.wrap (u.toNat:Int)),(IntKind.u32.wrap ((u >>> 32).toNat:Int))]).bind fun r21=>
  (zbN (decide (n<0)) r21).bind fun r22=>
  some r22.1)=some ⟨decide (n<0),D⟩∧BigIs D n.natAbs:=fun u hu=>by
  have hlt:=u.isLt;rw [zhq,iI,iI];obtain ⟨r,t1,t2⟩:=zhM (fuel:=fuel) (l:=[((u.toNat % cW:Nat):Int),((u.toNat / 2 ^ 32 % cW:Nat):Int)]) cM ((Dig.nil.cons ⟨Int.natCast_nonneg _,Int.ofNat_lt.2 (Nat.mod_lt _ gH)⟩).cons ⟨Int.natCast_nonneg _,Int.ofNat_lt.2 (Nat.mod_lt _ gH)⟩)
  have ev:val cW [((u.toNat % cW:Nat):Int),((u.toNat / 2 ^ 32 % cW:Nat):Int)]=n.natAbs:=by
   rw [val,val,val,Int.toNat_natCast,Int.toNat_natCast,←hu,hB];omega
  rw [ev] at t2;rw [t1];refine fW ?_;have hl:=t2.len (k:=2) (by rw [hB];omega);have h512:n.natAbs<fI:=Nat.lt_of_lt_of_le (show n.natAbs<2 ^ 64 by omega) (zgw a4);obtain ⟨D,d1,d2⟩:=zhK (neg:=decide (n<0)) a4 t2 h512;rw [d1];refine ⟨D,?_,d2⟩;refine fW ?_
  congr 2
  by_cases h:n<0
  ·rw [decide_eq_true h,decide_eq_true a4];rfl
  ·rw [decide_eq_false h];rfl
 unfold zdp;simp only [dJ];by_cases h:n<0
 ·rw [decide_eq_true h,cond_true]
  have:=key (-(BitVec.ofInt 64 n)) (by
   rw [BitVec.toNat_neg,BitVec.toNat_ofInt];omega)
  rw [decide_eq_true h] at this;exact this
 ·rw [decide_eq_false h,cond_false];have:=key (BitVec.ofInt 64 n) (by rw [ofI a4];omega);rw [decide_eq_false h] at this;exact this
def zI (g:GInt):Int:=if g.Neg=true then -(dT g:Int) else (dT g:Int)
theorem zf5 {fuel:Nat}{a b:GInt}(hf:2000≤fuel)(ha:VI a)(hb:VI b)(da:Dig 256 a.Digits)(db:Dig 256 b.Digits):zbC fuel a b=some (if zI a<zI b then -1 else if zI b<zI a then 1 else 0):=by
 have la:=ha.len;have lb:=hb.len;have na:a.Neg=true→0<dT a:=fun h=>(ha.big da).pos.1 (List.length_pos_iff.2 fun e=>by rw [ha.sgn e] at h;cases h);have nb:b.Neg=true→0<dT b:=fun h=>(hb.big db).pos.1 (List.length_pos_iff.2 fun e=>by rw [hb.sgn e] at h;cases h);obtain ⟨x,x1,x2⟩:=zgB (fuel:=fuel) a4 a4 da;obtain ⟨y,y1,y2⟩:=zgB (fuel:=fuel) a4 a4 db;unfold zbC;rw [zfB ha,zfB hb];simp only [Option.bind_some,dJ,Bool.not_true,cond_false];rw [x1];refine fW ?_;rw [y1];refine fW ?_;change NatIs x (dT a) at x2;change NatIs y (dT b) at y2;rw [zhD x2 y2];unfold zI;generalize dT a=A at *;generalize dT b=B at*
 cases hA:a.Neg <;> cases hC:b.Neg
 ·simp only [beq_self_eq_true,Bool.not_true,cond_false,Bool.false_eq_true,if_false]
  congr 1
  repeat' split
  all_goals omega
 ·have:=nb hC
  show some 1=some _
  simp only [Bool.false_eq_true,if_false,if_true];rw [if_neg a4,if_pos a4]
 ·have:=na hA
  show some (-1)=some _
  simp only [Bool.false_eq_true,if_false,if_true];rw [if_pos a4]
 ·simp only [beq_self_eq_true,Bool.not_true,cond_false,cond_true,if_true]
  congr 1
  repeat' split
  all_goals first|omega|(exfalso;omega)|rfl
structure VR (p:GRatio):Prop where
 num:VI p.Num
 den:VI p.Den
 neg:p.Den.Neg=false
 pos:0<dT p.Den
 gcd:Nat.gcd (dT p.Num) (dT p.Den)=1
theorem ziv {fuel:Nat}{p:GRatio}(hf:2000≤fuel)(dn:Dig 256 p.Num.Digits)(dd:Dig 256 p.Den.Digits):∃b,zb4 fuel p=some b∧(b=true↔VR p):=by
 unfold zb4;by_cases hd:VI p.Den
 ·rw [ziW hd dd];refine fW ?_;by_cases h0:dT p.Den=0
  ·rw [if_pos h0,decide_eq_true a5,cond_true];exact ⟨false,rfl,fun h=>(by cases h),fun h=>(by have:=h.pos;omega)⟩
  ·rw [if_neg h0]
   cases hn:p.Den.Neg with
   |true=>
    exact ⟨false,rfl,fun h=>(by cases h),fun h=>(by have:=h.neg;rw [hn] at this;cases this)⟩
   |false=>
    rw [if_neg a9,decide_eq_false a5,cond_false];by_cases hN:VI p.Num
    ·obtain ⟨D,d1,d2⟩:=GCD_x (fuel:=fuel) hf hN hd dn dd;obtain ⟨E,e1,e2⟩:=Of_x (fuel:=fuel) (n:=1) hf a4;have hG:=zjk (hN.lt dn) (hd.lt dd);rw [d1];simp only [Option.bind_some,dJ];rw [decide_eq_true trivial,cond_true,e1];refine fW ?_;have h1:(1:Int).natAbs=1:=rfl;rw [h1] at e2
     rw [zf5 hf (jY d2 hG) (by
      have:=jY e2 (Nat.lt_of_lt_of_le (show 1<2 ^ 1 by decide) (zgw a4))
      exact this) d2.dig e2.dig]
     refine fW ?_;refine ⟨_,rfl,?_⟩
     have z1:zI ⟨false,D⟩=(Nat.gcd (dT p.Num) (dT p.Den):Int):=by
      unfold zI dT;rw [if_neg a9];rw [d2.eq]
     have z2:zI ⟨decide ((1:Int)<0),E⟩=1:=by
      unfold zI dT;rw [if_neg a9];rw [e2.eq];rfl
     rw [z1,z2,decide_eq_true_eq];constructor
     ·intro h;refine ⟨hN,hd,hn,by omega,?_⟩
      split at h
      ·cases h
      ·split at h
       ·cases h
       ·omega
     ·intro h;rw [h.gcd];rfl
    ·rw [GCD_f (fun h=>hN h.1)];exact ⟨false,rfl,fun h=>(by cases h),fun h=>absurd h.num hN⟩
 ·rw [zjp hd];exact ⟨false,rfl,fun h=>(by cases h),fun h=>absurd h.den hd⟩
def Vec.blit {n:Nat}{α:Type}(x:Vec n α)(i:Nat)(ys:List α):Vec n α:=⟨x.1.take i++ys.take (n - i)++x.1.drop (i+min ys.length (n - i)),by
 rw [List.length_append,List.length_append,List.length_take,List.length_take,List.length_drop,x.2];omega⟩
theorem arU {P:Program}{t c e k:Nat}(h:zhY P t=some (c,e,k)):P.underlying t=some (.array c e)∧∃i,P.info? e=some i∧i.size=k:=by
 unfold zhY at h
 split at h
 ·rename_i cc el hU
  cases hi:P.info? el with
  |none=>rw [hi] at h;cases h
  |some inf=>rw [hi] at h;cases h;exact ⟨hU,inf,hi,rfl⟩
 ·cases h
theorem slU {P:Program}{t e k:Nat}(h:ze9 P t=some (e,k)):P.underlying t=some (.slice e)∧∃i,P.info? e=some i∧i.size=k:=by
 unfold ze9 at h
 split at h
 ·rename_i el hU
  cases hi:P.info? el with
  |none=>rw [hi] at h;cases h
  |some inf=>rw [hi] at h;cases h;exact ⟨hU,inf,hi,rfl⟩
 ·cases h
theorem zfR {c : Nat} {α : Type} {x : Vec c α} {f : α → Value} {A B : List Value} {lo n p : Nat} {ys : List α} (hA : A.length = p) (hlo : lo ≤ c) (hn : n = min ys.length (c - lo)) :
    (A ++ (x.1.map f ++ B)).take (p + lo) ++ (ys.map f).take n ++ (A ++ (x.1.map f ++ B)).drop (p + lo + n) = A ++ ((x.blit lo ys).1.map f ++ B) := by
  subst hA hn; have hx := x.2
  have h1 : (A ++ (x.1.map f ++ B)).take (A.length + lo) = A ++ (x.1.map f).take lo := by
    rw [List.take_length_add_append, List.take_append_of_le_length (by simp [hx]; omega)]
  have h2 : (A ++ (x.1.map f ++ B)).drop (A.length + lo + min ys.length (c - lo)) = (x.1.map f).drop (lo + min ys.length (c - lo)) ++ B := by
    rw [Nat.add_assoc, List.drop_length_add_append, List.drop_append_of_le_length (by simp [hx]; omega)]
  rw [h1, h2]; unfold Vec.blit;simp only [List.map_append, List.map_take, List.map_drop, List.append_assoc]
  congr 3
  rw [← List.map_take, ← List.map_take]
  congr 1
  rcases Nat.le_total ys.length (c - lo) with h | h
  · rw [Nat.min_eq_left h, List.take_length, List.take_of_length_le h]
  · rw [Nat.min_eq_right h]
theorem flat1 {α:Type}{cs:List (List α)}(hr:∀c∈cs,c.length=1):cs.flatten.length=cs.length:=by
 induction cs with
 |nil=>rfl
 |cons c r ih=>rw [List.flatten_cons,List.length_append,ih (fun c' h'=>hr c' (List.mem_cons_of_mem _ h')),hr c List.mem_cons_self,List.length_cons];omega
theorem load0 {P:Program}(w:World)(A:Addr):(loadCells A 0).run P w= .ok #[] w:=by
 simpa using run_loadCells_list (P:=P) w A [] (fun j v hj=>by simp at hj)
theorem zhN {p a b c:List Value}{off:Nat}(hp:p.length=off)(h:a.length=b.length):zeE (p++(a++c)) off b=p++(b++c):=by
 subst hp;unfold zeE;rw [List.take_left' rfl,List.drop_length_add_append,←h,List.drop_left' rfl,List.append_assoc]
theorem zie {c : Nat} {x : Vec c Int} {k : IntKind} {A B : List Value} {lo m p : Nat} (hA : A.length = p) (hlo : lo ≤ c) (hm : m = c - lo) :
    (A ++ (x.1.map (Value.int k) ++ B)).take (p + lo) ++ List.replicate m (Value.int k 0) ++ (A ++ (x.1.map (Value.int k) ++ B)).drop (p + lo + m) = A ++ ((x.blit lo (List.replicate m 0)).1.map (Value.int k) ++ B) := by
  have h := zfR (x := x) (f := Value.int k) (A := A) (B := B) (lo := lo) (n := m) (p := p) (ys := List.replicate m 0) hA hlo (by rw [List.length_replicate]; omega); rw [← h, List.map_replicate, List.take_of_length_le (show (List.replicate m (Value.int k 0)).length ≤ m by rw [List.length_replicate]; omega)]
theorem zgK {c:Nat}{α:Type}{x:Vec c α}{lo:Nat}{ys:List α}(h:min ys.length (c - lo)=0):x.blit lo ys=x:=by
 apply Subtype.ext;have hx:=x.2;have:ys.take (c - lo)=[]:=List.eq_nil_of_length_eq_zero b8
 show x.1.take lo++ys.take (c - lo)++x.1.drop (lo+min ys.length (c - lo))=x.1
 rw [this,h,List.append_nil,Nat.add_zero,List.take_append_drop]
theorem zhw {c:Nat}{α:Type}{x:Vec c α}{f:α→Value}{A B:List Value}{p:Nat}(hA:A.length=p):((A++(x.1.map f++B)).drop p).take c=x.1.map f:=by
 rw [List.drop_left' hA,List.take_left' (by rw [List.length_map,x.2])]
theorem zil {c c2 : Nat} {α : Type} {x : Vec c α} {x2 : Vec c2 α} {f : α → Value} {A B A2 B2 : List Value} {p p2 : Nat} (hA : A.length = p) (hA2 : A2.length = p2) (h : c2 ≤ c) :
    (A ++ (x.1.map f ++ B)).take p ++ ((A2 ++ (x2.1.map f ++ B2)).drop p2).take c2 ++ (A ++ (x.1.map f ++ B)).drop (p + c2) = A ++ ((x.blit 0 x2.1).1.map f ++ B) := by
  have h9 := zfR (x := x) (f := f) (A := A) (B := B) (lo := 0) (n := c2) (p := p) (ys := x2.1) hA (Nat.zero_le _) (by rw [x2.2]; omega); rw [zhw hA2, ← h9, List.take_of_length_le (show (x2.1.map f).length ≤ c2 by rw [List.length_map, x2.2]; exact Nat.le_refl _)]; rfl
theorem zeX {k:IntKind}{xs:List Int}:(xs.map (eK k)).flatten=xs.map (Value.int k):=by
 induction xs with
 |nil=>rfl
 |cons x l ih=>rw [List.map_cons,List.flatten_cons,ih];rfl
section
variable {Fe:Fence}[hFe:Calm Fe]{P:Program}{n:Nat}{B D:World}{M S0:Nat→Prop}{Q:Exit→Act→World→Prop}{fs:dV}{hs:HS}{ops:Array Oper}{rest:List Oper}{o:Oper}{v val:Value}
theorem Yv.cj (ix:Nat){F:FzB B M S0}{α:Type}[Inhabited α]{enc:α→List Value}{t:TypeId}{q:Nat}[hT:TyA P t q]{k i p g m:Nat}{xs:List α}{x:Operand}{l:List Value}(ho:o.op= .load t x)(hx:ev fs x=some (.pointer (some ⟨g,p,none⟩)))(hF:hs[ix]?=some (.fr F))(h:SlC F.toFrz (.slice (some ⟨g,0,none⟩) m m) k (xs.map enc))(hi:i<xs.length)(hp:p=i*k)(hv:(enc (nth xs i))=l)(hl:l.length=q):Yv P n B M fs hs o (.agg l.toArray):=
 gQ ix (v:= .slice (some ⟨g,0,none⟩) m m) (p:=p) ho (by rw [hx,ka,Nat.zero_add]) hF h hi hp hv hl
theorem jl {t e c k g p:Nat}{x:Operand}[hT:TyAr P t c e k](ho:o.op= .slice t x none none none)(hx:ev fs x=some (.pointer (some ⟨g,p,none⟩)))(hc:0<c):Yv P n B M fs hs o (.slice (some ⟨g,p,none⟩) c c):=fun a w ha _=>by
 obtain ⟨hU,i,hi,hk⟩:=arU hT.h;unfold execOp;simp [ho,ha.ev hx,Instr.sliceAt,underlying,hU,Instr.sureAddr,Instr.sliceBounds,sizeOf,typeInfo,hi,jL,show ¬c=0 by omega]
theorem Yv.cy {t e c k g p h:Nat}{z:Int}{q:IntKind}{x y:Operand}[hT:TyAr P t c e k](ho:o.op= .slice t x none (some y) none)(hx:ev fs x=some (.pointer (some ⟨g,p,none⟩)))(hy:ev fs y=some (.int q z))(hz:z=(h:Int))(hh:h≤c)(hc:0<c):Yv P n B M fs hs o (.slice (some ⟨g,p,none⟩) h c):=fun a w ha _=>by
 obtain ⟨hU,i,hi,hk⟩:=arU hT.h;subst hz;unfold execOp;simp [ho,ha.ev hx,ha.ev hy,Instr.sliceAt,underlying,hU,Instr.sureAddr,Instr.sliceBounds,run_sliceBound,hh,sizeOf,typeInfo,hi,jL,show ¬c=0 by omega]
theorem Yv.bY {t e c k g p l:Nat}{z:Int}{q:IntKind}{x y:Operand}[hT:TyAr P t c e k](ho:o.op= .slice t x (some y) none none)(hx:ev fs x=some (.pointer (some ⟨g,p,none⟩)))(hy:ev fs y=some (.int q z))(hz:z=(l:Int))(hl:l≤c):Yv P n B M fs hs o (.slice (some ⟨g,if c=l then p else p+l*k,none⟩) (c - l) (c - l)):=fun a w ha _=>by
 obtain ⟨hU,i,hi,hk⟩:=arU hT.h;subst hz hk;unfold execOp;by_cases hc:c=l <;> simp [ho,ha.ev hx,ha.ev hy,Instr.sliceAt,underlying,hU,Instr.sureAddr,Instr.sliceBounds,run_sliceBound,hl,sizeOf,typeInfo,hi,jL,hc]
theorem Yv.cK {t e k g p l h m len cap:Nat}{z1 z2 z3:Int}{q1 q2 q3:IntKind}{x y1 y2 y3:Operand}[hT:TySl P t e k](ho:o.op= .slice t x (some y1) (some y2) (some y3))(hx:ev fs x=some (.slice (some ⟨g,p,none⟩) len cap))(hy1:ev fs y1=some (.int q1 z1))(hy2:ev fs y2=some (.int q2 z2))(hy3:ev fs y3=some (.int q3 z3))(hz1:z1=(l:Int))(hz2:z2=(h:Int))(hz3:z3=(m:Int))(h1:l≤h)(h2:h≤m)(h3:m≤cap)(h4:l<m):Yv P n B M fs hs o (.slice (some ⟨g,p+l*k,none⟩) (h - l) (m - l)):=fun a w ha _=>by
 obtain ⟨hU,i,hi,hk⟩:=slU hT.h;subst hz1 hz2 hz3 hk;unfold execOp;simp [ho,ha.ev hx,ha.ev hy1,ha.ev hy2,ha.ev hy3,Instr.sliceAt,Instr.slice,underlying,hU,Instr.sliceBounds,run_sliceBound,h1,h2,h3,sizeOf,typeInfo,hi,jL,show ¬m=l by omega]
theorem Ew.bZ (i ix : Nat) {F : FzB B M S0} {t t' e u g q m cap k' : Nat} {x y : Operand} {l l' : List Value} {cs : List (List Value)} {hs' : HS} [hT : TySl P t e 1] (ho : o.op = .call { callee := .builtin .copy, args := #[x, y], argTypes := #[t, t'] })
    (hx : ev fs x = some (.slice (some ⟨g, q, none⟩) m cap)) (hy : ev fs y = some v) (hi : hs[i]? = some (.row g u l)) (hF : hs[ix]? = some (.fr F)) (h : SlC F.toFrz v 1 cs) (h1 : ∀ c ∈ cs.flatten, c.oneCell' = true) (hn : k' = min cs.length m) (hfit : k' = 0 ∨ q + m ≤ l.length) (hl : k' ≠ 0 → l.take q ++ cs.flatten.take k' ++ l.drop (q + k') = l') (hl0 : k' = 0 → l = l') [hH : SetAt hs i (.row g u l') hs'] :
    Ew P n B M fs hs o (fun v hs'' => v = .int .i64 (k' : Int) ∧ hs'' = hs') := by
  obtain ⟨hU, inf, hi', hk⟩ := slU hT.h; have hcl : cs.flatten.length = cs.length := flat1 (by obtain ⟨_, _, _, _, _, h4, _⟩ := h; exact h4); refine fj fun a w ha hp => ?_; have hrow := dl.1 (hp.get hi); rcases Nat.eq_zero_or_pos k' with h0 | h0
  · have hl0 := hl0 h0; subst hl0; obtain ⟨A, c2, rfl, _⟩ := h; refine ⟨_, w, hs', ?_, Kp.refl w, ?_, rfl, rfl⟩
    · unfold execOp; (have hmn : Nat.min cs.length m = 0 := by rw [← h0, hn])
      cases A with
      | none => simp [ho, resolve, invoke, builtin, ha.ev hx, ha.ev hy, Builtin.copy_, underlying, hU, Builtin.lenOf, Builtin.firstCells, sizeOf, typeInfo, hi', hmn, storeCells, h0, goInt]
      | some A => simp [ho, resolve, invoke, builtin, ha.ev hx, ha.ev hy, Builtin.copy_, underlying, hU, Builtin.lenOf, Builtin.firstCells, sizeOf, typeInfo, hi', hmn, storeCells, h0, goInt, load0]
    · rw [← hH.h]
      have : hs.set i (.row g u l) = hs := by
        apply List.ext_getElem?; intro j; by_cases hj : i = j
        · subst hj; rw [List.getElem?_set_self (List.getElem?_eq_some_iff.1 hi).1, hi]
        · rw [List.getElem?_set_ne hj]
      rw [this]; exact hp
  · have hl := hl a4; subst hl; obtain ⟨g2, off, c2, rfl, hg, hc⟩ := h.addr a4; (have hr : ∀ c ∈ cs, c.length = 1 := by obtain ⟨_, _, _, _, _, h4, _⟩ := h; exact h4); have hcs := j3 a4 hr (fun i hi => iN (hp.fr hF) hg (hc i hi)); (have hll : (cs.flatten.take k').length = k' := by rw [List.length_take, hcl]; omega)
    have hr := run_copy_row (P := P) w t t' o.type e g q m cap ⟨g2, off, none⟩ cs.length c2 l.toArray u (cs.flatten.take k') hU (by rw [hi']; simp [hk]) hrow (by rw [hll, hn]) (fun j v hj => by
      rw [jL]
      have hj2 : cs.flatten[j]? = some v := by
        rw [List.getElem?_take] at hj
        split at hj
        · exact hj
        · cases hj
      exact (hcs j (List.getElem?_eq_some_iff.1 hj2).1).trans hj2) (by rw [hll]; simp; omega) (fun x hx => h1 x (List.mem_of_mem_take hx))
    rw [hll] at hr; refine ⟨_, w.setRow g (l.take q ++ cs.flatten.take k' ++ l.drop (q + k')).toArray, _, ?_, zdL hrow _, ?_, rfl, rfl⟩
    · unfold execOp; simp [ho, resolve, invoke, builtin, ha.ev hx, ha.ev hy, hr, goInt]
    · rw [← hH.h]; simpa using hp.setRow hi
theorem Ew.cz (i j : Nat) {t t' e u u' g q m cap g2 q2 m2 cap2 k' : Nat} {x y : Operand} {l l2 l' : List Value} {hs' : HS} [hT : TySl P t e 1] (ho : o.op = .call { callee := .builtin .copy, args := #[x, y], argTypes := #[t, t'] })
    (hx : ev fs x = some (.slice (some ⟨g, q, none⟩) m cap)) (hy : ev fs y = some (.slice (some ⟨g2, q2, none⟩) m2 cap2)) (hi : hs[i]? = some (.row g u l)) (hj : hs[j]? = some (.row g2 u' l2)) (h1 : ∀ c ∈ (l2.drop q2).take k', c.oneCell' = true) (hn : k' = min m2 m) (hfit : q + m ≤ l.length) (hfit2 : q2 + m2 ≤ l2.length) (hl : l.take q ++ (l2.drop q2).take k' ++ l.drop (q + k') = l') [hH : SetAt hs i (.row g u l') hs'] :
    Ew P n B M fs hs o (fun v hs'' => v = .int .i64 (k' : Int) ∧ hs'' = hs') := by
  obtain ⟨hU, inf, hi', hk⟩ := slU hT.h; refine fj fun a w ha hp => ?_; have hrow := dl.1 (hp.get hi); have hrow2 := dl.1 (hp.get hj); subst hl; (have hll : ((l2.drop q2).take k').length = k' := by rw [List.length_take, List.length_drop]; omega)
  have hr := run_copy_row (P := P) w t t' o.type e g q m cap ⟨g2, q2, none⟩ m2 cap2 l.toArray u ((l2.drop q2).take k') hU (by rw [hi']; simp [hk]) hrow (by rw [hll, hn]) (fun p v hp => by
    rw [jL, zew hrow2]; rw [List.getElem?_take] at hp
    split at hp
    · rw [List.getElem?_drop] at hp; exact hp
    · cases hp) (by rw [hll]; simp; omega) h1
  rw [hll] at hr; refine ⟨_, w.setRow g (l.take q ++ (l2.drop q2).take k' ++ l.drop (q + k')).toArray, _, ?_, zdL hrow _, ?_, rfl, rfl⟩
  · unfold execOp; simp [ho, resolve, invoke, builtin, ha.ev hx, ha.ev hy, hr, goInt]
  · rw [← hH.h]; simpa using hp.setRow hi
theorem Ew.ck (i : Nat) {t e bytes u g q m cap : Nat} {z : Value} {x : Operand} {l l' : List Value} {hs' : HS} [hT : TyE P t e 1 bytes [z]] (ho : o.op = .call { callee := .builtin .clear, args := #[x], argTypes := #[t] })
    (hx : ev fs x = some (.slice (some ⟨g, q, none⟩) m cap)) (hi : hs[i]? = some (.row g u l)) (h1 : z.oneCell' = true) (hfit : m = 0 ∨ q + m ≤ l.length) (hl : m ≠ 0 → l.take q ++ List.replicate m z ++ l.drop (q + m) = l') (hl0 : m = 0 → l = l') [hH : SetAt hs i (.row g u l') hs'] :
    Ew P n B M fs hs o (fun v hs'' => v = .tuple #[] ∧ hs'' = hs') := by
  obtain ⟨inf, zv, hU, hinf, hz, hzc, _⟩ := hT.get; refine fj fun a w ha hp => ?_; have hrow := dl.1 (hp.get hi); rcases Nat.eq_zero_or_pos m with h0 | h0
  · have hl0 := hl0 h0; subst hl0; refine ⟨_, w, hs', ?_, Kp.refl w, ?_, rfl, rfl⟩
    · unfold execOp; simp [ho, resolve, invoke, builtin, ha.ev hx, Builtin.clear_, underlying, hU, h0]
    · rw [← hH.h]
      have : hs.set i (.row g u l) = hs := by
        apply List.ext_getElem?; intro j; by_cases hj : i = j
        · subst hj; rw [List.getElem?_set_self (List.getElem?_eq_some_iff.1 hi).1, hi]
        · rw [List.getElem?_set_ne hj]
      rw [this]; exact hp
  · have hl := hl a4; subst hl; have hst := run_storeCells_at P g q u (List.replicate m z) 0 l.toArray w hrow b9 (fun x hx => by rw [List.eq_of_mem_replicate hx]; exact h1)
    have hzs : (Builtin.zeroCells #[z] m).toList = List.replicate m z := by
      unfold Builtin.zeroCells; apply List.ext_getElem?; intro j; by_cases hj : j < m
      · simp [hj, Nat.mod_one]
      · simp [hj]
    refine ⟨_, w.setRow g (l.take q ++ List.replicate m z ++ l.drop (q + m)).toArray, _, ?_, zdL hrow _, ?_, rfl, rfl⟩
    · unfold execOp; obtain ⟨m', rfl⟩ : ∃ m', m = m' + 1 := ⟨m - 1, by omega⟩; simp [ho, resolve, invoke, builtin, ha.ev hx, Builtin.clear_, underlying, hU, zeroValue, typeInfo, hinf, hz, hzc, hzs, hst]
    · rw [← hH.h]; simpa using hp.setRow hi
end
def eJ:Vec 8 Int:=⟨[1779033703,3144134277,1013904242,2773480762,1359893119,2600822924,528734635,1541459225],rfl⟩
def blOrder:List (Vec 16 Int):=[
 ⟨[0,1,2,3,4,5,6,7,8,9,10,11,12,13,14,15],rfl⟩,
 ⟨[14,10,4,8,9,15,13,6,1,12,0,2,11,7,5,3],rfl⟩,
 ⟨[11,8,12,0,5,2,15,13,10,14,3,6,7,1,9,4],rfl⟩,
 ⟨[7,9,3,1,13,12,11,14,2,6,5,10,4,0,15,8],rfl⟩,
 ⟨[9,0,5,7,2,4,10,15,14,1,11,12,6,8,3,13],rfl⟩,
 ⟨[2,12,6,10,0,11,8,3,4,13,7,5,15,14,1,9],rfl⟩,
 ⟨[12,5,1,15,14,13,4,10,0,7,6,3,9,2,8,11],rfl⟩,
 ⟨[13,11,7,14,12,1,3,9,5,0,15,4,8,6,2,10],rfl⟩,
 ⟨[6,15,14,9,11,3,0,8,12,2,13,7,1,4,10,5],rfl⟩,
 ⟨[10,2,8,4,7,6,1,5,15,11,9,14,3,12,13,0],rfl⟩]
theorem zhv:blOrder.length=10:=rfl
def GlF (F:Frz):Prop:=SlC F (.slice (some ⟨1,0,none⟩) 1 1) 8 ([eJ].map fun x=>x.1.map (Value.int .u32))∧SlC F (.slice (some ⟨2,0,none⟩) 10 10) 16 (blOrder.map fun x=>x.1.map (Value.int .u8))
theorem GlF.mono {F G:Frz}(h:GlF F)(hle:F.Le G):GlF G:=⟨h.1.mono hle,h.2.mono hle⟩
end Go.Proofs.YtmnjbhkcfghebaaGreatDoor
