/- J4 J5 Yl Y2 Ca P1 P2 P3 Yf Y1 P4 J6 Of Gp: shortened and put together by squeeze.py. -/
import Derived.Test.YtmnjbhkcfghebaaGreatDoorQ12
import Derived.Deep.Slices
import Derived.ChangeArms
import Derived.Test.YtmnjbhkcfghebaaGreatDoorRows
import Derived.LaidMore
import Derived.OpenShut
import Derived.Stop.Joined
import Derived.Lib.SmallJoins
set_option maxRecDepth 100000
set_option maxHeartbeats 4000000
set_option linter.unusedVariables false
set_option linter.unusedSectionVars false
set_option linter.unusedSimpArgs false
namespace Go.Proofs.YtmnjbhkcfghebaaGreatDoor
open Go.RowKit
theorem orK8 {a b:Nat}(ha:a<256)(hb:b<256):orK .u8 (a:Int) (b:Int)=((a ||| b:Nat):Int):=by
 unfold orK; (have e1:(BitVec.ofInt 8 (a:Int)).toNat=a:=by rw [BitVec.toNat_ofInt];omega); (have e2:(BitVec.ofInt 8 (b:Int)).toNat=b:=by rw [BitVec.toNat_ofInt];omega);rw [show IntKind.u8.bits=8 from rfl,BitVec.toNat_or,e1,e2];have h:a ||| b<2 ^ 8:=Nat.or_lt_two_pow a4 a4;rw [u8w a4]
theorem andK8 {a:Nat}(ha:a<256):andK .u8 (a:Int) 1=((a % 2:Nat):Int):=by
 unfold andK; (have e1:(BitVec.ofInt 8 (a:Int)).toNat=a:=by rw [BitVec.toNat_ofInt];omega);rw [show IntKind.u8.bits=8 from rfl,BitVec.toNat_and,e1,show (BitVec.ofInt 8 (1:Int)).toNat=1 from rfl,Nat.and_one_is_mod,u8w a4]
theorem shr_8 {a b:Nat}(hb:b≤8):shrK .u8 (a:Int) (b:Int)=((a / 2 ^ b:Nat):Int):=by
 unfold shrK;rw [show IntKind.u8.bits=8 from rfl,Int.toNat_natCast,Nat.min_eq_left hb,Int.fdiv_eq_ediv_of_nonneg _ (by exact Int.le_of_lt (Int.pow_pos a4))];rw [Int.natCast_ediv,Int.natCast_pow];rfl
theorem shl_8 {b:Nat}(hb:b≤7):shlK .u8 1 (b:Int)=((2 ^ b:Nat):Int):=by
 have h:2 ^ b<2 ^ 8:=Nat.pow_lt_pow_right a4 a4;unfold shlK;rw [show IntKind.u8.bits=8 from rfl,Int.toNat_natCast,Nat.min_eq_left a4,Int.one_mul,show (2:Int) ^ b=((2 ^ b:Nat):Int) by rw [Int.natCast_pow];rfl,u8w ⟨Int.natCast_nonneg _,by have:=Int.ofNat_lt.2 h;rw [show ((2 ^ 8:Nat):Int)=256 from rfl] at this;exact this⟩]
theorem zjl {a:List Int}{A:Nat}(ha:LsIs a A)(i:Nat):(nth a (i / 8)).toNat / 2 ^ (i % 8) % 2=A / 2 ^ i % 2:=by
 have h:=zer (B:=256) a5 ha.dig (i / 8); (have e1:2 ^ i=256 ^ (i / 8) *2 ^ (i % 8):=by rw [iZ,←Nat.pow_add,Nat.div_add_mod])
 have e2:256=2 ^ (i % 8) * (2*2 ^ (7 - i % 8)):=by
  rw [Nat.mul_left_comm,←Nat.pow_add,show i % 8+(7 - i % 8)=7 by omega]
 rw [h,ha.eq,e1,←Nat.div_div_eq_div_mul];generalize A / 256 ^ (i / 8)=Z;rw [e2,Nat.mod_mul_right_div_self,Nat.mod_mul_right_mod]
theorem zjg {q:List Int}{i c n:Nat}(hq:Dig 256 q)(hl:q.length=n)(hi:i / 8<n)(hv:val 256 q=c*2 ^ (i+1)):∃w:Nat,orK .u8 (nth q (i / 8)) (shlK .u8 1 ((i % 8:Nat):Int))=(w:Int)∧w<256∧val 256 (q.set (i / 8) (w:Int))=(2*c+1) *2 ^ i:=by
 have hd:=hq.nth (i:=i / 8) a4;have h:=zer (B:=256) a5 hq (i / 8); (have e1:2 ^ (i+1)=256 ^ (i / 8) *2 ^ (i % 8+1):=by rw [iZ,←Nat.pow_add];congr 1;omega); (have e2:256=2 ^ (i % 8+1) *2 ^ (7 - i % 8):=by rw [←Nat.pow_add,show i % 8+1+(7 - i % 8)=8 by omega])
 have hdig:(nth q (i / 8)).toNat=(c % 2 ^ (7 - i % 8)) *2 ^ (i % 8+1):=by
  rw [h,hv,e1,←Nat.mul_assoc,Nat.mul_right_comm,Nat.mul_comm (c*_),Nat.mul_div_cancel_left _ (Nat.pow_pos a5)];rw [Nat.mul_comm c]
  conv=>lhs;rw [e2]
  rw [Nat.mul_mod_mul_left,Nat.mul_comm]
 have hp8:2 ^ (i % 8)<2 ^ 8:=Nat.pow_lt_pow_right a4 a4;have hpp:2 ^ (i % 8)<2 ^ (i % 8+1):=Nat.pow_lt_pow_right a4 a4;have hor:=zg6 (a:=2 ^ (i % 8)) (d:=c % 2 ^ (7 - i % 8)) (s:=i % 8+1) hpp;rw [←hdig] at hor
 have hlt:2 ^ (i % 8)+(nth q (i / 8)).toNat<256:=by
  have:2 ^ (i % 8) ||| (nth q (i / 8)).toNat<2 ^ 8:=Nat.or_lt_two_pow a4 a4;omega
 refine ⟨2 ^ (i % 8)+(nth q (i / 8)).toNat,?_,hlt,?_⟩
 ·rw [shl_8 a4];have:=orK8 (a:=(nth q (i / 8)).toNat) (b:=2 ^ (i % 8)) a4 a4;rw [Int.toNat_of_nonneg hd.1] at this;rw [this,Nat.or_comm,hor]
 ·have h1:=zio (B:=256) (l:=q) (i:=i / 8) (x:=((2 ^ (i % 8)+(nth q (i / 8)).toNat:Nat):Int)) a4;rw [Int.toNat_natCast,Nat.mul_add,hv] at h1; (have e3:256 ^ (i / 8) *2 ^ (i % 8)=2 ^ i:=by rw [iZ,←Nat.pow_add,Nat.div_add_mod]);rw [e3] at h1
  have e4:(2*c+1) *2 ^ i=c*2 ^ (i+1)+2 ^ i:=by
   rw [Nat.add_mul,Nat.one_mul,Nat.pow_succ,Nat.mul_comm 2 c,Nat.mul_assoc,Nat.mul_comm 2]
  omega
theorem zjm {fuel : Nat} {a b : List Int} {A B : Nat} (ha : LsIs a A) (hb : LsIs b B) (hB : 0 < B) (la : a.length ≤ 1000) (lb : b.length ≤ 1000) (hf : 2000 ≤ fuel) : ∃ q r, zcH fuel a b = some (q, r) ∧ LsIs q (A / B) ∧ LsIs r (A % B) := by
  unfold zcH; rw [ep (by show _ * _ ≤ _; omega)];simp only [dJ]
  have hw : wI ((wI ((a.length : Int) * 8)) - 1) = (a.length : Int) * 8 - 1 := by
    rw [fR (x := (a.length : Int) * 8) a4, fR a4]
  rw [hw, ep a4, show ((a.length : Int) * 8 - 1 + 1).toNat = 8 * a.length by omega]; refine zeL (n := 8 * a.length) (fun m (s : List Int × List Int) => LsIs s.1 (A / 2 ^ m % B) ∧ s.2.length = a.length ∧ Dig 256 s.2 ∧ val 256 s.2 = A / 2 ^ m / B * 2 ^ m) (fun o => ∃ q r, o = some (q, r) ∧ LsIs q (A / B) ∧ LsIs r (A % B)) ?_ (fun s hI => ?_) (fun i s next hi hI hnx => ?_)
  · have h0 : A / 2 ^ (8 * a.length) = 0 := by
      rw [← iZ]; have := ji ha.dig; rw [ha.eq] at this; exact Nat.div_eq_of_lt this
    rw [h0, Nat.zero_mod, Nat.zero_div, Nat.zero_mul]; exact ⟨.zero, by simp, fN a5 _, zhm _⟩
  · obtain ⟨i1, i2, i3, i4⟩ := hI; rw [Nat.pow_zero, Nat.div_one] at i1; rw [Nat.pow_zero, Nat.div_one, Nat.mul_one] at i4; obtain ⟨r, t1, t2⟩ := ziA (fuel := fuel) (l := s.2) a4 i3; rw [t1]; rw [i4] at t2; exact ⟨r, s.1, rfl, t2, i1⟩
  · obtain ⟨i1, i2, i3, i4⟩ := hI
    -- the remainder so far is less than the divisor
    have hR := Nat.mod_lt (A / 2 ^ (i + 1)) hB
    have hhalf : A / 2 ^ i = 2 * (A / 2 ^ (i + 1)) + A / 2 ^ i % 2 := by
      have := Nat.div_add_mod (A / 2 ^ i) 2; rw [Nat.div_div_eq_div_mul, ← Nat.pow_succ] at this; exact this.symm
    have hdm := Nat.div_add_mod (A / 2 ^ (i + 1)) B; generalize hq1 : A / 2 ^ (i + 1) / B = q1 at *; generalize hRR : A / 2 ^ (i + 1) % B = R at *; generalize A / 2 ^ (i + 1) = A1 at *; have hlb : b.length ≤ 1000 := lb; obtain ⟨k, hk⟩ : ∃ k, k = 1000 := ⟨_, rfl⟩
    have hRb : R < 256 ^ k := by
      have h1 := ji hb.dig; rw [hb.eq] at h1; exact Nat.lt_of_lt_of_le (Nat.lt_trans hR h1) (Nat.pow_le_pow_right a5 a4)
    have l1 := i1.len hRb; obtain ⟨t, p1, p2⟩ := zjG (fuel := fuel) i1.dig i1.dig a4 a4 a4; rw [i1.eq] at p2
    have l2 : t.length ≤ k + 1 := p2.len (by
      rw [Nat.pow_succ]; generalize 256 ^ k = z at *
      omega)
    rw [p1];refine fW ?_; rw [ep a4, ep a4, ep a4, ep a4, show ((i : Int) / 8).toNat = i / 8 by omega, show (i : Int) % 8 = ((i % 8 : Nat) : Int) by omega]; have hda := ha.dig.nth (i := i / 8) a4
    have esh : andK .u8 (shrK .u8 (nth a (i / 8)) ((i % 8 : Nat) : Int)) 1 = ((A / 2 ^ i % 2 : Nat) : Int) := by
      have h1 := shr_8 (a := (nth a (i / 8)).toNat) (b := i % 8) a4; rw [Int.toNat_of_nonneg hda.1] at h1; have h2 : (nth a (i / 8)).toNat / 2 ^ (i % 8) ≤ (nth a (i / 8)).toNat := Nat.div_le_self _ _; rw [h1, andK8 a4, zjl ha]
    rw [esh]; generalize hbit : A / 2 ^ i % 2 = bt at *; (have hbt : bt < 2 := by omega)
    -- A / 2^i = B * (2 q1) + T
    have hT : A / 2 ^ i = B * (2 * q1) + (2 * R + bt) := by
      rw [hhalf, ← hdm, Nat.mul_add, Nat.mul_left_comm]; omega
    have fin : ∀ r9 : List Int, LsIs r9 (2 * R + bt) → r9.length ≤ k + 1 → ∃ q r, (bif decide (0 ≤ (zcq r9 b)) then
          (zcp fuel r9 b).bind fun r42 =>
          dg (0 ≤ (i : Int) ∧ (i : Int) ≤ 9223372036854775807 ∧ 1 ≤ (8 : Int)) <|
          dg (0 ≤ (i : Int) ∧ (i : Int) ≤ 9223372036854775807 ∧ 1 ≤ (8 : Int)) <|
          dg (0 ≤ ((i : Int) / 8) ∧ ((i : Int) / 8) < (s.2.length : Int)) <|
          dg (0 ≤ (i : Int) ∧ 1 ≤ (8 : Int)) <|
          next (r42, (s.2.set (i / 8) (orK .u8 (nth s.2 (i / 8)) (shlK .u8 1 ((i % 8 : Nat) : Int)))))
          else
          next (r9, s.2)) = some (q, r) ∧ LsIs q (A / B) ∧ LsIs r (A % B) := fun r9 h9 l9 => by
      rw [zjy h9 hb]; by_cases hlt : 2 * R + bt < B
      · rw [if_pos hlt, decide_eq_false a5, cond_false]; refine hnx _ ⟨?_, i2, i3, ?_⟩
        · dsimp only; rw [hT, Nat.mul_add_mod, Nat.mod_eq_of_lt hlt]; exact h9
        · dsimp only; rw [hT, Nat.mul_add_div hB, Nat.div_eq_of_lt hlt, Nat.add_zero, i4, Nat.pow_succ, Nat.mul_comm 2 q1, Nat.mul_assoc, Nat.mul_comm 2]
      · rw [if_neg hlt, decide_eq_true (by split <;> decide), cond_true]; obtain ⟨r42, m1, m2⟩ := zjF (fuel := fuel) h9 hb a4 a4 a4; rw [m1];refine fW ?_; rw [ep a4, ep a4, ep a4, ep a4]; obtain ⟨w, w1, w2, w3⟩ := zjg (i := i) (c := q1) (n := a.length) i3 i2 a4 i4; rw [w1]; (have hT2 : A / 2 ^ i = B * (2 * q1 + 1) + (2 * R + bt - B) := by rw [hT, Nat.mul_add, Nat.mul_one]; omega); refine hnx _ ⟨?_, by dsimp only; rw [List.length_set]; exact i2, i3.set a4, ?_⟩
        · dsimp only; rw [hT2, Nat.mul_add_mod, Nat.mod_eq_of_lt a4]; exact m2
        · dsimp only; rw [hT2, Nat.mul_add_div hB, Nat.div_eq_of_lt (show 2 * R + bt - B < B by omega), Nat.add_zero, w3]
    by_cases hb1 : bt = 1
    · rw [decide_eq_true a4, cond_true]; obtain ⟨t2, e1, e2⟩ := zjG (fuel := fuel) (b := [1]) p2.dig (Dig.nil.cons a4) a4 a9 b9; rw [e1];refine fW ?_; rw [p2.eq, show val 256 [1] = 1 from rfl] at e2;refine fin t2 (by rw [hb1, show 2 * R + 1 = R + R + 1 by omega]; exact e2) (e2.len ?_); rw [Nat.pow_succ]; generalize 256 ^ k = z at *; omega
    · rw [decide_eq_false a4, cond_false]; exact fin t (by rw [show 2 * R + bt = R + R by omega]; exact p2) l2
theorem zjc {fuel:Nat}{neg:Bool}{a:List Int}(ha:Dig 256 a)(la:a.length≤100000)(hf:a.length+1≤fuel):∃D,zbX fuel neg a=some ⟨neg&&decide (0<val 256 a),D⟩∧BigIs D (val 256 a):=by
 unfold zbX;obtain ⟨r,t1,t2⟩:=ziA (fuel:=fuel) hf ha;have hlr:r.length≤a.length:=t2.len (ji ha);rw [t1];simp only [Option.bind_some,dJ];refine zeL (n:=r.length) (fun m (out:List Int)=>out=(r.drop m).reverse) (fun (o:Option GInt)=>∃D,o=some (GInt.mk (neg&&decide (0<val 256 a)) D)∧BigIs D (val 256 a)) (by rw [List.drop_eq_nil_of_le (Nat.le_refl _)];rfl) (fun s hs=>?_) (fun i s next hi hs hnx=>?_)
 ·rw [List.drop_zero] at hs;subst hs;have e:decide (0<(r.length:Int))=decide (0<val 256 a):=decide_eq_decide.2 (by rw [←t2.pos];omega);rw [e];exact ⟨_,rfl,t2.big⟩
 ·have e:s++[nth r i]=(r.drop i).reverse:=by
   rw [List.drop_eq_getElem_cons hi,List.reverse_cons,hs,fq hi]
  rw [e,ep (by show _*_≤_;rw [List.length_reverse,List.length_drop];omega)];exact hnx _ rfl
theorem zi2 {fuel:Nat}{a b:GInt}(hf:2000≤fuel)(ha:VI a)(hb:VI b)(da:Dig 256 a.Digits)(db:Dig 256 b.Digits):∃D,zcz fuel a b=some ⟨false,D⟩∧BigIs D (Nat.gcd (dT a) (dT b)):=by
 have la:=ha.len;have lb:=hb.len;have va:=ha.lt da;have vb:=hb.lt db;unfold zcz;rw [rAbs a4,rAbs a4];simp only [Option.bind_some,dJ];obtain ⟨e,he⟩:∃e,e=512:=⟨_,rfl⟩;obtain ⟨k64,h64k⟩:∃k,k=64:=⟨_,rfl⟩; (have h64:256 ^ k64=fI:=by rw [h64k,zgx]);refine j2 (fun (s:List Int×List Int) X Y=>LsIs s.1 X∧LsIs s.2 Y∧X<fI∧Y<fI) (fun (o:Option GInt)=>∃D,o=some (GInt.mk false D)∧BigIs D (Nat.gcd (dT a) (dT b))) (k:=e+e) (X:=dT a) (Y:=dT b) (s:=(a.Digits.reverse,b.Digits.reverse)) (show LsIs a.Digits.reverse (dT a)∧LsIs b.Digits.reverse (dT b)∧dT a<fI∧dT b<fI from ⟨(ha.big da).ls,(hb.big db).ls,va,vb⟩) ?_ a4 (fun s next hI=>?_) (fun s next X Y hI hY hnx=>?_)
 ·have:=Nat.mul_lt_mul'' va vb;rw [zfl he,←Nat.pow_add] at this;exact this
 ·obtain ⟨i1,i2,i3,i4⟩:=hI;have e0:=i2.nil.2 rfl;rw [e0,decide_eq_false a5,cond_false];have hl:=i1.len (k:=k64) (by rw [h64];exact i3);obtain ⟨D,d1,d2⟩:=zjc (fuel:=fuel) (neg:=false) i1.dig a4 a4;rw [d1];rw [i1.eq] at d2;exact ⟨D,rfl,d2⟩
 ·obtain ⟨i1,i2,i3,i4⟩:=hI;have hp:=i2.pos.2 hY;have l1:=i1.len (k:=k64) (by rw [h64];exact i3);have l2:=i2.len (k:=k64) (by rw [h64];exact i4);rw [decide_eq_true a4,cond_true];obtain ⟨q,r,e1,e2,e3⟩:=zjm (fuel:=fuel) i1 i2 hY a4 a4 hf;rw [e1];refine fW ?_;exact hnx _ ⟨i2,e3,i4,Nat.lt_trans (Nat.mod_lt _ hY) i4⟩
theorem rOf {fuel : Nat} {n : Int} (hf : 2000 ≤ fuel) (hn : 0 ≤ n ∧ n ≤ 9223372036854775807) : ∃ D, zdr fuel n = some ⟨false, D⟩ ∧ BigIs D n.toNat := by
  unfold zdr;simp only [dJ]; have hneg : decide (n < 0) = false := decide_eq_false a4; rw [hneg]
  have key : ∀ k m : Nat, ∀ s : List Int × Int, 0 ≤ s.2 → s.2.toNat < 256 ^ k → k + 1 ≤ m → s.1.length + k ≤ 1000 → Dig 256 s.1 → val 256 s.1 + 256 ^ s.1.length * s.2.toNat = n.toNat → s.2 ≤ 9223372036854775807 → ∃ D, eR (fun (next5 : (List Int × Int) → Option GInt) (s5 : List Int × Int) =>
      (bif decide (¬ s5.2 = 0) then
        dg (0 ≤ s5.2 ∧ 1 ≤ (256 : Int)) <|
          (bif decide ((s5.2 % 256) < 0) then
            dg (dz (s5.1 ++ [(IntKind.u8.wrap (wI (0 - (s5.2 % 256))))]).length 1) <|
          dg (0 ≤ s5.2 ∧ s5.2 ≤ 9223372036854775807 ∧ 1 ≤ (256 : Int)) <|
          next5 ((s5.1 ++ [(IntKind.u8.wrap (wI (0 - (s5.2 % 256))))]), (s5.2 / 256))
            else
            dg (dz (s5.1 ++ [(IntKind.u8.wrap (s5.2 % 256))]).length 1) <|
          dg (0 ≤ s5.2 ∧ s5.2 ≤ 9223372036854775807 ∧ 1 ≤ (256 : Int)) <|
          next5 ((s5.1 ++ [(IntKind.u8.wrap (s5.2 % 256))]), (s5.2 / 256)))
        else
        (zbX fuel false s5.1).bind fun r25 => some r25)) m s = some ⟨false, D⟩ ∧ BigIs D n.toNat := by
    intro k
    induction k with
    | zero =>
      intro m s h0 h1 h2 h3 h4 h5 h6; obtain ⟨m', rfl⟩ : ∃ q, m = q + 1 := ⟨m - 1, by omega⟩; rw [Nat.pow_zero] at h1; rw [zgZ, decide_eq_false a4, cond_false]; obtain ⟨D, d1, d2⟩ := zjc (fuel := fuel) (neg := false) h4 a4 a4; rw [d1]; rw [show s.2.toNat = 0 by omega, Nat.mul_zero, Nat.add_zero] at h5; rw [h5] at d2; exact ⟨D, rfl, d2⟩
    | succ k ih =>
      intro m s h0 h1 h2 h3 h4 h5 h6; obtain ⟨m', rfl⟩ : ∃ q, m = q + 1 := ⟨m - 1, by omega⟩; rw [zgZ]; by_cases hz : s.2 = 0
      · rw [decide_eq_false a4, cond_false]; obtain ⟨D, d1, d2⟩ := zjc (fuel := fuel) (neg := false) h4 a4 a4; rw [d1]; rw [show s.2.toNat = 0 by omega, Nat.mul_zero, Nat.add_zero] at h5; rw [h5] at d2; exact ⟨D, rfl, d2⟩
      · rw [decide_eq_true hz, cond_true, ep a4, decide_eq_false a4, cond_false, ep (by show _ * _ ≤ _; rw [List.length_append]; simp; omega), ep a4]; rw [u8w a4]; refine ih m' _ b5 ?_ a4 (by dsimp only; rw [List.length_append]; simp; omega) (h4.app (Dig.nil.cons a4)) ?_ b5
        · dsimp only; rw [Nat.pow_succ] at h1; generalize 256 ^ k = z at *; omega
        · dsimp only; rw [zgN, List.length_append, show ([s.2 % 256] : List Int).length = 1 from rfl, Nat.pow_succ, Nat.mul_assoc, Nat.add_assoc, ← Nat.mul_add, ← h5]
          congr 2
          omega
  exact key 8 fuel ([], n) b5 b5 a4 a9 Dig.nil (by simp [val]) b5
theorem zhC:∀ {a b:List Int},Dig 256 a→Dig 256 b→iD a=iD b→a=b
 | [],[],_,_,_=>rfl
 | [],_ :: _,_,_,h=>by cases h
 |_ :: _,[],_,_,h=>by cases h
 |x :: a,y :: b,ha,hb,h=>by
  unfold iD at h;rw [List.map_cons,List.map_cons,List.cons.injEq] at h;have h1:=ha.head;have h2:=hb.head;have h3:=congrArg UInt8.toNat h.1;rw [UInt8.toNat_ofNat',UInt8.toNat_ofNat'] at h3;rw [zhC ha.tail hb.tail h.2,show x=y by omega]
theorem rSame {D E:List Int}{X Y:Nat}{n m:Bool}(hD:BigIs D X)(hE:BigIs E Y):zc5 ⟨n,D⟩ ⟨m,E⟩=(n == m&&decide (X=Y)):=by
 unfold zc5;dsimp only;by_cases h:X=Y
 ·subst h;rw [hD.uniq hE,decide_eq_true rfl,beq_self_eq_true]
 ·have:(iD D == iD E)=false:=by
   rw [beq_eq_false_iff_ne];intro he;have:=zhC hD.dig hE.dig he;subst this;exact h (hD.eq.symm.trans hE.eq)
  rw [this,decide_eq_false h]
theorem zjv {g:GInt}(h:VI g):zb2 g=some true:=by
 unfold zb2;have hl:=h.len;rw [decide_eq_false a4,cond_false];by_cases h0:g.Digits=[]
 ·rw [h.sgn h0,h0];rfl
 ·have:=List.length_pos_iff.2 h0;have h1:=h.lead.elim (fun e=>absurd e h0) id;rw [decide_eq_false a4,cond_false,ep a4,decide_eq_true h1]
theorem zjz {g:GInt}(h:¬VI g):zb2 g=some false:=by
 unfold zb2;by_cases hl:g.Digits.length≤64
 ·rw [decide_eq_false a4,cond_false];by_cases h0:g.Digits=[]
  ·cases hn:g.Neg with
   |false=>exact absurd ⟨hl, .inl h0,fun _=>hn⟩ h
   |true=>rw [h0];rfl
  ·have:=List.length_pos_iff.2 h0;rw [decide_eq_false a4,cond_false,ep a4];by_cases h2:nth g.Digits 0=0
   ·rw [h2];rfl
   ·exact absurd ⟨hl, .inr h2,fun e=>absurd e h0⟩ h
 ·rw [decide_eq_true a4,cond_true]
theorem ziR {fuel:Nat}{p:GRatio}(hf:2000≤fuel)(dn:Dig 256 p.Num.Digits)(dd:Dig 256 p.Den.Digits):∃b,zda fuel p=some b∧(b=true↔VR p):=by
 unfold zda;simp only [dJ];by_cases hN:VI p.Num
 ·rw [zjv hN];simp only [Option.bind_some,cond_true];by_cases hD:VI p.Den
  ·rw [zjv hD];simp only [Option.bind_some,cond_true]
   cases hneg:p.Den.Neg with
   |true=>exact ⟨false,rfl,fun h=>(by cases h),fun h=>(by have:=h.neg;rw [hneg] at this;cases this)⟩
   |false=>
    simp only [Bool.not_false,cond_true];obtain ⟨C,c1,c2⟩:=zi2 (fuel:=fuel) hf hN hD dn dd;obtain ⟨E,e1,e2⟩:=rOf (fuel:=fuel) (n:=1) hf a4;rw [c1,e1];refine fW ?_;rw [rSame c2 e2,beq_self_eq_true,Bool.true_and,show (1:Int).toNat=1 from rfl];have hp:=(hD.big dd).pos;by_cases hg:Nat.gcd (dT p.Num) (dT p.Den)=1
    ·rw [decide_eq_true hg,cond_true];refine ⟨_,rfl,?_⟩;rw [decide_eq_true_eq];exact ⟨fun h=>⟨hN,hD,hneg,hp.1 a4,hg⟩,fun h=>(by have:=hp.2 h.pos;omega)⟩
    ·rw [decide_eq_false hg,cond_false];exact ⟨false,rfl,fun h=>(by cases h),fun h=>absurd h.gcd hg⟩
  ·rw [zjz hD];exact ⟨false,rfl,fun h=>(by cases h),fun h=>absurd h.den hD⟩
 ·rw [zjz hN];exact ⟨false,rfl,fun h=>(by cases h),fun h=>absurd h.num hN⟩
theorem zh2 {g:GInt}(hd:Dig 256 g.Digits):jT g=if g.Neg=true∨2<g.Digits.length then -1 else (dT g:Int):=by
 obtain ⟨neg,D⟩:=g;unfold jT;dsimp only at hd ⊢
 cases neg with
 |true=>rw [if_pos (.inl rfl)];rfl
 |false=>
  by_cases hl:2<D.length
  ·rw [if_pos (.inr hl),decide_eq_true a4];rfl
  ·rw [if_neg cM,decide_eq_false a4];simp only [Bool.or_self,cond_false,dJ,dT]
   match D,hl,hd with
   | [],_,_=>rfl
   | [a],_,h=>
    have:=h.head
    show wI ((wI (0*256))+(wI a))=_
    rw [fR (x:=0*256) a4,fR (x:=a) a4,fR a4];simp [val];omega
   | [a,b],_,h=>
    have h1:=h.head;have h2:=h.tail.head
    show wI ((wI ((wI ((wI (0*256))+(wI a))) *256))+(wI b))=_
    rw [fR (x:=0*256) a4,fR (x:=a) a4,fR (x:=0*256+a) a4,fR (x:=(0*256+a) *256) a4,fR (x:=b) a4,fR a4];simp [val];omega
   |_ :: _ :: _ :: _,h,_=>exact absurd a9 h
structure PT (p:GRatio):Prop where
 r:VR p
 nn:p.Num.Neg=false
 den:dT p.Den≤1000
 num:dT p.Num≤dT p.Den
theorem zhG {g:GInt}(h:g.Neg=false):zI g=(dT g:Int):=by unfold zI;rw [h,if_neg a9]
theorem zjd {fuel:Nat}{p:GRatio}(hf:2000≤fuel)(dn:Dig 256 p.Num.Digits)(dd:Dig 256 p.Den.Digits):∃b,za6 fuel p=some b∧(b=true↔PT p):=by
 obtain ⟨b,b1,b2⟩:=ziv (fuel:=fuel) hf dn dd;unfold za6 zeb;rw [b1];simp only [Option.bind_some,dJ]
 cases b with
 |false=>exact ⟨false,rfl,fun h=>(by cases h),fun h=>b2.2 h.r⟩
 |true=>
  have hv:=b2.1 rfl;simp only [Bool.not_true,cond_false];rw [ziW hv.num dn];refine fW ?_;have hnz:=(hv.num.big dn).nil
  cases hn:p.Num.Neg with
  |true=>
   have h0:dT p.Num≠0:=fun e=>by
    have:=hv.num.sgn (hnz.2 e);rw [hn] at this;cases this
   rw [if_neg h0,if_pos rfl];exact ⟨false,rfl,fun h=>(by cases h),fun h=>(by have:=h.nn;rw [hn] at this;cases this)⟩
  |false=>
   have e:decide ((if dT p.Num=0 then (0:Int) else if false=true then -1 else 1)<0)=false:=by
    split <;> rfl
   rw [e,cond_false];obtain ⟨E,e1,e2⟩:=Of_x (fuel:=fuel) (n:=1000) hf a4;rw [e1];refine fW ?_;have h1:(1000:Int).natAbs=1000:=rfl;rw [h1] at e2;have hE:VI ⟨decide ((1000:Int)<0),E⟩:=jY e2 (Nat.lt_of_lt_of_le (show 1000<2 ^ 10 by decide) (zgw a4))
   have zE:zI ⟨decide ((1000:Int)<0),E⟩=1000:=by
    rw [zhG rfl];unfold dT;rw [e2.eq];rfl
   rw [zf5 hf hv.den hE dd e2.dig];refine fW ?_;rw [zE,zhG hv.neg];by_cases hd:dT p.Den≤1000
   ·have hle:(if ((dT p.Den:Nat):Int)<1000 then (-1:Int) else if (1000:Int)<((dT p.Den:Nat):Int) then 1 else 0)≤0:=by
     split
     ·decide
     ·rw [if_neg a4];decide
    rw [decide_eq_true hle,cond_true,zf5 hf hv.num hv.den dn dd];refine fW ?_;rw [zhG hn,zhG hv.neg];refine ⟨_,rfl,?_⟩;rw [decide_eq_true_eq];constructor
    ·intro h;refine ⟨hv,hn,hd,?_⟩
     split at h
     ·omega
     ·split at h
      ·exact absurd h a5
      ·omega
    ·intro h;have:=h.num
     split
     ·decide
     ·rw [if_neg a4];decide
   ·rw [decide_eq_false (by rw [if_neg a4,if_pos a4];decide),cond_false];exact ⟨false,rfl,fun h=>(by cases h),fun h=>absurd h.den hd⟩
theorem ziF {fuel:Nat}{p:GRatio}(hf:2000≤fuel)(dn:Dig 256 p.Num.Digits)(dd:Dig 256 p.Den.Digits):∃b,zcJ fuel p=some b∧(b=true↔PT p):=by
 obtain ⟨b,b1,b2⟩:=ziR (fuel:=fuel) hf dn dd;unfold zcJ;rw [b1];refine fW ?_
 cases b with
 |false=>exact ⟨false,rfl,fun h=>(by cases h),fun h=>b2.2 h.r⟩
 |true=>
  have hv:=b2.1 rfl;simp only [Bool.not_true,cond_false];rw [zh2 dn,zh2 dd];refine ⟨_,rfl,?_⟩;simp only [Bool.and_eq_true,decide_eq_true_eq]
  have long:∀ {g:GInt},VI g→Dig 256 g.Digits→2<g.Digits.length→65536≤dT g:=fun {g} h hd hl=>by
   have hb:=h.big hd;refine Nat.le_of_not_lt fun hc=>?_;have:=hb.len (k:=2) a4;omega
  constructor
  ·rintro ⟨⟨⟨h1,h2⟩,h3⟩,h4⟩
   split at h1
   ·omega
   ·rename_i hc
    split at h2
    ·omega
    ·have hn:p.Num.Neg=false:=by
      cases hh:p.Num.Neg with
      |false=>rfl
      |true=>exact absurd (.inl hh) hc
     rw [if_neg hc,if_neg b6] at h4;rw [if_neg b6] at h3;exact ⟨hv,hn,by omega,by omega⟩
  ·intro h;have hd:=h.den;have hm:=h.num;have hp:=hv.pos
   have c1:¬(p.Num.Neg=true∨2<p.Num.Digits.length):=by
    rintro (hc|hc)
    ·rw [h.nn] at hc;cases hc
    ·have:=long hv.num dn hc;omega
   have c2:¬(p.Den.Neg=true∨2<p.Den.Digits.length):=by
    rintro (hc|hc)
    ·rw [hv.neg] at hc;cases hc
    ·have:=long hv.den dd hc;omega
   rw [if_neg c1,if_neg c2];exact ⟨⟨⟨by omega,by omega⟩,by omega⟩,by omega⟩
theorem ziQ {fuel:Nat}{p:GRatio}(hf:2000≤fuel)(dn:Dig 256 p.Num.Digits)(dd:Dig 256 p.Den.Digits):∃b,za6 fuel p=some b∧zcJ fuel p=some b∧(b=true↔PT p):=by
 obtain ⟨b,b1,b2⟩:=zjd (fuel:=fuel) hf dn dd;obtain ⟨c,c1,c2⟩:=ziF (fuel:=fuel) hf dn dd
 have e:b=c:=by
  rw [Bool.eq_iff_iff,b2,c2]
 exact ⟨b,b1,by rw [c1,e],b2⟩
def d5 (F:Frz)(c:List Value)(x:List GBid):Prop:=∃(v0:Value) (cs0:List (List Value)),c=[v0]∧SlD cT F v0 7 cs0 x
theorem R_List_GBid.mono {F G:Frz}{c:List Value}{x:List GBid}(hle:F.Le G)(h:d5 F c x):d5 G c x:=by
 obtain ⟨v0,cs0,h0,h1⟩:=h;exact ⟨v0,cs0,h0,SlD.mono (rep:=cT) (fun _ _ _ _=>GBid.mono) h1 hle⟩
theorem R_List_GBid.len {F:Frz}{c:List Value}{x:List GBid}(h:d5 F c x):c.length=1:=by
 obtain ⟨v0,cs0,h0,h1⟩:=h;subst h0;rfl
theorem R_List_GBid.one {F:Frz}{c:List Value}{x:List GBid}(h:d5 F c x):OneCs c:=by
 obtain ⟨v0,cs0,h0,h1⟩:=h;subst h0;haveI:=h1.1.oneC
 infer_instance
theorem li {F:Frz}{c:List Value}{x:List GBid}(h:d5 F c x):c[0]?=some (nth c 0)∧∃cs,SlD cT F (nth c 0) 7 cs x:=by
 obtain ⟨v0,cs0,h0,h1⟩:=h;subst h0;exact ⟨rfl,cs0,h1⟩
theorem kw {F:Frz}{c:List Value}{x:List GBid}(h:d5 F c x):(c.drop 0).take 1=[nth c 0]:=by
 obtain ⟨v0,cs0,h0,h1⟩:=h;subst h0;rfl
def zcF (fuel : Nat)  : Option Bool :=
 (zeF [(GProduct.mk 0 1 2 1 100)] [(GBidder.mk 0 2 0 [2]),(GBidder.mk 1 2 0 [1])] (GIncrement.mk 100 10) ([107,101,121]:List Int)).bind fun r25=>
 (bif (r25.1).isSome then
  dJ (fun (x_2:Bool)=>
   (bif x_2 then
    some false
    else
    (zfA fuel 1 2).bind fun r55=>
    (zbs fuel (r25.1.getD default) [(GBid.mk 0 0 (-2) (GRatio.mk (GInt.mk r55.Num.Neg r55.Num.Digits) (GInt.mk r55.Den.Neg r55.Den.Digits)))]).bind fun r61=>
    (zdP fuel [(GBid.mk 0 0 (-2) (GRatio.mk (GInt.mk r55.Num.Neg r55.Num.Digits) (GInt.mk r55.Den.Neg r55.Den.Digits)))]).bind fun r66=>
    (zaX (GAuction.mk ((r25.1.getD default).catalogue) r61.2.2.1 (GIncrement.mk ((r25.1.getD default).increment.Activity) ((r25.1.getD default).increment.Step)) ((r25.1.getD default).key) r61.2.2.2.1 r61.2.2.2.2) 0).bind fun r71=>
    (zaX (GAuction.mk ((r25.1.getD default).catalogue) r61.2.2.1 (GIncrement.mk ((r25.1.getD default).increment.Activity) ((r25.1.getD default).increment.Step)) ((r25.1.getD default).key) r61.2.2.2.1 r61.2.2.2.2) 1).bind fun r76=>
    dJ (fun (x_8:Bool)=>
     some x_8)
    (fun k9=>
     (bif decide (r61.2.1=0) then
      (bif decide (r66.2=0) then
       (bif decide (r71.2=0) then
        (bif decide (r76.2=0) then
         (bif (zb6 r61.1 [(-1)]) then
          (za0 (GAuction.mk ((r25.1.getD default).catalogue) r61.2.2.1 (GIncrement.mk ((r25.1.getD default).increment.Activity) ((r25.1.getD default).increment.Step)) ((r25.1.getD default).key) r61.2.2.2.1 r61.2.2.2.2)).bind fun r100=>
          (bif (zb6 r100 [105]) then
           (za5 (GAuction.mk ((r25.1.getD default).catalogue) r61.2.2.1 (GIncrement.mk ((r25.1.getD default).increment.Activity) ((r25.1.getD default).increment.Step)) ((r25.1.getD default).key) r61.2.2.2.1 r61.2.2.2.2)).bind fun r106=>
           (bif r106 then
            (zbg (GAuction.mk ((r25.1.getD default).catalogue) r61.2.2.1 (GIncrement.mk ((r25.1.getD default).increment.Activity) ((r25.1.getD default).increment.Step)) ((r25.1.getD default).key) r61.2.2.2.1 r61.2.2.2.2)).bind fun r110=>
            (bif decide (r110=210) then
             (zbu (GAuction.mk ((r25.1.getD default).catalogue) r61.2.2.1 (GIncrement.mk ((r25.1.getD default).increment.Activity) ((r25.1.getD default).increment.Step)) ((r25.1.getD default).key) r61.2.2.2.1 r61.2.2.2.2)).bind fun r115=>
             (bif decide (r115=2) then
             (bif decide (r71.1.Eligibility=1) then
             (bif decide (r76.1.Eligibility=1) then
             k9 ((iD r66.1) == ([1,0,0,3,1,2]:List UInt8))
             else
             k9 false)
             else
             k9 false)
             else
             k9 false)
             else
             k9 false)
            else
            k9 false)
           else
           k9 false)
          else
          k9 false)
         else
         k9 false)
        else
        k9 false)
       else
       k9 false)
      else
      k9 false))))
  (fun k3=>
   (bif decide (¬r25.2=0) then
    k3 true
    else
    (zax (r25.1.getD default)).bind fun r36=>
    (bif !(zb6 r36 [1]) then
     k3 true
     else
     (za0 (r25.1.getD default)).bind fun r43=>
     (bif !(zb6 r43 [100]) then
      k3 true
      else
      (zaZ (r25.1.getD default)).bind fun r50=>
      k3 (!(zb6 r50 [110]))))))
  else
  none)
theorem zfn (F0 : Frz)(w : World)(hF0 : F0.At w)  (hgl : GlF F0)(fuel : Nat)(r : Bool)(hr : zcF fuel = some r) : Calls Tryz.prog 11 #[] w fun e w' => e = .returned (.bool r) ∧ Below w.heap.size w w' := by
 have hk:=hr;unfold zcF at hk;obtain ⟨S0,F1,rfl,hS0,hp0⟩:=d4 hF0;refine dL Tryz.func11 rfl rfl rfl hp0 ?_;refine eZ ?_;refine eU ?_;refine iK ?_;refine gG ?_;rintro _ _ ⟨g14,rfl,rfl⟩;refine fK ?_;refine i9 (fun w hw=>hw.freezeR (i:=1) (j:=0) a5 rfl rfl) ?_;rintro F2 ⟨le1_2,hz2⟩;refine fi ?_;have hfF2:SlC F2.toFrz (.slice (some ⟨g14,0,none⟩) 1 1) 5 ([(GProduct.mk 0 1 2 1 100)].map cR):=(SlK.lit hz2 rfl (Nat.le_refl _) a5).toF (xs:=[(GProduct.mk 0 1 2 1 100)]) rfl GProduct.len;have hq:=dm hk;clear hk;obtain ⟨r25,hr25,hk⟩:=hq; (try dsimp only at hk);refine T.bz ((r25.1).isSome) (fun h1=>?_) (fun h1=>?_)
 ·replace hk:=dk hk h1;refine ee ?_;refine gG ?_;rintro _ _ ⟨g17,rfl,rfl⟩;refine q1J ?_;rintro F3 ⟨le2_3,hz3⟩;refine fi ?_;have le1_3:=le1_2.trans le2_3;have hfF3:SlC F3.toFrz (.slice (some ⟨g17,0,none⟩) 1 1) 1 ([2].map eI):=(SlK.lit hz3 rfl (Nat.le_refl _) a5).toF (xs:=[2]) rfl (fun _=>rfl);refine iK ?_;refine gG ?_;rintro _ _ ⟨g19,rfl,rfl⟩;refine q1J ?_;rintro F4 ⟨le3_4,hz4⟩;refine fi ?_;have le1_4:=le1_3.trans le3_4;have le2_4:=le2_3.trans le3_4;have hfF4:SlC F4.toFrz (.slice (some ⟨g19,0,none⟩) 1 1) 1 ([1].map eI):=(SlK.lit hz4 rfl (Nat.le_refl _) a5).toF (xs:=[1]) rfl (fun _=>rfl);refine iK ?_;refine gG ?_;rintro _ _ ⟨g21,rfl,rfl⟩;have hl21:OwnD cO F4.toFrz 4 [[.int .i64 0, .int .i64 2, .int .i64 0,(.slice (some ⟨g17,0,none⟩) 1 1)],[.int .i64 1, .int .i64 2, .int .i64 0,(.slice (some ⟨g19,0,none⟩) 1 1)]] [(GBidder.mk 0 2 0 [2]),(GBidder.mk 1 2 0 [1])]:=(fb (fb (OwnD.nil _ _ 4) ⟨_,rfl,(SlC.mono hfF3 le3_4)⟩) ⟨_,rfl,hfF4⟩);refine q1J ?_;rintro F5 ⟨le4_5,hz5⟩;refine fi ?_;have le1_5:=le1_4.trans le4_5;have le2_5:=le2_4.trans le4_5;have hfF5:SlD cO F5.toFrz (.slice (some ⟨g21,0,none⟩) 2 2) 4 [[.int .i64 0, .int .i64 2, .int .i64 0,(.slice (some ⟨g17,0,none⟩) 1 1)],[.int .i64 1, .int .i64 2, .int .i64 0,(.slice (some ⟨g19,0,none⟩) 1 1)]] [(GBidder.mk 0 2 0 [2]),(GBidder.mk 1 2 0 [1])]:=(SlK.lit hz5 rfl (Nat.le_refl _) a5).toD (OwnD.mono (rep:=cO) (fun _ _ _ _=>GBidder.mono) hl21 le4_5) rfl;refine iK ?_;refine gG ?_;rintro _ _ ⟨g23,rfl,rfl⟩;refine q3H ?_;rintro _ _ ⟨F6,⟨le5_6,hf24⟩,rfl,rfl⟩;refine fi ?_;have le1_6:=le1_5.trans le5_6;have le2_6:=le2_5.trans le5_6;haveI:=hf24.oneC;refine cS (d7 [0] [] [] rfl rfl rfl rfl a5 (fun w hw hw2 hF=>(zfe _ w hF [(GProduct.mk 0 1 2 1 100)] (.slice (some ⟨g14,0,none⟩) 1 1) (SlC.mono hfF2 le2_6) [(GBidder.mk 0 2 0 [2]),(GBidder.mk 1 2 0 [1])] (.slice (some ⟨g21,0,none⟩) 2 2) [[.int .i64 0, .int .i64 2, .int .i64 0,(.slice (some ⟨g17,0,none⟩) 1 1)],[.int .i64 1, .int .i64 2, .int .i64 0,(.slice (some ⟨g19,0,none⟩) 1 1)]] (SlD.mono (rep:=cO) (fun _ _ _ _=>GBidder.mono) hfF5 le5_6) (GIncrement.mk 100 10) ([107,101,121]:List Int) (.slice (some ⟨g23,0,none⟩) 3 3) hf24 r25 hr25).mono (fun e w' hp=>hp.1 h1))) ?_;rintro _ _ ⟨⟨g25_n,v25_n_0,v25_n_1,c25_n_1,v25_n_4,v25_n_6⟩,F7,le6_7,⟨hf25_n_0,hf25_n_1,hf25_n_4,hf25_n_6⟩,rfl,rfl⟩;refine fk ?_; (try dsimp only at hf25_n_0 hf25_n_1 hf25_n_4 hf25_n_6);have le1_7:=le1_6.trans le6_7;refine iq ?_;refine iS ?_; (try dsimp only at hk);have hq:=dW hk;clear hk;obtain ⟨k3,hk3,hk⟩:=hq; (try dsimp only at hk);refine cZ (ι:=Bool×FzB w (fun _=>False) S0) (fun z=>[(2, .pointer (some ⟨g25_n,0,none⟩)),(54, .bool z.1)]) (fun z=>[.row g25_n 104 [v25_n_0,v25_n_1, .int .i64 ((r25.1.getD default).increment.Activity), .int .i64 ((r25.1.getD default).increment.Step),v25_n_4, .int .i64 ((r25.1.getD default).rounds),v25_n_6], .fr z.2]) (fun z=>k3 z.1=some r∧F7.toFrz.Le z.2.toFrz) ?_ ?_
  ·refine gX ?_;refine c9 rfl rfl rfl (fun h4=>?_) (fun h4=>?_)
   ·have p4:=of_decide_eq_true h4;replace hk:=dk hk h4;refine TL.run 24 rfl ?_;refine fw ?_;exact cV (true,F7) ⟨hk,(Frz.Le.refl _)⟩ (.c (.c .nil)) (List.Sublist.refl _)
   ·have p4:=of_decide_eq_false h4;replace hk:=dj hk h4;refine dw ?_;refine cN (kY (e:=104) a6 rfl rfl rfl) ?_;refine fu ?_;have hq:=dm hk;clear hk;obtain ⟨r36,hr36,hk⟩:=hq;refine cS (d7 [0,1] [.row g25_n 104 [v25_n_0,v25_n_1, .int .i64 ((r25.1.getD default).increment.Activity), .int .i64 ((r25.1.getD default).increment.Step),v25_n_4, .int .i64 ((r25.1.getD default).rounds),v25_n_6]] [] rfl rfl rfl rfl a5 (fun w hw hw2 hF=>zaH _ w hF (r25.1.getD default) g25_n v25_n_0 hf25_n_0 v25_n_1 c25_n_1 hf25_n_1 v25_n_4 hf25_n_4 v25_n_6 hf25_n_6 hw2.takes.1 hw2.takes.2 r36 hr36)) ?_;rintro _ _ ⟨v36_0_0,F9,le7_9,hf36_0_0,hq,rfl⟩;obtain rfl:=hq.symm;refine fk ?_;haveI:=hf36_0_0.oneC;refine gG ?_;rintro _ _ ⟨g37,rfl,rfl⟩;refine q1K ?_;rintro F10 ⟨le9_10,hz10⟩;refine fi ?_;have le7_10:=le7_9.trans le9_10;have hfF10:SlC F10.toFrz (.slice (some ⟨g37,0,none⟩) 1 1) 1 ([1].map eI):=(SlK.lit hz10 rfl (Nat.le_refl _) a5).toF (xs:=[1]) rfl (fun _=>rfl);refine cS (cY rfl rfl rfl (fun w hw=>zdI _ w (hw.fr (i:=1) rfl) r36 v36_0_0 (SlC.mono hf36_0_0 le9_10) [1] (.slice (some ⟨g37,0,none⟩) 1 1) hfF10)) ?_;refine d6 ?_;refine fu ?_;refine c9 rfl rfl rfl (fun h5=>?_) (fun h5=>?_)
    ·replace hk:=dk hk h5;refine TL.run 13 rfl ?_;refine fw ?_;exact cV (true,F10) ⟨hk,le7_10⟩ (.c (.c .nil)) (List.Sublist.refl _)
    ·replace hk:=dj hk h5;refine dw ?_;have hq:=dm hk;clear hk;obtain ⟨r43,hr43,hk⟩:=hq;refine cS (d7 [0,1] [.row g25_n 104 [v25_n_0,v25_n_1, .int .i64 ((r25.1.getD default).increment.Activity), .int .i64 ((r25.1.getD default).increment.Step),v25_n_4, .int .i64 ((r25.1.getD default).rounds),v25_n_6]] [] rfl rfl rfl rfl a5 (fun w hw hw2 hF=>zbU _ w hF (r25.1.getD default) g25_n v25_n_0 (SlC.mono hf25_n_0 le7_10) v25_n_1 c25_n_1 (SlD.mono (rep:=cO) (fun _ _ _ _=>GBidder.mono) hf25_n_1 le7_10) v25_n_4 (SlC.mono hf25_n_4 le7_10) v25_n_6 (SlC.mono hf25_n_6 le7_10) hw2.takes.1 hw2.takes.2 r43 hr43)) ?_;rintro _ _ ⟨v43_0_0,F11,le10_11,hf43_0_0,hq,rfl⟩;obtain rfl:=hq.symm;refine fk ?_;have le7_11:=le7_10.trans le10_11;haveI:=hf43_0_0.oneC;refine gG ?_;rintro _ _ ⟨g44,rfl,rfl⟩;refine q1K ?_;rintro F12 ⟨le11_12,hz12⟩;refine fi ?_;have le7_12:=le7_11.trans le11_12;have hfF12:SlC F12.toFrz (.slice (some ⟨g44,0,none⟩) 1 1) 1 ([100].map eI):=(SlK.lit hz12 rfl (Nat.le_refl _) a5).toF (xs:=[100]) rfl (fun _=>rfl);refine cS (cY rfl rfl rfl (fun w hw=>zdI _ w (hw.fr (i:=1) rfl) r43 v43_0_0 (SlC.mono hf43_0_0 le11_12) [100] (.slice (some ⟨g44,0,none⟩) 1 1) hfF12)) ?_;refine d6 ?_;refine fu ?_;refine c9 rfl rfl rfl (fun h6=>?_) (fun h6=>?_)
     ·replace hk:=dk hk h6;refine q3o ?_;exact cV (true,F12) ⟨hk,le7_12⟩ (.c (.c .nil)) (List.Sublist.refl _)
     ·replace hk:=dj hk h6;refine dw ?_;have hq:=dm hk;clear hk;obtain ⟨r50,hr50,hk⟩:=hq;refine cS (d7 [0,1] [.row g25_n 104 [v25_n_0,v25_n_1, .int .i64 ((r25.1.getD default).increment.Activity), .int .i64 ((r25.1.getD default).increment.Step),v25_n_4, .int .i64 ((r25.1.getD default).rounds),v25_n_6]] [] rfl rfl rfl rfl a5 (fun w hw hw2 hF=>zbT _ w hF (r25.1.getD default) g25_n v25_n_0 (SlC.mono hf25_n_0 le7_12) v25_n_1 c25_n_1 (SlD.mono (rep:=cO) (fun _ _ _ _=>GBidder.mono) hf25_n_1 le7_12) v25_n_4 (SlC.mono hf25_n_4 le7_12) v25_n_6 (SlC.mono hf25_n_6 le7_12) hw2.takes.1 hw2.takes.2 r50 hr50)) ?_;rintro _ _ ⟨v50_0_0,F13,le12_13,hf50_0_0,hq,rfl⟩;obtain rfl:=hq.symm;refine fk ?_;have le7_13:=le7_12.trans le12_13;haveI:=hf50_0_0.oneC;refine gG ?_;rintro _ _ ⟨g51,rfl,rfl⟩;refine q1K ?_;rintro F14 ⟨le13_14,hz14⟩;refine fi ?_;have le7_14:=le7_13.trans le13_14;have hfF14:SlC F14.toFrz (.slice (some ⟨g51,0,none⟩) 1 1) 1 ([110].map eI):=(SlK.lit hz14 rfl (Nat.le_refl _) a5).toF (xs:=[110]) rfl (fun _=>rfl);refine cS (cY rfl rfl rfl (fun w hw=>zdI _ w (hw.fr (i:=1) rfl) r50 v50_0_0 (SlC.mono hf50_0_0 le13_14) [110] (.slice (some ⟨g51,0,none⟩) 1 1) hfF14)) ?_;refine j4 ?_;exact cV (!(zb6 r50 [110]),F14) ⟨hk,le7_14⟩ (.c (.c .nil)) (List.Sublist.refl _)
  ·rintro ⟨x_2,F8⟩ ⟨hk,le7_8⟩; (try dsimp only at *);rw [←hk3] at hk; (try dsimp only at hk);have le1_8:=le1_7.trans le7_8;refine T.cond rfl (fun h7=>?_) (fun h7=>?_)
   ·replace hk:=dk hk h7;refine gY ?_;obtain rfl:=Option.some.inj hk;exact dX
   ·replace hk:=dj hk h7;refine fG ?_;have hq:=dm hk;clear hk;obtain ⟨r55,hr55,hk⟩:=hq; (try dsimp only at hk);refine eP ?_;refine cS (df 1 rfl rfl rfl rfl (fun w hw hF=>zhX _ w hF 1 2 fuel r55 hr55)) ?_;rintro _ _ ⟨⟨v55_0_1,v55_0_3⟩,F15,le8_15,⟨hf55_0_1,hf55_0_3⟩,rfl,rfl⟩;dsimp only at hf55_0_1 hf55_0_3 ⊢;have le1_15:=le1_8.trans le8_15;have le7_15:=le7_8.trans le8_15;haveI:=hf55_0_1.oneC;haveI:=hf55_0_3.oneC;refine iK ?_;refine gG ?_;rintro _ _ ⟨g57,rfl,rfl⟩;have hl57:OwnD cT F15.toFrz 7 [[.int .i64 0, .int .i64 0, .int .i64 (-2), .bool r55.Num.Neg,v55_0_1, .bool r55.Den.Neg,v55_0_3]] [(GBid.mk 0 0 (-2) (GRatio.mk (GInt.mk r55.Num.Neg r55.Num.Digits) (GInt.mk r55.Den.Neg r55.Den.Digits)))]:=(fb (OwnD.nil _ _ 7) ⟨_,_,rfl,hf55_0_1,hf55_0_3⟩);refine fK ?_;refine i9 (fun w hw=>hw.freezeR (i:=2) (j:=0) a5 rfl rfl) ?_;rintro F16 ⟨le15_16,hz16⟩;refine fi ?_;have le1_16:=le1_15.trans le15_16;have le7_16:=le7_15.trans le15_16;have hfF16:SlD cT F16.toFrz (.slice (some ⟨g57,0,none⟩) 1 1) 7 [[.int .i64 0, .int .i64 0, .int .i64 (-2), .bool r55.Num.Neg,v55_0_1, .bool r55.Den.Neg,v55_0_3]] [(GBid.mk 0 0 (-2) (GRatio.mk (GInt.mk r55.Num.Neg r55.Num.Digits) (GInt.mk r55.Den.Neg r55.Den.Digits)))]:=(SlK.lit hz16 rfl (Nat.le_refl _) a5).toD (OwnD.mono (rep:=cT) (fun _ _ _ _=>GBid.mono) hl57 le15_16) rfl;have hq:=dm hk;clear hk;obtain ⟨r61,hr61,hk⟩:=hq; (try dsimp only at hk);refine eE ?_;refine cS (d7 [0,1] [.row g25_n 104 [v25_n_0,v25_n_1, .int .i64 ((r25.1.getD default).increment.Activity), .int .i64 ((r25.1.getD default).increment.Step),v25_n_4, .int .i64 ((r25.1.getD default).rounds),v25_n_6]] [] rfl rfl rfl rfl a5 (fun w hw hw2 hF=>zc2 _ w hF (r25.1.getD default) g25_n v25_n_0 (SlC.mono hf25_n_0 le7_16) v25_n_1 c25_n_1 (SlD.mono (rep:=cO) (fun _ _ _ _=>GBidder.mono) hf25_n_1 le7_16) v25_n_4 (SlC.mono hf25_n_4 le7_16) v25_n_6 (SlC.mono hf25_n_6 le7_16) [(GBid.mk 0 0 (-2) (GRatio.mk (GInt.mk r55.Num.Neg r55.Num.Digits) (GInt.mk r55.Den.Neg r55.Den.Digits)))] (.slice (some ⟨g57,0,none⟩) 1 1) [[.int .i64 0, .int .i64 0, .int .i64 (-2), .bool r55.Num.Neg,v55_0_1, .bool r55.Den.Neg,v55_0_3]] hfF16 (hgl.mono le1_16) hw2.takes.1 hw2.takes.2 fuel r61 hr61)) ?_;rintro _ _ ⟨⟨v61_0_0,v61_2_1,c61_2_1,v61_2_6⟩,F17,le16_17,⟨hf61_0_0,hf61_2_1,hf61_2_6⟩,rfl,rfl⟩;refine fk ?_; (try dsimp only at hf61_0_0 hf61_2_1 hf61_2_6);have le7_17:=le7_16.trans le16_17;haveI:=hf61_0_0.oneC;haveI:=hf61_2_1.1.oneC;haveI:=hf61_2_6.oneC;refine iq ?_;refine e6 ?_;have hq:=dm hk;clear hk;obtain ⟨r66,hr66,hk⟩:=hq; (try dsimp only at hk);refine ee ?_;refine cS (df 1 rfl rfl rfl rfl (fun w hw hF=>zfL _ w hF [(GBid.mk 0 0 (-2) (GRatio.mk (GInt.mk r55.Num.Neg r55.Num.Digits) (GInt.mk r55.Den.Neg r55.Den.Digits)))] (.slice (some ⟨g57,0,none⟩) 1 1) [[.int .i64 0, .int .i64 0, .int .i64 (-2), .bool r55.Num.Neg,v55_0_1, .bool r55.Den.Neg,v55_0_3]] (SlD.mono (rep:=cT) (fun _ _ _ _=>GBid.mono) hfF16 le16_17) fuel r66 hr66)) ?_;rintro _ _ ⟨v66_0_0,F18,le17_18,hf66_0_0,rfl,rfl⟩;have le7_18:=le7_17.trans le17_18;haveI:=hf66_0_0.oneC;refine iq ?_;refine e6 ?_;have hq:=dm hk;clear hk;obtain ⟨r71,hr71,hk⟩:=hq; (try dsimp only at hk);refine ee ?_;refine cS (d7 [0,1] [.row g25_n 104 [v25_n_0,v61_2_1, .int .i64 ((r25.1.getD default).increment.Activity), .int .i64 ((r25.1.getD default).increment.Step),v25_n_4, .int .i64 r61.2.2.2.1,v61_2_6]] [] rfl rfl rfl rfl a5 (fun w hw hw2 hF=>zbW _ w hF (GAuction.mk ((r25.1.getD default).catalogue) r61.2.2.1 (GIncrement.mk ((r25.1.getD default).increment.Activity) ((r25.1.getD default).increment.Step)) ((r25.1.getD default).key) r61.2.2.2.1 r61.2.2.2.2) g25_n v25_n_0 (SlC.mono hf25_n_0 le7_18) v61_2_1 c61_2_1 (SlD.mono (rep:=cO) (fun _ _ _ _=>GBidder.mono) hf61_2_1 le17_18) v25_n_4 (SlC.mono hf25_n_4 le7_18) v61_2_6 (SlC.mono hf61_2_6 le17_18) 0 hw2.takes.1 hw2.takes.2 r71 hr71)) ?_
    rintro _ _ ⟨v71_0_3,F19,le18_19,hf71_0_3,rfl,rfl⟩;refine fk ?_;have le7_19:=le7_18.trans le18_19;have le17_19:=le17_18.trans le18_19;haveI:=hf71_0_3.oneC;refine ly ?_;rintro _ _ ⟨g9,rfl,rfl⟩;refine fM ?_;refine fK ?_;have hq:=dm hk;clear hk;obtain ⟨r76,hr76,hk⟩:=hq; (try dsimp only at hk);refine ee ?_;refine cS (d7 [1,2,0] [.row g25_n 104 [v25_n_0,v61_2_1, .int .i64 ((r25.1.getD default).increment.Activity), .int .i64 ((r25.1.getD default).increment.Step),v25_n_4, .int .i64 r61.2.2.2.1,v61_2_6]] [.row g9 57 [.int .i64 r71.1.ID, .int .i64 r71.1.Eligibility, .int .i64 r71.1.Waivers,v71_0_3]] rfl rfl rfl rfl a5 (fun w hw hw2 hF=>zbW _ w hF (GAuction.mk ((r25.1.getD default).catalogue) r61.2.2.1 (GIncrement.mk ((r25.1.getD default).increment.Activity) ((r25.1.getD default).increment.Step)) ((r25.1.getD default).key) r61.2.2.2.1 r61.2.2.2.2) g25_n v25_n_0 (SlC.mono hf25_n_0 le7_19) v61_2_1 c61_2_1 (SlD.mono (rep:=cO) (fun _ _ _ _=>GBidder.mono) hf61_2_1 le17_19) v25_n_4 (SlC.mono hf25_n_4 le7_19) v61_2_6 (SlC.mono hf61_2_6 le17_19) 1 hw2.takes.1 hw2.takes.2 r76 hr76)) ?_;rintro _ _ ⟨v76_0_3,F20,le19_20,hf76_0_3,rfl,rfl⟩;refine fk ?_;have le7_20:=le7_19.trans le19_20;have le17_20:=le17_19.trans le19_20;have le18_20:=le18_19.trans le19_20;haveI:=hf76_0_3.oneC;refine ly ?_;rintro _ _ ⟨g11,rfl,rfl⟩;refine fM ?_;refine fK ?_; (try dsimp only at hk);have hq:=dW hk;clear hk;obtain ⟨k9,hk9,hk⟩:=hq; (try dsimp only at hk);refine cZ (ι:=Bool×FzB w (fun _=>False) S0) (fun z=>[(0, .bool z.1)]) (fun z=>[.fr z.2]) (fun z=>k9 z.1=some r∧F20.toFrz.Le z.2.toFrz) ?_ ?_
    ·refine gX ?_;refine c9 rfl rfl rfl (fun h10=>?_) (fun h10=>?_)
     ·have p10:=of_decide_eq_true h10;replace hk:=dk hk h10;refine jS ?_;refine c9 rfl rfl rfl (fun h11=>?_) (fun h11=>?_)
      ·have p11:=of_decide_eq_true h11;replace hk:=dk hk h11;refine jS ?_;refine c9 rfl rfl rfl (fun h12=>?_) (fun h12=>?_)
       ·have p12:=of_decide_eq_true h12;replace hk:=dk hk h12;refine jS ?_;refine c9 rfl rfl rfl (fun h13=>?_) (fun h13=>?_)
        ·have p13:=of_decide_eq_true h13;replace hk:=dk hk h13;refine dw ?_;refine gG ?_;rintro _ _ ⟨g95,rfl,rfl⟩;refine gm (fun w hw=>hw.freezeR (i:=3) (j:=0) a5 rfl rfl) ?_;rintro F22 ⟨le20_22,hz22⟩;refine fi ?_;have le7_22:=le7_20.trans le20_22;have le17_22:=le17_20.trans le20_22;have le18_22:=le18_20.trans le20_22;have hfF22:SlC F22.toFrz (.slice (some ⟨g95,0,none⟩) 1 1) 1 ([(-1)].map eI):=(SlK.lit hz22 rfl (Nat.le_refl _) a5).toF (xs:=[(-1)]) rfl (fun _=>rfl);refine cS (cY rfl rfl rfl (fun w hw=>zdI _ w (hw.fr (i:=2) rfl) r61.1 v61_0_0 (SlC.mono hf61_0_0 le17_22) [(-1)] (.slice (some ⟨g95,0,none⟩) 1 1) hfF22)) ?_;refine iM ?_;refine c9 rfl rfl rfl (fun h14=>?_) (fun h14=>?_)
         ·replace hk:=dk hk h14;refine dw ?_;have hq:=dm hk;clear hk;obtain ⟨r100,hr100,hk⟩:=hq;refine cS (d7 [1,2,0,3] [.row g25_n 104 [v25_n_0,v61_2_1, .int .i64 ((r25.1.getD default).increment.Activity), .int .i64 ((r25.1.getD default).increment.Step),v25_n_4, .int .i64 r61.2.2.2.1,v61_2_6]] [.row g11 57 [.int .i64 r76.1.ID, .int .i64 r76.1.Eligibility, .int .i64 r76.1.Waivers,v76_0_3], .row g9 57 [.int .i64 r71.1.ID, .int .i64 r71.1.Eligibility, .int .i64 r71.1.Waivers,v71_0_3]] rfl rfl rfl rfl a5 (fun w hw hw2 hF=>zbU _ w hF (GAuction.mk ((r25.1.getD default).catalogue) r61.2.2.1 (GIncrement.mk ((r25.1.getD default).increment.Activity) ((r25.1.getD default).increment.Step)) ((r25.1.getD default).key) r61.2.2.2.1 r61.2.2.2.2) g25_n v25_n_0 (SlC.mono hf25_n_0 le7_22) v61_2_1 c61_2_1 (SlD.mono (rep:=cO) (fun _ _ _ _=>GBidder.mono) hf61_2_1 le17_22) v25_n_4 (SlC.mono hf25_n_4 le7_22) v61_2_6 (SlC.mono hf61_2_6 le17_22) hw2.takes.1 hw2.takes.2 r100 hr100)) ?_;rintro _ _ ⟨v100_0_0,F23,le22_23,hf100_0_0,hq,rfl⟩;obtain rfl:=hq.symm;refine fk ?_;have le7_23:=le7_22.trans le22_23;have le17_23:=le17_22.trans le22_23;have le18_23:=le18_22.trans le22_23;have le20_23:=le20_22.trans le22_23;haveI:=hf100_0_0.oneC;refine gG ?_;rintro _ _ ⟨g101,rfl,rfl⟩;refine q1K ?_;rintro F24 ⟨le23_24,hz24⟩;refine fi ?_;have le7_24:=le7_23.trans le23_24;have le17_24:=le17_23.trans le23_24;have le18_24:=le18_23.trans le23_24;have le20_24:=le20_23.trans le23_24;have hfF24:SlC F24.toFrz (.slice (some ⟨g101,0,none⟩) 1 1) 1 ([105].map eI):=(SlK.lit hz24 rfl (Nat.le_refl _) a5).toF (xs:=[105]) rfl (fun _=>rfl);refine cS (cY rfl rfl rfl (fun w hw=>zdI _ w (hw.fr (i:=1) rfl) r100 v100_0_0 (SlC.mono hf100_0_0 le23_24) [105] (.slice (some ⟨g101,0,none⟩) 1 1) hfF24)) ?_;refine iM ?_;refine c9 rfl rfl rfl (fun h15=>?_) (fun h15=>?_)
          ·replace hk:=dk hk h15;refine dw ?_;have hq:=dm hk;clear hk;obtain ⟨r106,hr106,hk⟩:=hq;refine cS (d7 [0,1,2,3] [.row g25_n 104 [v25_n_0,v61_2_1, .int .i64 ((r25.1.getD default).increment.Activity), .int .i64 ((r25.1.getD default).increment.Step),v25_n_4, .int .i64 r61.2.2.2.1,v61_2_6]] [.row g11 57 [.int .i64 r76.1.ID, .int .i64 r76.1.Eligibility, .int .i64 r76.1.Waivers,v76_0_3], .row g9 57 [.int .i64 r71.1.ID, .int .i64 r71.1.Eligibility, .int .i64 r71.1.Waivers,v71_0_3]] rfl rfl rfl rfl a5 (fun w hw hw2 hF=>zb0 _ w hF (GAuction.mk ((r25.1.getD default).catalogue) r61.2.2.1 (GIncrement.mk ((r25.1.getD default).increment.Activity) ((r25.1.getD default).increment.Step)) ((r25.1.getD default).key) r61.2.2.2.1 r61.2.2.2.2) g25_n v25_n_0 (SlC.mono hf25_n_0 le7_24) v61_2_1 c61_2_1 (SlD.mono (rep:=cO) (fun _ _ _ _=>GBidder.mono) hf61_2_1 le17_24) v25_n_4 (SlC.mono hf25_n_4 le7_24) v61_2_6 (SlC.mono hf61_2_6 le17_24) hw2.takes.1 hw2.takes.2 r106 hr106)) ?_;rintro _ _ ⟨⟨⟩,F25,le24_25, -,rfl,rfl⟩;refine fk ?_;have le7_25:=le7_24.trans le24_25;have le17_25:=le17_24.trans le24_25;have le18_25:=le18_24.trans le24_25;have le20_25:=le20_24.trans le24_25;refine d8 ?_;refine c9 rfl rfl rfl (fun h16=>?_) (fun h16=>?_)
           ·replace hk:=dk hk h16;refine dw ?_;have hq:=dm hk;clear hk;obtain ⟨r110,hr110,hk⟩:=hq;refine cS (dD [0,1,2,3] [.row g25_n 104 [v25_n_0,v61_2_1, .int .i64 ((r25.1.getD default).increment.Activity), .int .i64 ((r25.1.getD default).increment.Step),v25_n_4, .int .i64 r61.2.2.2.1,v61_2_6]] [.row g11 57 [.int .i64 r76.1.ID, .int .i64 r76.1.Eligibility, .int .i64 r76.1.Waivers,v76_0_3], .row g9 57 [.int .i64 r71.1.ID, .int .i64 r71.1.Eligibility, .int .i64 r71.1.Waivers,v71_0_3]] rfl rfl rfl rfl a5 (fun w hw hw2 hF=>zcM _ w hF (GAuction.mk ((r25.1.getD default).catalogue) r61.2.2.1 (GIncrement.mk ((r25.1.getD default).increment.Activity) ((r25.1.getD default).increment.Step)) ((r25.1.getD default).key) r61.2.2.2.1 r61.2.2.2.2) g25_n v25_n_0 (SlC.mono hf25_n_0 le7_25) v61_2_1 c61_2_1 (SlD.mono (rep:=cO) (fun _ _ _ _=>GBidder.mono) hf61_2_1 le17_25) v25_n_4 (SlC.mono hf25_n_4 le7_25) v61_2_6 (SlC.mono hf61_2_6 le17_25) hw2.takes.1 hw2.takes.2 r110 hr110)) ?_;rintro _ _ ⟨⟨⟩, -,rfl,rfl⟩;refine fk ?_;refine fu ?_;refine c9 rfl rfl rfl (fun h17=>?_) (fun h17=>?_)
            ·have p17:=of_decide_eq_true h17;replace hk:=dk hk h17;refine dw ?_;have hq:=dm hk;clear hk;obtain ⟨r115,hr115,hk⟩:=hq;refine cS (dD [0,1,2,3] [.row g25_n 104 [v25_n_0,v61_2_1, .int .i64 ((r25.1.getD default).increment.Activity), .int .i64 ((r25.1.getD default).increment.Step),v25_n_4, .int .i64 r61.2.2.2.1,v61_2_6]] [.row g11 57 [.int .i64 r76.1.ID, .int .i64 r76.1.Eligibility, .int .i64 r76.1.Waivers,v76_0_3], .row g9 57 [.int .i64 r71.1.ID, .int .i64 r71.1.Eligibility, .int .i64 r71.1.Waivers,v71_0_3]] rfl rfl rfl rfl a5 (fun w hw hw2 hF=>zc8 _ w hF (GAuction.mk ((r25.1.getD default).catalogue) r61.2.2.1 (GIncrement.mk ((r25.1.getD default).increment.Activity) ((r25.1.getD default).increment.Step)) ((r25.1.getD default).key) r61.2.2.2.1 r61.2.2.2.2) g25_n v25_n_0 (SlC.mono hf25_n_0 le7_25) v61_2_1 c61_2_1 (SlD.mono (rep:=cO) (fun _ _ _ _=>GBidder.mono) hf61_2_1 le17_25) v25_n_4 (SlC.mono hf25_n_4 le7_25) v61_2_6 (SlC.mono hf61_2_6 le17_25) hw2.takes.1 hw2.takes.2 r115 hr115)) ?_;rintro _ _ ⟨⟨⟩, -,rfl,rfl⟩;refine fk ?_;refine fu ?_;refine c9 rfl rfl rfl (fun h18=>?_) (fun h18=>?_)
             ·have p18:=of_decide_eq_true h18;replace hk:=dk hk h18;refine q1v ?_;refine fu ?_;refine c9 rfl rfl rfl (fun h19=>?_) (fun h19=>?_)
              ·have p19:=of_decide_eq_true h19;replace hk:=dk hk h19;refine q1Q ?_;refine fu ?_;refine c9 rfl rfl rfl (fun h20=>?_) (fun h20=>?_)
               ·have p20:=of_decide_eq_true h20;replace hk:=dk hk h20;refine dw ?_;refine cN (lk 1 (e:=5) a6 a6 a6 rfl rfl rfl (SlC.mono hf66_0_0 le18_25)) ?_;refine cN (Yv.bX (a:=(iD r66.1)) (b:=([1,0,0,3,1,2]:List UInt8)) rfl rfl rfl) ?_;refine jf ?_;refine q3p ?_;exact cV (((iD r66.1) == ([1,0,0,3,1,2]:List UInt8)),F25) ⟨hk,le20_25⟩ (.c .nil) (List.Sublist.refl _)
               ·have p20:=of_decide_eq_false h20;replace hk:=dj hk h20;refine iq ?_;refine kx ?_;exact q33
              ·have p19:=of_decide_eq_false h19;replace hk:=dj hk h19;refine TL.run 10 rfl ?_;refine kx ?_;exact q33
             ·have p18:=of_decide_eq_false h18;replace hk:=dj hk h18;refine TL.run 15 rfl ?_;refine kx ?_;exact q33
            ·have p17:=of_decide_eq_false h17;replace hk:=dj hk h17;refine TL.run 20 rfl ?_;refine kx ?_;exact q33
           ·replace hk:=dj hk h16;refine TL.run 25 rfl ?_;refine kx ?_;exact q33
          ·replace hk:=dj hk h15;refine TL.run 29 rfl ?_;refine kx ?_;exact cV (false,F24) ⟨hk,le20_24⟩ (.c .nil) (List.Sublist.refl _)
         ·replace hk:=dj hk h14;refine TL.run 35 rfl ?_;refine fw ?_;refine q2t ?_;exact cV (false,F22) ⟨hk,le20_22⟩ (.c .nil) (List.Sublist.refl _)
        ·have p13:=of_decide_eq_false h13;replace hk:=dj hk h13;refine TL.run 40 rfl ?_;refine fw ?_;refine q2t ?_;exact q4e
       ·have p12:=of_decide_eq_false h12;replace hk:=dj hk h12;refine TL.run 44 rfl ?_;refine fw ?_;refine q2t ?_;exact q4e
      ·have p11:=of_decide_eq_false h11;replace hk:=dj hk h11;refine TL.run 48 rfl ?_;refine fw ?_;refine q2t ?_;exact q4e
     ·have p10:=of_decide_eq_false h10;replace hk:=dj hk h10;refine TL.run 52 rfl ?_;refine fw ?_;refine q2t ?_;exact q4e
    ·rintro ⟨x_8,F21⟩ ⟨hk,le20_21⟩; (try dsimp only at *);rw [←hk9] at hk; (try dsimp only at hk);refine T.ret ?_;obtain rfl:=Option.some.inj hk;exact dX
 ·replace hk:=dj hk h1;refine ee ?_;refine gG ?_;rintro _ _ ⟨g17,rfl,rfl⟩;refine q1J ?_;rintro F26 ⟨le2_26,hz26⟩;refine fi ?_;have hfF26:SlC F26.toFrz (.slice (some ⟨g17,0,none⟩) 1 1) 1 ([2].map eI):=(SlK.lit hz26 rfl (Nat.le_refl _) a5).toF (xs:=[2]) rfl (fun _=>rfl);refine iK ?_;refine gG ?_;rintro _ _ ⟨g19,rfl,rfl⟩;refine q1J ?_;rintro F27 ⟨le26_27,hz27⟩;refine fi ?_;have le2_27:=le2_26.trans le26_27;have hfF27:SlC F27.toFrz (.slice (some ⟨g19,0,none⟩) 1 1) 1 ([1].map eI):=(SlK.lit hz27 rfl (Nat.le_refl _) a5).toF (xs:=[1]) rfl (fun _=>rfl);refine iK ?_;refine gG ?_;rintro _ _ ⟨g21,rfl,rfl⟩;have hl21:OwnD cO F27.toFrz 4 [[.int .i64 0, .int .i64 2, .int .i64 0,(.slice (some ⟨g17,0,none⟩) 1 1)],[.int .i64 1, .int .i64 2, .int .i64 0,(.slice (some ⟨g19,0,none⟩) 1 1)]] [(GBidder.mk 0 2 0 [2]),(GBidder.mk 1 2 0 [1])]:=(fb (fb (OwnD.nil _ _ 4) ⟨_,rfl,(SlC.mono hfF26 le26_27)⟩) ⟨_,rfl,hfF27⟩);refine q1J ?_;rintro F28 ⟨le27_28,hz28⟩;refine fi ?_;have le2_28:=le2_27.trans le27_28;have hfF28:SlD cO F28.toFrz (.slice (some ⟨g21,0,none⟩) 2 2) 4 [[.int .i64 0, .int .i64 2, .int .i64 0,(.slice (some ⟨g17,0,none⟩) 1 1)],[.int .i64 1, .int .i64 2, .int .i64 0,(.slice (some ⟨g19,0,none⟩) 1 1)]] [(GBidder.mk 0 2 0 [2]),(GBidder.mk 1 2 0 [1])]:=(SlK.lit hz28 rfl (Nat.le_refl _) a5).toD (OwnD.mono (rep:=cO) (fun _ _ _ _=>GBidder.mono) hl21 le27_28) rfl;refine iK ?_;refine gG ?_;rintro _ _ ⟨g23,rfl,rfl⟩;refine q3H ?_;rintro _ _ ⟨F29,⟨le28_29,hf24⟩,rfl,rfl⟩;refine fi ?_;have le2_29:=le2_28.trans le28_29;haveI:=hf24.oneC;refine cS (d7 [0] [] [] rfl rfl rfl rfl a5 (fun w hw hw2 hF=>(zfe _ w hF [(GProduct.mk 0 1 2 1 100)] (.slice (some ⟨g14,0,none⟩) 1 1) (SlC.mono hfF2 le2_29) [(GBidder.mk 0 2 0 [2]),(GBidder.mk 1 2 0 [1])] (.slice (some ⟨g21,0,none⟩) 2 2) [[.int .i64 0, .int .i64 2, .int .i64 0,(.slice (some ⟨g17,0,none⟩) 1 1)],[.int .i64 1, .int .i64 2, .int .i64 0,(.slice (some ⟨g19,0,none⟩) 1 1)]] (SlD.mono (rep:=cO) (fun _ _ _ _=>GBidder.mono) hfF28 le28_29) (GIncrement.mk 100 10) ([107,101,121]:List Int) (.slice (some ⟨g23,0,none⟩) 3 3) hf24 r25 hr25).mono (fun e w' hp=>hp.2 h1))) ?_;rintro _ _ ⟨⟨⟩,F30,le29_30, -,rfl,rfl⟩;refine fk ?_;refine iq ?_;refine iS ?_;cases hk
def zcc (fuel:Nat)(i:GIncrement)(p:GRatio):Option Bool:=
 (bif ((decide (100<(p.Num.Digits.length:Int)))||(decide (100<(p.Den.Digits.length:Int)))) then
  (zcF fuel).bind fun r17=>
  some r17
  else
  dJ (fun (x_3:Bool)=>
   some x_3)
  (fun k4=>
   (bif ((za8 i) == (zcj i)) then
    (za6 fuel p).bind fun r25=>
    (zcJ fuel p).bind fun r27=>
    (bif (r25 == r27) then
     (zcF fuel).bind fun r31=>
     k4 r31
     else
     k4 false)
    else
    k4 false)))
theorem ze0 (F0:Frz)(w:World)(hF0:F0.At w)(i:GIncrement)(p:GRatio)(vp_1:Value)(hp_1:SlC F0 vp_1 1 (p.Num.Digits.map (eK .u8)))(vp_3:Value)(hp_3:SlC F0 vp_3 1 (p.Den.Digits.map (eK .u8)))(hgl:GlF F0)(fuel:Nat)(r:Bool)(hr:zcc fuel i p=some r):Calls Tryz.prog 3 #[.agg [.int .i64 i.Activity, .int .i64 i.Step].toArray, .agg [.bool p.Num.Neg,vp_1, .bool p.Den.Neg,vp_3].toArray] w fun e w'=>e= .returned (.bool r)∧Below w.heap.size w w':=by
 have hk:=hr;unfold zcc at hk;haveI:=hp_1.oneC;haveI:=hp_3.oneC;obtain ⟨S0,F1,rfl,hS0,hp0⟩:=d4 hF0;refine dL Tryz.func3 rfl rfl rfl hp0 ?_;refine gi ?_;rintro _ _ ⟨g2,rfl,rfl⟩;refine lr ?_;rintro _ _ ⟨g3,rfl,rfl⟩;refine jH ?_;refine cZ (ι:=Unit) (fun z=>[(2, .pointer (some ⟨g2,0,none⟩)),(3, .pointer (some ⟨g3,0,none⟩)),(16, .bool ((decide (100<(p.Num.Digits.length:Int)))||(decide (100<(p.Den.Digits.length:Int)))))]) (fun z=>[.row g3 28 [.bool p.Num.Neg,vp_1, .bool p.Den.Neg,vp_3], .row g2 23 [.int .i64 i.Activity, .int .i64 i.Step], .fr F1]) (fun z=>True) ?_ ?_
 ·refine eP ?_;refine ft ?_;refine fD ?_;refine cN (dh rfl rfl hp_1 (List.length_map _)) ?_;have hm8:p.Num.Digits.length≤9223372036854775807:=(List.length_map _)▸hp_1.max;refine d8 ?_;refine c9 rfl rfl rfl (fun h1=>?_) (fun h1=>?_)
  ·have p1:=of_decide_eq_true h1;refine q3o ?_;exact q4g
  ·have p1:=of_decide_eq_false h1;refine ft ?_;refine fD ?_;refine cN (dh rfl rfl hp_3 (List.length_map _)) ?_;have hm14:p.Den.Digits.length≤9223372036854775807:=(List.length_map _)▸hp_3.max;refine jf ?_;exact q4h
 ·rintro _ _;have hm8:p.Num.Digits.length≤9223372036854775807:=(List.length_map _)▸hp_1.max;have hm14:p.Den.Digits.length≤9223372036854775807:=(List.length_map _)▸hp_3.max;refine T.cond rfl (fun h2=>?_) (fun h2=>?_)
  ·replace hk:=dk hk h2;refine T.seq ?_;have hq:=dm hk;clear hk;obtain ⟨r17,hr17,hk⟩:=hq; (try dsimp only at hk);refine eP ?_;refine cS (cY rfl rfl rfl (fun w hw=>zfn _ w (hw.fr (i:=2) rfl) hgl fuel r17 hr17)) ?_;refine d6 ?_;refine j0 ?_;obtain rfl:=Option.some.inj hk;exact dX
  ·have p2:=h2; (try simp only [jd] at p2);replace hk:=dj hk h2;refine fG ?_; (try dsimp only at hk);have hq:=dW hk;clear hk;obtain ⟨k4,hk4,hk⟩:=hq; (try dsimp only at hk);refine cZ (ι:=Bool) (fun z=>[(4, .bool z)]) (fun z=>[.fr F1]) (fun z=>k4 z=some r) ?_ ?_
   ·refine dQ (.still 0 (.still 2 (.eff 1 (.eff 3 (sN 4 3 (.still 8 (.eff 7 (.eff 9 (sN 10 3 (.eff 13 (.still 14 (.still 15 .done)))))))))))) _ a6 (List.Sublist.refl _) ?_;refine cQ rfl (eB 1) ?_;refine cQ rfl (eB 1) ?_;refine dH ?_;refine cX rfl (cP) rfl rfl (cY rfl rfl rfl (fun w hw=>zc6 _ w (hw.fr (i:=2) rfl) i)) ?_;refine fE ?_;refine dH ?_;refine cX rfl (cP) rfl rfl (cY rfl rfl rfl (fun w hw=>zfx _ w (hw.fr (i:=2) rfl) i)) ?_;refine fE ?_;refine cQ rfl (kO a6 rfl rfl rfl) ?_;refine fF ?_;refine gF rfl rfl rfl rfl (fun h5=>?_) (fun h5=>?_)
    ·replace hk:=dk hk h5;refine kT ?_;refine kT ?_;refine dH ?_;have hq:=dm hk;clear hk;obtain ⟨r25,hr25,hk⟩:=hq;refine cX rfl (Wt.some) rfl rfl (cY rfl rfl rfl (fun w hw=>zcQ _ w (hw.fr (i:=2) rfl) p vp_1 hp_1 vp_3 hp_3 fuel r25 hr25)) ?_;refine fE ?_;refine dH ?_;have hq:=dm hk;clear hk;obtain ⟨r27,hr27,hk⟩:=hq;refine cX rfl (Wt.some) rfl rfl (cY rfl rfl rfl (fun w hw=>zgy _ w (hw.fr (i:=2) rfl) p vp_1 hp_1 vp_3 hp_3 fuel r27 hr27)) ?_;refine fE ?_;refine cQ rfl (kO a6 rfl rfl rfl) ?_;refine fh ?_;refine dH ?_;refine TSo.gs rfl rfl rfl rfl (fun h6=>?_) (fun h6=>?_)
     ·replace hk:=dk hk h6;have hq:=dm hk;clear hk;obtain ⟨r31,hr31,hk⟩:=hq;refine cX rfl (Wt.some) rfl rfl (cY rfl rfl rfl (fun w hw=>zfn _ w (hw.fr (i:=2) rfl) hgl fuel r31 hr31)) ?_;refine fE ?_;refine kG ?_;refine q2t ?_;exact cV r31 hk (.c .nil) (List.Sublist.refl _)
     ·replace hk:=dj hk h6;refine kL ?_;refine kG ?_;refine q2t ?_;exact q4f
    ·replace hk:=dj hk h5;refine fh ?_;refine dH ?_;refine kL ?_;refine dH ?_;refine kL ?_;refine gI ?_;refine dH ?_;refine kL ?_;refine kG ?_;refine q2t ?_;exact q4f
   ·rintro x_3 hk;rw [←hk4] at hk; (try dsimp only at hk);refine T.ret ?_;obtain rfl:=Option.some.inj hk;exact dX
section
variable {σ ρ α:Type}
end
def wsum (f:Nat→Int):Nat→Int
 |0=>0
 |n+1=>wI (wsum f n+f n)
structure DemOk (l:List GProduct) (d:List Int):Prop where
 len:d.length=l.length
 bd:∀j,j<l.length→0≤nth d j∧nth d j≤(nth l j).Supply
def usum (l:List GProduct)(d:List Int):Int:=wsum (fun i=>wI (nth d i* (nth l i).Units)) l.length
structure BidOk (l:List GProduct) (b:GBidder):Prop where
 id:0≤b.ID∧b.ID≤31
 el:0≤b.Eligibility∧b.Eligibility≤76800000
 wa:0≤b.Waivers∧b.Waivers≤3
 dem:DemOk l b.Blocks
 un:usum l b.Blocks≤b.Eligibility
structure Val (l:List GProduct) (bs:List GBidder):Prop where
 n:l.length≤100
 m:bs.length≤32
 prods:zez l=true
 bids:∀j,j<bs.length→BidOk l (nth bs j)
 prog:zbc l bs=some true
 ref:∀fuel,200≤fuel→zgc fuel l bs=some true
structure Good (a:GAuction):Prop where
 val:Val a.catalogue a.bidders
 key:1≤a.key.length
 plen:a.prices.length=a.catalogue.length
 pbd:∀j,j<a.catalogue.length→0≤nth a.prices j∧nth a.prices j≤1099511627776
 step:1≤a.increment.Step∧a.increment.Step≤50
 rm:kZ a.bidders
section
variable {a:GAuction}(h:Good a)
end
def cutV:Value→Nat→Value
 | .slice none _ _,_=> .slice none 0 0
 | .slice (some A) _ _,m=> .slice (some A) m m
 |v,_=>v
instance {v:Value} {m:Nat} [h:OneC v]:OneC (cutV v m):=by
 unfold cutV
 split <;> first|exact inferInstance|exact h
section
variable {P:Program}{n:Nat}{B D:World}{M S0:Nat→Prop}{fs:dV}{hs:HS}{o:Oper}{e ei:TypeId}{v:Value}{vs:List Value}{xs:List GBidder}
end
theorem zij (n:Nat):zcF (n+100)=some true:=by kernel_rfl
theorem zh7 {fuel:Nat}(hf:100≤fuel):zcF fuel=some true:=by
 obtain ⟨n,rfl⟩:∃n,fuel=n+100:=⟨fuel - 100,by omega⟩;exact zij n
theorem ziZ {l:List Int}(h:∀x∈l,0≤x∧x≤255):Dig 256 l:=fun x hx=>by
 have:=h x hx;omega
theorem zha {F:Nat}(hF:100000≤F)(i:GIncrement)(p:GRatio)(hn:∀x∈p.Num.Digits,0≤x∧x≤255)(hd:∀x∈p.Den.Digits,0≤x∧x≤255):zcc F i p=some true:=by
 unfold zcc;rw [zh7 a4];obtain ⟨b,b1,b2,_⟩:=ziQ (fuel:=F) (p:=p) a4 (ziZ hn) (ziZ hd);rw [b1,b2];have e:za8 i=zcj i:=rfl;rw [e];simp only [Option.bind_some,dJ,beq_self_eq_true,cond_true]
 cases (decide (100<(p.Num.Digits.length:Int))||decide (100<(p.Den.Digits.length:Int))) <;> rfl
end Go.Proofs.YtmnjbhkcfghebaaGreatDoor
namespace Go.Proofs.YtmnjbhkcfghebaaGreatDoor
open Go.RowKit Go.ChangeShapes Go.WideShapes Go.Deep
def Opens {H:Type}(enc:TypeId×Value→H)(w:World)(base:Nat)(spare:Nat→Bool)(held:Bool)(t:TypeId){α:Type}(R:List Value→α→Prop):Prop:=
 ∀fuel cs y,DataW.trod enc Tryz.prog w base spare held fuel t cs=some y→∃x,R cs x
section
variable {H:Type}{enc:TypeId×Value→H}{w:World}{base:Nat}{spare:Nat→Bool}{held:Bool}
theorem Opens.int {t:TypeId}(ht:Tryz.prog.underlying t=some (.int .i64)):Opens enc w base spare held t (fun cs (x:Int)=>cs=[.int .i64 x]):=fun fuel cs y h=>by
 obtain ⟨k,hk,_⟩:=DataW.trod_int ht h;exact ⟨k,hk⟩
theorem zi1 {a:Addr}{v:Value}(h:w.cell? a=some v):Cb w a.block:=by
 unfold World.cell? at h
 split at h
 all_goals (first|exact ⟨_,_,_,by assumption⟩|simp at h|skip)
theorem Opens.any {t e : TypeId} {k : Nat} {α : Type} [Inhabited α] {R : List Value → α → Prop} (ht : Tryz.prog.underlying t = some (.slice e)) (hk : Tryz.prog.cellsOf e = k) (hpos : 0 < k) (ho : Opens enc w base spare held e R) :
    Opens enc w base spare held t (fun cs (l : List α) => ∃ v c, cs = [v] ∧ SlC (Frz.all w) v k c ∧ c.length = l.length ∧ ∀ i, i < l.length → R (nth c i) (nth l i)) := fun fuel cs y h => by
  rcases open_slice ht h with ⟨h0, _⟩ | ⟨a, len, cap, m, n, D, Pl, hcs, hb, hl, hm, hmm, _, hx⟩
  · exact ⟨[], _, [], h0, SlC.nil _ _, rfl, fun i hi => absurd hi (Nat.not_lt_zero i)⟩
  · subst hcs; (have hlm : len ≤ m := by rw [hmm]; split <;> omega)
    have each : ∀ i, i < m → ∃ x : List Value × α, x.1.length = k ∧ R x.1 x.2 ∧ ∀ j, j < k → w.cell? (a.add (i * k + j)) = x.1[j]? := fun i hi => by
      obtain ⟨cs', h1, h2⟩ := hx i hi; rw [hk] at h1; obtain ⟨_, hlen, hcell⟩ := World.cells?_some h1; obtain ⟨x, hR⟩ := ho _ _ _ h2; exact ⟨(cs', x), hlen, hR, fun j hj => by rw [← hcell j hj, add_add]⟩
    obtain ⟨X, hX⟩ := choose_lt each
    have hn : ∀ i, i < len → nth ((List.range len).map fun i => (X i).1) i = (X i).1 := fun i hi => by
      rw [fq (by simpa using hi)]; simp
    have hn2 : ∀ i, i < len → nth ((List.range len).map fun i => (X i).2) i = (X i).2 := fun i hi => by
      rw [fq (by simpa using hi)]; simp
    refine ⟨(List.range len).map fun i => (X i).2, _, (List.range len).map fun i => (X i).1, rfl, ⟨some a, cap, by simp, by simpa using hl, by unfold maxLen at hm; omega, fun c hc => ?_, fun hp => ?_⟩, by simp, fun i hi => ?_⟩
    · simp at hc; obtain ⟨i, hi, rfl⟩ := hc; exact (hX i a4).1
    · (have hp' : 0 < len := by simpa using hp); have c0 := (hX 0 a4).2.2 0 hpos; have hx0 := (hX 0 a4).1; rw [List.getElem?_eq_getElem a4] at c0; have hcb := zi1 c0; have hs := World.cell?_spot c0; simp [Addr.add] at hs hcb; obtain ⟨b, off, sp⟩ := a; simp at hs hcb; subst hs; refine ⟨b, off, rfl, hcb, fun i hi j hj => ?_⟩; simp at hi; rw [hn i hi] at hj ⊢; have hxi := hX i a4; have := hxi.2.2 j a4;refine Eq.trans ?_ this
      show w.cell? _ = _
      rw [jL, Nat.add_assoc]
    · simp at hi; rw [hn i hi, hn2 i hi]; exact (hX i a4).2.1
theorem Opens.bytes {t e : TypeId} (ht : Tryz.prog.underlying t = some (.slice e)) (he : Tryz.prog.underlying e = some (.int .u8)) (hk : Tryz.prog.cellsOf e = 1) :
    Opens enc w base spare held t (fun cs (l : List Int) => ∃ v, cs = [v] ∧ SlC (Frz.all w) v 1 (l.map (eK .u8)) ∧ ∀ x ∈ l, 0 ≤ x ∧ x ≤ 255) := fun fuel cs y h => by
  have ho : Opens enc w base spare held e (fun cs (x : Int) => cs = eK .u8 x ∧ (0 ≤ x ∧ x ≤ 255)) := fun fuel cs y h => by
    obtain ⟨k, h1, _, h2⟩ := DataW.trod_int he h;refine ⟨k, h1, ?_⟩; (have e1 : IntKind.u8.min = 0 := by decide); (have e2 : IntKind.u8.max = 255 := by decide); simp only [Lit.wf, e1, e2, Bool.and_eq_true, decide_eq_true_eq] at h2; exact h2
  obtain ⟨l, v, c, h1, h2, h3, h4⟩ := Opens.any ht hk a5 ho _ _ _ h; refine ⟨l, v, h1, ?_, fun x hx => ?_⟩
  · have : c = l.map (eK .u8) := by
      apply List.ext_getElem (by simpa using h3); intro i hi hi2; rw [← fq hi, (h4 i a4).1, List.getElem_map, fq a4]
    rw [← this]; exact h2
  · obtain ⟨i, hi, e⟩ := List.mem_iff_getElem.1 hx; have := (h4 i hi).2; rw [fq hi, e] at this; exact this
end
end Go.Proofs.YtmnjbhkcfghebaaGreatDoor
namespace Go.Proofs.YtmnjbhkcfghebaaGreatDoor
open Go.ChangeShapes Go.WideShapes Go.ChangeAt Go.RowKit Go.Joins Go.Deep
abbrev lt36 : List (String × DataW Unit) := [("bandplan/blake.order", Rows.laid_bandplan_blake_order), ("bandplan/blake.initial", Rows.laid_bandplan_blake_initial)]
theorem g36a : Tryz.prog.globalNamed "bandplan/blake.order" = some 2 := by kernel_rfl
theorem g36b : Tryz.prog.globalNamed "bandplan/blake.initial" = some 1 := by kernel_rfl
theorem t36a:(Tryz.prog.globals[2]?).map (·.type)=some 301:=by kernel_rfl
theorem t36b:(Tryz.prog.globals[1]?).map (·.type)=some 292:=by kernel_rfl
theorem zjs (os:Os)(args:Array Value):laidMetH Tryz.prog lt36 ((World.doorLaid Tryz.prog 400 os).forCall (fun _ _=>0) ⟨#[],args,[]⟩).memory:=
 laidMetH_of_parts3 (fuel:=8) (laidMet_of_run' 8 a6 a6) a6 a6
section
variable {P:Program}{H:Type}{enc:TypeId×Value→H}{w:World}{base:Nat}{spare:Nat→Bool}{held:Bool}
theorem zhB {t e n:Nat}{k:IntKind}{fuel:Nat}{cs:List Value}{zs:List Int}{pl:List MemPlace}(ht:P.underlying t=some (.array n e))(he:P.underlying e=some (.int k))(hc:P.cellsOf e=1)(hct:P.cellsOf t=n)(h:DataW.trod enc P w base spare held fuel t cs=some (.agg (zs.map fun z=> .lit (.int k z)),pl)):cs=zs.map (Value.int k):=by
 obtain ⟨xs,m,rfl,hx,hl,hn,hel⟩:=DataW.trod_array ht h;simp only [Prod.mk.injEq,DataW.agg.injEq] at hx; (have hzl:zs.length=n:=by have:=congrArg List.length hx.1;simp at this;omega);refine List.ext_getElem (by rw [hl,List.length_map,hct,hzl]) fun j h1 h2=>?_; (have hj:j<n:=by rw [List.length_map] at h2;omega);have h0:=hel j hj;rw [List.getElem?_eq_getElem a4] at h0;obtain ⟨q,e1,e2,_⟩:=DataW.trod_int he h0;have h3:=congrArg (fun l=>l[j]?) hx.1;simp only [List.getElem?_map] at h3;rw [List.getElem?_eq_getElem (show j<xs.length by omega),List.getElem?_eq_getElem (show j<zs.length by omega)] at h3;simp only [Option.map_some,Option.some.injEq] at h3;rw [e2] at h3;simp only [DataW.lit.injEq,Lit.int.injEq,true_and] at h3;subst h3;rw [hc,Nat.mul_one] at e1;have h4:=congrArg (fun l=>l[0]?) e1;simp only [List.getElem?_take,List.getElem?_drop] at h4;simp at h4;rw [List.getElem?_eq_getElem h1] at h4;simp only [Option.some.injEq] at h4;rw [h4];simp
end
theorem zjq:(Rows.laid_bandplan_blake_initial:DataW Unit)= .agg (eJ.1.map fun z=> .lit (.int .u32 z)):=rfl
theorem zjt:(Rows.laid_bandplan_blake_order:DataW Unit)= .agg (blOrder.map fun x=> .agg (x.1.map fun z=> .lit (.int .u8 z))):=rfl
theorem zg1 {W:World}{n:String}{g:Nat}{cs:Array Value}(hg:Tryz.prog.globalNamed n=some g)(hv:W.var? Tryz.prog n=some cs):Cb W g:=by
 simp only [World.var?,hg,Option.bind_some] at hv
 split at hv
 ·exact ⟨_,_,_,by assumption⟩
 ·simp at hv
theorem gl_of {W:World}(h:laidMetH Tryz.prog lt36 W):GlF (Frz.all W):=by
 rw [MakeChecks.laidMetH_plain _ _ _ a6] at h;obtain ⟨ps,⟨g0,t0,cs0,f0,p0,q0,hg0,ht0,hv0,hd0,⟨g1,t1,cs1,f1,p1,q1,hg1,ht1,hv1,hd1,_,_⟩,_⟩,_,_⟩:=h;obtain rfl:=Option.some.inj (g36a.symm.trans hg0);obtain rfl:=Option.some.inj (t36a.symm.trans ht0);obtain rfl:=Option.some.inj (g36b.symm.trans hg1);obtain rfl:=Option.some.inj (t36b.symm.trans ht1); (have e5:Tryz.prog.cellsOf 5=1:=by kernel_rfl); (have e175:Tryz.prog.cellsOf 175=1:=by kernel_rfl); (have e292:Tryz.prog.cellsOf 292=8:=by kernel_rfl); (have e300:Tryz.prog.cellsOf 300=16:=by kernel_rfl);constructor
 ·rw [zjq] at hd1;have hc:=zhB Tryz.underlying292 Tryz.underlying175 e175 e292 hd1;refine ⟨some ⟨1,0,none⟩,1,rfl,Nat.le_refl _,by decide,fun c hc=>?_,fun _=>⟨1,0,rfl,zg1 g36b hv1,fun i hi q hq=>?_⟩⟩
  ·simp at hc;subst hc;rfl
  ·(have hi:i=0:=by simpa using hi);subst hi
   show W.cell? _=_
   rw [Nat.zero_mul,Nat.zero_add,World.var?_cell hg1 hv1 q,←Array.getElem?_toList,hc];rfl
 ·rw [zjt] at hd0;obtain ⟨xs,m,rfl,hx,hl,hn,hel⟩:=DataW.trod_array Tryz.underlying301 hd0;simp only [Prod.mk.injEq,DataW.agg.injEq] at hx;refine ⟨some ⟨2,0,none⟩,10,rfl,by decide,by decide,fun c hc=>?_,fun _=>⟨2,0,rfl,zg1 g36a hv0,fun i hi q hq=>?_⟩⟩
  ·obtain ⟨x,_,rfl⟩:=List.mem_map.1 hc;rw [List.length_map,x.2]
  ·(have hi:i<10:=by rw [List.length_map] at hi;exact hi);have hb:i<blOrder.length:=hi;have h0:=hel i hi;rw [List.getElem?_eq_getElem a4] at h0;have h3:=congrArg (fun l=>l[i]?) hx.1;simp only [List.getElem?_map] at h3;rw [List.getElem?_eq_getElem (show i<xs.length by omega),List.getElem?_eq_getElem hb] at h3;simp only [Option.map_some,Option.some.injEq] at h3;have h4:xs[i]=(.agg (blOrder[i].1.map fun z=> .lit (.int .u8 z)),xs[i].2):=Prod.ext h3.symm rfl;rw [h4] at h0;have hc:=zhB Tryz.underlying300 Tryz.underlying5 e5 e300 h0;rw [e300] at hc
   have e9:nth (blOrder.map fun x=>x.1.map (Value.int .u8)) i=blOrder[i].1.map (Value.int .u8):=by
    rw [fq (by rw [List.length_map];exact hb),List.getElem_map]
   rw [e9] at hq ⊢;rw [List.length_map,blOrder[i].2] at hq
   show W.cell? _=_
   rw [Nat.zero_add,World.var?_cell hg0 hv0 (i*16+q),←Array.getElem?_toList,←hc,List.getElem?_take_of_lt hq,List.getElem?_drop]
section
variable {H:Type}{enc:TypeId×Value→H}{w:World}{base:Nat}{spare:Nat→Bool}{held:Bool}
end
end Go.Proofs.YtmnjbhkcfghebaaGreatDoor
