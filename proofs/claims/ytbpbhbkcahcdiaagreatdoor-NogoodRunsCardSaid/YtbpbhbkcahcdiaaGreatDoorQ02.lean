/- Tj Tk Ti Fe A: shortened and put together by squeeze.py. -/
import Derived.Test.YtbpbhbkcahcdiaaGreatDoorQ01
import Derived.Laws.Bits64
import Derived.Lib.TrailingZeros
import Derived.Scope
set_option maxRecDepth 100000
set_option maxHeartbeats 4000000
set_option linter.unusedVariables false
set_option linter.unusedSectionVars false
set_option linter.unusedSimpArgs false
namespace Go.Proofs.YtbpbhbkcahcdiaaGreatDoor
open Go.RowKit
abbrev U (b:BitVec 64):Value:= .int .u64 (b.toNat:Int)
theorem zj1 (b:BitVec 64):IntKind.u64.wrap (b.toNat:Int)=(b.toNat:Int):=by
 rw [IntKind.wrap_u64];have:=b.isLt;omega
theorem zeu (b:BitVec 64):BitVec.ofInt 64 (b.toNat:Int)=b:=by
 rw [BitVec.ofInt_natCast];simp
theorem U.one (b:BitVec 64):OneC (U b):=inferInstance
section
variable {P:Program}{n:Nat}{B D:World}{M:Nat→Prop}{fs:SFs}{hs:HS}{o:Oper}{v:Value}
theorem zhR {op:BinOp}{a b r:BitVec 64}(h:(op= .and∧r=a &&& b)∨(op= .or∧r=a ||| b)∨(op= .xor∧r=a ^^^ b)∨(op= .andNot∧r=a &&& ~~~b))(t:TypeId)(w:World):(binOp op t (U a) (U b)).run P w= .ok (U r) w:=by
 rcases h with ⟨rfl,rfl⟩|⟨rfl,rfl⟩|⟨rfl,rfl⟩|⟨rfl,rfl⟩
 ·have e:(binOp .and t (U a) (U b)).run P w= .ok (.int .u64 (IntKind.u64.wrap ((BitVec.ofInt 64 (a.toNat:Int) &&& BitVec.ofInt 64 (b.toNat:Int)).toNat:Int))) w:=rfl
  rw [e,zeu,zeu,zj1]
 ·have e:(binOp .or t (U a) (U b)).run P w= .ok (.int .u64 (IntKind.u64.wrap ((BitVec.ofInt 64 (a.toNat:Int) ||| BitVec.ofInt 64 (b.toNat:Int)).toNat:Int))) w:=rfl
  rw [e,zeu,zeu,zj1]
 ·have e:(binOp .xor t (U a) (U b)).run P w= .ok (.int .u64 (IntKind.u64.wrap ((BitVec.ofInt 64 (a.toNat:Int) ^^^ BitVec.ofInt 64 (b.toNat:Int)).toNat:Int))) w:=rfl
  rw [e,zeu,zeu,zj1]
 ·have e:(binOp .andNot t (U a) (U b)).run P w= .ok (.int .u64 (IntKind.u64.wrap ((BitVec.ofInt 64 (a.toNat:Int) &&& ~~~(BitVec.ofInt 64 (b.toNat:Int))).toNat:Int))) w:=rfl
  rw [e,zeu,zeu,zj1]
theorem Yv.bM {op:BinOp}{x y:Operand}{t u:TypeId}{a b r:BitVec 64}(h:(op= .and∧r=a &&& b)∨(op= .or∧r=a ||| b)∨(op= .xor∧r=a ^^^ b)∨(op= .andNot∧r=a &&& ~~~b))(ho:o.op= .binOp op t x y u)(hx:ev fs x=some (U a))(hy:ev fs y=some (U b)):Yv P n B M fs hs o (U r):=fun f w ha _=>by
 have hr:=zhR (P:=P) h t w
 have hg:(eqGuard op t x y (U a) (U b)).run P w= .ok () w:=by rcases h with ⟨rfl,rfl⟩|⟨rfl,rfl⟩|⟨rfl,rfl⟩|⟨rfl,rfl⟩ <;> rfl
 unfold execOp
 simp only [ho,ha.ev hx,ha.ev hy]
 rw [Sem.run_bind,Sem.run_bind,hg]
 simp only [Result.andThen,hr]
 rfl
theorem Yv.be {x y:Operand}{t u:TypeId}{a b:BitVec 64}(ho:o.op= .binOp .and t x y u)(hx:ev fs x=some (U a))(hy:ev fs y=some (U b)):Yv P n B M fs hs o (U (a &&& b)):=Yv.bM (.inl ⟨rfl,rfl⟩) ho hx hy
theorem Yv.orV {x y:Operand}{t u:TypeId}{a b:BitVec 64}(ho:o.op= .binOp .or t x y u)(hx:ev fs x=some (U a))(hy:ev fs y=some (U b)):Yv P n B M fs hs o (U (a ||| b)):=Yv.bM (.inr (.inl ⟨rfl,rfl⟩)) ho hx hy
theorem Yv.bv {x y:Operand}{t u:TypeId}{a b:BitVec 64}(ho:o.op= .binOp .andNot t x y u)(hx:ev fs x=some (U a))(hy:ev fs y=some (U b)):Yv P n B M fs hs o (U (a &&& ~~~b)):=Yv.bM (.inr (.inr (.inr ⟨rfl,rfl⟩))) ho hx hy
theorem Yv.bi {x y:Operand}{t u:TypeId}{a:BitVec 64}{q:IntKind}{z:Int}(i:Nat)(ho:o.op= .binOp .shl t x y u)(hx:ev fs x=some (U a))(hy:ev fs y=some (.int q z))(hz:z=(i:Int))(hi:i<64):Yv P n B M fs hs o (U (a <<< i)):=fun f w ha _=>by
 subst hz
 have hr:(binOp .shl t (U a) (.int q (i:Int))).run P w= .ok (U (a <<< i)) w:=by
  show (Op.shift .shl .u64 (a.toNat:Int) q (i:Int)).run P w=_
  unfold Op.shift
  rw [if_neg (by omega)]
  have e:min (i:Int).toNat IntKind.u64.bits=i:=by show min (i:Int).toNat 64=i;omega
  simp only [e]
  show Result.ok _ _=_
  congr 2
  rw [IntKind.wrap_u64,BitVec.toNat_shiftLeft,Nat.shiftLeft_eq,Int.natCast_emod,Int.natCast_mul,Int.natCast_pow]
  rfl
 unfold execOp
 simp only [ho,ha.ev hx,ha.ev hy]
 rw [Sem.run_bind,Sem.run_bind,show (eqGuard .shl t x y (U a) (.int q (i:Int))).run P w= .ok () w from rfl]
 simp only [Result.andThen,hr]
 rfl
theorem Yv.bf {x y:Operand}{t u:TypeId}{a:BitVec 64}{q:IntKind}{z:Int}(i:Nat)(ho:o.op= .binOp .shr t x y u)(hx:ev fs x=some (U a))(hy:ev fs y=some (.int q z))(hz:z=(i:Int))(hi:i<64):Yv P n B M fs hs o (U (a >>> i)):=fun f w ha _=>by
 subst hz
 have hr:(binOp .shr t (U a) (.int q (i:Int))).run P w= .ok (U (a >>> i)) w:=by
  show (Op.shift .shr .u64 (a.toNat:Int) q (i:Int)).run P w=_
  unfold Op.shift
  rw [if_neg (by omega)]
  have e:min (i:Int).toNat IntKind.u64.bits=i:=by show min (i:Int).toNat 64=i;omega
  simp only [e]
  show Result.ok _ _=_
  congr 2
  rw [Int.fdiv_eq_ediv_of_nonneg _ (by exact Int.le_of_lt (Int.pow_pos (by decide))),BitVec.toNat_ushiftRight,Nat.shiftRight_eq_div_pow]
  norm_cast
 unfold execOp
 simp only [ho,ha.ev hx,ha.ev hy]
 rw [Sem.run_bind,Sem.run_bind,show (eqGuard .shr t x y (U a) (.int q (i:Int))).run P w= .ok () w from rfl]
 simp only [Result.andThen,hr]
 rfl
theorem Yv.co {x y:Operand}{t u:TypeId}{a b:BitVec 64}(ho:o.op= .binOp .sub t x y u)(hx:ev fs x=some (U a))(hy:ev fs y=some (U b)):Yv P n B M fs hs o (U (a - b)):=
 (Yv.aB (v:= .int .u64 (IntKind.u64.wrap ((a.toNat:Int) - (b.toNat:Int)))) (by rw [ho];simp only [zgI,hx,hy];rfl)).eq (by
  congr 1
  rw [IntKind.wrap_u64,BitVec.toNat_sub]
  have:=a.isLt;have:=b.isLt
  omega)
theorem Yv.ce {x:Operand}{t:TypeId}{a:BitVec 64}(ho:o.op= .unOp .xor t x)(hx:ev fs x=some (U a)):Yv P n B M fs hs o (U (~~~a)):=fun f w ha _=>by
 have hr:(Op.unary .xor (U a)).run P w= .ok (U (~~~a)) w:=by
  have e:(Op.unary .xor (U a)).run P w= .ok (.int .u64 (IntKind.u64.wrap ((BitVec.ofInt 64 (IntKind.u64.max) ^^^ BitVec.ofInt 64 (a.toNat:Int)).toNat:Int))) w:=rfl
  rw [e,zeu,show BitVec.ofInt 64 IntKind.u64.max=BitVec.allOnes 64 from by decide,BitVec.allOnes_xor,zj1]
 unfold execOp
 simp only [ho,ha.ev hx]
 rw [Sem.run_bind,hr]
 rfl
end
section
variable {P:Program}{n:Nat}{B D:World}{M:Nat→Prop}{fs:SFs}{hs:HS}{o:Oper}{v:Value}
theorem Ew.aT (i : Nat) {t u : TypeId} [hT : TyS P t] {x y : Operand} {g p : Nat} {l : List Value} {hs' : HS} {val : Value} [hv : OneC val] (l' : List Value) (ho : o.op = .store t x y) (hx : ev fs x = some (.pointer (some ⟨g, p, none⟩))) (hy : ev fs y = some val)
    (hi : hs[i]? = some (.row g u l)) (hp : p < l.length) (hl : l.set p val = l') [hH : SetAt hs i (.row g u l') hs'] : Ew P n B M fs hs o (fun v hs'' => v = undef ∧ hs'' = hs') := by
  haveI : SetAt l p val l' := ⟨hl⟩
  exact Ew.aE i ho hx hy hi hp
theorem Ew.aL (i : Nat) {t e : TypeId} [hT : TyS P t] {x y : Operand} {g p k cap size : Nat} {l : List Value} {hs' : HS} {val : Value} [hv : OneC val] (l' : List Value) (ho : o.op = .store t x y) (hx : ev fs x = some (.pointer (some ⟨g, p, none⟩))) (hy : ev fs y = some val)
    (hi : hs[i]? = some (.sl (.slice (some ⟨g, 0, none⟩) k cap) e size k l)) (hp : p < l.length) (hl : l.set p val = l') [hH : SetAt hs i (.sl (.slice (some ⟨g, 0, none⟩) k cap) e size k l') hs'] : Ew P n B M fs hs o (fun v hs'' => v = undef ∧ hs'' = hs') := by
  subst hl
  exact Ew.bS i ho hx hy hi hp
end
instance (ws:List (BitVec 64)):OneCs (ws.map fun b=>U b):=⟨fun x hx=>by obtain ⟨b,_,rfl⟩:=List.mem_map.1 hx;rfl⟩
section
variable {P:Program}{n:Nat}{B D:World}{M:Nat→Prop}{fs:SFs}{hs:HS}{o:Oper}{v:Value}
theorem Yv.by {x y:Operand}{t u:TypeId}{a b:BitVec 64}(ho:o.op= .binOp .add t x y u)(hx:ev fs x=some (U a))(hy:ev fs y=some (U b)):Yv P n B M fs hs o (U (a+b)):=
 (Yv.aB (v:= .int .u64 (IntKind.u64.wrap ((a.toNat:Int)+(b.toNat:Int)))) (by rw [ho];simp only [zgI,hx,hy];rfl)).eq (by
  rw [show IntKind.u64.wrap ((a.toNat:Int)+(b.toNat:Int))=((a+b).toNat:Int) from by rw [IntKind.wrap_u64,BitVec.toNat_add];omega])
theorem Yv.cz {x y:Operand}{t u:TypeId}{a b:BitVec 64}(ho:o.op= .binOp .mul t x y u)(hx:ev fs x=some (U a))(hy:ev fs y=some (U b)):Yv P n B M fs hs o (U (a*b)):=
 (Yv.aB (v:= .int .u64 (IntKind.u64.wrap ((a.toNat:Int) * (b.toNat:Int)))) (by rw [ho];simp only [zgI,hx,hy];rfl)).eq (by
  rw [show IntKind.u64.wrap ((a.toNat:Int) * (b.toNat:Int))=((a*b).toNat:Int) from by rw [IntKind.wrap_u64,BitVec.toNat_mul,Int.natCast_emod,Int.natCast_mul];rfl])
theorem Yv.cA {x:Operand}{t:TypeId}{a:BitVec 64}(ho:o.op= .unOp .neg t x)(hx:ev fs x=some (U a)):Yv P n B M fs hs o (U (-a)):=fun f w ha _=>by
 have hr:(Op.unary .neg (U a)).run P w= .ok (U (-a)) w:=by
  have e:(Op.unary .neg (U a)).run P w= .ok (.int .u64 (IntKind.u64.wrap (0 - (a.toNat:Int)))) w:=rfl
  rw [e]
  congr 2
  rw [IntKind.wrap_u64,BitVec.toNat_neg]
  have:=a.isLt
  omega
 unfold execOp
 simp only [ho,ha.ev hx]
 rw [Sem.run_bind,hr]
 rfl
theorem Ew.bI {t e : TypeId} {size bytes c : Nat} {z : List Value} {x y : Operand} {q q' : IntKind} {yi : Int} [hT : TyE P t e size bytes z] (ho : o.op = .makeSlice t x y) (hx : ev fs x = some (.int q 0)) (hy : ev fs y = some (.int q' yi)) (hyi : yi = (c : Int)) (hk : c ≤ 9223372036854775807) (hb : bytes * c ≤ 281474976710656) :
    Ew P n B M fs hs o (fun v hs' => ∃ g, v = .slice (some ⟨g, 0, none⟩) 0 c ∧ hs' = .sl (.slice (some ⟨g, 0, none⟩) 0 c) e size 0 [] :: hs) := Ew.aW fun a w ha hp => by
  obtain ⟨inf, zv, hU, hinf, hz, hzc, rfl, rfl, hzs, hpos⟩ := hT.get
  subst hyi
  obtain ⟨w', hr, hown, hgr⟩ := run_make_own (P := P) w 0 t e inf zv inf.size hU hinf hz rfl q q' c hb (by unfold maxLen; omega) (Nat.zero_le _)
  refine ⟨_, w', _, ?_, Kp.only (zcK hgr) (fun g hg => by cases hg), hp.fresh ⟨hgr.os, hgr.tape, hgr.output, hgr.size, fun k hk => hgr.block k hk (by simp)⟩ (Ent.sl_ok.2 hown) (fun p hp => ?_), w.heap.size, rfl, rfl⟩
  · unfold execOp
    simp [ho, ha.ev hx, ha.ev hy, hr]
  · have := Ent.sl_fp.1 hp
    simp [Value.ownBlock] at this
    omega
end
def Tab (w:World):Prop:=∀j,j<64→w.cell? ⟨0,j,none⟩=some (.int .u8 (Lib.deBruijn64tab.getD j 0:Nat))
theorem Tab.kept {B w:World}{M:Nat→Prop}{hs:HS}(hw:Hp B M hs w)(h:Tab B)(hM:¬M 0):Tab w:=fun j hj=>hw.cellB (h j hj) hM
theorem Tab.keptF {B w:World}{hs:HS}(hw:Hp B (fun _=>False) hs w)(h:Tab B):Tab w:=h.kept hw (fun h=>h)
theorem Tab.size {w:World}(h:Tab w):0<w.heap.size:=zhZ (h 0 (by decide))
def ctz (a:BitVec 64):Nat:=Lib.ctz 64 a.toNat
theorem zgy {a:BitVec 64}(ha:a≠0#64):∃m,a.toNat=2 ^ ctz a* (2*m+1)∧ctz a<64:=by
 have h0:a.toNat≠0:=fun h=>ha (BitVec.eq_of_toNat_eq (by simpa using h))
 have:=Lib.ctzFrom_spec 64 a.toNat (by omega) a.isLt
 unfold ctz Lib.ctz
 rw [if_neg h0]
 exact this
theorem zf6 {a:BitVec 64}(ha:a≠0#64):ctz a<64:=by obtain ⟨m,_,h⟩:=zgy ha;exact h
theorem zmw {a:BitVec 64}(ha:a≠0#64):(((a &&& -a) *285870213051353865#64) >>> 58).toNat=2 ^ ctz a*285870213051353865 % 18446744073709551616 / 288230376151711744:=by
 have h0:a.toNat≠0:=fun h=>ha (BitVec.eq_of_toNat_eq (by simpa using h))
 have hl:=(Lib.lowest_bit 64 a.toNat h0 a.isLt).1
 have hlt:=a.isLt
 rw [BitVec.toNat_ushiftRight,BitVec.toNat_mul,BitVec.toNat_and,BitVec.toNat_neg,Nat.mod_eq_of_lt (show 2 ^ 64 - a.toNat<2 ^ 64 by omega),hl,Nat.shiftRight_eq_div_pow]
 rfl
theorem zmC {a:BitVec 64}(ha:a≠0#64):(((a &&& -a) *285870213051353865#64) >>> 58).toNat<64∧Lib.deBruijn64tab.getD (((a &&& -a) *285870213051353865#64) >>> 58).toNat 0=ctz a:=by
 rw [zmw ha];exact Lib.deBruijn64_at _ (zf6 ha)
theorem zdC {a:BitVec 64}(ha:a≠0#64)(j:Nat):(a.getLsbD (ctz a)=true)∧(j<ctz a→a.getLsbD j=false):=by
 obtain ⟨m,he,hlt⟩:=zgy ha
 have hb:∀j,a.getLsbD j=(2 ^ ctz a* (2*m+1)).testBit j:=fun j=>by rw [←he];rfl
 constructor
 ·rw [hb,Nat.testBit_two_pow_mul];simp
 ·intro hj
  rw [hb,Nat.testBit_two_pow_mul];simp;omega
theorem zeO {a:BitVec 64}(ha:a≠0#64)(j:Nat):(a &&& (a - 1#64)).getLsbD j=(a.getLsbD j&& !decide (j=ctz a)):=by
 obtain ⟨m,he,hlt⟩:=zgy ha
 have hb:∀j,a.getLsbD j=(2 ^ ctz a* (2*m+1)).testBit j:=fun j=>by rw [←he];rfl
 have h2:(2 ^ ctz a:Nat) > 0:=Nat.two_pow_pos _
 have hs:(a - 1#64).toNat=2 ^ ctz a* (2*m)+(2 ^ ctz a - 1):=by
  rw [BitVec.toNat_sub]
  have:=a.isLt
  have e:2 ^ ctz a* (2*m+1)=2 ^ ctz a* (2*m)+2 ^ ctz a:=by rw [Nat.mul_add,Nat.mul_one]
  rw [e] at he
  simp only [BitVec.toNat_ofNat]
  omega
 have hb2:(a - 1#64).getLsbD j=(2 ^ ctz a* (2*m)+(2 ^ ctz a - 1)).testBit j:=by rw [←hs];rfl
 rw [BitVec.getLsbD_and,hb2,hb j,Nat.testBit_two_pow_mul_add _ (by omega),Nat.testBit_two_pow_mul]
 by_cases h1:j<ctz a
 ·rw [if_pos h1,decide_eq_false (show ¬ctz a≤j by omega)];simp
 ·rw [if_neg h1,decide_eq_true (show ctz a≤j by omega)]
  simp only [Bool.true_and]
  by_cases h3:j=ctz a
  ·subst h3;simp
  ·rw [decide_eq_false h3,Bool.not_false,Bool.and_true]
   obtain ⟨i,hi⟩:∃i,j - ctz a=i+1:=⟨j - ctz a - 1,by omega⟩
   rw [hi,Nat.testBit_succ,Nat.testBit_succ,show 2*m / 2=m by omega,show (2*m+1) / 2=m by omega,Bool.and_self]
section
variable {F:Fence}{P:Program}{b:Frame}{a:Act}{k:List Item}{cs:List Frame}{w:World}{Q:Exit→Act→World→Prop}{n:Nat}
theorem zcn {c:Code}:step P (lone (b.atR a (.code (.scope c) :: k)) cs w)= .next (lone (b.atR a (.code c :: .inScope c :: k)) cs w):=step_lone_go (by simp [stepG,stepG.exec,Frame.atR])
theorem zgg {c:Code}:step P (lone (b.atR a (.inScope c :: k)) cs w)= .next (lone (b.atR a k) cs w):=step_lone_go (by simp [stepG,stepG.exec,Frame.atR])
theorem zi5 {c : Code} (h : c.wpIn F n P (Exit.noGoto Q) a w) : (Code.scope c).wpIn F n P Q a w := by
  intro b k cs hro hb hr
  have h0 : (lone (b.atR a (.code (.scope c) :: k)) cs w).fenced P F := fenced_calm hb hr rfl
  obtain ⟨e, a₁, w₁, hq, harr⟩ := h b (.inScope c :: k) cs hro hb hr
  cases e with
  | normal => exact ⟨.normal, a₁, w₁, hq, .head h0 zcn (StepsIn.trans harr (.one (fenced_calm hb hr rfl) zgg))⟩
  | exit id' =>
    have hx : exitTo id' (.inScope c :: k) = exitTo id' k := by simp [exitTo]
    exact ⟨.exit id', a₁, w₁, hq, fun k' hk => .head h0 zcn (harr.1 k' (by rw [hx]; exact hk)),
        fun hr' hk => let ⟨k₁, h1, h2⟩ := harr.2 hr' (by rw [hx]; exact hk); ⟨k₁, h1, .head h0 zcn h2⟩⟩
  | goto l => exact hq.elim
  | ret => exact ⟨_, a₁, w₁, hq, .of_steps (.one h0 zcn) harr⟩
  | panic ch => exact ⟨_, a₁, w₁, hq, .of_steps (.one h0 zcn) harr⟩
  | outgrown => exact ⟨_, a₁, w₁, hq, .of_steps (.one h0 zcn) harr⟩
end
section
variable {F:Fence}{P:Program}{n:Nat}{B D:World}{M:Nat→Prop}{Q:Exit→Act→World→Prop}{fs:SFs}{hs:HS}{c:Code}{id:Nat}
theorem T.scope (h:T F P n B D M c (Exit.noGoto Q) fs hs):T F P n B D M (.scope c) Q fs hs:=⟨fun a w ha hw hm=>zi5 (h.out a w ha hw hm)⟩
theorem T.label {l:Nat}(h:K n B D M Q .normal fs hs):T F P n B D M (.label l) Q fs hs:=⟨fun a w ha hw hm=>wpIn_label (h.out a w ha hw hm)⟩
theorem K.bl (h:K n B D M Q .normal fs hs):K n B D M (Exit.noGoto Q) .normal fs hs:=⟨fun a w ha hw hm=>h.out a w ha hw hm⟩
instance (Q:Exit→Act→World→Prop) [h:NP Q]:NP (Exit.noGoto Q):=⟨fun c a d v w k=>h.h c a d v w k⟩
end
section
variable {P:Program}{n:Nat}{B D:World}{M:Nat→Prop}{fs:SFs}{hs:HS}{o:Oper}{v:Value}
theorem Ew.bs (i : Nat) {ι : Type} {e : Ent} {φ : ι → Prop} {val : ι → Value} {es : ι → Ent} {hs' : ι → HS} {c : Operand} {xs : Array Operand} {ts : Array TypeId} {f : FuncId} {caps : Array Value} {x : Value} [hE : Enters P f] (ho : o.op = .call { callee := .value c, args := xs, argTypes := ts }) (hc : ev fs c = some (.func (.func f) #[] caps)) (hv : evs fs xs.toList = some [x]) (hi : hs[i]? = some e)
    (C : ∀ w, Hp B M hs w → Calls P f (x :: caps.toList).toArray w (fun x w' => ∃ y, φ y ∧ x = .returned (val y) ∧ Hp w e.fp [es y] w')) [hH : ∀ y, SetAt hs i (es y) (hs' y)] : Ew P n B M fs hs o (fun v' hs'' => ∃ y, φ y ∧ v' = val y ∧ hs'' = hs' y) :=
  Ew.call ho hc hv fun w hp => by
    have := C w hp
    simp only [List.nil_append, List.singleton_append]
    exact this.mono fun x w' ⟨y, hy, he, hk⟩ => ⟨val y, hs' y, he, Kp.only hk.only (fun g hg c => e.nd (hp.get hi) g hg c), by
      rw [← (hH y).h]
      exact hp.updAt hi hk.only (fun g _ hg => hg) (hk.own _ (by simp)) (fun g hg => hk.new _ (by simp) g hg), y, hy, rfl, rfl⟩
def fps (es:HS)(g:Nat):Prop:=∃e∈es,e.fp g
theorem Hp.startL {w:World}{es:HS}(h:∀e∈es,e.ok w)(hap:es.Pairwise fun e f=>∀g,e.fp g→¬f.fp g):Hp w (fps es) es w:=
 ⟨rfl,rfl,rfl,Nat.le_refl _,fun _ _ _=>rfl,h,fun e he g hg=> .inl ⟨e,he,hg⟩,hap⟩
theorem Ew.bC (es rest : HS) {ι : Type} {φ : ι → Prop} {val : ι → Value} {es' : ι → HS} {c : Operand} {xs : Array Operand} {ts : Array TypeId} {f : FuncId} {vs : List Value} [hE : Enters P f] (ho : o.op = .call { callee := .value c, args := xs, argTypes := ts }) (hc : ev fs c = some (.func (.func f) #[] #[])) (hv : evs fs xs.toList = some vs) (hp : hs.Perm (es ++ rest))
    (C : ∀ w, Hp B M hs w → Hp B M (es ++ rest) w → Calls P f vs.toArray w (fun x w' => ∃ y, φ y ∧ x = .returned (val y) ∧ Hp w (fps es) (es' y) w')) : Ew P n B M fs hs o (fun v' hs'' => ∃ y, φ y ∧ v' = val y ∧ hs'' = es' y ++ rest) :=
  Ew.bL ho hc hv fun w hw => (C w hw (hw.perm hp)).mono fun x w' ⟨y, hy, he, hk⟩ => ⟨val y, es' y ++ rest, he, Kp.only hk.only (fun g hg c => by
      obtain ⟨e, h1, h2⟩ := hg
      exact e.nd ((hw.perm hp).own e (List.mem_append_left _ h1)) g h2 c), Hp.go (es := es) (hw.perm hp) hk.only (fun g _ hg => hg) hk.own (fun e he g hg => hk.new e he g hg) hk.apart, y, hy, rfl, rfl⟩
theorem Hp.ne {w:World}{i j:Nat}{e f:Ent}(h:Hp B M hs w)(hij:i<j)(hi:hs[i]?=some e)(hj:hs[j]?=some f){g:Nat}(he:e.fp g):¬f.fp g:=by
 obtain ⟨h1,rfl⟩:=List.getElem?_eq_some_iff.1 hi
 obtain ⟨h2,rfl⟩:=List.getElem?_eq_some_iff.1 hj
 exact List.pairwise_iff_getElem.1 h.apart i j h1 h2 hij g he
end
theorem zl8 (a:BitVec 64):decide ((a.toNat:Int)=0)=decide (a=0#64):=by
 congr 1
 simp only [eq_iff_iff]
 constructor
 ·intro h;exact BitVec.eq_of_toNat_eq (by simpa using h)
 ·rintro rfl;rfl
theorem zfD {k:Nat}{v:Value}{r:SFs}{t:Nat}:look ((k,v) :: r) t=if k=t then some v else look r t:=by
 simp only [look]
 by_cases h:k=t
 ·subst h;simp
 ·rw [show Nat.beq k t=false from by cases hb:Nat.beq k t with|false=>rfl|true=>exact absurd (Nat.eq_of_beq_eq_true hb) h,if_neg h];rfl
theorem zjs {l1 l2:SFs}(h:l1.Perm l2):(l1.map Prod.fst).Nodup→∀fs t,look (l1++fs) t=look (l2++fs) t:=by
 induction h with
 |nil=>intros;rfl
 |cons x _ ih=>
  intro hn fs t
  obtain ⟨k,v⟩:=x
  simp only [List.cons_append,zfD]
  rw [ih (by simp only [List.map_cons,List.nodup_cons] at hn;exact hn.2)]
 |swap x y l=>
  intro hn fs t
  obtain ⟨a,u⟩:=x
  obtain ⟨b,v⟩:=y
  simp only [List.map_cons,List.nodup_cons,List.mem_cons,not_or] at hn
  simp only [List.cons_append,zfD]
  by_cases h1:a=t <;> by_cases h2:b=t
  ·exact absurd (h2.trans h1.symm) hn.1.1
  ·simp [h1,h2]
  ·simp [h1,h2]
  ·simp [h1,h2]
 |trans h1 _ ih1 ih2=>
  intro hn fs t
  rw [ih1 hn,ih2 ((h1.map Prod.fst).nodup_iff.1 hn)]
section
variable {F:Fence}[hF:Calm F]{P:Program}{n:Nat}{B D:World}{M:Nat→Prop}{Q:Exit→Act→World→Prop}{fs:SFs}{hs hs0:HS}{ops:Array Oper}{kk:Ord}
theorem TS.aM {gs:SFs}{hs':HS}{r:Ord}(h1:Sub fs gs)(hp:hs.Perm hs')(h:TS F P n B D M ops Q hs0 r gs hs'):TS F P n B D M ops Q hs0 r fs hs:=
 ⟨fun a w fuel listed h2 h3 h4 ha hw hw0 hm=>h.out a w fuel listed h2 h3 h4 (ha.sub h1) (hw.perm hp) hw0 hm⟩
theorem TS.cB {js : List Nat} (d : Nat → Nat) (V : Nat → Nat → Value) (E : Nat → Nat → Ent)
    (hop : ∀ j ∈ js, ∃ o : Oper, ops[j]? = some o ∧ o.dst = some (d j) ∧ Nat.blt (d j) n = true ∧ look fs (d j) = none ∧ o.guard = none ∧ ∀ fs' hs', Sub fs' fs → Ew P n B M fs' hs' o (fun v hs'' => ∃ g, v = V j g ∧ hs'' = E j g :: hs'))
    (k : ∀ done : List (Nat × Nat), (done.map Prod.fst).Perm js → TS F P n B D M ops Q hs0 kk (done.map (fun p => (d p.1, V p.1 p.2)) ++ fs) (done.map (fun p => E p.1 p.2) ++ hs)) (hsub : hs0.Sublist hs) :
    TS F P n B D M ops Q hs0 (.any js kk) fs hs := by
  have main : ∀ m (rem : List Nat) (done : List (Nat × Nat)) fuel (listed : Array Bool) a w, Region.noSelect ops = true → zdO ops = true → (done.map Prod.fst ++ rem).Perm js →
      zfV ops (fun f l => zdD ops kk f l) m rem fuel listed = true → Fr n (done.map (fun p => (d p.1, V p.1 p.2)) ++ fs) a → Hp B M (done.map (fun p => E p.1 p.2) ++ hs) w → Hp B M hs0 w → Mk B D a w →
      zc4 F P .any ops Q (Hp B M hs0) fuel listed a w := by
    intro m
    induction m with
    | zero =>
      intro rem done fuel listed a w hns hnd hp hok ha hw hw0 hm
      simp only [zfV, Bool.and_eq_true, List.isEmpty_iff] at hok
      obtain ⟨rfl, hok⟩ := hok
      rw [List.append_nil] at hp
      exact (k done hp).out a w fuel listed hns hnd hok ha hw hw0 hm
    | succ m ih =>
      intro rem done fuel listed a w hns hnd hp hok ha hw hw0 hm
      cases fuel with
      | zero => simp [zfV] at hok
      | succ fuel =>
        simp only [zfV, Bool.and_eq_true, beq_iff_eq, Bool.not_eq_true', List.isEmpty_eq_false_iff, List.all_eq_true] at hok
        refine zeG hok.1 hok.2.1 ?_
        intro q hq
        have hqj : q ∈ js := hp.subset (List.mem_append_right _ hq)
        obtain ⟨o, h1, h2, h3, h4, h5, hE⟩ := hop q hqj
        have hs' : Sub (done.map (fun p => (d p.1, V p.1 p.2)) ++ fs) fs := by
          have : ∀ (l : List (Nat × Nat)), (∀ p ∈ l, p.1 ∈ js) → Sub (l.map (fun p => (d p.1, V p.1 p.2)) ++ fs) fs := by
            intro l
            induction l with
            | nil => intro _; exact Sub.refl
            | cons p r ihr =>
              intro hl t v hv
              simp only [List.map_cons, List.cons_append, zfD]
              by_cases hd : d p.1 = t
              · obtain ⟨_, _, _, _, this, _⟩ := hop p.1 (hl p (by simp))
                rw [hd] at this
                rw [this] at hv; cases hv
              · rw [if_neg hd]; exact ihr (fun x hx => hl x (by simp [hx])) t v hv
          exact this done (fun p hp' => hp.subset (List.mem_append_left _ (List.mem_map.2 ⟨p, hp', rfl⟩)))
        unfold wpOpIn
        simp only [h1, (Wt.none (n := n) (ops := ops) (fs := done.map (fun p => (d p.1, V p.1 p.2)) ++ fs) h5) a ha, if_true]
        refine hE _ _ hs' F hF Q _ a w ha hw ?_
        rintro v w' hs'' hk hp' ⟨g, rfl, rfl⟩
        rw [h2]
        have hsub' : hs0.Sublist (E q g :: (done.map (fun p => E p.1 p.2) ++ hs)) := (hsub.trans (List.sublist_append_right _ _)).trans (List.sublist_cons_self _ _)
        refine ⟨hp'.sub hsub', ?_⟩
        exact ih (rem.erase q) ((q, g) :: done) fuel _ _ w' hns hnd (by
          simp only [List.map_cons, List.cons_append]
          have : (q :: (done.map Prod.fst ++ rem.erase q)).Perm (done.map Prod.fst ++ q :: rem.erase q) := List.perm_middle.symm
          exact this.trans (((List.perm_cons_erase hq).symm.append_left _).trans hp)) (hok.2.2 q hq) (ha.put h3 _) hp' (hp'.sub hsub') ((hm.next hk).put _ _)
  exact ⟨fun a w fuel listed hns hnd hok ha hw hw0 hm => main js.length js [] fuel listed a w hns hnd (by simp) (by simpa [zdD] using hok) ha hw hw0 hm⟩
def zjg (done:List (Nat×Nat))(j:Nat):Nat:=match done.find? (fun p=>p.1 == j) with|some p=>p.2|none=>0
theorem zgP:∀(done:List (Nat×Nat)),(done.map Prod.fst).Nodup→∀p∈done,zjg done p.1=p.2
 | [],_,p,hp=>by cases hp
 |q :: r,hn,p,hp=>by
  simp only [List.map_cons,List.nodup_cons] at hn
  unfold zjg
  rw [List.find?_cons]
  by_cases h:q.1=p.1
  ·have e:(q.1 == p.1)=true:=by simpa using h
   simp only [e]
   rcases List.mem_cons.1 hp with rfl|hp
   ·rfl
   ·exact absurd (List.mem_map.2 ⟨p,hp,h.symm⟩) hn.1
  ·have e:(q.1 == p.1)=false:=by simpa using h
   simp only [e]
   rcases List.mem_cons.1 hp with rfl|hp
   ·exact absurd rfl h
   ·exact zgP r hn.2 p hp
theorem TS.any {js : List Nat} (d : Nat → Nat) (V : Nat → Nat → Value) (E : Nat → Nat → Ent) (hnd : js.Nodup) (hnd2 : (js.map d).Nodup)
    (hop : ∀ j ∈ js, ∃ o : Oper, ops[j]? = some o ∧ o.dst = some (d j) ∧ Nat.blt (d j) n = true ∧ look fs (d j) = none ∧ o.guard = none ∧ ∀ fs' hs', Sub fs' fs → Ew P n B M fs' hs' o (fun v hs'' => ∃ g, v = V j g ∧ hs'' = E j g :: hs'))
    (hsub : hs0.Sublist hs) (k : ∀ gs : Nat → Nat, TS F P n B D M ops Q hs0 kk (js.map (fun j => (d j, V j (gs j))) ++ fs) (js.map (fun j => E j (gs j)) ++ hs)) : TS F P n B D M ops Q hs0 (.any js kk) fs hs := by
  refine TS.cB d V E hop (fun done hp => ?_) hsub
  have hdn : (done.map Prod.fst).Nodup := hp.nodup_iff.2 hnd
  have he : done = (done.map Prod.fst).map (fun j => (j, zjg done j)) := by
    rw [List.map_map]
    conv => lhs; rw [← List.map_id done]
    exact List.map_congr_left fun p hp' => by simp [zgP done hdn p hp']
  have hpd : done.Perm (js.map (fun j => (j, zjg done j))) := by
    have := hp.map (fun j => (j, zjg done j))
    rw [← he] at this
    exact this
  refine TS.aM (fun t v hv => ?_) ?_ (k (zjg done))
  · have h1 := hpd.map (fun p => (d p.1, V p.1 p.2))
    rw [List.map_map] at h1
    rw [zjs h1 (by
      rw [List.map_map]
      have := hp.map d
      rw [List.map_map] at this
      exact this.nodup_iff.2 hnd2)]
    exact hv
  · have h1 := hpd.map (fun p => E p.1 p.2)
    rw [List.map_map] at h1
    exact h1.append_right _
end
@[irreducible] def Ent.bag (es:HS):Ent where
 fp g:=∃e∈es,e.fp g
 ok w:=(∀e∈es,e.ok w)∧es.Pairwise fun (e f:Ent)=>∀g:Nat,e.fp g→¬f.fp g
 loc h k:=⟨fun e he=>e.loc (fun g hg=>h g ⟨e,he,hg⟩) (k.1 e he),k.2⟩
 lt h g hg:=by obtain ⟨e,he,hg⟩:=hg;exact e.lt (h.1 e he) g hg
 nd h g hg c:=by obtain ⟨e,he,hg⟩:=hg;exact e.nd (h.1 e he) g hg c
theorem Ent.bag_fp {es:HS}{g:Nat}:(Ent.bag es).fp g↔∃e∈es,e.fp g:=by unfold Ent.bag;exact Iff.rfl
theorem Ent.bag_ok {es:HS}{w:World}:(Ent.bag es).ok w↔(∀e∈es,e.ok w)∧es.Pairwise fun e f=>∀g,e.fp g→¬f.fp g:=by unfold Ent.bag;exact Iff.rfl
section
variable {F:Fence}{P:Program}{n:Nat}{B D:World}{M:Nat→Prop}{Q:Exit→Act→World→Prop}{fs:SFs}{hs:HS}{c:Code}{e:Exit}{w:World}
theorem Hp.repl {es es' rest:HS}(h:Hp B M (es++rest) w)(hok:∀e∈es',e.ok w)(hfp:∀e∈es',∀g,e.fp g→∃f∈es,f.fp g)(hap:es'.Pairwise fun e f=>∀g,e.fp g→¬f.fp g):Hp B M (es'++rest) w:=
 Hp.go (es:=es) h (Only.refl (fun _=>False) w) (fun _ _ h=>h.elim) hok (fun e he g hg=> .inl (hfp e he g hg)) hap
theorem Hp.openB {i a : Nat} {es : HS} {x : Ent} (h : Hp B M hs w) (hi : hs[i]? = some (.bag es)) (ha : es[a]? = some x) : Hp B M (x :: hs.set i (.bag (es.eraseIdx a))) w := by
  have h1 := h.perm (zdj hi)
  have hb := Ent.bag_ok.1 (h1.own (.bag es) (by simp))
  obtain ⟨hal, rfl⟩ := List.getElem?_eq_some_iff.1 ha
  have hpe := zeM es a hal
  have hpw := (hpe.pairwise_iff (fun hxy g hy hx => hxy g hx hy)).1 hb.2
  rw [List.pairwise_cons] at hpw
  have h2 := Hp.repl (es := [.bag es]) (es' := [es[a], .bag (es.eraseIdx a)]) h1 (fun e he => by
      simp only [List.mem_cons, List.not_mem_nil, or_false] at he
      rcases he with rfl | rfl
      · exact hb.1 _ (List.getElem_mem _)
      · exact Ent.bag_ok.2 ⟨fun e he => hb.1 e (List.mem_of_mem_eraseIdx he), hpw.2⟩) (fun e he g hg => by
      simp only [List.mem_cons, List.not_mem_nil, or_false] at he
      refine ⟨_, List.mem_singleton.2 rfl, Ent.bag_fp.2 ?_⟩
      rcases he with rfl | rfl
      · exact ⟨_, List.getElem_mem _, hg⟩
      · obtain ⟨f, hf, hg⟩ := Ent.bag_fp.1 hg
        exact ⟨f, List.mem_of_mem_eraseIdx hf, hg⟩) (by
      refine List.pairwise_cons.2 ⟨fun f hf g hg hfg => ?_, List.pairwise_singleton _ _⟩
      rw [List.mem_singleton.1 hf] at hfg
      obtain ⟨f', hf', hg'⟩ := Ent.bag_fp.1 hfg
      exact hpw.1 f' hf' g hg hg')
  exact h2.perm ((zdc hi).cons _)
theorem Hp.closeB {i a : Nat} {es : HS} {x : Ent} (h : Hp B M (x :: hs) w) (hi : hs[i]? = some (.bag (es.eraseIdx a))) (ha : a < es.length) : Hp B M (hs.set i (.bag (es.set a x))) w := by
  have h1 : Hp B M ([x, .bag (es.eraseIdx a)] ++ hs.eraseIdx i) w := h.perm ((zdj hi).cons _)
  have hb := Ent.bag_ok.1 (h1.own (.bag (es.eraseIdx a)) (by simp))
  have hx := h1.own x (by simp)
  have hxb := (List.pairwise_cons.1 h1.apart).1 (.bag (es.eraseIdx a)) (by simp)
  have hpe : (x :: es.eraseIdx a).Perm (es.set a x) := by
    have := zdc (hs := es) (e := es[a]) (e' := x) (i := a) (List.getElem?_eq_getElem ha)
    exact this
  have h2 := Hp.repl (es := [x, .bag (es.eraseIdx a)]) (es' := [.bag (es.set a x)]) h1 (fun e he => by
      rw [List.mem_singleton.1 he]
      refine Ent.bag_ok.2 ⟨fun e he => ?_, (hpe.pairwise_iff (fun hxy g hy hx => hxy g hx hy)).1 (List.pairwise_cons.2 ⟨fun f hf g hg hfg => hxb g hg (Ent.bag_fp.2 ⟨f, hf, hfg⟩), hb.2⟩)⟩
      rcases List.mem_cons.1 (hpe.symm.subset he) with rfl | he
      · exact hx
      · exact hb.1 e he) (fun e he g hg => by
      rw [List.mem_singleton.1 he] at hg
      obtain ⟨f, hf, hfg⟩ := Ent.bag_fp.1 hg
      rcases List.mem_cons.1 (hpe.symm.subset hf) with e1 | hf
      · rw [e1] at hfg; exact ⟨x, by simp, hfg⟩
      · exact ⟨.bag (es.eraseIdx a), by simp, Ent.bag_fp.2 ⟨f, hf, hfg⟩⟩) (List.pairwise_singleton _ _)
  exact h2.perm (zdc hi)
theorem T.openB (i a:Nat){es:HS}{x:Ent}{hs':HS}(hi:hs[i]?=some (.bag es))(ha:es[a]?=some x)[hH:SetAt hs i (.bag (es.eraseIdx a)) hs'](h:T F P n B D M c Q fs (x :: hs')):T F P n B D M c Q fs hs:=⟨fun a' w ha' hw hm=>h.out a' w ha' (by rw [←hH.h];exact hw.openB hi ha) hm⟩
theorem K.closeB (i a:Nat){es:HS}{x:Ent}{hs':HS}(hi:hs[i]?=some (.bag (es.eraseIdx a)))(ha:a<es.length)[hH:SetAt hs i (.bag (es.set a x)) hs'](h:K n B D M Q e fs hs'):K n B D M Q e fs (x :: hs):=⟨fun a' w ha' hw hm=>h.out a' w ha' (by rw [←hH.h];exact hw.closeB hi ha) hm⟩
theorem K.aV (i a:Nat){es:HS}(es':HS){x:Ent}{hs':HS}(hi:hs[i]?=some (.bag (es.eraseIdx a)))(ha:a<es.length)(he:es.set a x=es')[hH:SetAt hs i (.bag es') hs'](h:K n B D M Q e fs hs'):K n B D M Q e fs (x :: hs):=by
 subst he
 exact K.closeB i a hi ha h
theorem Hp.intoB {i : Nat} {es : HS} {x : Ent} (h : Hp B M (x :: hs) w) (hi : hs[i]? = some (.bag es)) : Hp B M (hs.set i (.bag (es ++ [x]))) w := by
  have h1 : Hp B M ([x, .bag es] ++ hs.eraseIdx i) w := h.perm ((zdj hi).cons _)
  have hb := Ent.bag_ok.1 (h1.own (.bag es) (by simp))
  have hx := h1.own x (by simp)
  have hxb := (List.pairwise_cons.1 h1.apart).1 (.bag es) (by simp)
  have h2 := Hp.repl (es := [x, .bag es]) (es' := [.bag (es ++ [x])]) h1 (fun e he => by
      rw [List.mem_singleton.1 he]
      refine Ent.bag_ok.2 ⟨fun e he => ?_, List.pairwise_append.2 ⟨hb.2, List.pairwise_singleton _ _, fun f hf y hy g hg hyg => ?_⟩⟩
      · rcases List.mem_append.1 he with he | he
        · exact hb.1 e he
        · rw [List.mem_singleton.1 he]; exact hx
      · rw [List.mem_singleton.1 hy] at hyg
        exact hxb g hyg (Ent.bag_fp.2 ⟨f, hf, hg⟩)) (fun e he g hg => by
      rw [List.mem_singleton.1 he] at hg
      obtain ⟨f, hf, hfg⟩ := Ent.bag_fp.1 hg
      rcases List.mem_append.1 hf with hf | hf
      · exact ⟨.bag es, by simp, Ent.bag_fp.2 ⟨f, hf, hfg⟩⟩
      · rw [List.mem_singleton.1 hf] at hfg; exact ⟨x, by simp, hfg⟩) (List.pairwise_singleton _ _)
  exact h2.perm (zdc hi)
theorem K.cf (i:Nat){es:HS}(es':HS){x:Ent}{hs':HS}(hi:hs[i]?=some (.bag es))(he:es++[x]=es')[hH:SetAt hs i (.bag es') hs'](h:K n B D M Q e fs hs'):K n B D M Q e fs (x :: hs):=by
 subst he
 exact ⟨fun a' w ha' hw hm=>h.out a' w ha' (by rw [←hH.h];exact hw.intoB hi) hm⟩
theorem Hp.bag0 {es:HS}(h:Hp B M hs w)(hok:∀w,∀e∈es,e.ok w)(hfp:∀e∈es,∀g,¬e.fp g):Hp B M (.bag es :: hs) w:=
 Hp.repl (es:=[]) (es':=[.bag es]) h (fun e he=>by
  rw [List.mem_singleton.1 he]
  exact Ent.bag_ok.2 ⟨hok w,(List.pairwise_iff_forall_sublist).2 (fun {a b} hs g hg=>absurd hg (hfp a (hs.subset (by simp)) g))⟩) (fun e he g hg=>by
  rw [List.mem_singleton.1 he] at hg
  obtain ⟨f,hf,hg⟩:=Ent.bag_fp.1 hg
  exact absurd hg (hfp f hf g)) (List.pairwise_singleton _ _)
theorem T.bag0 (es:HS)(hok:∀w,∀e∈es,e.ok w)(hfp:∀e∈es,∀g,¬e.fp g)(h:T F P n B D M c Q fs (.bag es :: hs)):T F P n B D M c Q fs hs:=⟨fun a w ha hw hm=>h.out a w ha (hw.bag0 hok hfp) hm⟩
end
end Go.Proofs.YtbpbhbkcahcdiaaGreatDoor
namespace Go.Proofs.YtbpbhbkcahcdiaaGreatDoor
instance:Mixed Tryz.prog:=⟨by kernel_rfl⟩
instance:Enters Tryz.prog 10:=⟨by kernel_rfl⟩
instance:Enters Tryz.prog 100:=⟨by kernel_rfl⟩
instance:Enters Tryz.prog 101:=⟨by kernel_rfl⟩
instance:Enters Tryz.prog 102:=⟨by kernel_rfl⟩
instance:Enters Tryz.prog 103:=⟨by kernel_rfl⟩
instance:Enters Tryz.prog 104:=⟨by kernel_rfl⟩
instance:Enters Tryz.prog 105:=⟨by kernel_rfl⟩
instance:Enters Tryz.prog 106:=⟨by kernel_rfl⟩
instance:Enters Tryz.prog 107:=⟨by kernel_rfl⟩
instance:Enters Tryz.prog 108:=⟨by kernel_rfl⟩
instance:Enters Tryz.prog 109:=⟨by kernel_rfl⟩
instance:Enters Tryz.prog 11:=⟨by kernel_rfl⟩
instance:Enters Tryz.prog 110:=⟨by kernel_rfl⟩
instance:Enters Tryz.prog 111:=⟨by kernel_rfl⟩
instance:Enters Tryz.prog 112:=⟨by kernel_rfl⟩
instance:Enters Tryz.prog 113:=⟨by kernel_rfl⟩
instance:Enters Tryz.prog 114:=⟨by kernel_rfl⟩
instance:Enters Tryz.prog 115:=⟨by kernel_rfl⟩
instance:Enters Tryz.prog 116:=⟨by kernel_rfl⟩
instance:Enters Tryz.prog 117:=⟨by kernel_rfl⟩
instance:Enters Tryz.prog 118:=⟨by kernel_rfl⟩
instance:Enters Tryz.prog 119:=⟨by kernel_rfl⟩
instance:Enters Tryz.prog 12:=⟨by kernel_rfl⟩
instance:Enters Tryz.prog 120:=⟨by kernel_rfl⟩
instance:Enters Tryz.prog 121:=⟨by kernel_rfl⟩
instance:Enters Tryz.prog 122:=⟨by kernel_rfl⟩
instance:Enters Tryz.prog 123:=⟨by kernel_rfl⟩
instance:Enters Tryz.prog 124:=⟨by kernel_rfl⟩
instance:Enters Tryz.prog 125:=⟨by kernel_rfl⟩
instance:Enters Tryz.prog 126:=⟨by kernel_rfl⟩
instance:Enters Tryz.prog 127:=⟨by kernel_rfl⟩
instance:Enters Tryz.prog 128:=⟨by kernel_rfl⟩
instance:Enters Tryz.prog 129:=⟨by kernel_rfl⟩
instance:Enters Tryz.prog 13:=⟨by kernel_rfl⟩
instance:Enters Tryz.prog 130:=⟨by kernel_rfl⟩
instance:Enters Tryz.prog 131:=⟨by kernel_rfl⟩
instance:Enters Tryz.prog 132:=⟨by kernel_rfl⟩
instance:Enters Tryz.prog 133:=⟨by kernel_rfl⟩
instance:Enters Tryz.prog 134:=⟨by kernel_rfl⟩
instance:Enters Tryz.prog 135:=⟨by kernel_rfl⟩
instance:Enters Tryz.prog 136:=⟨by kernel_rfl⟩
instance:Enters Tryz.prog 137:=⟨by kernel_rfl⟩
instance:Enters Tryz.prog 138:=⟨by kernel_rfl⟩
instance:Enters Tryz.prog 14:=⟨by kernel_rfl⟩
instance:Enters Tryz.prog 15:=⟨by kernel_rfl⟩
instance:Enters Tryz.prog 159:=⟨by kernel_rfl⟩
instance:Enters Tryz.prog 16:=⟨by kernel_rfl⟩
instance:Enters Tryz.prog 17:=⟨by kernel_rfl⟩
instance:Enters Tryz.prog 18:=⟨by kernel_rfl⟩
instance:Enters Tryz.prog 19:=⟨by kernel_rfl⟩
instance:Enters Tryz.prog 2:=⟨by kernel_rfl⟩
instance:Enters Tryz.prog 20:=⟨by kernel_rfl⟩
instance:Enters Tryz.prog 21:=⟨by kernel_rfl⟩
instance:Enters Tryz.prog 22:=⟨by kernel_rfl⟩
instance:Enters Tryz.prog 23:=⟨by kernel_rfl⟩
instance:Enters Tryz.prog 24:=⟨by kernel_rfl⟩
instance:Enters Tryz.prog 25:=⟨by kernel_rfl⟩
instance:Enters Tryz.prog 26:=⟨by kernel_rfl⟩
instance:Enters Tryz.prog 27:=⟨by kernel_rfl⟩
instance:Enters Tryz.prog 28:=⟨by kernel_rfl⟩
instance:Enters Tryz.prog 29:=⟨by kernel_rfl⟩
instance:Enters Tryz.prog 3:=⟨by kernel_rfl⟩
instance:Enters Tryz.prog 30:=⟨by kernel_rfl⟩
instance:Enters Tryz.prog 31:=⟨by kernel_rfl⟩
instance:Enters Tryz.prog 32:=⟨by kernel_rfl⟩
instance:Enters Tryz.prog 33:=⟨by kernel_rfl⟩
instance:Enters Tryz.prog 34:=⟨by kernel_rfl⟩
instance:Enters Tryz.prog 35:=⟨by kernel_rfl⟩
instance:Enters Tryz.prog 36:=⟨by kernel_rfl⟩
instance:Enters Tryz.prog 37:=⟨by kernel_rfl⟩
instance:Enters Tryz.prog 38:=⟨by kernel_rfl⟩
instance:Enters Tryz.prog 39:=⟨by kernel_rfl⟩
instance:Enters Tryz.prog 4:=⟨by kernel_rfl⟩
instance:Enters Tryz.prog 40:=⟨by kernel_rfl⟩
instance:Enters Tryz.prog 41:=⟨by kernel_rfl⟩
instance:Enters Tryz.prog 42:=⟨by kernel_rfl⟩
instance:Enters Tryz.prog 43:=⟨by kernel_rfl⟩
instance:Enters Tryz.prog 44:=⟨by kernel_rfl⟩
instance:Enters Tryz.prog 45:=⟨by kernel_rfl⟩
instance:Enters Tryz.prog 46:=⟨by kernel_rfl⟩
instance:Enters Tryz.prog 47:=⟨by kernel_rfl⟩
instance:Enters Tryz.prog 48:=⟨by kernel_rfl⟩
instance:Enters Tryz.prog 49:=⟨by kernel_rfl⟩
instance:Enters Tryz.prog 5:=⟨by kernel_rfl⟩
instance:Enters Tryz.prog 50:=⟨by kernel_rfl⟩
instance:Enters Tryz.prog 51:=⟨by kernel_rfl⟩
instance:Enters Tryz.prog 52:=⟨by kernel_rfl⟩
instance:Enters Tryz.prog 53:=⟨by kernel_rfl⟩
instance:Enters Tryz.prog 54:=⟨by kernel_rfl⟩
instance:Enters Tryz.prog 55:=⟨by kernel_rfl⟩
instance:Enters Tryz.prog 56:=⟨by kernel_rfl⟩
instance:Enters Tryz.prog 57:=⟨by kernel_rfl⟩
instance:Enters Tryz.prog 58:=⟨by kernel_rfl⟩
instance:Enters Tryz.prog 59:=⟨by kernel_rfl⟩
instance:Enters Tryz.prog 6:=⟨by kernel_rfl⟩
instance:Enters Tryz.prog 60:=⟨by kernel_rfl⟩
instance:Enters Tryz.prog 61:=⟨by kernel_rfl⟩
instance:Enters Tryz.prog 62:=⟨by kernel_rfl⟩
instance:Enters Tryz.prog 63:=⟨by kernel_rfl⟩
instance:Enters Tryz.prog 64:=⟨by kernel_rfl⟩
instance:Enters Tryz.prog 65:=⟨by kernel_rfl⟩
instance:Enters Tryz.prog 66:=⟨by kernel_rfl⟩
instance:Enters Tryz.prog 67:=⟨by kernel_rfl⟩
instance:Enters Tryz.prog 68:=⟨by kernel_rfl⟩
instance:Enters Tryz.prog 69:=⟨by kernel_rfl⟩
instance:Enters Tryz.prog 7:=⟨by kernel_rfl⟩
instance:Enters Tryz.prog 70:=⟨by kernel_rfl⟩
instance:Enters Tryz.prog 71:=⟨by kernel_rfl⟩
instance:Enters Tryz.prog 72:=⟨by kernel_rfl⟩
instance:Enters Tryz.prog 73:=⟨by kernel_rfl⟩
instance:Enters Tryz.prog 74:=⟨by kernel_rfl⟩
instance:Enters Tryz.prog 75:=⟨by kernel_rfl⟩
instance:Enters Tryz.prog 76:=⟨by kernel_rfl⟩
instance:Enters Tryz.prog 77:=⟨by kernel_rfl⟩
instance:Enters Tryz.prog 78:=⟨by kernel_rfl⟩
instance:Enters Tryz.prog 79:=⟨by kernel_rfl⟩
instance:Enters Tryz.prog 8:=⟨by kernel_rfl⟩
instance:Enters Tryz.prog 80:=⟨by kernel_rfl⟩
instance:Enters Tryz.prog 81:=⟨by kernel_rfl⟩
instance:Enters Tryz.prog 82:=⟨by kernel_rfl⟩
instance:Enters Tryz.prog 83:=⟨by kernel_rfl⟩
instance:Enters Tryz.prog 84:=⟨by kernel_rfl⟩
instance:Enters Tryz.prog 85:=⟨by kernel_rfl⟩
instance:Enters Tryz.prog 86:=⟨by kernel_rfl⟩
instance:Enters Tryz.prog 87:=⟨by kernel_rfl⟩
instance:Enters Tryz.prog 88:=⟨by kernel_rfl⟩
instance:Enters Tryz.prog 89:=⟨by kernel_rfl⟩
instance:Enters Tryz.prog 9:=⟨by kernel_rfl⟩
instance:Enters Tryz.prog 90:=⟨by kernel_rfl⟩
instance:Enters Tryz.prog 91:=⟨by kernel_rfl⟩
instance:Enters Tryz.prog 92:=⟨by kernel_rfl⟩
instance:Enters Tryz.prog 93:=⟨by kernel_rfl⟩
instance:Enters Tryz.prog 94:=⟨by kernel_rfl⟩
instance:Enters Tryz.prog 95:=⟨by kernel_rfl⟩
instance:Enters Tryz.prog 96:=⟨by kernel_rfl⟩
instance:Enters Tryz.prog 97:=⟨by kernel_rfl⟩
instance:Enters Tryz.prog 98:=⟨by kernel_rfl⟩
instance:Enters Tryz.prog 99:=⟨by kernel_rfl⟩
instance:TyA Tryz.prog 116 3:=⟨by kernel_rfl⟩
instance:TyA Tryz.prog 123 512:=⟨by kernel_rfl⟩
instance:TyA Tryz.prog 133 518:=⟨by kernel_rfl⟩
instance:TyA Tryz.prog 141 8:=⟨by kernel_rfl⟩
instance:TyA Tryz.prog 143 8:=⟨by kernel_rfl⟩
instance:TyA Tryz.prog 153 3:=⟨by kernel_rfl⟩
instance:TyA Tryz.prog 177 52:=⟨by kernel_rfl⟩
instance:TyA Tryz.prog 185 64:=⟨by kernel_rfl⟩
instance:TyA Tryz.prog 27 3:=⟨by kernel_rfl⟩
instance:TyA Tryz.prog 29 4:=⟨by kernel_rfl⟩
instance:TyA Tryz.prog 48 2:=⟨by kernel_rfl⟩
instance:TyA Tryz.prog 50 2:=⟨by kernel_rfl⟩
instance:TyA Tryz.prog 77 5:=⟨by kernel_rfl⟩
instance:TyA Tryz.prog 79 5:=⟨by kernel_rfl⟩
instance:TyA Tryz.prog 81 4:=⟨by kernel_rfl⟩
instance:TyA Tryz.prog 89 512:=⟨by kernel_rfl⟩
instance:TyA Tryz.prog 92 514:=⟨by kernel_rfl⟩
instance:TyA Tryz.prog 95 2:=⟨by kernel_rfl⟩
instance:TyAr Tryz.prog 123 512 3 1:=⟨by kernel_rfl⟩
instance:TyAr Tryz.prog 141 8 88 1:=⟨by kernel_rfl⟩
instance:TyAr Tryz.prog 153 3 151 1:=⟨by kernel_rfl⟩
instance:TyAr Tryz.prog 177 52 3 1:=⟨by kernel_rfl⟩
instance:TyAr Tryz.prog 185 64 5 1:=⟨by kernel_rfl⟩
instance:TyAr Tryz.prog 89 512 88 1:=⟨by kernel_rfl⟩
instance:TyE Tryz.prog 114 88 1 8 ([.int .u64 0]):=⟨by kernel_rfl⟩
instance:TyE Tryz.prog 129 23 1 24 ([.slice none 0 0]):=⟨by kernel_rfl⟩
instance:TyE Tryz.prog 130 25 1 24 ([.slice none 0 0]):=⟨by kernel_rfl⟩
instance:TyE Tryz.prog 131 24 1 24 ([.slice none 0 0]):=⟨by kernel_rfl⟩
instance:TyE Tryz.prog 22 48 2 32 ([.int .i64 0, .slice none 0 0]):=⟨by kernel_rfl⟩
instance:TyE Tryz.prog 23 77 5 40 ([.int .i64 0, .int .i64 0, .int .i64 0, .int .i64 0, .int .i64 0]):=⟨by kernel_rfl⟩
instance:TyE Tryz.prog 24 79 5 40 ([.int .i64 0, .int .i64 0, .int .i64 0, .int .i64 0, .int .i64 0]):=⟨by kernel_rfl⟩
instance:TyE Tryz.prog 25 81 4 32 ([.int .i64 0, .int .i64 0, .int .i64 0, .int .i64 0]):=⟨by kernel_rfl⟩
instance:TyE Tryz.prog 30 31 1 24 ([.slice none 0 0]):=⟨by kernel_rfl⟩
instance:TyE Tryz.prog 31 50 2 16 ([.int .i64 0, .int .i64 0]):=⟨by kernel_rfl⟩
instance:TyE Tryz.prog 46 3 1 8 ([.int .i64 0]):=⟨by kernel_rfl⟩
instance:TyF Tryz.prog 116 0 0:=⟨by kernel_rfl⟩
instance:TyF Tryz.prog 116 1 1:=⟨by kernel_rfl⟩
instance:TyF Tryz.prog 116 2 2:=⟨by kernel_rfl⟩
instance:TyF Tryz.prog 133 0 0:=⟨by kernel_rfl⟩
instance:TyF Tryz.prog 133 1 1:=⟨by kernel_rfl⟩
instance:TyF Tryz.prog 133 2 513:=⟨by kernel_rfl⟩
instance:TyF Tryz.prog 133 3 514:=⟨by kernel_rfl⟩
instance:TyF Tryz.prog 133 4 515:=⟨by kernel_rfl⟩
instance:TyF Tryz.prog 133 5 516:=⟨by kernel_rfl⟩
instance:TyF Tryz.prog 133 6 517:=⟨by kernel_rfl⟩
instance:TyF Tryz.prog 143 0 0:=⟨by kernel_rfl⟩
instance:TyF Tryz.prog 27 0 0:=⟨by kernel_rfl⟩
instance:TyF Tryz.prog 27 1 1:=⟨by kernel_rfl⟩
instance:TyF Tryz.prog 27 2 2:=⟨by kernel_rfl⟩
instance:TyF Tryz.prog 29 0 0:=⟨by kernel_rfl⟩
instance:TyF Tryz.prog 29 1 1:=⟨by kernel_rfl⟩
instance:TyF Tryz.prog 48 0 0:=⟨by kernel_rfl⟩
instance:TyF Tryz.prog 48 1 1:=⟨by kernel_rfl⟩
instance:TyF Tryz.prog 50 0 0:=⟨by kernel_rfl⟩
instance:TyF Tryz.prog 50 1 1:=⟨by kernel_rfl⟩
instance:TyF Tryz.prog 77 0 0:=⟨by kernel_rfl⟩
instance:TyF Tryz.prog 77 1 1:=⟨by kernel_rfl⟩
instance:TyF Tryz.prog 77 2 2:=⟨by kernel_rfl⟩
instance:TyF Tryz.prog 77 3 3:=⟨by kernel_rfl⟩
instance:TyF Tryz.prog 77 4 4:=⟨by kernel_rfl⟩
instance:TyF Tryz.prog 79 0 0:=⟨by kernel_rfl⟩
instance:TyF Tryz.prog 79 1 1:=⟨by kernel_rfl⟩
instance:TyF Tryz.prog 79 2 2:=⟨by kernel_rfl⟩
instance:TyF Tryz.prog 79 3 3:=⟨by kernel_rfl⟩
instance:TyF Tryz.prog 79 4 4:=⟨by kernel_rfl⟩
instance:TyF Tryz.prog 81 0 0:=⟨by kernel_rfl⟩
instance:TyF Tryz.prog 81 1 1:=⟨by kernel_rfl⟩
instance:TyF Tryz.prog 81 2 2:=⟨by kernel_rfl⟩
instance:TyF Tryz.prog 81 3 3:=⟨by kernel_rfl⟩
instance:TyF Tryz.prog 92 0 0:=⟨by kernel_rfl⟩
instance:TyF Tryz.prog 92 1 512:=⟨by kernel_rfl⟩
instance:TyF Tryz.prog 92 2 513:=⟨by kernel_rfl⟩
instance:TyI Tryz.prog 3 .i64:=⟨by kernel_rfl⟩
instance:TyI Tryz.prog 5 .u8:=⟨by kernel_rfl⟩
instance:TyI Tryz.prog 88 .u64:=⟨by kernel_rfl⟩
instance:TyP Tryz.prog 29 0 false 0 1:=⟨by kernel_rfl⟩
instance:TyPl Tryz.prog 116 0 0 1:=⟨by kernel_rfl⟩
instance:TyPl Tryz.prog 116 1 1 1:=⟨by kernel_rfl⟩
instance:TyPl Tryz.prog 116 2 2 1:=⟨by kernel_rfl⟩
instance:TyPl Tryz.prog 133 0 0 1:=⟨by kernel_rfl⟩
instance:TyPl Tryz.prog 133 3 514 1:=⟨by kernel_rfl⟩
instance:TyPl Tryz.prog 133 4 515 1:=⟨by kernel_rfl⟩
instance:TyPl Tryz.prog 133 5 516 1:=⟨by kernel_rfl⟩
instance:TyPl Tryz.prog 133 6 517 1:=⟨by kernel_rfl⟩
instance:TyPl Tryz.prog 27 0 0 1:=⟨by kernel_rfl⟩
instance:TyPl Tryz.prog 29 0 0 1:=⟨by kernel_rfl⟩
instance:TyPl Tryz.prog 29 1 1 3:=⟨by kernel_rfl⟩
instance:TyPl Tryz.prog 48 0 0 1:=⟨by kernel_rfl⟩
instance:TyPl Tryz.prog 48 1 1 1:=⟨by kernel_rfl⟩
instance:TyPl Tryz.prog 50 0 0 1:=⟨by kernel_rfl⟩
instance:TyPl Tryz.prog 50 1 1 1:=⟨by kernel_rfl⟩
instance:TyPl Tryz.prog 77 0 0 1:=⟨by kernel_rfl⟩
instance:TyPl Tryz.prog 77 1 1 1:=⟨by kernel_rfl⟩
instance:TyPl Tryz.prog 77 3 3 1:=⟨by kernel_rfl⟩
instance:TyPl Tryz.prog 77 4 4 1:=⟨by kernel_rfl⟩
instance:TyPl Tryz.prog 92 0 0 512:=⟨by kernel_rfl⟩
instance:TyPl Tryz.prog 92 1 512 1:=⟨by kernel_rfl⟩
instance:TyPl Tryz.prog 92 2 513 1:=⟨by kernel_rfl⟩
instance:TyPl Tryz.prog 95 0 0 1:=⟨by kernel_rfl⟩
instance:TyPl Tryz.prog 95 1 1 1:=⟨by kernel_rfl⟩
instance:TyS Tryz.prog 112:=⟨by kernel_rfl⟩
instance:TyS Tryz.prog 114:=⟨by kernel_rfl⟩
instance:TyS Tryz.prog 129:=⟨by kernel_rfl⟩
instance:TyS Tryz.prog 130:=⟨by kernel_rfl⟩
instance:TyS Tryz.prog 131:=⟨by kernel_rfl⟩
instance:TyS Tryz.prog 151:=⟨by kernel_rfl⟩
instance:TyS Tryz.prog 156:=⟨by kernel_rfl⟩
instance:TyS Tryz.prog 22:=⟨by kernel_rfl⟩
instance:TyS Tryz.prog 23:=⟨by kernel_rfl⟩
instance:TyS Tryz.prog 24:=⟨by kernel_rfl⟩
instance:TyS Tryz.prog 25:=⟨by kernel_rfl⟩
instance:TyS Tryz.prog 3:=⟨by kernel_rfl⟩
instance:TyS Tryz.prog 30:=⟨by kernel_rfl⟩
instance:TyS Tryz.prog 31:=⟨by kernel_rfl⟩
instance:TyS Tryz.prog 4:=⟨by kernel_rfl⟩
instance:TyS Tryz.prog 46:=⟨by kernel_rfl⟩
instance:TyS Tryz.prog 5:=⟨by kernel_rfl⟩
instance:TyS Tryz.prog 85:=⟨by kernel_rfl⟩
instance:TyS Tryz.prog 88:=⟨by kernel_rfl⟩
instance:TySl Tryz.prog 114 88 1:=⟨by kernel_rfl⟩
instance:TySl Tryz.prog 129 23 1:=⟨by kernel_rfl⟩
instance:TySl Tryz.prog 130 25 1:=⟨by kernel_rfl⟩
instance:TySl Tryz.prog 131 24 1:=⟨by kernel_rfl⟩
instance:TySl Tryz.prog 22 48 2:=⟨by kernel_rfl⟩
instance:TySl Tryz.prog 23 77 5:=⟨by kernel_rfl⟩
instance:TySl Tryz.prog 24 79 5:=⟨by kernel_rfl⟩
instance:TySl Tryz.prog 25 81 4:=⟨by kernel_rfl⟩
instance:TySl Tryz.prog 30 31 1:=⟨by kernel_rfl⟩
instance:TySl Tryz.prog 31 50 2:=⟨by kernel_rfl⟩
instance:TySl Tryz.prog 46 3 1:=⟨by kernel_rfl⟩
instance:TySt Tryz.prog 116:=⟨by kernel_rfl⟩
instance:TySt Tryz.prog 133:=⟨by kernel_rfl⟩
instance:TySt Tryz.prog 143:=⟨by kernel_rfl⟩
instance:TySt Tryz.prog 27:=⟨by kernel_rfl⟩
instance:TySt Tryz.prog 29:=⟨by kernel_rfl⟩
instance:TySt Tryz.prog 48:=⟨by kernel_rfl⟩
instance:TySt Tryz.prog 50:=⟨by kernel_rfl⟩
instance:TySt Tryz.prog 77:=⟨by kernel_rfl⟩
instance:TySt Tryz.prog 92:=⟨by kernel_rfl⟩
instance:TySt Tryz.prog 95:=⟨by kernel_rfl⟩
instance:TyZ Tryz.prog 116 ([.pointer none, .slice none 0 0, .bool false]):=⟨by kernel_rfl⟩
instance:TyZ Tryz.prog 123 (List.replicate 512 (.int .i64 0)):=⟨by kernel_rfl⟩
instance:TyZ Tryz.prog 133 ([.slice none 0 0]++List.replicate 513 (.int .i64 0)++List.replicate 4 (.slice none 0 0)):=⟨by kernel_rfl⟩
instance:TyZ Tryz.prog 143 ([.int .u64 0, .int .u64 0, .int .u64 0, .int .u64 0, .int .u64 0, .int .u64 0, .int .u64 0, .int .u64 0]):=⟨by kernel_rfl⟩
instance:TyZ Tryz.prog 153 ([.nilFunc, .nilFunc, .nilFunc]):=⟨by kernel_rfl⟩
instance:TyZ Tryz.prog 177 (List.replicate 52 (.int .i64 0)):=⟨by kernel_rfl⟩
instance:TyZ Tryz.prog 185 (List.replicate 64 (.int .u8 0)):=⟨by kernel_rfl⟩
instance:TyZ Tryz.prog 27 ([.slice none 0 0, .slice none 0 0, .slice none 0 0]):=⟨by kernel_rfl⟩
instance:TyZ Tryz.prog 29 ([.slice none 0 0, .slice none 0 0, .slice none 0 0, .slice none 0 0]):=⟨by kernel_rfl⟩
instance:TyZ Tryz.prog 3 ([.int .i64 0]):=⟨by kernel_rfl⟩
instance:TyZ Tryz.prog 30 ([.slice none 0 0]):=⟨by kernel_rfl⟩
instance:TyZ Tryz.prog 4 ([.bool false]):=⟨by kernel_rfl⟩
instance:TyZ Tryz.prog 46 ([.slice none 0 0]):=⟨by kernel_rfl⟩
instance:TyZ Tryz.prog 48 ([.int .i64 0, .slice none 0 0]):=⟨by kernel_rfl⟩
instance:TyZ Tryz.prog 50 ([.int .i64 0, .int .i64 0]):=⟨by kernel_rfl⟩
instance:TyZ Tryz.prog 77 ([.int .i64 0, .int .i64 0, .int .i64 0, .int .i64 0, .int .i64 0]):=⟨by kernel_rfl⟩
instance:TyZ Tryz.prog 79 ([.int .i64 0, .int .i64 0, .int .i64 0, .int .i64 0, .int .i64 0]):=⟨by kernel_rfl⟩
instance:TyZ Tryz.prog 81 ([.int .i64 0, .int .i64 0, .int .i64 0, .int .i64 0]):=⟨by kernel_rfl⟩
instance:TyZ Tryz.prog 89 (List.replicate 512 (.int .u64 0)):=⟨by kernel_rfl⟩
instance:TyZ Tryz.prog 92 (List.replicate 512 (.int .u64 0)++[.pointer none]++[.slice none 0 0]):=⟨by kernel_rfl⟩
instance:TyZ Tryz.prog 95 ([.int .i64 0, .int .i64 0]):=⟨by kernel_rfl⟩
instance:Zs [.int .i64 0, .int .i64 0, .int .i64 0, .int .i64 0, .int .i64 0] 1 [.int .i64 0, .int .i64 0, .int .i64 0, .int .i64 0, .int .i64 0]:=⟨by kernel_rfl⟩
instance:Zs [.int .i64 0, .int .i64 0, .int .i64 0, .int .i64 0, .int .i64 0] 3 [.int .i64 0, .int .i64 0, .int .i64 0, .int .i64 0, .int .i64 0, .int .i64 0, .int .i64 0, .int .i64 0, .int .i64 0, .int .i64 0, .int .i64 0, .int .i64 0, .int .i64 0, .int .i64 0, .int .i64 0]:=⟨by kernel_rfl⟩
instance:Zs [.int .i64 0, .int .i64 0, .int .i64 0, .int .i64 0] 1 [.int .i64 0, .int .i64 0, .int .i64 0, .int .i64 0]:=⟨by kernel_rfl⟩
instance:Zs [.int .i64 0, .int .i64 0] 0 []:=⟨by kernel_rfl⟩
instance:Zs [.int .i64 0, .int .i64 0] 1 [.int .i64 0, .int .i64 0]:=⟨by kernel_rfl⟩
instance:Zs [.int .i64 0, .int .i64 0] 2 [.int .i64 0, .int .i64 0, .int .i64 0, .int .i64 0]:=⟨by kernel_rfl⟩
instance:Zs [.int .i64 0, .slice none 0 0] 1 [.int .i64 0, .slice none 0 0]:=⟨by kernel_rfl⟩
instance:Zs [.int .i64 0, .slice none 0 0] 3 [.int .i64 0, .slice none 0 0, .int .i64 0, .slice none 0 0, .int .i64 0, .slice none 0 0]:=⟨by kernel_rfl⟩
instance:Zs [.int .i64 0] 1 [.int .i64 0]:=⟨by kernel_rfl⟩
instance:Zs [.int .i64 0] 2 [.int .i64 0, .int .i64 0]:=⟨by kernel_rfl⟩
instance:Zs [.int .i64 0] 4 [.int .i64 0, .int .i64 0, .int .i64 0, .int .i64 0]:=⟨by kernel_rfl⟩
instance:Zs [.int .i64 0] 5 [.int .i64 0, .int .i64 0, .int .i64 0, .int .i64 0, .int .i64 0]:=⟨by kernel_rfl⟩
instance:Zs [.slice none 0 0] 0 []:=⟨by kernel_rfl⟩
instance:Zs [.slice none 0 0] 1 [.slice none 0 0]:=⟨by kernel_rfl⟩
end Go.Proofs.YtbpbhbkcahcdiaaGreatDoor
namespace Go.Proofs.YtbpbhbkcahcdiaaGreatDoor
open Go.RowKit
def zls (fs:SFs):Op→Option Value
 | .pick c x y=>match ev fs c with
  |some (.bool true)=>ev fs x
  |some (.bool false)=>ev fs y
  |_=>none
 |op=>zgI fs op
def zef (ops:Array Oper)(fs:SFs)(o:Oper):Option Bool:=
 match o.guard with
 |none=>some true
 |some (j,want)=>match (ops[j]?).bind (·.dst) with
  |some d=>match look fs d with
   |some (.bool true)=>some want
   |some (.bool false)=>some (!want)
   |some (.tuple a)=>bif a.toList.isEmpty then some false else none
   |_=>none
  |none=>none
def zll (n : Nat) (ops : Array Oper) (fs : SFs) (o : Oper) : Option SFs :=
  match o.dst with
  | none => none
  | some d => bif Nat.blt d n then
      match zef ops fs o with
      | some true => match zls fs o.op with
        | some v => some ((d, v) :: fs)
        | none => none
      | some false => some ((d, undef) :: fs)
      | none => none
    else none
def runP (n:Nat)(ops:Array Oper):Nat→SFs→List Oper→Option (SFs×List Oper)
 |0,fs,l=>some (fs,l)
 |k+1,fs,o :: l=>match zll n ops fs o with
  |some fs'=>runP n ops k fs' l
  |none=>none
 |_+1,_,[]=>none
def runO (n:Nat)(ops:Array Oper):Nat→SFs→Ord→Option (SFs×Ord)
 |0,fs,r=>some (fs,r)
 |k+1,fs, .still i r=>match ops[i]? with
  |some o=>match zll n ops fs o with
   |some fs'=>runO n ops k fs' r
   |none=>none
  |none=>none
 |_+1,_,_=>none
theorem zbN {a b:Bool}(h:a=true):(a||b)=true:=by rw [h];rfl
theorem or_f {a b:Bool}(h:a=false):b=(a||b):=by rw [h];rfl
theorem zcp {a b c:Bool}(h:a=false)(k:b=c):(a||b)=c:=by rw [h,k];rfl
theorem zaJ {a b:Bool}(h:a=false):(a&&b)=false:=by rw [h];rfl
theorem zdi {a b:Bool}(h:a=true):b=(a&&b):=by rw [h];rfl
theorem za8 {a b c:Bool}(h:a=true)(k:b=c):(a&&b)=c:=by rw [h,k];rfl
section
variable {Fe:Fence}[hFe:Calm Fe]{P:Program}{n:Nat}{B D:World}{M S0:Nat→Prop}{Q:Exit→Act→World→Prop}{fs fs':SFs}{hs:HS}{ops:Array Oper}{rest l l':List Oper}{o:Oper}{v val sv:Value}
theorem Yv.cp (h:zls fs o.op=some v):Yv P n B M fs hs o v:=by
 unfold zls at h
 split at h
 ·rename_i c x y e
  split at h
  ·rename_i hc;exact Yv.au e hc rfl h
  ·rename_i hc;exact Yv.av e hc rfl h
  ·cases h
 ·exact Yv.aB h
theorem zcA {b:Bool}(h:zef ops fs o=some b):Wt n ops fs o b:=by
 unfold zef at h
 split at h
 ·rename_i hg;cases h;exact Wt.none hg
 ·rename_i j want hg
  split at h
  ·rename_i d hd
   split at h
   ·rename_i hl
    obtain rfl:=Option.some.inj h
    cases want
    ·exact Wt.not hg hd hl rfl
    ·exact Wt.some hg hd hl rfl
   ·rename_i hl
    obtain rfl:=Option.some.inj h
    cases want
    ·exact Wt.some hg hd hl rfl
    ·exact Wt.not hg hd hl rfl
   ·rename_i a hl
    cases ha:a.toList.isEmpty with
    |false=>rw [ha] at h;cases h
    |true=>
     rw [ha] at h;cases h
     have:a= #[]:=by apply Array.ext';simpa using ha
     subst this
     exact Wt.undef hg hd hl
   ·cases h
  ·cases h
theorem zhr (h:zll n ops fs o=some fs'):∃d v,o.dst=some d∧Nat.blt d n=true∧fs'=(d,v) :: fs∧((zef ops fs o=some true∧zls fs o.op=some v)∨(zef ops fs o=some false∧v=undef)):=by
 unfold zll at h
 split at h
 ·cases h
 ·rename_i d hd
  cases hb:Nat.blt d n with
  |false=>rw [hb] at h;cases h
  |true=>
   rw [hb] at h
   simp only [cond_true] at h
   split at h
   ·rename_i hg
    split at h
    ·rename_i v hv;cases h;exact ⟨d,v,hd,hb,rfl, .inl ⟨hg,hv⟩⟩
    ·cases h
   ·rename_i hg;cases h;exact ⟨d,undef,hd,hb,rfl, .inr ⟨hg,rfl⟩⟩
   ·cases h
theorem TL.run:∀(k:Nat) {fs fs':SFs} {l l':List Oper},runP n ops k fs l=some (fs',l')→TL Fe P n B D M ops Q l' fs' hs→TL Fe P n B D M ops Q l fs hs
 |0,fs,fs',l,l',h,t=>by simp only [runP,Option.some.injEq,Prod.mk.injEq] at h;rw [h.1,h.2];exact t
 |k+1,fs,fs',[],l',h,t=>by simp [runP] at h
 |k+1,fs,fs',o :: r,l',h,t=>by
  simp only [runP] at h
  split at h
  ·rename_i f1 h1
   obtain ⟨d,v,hd,hb,rfl,h2⟩:=zhr h1
   have ih:=TL.run k h t
   rcases h2 with ⟨hg,hv⟩|⟨hg,rfl⟩
   ·exact TL.yv (zcA hg) hd hb (Yv.cp hv) ih
   ·exact TL.off (zcA hg) hd hb ih
  ·cases h
theorem TS.run [hnp:NP Q]{hs0:HS}:∀(k:Nat) {fs fs':SFs} {r r':Ord},runO n ops k fs r=some (fs',r')→TS Fe P n B D M ops Q hs0 r' fs' hs→TS Fe P n B D M ops Q hs0 r fs hs
 |0,fs,fs',r,r',h,t=>by simp only [runO,Option.some.injEq,Prod.mk.injEq] at h;rw [h.1,h.2];exact t
 |k+1,fs,fs', .still i r,r',h,t=>by
  simp only [runO] at h
  split at h
  ·rename_i o ho
   split at h
   ·rename_i f1 h1
    obtain ⟨d,v,hd,hb,rfl,h2⟩:=zhr h1
    have ih:=TS.run k h t
    rcases h2 with ⟨hg,hv⟩|⟨hg,rfl⟩
    ·exact TS.still ho (zcA hg) hd hb (Yv.cp hv) ih
    ·exact TS.aO ho (zcA hg) hd hb ih
   ·cases h
  ·cases h
 |k+1,fs,fs', .done,r',h,t=>by simp [runO] at h
 |k+1,fs,fs', .eff _ _,r',h,t=>by simp [runO] at h
 |k+1,fs,fs', .two _ _ _ _,r',h,t=>by simp [runO] at h
 |k+1,fs,fs', .any _ _,r',h,t=>by simp [runO] at h
theorem TL.gs {d j:Nat}{want b:Bool}(hg:o.guard=some (j,want))(hd:(ops[j]?).bind (·.dst)=some d)(hl:look fs d=some (.bool b))(h1:b=true→TL Fe P n B D M ops Q (o :: rest) ((d, .bool true) :: fs) hs)(h2:b=false→TL Fe P n B D M ops Q (o :: rest) ((d, .bool false) :: fs) hs):TL Fe P n B D M ops Q (o :: rest) fs hs:=by
 cases b with
 |true=>exact TL.aM (Sub.cons hl Sub.refl) (List.Sublist.refl _) (h1 rfl)
 |false=>exact TL.aM (Sub.cons hl Sub.refl) (List.Sublist.refl _) (h2 rfl)
theorem TS.gs {hs0:HS}{i d j:Nat}{k:Ord}{want b:Bool}(hi:ops[i]?=some o)(hg:o.guard=some (j,want))(hd:(ops[j]?).bind (·.dst)=some d)(hl:look fs d=some (.bool b))(h1:b=true→TS Fe P n B D M ops Q hs0 (.still i k) ((d, .bool true) :: fs) hs)(h2:b=false→TS Fe P n B D M ops Q hs0 (.still i k) ((d, .bool false) :: fs) hs):TS Fe P n B D M ops Q hs0 (.still i k) fs hs:=by
 cases b with
 |true=>exact TS.aM (Sub.cons hl Sub.refl) (List.Perm.refl _) (h1 rfl)
 |false=>exact TS.aM (Sub.cons hl Sub.refl) (List.Perm.refl _) (h2 rfl)
theorem TSo.gs {hs0:HS}{i d j:Nat}{k:Ord}{want b:Bool}(hi:ops[i]?=some o)(hg:o.guard=some (j,want))(hd:(ops[j]?).bind (·.dst)=some d)(hl:look fs d=some (.bool b))(h1:b=true→TSo Fe P n B D M ops Q hs0 i k ((d, .bool true) :: fs) hs)(h2:b=false→TSo Fe P n B D M ops Q hs0 i k ((d, .bool false) :: fs) hs):TSo Fe P n B D M ops Q hs0 i k fs hs:=by
 cases b with
 |true=>exact ⟨fun a w fuel listed x1 x2 x3 ha hw hw0 hm=>(h1 rfl).out a w fuel listed x1 x2 x3 (ha.sub (Sub.cons hl Sub.refl)) hw hw0 hm⟩
 |false=>exact ⟨fun a w fuel listed x1 x2 x3 ha hw hw0 hm=>(h2 rfl).out a w fuel listed x1 x2 x3 (ha.sub (Sub.cons hl Sub.refl)) hw hw0 hm⟩
theorem T.bc {c:Code}(b:Bool)(h1:b=true→T Fe P n B D M c Q fs hs)(h2:b=false→T Fe P n B D M c Q fs hs):T Fe P n B D M c Q fs hs:=by
 cases b
 ·exact h2 rfl
 ·exact h1 rfl
theorem Yv.ba {x y:Operand}{t u e:TypeId}{A:Option Addr}(hU:P.underlying t=some (.pointer e))(ho:o.op= .binOp .eql t x y u)(hx:ev fs x=some (.pointer A))(hy:ev fs y=some (.pointer none)):Yv P n B M fs hs o (.bool A.isNone):=fun f w ha _=>by
 unfold execOp
 have:(Op.equal t (.pointer A) (.pointer none)).run P w= .ok A.isNone w:=by
  unfold Op.equal
  rw [show Op.maxDepth=Nat.succ 9999 from rfl]
  unfold Op.equalIn
  cases A <;> simp [underlying,hU]
 simp [ho,ha.ev hx,ha.ev hy,eqGuard,binOp,this]
theorem Sub.c {gs:SFs}{t:Nat}{v:Value}(k:Sub fs gs)(h:look fs t=some v:=by rfl):Sub fs ((t,v) :: gs):=Sub.cons h k
theorem Sub.i {gs:SFs}{t:Nat}{q:IntKind}{a b:Int}(e:a=b)(k:Sub fs gs)(h:look fs t=some (.int q a):=by rfl):Sub fs ((t, .int q b) :: gs):=Sub.consI h e k
theorem Sub.b {gs:SFs}{t:Nat}{a b:Bool}(e:a=b)(k:Sub fs gs)(h:look fs t=some (.bool a):=by rfl):Sub fs ((t, .bool b) :: gs):=Sub.consB h e k
theorem T.sr {F:Fence}{l:List Oper}{id:Nat}{y:Code}(h:TL F P n B D M l.toArray (Exit.then (y.wpIn F 0 P Q) Q) l fs hs):T F P n B D M (.seq (.region id l.toArray false) y) Q fs hs:=T.seq (T.region h)
theorem TL.ns {F:Fence}{y:Code}(h:T F P n B D M y Q fs hs):TL F P n B D M ops (Exit.then (y.wpIn F 0 P Q) Q) [] fs hs:=TL.nil (K.seq h)
theorem TL.nx {F:Fence}{l:List Oper}{id:Nat}{y:Code}(h:TL F P n B D M l.toArray (Exit.then (y.wpIn F 0 P Q) Q) l fs hs):TL F P n B D M ops (Exit.then ((Code.seq (.region id l.toArray false) y).wpIn F 0 P Q) Q) [] fs hs:=TL.ns (T.sr h)
theorem TL.y {d:Nat}(h:Yv P n B M fs hs o v)(k:TL Fe P n B D M ops Q rest ((d,v) :: fs) hs)(hw:zef ops fs o=some true:=by rfl)(hd:o.dst=some d:=by rfl)(hb:Nat.blt d n=true:=by rfl):TL Fe P n B D M ops Q (o :: rest) fs hs:=TL.yv (zcA hw) hd hb h k
theorem TL.e {d:Nat}{Φ:Value→HS→Prop}(h:Ew P n B M fs hs o Φ)(k:∀v hs',Φ v hs'→TL Fe P n B D M ops Q rest ((d,v) :: fs) hs')(hw:zef ops fs o=some true:=by rfl)(hd:o.dst=some d:=by rfl)(hb:Nat.blt d n=true:=by rfl):TL Fe P n B D M ops Q (o :: rest) fs hs:=TL.ew (zcA hw) hd hb h k
theorem TL.e0 {Φ:Value→HS→Prop}(h:Ew P n B M fs hs o Φ)(k:∀v hs',Φ v hs'→TL Fe P n B D M ops Q rest fs hs')(hw:zef ops fs o=some true:=by rfl)(hd:o.dst=none:=by rfl):TL Fe P n B D M ops Q (o :: rest) fs hs:=TL.aF (zcA hw) hd h k
theorem TS.y [hnp:NP Q]{hs0:HS}{i:Nat}{k:Ord}{d:Nat}(hi:ops[i]?=some o)(hy:Yv P n B M fs hs0 o v)(h:TS Fe P n B D M ops Q hs0 k ((d,v) :: fs) hs)(hw:zef ops fs o=some true:=by rfl)(hd:o.dst=some d:=by rfl)(hb:Nat.blt d n=true:=by rfl):TS Fe P n B D M ops Q hs0 (.still i k) fs hs:=TS.still hi (zcA hw) hd hb hy h
end
def inB (n a b:Int):Bool:=decide (a≤n)&&decide (n≤b)
def rngB (lo hi:Int):Bool:=decide (2≤lo)&&(decide (lo≤hi)&&decide (hi≤51))
def Ie (z:Int):List Value:=[.int .i64 z]
abbrev zfz (w:World)(v:Value)(l:List Int):Prop:=SlOf w v Ie 1 l
structure Dx where
 st:Int
 v:Value
 chs:List Int
instance:Inhabited Dx:=⟨⟨0, .slice none 0 0,[]⟩⟩
def Dx.cells (d:Dx):List Value:=[.int .i64 d.st,d.v]
structure Pr where
 a:Int
 b:Int
 off:Int
 lo:Int
 hi:Int
deriving DecidableEq,Inhabited
def Pr.cells (x:Pr):List Value:=[.int .i64 x.a, .int .i64 x.b, .int .i64 x.off, .int .i64 x.lo, .int .i64 x.hi]
structure Ld where
 to:Int
 fr:Int
 wt:Int
 lo:Int
 hi:Int
deriving DecidableEq,Inhabited
def Ld.cells (x:Ld):List Value:=[.int .i64 x.to, .int .i64 x.fr, .int .i64 x.wt, .int .i64 x.lo, .int .i64 x.hi]
structure Cp where
 st:Int
 mx:Int
 lo:Int
 hi:Int
deriving DecidableEq,Inhabited
def Cp.cells (x:Cp):List Value:=[.int .i64 x.st, .int .i64 x.mx, .int .i64 x.lo, .int .i64 x.hi]
structure Ch where
 st:Int
 ch:Int
deriving DecidableEq,Inhabited
def Ch.cells (x:Ch):List Value:=[.int .i64 x.st, .int .i64 x.ch]
abbrev PrsAt (w:World)(v:Value)(l:List Pr):Prop:=SlOf w v Pr.cells 5 l
abbrev LdsAt (w:World)(v:Value)(l:List Ld):Prop:=SlOf w v Ld.cells 5 l
abbrev CpsAt (w:World)(v:Value)(l:List Cp):Prop:=SlOf w v Cp.cells 4 l
structure DomsAt (w:World) (v:Value) (l:List Dx):Prop where
 sl:SlOf w v Dx.cells 2 l
 each:∀d∈l,zfz w d.v d.chs
theorem SlOf.one {α:Type}{w:World}{v:Value}{enc:α→List Value}{size:Nat}{xs:List α}(h:SlOf w v enc size xs):OneC v:=by
 obtain ⟨A,cap,rfl,_⟩:=h;exact inferInstance
theorem zaY {α:Type}[Inhabited α]{xs:List α}{k:Nat}(h:k<xs.length):nth xs k∈xs:=by rw [zat h];exact List.getElem_mem _
theorem DomsAt.at {w:World}{v:Value}{l:List Dx}(h:DomsAt w v l){k:Nat}(hk:k<l.length):zfz w (nth l k).v (nth l k).chs:=h.each _ (zaY hk)
theorem DomsAt.kept {B w:World}{hs:HS}{v:Value}{l:List Dx}(hw:Hp B (fun _=>False) hs w)(h:DomsAt B v l):DomsAt w v l:=⟨h.sl.kept hw,fun d hd=>(h.each d hd).kept hw⟩
structure Pb where
 ds:List Dx
 ps:List Pr
 ls:List Ld
 cs:List Cp
structure RulesAt (w:World) (vp vl vc:Value) (P:Pb):Prop where
 ps:PrsAt w vp P.ps
 ls:LdsAt w vl P.ls
 cs:CpsAt w vc P.cs
 hps:P.ps.length≤9223372036854775807
 hls:P.ls.length≤9223372036854775807
 hcs:P.cs.length≤9223372036854775807
structure ProbAt (w:World) (vd vp vl vc:Value) (P:Pb):Prop where
 ds:DomsAt w vd P.ds
 ru:RulesAt w vp vl vc P
 hds:P.ds.length≤9223372036854775807
 hch:∀d∈P.ds,d.chs.length≤9223372036854775807
theorem RulesAt.kept {B w:World}{hs:HS}{vp vl vc:Value}{P:Pb}(hw:Hp B (fun _=>False) hs w)(h:RulesAt B vp vl vc P):RulesAt w vp vl vc P:=⟨h.ps.kept hw,h.ls.kept hw,h.cs.kept hw,h.hps,h.hls,h.hcs⟩
theorem ProbAt.kept {B w:World}{hs:HS}{vd vp vl vc:Value}{P:Pb}(hw:Hp B (fun _=>False) hs w)(h:ProbAt B vd vp vl vc P):ProbAt w vd vp vl vc P:=⟨h.ds.kept hw,h.ru.kept hw,h.hds,h.hch⟩
def cmpI (a b:Int):Int:=if a<b then -1 else if b<a then 1 else 0
def incB {α:Type}[Inhabited α](c:α→α→Int)(xs:List α):Bool:=(List.range xs.length).all fun k=>decide (k=0)|| !decide (0≤c (nth xs (k - 1)) (nth xs k))
def allB {α:Type}[Inhabited α](q:α→Bool)(xs:List α):Bool:=(List.range xs.length).all fun k=>q (nth xs k)
def orL:List Int→Int
 | []=>0
 |x :: r=>if x=0 then orL r else x
theorem zix {l:List Int}{k:Nat}(h:k<l.length):orL (l.drop k)=if nth l k=0 then orL (l.drop (k+1)) else nth l k:=by
 rw [List.drop_eq_getElem_cons h,zat h];rfl
theorem zcV (n a b:Int)(w:World):Calls Tryz.prog 74 #[.int .i64 n, .int .i64 a, .int .i64 b] w fun e w'=>e= .returned (.bool (inB n a b))∧Below w.heap.size w w':=by
 refine zac (M:=fun _=>False) (hs:=[]) Tryz.func74 rfl rfl rfl (Hp.refl _ _) ?_;refine T.sr ?_;refine TL.run 1 rfl ?_;refine TL.nx ?_;refine TL.run 4 rfl ?_;refine TL.aq rfl rfl rfl (fun h1=>?_) (fun h1=>?_)
 ·have p1:=h1; (try simp only [nfB] at p1);refine TL.yv (Wt.some rfl rfl rfl h1) rfl rfl (Yv.aB rfl) ?_;refine TL.yv (Wt.some rfl rfl rfl h1) rfl rfl (Yv.aB rfl) ?_;refine TL.yv (Wt.some rfl rfl rfl h1) rfl rfl (Yv.aB rfl) ?_;refine TL.y (Yv.au rfl rfl h1 rfl) ?_;refine TL.run 1 rfl ?_;refine TL.ns (T.ret ?_);refine K.ah rfl rfl (fun w' hw=>⟨?_,hw.isBelow⟩);exact zah (by simp only [inB, *,Bool.not_true,Bool.not_false,Bool.or_false,Bool.false_or,Bool.or_true,Bool.true_or,Bool.and_false,Bool.false_and,Bool.true_and,Bool.and_true,Bool.or_self,Bool.and_self,Bool.not_not,decide_true,decide_false,not_true_eq_false,not_false_eq_true,cond_true,cond_false])
 ·have p1:=h1; (try simp only [nfB] at p1);refine TL.off (Wt.not rfl rfl rfl h1) rfl rfl ?_;refine TL.off (Wt.not rfl rfl rfl h1) rfl rfl ?_;refine TL.off (Wt.not rfl rfl rfl h1) rfl rfl ?_;refine TL.y (Yv.av rfl rfl h1 rfl) ?_;refine TL.run 1 rfl ?_;refine TL.ns (T.ret ?_);refine K.ah rfl rfl (fun w' hw=>⟨?_,hw.isBelow⟩);exact zah (by simp only [inB, *,Bool.not_true,Bool.not_false,Bool.or_false,Bool.false_or,Bool.or_true,Bool.true_or,Bool.and_false,Bool.false_and,Bool.true_and,Bool.and_true,Bool.or_self,Bool.and_self,Bool.not_not,decide_true,decide_false,not_true_eq_false,not_false_eq_true,cond_true,cond_false])
theorem zbW (n:Int)(w:World):Calls Tryz.prog 73 #[.int .i64 n] w fun e w'=>e= .returned (.bool (inB n 0 511))∧Below w.heap.size w w':=by
 refine zac (M:=fun _=>False) (hs:=[]) Tryz.func73 rfl rfl rfl (Hp.refl _ _) ?_;refine T.sr ?_;refine TL.run 1 rfl ?_;refine TL.nx ?_;refine TL.run 1 rfl ?_; (refine TL.ew (Wt.none rfl) rfl rfl (Ew.af rfl rfl rfl (fun w hw=>zcV _ _ _ _)) ?_;rintro _ _ ⟨rfl,rfl⟩);refine TL.run 1 rfl ?_;refine TL.ns (T.ret ?_);refine K.ah rfl rfl (fun w' hw=>⟨?_,hw.isBelow⟩)
 rfl
theorem zdW (lo hi:Int)(w:World):Calls Tryz.prog 132 #[.int .i64 lo, .int .i64 hi] w fun e w'=>e= .returned (.bool (rngB lo hi))∧Below w.heap.size w w':=by
 refine zac (M:=fun _=>False) (hs:=[]) Tryz.func132 rfl rfl rfl (Hp.refl _ _) ?_;refine T.sr ?_;refine TL.run 1 rfl ?_;refine TL.nx ?_;refine TL.run 3 rfl ?_;refine TL.aq rfl rfl rfl (fun h1=>?_) (fun h1=>?_)
 ·have p1:=h1; (try simp only [nfB] at p1);refine TL.yv (Wt.some rfl rfl rfl h1) rfl rfl (Yv.aB rfl) ?_;refine TL.yv (Wt.some rfl rfl rfl h1) rfl rfl (Yv.aB rfl) ?_;refine TL.yv (Wt.some rfl rfl rfl h1) rfl rfl (Yv.aB rfl) ?_;refine TL.y (Yv.au rfl rfl h1 rfl) ?_;refine TL.run 1 rfl ?_;refine TL.aq rfl rfl rfl (fun h2=>?_) (fun h2=>?_)
  ·have p2:=h2; (try simp only [nfB] at p2);refine TL.yv (Wt.some rfl rfl rfl h2) rfl rfl (Yv.aB rfl) ?_;refine TL.yv (Wt.some rfl rfl rfl h2) rfl rfl (Yv.aB rfl) ?_;refine TL.y (Yv.au rfl rfl h2 rfl) ?_;refine TL.run 1 rfl ?_;refine TL.ns (T.ret ?_);refine K.ah rfl rfl (fun w' hw=>⟨?_,hw.isBelow⟩);exact zah (by simp only [rngB, *,Bool.not_true,Bool.not_false,Bool.or_false,Bool.false_or,Bool.or_true,Bool.true_or,Bool.and_false,Bool.false_and,Bool.true_and,Bool.and_true,Bool.or_self,Bool.and_self,Bool.not_not,decide_true,decide_false,not_true_eq_false,not_false_eq_true,cond_true,cond_false])
  ·have p2:=h2; (try simp only [nfB] at p2);refine TL.off (Wt.not rfl rfl rfl h2) rfl rfl ?_;refine TL.off (Wt.not rfl rfl rfl h2) rfl rfl ?_;refine TL.y (Yv.av rfl rfl h2 rfl) ?_;refine TL.run 1 rfl ?_;refine TL.ns (T.ret ?_);refine K.ah rfl rfl (fun w' hw=>⟨?_,hw.isBelow⟩);exact zah (by simp only [rngB, *,Bool.not_true,Bool.not_false,Bool.or_false,Bool.false_or,Bool.or_true,Bool.true_or,Bool.and_false,Bool.false_and,Bool.true_and,Bool.and_true,Bool.or_self,Bool.and_self,Bool.not_not,decide_true,decide_false,not_true_eq_false,not_false_eq_true,cond_true,cond_false])
 ·have p1:=h1; (try simp only [nfB] at p1);refine TL.off (Wt.not rfl rfl rfl h1) rfl rfl ?_;refine TL.off (Wt.not rfl rfl rfl h1) rfl rfl ?_;refine TL.off (Wt.not rfl rfl rfl h1) rfl rfl ?_;refine TL.y (Yv.av rfl rfl h1 rfl) ?_;refine TL.run 5 rfl ?_;refine TL.ns (T.ret ?_);refine K.ah rfl rfl (fun w' hw=>⟨?_,hw.isBelow⟩);exact zah (by simp only [rngB, *,Bool.not_true,Bool.not_false,Bool.or_false,Bool.false_or,Bool.or_true,Bool.true_or,Bool.and_false,Bool.false_and,Bool.true_and,Bool.and_true,Bool.or_self,Bool.and_self,Bool.not_not,decide_true,decide_false,not_true_eq_false,not_false_eq_true,cond_true,cond_false])
theorem zhv (n:Int)(w:World):Calls Tryz.prog 118 #[.int .i64 n] w fun e w'=>e= .returned (.bool false)∧Below w.heap.size w w':=by
 refine zac (M:=fun _=>False) (hs:=[]) Tryz.func118 rfl rfl rfl (Hp.refl _ _) ?_;refine T.sr ?_;refine TL.run 1 rfl ?_;refine TL.nx ?_;refine TL.run 4 rfl ?_;refine TL.ns (T.ret ?_);refine K.ah rfl rfl (fun w' hw=>⟨?_,hw.isBelow⟩);exact zah (by simp)
theorem zaM (a b:Int)(w:World):Calls Tryz.prog 83 #[.int .i64 a, .int .i64 b] w fun e w'=>e= .returned (.int .i64 (cmpI a b))∧Below w.heap.size w w':=by
 refine zac (M:=fun _=>False) (hs:=[]) Tryz.func83 rfl rfl rfl (Hp.refl _ _) ?_;refine T.sr ?_;refine TL.run 1 rfl ?_;refine TL.nx ?_;refine TL.run 1 rfl ?_; (refine TL.ew (Wt.none rfl) rfl rfl (Ew.af rfl rfl rfl (fun w hw=>zhv _ _)) ?_;rintro _ _ ⟨rfl,rfl⟩);refine TL.run 1 rfl ?_;refine TL.nx ?_;refine TL.run 1 rfl ?_; (refine TL.ew (Wt.none rfl) rfl rfl (Ew.af rfl rfl rfl (fun w hw=>zhv _ _)) ?_;rintro _ _ ⟨rfl,rfl⟩);refine TL.run 1 rfl ?_;refine TL.ns (T.seq (T.sr ?_));refine TL.run 1 rfl ?_;refine TL.ns ?_;refine T.aJ rfl rfl ?_;refine T.skip (K.seq (T.seq (T.sr ?_)));refine TL.run 1 rfl ?_;refine TL.ns ?_;refine T.aJ rfl rfl ?_;refine T.skip (K.seq (T.seq (T.sr ?_)));refine TL.run 3 rfl ?_;refine TL.ns ?_;refine T.cond rfl (fun h1=>?_) (fun h1=>?_)
 ·have p1:=h1; (try simp only [nfB] at p1);refine T.sr ?_;refine TL.run 1 rfl ?_;refine TL.ns (T.ret (K.aa ?_));refine K.ah rfl rfl (fun w' hw=>⟨?_,hw.isBelow⟩);exact zcE (by simp only [cmpI]; (repeat split) <;> omega)
 ·have p1:=h1; (try simp only [nfB] at p1);refine T.skip (K.seq (T.seq (T.sr ?_)));refine TL.run 3 rfl ?_;refine TL.ns ?_;refine T.cond rfl (fun h2=>?_) (fun h2=>?_)
  ·have p2:=h2; (try simp only [nfB] at p2);refine T.sr ?_;refine TL.run 1 rfl ?_;refine TL.ns (T.ret (K.aa ?_));refine K.ah rfl rfl (fun w' hw=>⟨?_,hw.isBelow⟩);exact zcE (by simp only [cmpI]; (repeat split) <;> omega)
  ·have p2:=h2; (try simp only [nfB] at p2);refine T.skip (K.seq (T.sr ?_));refine TL.run 1 rfl ?_;refine TL.ns (T.ret ?_);refine K.ah rfl rfl (fun w' hw=>⟨?_,hw.isBelow⟩);exact zcE (by simp only [cmpI]; (repeat split) <;> omega)
theorem zks (l:List Int)(v:Value)(w:World)(h:zfz w v l)(hl:l.length≤9223372036854775807):Calls Tryz.prog 133 #[v] w fun e w'=>e= .returned (.int .i64 (orL l))∧Below w.heap.size w w':=by
 obtain ⟨A,cap,rfl,hsl⟩:=h.op;refine zac (M:=fun _=>False) (hs:=[]) Tryz.func133 rfl rfl rfl (Hp.refl _ _) ?_;refine T.sr ?_;refine TL.run 1 rfl ?_;refine TL.nx ?_;refine TL.run 1 rfl ?_;refine TL.ns (T.seq (T.sr ?_));refine TL.run 1 rfl ?_;refine TL.y (Yv.ax rfl rfl) ?_;refine TL.run 1 rfl ?_;refine TL.ns (T.block ?_);refine T.loop (ι:=Nat) (fun k=>[(3, .int .i64 0),(6, .slice A l.length cap),(7, .int .i64 (l.length:Int)),(8, .int .i64 (k:Int))]) (fun k=>[]) (fun k=>k≤l.length∧orL (l.drop k)=orL l) (fun k=>l.length - k) 0 ?_ ?_ ?_ ?_
 ·exact ⟨by omega,rfl⟩
 ·exact (by repeat (first|exact Sub.nil|refine Sub.cons rfl ?_))
 ·exact Sx
 ·intro k hphi;obtain ⟨hkl,hor⟩:=hphi;refine T.sr ?_;refine TL.run 1 rfl ?_;refine TL.ns (T.seq ?_);refine T.cond rfl (fun h1=>?_) (fun h1=>?_)
  ·have p1:=h1; (try simp only [nfB] at p1);obtain ⟨g,off,rfl,hc⟩:=hsl (by omega);have hk:=hc k (by omega);simp only [Ie] at hk;refine T.skip (K.seq (T.seq (T.block (T.sr ?_))));refine TL.y (Yv.ai rfl rfl rfl rfl (by omega)) ?_;refine TL.y (Yv.loadC (j:=0) rfl rfl hk rfl rfl (fun h=>h)) ?_;refine TL.run 1 rfl ?_;refine TL.nx ?_;refine TL.run 3 rfl ?_;refine TL.ns ?_;refine T.cond rfl (fun h2=>?_) (fun h2=>?_)
   ·have p2:=h2; (try simp only [nfB] at p2);refine T.sr ?_;refine TL.run 2 rfl ?_;refine TL.ns (T.ret (K.ag (K.aa (K.aa (K.ag (K.aa ?_))))));refine K.ah rfl rfl (fun w' hw=>⟨?_,hw.isBelow⟩);exact zcE (by rw [zix (by omega),if_neg (by assumption)] at hor;exact hor)
   ·have p2:=h2; (try simp only [nfB] at p2);refine T.skip (K.ad (K.seq (T.region ?_)));refine TL.y (Yv.an rfl rfl rfl (by omega)) ?_;refine TL.run 1 rfl ?_;refine TL.nil ?_;exact K.next (k+1) ⟨by omega,by rw [zix (by omega),if_pos (by assumption)] at hor;exact hor⟩ (by omega) (by repeat (first|exact Sub.nil|refine Sub.cons rfl ?_)) Sx
  ·have p1:=h1; (try simp only [nfB] at p1);refine T.exit (K.ab (K.ab (K.ae (K.seq (T.sr ?_)))));refine TL.run 2 rfl ?_;refine TL.ns (T.ret ?_);refine K.ah rfl rfl (fun w' hw=>⟨?_,hw.isBelow⟩);exact zcE (by rw [List.drop_eq_nil_of_le (by omega)] at hor;exact hor)
theorem zk2 {q:Dx→Bool}(xs:List Dx)(v:Value)(f:FuncId)(caps:Array Value)(w:World)(h:SlOf w v Dx.cells 2 xs)(ho1:∀k,k<xs.length→OneC (nth xs k).v)[hE:Enters Tryz.prog f](hC:∀k,k<xs.length→∀w',Below w.heap.size w w'→Calls Tryz.prog f (.agg (Dx.cells (nth xs k)).toArray :: caps.toList).toArray w' fun e w''=>e= .returned (.bool (q (nth xs k)))∧Below w'.heap.size w' w'')(hl:xs.length≤9223372036854775807):Calls Tryz.prog 79 #[v, .func (.func f) #[] caps] w fun e w'=>e= .returned (.bool (allB q xs))∧Below w.heap.size w w':=by
 obtain ⟨A,cap,rfl,hsl⟩:=h.op;refine zac (M:=fun _=>False) (hs:=[]) Tryz.func79 rfl rfl rfl (Hp.refl _ _) ?_;refine T.sr ?_;refine TL.run 1 rfl ?_;refine TL.ns (T.seq (T.sr ?_));refine TL.run 1 rfl ?_;refine TL.y (Yv.ax rfl rfl) ?_;refine TL.run 1 rfl ?_;refine TL.ns (T.block ?_);refine T.loop (ι:=Nat) (fun k=>[(1, .func (.func f) #[] caps),(7, .slice A xs.length cap),(8, .int .i64 (xs.length:Int)),(9, .int .i64 (k:Int))]) (fun k=>[]) (fun k=>k≤xs.length∧∀j,j<k→q (nth xs j)=true) (fun k=>xs.length - k) 0 ?_ ?_ ?_ ?_
 ·exact ⟨by omega,fun j hj=>by omega⟩
 ·exact (by repeat (first|exact Sub.nil|refine Sub.cons rfl ?_))
 ·exact Sx
 ·intro k hphi;obtain ⟨hkl,hall⟩:=hphi;refine T.sr ?_;refine TL.run 1 rfl ?_;refine TL.ns (T.seq ?_);refine T.cond rfl (fun h1=>?_) (fun h1=>?_)
  ·have p1:=h1; (try simp only [nfB] at p1);obtain ⟨g,off,rfl,hc⟩:=hsl (by omega);have hk:=hc k (by omega);haveI:=ho1 k (by omega);simp only [Dx.cells] at hk;refine T.skip (K.seq (T.seq (T.block (T.sr ?_))));refine TL.y (Yv.ai rfl rfl rfl rfl (by omega)) ?_;refine TL.y (Yv.aC rfl rfl hk rfl (fun h=>h)) ?_; (refine TL.ew (Wt.none rfl) rfl rfl (Ew.alloc rfl) ?_;rintro _ _ ⟨g6,rfl,rfl⟩); (refine TL.aF (Wt.none rfl) rfl (Ew.ak 0 rfl rfl rfl rfl rfl rfl) ?_;rintro _ _ ⟨rfl,rfl⟩);refine TL.nx ?_;refine TL.run 1 rfl ?_;refine TL.y (Yv.am 0 rfl rfl rfl rfl) ?_; (refine TL.ew (Wt.none rfl) rfl rfl (Ew.bo rfl rfl rfl (fun w hw=>hC k (by omega) w hw.isBelow)) ?_;rintro _ _ ⟨rfl,rfl⟩);refine TL.run 1 rfl ?_;refine TL.ns ?_;refine T.cond rfl (fun h2=>?_) (fun h2=>?_)
   ·have p2:=h2; (try simp only [nfB] at p2);refine T.sr ?_;refine TL.run 1 rfl ?_;refine TL.ns (T.ret (K.ag (K.aa (K.aa (K.ag (K.aa ?_))))));refine K.ah rfl rfl (fun w' hw=>⟨?_,hw.isBelow⟩);exact zah (zbv (f:=fun k=>q (nth xs k)) k (by omega) (by simpa using p2)).symm
   ·have p2:=h2; (try simp only [nfB] at p2);refine T.skip (K.ad (K.seq (T.region ?_)));refine TL.y (Yv.an rfl rfl rfl (by omega)) ?_;refine TL.run 1 rfl ?_;refine TL.nil ?_;exact K.next (k+1) ⟨by omega,zdq hall (by simpa using p2)⟩ (by omega) (by repeat (first|exact Sub.nil|refine Sub.cons rfl ?_)) Sx
  ·have p1:=h1; (try simp only [nfB] at p1);refine T.exit (K.ab (K.ab (K.ae (K.seq (T.sr ?_)))));refine TL.run 1 rfl ?_;refine TL.ns (T.ret ?_);refine K.ah rfl rfl (fun w' hw=>⟨?_,hw.isBelow⟩);exact zah (zdv (f:=fun k=>q (nth xs k)) hall (by omega)).symm
theorem zgD {c:Dx→Dx→Int}(xs:List Dx)(v:Value)(f:FuncId)(w:World)(h:SlOf w v Dx.cells 2 xs)(ho1:∀k,k<xs.length→OneC (nth xs k).v)[hE:Enters Tryz.prog f](hC:∀x y:Dx,OneC x.v→OneC y.v→∀w':World,Calls Tryz.prog f #[.agg (Dx.cells (x)).toArray, .agg (Dx.cells (y)).toArray] w' fun e w''=>e= .returned (.int .i64 (c x y))∧Below w'.heap.size w' w'')(hl:xs.length≤9223372036854775807):Calls Tryz.prog 84 #[v, .func (.func f) #[] #[]] w fun e w'=>e= .returned (.bool (incB c xs))∧Below w.heap.size w w':=by
 obtain ⟨A,cap,rfl,hsl⟩:=h.op;refine zac (M:=fun _=>False) (hs:=[]) Tryz.func84 rfl rfl rfl (Hp.refl _ _) ?_;refine T.sr ?_;refine TL.run 1 rfl ?_;refine TL.ns (T.seq (T.sr ?_));refine TL.run 1 rfl ?_;refine TL.ns (T.block ?_);refine T.loop (ι:=Nat) (fun k=>[(0, .slice A xs.length cap),(1, .func (.func f) #[] #[]),(5, .int .i64 (k:Int))]) (fun k=>[]) (fun k=>1≤k∧∀j,j<k→j<xs.length→(decide (j=0)|| !decide (0≤c (nth xs (j - 1)) (nth xs j)))=true) (fun k=>xs.length - k) 1 ?_ ?_ ?_ ?_
 ·exact ⟨by omega,fun j hj _=>by rw [show j=0 from by omega];rfl⟩
 ·exact (by repeat (first|exact Sub.nil|refine Sub.cons rfl ?_))
 ·exact Sx
 ·intro k hphi;obtain ⟨hk0,hall⟩:=hphi;refine T.seq (T.sr ?_);refine TL.run 2 rfl ?_;refine TL.y (Yv.ax rfl rfl) ?_;refine TL.run 1 rfl ?_;refine TL.ns ?_;refine T.cond rfl (fun h1=>?_) (fun h1=>?_)
  ·have p1:=h1; (try simp only [nfB] at p1);obtain ⟨g,off,rfl,hc⟩:=hsl (by omega);have hk:=hc k (by omega);have hk1:=hc (k - 1) (by omega);have o1:=ho1 k (by omega);have o2:=ho1 (k - 1) (by omega);simp only [Dx.cells] at hk hk1;refine T.skip (K.seq (T.seq (T.block (T.seq ?_))));refine T.as (.still 0 (.still 1 (.still 2 (.still 3 (.still 4 (.still 5 (.still 6 (.still 7 (.still 8 (.still 9 (.eff 10 (.still 11 .done)))))))))))) _ (by kernel_rfl) (List.Sublist.refl _) ?_;refine TS.run 3 rfl ?_;refine TS.y rfl (Yv.aP rfl rfl rfl (by omega)) ?_;refine TS.y rfl (Yv.ai rfl rfl rfl (show (k:Int) - 1=((k - 1:Nat):Int) from by omega) (by omega)) ?_;refine TS.y rfl (Yv.aC rfl rfl hk1 rfl (fun h=>h)) ?_;refine TS.run 2 rfl ?_;refine TS.y rfl (Yv.ai rfl rfl rfl rfl (by omega)) ?_;refine TS.y rfl (Yv.aC rfl rfl hk rfl (fun h=>h)) ?_;refine TS.eff ?_; (refine TSo.ew rfl (Wt.none rfl) rfl rfl (Ew.af rfl rfl rfl (fun w hw=>hC (nth xs (k - 1)) (nth xs k) o2 o1 w)) ?_;rintro _ _ ⟨rfl,rfl⟩;refine ⟨Sx,?_⟩);refine TS.run 1 rfl ?_;refine TS.done ?_;refine K.seq ?_;refine T.cond rfl (fun h2=>?_) (fun h2=>?_)
   ·have p2:=h2; (try simp only [nfB] at p2);refine T.sr ?_;refine TL.run 1 rfl ?_;refine TL.ns (T.ret (K.ag (K.aa (K.aa (K.ag (K.aa ?_))))));refine K.ah rfl rfl (fun w' hw=>⟨?_,hw.isBelow⟩);exact zah (zbv (f:=fun k=>decide (k=0)|| !decide (0≤c (nth xs (k - 1)) (nth xs k))) k (by omega) (by rw [decide_eq_false (show ¬k=0 by omega)];simpa using p2)).symm
   ·have p2:=h2; (try simp only [nfB] at p2);refine T.skip (K.ad (K.seq (T.region ?_)));refine TL.run 1 rfl ?_;refine TL.y (Yv.an rfl rfl rfl (by omega)) ?_;refine TL.run 1 rfl ?_;refine TL.nil ?_;exact K.next (k+1) ⟨by omega,fun j hj hjl=>by rcases Nat.lt_or_ge j k with hh|hh;exact hall j hh hjl;rw [show j=k from by omega,decide_eq_false (by omega)];simpa using p2⟩ (by omega) (by repeat (first|exact Sub.nil|refine Sub.cons rfl ?_)) Sx
  ·have p1:=h1; (try simp only [nfB] at p1);refine T.exit (K.ab (K.ab (K.ae (K.seq (T.sr ?_)))));refine TL.run 1 rfl ?_;refine TL.ns (T.ret ?_);refine K.ah rfl rfl (fun w' hw=>⟨?_,hw.isBelow⟩);exact zah (zcL (f:=fun k=>decide (k=0)|| !decide (0≤c (nth xs (k - 1)) (nth xs k))) (fun j hj=>hall j (by omega) hj)).symm
theorem zkB {q:Pr→Bool}(xs:List Pr)(v:Value)(f:FuncId)(caps:Array Value)(w:World)(h:SlOf w v Pr.cells 5 xs)[hE:Enters Tryz.prog f](hC:∀k,k<xs.length→∀w',Below w.heap.size w w'→Calls Tryz.prog f (.agg (Pr.cells (nth xs k)).toArray :: caps.toList).toArray w' fun e w''=>e= .returned (.bool (q (nth xs k)))∧Below w'.heap.size w' w'')(hl:xs.length≤9223372036854775807):Calls Tryz.prog 86 #[v, .func (.func f) #[] caps] w fun e w'=>e= .returned (.bool (allB q xs))∧Below w.heap.size w w':=by
 obtain ⟨A,cap,rfl,hsl⟩:=h.op;refine zac (M:=fun _=>False) (hs:=[]) Tryz.func86 rfl rfl rfl (Hp.refl _ _) ?_;refine T.sr ?_;refine TL.run 1 rfl ?_;refine TL.ns (T.seq (T.sr ?_));refine TL.run 1 rfl ?_;refine TL.y (Yv.ax rfl rfl) ?_;refine TL.run 1 rfl ?_;refine TL.ns (T.block ?_);refine T.loop (ι:=Nat) (fun k=>[(1, .func (.func f) #[] caps),(7, .slice A xs.length cap),(8, .int .i64 (xs.length:Int)),(9, .int .i64 (k:Int))]) (fun k=>[]) (fun k=>k≤xs.length∧∀j,j<k→q (nth xs j)=true) (fun k=>xs.length - k) 0 ?_ ?_ ?_ ?_
 ·exact ⟨by omega,fun j hj=>by omega⟩
 ·exact (by repeat (first|exact Sub.nil|refine Sub.cons rfl ?_))
 ·exact Sx
 ·intro k hphi;obtain ⟨hkl,hall⟩:=hphi;refine T.sr ?_;refine TL.run 1 rfl ?_;refine TL.ns (T.seq ?_);refine T.cond rfl (fun h1=>?_) (fun h1=>?_)
  ·have p1:=h1; (try simp only [nfB] at p1);obtain ⟨g,off,rfl,hc⟩:=hsl (by omega);have hk:=hc k (by omega);simp only [Pr.cells] at hk;refine T.skip (K.seq (T.seq (T.block (T.sr ?_))));refine TL.y (Yv.ai rfl rfl rfl rfl (by omega)) ?_;refine TL.y (Yv.aC rfl rfl hk rfl (fun h=>h)) ?_; (refine TL.ew (Wt.none rfl) rfl rfl (Ew.alloc rfl) ?_;rintro _ _ ⟨g6,rfl,rfl⟩); (refine TL.aF (Wt.none rfl) rfl (Ew.ak 0 rfl rfl rfl rfl rfl rfl) ?_;rintro _ _ ⟨rfl,rfl⟩);refine TL.nx ?_;refine TL.run 1 rfl ?_;refine TL.y (Yv.am 0 rfl rfl rfl rfl) ?_; (refine TL.ew (Wt.none rfl) rfl rfl (Ew.bo rfl rfl rfl (fun w hw=>hC k (by omega) w hw.isBelow)) ?_;rintro _ _ ⟨rfl,rfl⟩);refine TL.run 1 rfl ?_;refine TL.ns ?_;refine T.cond rfl (fun h2=>?_) (fun h2=>?_)
   ·have p2:=h2; (try simp only [nfB] at p2);refine T.sr ?_;refine TL.run 1 rfl ?_;refine TL.ns (T.ret (K.ag (K.aa (K.aa (K.ag (K.aa ?_))))));refine K.ah rfl rfl (fun w' hw=>⟨?_,hw.isBelow⟩);exact zah (zbv (f:=fun k=>q (nth xs k)) k (by omega) (by simpa using p2)).symm
   ·have p2:=h2; (try simp only [nfB] at p2);refine T.skip (K.ad (K.seq (T.region ?_)));refine TL.y (Yv.an rfl rfl rfl (by omega)) ?_;refine TL.run 1 rfl ?_;refine TL.nil ?_;exact K.next (k+1) ⟨by omega,zdq hall (by simpa using p2)⟩ (by omega) (by repeat (first|exact Sub.nil|refine Sub.cons rfl ?_)) Sx
  ·have p1:=h1; (try simp only [nfB] at p1);refine T.exit (K.ab (K.ab (K.ae (K.seq (T.sr ?_)))));refine TL.run 1 rfl ?_;refine TL.ns (T.ret ?_);refine K.ah rfl rfl (fun w' hw=>⟨?_,hw.isBelow⟩);exact zah (zdv (f:=fun k=>q (nth xs k)) hall (by omega)).symm
theorem zgN {c:Pr→Pr→Int}(xs:List Pr)(v:Value)(f:FuncId)(w:World)(h:SlOf w v Pr.cells 5 xs)[hE:Enters Tryz.prog f](hC:∀x y:Pr,∀w':World,Calls Tryz.prog f #[.agg (Pr.cells (x)).toArray, .agg (Pr.cells (y)).toArray] w' fun e w''=>e= .returned (.int .i64 (c x y))∧Below w'.heap.size w' w'')(hl:xs.length≤9223372036854775807):Calls Tryz.prog 110 #[v, .func (.func f) #[] #[]] w fun e w'=>e= .returned (.bool (incB c xs))∧Below w.heap.size w w':=by
 obtain ⟨A,cap,rfl,hsl⟩:=h.op;refine zac (M:=fun _=>False) (hs:=[]) Tryz.func110 rfl rfl rfl (Hp.refl _ _) ?_;refine T.sr ?_;refine TL.run 1 rfl ?_;refine TL.ns (T.seq (T.sr ?_));refine TL.run 1 rfl ?_;refine TL.ns (T.block ?_);refine T.loop (ι:=Nat) (fun k=>[(0, .slice A xs.length cap),(1, .func (.func f) #[] #[]),(5, .int .i64 (k:Int))]) (fun k=>[]) (fun k=>1≤k∧∀j,j<k→j<xs.length→(decide (j=0)|| !decide (0≤c (nth xs (j - 1)) (nth xs j)))=true) (fun k=>xs.length - k) 1 ?_ ?_ ?_ ?_
 ·exact ⟨by omega,fun j hj _=>by rw [show j=0 from by omega];rfl⟩
 ·exact (by repeat (first|exact Sub.nil|refine Sub.cons rfl ?_))
 ·exact Sx
 ·intro k hphi;obtain ⟨hk0,hall⟩:=hphi;refine T.seq (T.sr ?_);refine TL.run 2 rfl ?_;refine TL.y (Yv.ax rfl rfl) ?_;refine TL.run 1 rfl ?_;refine TL.ns ?_;refine T.cond rfl (fun h1=>?_) (fun h1=>?_)
  ·have p1:=h1; (try simp only [nfB] at p1);obtain ⟨g,off,rfl,hc⟩:=hsl (by omega);have hk:=hc k (by omega);have hk1:=hc (k - 1) (by omega);simp only [Pr.cells] at hk hk1;refine T.skip (K.seq (T.seq (T.block (T.seq ?_))));refine T.as (.still 0 (.still 1 (.still 2 (.still 3 (.still 4 (.still 5 (.still 6 (.still 7 (.still 8 (.still 9 (.eff 10 (.still 11 .done)))))))))))) _ (by kernel_rfl) (List.Sublist.refl _) ?_;refine TS.run 3 rfl ?_;refine TS.y rfl (Yv.aP rfl rfl rfl (by omega)) ?_;refine TS.y rfl (Yv.ai rfl rfl rfl (show (k:Int) - 1=((k - 1:Nat):Int) from by omega) (by omega)) ?_;refine TS.y rfl (Yv.aC rfl rfl hk1 rfl (fun h=>h)) ?_;refine TS.run 2 rfl ?_;refine TS.y rfl (Yv.ai rfl rfl rfl rfl (by omega)) ?_;refine TS.y rfl (Yv.aC rfl rfl hk rfl (fun h=>h)) ?_;refine TS.eff ?_; (refine TSo.ew rfl (Wt.none rfl) rfl rfl (Ew.af rfl rfl rfl (fun w hw=>hC (nth xs (k - 1)) (nth xs k) w)) ?_;rintro _ _ ⟨rfl,rfl⟩;refine ⟨Sx,?_⟩);refine TS.run 1 rfl ?_;refine TS.done ?_;refine K.seq ?_;refine T.cond rfl (fun h2=>?_) (fun h2=>?_)
   ·have p2:=h2; (try simp only [nfB] at p2);refine T.sr ?_;refine TL.run 1 rfl ?_;refine TL.ns (T.ret (K.ag (K.aa (K.aa (K.ag (K.aa ?_))))));refine K.ah rfl rfl (fun w' hw=>⟨?_,hw.isBelow⟩);exact zah (zbv (f:=fun k=>decide (k=0)|| !decide (0≤c (nth xs (k - 1)) (nth xs k))) k (by omega) (by rw [decide_eq_false (show ¬k=0 by omega)];simpa using p2)).symm
   ·have p2:=h2; (try simp only [nfB] at p2);refine T.skip (K.ad (K.seq (T.region ?_)));refine TL.run 1 rfl ?_;refine TL.y (Yv.an rfl rfl rfl (by omega)) ?_;refine TL.run 1 rfl ?_;refine TL.nil ?_;exact K.next (k+1) ⟨by omega,fun j hj hjl=>by rcases Nat.lt_or_ge j k with hh|hh;exact hall j hh hjl;rw [show j=k from by omega,decide_eq_false (by omega)];simpa using p2⟩ (by omega) (by repeat (first|exact Sub.nil|refine Sub.cons rfl ?_)) Sx
  ·have p1:=h1; (try simp only [nfB] at p1);refine T.exit (K.ab (K.ab (K.ae (K.seq (T.sr ?_)))));refine TL.run 1 rfl ?_;refine TL.ns (T.ret ?_);refine K.ah rfl rfl (fun w' hw=>⟨?_,hw.isBelow⟩);exact zah (zcL (f:=fun k=>decide (k=0)|| !decide (0≤c (nth xs (k - 1)) (nth xs k))) (fun j hj=>hall j (by omega) hj)).symm
theorem zkn {q:Ld→Bool}(xs:List Ld)(v:Value)(f:FuncId)(caps:Array Value)(w:World)(h:SlOf w v Ld.cells 5 xs)[hE:Enters Tryz.prog f](hC:∀k,k<xs.length→∀w',Below w.heap.size w w'→Calls Tryz.prog f (.agg (Ld.cells (nth xs k)).toArray :: caps.toList).toArray w' fun e w''=>e= .returned (.bool (q (nth xs k)))∧Below w'.heap.size w' w'')(hl:xs.length≤9223372036854775807):Calls Tryz.prog 89 #[v, .func (.func f) #[] caps] w fun e w'=>e= .returned (.bool (allB q xs))∧Below w.heap.size w w':=by
 obtain ⟨A,cap,rfl,hsl⟩:=h.op;refine zac (M:=fun _=>False) (hs:=[]) Tryz.func89 rfl rfl rfl (Hp.refl _ _) ?_;refine T.sr ?_;refine TL.run 1 rfl ?_;refine TL.ns (T.seq (T.sr ?_));refine TL.run 1 rfl ?_;refine TL.y (Yv.ax rfl rfl) ?_;refine TL.run 1 rfl ?_;refine TL.ns (T.block ?_);refine T.loop (ι:=Nat) (fun k=>[(1, .func (.func f) #[] caps),(7, .slice A xs.length cap),(8, .int .i64 (xs.length:Int)),(9, .int .i64 (k:Int))]) (fun k=>[]) (fun k=>k≤xs.length∧∀j,j<k→q (nth xs j)=true) (fun k=>xs.length - k) 0 ?_ ?_ ?_ ?_
 ·exact ⟨by omega,fun j hj=>by omega⟩
 ·exact (by repeat (first|exact Sub.nil|refine Sub.cons rfl ?_))
 ·exact Sx
 ·intro k hphi;obtain ⟨hkl,hall⟩:=hphi;refine T.sr ?_;refine TL.run 1 rfl ?_;refine TL.ns (T.seq ?_);refine T.cond rfl (fun h1=>?_) (fun h1=>?_)
  ·have p1:=h1; (try simp only [nfB] at p1);obtain ⟨g,off,rfl,hc⟩:=hsl (by omega);have hk:=hc k (by omega);simp only [Ld.cells] at hk;refine T.skip (K.seq (T.seq (T.block (T.sr ?_))));refine TL.y (Yv.ai rfl rfl rfl rfl (by omega)) ?_;refine TL.y (Yv.aC rfl rfl hk rfl (fun h=>h)) ?_; (refine TL.ew (Wt.none rfl) rfl rfl (Ew.alloc rfl) ?_;rintro _ _ ⟨g6,rfl,rfl⟩); (refine TL.aF (Wt.none rfl) rfl (Ew.ak 0 rfl rfl rfl rfl rfl rfl) ?_;rintro _ _ ⟨rfl,rfl⟩);refine TL.nx ?_;refine TL.run 1 rfl ?_;refine TL.y (Yv.am 0 rfl rfl rfl rfl) ?_; (refine TL.ew (Wt.none rfl) rfl rfl (Ew.bo rfl rfl rfl (fun w hw=>hC k (by omega) w hw.isBelow)) ?_;rintro _ _ ⟨rfl,rfl⟩);refine TL.run 1 rfl ?_;refine TL.ns ?_;refine T.cond rfl (fun h2=>?_) (fun h2=>?_)
   ·have p2:=h2; (try simp only [nfB] at p2);refine T.sr ?_;refine TL.run 1 rfl ?_;refine TL.ns (T.ret (K.ag (K.aa (K.aa (K.ag (K.aa ?_))))));refine K.ah rfl rfl (fun w' hw=>⟨?_,hw.isBelow⟩);exact zah (zbv (f:=fun k=>q (nth xs k)) k (by omega) (by simpa using p2)).symm
   ·have p2:=h2; (try simp only [nfB] at p2);refine T.skip (K.ad (K.seq (T.region ?_)));refine TL.y (Yv.an rfl rfl rfl (by omega)) ?_;refine TL.run 1 rfl ?_;refine TL.nil ?_;exact K.next (k+1) ⟨by omega,zdq hall (by simpa using p2)⟩ (by omega) (by repeat (first|exact Sub.nil|refine Sub.cons rfl ?_)) Sx
  ·have p1:=h1; (try simp only [nfB] at p1);refine T.exit (K.ab (K.ab (K.ae (K.seq (T.sr ?_)))));refine TL.run 1 rfl ?_;refine TL.ns (T.ret ?_);refine K.ah rfl rfl (fun w' hw=>⟨?_,hw.isBelow⟩);exact zah (zdv (f:=fun k=>q (nth xs k)) hall (by omega)).symm
theorem zhH {c:Ld→Ld→Int}(xs:List Ld)(v:Value)(f:FuncId)(w:World)(h:SlOf w v Ld.cells 5 xs)[hE:Enters Tryz.prog f](hC:∀x y:Ld,∀w':World,Calls Tryz.prog f #[.agg (Ld.cells (x)).toArray, .agg (Ld.cells (y)).toArray] w' fun e w''=>e= .returned (.int .i64 (c x y))∧Below w'.heap.size w' w'')(hl:xs.length≤9223372036854775807):Calls Tryz.prog 113 #[v, .func (.func f) #[] #[]] w fun e w'=>e= .returned (.bool (incB c xs))∧Below w.heap.size w w':=by
 obtain ⟨A,cap,rfl,hsl⟩:=h.op;refine zac (M:=fun _=>False) (hs:=[]) Tryz.func113 rfl rfl rfl (Hp.refl _ _) ?_;refine T.sr ?_;refine TL.run 1 rfl ?_;refine TL.ns (T.seq (T.sr ?_));refine TL.run 1 rfl ?_;refine TL.ns (T.block ?_);refine T.loop (ι:=Nat) (fun k=>[(0, .slice A xs.length cap),(1, .func (.func f) #[] #[]),(5, .int .i64 (k:Int))]) (fun k=>[]) (fun k=>1≤k∧∀j,j<k→j<xs.length→(decide (j=0)|| !decide (0≤c (nth xs (j - 1)) (nth xs j)))=true) (fun k=>xs.length - k) 1 ?_ ?_ ?_ ?_
 ·exact ⟨by omega,fun j hj _=>by rw [show j=0 from by omega];rfl⟩
 ·exact (by repeat (first|exact Sub.nil|refine Sub.cons rfl ?_))
 ·exact Sx
 ·intro k hphi;obtain ⟨hk0,hall⟩:=hphi;refine T.seq (T.sr ?_);refine TL.run 2 rfl ?_;refine TL.y (Yv.ax rfl rfl) ?_;refine TL.run 1 rfl ?_;refine TL.ns ?_;refine T.cond rfl (fun h1=>?_) (fun h1=>?_)
  ·have p1:=h1; (try simp only [nfB] at p1);obtain ⟨g,off,rfl,hc⟩:=hsl (by omega);have hk:=hc k (by omega);have hk1:=hc (k - 1) (by omega);simp only [Ld.cells] at hk hk1;refine T.skip (K.seq (T.seq (T.block (T.seq ?_))));refine T.as (.still 0 (.still 1 (.still 2 (.still 3 (.still 4 (.still 5 (.still 6 (.still 7 (.still 8 (.still 9 (.eff 10 (.still 11 .done)))))))))))) _ (by kernel_rfl) (List.Sublist.refl _) ?_;refine TS.run 3 rfl ?_;refine TS.y rfl (Yv.aP rfl rfl rfl (by omega)) ?_;refine TS.y rfl (Yv.ai rfl rfl rfl (show (k:Int) - 1=((k - 1:Nat):Int) from by omega) (by omega)) ?_;refine TS.y rfl (Yv.aC rfl rfl hk1 rfl (fun h=>h)) ?_;refine TS.run 2 rfl ?_;refine TS.y rfl (Yv.ai rfl rfl rfl rfl (by omega)) ?_;refine TS.y rfl (Yv.aC rfl rfl hk rfl (fun h=>h)) ?_;refine TS.eff ?_; (refine TSo.ew rfl (Wt.none rfl) rfl rfl (Ew.af rfl rfl rfl (fun w hw=>hC (nth xs (k - 1)) (nth xs k) w)) ?_;rintro _ _ ⟨rfl,rfl⟩;refine ⟨Sx,?_⟩);refine TS.run 1 rfl ?_;refine TS.done ?_;refine K.seq ?_;refine T.cond rfl (fun h2=>?_) (fun h2=>?_)
   ·have p2:=h2; (try simp only [nfB] at p2);refine T.sr ?_;refine TL.run 1 rfl ?_;refine TL.ns (T.ret (K.ag (K.aa (K.aa (K.ag (K.aa ?_))))));refine K.ah rfl rfl (fun w' hw=>⟨?_,hw.isBelow⟩);exact zah (zbv (f:=fun k=>decide (k=0)|| !decide (0≤c (nth xs (k - 1)) (nth xs k))) k (by omega) (by rw [decide_eq_false (show ¬k=0 by omega)];simpa using p2)).symm
   ·have p2:=h2; (try simp only [nfB] at p2);refine T.skip (K.ad (K.seq (T.region ?_)));refine TL.run 1 rfl ?_;refine TL.y (Yv.an rfl rfl rfl (by omega)) ?_;refine TL.run 1 rfl ?_;refine TL.nil ?_;exact K.next (k+1) ⟨by omega,fun j hj hjl=>by rcases Nat.lt_or_ge j k with hh|hh;exact hall j hh hjl;rw [show j=k from by omega,decide_eq_false (by omega)];simpa using p2⟩ (by omega) (by repeat (first|exact Sub.nil|refine Sub.cons rfl ?_)) Sx
  ·have p1:=h1; (try simp only [nfB] at p1);refine T.exit (K.ab (K.ab (K.ae (K.seq (T.sr ?_)))));refine TL.run 1 rfl ?_;refine TL.ns (T.ret ?_);refine K.ah rfl rfl (fun w' hw=>⟨?_,hw.isBelow⟩);exact zah (zcL (f:=fun k=>decide (k=0)|| !decide (0≤c (nth xs (k - 1)) (nth xs k))) (fun j hj=>hall j (by omega) hj)).symm
theorem zjX {q:Cp→Bool}(xs:List Cp)(v:Value)(f:FuncId)(caps:Array Value)(w:World)(h:SlOf w v Cp.cells 4 xs)[hE:Enters Tryz.prog f](hC:∀k,k<xs.length→∀w',Below w.heap.size w w'→Calls Tryz.prog f (.agg (Cp.cells (nth xs k)).toArray :: caps.toList).toArray w' fun e w''=>e= .returned (.bool (q (nth xs k)))∧Below w'.heap.size w' w'')(hl:xs.length≤9223372036854775807):Calls Tryz.prog 91 #[v, .func (.func f) #[] caps] w fun e w'=>e= .returned (.bool (allB q xs))∧Below w.heap.size w w':=by
 obtain ⟨A,cap,rfl,hsl⟩:=h.op;refine zac (M:=fun _=>False) (hs:=[]) Tryz.func91 rfl rfl rfl (Hp.refl _ _) ?_;refine T.sr ?_;refine TL.run 1 rfl ?_;refine TL.ns (T.seq (T.sr ?_));refine TL.run 1 rfl ?_;refine TL.y (Yv.ax rfl rfl) ?_;refine TL.run 1 rfl ?_;refine TL.ns (T.block ?_);refine T.loop (ι:=Nat) (fun k=>[(1, .func (.func f) #[] caps),(7, .slice A xs.length cap),(8, .int .i64 (xs.length:Int)),(9, .int .i64 (k:Int))]) (fun k=>[]) (fun k=>k≤xs.length∧∀j,j<k→q (nth xs j)=true) (fun k=>xs.length - k) 0 ?_ ?_ ?_ ?_
 ·exact ⟨by omega,fun j hj=>by omega⟩
 ·exact (by repeat (first|exact Sub.nil|refine Sub.cons rfl ?_))
 ·exact Sx
 ·intro k hphi;obtain ⟨hkl,hall⟩:=hphi;refine T.sr ?_;refine TL.run 1 rfl ?_;refine TL.ns (T.seq ?_);refine T.cond rfl (fun h1=>?_) (fun h1=>?_)
  ·have p1:=h1; (try simp only [nfB] at p1);obtain ⟨g,off,rfl,hc⟩:=hsl (by omega);have hk:=hc k (by omega);simp only [Cp.cells] at hk;refine T.skip (K.seq (T.seq (T.block (T.sr ?_))));refine TL.y (Yv.ai rfl rfl rfl rfl (by omega)) ?_;refine TL.y (Yv.aC rfl rfl hk rfl (fun h=>h)) ?_; (refine TL.ew (Wt.none rfl) rfl rfl (Ew.alloc rfl) ?_;rintro _ _ ⟨g6,rfl,rfl⟩); (refine TL.aF (Wt.none rfl) rfl (Ew.ak 0 rfl rfl rfl rfl rfl rfl) ?_;rintro _ _ ⟨rfl,rfl⟩);refine TL.nx ?_;refine TL.run 1 rfl ?_;refine TL.y (Yv.am 0 rfl rfl rfl rfl) ?_; (refine TL.ew (Wt.none rfl) rfl rfl (Ew.bo rfl rfl rfl (fun w hw=>hC k (by omega) w hw.isBelow)) ?_;rintro _ _ ⟨rfl,rfl⟩);refine TL.run 1 rfl ?_;refine TL.ns ?_;refine T.cond rfl (fun h2=>?_) (fun h2=>?_)
   ·have p2:=h2; (try simp only [nfB] at p2);refine T.sr ?_;refine TL.run 1 rfl ?_;refine TL.ns (T.ret (K.ag (K.aa (K.aa (K.ag (K.aa ?_))))));refine K.ah rfl rfl (fun w' hw=>⟨?_,hw.isBelow⟩);exact zah (zbv (f:=fun k=>q (nth xs k)) k (by omega) (by simpa using p2)).symm
   ·have p2:=h2; (try simp only [nfB] at p2);refine T.skip (K.ad (K.seq (T.region ?_)));refine TL.y (Yv.an rfl rfl rfl (by omega)) ?_;refine TL.run 1 rfl ?_;refine TL.nil ?_;exact K.next (k+1) ⟨by omega,zdq hall (by simpa using p2)⟩ (by omega) (by repeat (first|exact Sub.nil|refine Sub.cons rfl ?_)) Sx
  ·have p1:=h1; (try simp only [nfB] at p1);refine T.exit (K.ab (K.ab (K.ae (K.seq (T.sr ?_)))));refine TL.run 1 rfl ?_;refine TL.ns (T.ret ?_);refine K.ah rfl rfl (fun w' hw=>⟨?_,hw.isBelow⟩);exact zah (zdv (f:=fun k=>q (nth xs k)) hall (by omega)).symm
theorem zhC {c:Cp→Cp→Int}(xs:List Cp)(v:Value)(f:FuncId)(w:World)(h:SlOf w v Cp.cells 4 xs)[hE:Enters Tryz.prog f](hC:∀x y:Cp,∀w':World,Calls Tryz.prog f #[.agg (Cp.cells (x)).toArray, .agg (Cp.cells (y)).toArray] w' fun e w''=>e= .returned (.int .i64 (c x y))∧Below w'.heap.size w' w'')(hl:xs.length≤9223372036854775807):Calls Tryz.prog 116 #[v, .func (.func f) #[] #[]] w fun e w'=>e= .returned (.bool (incB c xs))∧Below w.heap.size w w':=by
 obtain ⟨A,cap,rfl,hsl⟩:=h.op;refine zac (M:=fun _=>False) (hs:=[]) Tryz.func116 rfl rfl rfl (Hp.refl _ _) ?_;refine T.sr ?_;refine TL.run 1 rfl ?_;refine TL.ns (T.seq (T.sr ?_));refine TL.run 1 rfl ?_;refine TL.ns (T.block ?_);refine T.loop (ι:=Nat) (fun k=>[(0, .slice A xs.length cap),(1, .func (.func f) #[] #[]),(5, .int .i64 (k:Int))]) (fun k=>[]) (fun k=>1≤k∧∀j,j<k→j<xs.length→(decide (j=0)|| !decide (0≤c (nth xs (j - 1)) (nth xs j)))=true) (fun k=>xs.length - k) 1 ?_ ?_ ?_ ?_
 ·exact ⟨by omega,fun j hj _=>by rw [show j=0 from by omega];rfl⟩
 ·exact (by repeat (first|exact Sub.nil|refine Sub.cons rfl ?_))
 ·exact Sx
 ·intro k hphi;obtain ⟨hk0,hall⟩:=hphi;refine T.seq (T.sr ?_);refine TL.run 2 rfl ?_;refine TL.y (Yv.ax rfl rfl) ?_;refine TL.run 1 rfl ?_;refine TL.ns ?_;refine T.cond rfl (fun h1=>?_) (fun h1=>?_)
  ·have p1:=h1; (try simp only [nfB] at p1);obtain ⟨g,off,rfl,hc⟩:=hsl (by omega);have hk:=hc k (by omega);have hk1:=hc (k - 1) (by omega);simp only [Cp.cells] at hk hk1;refine T.skip (K.seq (T.seq (T.block (T.seq ?_))));refine T.as (.still 0 (.still 1 (.still 2 (.still 3 (.still 4 (.still 5 (.still 6 (.still 7 (.still 8 (.still 9 (.eff 10 (.still 11 .done)))))))))))) _ (by kernel_rfl) (List.Sublist.refl _) ?_;refine TS.run 3 rfl ?_;refine TS.y rfl (Yv.aP rfl rfl rfl (by omega)) ?_;refine TS.y rfl (Yv.ai rfl rfl rfl (show (k:Int) - 1=((k - 1:Nat):Int) from by omega) (by omega)) ?_;refine TS.y rfl (Yv.aC rfl rfl hk1 rfl (fun h=>h)) ?_;refine TS.run 2 rfl ?_;refine TS.y rfl (Yv.ai rfl rfl rfl rfl (by omega)) ?_;refine TS.y rfl (Yv.aC rfl rfl hk rfl (fun h=>h)) ?_;refine TS.eff ?_; (refine TSo.ew rfl (Wt.none rfl) rfl rfl (Ew.af rfl rfl rfl (fun w hw=>hC (nth xs (k - 1)) (nth xs k) w)) ?_;rintro _ _ ⟨rfl,rfl⟩;refine ⟨Sx,?_⟩);refine TS.run 1 rfl ?_;refine TS.done ?_;refine K.seq ?_;refine T.cond rfl (fun h2=>?_) (fun h2=>?_)
   ·have p2:=h2; (try simp only [nfB] at p2);refine T.sr ?_;refine TL.run 1 rfl ?_;refine TL.ns (T.ret (K.ag (K.aa (K.aa (K.ag (K.aa ?_))))));refine K.ah rfl rfl (fun w' hw=>⟨?_,hw.isBelow⟩);exact zah (zbv (f:=fun k=>decide (k=0)|| !decide (0≤c (nth xs (k - 1)) (nth xs k))) k (by omega) (by rw [decide_eq_false (show ¬k=0 by omega)];simpa using p2)).symm
   ·have p2:=h2; (try simp only [nfB] at p2);refine T.skip (K.ad (K.seq (T.region ?_)));refine TL.run 1 rfl ?_;refine TL.y (Yv.an rfl rfl rfl (by omega)) ?_;refine TL.run 1 rfl ?_;refine TL.nil ?_;exact K.next (k+1) ⟨by omega,fun j hj hjl=>by rcases Nat.lt_or_ge j k with hh|hh;exact hall j hh hjl;rw [show j=k from by omega,decide_eq_false (by omega)];simpa using p2⟩ (by omega) (by repeat (first|exact Sub.nil|refine Sub.cons rfl ?_)) Sx
  ·have p1:=h1; (try simp only [nfB] at p1);refine T.exit (K.ab (K.ab (K.ae (K.seq (T.sr ?_)))));refine TL.run 1 rfl ?_;refine TL.ns (T.ret ?_);refine K.ah rfl rfl (fun w' hw=>⟨?_,hw.isBelow⟩);exact zah (zcL (f:=fun k=>decide (k=0)|| !decide (0≤c (nth xs (k - 1)) (nth xs k))) (fun j hj=>hall j (by omega) hj)).symm
theorem zkQ {q:Int→Bool}(xs:List Int)(v:Value)(f:FuncId)(caps:Array Value)(w:World)(h:SlOf w v Ie 1 xs)[hE:Enters Tryz.prog f](hC:∀k,k<xs.length→∀w',Below w.heap.size w w'→Calls Tryz.prog f (.int .i64 (nth xs k) :: caps.toList).toArray w' fun e w''=>e= .returned (.bool (q (nth xs k)))∧Below w'.heap.size w' w'')(hl:xs.length≤9223372036854775807):Calls Tryz.prog 107 #[v, .func (.func f) #[] caps] w fun e w'=>e= .returned (.bool (allB q xs))∧Below w.heap.size w w':=by
 obtain ⟨A,cap,rfl,hsl⟩:=h.op;refine zac (M:=fun _=>False) (hs:=[]) Tryz.func107 rfl rfl rfl (Hp.refl _ _) ?_;refine T.sr ?_;refine TL.run 1 rfl ?_;refine TL.ns (T.seq (T.sr ?_));refine TL.run 1 rfl ?_;refine TL.y (Yv.ax rfl rfl) ?_;refine TL.run 1 rfl ?_;refine TL.ns (T.block ?_);refine T.loop (ι:=Nat) (fun k=>[(1, .func (.func f) #[] caps),(7, .slice A xs.length cap),(8, .int .i64 (xs.length:Int)),(9, .int .i64 (k:Int))]) (fun k=>[]) (fun k=>k≤xs.length∧∀j,j<k→q (nth xs j)=true) (fun k=>xs.length - k) 0 ?_ ?_ ?_ ?_
 ·exact ⟨by omega,fun j hj=>by omega⟩
 ·exact (by repeat (first|exact Sub.nil|refine Sub.cons rfl ?_))
 ·exact Sx
 ·intro k hphi;obtain ⟨hkl,hall⟩:=hphi;refine T.sr ?_;refine TL.run 1 rfl ?_;refine TL.ns (T.seq ?_);refine T.cond rfl (fun h1=>?_) (fun h1=>?_)
  ·have p1:=h1; (try simp only [nfB] at p1);obtain ⟨g,off,rfl,hc⟩:=hsl (by omega);have hk:=hc k (by omega);simp only [Ie] at hk;refine T.skip (K.seq (T.seq (T.block (T.sr ?_))));refine TL.y (Yv.ai rfl rfl rfl rfl (by omega)) ?_;refine TL.y (Yv.loadC (j:=0) rfl rfl hk rfl rfl (fun h=>h)) ?_;refine TL.run 1 rfl ?_;refine TL.nx ?_;refine TL.run 2 rfl ?_; (refine TL.ew (Wt.none rfl) rfl rfl (Ew.bo rfl rfl rfl (fun w hw=>hC k (by omega) w hw.isBelow)) ?_;rintro _ _ ⟨rfl,rfl⟩);refine TL.run 1 rfl ?_;refine TL.ns ?_;refine T.cond rfl (fun h2=>?_) (fun h2=>?_)
   ·have p2:=h2; (try simp only [nfB] at p2);refine T.sr ?_;refine TL.run 1 rfl ?_;refine TL.ns (T.ret (K.ag (K.aa (K.aa (K.ag (K.aa ?_))))));refine K.ah rfl rfl (fun w' hw=>⟨?_,hw.isBelow⟩);exact zah (zbv (f:=fun k=>q (nth xs k)) k (by omega) (by simpa using p2)).symm
   ·have p2:=h2; (try simp only [nfB] at p2);refine T.skip (K.ad (K.seq (T.region ?_)));refine TL.y (Yv.an rfl rfl rfl (by omega)) ?_;refine TL.run 1 rfl ?_;refine TL.nil ?_;exact K.next (k+1) ⟨by omega,zdq hall (by simpa using p2)⟩ (by omega) (by repeat (first|exact Sub.nil|refine Sub.cons rfl ?_)) Sx
  ·have p1:=h1; (try simp only [nfB] at p1);refine T.exit (K.ab (K.ab (K.ae (K.seq (T.sr ?_)))));refine TL.run 1 rfl ?_;refine TL.ns (T.ret ?_);refine K.ah rfl rfl (fun w' hw=>⟨?_,hw.isBelow⟩);exact zah (zdv (f:=fun k=>q (nth xs k)) hall (by omega)).symm
theorem zgz {c:Int→Int→Int}(xs:List Int)(v:Value)(f:FuncId)(w:World)(h:SlOf w v Ie 1 xs)[hE:Enters Tryz.prog f](hC:∀x y:Int,∀w':World,Calls Tryz.prog f #[.int .i64 (x), .int .i64 (y)] w' fun e w''=>e= .returned (.int .i64 (c x y))∧Below w'.heap.size w' w'')(hl:xs.length≤9223372036854775807):Calls Tryz.prog 108 #[v, .func (.func f) #[] #[]] w fun e w'=>e= .returned (.bool (incB c xs))∧Below w.heap.size w w':=by
 obtain ⟨A,cap,rfl,hsl⟩:=h.op;refine zac (M:=fun _=>False) (hs:=[]) Tryz.func108 rfl rfl rfl (Hp.refl _ _) ?_;refine T.sr ?_;refine TL.run 1 rfl ?_;refine TL.ns (T.seq (T.sr ?_));refine TL.run 1 rfl ?_;refine TL.ns (T.block ?_);refine T.loop (ι:=Nat) (fun k=>[(0, .slice A xs.length cap),(1, .func (.func f) #[] #[]),(5, .int .i64 (k:Int))]) (fun k=>[]) (fun k=>1≤k∧∀j,j<k→j<xs.length→(decide (j=0)|| !decide (0≤c (nth xs (j - 1)) (nth xs j)))=true) (fun k=>xs.length - k) 1 ?_ ?_ ?_ ?_
 ·exact ⟨by omega,fun j hj _=>by rw [show j=0 from by omega];rfl⟩
 ·exact (by repeat (first|exact Sub.nil|refine Sub.cons rfl ?_))
 ·exact Sx
 ·intro k hphi;obtain ⟨hk0,hall⟩:=hphi;refine T.seq (T.sr ?_);refine TL.run 2 rfl ?_;refine TL.y (Yv.ax rfl rfl) ?_;refine TL.run 1 rfl ?_;refine TL.ns ?_;refine T.cond rfl (fun h1=>?_) (fun h1=>?_)
  ·have p1:=h1; (try simp only [nfB] at p1);obtain ⟨g,off,rfl,hc⟩:=hsl (by omega);have hk:=hc k (by omega);have hk1:=hc (k - 1) (by omega);simp only [Ie] at hk hk1;refine T.skip (K.seq (T.seq (T.block (T.seq ?_))));refine T.as (.still 0 (.still 1 (.still 2 (.still 3 (.still 4 (.still 5 (.still 6 (.still 7 (.still 8 (.still 9 (.eff 10 (.still 11 .done)))))))))))) _ (by kernel_rfl) (List.Sublist.refl _) ?_;refine TS.run 3 rfl ?_;refine TS.y rfl (Yv.aP rfl rfl rfl (by omega)) ?_;refine TS.y rfl (Yv.ai rfl rfl rfl (show (k:Int) - 1=((k - 1:Nat):Int) from by omega) (by omega)) ?_;refine TS.y rfl (Yv.loadC (j:=0) rfl rfl hk1 rfl rfl (fun h=>h)) ?_;refine TS.run 2 rfl ?_;refine TS.y rfl (Yv.ai rfl rfl rfl rfl (by omega)) ?_;refine TS.y rfl (Yv.loadC (j:=0) rfl rfl hk rfl rfl (fun h=>h)) ?_;refine TS.eff ?_; (refine TSo.ew rfl (Wt.none rfl) rfl rfl (Ew.af rfl rfl rfl (fun w hw=>hC (nth xs (k - 1)) (nth xs k) w)) ?_;rintro _ _ ⟨rfl,rfl⟩;refine ⟨Sx,?_⟩);refine TS.run 1 rfl ?_;refine TS.done ?_;refine K.seq ?_;refine T.cond rfl (fun h2=>?_) (fun h2=>?_)
   ·have p2:=h2; (try simp only [nfB] at p2);refine T.sr ?_;refine TL.run 1 rfl ?_;refine TL.ns (T.ret (K.ag (K.aa (K.aa (K.ag (K.aa ?_))))));refine K.ah rfl rfl (fun w' hw=>⟨?_,hw.isBelow⟩);exact zah (zbv (f:=fun k=>decide (k=0)|| !decide (0≤c (nth xs (k - 1)) (nth xs k))) k (by omega) (by rw [decide_eq_false (show ¬k=0 by omega)];simpa using p2)).symm
   ·have p2:=h2; (try simp only [nfB] at p2);refine T.skip (K.ad (K.seq (T.region ?_)));refine TL.run 1 rfl ?_;refine TL.y (Yv.an rfl rfl rfl (by omega)) ?_;refine TL.run 1 rfl ?_;refine TL.nil ?_;exact K.next (k+1) ⟨by omega,fun j hj hjl=>by rcases Nat.lt_or_ge j k with hh|hh;exact hall j hh hjl;rw [show j=k from by omega,decide_eq_false (by omega)];simpa using p2⟩ (by omega) (by repeat (first|exact Sub.nil|refine Sub.cons rfl ?_)) Sx
  ·have p1:=h1; (try simp only [nfB] at p1);refine T.exit (K.ab (K.ab (K.ae (K.seq (T.sr ?_)))));refine TL.run 1 rfl ?_;refine TL.ns (T.ret ?_);refine K.ah rfl rfl (fun w' hw=>⟨?_,hw.isBelow⟩);exact zah (zcL (f:=fun k=>decide (k=0)|| !decide (0≤c (nth xs (k - 1)) (nth xs k))) (fun j hj=>hall j (by omega) hj)).symm
def Pr.ok (x:Pr):Bool:=inB x.a 0 511&&(inB x.b 0 511&&(decide (x.a<x.b)&&(inB x.off (-1) 1&&rngB x.lo x.hi)))
def Ld.ok (x:Ld):Bool:=inB x.to 0 511&&(inB x.fr 0 511&&(decide (¬x.to=x.fr)&&(inB x.wt 1 1073741824&&rngB x.lo x.hi)))
def Cp.ok (x:Cp):Bool:=inB x.st 0 511&&(inB x.mx 0 1099511627776&&rngB x.lo x.hi)
def Pr.cmp (x y:Pr):Int:=orL [cmpI x.a y.a,cmpI x.b y.b,cmpI x.off y.off,cmpI x.lo y.lo,cmpI x.hi y.hi]
def Ld.cmp (x y:Ld):Int:=orL [cmpI x.to y.to,cmpI x.fr y.fr,cmpI x.wt y.wt,cmpI x.lo y.lo,cmpI x.hi y.hi]
def Cp.cmp (x y:Cp):Int:=orL [cmpI x.st y.st,cmpI x.mx y.mx,cmpI x.lo y.lo,cmpI x.hi y.hi]
theorem zhy (x:Pr)(w:World):Calls Tryz.prog 109 #[.agg (Pr.cells x).toArray] w fun e w'=>e= .returned (.bool x.ok)∧Below w.heap.size w w':=by
 refine zac (M:=fun _=>False) (hs:=[]) Tryz.func109 rfl rfl rfl (Hp.refl _ _) ?_;simp only [Pr.cells];refine T.sr ?_; (refine TL.ew (Wt.none rfl) rfl rfl (Ew.aA rfl rfl) ?_;rintro _ _ ⟨g1,rfl,rfl⟩);refine TL.run 1 rfl ?_;refine TL.nx ?_;refine TL.y (Yv.fieldAddr rfl rfl) ?_;refine TL.y (Yv.ac 0 rfl rfl rfl rfl) ?_; (refine TL.ew (Wt.none rfl) rfl rfl (Ew.af rfl rfl rfl (fun w hw=>zbW _ _)) ?_;rintro _ _ ⟨rfl,rfl⟩);refine TL.run 1 rfl ?_;refine TL.aq rfl rfl rfl (fun h1=>?_) (fun h1=>?_)
 ·have p1:=h1; (try simp only [nfB] at p1);refine TL.yv (Wt.some rfl rfl rfl h1) rfl rfl (Yv.fieldAddr rfl rfl) ?_;refine TL.yv (Wt.some rfl rfl rfl h1) rfl rfl (Yv.ac 0 rfl rfl rfl rfl) ?_; (refine TL.ew (Wt.some rfl rfl rfl h1) rfl rfl (Ew.af rfl rfl rfl (fun w hw=>zbW _ _)) ?_;rintro _ _ ⟨rfl,rfl⟩);refine TL.y (Yv.au rfl rfl h1 rfl) ?_;refine TL.run 1 rfl ?_;refine TL.aq rfl rfl rfl (fun h2=>?_) (fun h2=>?_)
  ·have p2:=h2; (try simp only [nfB] at p2);refine TL.yv (Wt.some rfl rfl rfl h2) rfl rfl (Yv.fieldAddr rfl rfl) ?_;refine TL.yv (Wt.some rfl rfl rfl h2) rfl rfl (Yv.ac 0 rfl rfl rfl rfl) ?_;refine TL.yv (Wt.some rfl rfl rfl h2) rfl rfl (Yv.fieldAddr rfl rfl) ?_;refine TL.yv (Wt.some rfl rfl rfl h2) rfl rfl (Yv.ac 0 rfl rfl rfl rfl) ?_;refine TL.yv (Wt.some rfl rfl rfl h2) rfl rfl (Yv.aB rfl) ?_;refine TL.y (Yv.au rfl rfl h2 rfl) ?_;refine TL.run 1 rfl ?_;refine TL.aq rfl rfl rfl (fun h3=>?_) (fun h3=>?_)
   ·have p3:=h3; (try simp only [nfB] at p3);refine TL.yv (Wt.some rfl rfl rfl h3) rfl rfl (Yv.fieldAddr rfl rfl) ?_;refine TL.yv (Wt.some rfl rfl rfl h3) rfl rfl (Yv.ac 0 rfl rfl rfl rfl) ?_; (refine TL.ew (Wt.some rfl rfl rfl h3) rfl rfl (Ew.af rfl rfl rfl (fun w hw=>zcV _ _ _ _)) ?_;rintro _ _ ⟨rfl,rfl⟩);refine TL.y (Yv.au rfl rfl h3 rfl) ?_;refine TL.run 1 rfl ?_;refine TL.aq rfl rfl rfl (fun h4=>?_) (fun h4=>?_)
    ·have p4:=h4; (try simp only [nfB] at p4);refine TL.yv (Wt.some rfl rfl rfl h4) rfl rfl (Yv.fieldAddr rfl rfl) ?_;refine TL.yv (Wt.some rfl rfl rfl h4) rfl rfl (Yv.ac 0 rfl rfl rfl rfl) ?_;refine TL.yv (Wt.some rfl rfl rfl h4) rfl rfl (Yv.fieldAddr rfl rfl) ?_;refine TL.yv (Wt.some rfl rfl rfl h4) rfl rfl (Yv.ac 0 rfl rfl rfl rfl) ?_; (refine TL.ew (Wt.some rfl rfl rfl h4) rfl rfl (Ew.af rfl rfl rfl (fun w hw=>zdW _ _ _)) ?_;rintro _ _ ⟨rfl,rfl⟩);refine TL.y (Yv.au rfl rfl h4 rfl) ?_;refine TL.run 1 rfl ?_;refine TL.ns (T.ret ?_);refine K.ah rfl rfl (fun w' hw=>⟨?_,hw.isBelow⟩);exact zah (by simp only [Pr.ok, *,Bool.not_true,Bool.not_false,Bool.or_false,Bool.false_or,Bool.or_true,Bool.true_or,Bool.and_false,Bool.false_and,Bool.true_and,Bool.and_true,Bool.or_self,Bool.and_self,Bool.not_not,decide_true,decide_false,not_true_eq_false,not_false_eq_true,cond_true,cond_false])
    ·have p4:=h4; (try simp only [nfB] at p4);refine TL.off (Wt.not rfl rfl rfl h4) rfl rfl ?_;refine TL.off (Wt.not rfl rfl rfl h4) rfl rfl ?_;refine TL.off (Wt.not rfl rfl rfl h4) rfl rfl ?_;refine TL.off (Wt.not rfl rfl rfl h4) rfl rfl ?_;refine TL.off (Wt.not rfl rfl rfl h4) rfl rfl ?_;refine TL.y (Yv.av rfl rfl h4 rfl) ?_;refine TL.run 1 rfl ?_;refine TL.ns (T.ret ?_);refine K.ah rfl rfl (fun w' hw=>⟨?_,hw.isBelow⟩);exact zah (by simp only [Pr.ok, *,Bool.not_true,Bool.not_false,Bool.or_false,Bool.false_or,Bool.or_true,Bool.true_or,Bool.and_false,Bool.false_and,Bool.true_and,Bool.and_true,Bool.or_self,Bool.and_self,Bool.not_not,decide_true,decide_false,not_true_eq_false,not_false_eq_true,cond_true,cond_false])
   ·have p3:=h3; (try simp only [nfB] at p3);refine TL.off (Wt.not rfl rfl rfl h3) rfl rfl ?_;refine TL.off (Wt.not rfl rfl rfl h3) rfl rfl ?_;refine TL.off (Wt.not rfl rfl rfl h3) rfl rfl ?_;refine TL.y (Yv.av rfl rfl h3 rfl) ?_;refine TL.run 8 rfl ?_;refine TL.ns (T.ret ?_);refine K.ah rfl rfl (fun w' hw=>⟨?_,hw.isBelow⟩);exact zah (by simp only [Pr.ok, *,Bool.not_true,Bool.not_false,Bool.or_false,Bool.false_or,Bool.or_true,Bool.true_or,Bool.and_false,Bool.false_and,Bool.true_and,Bool.and_true,Bool.or_self,Bool.and_self,Bool.not_not,decide_true,decide_false,not_true_eq_false,not_false_eq_true,cond_true,cond_false])
  ·have p2:=h2; (try simp only [nfB] at p2);refine TL.off (Wt.not rfl rfl rfl h2) rfl rfl ?_;refine TL.off (Wt.not rfl rfl rfl h2) rfl rfl ?_;refine TL.off (Wt.not rfl rfl rfl h2) rfl rfl ?_;refine TL.off (Wt.not rfl rfl rfl h2) rfl rfl ?_;refine TL.off (Wt.not rfl rfl rfl h2) rfl rfl ?_;refine TL.y (Yv.av rfl rfl h2 rfl) ?_;refine TL.run 13 rfl ?_;refine TL.ns (T.ret ?_);refine K.ah rfl rfl (fun w' hw=>⟨?_,hw.isBelow⟩);exact zah (by simp only [Pr.ok, *,Bool.not_true,Bool.not_false,Bool.or_false,Bool.false_or,Bool.or_true,Bool.true_or,Bool.and_false,Bool.false_and,Bool.true_and,Bool.and_true,Bool.or_self,Bool.and_self,Bool.not_not,decide_true,decide_false,not_true_eq_false,not_false_eq_true,cond_true,cond_false])
 ·have p1:=h1; (try simp only [nfB] at p1);refine TL.off (Wt.not rfl rfl rfl h1) rfl rfl ?_;refine TL.off (Wt.not rfl rfl rfl h1) rfl rfl ?_;refine TL.off (Wt.not rfl rfl rfl h1) rfl rfl ?_;refine TL.y (Yv.av rfl rfl h1 rfl) ?_;refine TL.run 20 rfl ?_;refine TL.ns (T.ret ?_);refine K.ah rfl rfl (fun w' hw=>⟨?_,hw.isBelow⟩);exact zah (by simp only [Pr.ok, *,Bool.not_true,Bool.not_false,Bool.or_false,Bool.false_or,Bool.or_true,Bool.true_or,Bool.and_false,Bool.false_and,Bool.true_and,Bool.and_true,Bool.or_self,Bool.and_self,Bool.not_not,decide_true,decide_false,not_true_eq_false,not_false_eq_true,cond_true,cond_false])
theorem zeY (x y:Pr)(w:World):Calls Tryz.prog 111 #[.agg (Pr.cells x).toArray, .agg (Pr.cells y).toArray] w fun e w'=>e= .returned (.int .i64 (x.cmp y))∧Below w.heap.size w w':=by
 refine zac (M:=fun _=>False) (hs:=[]) Tryz.func111 rfl rfl rfl (Hp.refl _ _) ?_;simp only [Pr.cells];refine T.sr ?_; (refine TL.ew (Wt.none rfl) rfl rfl (Ew.aA rfl rfl) ?_;rintro _ _ ⟨g2,rfl,rfl⟩); (refine TL.ew (Wt.none rfl) rfl rfl (Ew.aA rfl rfl) ?_;rintro _ _ ⟨g3,rfl,rfl⟩);refine TL.run 1 rfl ?_;refine TL.ns (T.seq ?_);refine T.as (.still 0 (.still 1 (.still 2 (.still 3 (.still 5 (.still 6 (.still 7 (.still 8 (.still 10 (.still 11 (.still 12 (.still 13 (.still 15 (.still 16 (.still 17 (.still 18 (.still 20 (.still 21 (.still 22 (.still 23 (.eff 4 (.eff 9 (.eff 14 (.eff 19 (.eff 24 (.eff 25 (.eff 26 (.still 27 .done)))))))))))))))))))))))))))) _ (by kernel_rfl) (List.Sublist.refl _) ?_;refine TS.y rfl (Yv.fieldAddr rfl rfl) ?_;refine TS.y rfl (Yv.ac 1 rfl rfl rfl rfl) ?_;refine TS.y rfl (Yv.fieldAddr rfl rfl) ?_;refine TS.y rfl (Yv.ac 0 rfl rfl rfl rfl) ?_;refine TS.y rfl (Yv.fieldAddr rfl rfl) ?_;refine TS.y rfl (Yv.ac 1 rfl rfl rfl rfl) ?_;refine TS.y rfl (Yv.fieldAddr rfl rfl) ?_;refine TS.y rfl (Yv.ac 0 rfl rfl rfl rfl) ?_;refine TS.y rfl (Yv.fieldAddr rfl rfl) ?_;refine TS.y rfl (Yv.ac 1 rfl rfl rfl rfl) ?_;refine TS.y rfl (Yv.fieldAddr rfl rfl) ?_;refine TS.y rfl (Yv.ac 0 rfl rfl rfl rfl) ?_;refine TS.y rfl (Yv.fieldAddr rfl rfl) ?_;refine TS.y rfl (Yv.ac 1 rfl rfl rfl rfl) ?_;refine TS.y rfl (Yv.fieldAddr rfl rfl) ?_;refine TS.y rfl (Yv.ac 0 rfl rfl rfl rfl) ?_;refine TS.y rfl (Yv.fieldAddr rfl rfl) ?_;refine TS.y rfl (Yv.ac 1 rfl rfl rfl rfl) ?_;refine TS.y rfl (Yv.fieldAddr rfl rfl) ?_;refine TS.y rfl (Yv.ac 0 rfl rfl rfl rfl) ?_;refine TS.eff ?_; (refine TSo.ew rfl (Wt.none rfl) rfl rfl (Ew.af rfl rfl rfl (fun w hw=>zaM _ _ _)) ?_;rintro _ _ ⟨rfl,rfl⟩;refine ⟨Sx,?_⟩);refine TS.eff ?_; (refine TSo.ew rfl (Wt.none rfl) rfl rfl (Ew.af rfl rfl rfl (fun w hw=>zaM _ _ _)) ?_;rintro _ _ ⟨rfl,rfl⟩;refine ⟨Sx,?_⟩);refine TS.eff ?_; (refine TSo.ew rfl (Wt.none rfl) rfl rfl (Ew.af rfl rfl rfl (fun w hw=>zaM _ _ _)) ?_;rintro _ _ ⟨rfl,rfl⟩;refine ⟨Sx,?_⟩);refine TS.eff ?_; (refine TSo.ew rfl (Wt.none rfl) rfl rfl (Ew.af rfl rfl rfl (fun w hw=>zaM _ _ _)) ?_;rintro _ _ ⟨rfl,rfl⟩;refine ⟨Sx,?_⟩);refine TS.eff ?_; (refine TSo.ew rfl (Wt.none rfl) rfl rfl (Ew.af rfl rfl rfl (fun w hw=>zaM _ _ _)) ?_;rintro _ _ ⟨rfl,rfl⟩;refine ⟨Sx,?_⟩);refine TS.eff ?_; (refine TSo.ew rfl (Wt.none rfl) rfl rfl (Ew.buildSlice rfl rfl rfl (by decide)) ?_;rintro _ _ ⟨g30,rfl,rfl⟩;refine ⟨Sx,?_⟩);refine TS.eff ?_; (refine TSo.ew rfl (Wt.none rfl) rfl rfl (Ew.af rfl rfl rfl (fun w hw=>zks [cmpI x.a y.a,cmpI x.b y.b,cmpI x.off y.off,cmpI x.lo y.lo,cmpI x.hi y.hi] _ w (SlOf.lit (enc:=Ie) (size:=1) (fun _=>rfl) _ (Ent.row_ok.1 (hw.get (i:=0) rfl)) rfl rfl) (by simp))) ?_;rintro _ _ ⟨rfl,rfl⟩;refine ⟨Sx,?_⟩);refine TS.run 1 rfl ?_;refine TS.done ?_;refine K.seq (T.ret ?_);refine K.ah rfl rfl (fun w' hw=>⟨?_,hw.isBelow⟩)
 rfl
theorem zhG (x:Ld)(w:World):Calls Tryz.prog 112 #[.agg (Ld.cells x).toArray] w fun e w'=>e= .returned (.bool x.ok)∧Below w.heap.size w w':=by
 refine zac (M:=fun _=>False) (hs:=[]) Tryz.func112 rfl rfl rfl (Hp.refl _ _) ?_;simp only [Ld.cells];refine T.sr ?_; (refine TL.ew (Wt.none rfl) rfl rfl (Ew.aA rfl rfl) ?_;rintro _ _ ⟨g1,rfl,rfl⟩);refine TL.run 1 rfl ?_;refine TL.nx ?_;refine TL.y (Yv.fieldAddr rfl rfl) ?_;refine TL.y (Yv.ac 0 rfl rfl rfl rfl) ?_; (refine TL.ew (Wt.none rfl) rfl rfl (Ew.af rfl rfl rfl (fun w hw=>zbW _ _)) ?_;rintro _ _ ⟨rfl,rfl⟩);refine TL.run 1 rfl ?_;refine TL.aq rfl rfl rfl (fun h1=>?_) (fun h1=>?_)
 ·have p1:=h1; (try simp only [nfB] at p1);refine TL.yv (Wt.some rfl rfl rfl h1) rfl rfl (Yv.fieldAddr rfl rfl) ?_;refine TL.yv (Wt.some rfl rfl rfl h1) rfl rfl (Yv.ac 0 rfl rfl rfl rfl) ?_; (refine TL.ew (Wt.some rfl rfl rfl h1) rfl rfl (Ew.af rfl rfl rfl (fun w hw=>zbW _ _)) ?_;rintro _ _ ⟨rfl,rfl⟩);refine TL.y (Yv.au rfl rfl h1 rfl) ?_;refine TL.run 1 rfl ?_;refine TL.aq rfl rfl rfl (fun h2=>?_) (fun h2=>?_)
  ·have p2:=h2; (try simp only [nfB] at p2);refine TL.yv (Wt.some rfl rfl rfl h2) rfl rfl (Yv.fieldAddr rfl rfl) ?_;refine TL.yv (Wt.some rfl rfl rfl h2) rfl rfl (Yv.ac 0 rfl rfl rfl rfl) ?_;refine TL.yv (Wt.some rfl rfl rfl h2) rfl rfl (Yv.fieldAddr rfl rfl) ?_;refine TL.yv (Wt.some rfl rfl rfl h2) rfl rfl (Yv.ac 0 rfl rfl rfl rfl) ?_;refine TL.yv (Wt.some rfl rfl rfl h2) rfl rfl (Yv.aB rfl) ?_;refine TL.y (Yv.au rfl rfl h2 rfl) ?_;refine TL.run 1 rfl ?_;refine TL.aq rfl rfl rfl (fun h3=>?_) (fun h3=>?_)
   ·have p3:=h3; (try simp only [nfB] at p3);refine TL.yv (Wt.some rfl rfl rfl h3) rfl rfl (Yv.fieldAddr rfl rfl) ?_;refine TL.yv (Wt.some rfl rfl rfl h3) rfl rfl (Yv.ac 0 rfl rfl rfl rfl) ?_; (refine TL.ew (Wt.some rfl rfl rfl h3) rfl rfl (Ew.af rfl rfl rfl (fun w hw=>zcV _ _ _ _)) ?_;rintro _ _ ⟨rfl,rfl⟩);refine TL.y (Yv.au rfl rfl h3 rfl) ?_;refine TL.run 1 rfl ?_;refine TL.aq rfl rfl rfl (fun h4=>?_) (fun h4=>?_)
    ·have p4:=h4; (try simp only [nfB] at p4);refine TL.yv (Wt.some rfl rfl rfl h4) rfl rfl (Yv.fieldAddr rfl rfl) ?_;refine TL.yv (Wt.some rfl rfl rfl h4) rfl rfl (Yv.ac 0 rfl rfl rfl rfl) ?_;refine TL.yv (Wt.some rfl rfl rfl h4) rfl rfl (Yv.fieldAddr rfl rfl) ?_;refine TL.yv (Wt.some rfl rfl rfl h4) rfl rfl (Yv.ac 0 rfl rfl rfl rfl) ?_; (refine TL.ew (Wt.some rfl rfl rfl h4) rfl rfl (Ew.af rfl rfl rfl (fun w hw=>zdW _ _ _)) ?_;rintro _ _ ⟨rfl,rfl⟩);refine TL.y (Yv.au rfl rfl h4 rfl) ?_;refine TL.run 1 rfl ?_;refine TL.ns (T.ret ?_);refine K.ah rfl rfl (fun w' hw=>⟨?_,hw.isBelow⟩);exact zah (by simp only [Ld.ok, *,Bool.not_true,Bool.not_false,Bool.or_false,Bool.false_or,Bool.or_true,Bool.true_or,Bool.and_false,Bool.false_and,Bool.true_and,Bool.and_true,Bool.or_self,Bool.and_self,Bool.not_not,decide_true,decide_false,not_true_eq_false,not_false_eq_true,cond_true,cond_false])
    ·have p4:=h4; (try simp only [nfB] at p4);refine TL.off (Wt.not rfl rfl rfl h4) rfl rfl ?_;refine TL.off (Wt.not rfl rfl rfl h4) rfl rfl ?_;refine TL.off (Wt.not rfl rfl rfl h4) rfl rfl ?_;refine TL.off (Wt.not rfl rfl rfl h4) rfl rfl ?_;refine TL.off (Wt.not rfl rfl rfl h4) rfl rfl ?_;refine TL.y (Yv.av rfl rfl h4 rfl) ?_;refine TL.run 1 rfl ?_;refine TL.ns (T.ret ?_);refine K.ah rfl rfl (fun w' hw=>⟨?_,hw.isBelow⟩);exact zah (by simp only [Ld.ok, *,Bool.not_true,Bool.not_false,Bool.or_false,Bool.false_or,Bool.or_true,Bool.true_or,Bool.and_false,Bool.false_and,Bool.true_and,Bool.and_true,Bool.or_self,Bool.and_self,Bool.not_not,decide_true,decide_false,not_true_eq_false,not_false_eq_true,cond_true,cond_false])
   ·have p3:=h3; (try simp only [nfB] at p3);refine TL.off (Wt.not rfl rfl rfl h3) rfl rfl ?_;refine TL.off (Wt.not rfl rfl rfl h3) rfl rfl ?_;refine TL.off (Wt.not rfl rfl rfl h3) rfl rfl ?_;refine TL.y (Yv.av rfl rfl h3 rfl) ?_;refine TL.run 8 rfl ?_;refine TL.ns (T.ret ?_);refine K.ah rfl rfl (fun w' hw=>⟨?_,hw.isBelow⟩);exact zah (by simp only [Ld.ok, *,Bool.not_true,Bool.not_false,Bool.or_false,Bool.false_or,Bool.or_true,Bool.true_or,Bool.and_false,Bool.false_and,Bool.true_and,Bool.and_true,Bool.or_self,Bool.and_self,Bool.not_not,decide_true,decide_false,not_true_eq_false,not_false_eq_true,cond_true,cond_false])
  ·have p2:=h2; (try simp only [nfB] at p2);refine TL.off (Wt.not rfl rfl rfl h2) rfl rfl ?_;refine TL.off (Wt.not rfl rfl rfl h2) rfl rfl ?_;refine TL.off (Wt.not rfl rfl rfl h2) rfl rfl ?_;refine TL.off (Wt.not rfl rfl rfl h2) rfl rfl ?_;refine TL.off (Wt.not rfl rfl rfl h2) rfl rfl ?_;refine TL.y (Yv.av rfl rfl h2 rfl) ?_;refine TL.run 13 rfl ?_;refine TL.ns (T.ret ?_);refine K.ah rfl rfl (fun w' hw=>⟨?_,hw.isBelow⟩);exact zah (by simp only [Ld.ok, *,Bool.not_true,Bool.not_false,Bool.or_false,Bool.false_or,Bool.or_true,Bool.true_or,Bool.and_false,Bool.false_and,Bool.true_and,Bool.and_true,Bool.or_self,Bool.and_self,Bool.not_not,decide_true,decide_false,not_true_eq_false,not_false_eq_true,cond_true,cond_false])
 ·have p1:=h1; (try simp only [nfB] at p1);refine TL.off (Wt.not rfl rfl rfl h1) rfl rfl ?_;refine TL.off (Wt.not rfl rfl rfl h1) rfl rfl ?_;refine TL.off (Wt.not rfl rfl rfl h1) rfl rfl ?_;refine TL.y (Yv.av rfl rfl h1 rfl) ?_;refine TL.run 20 rfl ?_;refine TL.ns (T.ret ?_);refine K.ah rfl rfl (fun w' hw=>⟨?_,hw.isBelow⟩);exact zah (by simp only [Ld.ok, *,Bool.not_true,Bool.not_false,Bool.or_false,Bool.false_or,Bool.or_true,Bool.true_or,Bool.and_false,Bool.false_and,Bool.true_and,Bool.and_true,Bool.or_self,Bool.and_self,Bool.not_not,decide_true,decide_false,not_true_eq_false,not_false_eq_true,cond_true,cond_false])
theorem zeV (x y:Ld)(w:World):Calls Tryz.prog 114 #[.agg (Ld.cells x).toArray, .agg (Ld.cells y).toArray] w fun e w'=>e= .returned (.int .i64 (x.cmp y))∧Below w.heap.size w w':=by
 refine zac (M:=fun _=>False) (hs:=[]) Tryz.func114 rfl rfl rfl (Hp.refl _ _) ?_;simp only [Ld.cells];refine T.sr ?_; (refine TL.ew (Wt.none rfl) rfl rfl (Ew.aA rfl rfl) ?_;rintro _ _ ⟨g2,rfl,rfl⟩); (refine TL.ew (Wt.none rfl) rfl rfl (Ew.aA rfl rfl) ?_;rintro _ _ ⟨g3,rfl,rfl⟩);refine TL.run 1 rfl ?_;refine TL.ns (T.seq ?_);refine T.as (.still 0 (.still 1 (.still 2 (.still 3 (.still 5 (.still 6 (.still 7 (.still 8 (.still 10 (.still 11 (.still 12 (.still 13 (.still 15 (.still 16 (.still 17 (.still 18 (.still 20 (.still 21 (.still 22 (.still 23 (.eff 4 (.eff 9 (.eff 14 (.eff 19 (.eff 24 (.eff 25 (.eff 26 (.still 27 .done)))))))))))))))))))))))))))) _ (by kernel_rfl) (List.Sublist.refl _) ?_;refine TS.y rfl (Yv.fieldAddr rfl rfl) ?_;refine TS.y rfl (Yv.ac 1 rfl rfl rfl rfl) ?_;refine TS.y rfl (Yv.fieldAddr rfl rfl) ?_;refine TS.y rfl (Yv.ac 0 rfl rfl rfl rfl) ?_;refine TS.y rfl (Yv.fieldAddr rfl rfl) ?_;refine TS.y rfl (Yv.ac 1 rfl rfl rfl rfl) ?_;refine TS.y rfl (Yv.fieldAddr rfl rfl) ?_;refine TS.y rfl (Yv.ac 0 rfl rfl rfl rfl) ?_;refine TS.y rfl (Yv.fieldAddr rfl rfl) ?_;refine TS.y rfl (Yv.ac 1 rfl rfl rfl rfl) ?_;refine TS.y rfl (Yv.fieldAddr rfl rfl) ?_;refine TS.y rfl (Yv.ac 0 rfl rfl rfl rfl) ?_;refine TS.y rfl (Yv.fieldAddr rfl rfl) ?_;refine TS.y rfl (Yv.ac 1 rfl rfl rfl rfl) ?_;refine TS.y rfl (Yv.fieldAddr rfl rfl) ?_;refine TS.y rfl (Yv.ac 0 rfl rfl rfl rfl) ?_;refine TS.y rfl (Yv.fieldAddr rfl rfl) ?_;refine TS.y rfl (Yv.ac 1 rfl rfl rfl rfl) ?_;refine TS.y rfl (Yv.fieldAddr rfl rfl) ?_;refine TS.y rfl (Yv.ac 0 rfl rfl rfl rfl) ?_;refine TS.eff ?_; (refine TSo.ew rfl (Wt.none rfl) rfl rfl (Ew.af rfl rfl rfl (fun w hw=>zaM _ _ _)) ?_;rintro _ _ ⟨rfl,rfl⟩;refine ⟨Sx,?_⟩);refine TS.eff ?_; (refine TSo.ew rfl (Wt.none rfl) rfl rfl (Ew.af rfl rfl rfl (fun w hw=>zaM _ _ _)) ?_;rintro _ _ ⟨rfl,rfl⟩;refine ⟨Sx,?_⟩);refine TS.eff ?_; (refine TSo.ew rfl (Wt.none rfl) rfl rfl (Ew.af rfl rfl rfl (fun w hw=>zaM _ _ _)) ?_;rintro _ _ ⟨rfl,rfl⟩;refine ⟨Sx,?_⟩);refine TS.eff ?_; (refine TSo.ew rfl (Wt.none rfl) rfl rfl (Ew.af rfl rfl rfl (fun w hw=>zaM _ _ _)) ?_;rintro _ _ ⟨rfl,rfl⟩;refine ⟨Sx,?_⟩);refine TS.eff ?_; (refine TSo.ew rfl (Wt.none rfl) rfl rfl (Ew.af rfl rfl rfl (fun w hw=>zaM _ _ _)) ?_;rintro _ _ ⟨rfl,rfl⟩;refine ⟨Sx,?_⟩);refine TS.eff ?_; (refine TSo.ew rfl (Wt.none rfl) rfl rfl (Ew.buildSlice rfl rfl rfl (by decide)) ?_;rintro _ _ ⟨g30,rfl,rfl⟩;refine ⟨Sx,?_⟩);refine TS.eff ?_; (refine TSo.ew rfl (Wt.none rfl) rfl rfl (Ew.af rfl rfl rfl (fun w hw=>zks [cmpI x.to y.to,cmpI x.fr y.fr,cmpI x.wt y.wt,cmpI x.lo y.lo,cmpI x.hi y.hi] _ w (SlOf.lit (enc:=Ie) (size:=1) (fun _=>rfl) _ (Ent.row_ok.1 (hw.get (i:=0) rfl)) rfl rfl) (by simp))) ?_;rintro _ _ ⟨rfl,rfl⟩;refine ⟨Sx,?_⟩);refine TS.run 1 rfl ?_;refine TS.done ?_;refine K.seq (T.ret ?_);refine K.ah rfl rfl (fun w' hw=>⟨?_,hw.isBelow⟩)
 rfl
theorem zh1 (x:Cp)(w:World):Calls Tryz.prog 115 #[.agg (Cp.cells x).toArray] w fun e w'=>e= .returned (.bool x.ok)∧Below w.heap.size w w':=by
 refine zac (M:=fun _=>False) (hs:=[]) Tryz.func115 rfl rfl rfl (Hp.refl _ _) ?_;simp only [Cp.cells];refine T.sr ?_; (refine TL.ew (Wt.none rfl) rfl rfl (Ew.aA rfl rfl) ?_;rintro _ _ ⟨g1,rfl,rfl⟩);refine TL.run 1 rfl ?_;refine TL.nx ?_;refine TL.y (Yv.fieldAddr rfl rfl) ?_;refine TL.y (Yv.ac 0 rfl rfl rfl rfl) ?_; (refine TL.ew (Wt.none rfl) rfl rfl (Ew.af rfl rfl rfl (fun w hw=>zbW _ _)) ?_;rintro _ _ ⟨rfl,rfl⟩);refine TL.run 1 rfl ?_;refine TL.aq rfl rfl rfl (fun h1=>?_) (fun h1=>?_)
 ·have p1:=h1; (try simp only [nfB] at p1);refine TL.yv (Wt.some rfl rfl rfl h1) rfl rfl (Yv.fieldAddr rfl rfl) ?_;refine TL.yv (Wt.some rfl rfl rfl h1) rfl rfl (Yv.ac 0 rfl rfl rfl rfl) ?_; (refine TL.ew (Wt.some rfl rfl rfl h1) rfl rfl (Ew.af rfl rfl rfl (fun w hw=>zcV _ _ _ _)) ?_;rintro _ _ ⟨rfl,rfl⟩);refine TL.y (Yv.au rfl rfl h1 rfl) ?_;refine TL.run 1 rfl ?_;refine TL.aq rfl rfl rfl (fun h2=>?_) (fun h2=>?_)
  ·have p2:=h2; (try simp only [nfB] at p2);refine TL.yv (Wt.some rfl rfl rfl h2) rfl rfl (Yv.fieldAddr rfl rfl) ?_;refine TL.yv (Wt.some rfl rfl rfl h2) rfl rfl (Yv.ac 0 rfl rfl rfl rfl) ?_;refine TL.yv (Wt.some rfl rfl rfl h2) rfl rfl (Yv.fieldAddr rfl rfl) ?_;refine TL.yv (Wt.some rfl rfl rfl h2) rfl rfl (Yv.ac 0 rfl rfl rfl rfl) ?_; (refine TL.ew (Wt.some rfl rfl rfl h2) rfl rfl (Ew.af rfl rfl rfl (fun w hw=>zdW _ _ _)) ?_;rintro _ _ ⟨rfl,rfl⟩);refine TL.y (Yv.au rfl rfl h2 rfl) ?_;refine TL.run 1 rfl ?_;refine TL.ns (T.ret ?_);refine K.ah rfl rfl (fun w' hw=>⟨?_,hw.isBelow⟩);exact zah (by simp only [Cp.ok, *,Bool.not_true,Bool.not_false,Bool.or_false,Bool.false_or,Bool.or_true,Bool.true_or,Bool.and_false,Bool.false_and,Bool.true_and,Bool.and_true,Bool.or_self,Bool.and_self,Bool.not_not,decide_true,decide_false,not_true_eq_false,not_false_eq_true,cond_true,cond_false])
  ·have p2:=h2; (try simp only [nfB] at p2);refine TL.off (Wt.not rfl rfl rfl h2) rfl rfl ?_;refine TL.off (Wt.not rfl rfl rfl h2) rfl rfl ?_;refine TL.off (Wt.not rfl rfl rfl h2) rfl rfl ?_;refine TL.off (Wt.not rfl rfl rfl h2) rfl rfl ?_;refine TL.off (Wt.not rfl rfl rfl h2) rfl rfl ?_;refine TL.y (Yv.av rfl rfl h2 rfl) ?_;refine TL.run 1 rfl ?_;refine TL.ns (T.ret ?_);refine K.ah rfl rfl (fun w' hw=>⟨?_,hw.isBelow⟩);exact zah (by simp only [Cp.ok, *,Bool.not_true,Bool.not_false,Bool.or_false,Bool.false_or,Bool.or_true,Bool.true_or,Bool.and_false,Bool.false_and,Bool.true_and,Bool.and_true,Bool.or_self,Bool.and_self,Bool.not_not,decide_true,decide_false,not_true_eq_false,not_false_eq_true,cond_true,cond_false])
 ·have p1:=h1; (try simp only [nfB] at p1);refine TL.off (Wt.not rfl rfl rfl h1) rfl rfl ?_;refine TL.off (Wt.not rfl rfl rfl h1) rfl rfl ?_;refine TL.off (Wt.not rfl rfl rfl h1) rfl rfl ?_;refine TL.y (Yv.av rfl rfl h1 rfl) ?_;refine TL.run 8 rfl ?_;refine TL.ns (T.ret ?_);refine K.ah rfl rfl (fun w' hw=>⟨?_,hw.isBelow⟩);exact zah (by simp only [Cp.ok, *,Bool.not_true,Bool.not_false,Bool.or_false,Bool.false_or,Bool.or_true,Bool.true_or,Bool.and_false,Bool.false_and,Bool.true_and,Bool.and_true,Bool.or_self,Bool.and_self,Bool.not_not,decide_true,decide_false,not_true_eq_false,not_false_eq_true,cond_true,cond_false])
theorem zfG (x y:Cp)(w:World):Calls Tryz.prog 117 #[.agg (Cp.cells x).toArray, .agg (Cp.cells y).toArray] w fun e w'=>e= .returned (.int .i64 (x.cmp y))∧Below w.heap.size w w':=by
 refine zac (M:=fun _=>False) (hs:=[]) Tryz.func117 rfl rfl rfl (Hp.refl _ _) ?_;simp only [Cp.cells];refine T.sr ?_; (refine TL.ew (Wt.none rfl) rfl rfl (Ew.aA rfl rfl) ?_;rintro _ _ ⟨g2,rfl,rfl⟩); (refine TL.ew (Wt.none rfl) rfl rfl (Ew.aA rfl rfl) ?_;rintro _ _ ⟨g3,rfl,rfl⟩);refine TL.run 1 rfl ?_;refine TL.ns (T.seq ?_);refine T.as (.still 0 (.still 1 (.still 2 (.still 3 (.still 5 (.still 6 (.still 7 (.still 8 (.still 10 (.still 11 (.still 12 (.still 13 (.still 15 (.still 16 (.still 17 (.still 18 (.eff 4 (.eff 9 (.eff 14 (.eff 19 (.eff 20 (.eff 21 (.still 22 .done))))))))))))))))))))))) _ (by kernel_rfl) (List.Sublist.refl _) ?_;refine TS.y rfl (Yv.fieldAddr rfl rfl) ?_;refine TS.y rfl (Yv.ac 1 rfl rfl rfl rfl) ?_;refine TS.y rfl (Yv.fieldAddr rfl rfl) ?_;refine TS.y rfl (Yv.ac 0 rfl rfl rfl rfl) ?_;refine TS.y rfl (Yv.fieldAddr rfl rfl) ?_;refine TS.y rfl (Yv.ac 1 rfl rfl rfl rfl) ?_;refine TS.y rfl (Yv.fieldAddr rfl rfl) ?_;refine TS.y rfl (Yv.ac 0 rfl rfl rfl rfl) ?_;refine TS.y rfl (Yv.fieldAddr rfl rfl) ?_;refine TS.y rfl (Yv.ac 1 rfl rfl rfl rfl) ?_;refine TS.y rfl (Yv.fieldAddr rfl rfl) ?_;refine TS.y rfl (Yv.ac 0 rfl rfl rfl rfl) ?_;refine TS.y rfl (Yv.fieldAddr rfl rfl) ?_;refine TS.y rfl (Yv.ac 1 rfl rfl rfl rfl) ?_;refine TS.y rfl (Yv.fieldAddr rfl rfl) ?_;refine TS.y rfl (Yv.ac 0 rfl rfl rfl rfl) ?_;refine TS.eff ?_; (refine TSo.ew rfl (Wt.none rfl) rfl rfl (Ew.af rfl rfl rfl (fun w hw=>zaM _ _ _)) ?_;rintro _ _ ⟨rfl,rfl⟩;refine ⟨Sx,?_⟩);refine TS.eff ?_; (refine TSo.ew rfl (Wt.none rfl) rfl rfl (Ew.af rfl rfl rfl (fun w hw=>zaM _ _ _)) ?_;rintro _ _ ⟨rfl,rfl⟩;refine ⟨Sx,?_⟩);refine TS.eff ?_; (refine TSo.ew rfl (Wt.none rfl) rfl rfl (Ew.af rfl rfl rfl (fun w hw=>zaM _ _ _)) ?_;rintro _ _ ⟨rfl,rfl⟩;refine ⟨Sx,?_⟩);refine TS.eff ?_; (refine TSo.ew rfl (Wt.none rfl) rfl rfl (Ew.af rfl rfl rfl (fun w hw=>zaM _ _ _)) ?_;rintro _ _ ⟨rfl,rfl⟩;refine ⟨Sx,?_⟩);refine TS.eff ?_; (refine TSo.ew rfl (Wt.none rfl) rfl rfl (Ew.buildSlice rfl rfl rfl (by decide)) ?_;rintro _ _ ⟨g25,rfl,rfl⟩;refine ⟨Sx,?_⟩);refine TS.eff ?_; (refine TSo.ew rfl (Wt.none rfl) rfl rfl (Ew.af rfl rfl rfl (fun w hw=>zks [cmpI x.st y.st,cmpI x.mx y.mx,cmpI x.lo y.lo,cmpI x.hi y.hi] _ w (SlOf.lit (enc:=Ie) (size:=1) (fun _=>rfl) _ (Ent.row_ok.1 (hw.get (i:=0) rfl)) rfl rfl) (by simp))) ?_;rintro _ _ ⟨rfl,rfl⟩;refine ⟨Sx,?_⟩);refine TS.run 1 rfl ?_;refine TS.done ?_;refine K.seq (T.ret ?_);refine K.ah rfl rfl (fun w' hw=>⟨?_,hw.isBelow⟩)
 rfl
end Go.Proofs.YtbpbhbkcahcdiaaGreatDoor
