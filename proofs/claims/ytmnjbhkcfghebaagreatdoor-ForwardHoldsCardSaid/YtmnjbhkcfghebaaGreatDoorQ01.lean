/- H T0 Ta Tb Tc Td Te Tf Tg Th Tj Tk: shortened and put together by squeeze.py. -/
import Derived.Test.YtmnjbhkcfghebaaGreatDoorRows
import Derived.WalkKit
import Derived.ProofKit
import Derived.OpenShut
import Derived.Outline
import Derived.Handy
import Derived.Deep.QuietTactic
import Derived.Deep.LoopGhost
import Derived.BigQuiet
import Derived.Lib.Hide
import Derived.OrdersHeld
import Derived.OrdersIn
import Derived.RangeFuncLeaves
import Derived.RangeFuncRecord
import Derived.RangeFuncSeq
import Derived.RangeFuncCalls
import Derived.Sort.LoopGhostIn
import Derived.Laws.Sem
import Derived.Laws.World
import Derived.IntWalk
import Derived.Laws.OwnMore
import Derived.Maps.AppendAt
import Derived.Laws.Bits64
import Derived.Lib.TrailingZeros
import Derived.Scope
set_option maxRecDepth 100000
set_option maxHeartbeats 4000000
set_option linter.unusedVariables false
set_option linter.unusedSectionVars false
set_option linter.unusedSimpArgs false
namespace Go.Proofs.YtmnjbhkcfghebaaGreatDoor
theorem a7 {p:Prop}(h:p:=by omega):p:=h
theorem a8 {p:Prop}(h:p:=by decide):p:=h
theorem b0 {p:Prop}(h:p:=by kernel_rfl):p:=h
theorem b5 {p:Prop}(h:p:=by dsimp only;omega):p:=h
theorem b6 {p:Prop}(h:p:=by simp):p:=h
theorem b8 {p:Prop}(h:p:=by first|omega|simp):p:=h
theorem b9 {p:Prop}(h:p:=by rw [List.length_set];omega):p:=h
theorem cM {p:Prop}(h:p:=by simp;omega):p:=h
theorem cN {p:Prop}(h:p:=by rw [List.length_replicate];omega):p:=h
theorem cO {p:Prop}(h:p:=by rw [List.nil_append,←List.flatMap_def]):p:=h
theorem cP {p:Prop}(h:p:=by rw [List.length_take];omega):p:=h
theorem cQ {p:Prop}(h:p:=by assumption):p:=h
structure Zq(Q:Prop):Prop where
 h:Q
section
variable {P Q:Prop}(q:Q)
include q
theorem dy(a:Zq Q→P:=by intro zq;refine TL.run 1 rfl ?_;exact zq.h):P:=a ⟨q⟩
theorem q0b(a:Zq Q→P:=by intro zq;refine dK rfl (cT) rfl rfl (dL 0 (i:=j_6.toNat) rfl rfl rfl rfl a7 a7) (fun w hw=>hw.sub Sx) ?_;refine TS.eff ?_;refine dT rfl (cT) rfl (ez 0 (k':=(l_7.set j_6.toNat (nth l_7 ((wI (j_6 - 1)).toNat))).length) (l':=(l_7.set j_6.toNat (nth l_7 ((wI (j_6 - 1)).toNat))).flatMap eI) rfl rfl rfl rfl a7 (ik (enc:=eI) (xs:=l_7) (i:=j_6.toNat) (j:=0) (size:=1) (fun _=>rfl) a7 a8 b8) (ij (enc:=eI) (xs:=l_7) (i:=j_6.toNat) (j:=0) (size:=1) (x:=(nth l_7 ((wI (j_6 - 1)).toNat))) (fun _=>rfl) a7 a8 b8 rfl) (List.length_set ..)) ?_;rintro _ _ ⟨rfl,rfl⟩;refine ⟨(fun w hw=>hw.sub Sx),?_⟩;refine TS.eff ?_;refine dK rfl (cT) rfl rfl (dL 0 (i:=(wI (j_6 - 1)).toNat) (z:=wI (j_6 - 1)) rfl rfl rfl rfl a7 a7) (fun w hw=>hw.sub Sx) ?_;refine TS.eff ?_;refine dT rfl (cT) rfl (ez 0 (k':=((l_7.set j_6.toNat (nth l_7 ((wI (j_6 - 1)).toNat))).set ((wI (j_6 - 1)).toNat) (nth l_7 j_6.toNat)).length) (l':=((l_7.set j_6.toNat (nth l_7 ((wI (j_6 - 1)).toNat))).set ((wI (j_6 - 1)).toNat) (nth l_7 j_6.toNat)).flatMap eI) rfl rfl rfl rfl a7 (ik (enc:=eI) (xs:=(l_7.set j_6.toNat (nth l_7 ((wI (j_6 - 1)).toNat)))) (i:=(wI (j_6 - 1)).toNat) (j:=0) (size:=1) (fun _=>rfl) a7 a8 b8) (ij (enc:=eI) (xs:=(l_7.set j_6.toNat (nth l_7 ((wI (j_6 - 1)).toNat)))) (i:=(wI (j_6 - 1)).toNat) (j:=0) (size:=1) (x:=(nth l_7 j_6.toNat)) (fun _=>rfl) a7 a8 b8 rfl) (List.length_set ..)) ?_;rintro _ _ ⟨rfl,rfl⟩;exact zq.h):P:=a ⟨q⟩
theorem gC(a:Zq Q→P:=by intro zq;refine cS (Yv.fieldAddr rfl rfl) ?_;refine cS (di 0) ?_;exact zq.h):P:=a ⟨q⟩
theorem ek(a:Zq Q→P:=by intro zq;refine TL.run 2 rfl ?_;exact zq.h):P:=a ⟨q⟩
theorem ft(a:Zq Q→P:=by intro zq;dsimp only [List.cons_append,List.nil_append];exact zq.h):P:=a ⟨q⟩
theorem q0f(a:Zq Q→P:=by intro zq;refine dT rfl (cT) rfl (ez 0 (k':=(l_4.set i_6 (wI ((nth l_4 i_6)+(max ((wI ((nth l_4 i_6) *x0_.increment.Step)) / 100) 1)))).length) (l':=(l_4.set i_6 (wI ((nth l_4 i_6)+(max ((wI ((nth l_4 i_6) *x0_.increment.Step)) / 100) 1)))).flatMap eI) rfl rfl rfl rfl a7 (ik (enc:=eI) (xs:=l_4) (i:=i_6) (j:=0) (size:=1) (fun _=>rfl) a7 a8 a7) (ij (enc:=eI) (xs:=l_4) (i:=i_6) (j:=0) (size:=1) (x:=(wI ((nth l_4 i_6)+(max ((wI ((nth l_4 i_6) *x0_.increment.Step)) / 100) 1)))) (fun _=>rfl) a7 a8 a7 rfl) (List.length_set ..)) ?_;exact zq.h):P:=a ⟨q⟩
theorem jh(a:Zq Q→P:=by intro zq;refine cS (ka rfl rfl rfl a7) ?_;refine dy ?_;refine TL.nil ?_;exact zq.h):P:=a ⟨q⟩
theorem gA(a:Zq Q→P:=by intro zq;rintro _ _ ⟨rfl,rfl⟩;refine ⟨(fun w hw=>hw.sub Sx),?_⟩;exact zq.h):P:=a ⟨q⟩
theorem jf(a:Zq Q→P:=by intro zq;refine cU rfl (Yv.fieldAddr rfl rfl) ?_;exact zq.h):P:=a ⟨q⟩
theorem q0j(a:Zq Q→P:=by intro zq;refine dS (.still 0 (.still 1 (.still 2 (.still 3 (.still 4 (.still 5 (.still 6 (.still 7 (.eff 8 .done))))))))) [.fr F1, .row g15 300 ((nth blOrder i_22).1.map (Value.int .u8)), .row g8 299 (c_1.1.map (Value.int .u32)), .row g0_ 295 ([Value.bool x0_.made]++((x0_.state.1.map (Value.int .u32))++((x0_.block.1.map (Value.int .u8))++[Value.int .i64 x0_.fill,U x0_.before,Value.int .i64 x0_.written])))] b0 Sx ?_;exact zq.h):P:=a ⟨q⟩
theorem gn(a:Zq Q→P:=by intro zq;refine cS (Yv.fieldAddr rfl rfl) ?_;exact zq.h):P:=a ⟨q⟩
theorem q0l(a:Zq Q→P:=by intro zq;refine dK rfl (cT) rfl rfl (eg 0 rfl rfl rfl a7 (gK (enc:=eI) (i:=i_6) (j:=0) (fun _=>rfl) a7 a8)) (fun w hw=>hw.sub Sx) ?_;refine cU rfl (dh (v:= .int .i64 (wI ((nth l_4 i_6) *x0_.increment.Step)))) ?_;refine cU rfl (gc (a:=wI ((nth l_4 i_6) *x0_.increment.Step)) (b:=(100:Int)) rfl rfl rfl g37) ?_;refine cU rfl (Yv.max2 rfl rfl rfl) ?_;exact zq.h):P:=a ⟨q⟩
theorem eV(a:Zq Q→P:=by intro zq;refine dY ?_;refine dy ?_;exact zq.h):P:=a ⟨q⟩
theorem gg(a:Zq Q→P:=by intro zq;refine dM (fD 0) ?_;rintro _ _ ⟨rfl,rfl⟩;exact zq.h):P:=a ⟨q⟩
theorem q0o(a:Zq Q→P:=by intro zq;refine cX (dI [0,1] [.row g0_ 104 [v0_0,v0_1, .int .i64 x0_.increment.Activity, .int .i64 x0_.increment.Step,v0_4, .int .i64 x0_.rounds,v0_6]] [] rfl rfl rfl rfl a8 (fun w hw hw2 hF=>zaw _ w hF x0_ g0_ v0_0 h0_0 v0_1 c0_1 h0_1 v0_4 h0_4 v0_6 h0_6 hw2.takes.1 hw2.takes.2)) ?_;exact zq.h):P:=a ⟨q⟩
theorem q0p(a:Zq Q→P:=by intro zq;refine cU rfl (dh (v:= .int .i64 (wI ((nth l_4 i_6)+(max ((wI ((nth l_4 i_6) *x0_.increment.Step)) / 100) 1))))) ?_;refine TS.eff ?_;refine dK rfl (cT) rfl rfl (dL 0 (i:=i_6) rfl rfl rfl rfl rfl a7) (fun w hw=>hw.sub Sx) ?_;refine TS.eff ?_;refine q0f ?_;refine gA ?_;refine TS.done ?_;refine fA (K.seq (T.region ?_));refine jh ?_;exact zq.h):P:=a ⟨q⟩
theorem j1(a:Zq Q→P:=by intro zq;refine T.skip (K.seq (T.seq (T.block (dY ?_))));exact zq.h):P:=a ⟨q⟩
theorem eN(a:Zq Q→P:=by intro zq;refine T.exit (iO (iO (j9 ?_)));exact zq.h):P:=a ⟨q⟩
theorem dZ(a:Zq Q→P:=by intro zq;refine dy ?_;refine dz ?_;exact zq.h):P:=a ⟨q⟩
theorem ee(a:Zq Q→P:=by intro zq;rintro _ _ ⟨rfl,rfl⟩;exact zq.h):P:=a ⟨q⟩
theorem iy(a:Zq Q→P:=by intro zq;refine jf ?_;refine cU rfl (di 0) ?_;exact zq.h):P:=a ⟨q⟩
theorem je(a:Zq Q→P:=by intro zq;refine dz (T.seq (dY ?_));exact zq.h):P:=a ⟨q⟩
theorem q0w(a:Zq Q→P:=by intro zq;refine cU rfl (Yv.xorK (a:=(Vec.get (Vec.put u6 c.toNat (IntKind.u32.wrap ((Vec.get u6 c.toNat)+(Vec.get u6 d.toNat)))) b.toNat)) (b:=(Vec.get (Vec.put u6 c.toNat (IntKind.u32.wrap ((Vec.get u6 c.toNat)+(Vec.get u6 d.toNat)))) c.toNat))) ?_;refine TS.eff ?_;refine dc rfl (cT) rfl rfl (de rfl rfl rfl (fun w hw=>zbc _ w (hw.fr (i:=1) rfl) (xorK .u32 (Vec.get (Vec.put u6 c.toNat (IntKind.u32.wrap ((Vec.get u6 c.toNat)+(Vec.get u6 d.toNat)))) b.toNat) (Vec.get (Vec.put u6 c.toNat (IntKind.u32.wrap ((Vec.get u6 c.toNat)+(Vec.get u6 d.toNat)))) c.toNat)) (-7))) ?_;refine gA ?_;refine cU rfl (dA (i:=b.toNat) rfl rfl rfl a7 a7) ?_;refine TS.eff ?_;refine dT rfl (cT) rfl (eM 0 ((Vec.put (Vec.put u6 c.toNat (IntKind.u32.wrap ((Vec.get u6 c.toNat)+(Vec.get u6 d.toNat)))) b.toNat (jj (xorK .u32 (Vec.get (Vec.put u6 c.toNat (IntKind.u32.wrap ((Vec.get u6 c.toNat)+(Vec.get u6 d.toNat)))) b.toNat) (Vec.get (Vec.put u6 c.toNat (IntKind.u32.wrap ((Vec.get u6 c.toNat)+(Vec.get u6 d.toNat)))) c.toNat)) (-7))).1.map (Value.int .u32)) rfl rfl rfl rfl (by rw [Vec.len];first|omega|(simp only [List.length_cons,List.length_nil];omega)) (iU a7 (Vec.upd (x:=(Vec.put u6 c.toNat (IntKind.u32.wrap ((Vec.get u6 c.toNat)+(Vec.get u6 d.toNat))))) (f:=(Value.int .u32)) (i:=b.toNat) (v:=(jj (xorK .u32 (Vec.get (Vec.put u6 c.toNat (IntKind.u32.wrap ((Vec.get u6 c.toNat)+(Vec.get u6 d.toNat)))) b.toNat) (Vec.get (Vec.put u6 c.toNat (IntKind.u32.wrap ((Vec.get u6 c.toNat)+(Vec.get u6 d.toNat)))) c.toNat)) (-7))) a7))) ?_;refine gA ?_;refine TS.done ?_;exact zq.h):P:=a ⟨q⟩
theorem fi(a:Zq Q→P:=by intro zq;refine dz (T.seq ?_);exact zq.h):P:=a ⟨q⟩
theorem ef(a:Zq Q→P:=by intro zq;refine T.region ?_;refine dy ?_;exact zq.h):P:=a ⟨q⟩
theorem fP(a:Zq Q→P:=by intro zq;refine TL.run 3 rfl ?_;exact zq.h):P:=a ⟨q⟩
theorem jt(a:Zq Q→P:=by intro zq;refine dz (T.ret (gk ?_));exact zq.h):P:=a ⟨q⟩
theorem fI(a:Zq Q→P:=by intro zq;dsimp only [List.set,List.eraseIdx];exact zq.h):P:=a ⟨q⟩
theorem iz(a:Zq Q→P:=by intro zq;refine cX (Ew.buildSlice rfl rfl rfl a8) ?_;exact zq.h):P:=a ⟨q⟩
theorem il(a:Zq Q→P:=by intro zq;refine dz (T.ret ?_);exact zq.h):P:=a ⟨q⟩
theorem eO(a:Zq Q→P:=by intro zq;refine T.region ?_;refine ek ?_;exact zq.h):P:=a ⟨q⟩
theorem q0F(a:Zq Q→P:=by intro zq;refine TS.eff ?_;refine q0b ?_;refine ⟨(fun w hw=>hw.sub Sx),?_⟩;refine TS.done ?_;refine fA (K.seq (T.region ?_));refine dy ?_;refine cS (dh (v:= .int .i64 (wI (j_6 - 1)))) ?_;refine dy ?_;refine TL.nil ?_;exact zq.h):P:=a ⟨q⟩
theorem fe(a:Zq Q→P:=by intro zq;refine TS.run 2 rfl ?_;exact zq.h):P:=a ⟨q⟩
theorem q0H(a:Zq Q→P:=by intro zq;refine dS (.still 0 (.still 1 (.still 2 (.still 3 (.still 4 (.still 5 (.still 7 (.still 8 (.still 9 (.still 10 (.still 14 (.two 6 11 (.eff 11 (.still 12 (.eff 13 (.still 15 (.eff 16 .done))))) (.eff 6 (.still 12 (.eff 13 (.still 15 (.eff 16 .done))))))))))))))))) [.fr F1] b0 Sx ?_;refine TS.run 5 rfl ?_;exact zq.h):P:=a ⟨q⟩
theorem fN(a:Zq Q→P:=by intro zq;refine T.skip (K.seq (T.seq ?_));exact zq.h):P:=a ⟨q⟩
theorem jg(a:Zq Q→P:=by intro zq;refine TL.nil (fA (K.seq (T.region ?_)));refine jh ?_;exact zq.h):P:=a ⟨q⟩
theorem jw(a:Zq Q→P:=by intro zq;refine jf ?_;refine cU rfl (di 1) ?_;exact zq.h):P:=a ⟨q⟩
theorem q0L(a:Zq Q→P:=by intro zq;refine dK rfl (cT) rfl rfl (di 0 rfl rfl rfl (fq a7 (Vec.cell (i:=a.toNat) a7))) (fun w hw=>hw.sub Sx) ?_;exact zq.h):P:=a ⟨q⟩
theorem q0M(a:Zq Q→P:=by intro zq;refine dK rfl (cT) rfl rfl (di 0 rfl rfl rfl (fq a7 (Vec.cell (i:=b.toNat) a7))) (fun w hw=>hw.sub Sx) ?_;exact zq.h):P:=a ⟨q⟩
theorem q0N(a:Zq Q→P:=by intro zq;refine dK rfl (cT) rfl rfl (di 0 rfl rfl rfl (fq a7 (Vec.cell (i:=d.toNat) a7))) (fun w hw=>hw.sub Sx) ?_;exact zq.h):P:=a ⟨q⟩
theorem q0O(a:Zq Q→P:=by intro zq;refine dK rfl (cT) rfl rfl (di 0 rfl rfl rfl (fq a7 (Vec.cell (i:=c.toNat) a7))) (fun w hw=>hw.sub Sx) ?_;exact zq.h):P:=a ⟨q⟩
theorem eW(a:Zq Q→P:=by intro zq;refine eV ?_;refine fi ?_;exact zq.h):P:=a ⟨q⟩
theorem lf(a:Zq Q→P:=by intro zq;refine eV ?_;refine dz (T.ret (gk (gp (gk (gk (gp (gk ?_)))))));exact zq.h):P:=a ⟨q⟩
theorem q0R(a:Zq Q→P:=by intro zq;refine dK rfl (cT) rfl rfl (eg 0 rfl rfl rfl a7 (gK (enc:=eI) (i:=(wI (j_6 - 1)).toNat) (j:=0) (fun _=>rfl) a7 a8)) (fun w hw=>hw.sub Sx) ?_;exact zq.h):P:=a ⟨q⟩
theorem jL(a:Zq Q→P:=by intro zq;refine cS (ki rfl rfl rfl a7) ?_;exact zq.h):P:=a ⟨q⟩
theorem iA(a:Zq Q→P:=by intro zq;refine dY ?_;refine cX (mE rfl rfl) ?_;exact zq.h):P:=a ⟨q⟩
theorem fW(a:Zq Q→P:=by intro zq;refine cX (Ew.alloc rfl) ?_;exact zq.h):P:=a ⟨q⟩
theorem q0V(a:Zq Q→P:=by intro zq;refine fe ?_;refine cU rfl (df (i:=i_37) rfl rfl rfl (SlD.mono (rep:=cR) (fun _ _ _ _=>GBidder.mono) hbefore le1_2).1 (SlD.mono (rep:=cR) (fun _ _ _ _=>GBidder.mono) hbefore le1_2).2.1 rfl a7) ?_;refine cU rfl (fL rfl rfl (SlD.mono (rep:=cR) (fun _ _ _ _=>GBidder.mono) hbefore le1_2).1 (SlD.mono (rep:=cR) (fun _ _ _ _=>GBidder.mono) hbefore le1_2).2.1 a7) ?_;exact zq.h):P:=a ⟨q⟩
theorem gO(a:Zq Q→P:=by intro zq;refine dY ?_;refine ek ?_;exact zq.h):P:=a ⟨q⟩
theorem q0X(a:Zq Q→P:=by intro zq;refine fe ?_;refine cU rfl (df (i:=i_37) rfl rfl rfl (SlD.mono (rep:=cR) (fun _ _ _ _=>GBidder.mono) hafter le1_2).1 (SlD.mono (rep:=cR) (fun _ _ _ _=>GBidder.mono) hafter le1_2).2.1 rfl a7) ?_;refine cU rfl (fL rfl rfl (SlD.mono (rep:=cR) (fun _ _ _ _=>GBidder.mono) hafter le1_2).1 (SlD.mono (rep:=cR) (fun _ _ _ _=>GBidder.mono) hafter le1_2).2.1 a7) ?_;exact zq.h):P:=a ⟨q⟩
theorem q0Y(a:Zq Q→P:=by intro zq;refine dK rfl (cT) rfl rfl (eg 0 rfl rfl rfl a7 (gK (enc:=eI) (i:=j_6.toNat) (j:=0) (fun _=>rfl) a7 a8)) (fun w hw=>hw.sub Sx) ?_;exact zq.h):P:=a ⟨q⟩
theorem q0Z(a:Zq Q→P:=by intro zq;refine cU rfl (Yv.xorK (a:=(Vec.get u1 d.toNat)) (b:=(Vec.get u1 a.toNat))) ?_;refine TS.eff ?_;refine dc rfl (cT) rfl rfl (de rfl rfl rfl (fun w hw=>zbc _ w (hw.fr (i:=1) rfl) (xorK .u32 (Vec.get u1 d.toNat) (Vec.get u1 a.toNat)) (-16))) ?_;refine gA ?_;refine cU rfl (dA (i:=d.toNat) rfl rfl rfl a7 a7) ?_;refine TS.eff ?_;refine dT rfl (cT) rfl (eM 0 ((Vec.put u1 d.toNat (jj (xorK .u32 (Vec.get u1 d.toNat) (Vec.get u1 a.toNat)) (-16))).1.map (Value.int .u32)) rfl rfl rfl rfl (by rw [Vec.len];first|omega|(simp only [List.length_cons,List.length_nil];omega)) (iU a7 (Vec.upd (x:=u1) (f:=(Value.int .u32)) (i:=d.toNat) (v:=(jj (xorK .u32 (Vec.get u1 d.toNat) (Vec.get u1 a.toNat)) (-16))) a7))) ?_;refine gA ?_;refine TS.done ?_;exact zq.h):P:=a ⟨q⟩
theorem q00(a:Zq Q→P:=by intro zq;refine dK rfl (cT) rfl rfl (eg 0 rfl rfl rfl a7 (gK (enc:=eI) (i:=i_6) (j:=0) (fun _=>rfl) a7 a8)) (fun w hw=>hw.sub Sx) ?_;exact zq.h):P:=a ⟨q⟩
theorem fS(a:Zq Q→P:=by intro zq;refine TS.run 1 rfl ?_;exact zq.h):P:=a ⟨q⟩
theorem q02(a:Zq Q→P:=by intro zq;refine cU rfl (Yv.xorK (a:=(Vec.get u3 b.toNat)) (b:=(Vec.get u3 c.toNat))) ?_;refine TS.eff ?_;refine dc rfl (cT) rfl rfl (de rfl rfl rfl (fun w hw=>zbc _ w (hw.fr (i:=1) rfl) (xorK .u32 (Vec.get u3 b.toNat) (Vec.get u3 c.toNat)) (-12))) ?_;refine gA ?_;refine cU rfl (dA (i:=b.toNat) rfl rfl rfl a7 a7) ?_;refine TS.eff ?_;refine dT rfl (cT) rfl (eM 0 ((Vec.put u3 b.toNat (jj (xorK .u32 (Vec.get u3 b.toNat) (Vec.get u3 c.toNat)) (-12))).1.map (Value.int .u32)) rfl rfl rfl rfl (by rw [Vec.len];first|omega|(simp only [List.length_cons,List.length_nil];omega)) (iU a7 (Vec.upd (x:=u3) (f:=(Value.int .u32)) (i:=b.toNat) (v:=(jj (xorK .u32 (Vec.get u3 b.toNat) (Vec.get u3 c.toNat)) (-12))) a7))) ?_;refine gA ?_;refine TS.done ?_;exact zq.h):P:=a ⟨q⟩
theorem j3(a:Zq Q→P:=by intro zq;refine je ?_;refine dy ?_;exact zq.h):P:=a ⟨q⟩
theorem kz(a:Zq Q→P:=by intro zq;refine ek ?_;refine dz ?_;exact zq.h):P:=a ⟨q⟩
theorem jk(a:Zq Q→P:=by intro zq;refine ⟨(fun w hw=>hw.sub Sx),?_⟩;exact zq.h):P:=a ⟨q⟩
theorem iT(a:Zq Q→P:=by intro zq;refine dz (T.seq (T.seq ?_));exact zq.h):P:=a ⟨q⟩
theorem kf(a:Zq Q→P:=by intro zq;refine cS (dk rfl rfl hx_ (List.length_map _)) ?_;exact zq.h):P:=a ⟨q⟩
theorem q08(a:Zq Q→P:=by intro zq;refine cU rfl (Yv.xorK (a:=(Vec.get u5 d.toNat)) (b:=(Vec.get u5 a.toNat))) ?_;refine TS.eff ?_;refine dc rfl (cT) rfl rfl (de rfl rfl rfl (fun w hw=>zbc _ w (hw.fr (i:=1) rfl) (xorK .u32 (Vec.get u5 d.toNat) (Vec.get u5 a.toNat)) (-8))) ?_;refine gA ?_;refine cU rfl (dA (i:=d.toNat) rfl rfl rfl a7 a7) ?_;refine TS.eff ?_;refine dT rfl (cT) rfl (eM 0 ((Vec.put u5 d.toNat (jj (xorK .u32 (Vec.get u5 d.toNat) (Vec.get u5 a.toNat)) (-8))).1.map (Value.int .u32)) rfl rfl rfl rfl (by rw [Vec.len];first|omega|(simp only [List.length_cons,List.length_nil];omega)) (iU a7 (Vec.upd (x:=u5) (f:=(Value.int .u32)) (i:=d.toNat) (v:=(jj (xorK .u32 (Vec.get u5 d.toNat) (Vec.get u5 a.toNat)) (-8))) a7))) ?_;refine gA ?_;refine TS.done ?_;exact zq.h):P:=a ⟨q⟩
theorem q09(a:Zq Q→P:=by intro zq;refine dS (.still 0 (.still 1 (.still 2 (.still 3 (.still 4 (.still 5 (.still 6 (.still 7 (.still 8 .done))))))))) _ b0 (List.Sublist.refl _) ?_;refine fe ?_;exact zq.h):P:=a ⟨q⟩
theorem ky(a:Zq Q→P:=by intro zq;refine dz (T.ret (gp (gk (gk (gp (gk ?_))))));exact zq.h):P:=a ⟨q⟩
theorem q1b(a:Zq Q→P:=by intro zq;refine eV ?_;refine j3 ?_;refine cS (Yv.bu (v:= .bool false) rfl rfl rfl (fun w=>by rw [hv,hA];kernel_rfl)) ?_;refine dz ?_;refine T.by rfl rfl ?_;refine T.skip (K.seq (dY ?_));refine cX (Ew.aY rfl) ?_;exact zq.h):P:=a ⟨q⟩
theorem kP(a:Zq Q→P:=by intro zq;refine gn ?_;refine cS (di 1) ?_;exact zq.h):P:=a ⟨q⟩
theorem ie(a:Zq Q→P:=by intro zq;refine T.region ?_;refine fP ?_;exact zq.h):P:=a ⟨q⟩
theorem q1e(a:Zq Q→P:=by intro zq;refine cU rfl (dh (v:= .int .u32 (IntKind.u32.wrap ((Vec.get x0_ a.toNat)+(IntKind.u32.wrap ((Vec.get x0_ b.toNat)+x_)))))) ?_;refine cU rfl (dA (i:=a.toNat) rfl rfl rfl a7 a7) ?_;refine TS.eff ?_;refine dT rfl (cT) rfl (eM 0 ((Vec.put x0_ a.toNat (IntKind.u32.wrap ((Vec.get x0_ a.toNat)+(IntKind.u32.wrap ((Vec.get x0_ b.toNat)+x_))))).1.map (Value.int .u32)) rfl rfl rfl rfl (by rw [Vec.len];first|omega|(simp only [List.length_cons,List.length_nil];omega)) (iU a7 (Vec.upd (x:=x0_) (f:=(Value.int .u32)) (i:=a.toNat) (v:=(IntKind.u32.wrap ((Vec.get x0_ a.toNat)+(IntKind.u32.wrap ((Vec.get x0_ b.toNat)+x_))))) a7))) ?_;refine gA ?_;refine TS.done ?_;exact zq.h):P:=a ⟨q⟩
theorem jZ(a:Zq Q→P:=by intro zq;refine ek ?_;refine TL.nil ?_;exact zq.h):P:=a ⟨q⟩
theorem jE(a:Zq Q→P:=by intro zq;refine cS (Yv.build rfl rfl) ?_;exact zq.h):P:=a ⟨q⟩
theorem q1h(a:Zq Q→P:=by intro zq;refine dc rfl (cT) rfl rfl (Ew.buildSlice rfl rfl rfl a8) ?_;exact zq.h):P:=a ⟨q⟩
theorem q1i(a:Zq Q→P:=by intro zq;refine T.skip (fA (K.seq (T.region ?_)));exact zq.h):P:=a ⟨q⟩
theorem jB(a:Zq Q→P:=by intro zq;refine cS (fg 0) ?_;exact zq.h):P:=a ⟨q⟩
theorem q1k(a:Zq Q→P:=by intro zq;refine cU rfl (dh (v:= .int .u32 (IntKind.u32.wrap ((Vec.get u4 a.toNat)+(IntKind.u32.wrap ((Vec.get u4 b.toNat)+y)))))) ?_;refine cU rfl (dA (i:=a.toNat) rfl rfl rfl a7 a7) ?_;refine TS.eff ?_;refine dT rfl (cT) rfl (eM 0 ((Vec.put u4 a.toNat (IntKind.u32.wrap ((Vec.get u4 a.toNat)+(IntKind.u32.wrap ((Vec.get u4 b.toNat)+y))))).1.map (Value.int .u32)) rfl rfl rfl rfl (by rw [Vec.len];first|omega|(simp only [List.length_cons,List.length_nil];omega)) (iU a7 (Vec.upd (x:=u4) (f:=(Value.int .u32)) (i:=a.toNat) (v:=(IntKind.u32.wrap ((Vec.get u4 a.toNat)+(IntKind.u32.wrap ((Vec.get u4 b.toNat)+y))))) a7))) ?_;refine gA ?_;refine TS.done ?_;exact zq.h):P:=a ⟨q⟩
theorem q1l(a:Zq Q→P:=by intro zq;refine dK rfl (cT) rfl rfl (dL 0 (i:=i_6) rfl rfl rfl rfl rfl a7) (fun w hw=>hw.sub Sx) ?_;exact zq.h):P:=a ⟨q⟩
theorem mo(a:Zq Q→P:=by intro zq;refine dM (fD 1) ?_;refine ee ?_;exact zq.h):P:=a ⟨q⟩
theorem q1n(a:Zq Q→P:=by intro zq;refine dc rfl (cT) rfl rfl (dI [1,2,0] [.row g0_ 295 ([Value.bool x0_.made]++((x0_.state.1.map (Value.int .u32))++((u1.1.map (Value.int .u8))++([Value.int .i64 x0_.fill,U x0_.before,Value.int .i64 x0_.written]:List Value))))] [.row g2 248 ((Vec.fill 32 0).1.map (Value.int .u8))] rfl rfl rfl rfl a8 (fun w hw hw2 hF=>zbP _ w hF (GHash.mk x0_.made x0_.state u1 x0_.fill x0_.before x0_.written) g0_ (x0_.before+(BitVec.ofInt 64 x0_.fill)) true hgl hw2.takes.1 hw2.takes.2 r30 hr30)) ?_;exact zq.h):P:=a ⟨q⟩
theorem jH(a:Zq Q→P:=by intro zq;refine TL.run 4 rfl ?_;refine TL.nil ?_;exact zq.h):P:=a ⟨q⟩
theorem gD(a:Zq Q→P:=by intro zq;refine dy ?_;refine fi ?_;exact zq.h):P:=a ⟨q⟩
theorem q1q(a:Zq Q→P:=by intro zq;refine cU rfl (dh (v:= .int .u32 (IntKind.u32.wrap ((Vec.get u2 c.toNat)+(Vec.get u2 d.toNat))))) ?_;refine cU rfl (dA (i:=c.toNat) rfl rfl rfl a7 a7) ?_;refine TS.eff ?_;refine dT rfl (cT) rfl (eM 0 ((Vec.put u2 c.toNat (IntKind.u32.wrap ((Vec.get u2 c.toNat)+(Vec.get u2 d.toNat)))).1.map (Value.int .u32)) rfl rfl rfl rfl (by rw [Vec.len];first|omega|(simp only [List.length_cons,List.length_nil];omega)) (iU a7 (Vec.upd (x:=u2) (f:=(Value.int .u32)) (i:=c.toNat) (v:=(IntKind.u32.wrap ((Vec.get u2 c.toNat)+(Vec.get u2 d.toNat)))) a7))) ?_;refine gA ?_;refine TS.done ?_;exact zq.h):P:=a ⟨q⟩
theorem q1r(a:Zq Q→P:=by intro zq;refine dS (.still 0 (.still 1 (.still 2 (.still 3 (.still 5 (.still 6 (.still 7 (.still 8 (.still 10 (.still 13 (.two 4 9 (.eff 9 (.still 11 (.still 12 (.still 14 (.eff 15 .done))))) (.still 11 (.eff 4 (.still 12 (.still 14 (.eff 15 .done)))))))))))))))) [.fr F1] b0 Sx ?_;refine TS.run 3 rfl ?_;refine cU rfl (dA (i:=a.toNat) rfl rfl rfl a7 a7) ?_;refine TS.run 3 rfl ?_;refine cU rfl (dA (i:=b.toNat) rfl rfl rfl a7 a7) ?_;refine fe ?_;exact zq.h):P:=a ⟨q⟩
theorem q1s(a:Zq Q→P:=by intro zq;refine dK rfl (cT) rfl rfl (di 1 rfl rfl rfl (fq a7 (gB (show List.length _=1 from rfl) (gB Vec.len (gB Vec.len (show [.int .i64 x0_.fill,U x0_.before, .int .i64 x0_.written][0]?=some _ from rfl)))))) (fun w hw=>hw.sub Sx) ?_;exact zq.h):P:=a ⟨q⟩
theorem jv(a:Zq Q→P:=by intro zq;refine dy ?_;refine TL.nil ?_;exact zq.h):P:=a ⟨q⟩
theorem gZ(a:Zq Q→P:=by intro zq;simp only [Option.bind_some];exact zq.h):P:=a ⟨q⟩
theorem q1v(a:Zq Q→P:=by intro zq;refine eV ?_;refine j3 ?_;refine cS (Yv.bu (v:= .bool true) rfl rfl rfl (fun w=>by rw [hv,hA];kernel_rfl)) ?_;refine dz ?_;refine T.bD rfl rfl ?_;refine eV ?_;exact zq.h):P:=a ⟨q⟩
theorem q1w(a:Zq Q→P:=by intro zq;refine cU rfl (dh (v:= .int .u32 (IntKind.u32.wrap ((Vec.get u6 c.toNat)+(Vec.get u6 d.toNat))))) ?_;refine cU rfl (dA (i:=c.toNat) rfl rfl rfl a7 a7) ?_;refine TS.eff ?_;refine dT rfl (cT) rfl (eM 0 ((Vec.put u6 c.toNat (IntKind.u32.wrap ((Vec.get u6 c.toNat)+(Vec.get u6 d.toNat)))).1.map (Value.int .u32)) rfl rfl rfl rfl (by rw [Vec.len];first|omega|(simp only [List.length_cons,List.length_nil];omega)) (iU a7 (Vec.upd (x:=u6) (f:=(Value.int .u32)) (i:=c.toNat) (v:=(IntKind.u32.wrap ((Vec.get u6 c.toNat)+(Vec.get u6 d.toNat)))) a7))) ?_;refine gA ?_;refine TS.done ?_;exact zq.h):P:=a ⟨q⟩
theorem kO(a:Zq Q→P:=by intro zq;refine T.skip (K.seq (dY ?_));refine dy ?_;exact zq.h):P:=a ⟨q⟩
theorem j0(a:Zq Q→P:=by intro zq;refine T.skip (K.seq (T.seq (dY ?_)));exact zq.h):P:=a ⟨q⟩
theorem q1z(a:Zq Q→P:=by intro zq;refine T.region ?_;refine gn ?_;refine cS (di 3) ?_;exact zq.h):P:=a ⟨q⟩
theorem q1A(a:Zq Q→P:=by intro zq;refine fe ?_;refine cU rfl (df (i:=i_11) rfl rfl rfl (SlC.mono hn le1_2) (List.length_map _) rfl a7) ?_;exact zq.h):P:=a ⟨q⟩
theorem q1B(a:Zq Q→P:=by intro zq;refine jK (fun w hw=>hw.freezeS (i:=1) (j:=0) a8 rfl rfl) ?_;exact zq.h):P:=a ⟨q⟩
theorem q1C(a:Zq Q→P:=by intro zq;refine gA ?_;refine TS.done ?_;refine fA (K.seq (T.region ?_));exact zq.h):P:=a ⟨q⟩
theorem dN(a:Zq Q→P:=by intro zq;refine TS.eff ?_;exact zq.h):P:=a ⟨q⟩
theorem q1E(a:Zq Q→P:=by intro zq;refine dS (.still 0 (.still 1 (.still 2 (.still 3 (.still 5 (.still 6 (.still 7 (.still 8 (.still 11 (.two 4 9 (.eff 9 (.still 10 (.still 12 (.eff 13 .done)))) (.eff 4 (.still 10 (.still 12 (.eff 13 .done)))))))))))))) [.fr F1] b0 Sx ?_;refine TS.run 3 rfl ?_;refine cU rfl (dA (i:=c.toNat) rfl rfl rfl a7 a7) ?_;refine TS.run 3 rfl ?_;refine cU rfl (dA (i:=d.toNat) rfl rfl rfl a7 a7) ?_;refine fS ?_;exact zq.h):P:=a ⟨q⟩
theorem iS(a:Zq Q→P:=by intro zq;refine T.seq (dY ?_);exact zq.h):P:=a ⟨q⟩
theorem iw(a:Zq Q→P:=by intro zq;refine dy ?_;refine il ?_;exact zq.h):P:=a ⟨q⟩
theorem io(a:Zq Q→P:=by intro zq;refine TL.run 5 rfl ?_;exact zq.h):P:=a ⟨q⟩
theorem iM(a:Zq Q→P:=by intro zq;refine fS ?_;refine TS.done ?_;exact zq.h):P:=a ⟨q⟩
theorem q1J(a:Zq Q→P:=by intro zq;refine dN ?_;refine dT rfl (cT) rfl (fD 0) ?_;exact zq.h):P:=a ⟨q⟩
theorem q1K(a:Zq Q→P:=by intro zq;refine cS (dk rfl rfl ha (List.length_map _)) ?_;exact zq.h):P:=a ⟨q⟩
theorem q1L(a:Zq Q→P:=by intro zq;refine gX (fun w hw=>hw.freezeR (i:=1) (j:=0) a8 rfl rfl) ?_;exact zq.h):P:=a ⟨q⟩
theorem q1M(a:Zq Q→P:=by intro zq;refine gX (fun w hw=>hw.freezeR (i:=2) (j:=0) a8 rfl rfl) ?_;exact zq.h):P:=a ⟨q⟩
theorem i0(a:Zq Q→P:=by intro zq;refine eR ?_;refine dy ?_;exact zq.h):P:=a ⟨q⟩
theorem q1O(a:Zq Q→P:=by intro zq;refine q09 ?_;refine cU rfl (df (i:=i_5') rfl rfl rfl hx_ (List.length_map _) rfl a7) ?_;refine cU rfl (dD 0 (i:=i_5') (j:=0) rfl rfl rfl hx_ a7) ?_;refine fe ?_;refine cU rfl (df (i:=i_5') rfl rfl rfl hy (List.length_map _) rfl a7) ?_;refine cU rfl (dD 0 (i:=i_5') (j:=0) rfl rfl rfl hy a7) ?_;refine iM ?_;refine K.seq ?_;exact zq.h):P:=a ⟨q⟩
theorem kH(a:Zq Q→P:=by intro zq;refine K.pick [1] rfl a8 ?_;exact zq.h):P:=a ⟨q⟩
theorem iQ(a:Zq Q→P:=by intro zq;refine eV ?_;refine jt ?_;exact zq.h):P:=a ⟨q⟩
theorem q1R(a:Zq Q→P:=by intro zq;refine dN ?_;refine ly rfl (Wt.not rfl rfl rfl rfl) rfl rfl ?_;exact zq.h):P:=a ⟨q⟩
theorem q1S(a:Zq Q→P:=by intro zq;refine gn ?_;refine cS (di 2) ?_;exact zq.h):P:=a ⟨q⟩
theorem gI(a:Zq Q→P:=by intro zq;refine TS.run 3 rfl ?_;exact zq.h):P:=a ⟨q⟩
theorem q1U(a:Zq Q→P:=by intro zq;refine q09 ?_;refine cU rfl (df (i:=i_5') rfl rfl rfl ha (List.length_map _) rfl a7) ?_;refine cU rfl (dD 0 (i:=i_5') (j:=0) rfl rfl rfl ha a7) ?_;refine fe ?_;refine cU rfl (df (i:=i_5') rfl rfl rfl hb (List.length_map _) rfl a7) ?_;refine cU rfl (dD 0 (i:=i_5') (j:=0) rfl rfl rfl hb a7) ?_;refine iM ?_;refine K.seq ?_;exact zq.h):P:=a ⟨q⟩
theorem q1V(a:Zq Q→P:=by intro zq;refine cS (dk rfl rfl hl (List.length_map _)) ?_;exact zq.h):P:=a ⟨q⟩
theorem lX(a:Zq Q→P:=by intro zq;refine T.region ?_;refine TL.run 4 rfl ?_;exact zq.h):P:=a ⟨q⟩
theorem eH(a:Zq Q→P:=by intro zq;refine T.block ?_;exact zq.h):P:=a ⟨q⟩
theorem q1Y(a:Zq Q→P:=by intro zq;refine ef ?_;refine cX (dI [0,1] [.row g0_ 104 [v0_0,v0_1, .int .i64 x0_.increment.Activity, .int .i64 x0_.increment.Step,v0_4, .int .i64 x0_.rounds,v0_6]] [] rfl rfl rfl rfl a8 (fun w hw hw2 hF=>zaP _ w hF x0_ g0_ v0_0 h0_0 v0_1 c0_1 h0_1 v0_4 h0_4 v0_6 h0_6 hw2.takes.1 hw2.takes.2 r9 hr9)) ?_;exact zq.h):P:=a ⟨q⟩
theorem q1Z(a:Zq Q→P:=by intro zq;refine cX (kj (l:=((Vec.fill 32 0).1.map (Value.int .u8))) rfl b0) ?_;exact zq.h):P:=a ⟨q⟩
theorem q10(a:Zq Q→P:=by intro zq;refine dc rfl (cT) rfl rfl (fZ (n':=x0_.catalogue.length) (enc:=eI) (u:=(0:Int)) rfl rfl rfl rfl g37 a8 a8 (fun _=>rfl) rfl) ?_;exact zq.h):P:=a ⟨q⟩
theorem q11(a:Zq Q→P:=by intro zq;refine cU rfl (Yv.build rfl rfl) ?_;refine dN ?_;refine dc rfl (cT) rfl rfl (mE rfl rfl) ?_;exact zq.h):P:=a ⟨q⟩
theorem q12(a:Zq Q→P:=by intro zq;refine fe ?_;refine cU rfl (df (i:=p_30) rfl rfl rfl (SlC.mono hl le1_2) (List.length_map _) rfl a7) ?_;refine cU rfl (fL rfl rfl (SlC.mono hl le1_2) (List.length_map _) a7) ?_;refine cU rfl (dD 2 (i:=p_30) (j:=2) rfl rfl rfl (SlC.mono hl le1_2) a7) ?_;exact zq.h):P:=a ⟨q⟩
theorem lv(a:Zq Q→P:=by intro zq;refine ft ?_;refine gv 1 rfl ?_;exact zq.h):P:=a ⟨q⟩
theorem q14(a:Zq Q→P:=by intro zq;refine dK rfl (cT) rfl rfl (dL 0 (i:=(wI (j_6 - 1)).toNat) (z:=wI (j_6 - 1)) rfl rfl rfl rfl a7 a7) (fun w hw=>hw.sub Sx) ?_;exact zq.h):P:=a ⟨q⟩
theorem lS(a:Zq Q→P:=by intro zq;refine je ?_;refine kz ?_;exact zq.h):P:=a ⟨q⟩
theorem ma(a:Zq Q→P:=by intro zq;refine TS.done ?_;refine K.seq (T.seq ?_);exact zq.h):P:=a ⟨q⟩
theorem q17(a:Zq Q→P:=by intro zq;refine dS (.still 0 (.still 1 (.still 2 (.still 3 (.still 4 (.still 5 (.still 6 (.still 7 (.still 8 (.still 9 (.still 10 (.still 11 (.still 12 (.still 13 (.still 14 (.still 15 (.still 16 (.still 17 (.still 18 (.still 19 .done)))))))))))))))))))) _ b0 (List.Sublist.refl _) ?_;exact zq.h):P:=a ⟨q⟩
theorem fG(a:Zq Q→P:=by intro zq;refine TL.nil ?_;exact zq.h):P:=a ⟨q⟩
theorem jO(a:Zq Q→P:=by intro zq;refine dY ?_;refine fP ?_;exact zq.h):P:=a ⟨q⟩
theorem q2a(a:Zq Q→P:=by intro zq;refine jf ?_;refine cU rfl (di 2) ?_;exact zq.h):P:=a ⟨q⟩
theorem lz(a:Zq Q→P:=by intro zq;refine ft ?_;refine gv 0 rfl ?_;exact zq.h):P:=a ⟨q⟩
theorem jN(a:Zq Q→P:=by intro zq;refine ee ?_;refine ek ?_;exact zq.h):P:=a ⟨q⟩
theorem jQ(a:Zq Q→P:=by intro zq;refine eV ?_;refine j3 ?_;exact zq.h):P:=a ⟨q⟩
theorem kh(a:Zq Q→P:=by intro zq;refine j1 ?_;refine dy ?_;exact zq.h):P:=a ⟨q⟩
theorem q2f(a:Zq Q→P:=by intro zq;refine cU rfl (fg 0) ?_;exact zq.h):P:=a ⟨q⟩
theorem q2g(a:Zq Q→P:=by intro zq;refine cS (fg 1) ?_;exact zq.h):P:=a ⟨q⟩
theorem q2h(a:Zq Q→P:=by intro zq;refine dK rfl (cT) rfl rfl (di 1 rfl rfl rfl (fq a7 (gB (show List.length _=1 from rfl) (gB Vec.len (gB Vec.len (show [.int .i64 x0_.fill,U x0_.before, .int .i64 x0_.written][1]?=some _ from rfl)))))) (fun w hw=>hw.sub Sx) ?_;exact zq.h):P:=a ⟨q⟩
theorem q2i(a:Zq Q→P:=by intro zq;refine dz (T.region ?_);refine dy ?_;exact zq.h):P:=a ⟨q⟩
theorem q2j(a:Zq Q→P:=by intro zq;refine j1 ?_;refine ek ?_;refine eR ?_;refine fP ?_;refine cS (df (i:=i_3) rfl rfl rfl hs.1 hs.2.1 rfl a7) ?_;refine cS (fv 1 (i:=i_3) (j:=0) rfl rfl rfl hs.1 hs.2.1 a7 rfl (eP (hs.2.2 i_3 a7))) ?_;exact zq.h):P:=a ⟨q⟩
theorem q2k(a:Zq Q→P:=by intro zq;refine dM (fD 0 rfl rfl rfl rfl Vec.len (Vec.len.trans Vec.len.symm)) ?_;refine ee ?_;exact zq.h):P:=a ⟨q⟩
theorem gy(a:Zq Q→P:=by intro zq;refine T.region ?_;exact zq.h):P:=a ⟨q⟩
theorem q2m(a:Zq Q→P:=by intro zq;refine cS (Yv.bn (e:=104) b0 rfl rfl rfl) ?_;exact zq.h):P:=a ⟨q⟩
theorem q2n(a:Zq Q→P:=by intro zq;refine dK rfl (cT) rfl rfl (dL 0 (i:=j_6.toNat) rfl rfl rfl rfl a7 a7) (fun w hw=>hw.sub Sx) ?_;exact zq.h):P:=a ⟨q⟩
theorem q2o(a:Zq Q→P:=by intro zq;refine cS (lx 2 (((l_1 ((nth x0_.bids ((nth x0_.order at_8.toNat).toNat)).Bidder)).getD 0).toNat) rfl a7 (dL 0 (i:=((nth x0_.bids ((nth x0_.order at_8.toNat).toNat)).Product).toNat) rfl rfl rfl rfl a7 a7)) ?_;exact zq.h):P:=a ⟨q⟩
theorem q2p(a:Zq Q→P:=by intro zq;refine gC ?_;refine cS (dk rfl rfl ha_1 (List.length_map _)) ?_;exact zq.h):P:=a ⟨q⟩
theorem q2q(a:Zq Q→P:=by intro zq;refine dy ?_;refine jL ?_;refine jv ?_;exact zq.h):P:=a ⟨q⟩
theorem kp(a:Zq Q→P:=by intro zq;refine eV ?_;refine il ?_;exact zq.h):P:=a ⟨q⟩
theorem q2s(a:Zq Q→P:=by intro zq;refine T.skip (K.seq (T.seq (T.block (T.seq ?_))));exact zq.h):P:=a ⟨q⟩
theorem q2t(a:Zq Q→P:=by intro zq;refine fG ?_;refine K.pick [2] rfl a8 ?_;exact zq.h):P:=a ⟨q⟩
theorem q2u(a:Zq Q→P:=by intro zq;refine dy ?_;refine cS (dk rfl rfl hkey (List.length_map _)) ?_;exact zq.h):P:=a ⟨q⟩
theorem q2v(a:Zq Q→P:=by intro zq;refine cX (dI [0,1,2] [.row g0_ 145 [.int .i64 x0_.fault.first,v0_1], .sl v0_1 5 1 x0_.out.length (x0_.out.flatMap (eK .u8))] [] rfl rfl rfl rfl a8 (fun w hw hw2 hF=>zcB _ w hF x0_ g0_ v0_1 hw2.takes.1 hw2.takes.2)) ?_;exact zq.h):P:=a ⟨q⟩
theorem lL(a:Zq Q→P:=by intro zq;refine fe ?_;refine TS.done ?_;exact zq.h):P:=a ⟨q⟩
theorem q2x(a:Zq Q→P:=by intro zq;refine il ?_;refine lI (fun w hw=>hw.freezeS (i:=1) (j:=0) a8 rfl rfl) ?_;exact zq.h):P:=a ⟨q⟩
theorem q2y(a:Zq Q→P:=by intro zq;refine K.pick [0,2,1] rfl a8 ?_;exact zq.h):P:=a ⟨q⟩
theorem q2z(a:Zq Q→P:=by intro zq;refine T.skip (K.seq (T.seq (T.seq ?_)));exact zq.h):P:=a ⟨q⟩
theorem q2A(a:Zq Q→P:=by intro zq;refine il ?_;refine lI (fun w hw=>hw.freezeS (i:=2) (j:=0) a8 rfl rfl) ?_;exact zq.h):P:=a ⟨q⟩
theorem kC(a:Zq Q→P:=by intro zq;refine dy ?_;refine iT ?_;exact zq.h):P:=a ⟨q⟩
theorem kZ(a:Zq Q→P:=by intro zq;refine ee ?_;refine jZ ?_;exact zq.h):P:=a ⟨q⟩
theorem q2D(a:Zq Q→P:=by intro zq;refine dS (.still 0 (.still 1 (.still 2 (.still 3 (.still 4 (.still 5 (.still 6 (.still 7 (.still 8 (.still 9 (.still 10 (.still 11 (.still 12 (.still 13 .done)))))))))))))) _ b0 (List.Sublist.refl _) ?_;exact zq.h):P:=a ⟨q⟩
theorem q2E(a:Zq Q→P:=by intro zq;refine eO ?_;refine cS (gW 0 (i:=v_.length) rfl rfl rfl rfl rfl a7) ?_;refine cS (jI 0 rfl rfl rfl a7 (gK (enc:=(eK .u32)) (i:=v_.length) (j:=0) (fun _=>rfl) a7 a8)) ?_;exact zq.h):P:=a ⟨q⟩
theorem q2F(a:Zq Q→P:=by intro zq;refine ⟨(fun w hw=>hw.pick (idx:=[2,1]) rfl a8),?_⟩;exact zq.h):P:=a ⟨q⟩
theorem kA(a:Zq Q→P:=by intro zq;refine gC ?_;refine dy ?_;exact zq.h):P:=a ⟨q⟩
theorem q2H(a:Zq Q→P:=by intro zq;refine j1 ?_;refine ek ?_;refine eR ?_;refine fP ?_;refine cS (df (i:=i_3) rfl rfl rfl hs (List.length_map _) rfl a7) ?_;refine cS (dD 0 (i:=i_3) (j:=0) rfl rfl rfl hs a7) ?_;exact zq.h):P:=a ⟨q⟩
theorem q2I(a:Zq Q→P:=by intro zq;refine cS (dk rfl rfl hy (List.length_map _)) ?_;exact zq.h):P:=a ⟨q⟩
theorem q2J(a:Zq Q→P:=by intro zq;refine cS (dk rfl rfl hb (List.length_map _)) ?_;exact zq.h):P:=a ⟨q⟩
theorem q2K(a:Zq Q→P:=by intro zq;refine kh ?_;refine cS (dL 1 (i:=i_6) rfl rfl rfl rfl rfl a7) ?_;refine cS (eg 1 rfl rfl rfl a7 (gK (enc:=eI) (i:=i_6) (j:=0) (fun _=>rfl) a7 a8)) ?_;refine kz ?_;exact zq.h):P:=a ⟨q⟩
theorem kM(a:Zq Q→P:=by intro zq;refine gO ?_;refine jt ?_;exact zq.h):P:=a ⟨q⟩
theorem kN(a:Zq Q→P:=by intro zq;refine gC ?_;refine fP ?_;exact zq.h):P:=a ⟨q⟩
theorem q2N(a:Zq Q→P:=by intro zq;refine fe ?_;refine cU rfl (dL 1 (i:=p_30) rfl rfl rfl rfl rfl a7) ?_;refine cU rfl (eg 1 rfl rfl rfl a7 (gK (enc:=eI) (i:=p_30) (j:=0) (fun _=>rfl) a7 a8)) ?_;exact zq.h):P:=a ⟨q⟩
theorem q2O(a:Zq Q→P:=by intro zq;refine q1A ?_;refine cU rfl (dD 3 (i:=i_11) (j:=0) rfl rfl rfl (SlC.mono hn le1_2) a7) ?_;exact zq.h):P:=a ⟨q⟩
theorem q2P(a:Zq Q→P:=by intro zq;refine ⟨(fun w hw=>(hw.frLe (i:=1) rfl le1_3).sub Sx),?_⟩;exact zq.h):P:=a ⟨q⟩
theorem q2Q(a:Zq Q→P:=by intro zq;refine dN ?_;refine dc rfl (cT) rfl rfl (gT 4 0 rfl rfl rfl rfl rfl rfl (zdC (ys:=[(nth bids i_8).Change])) (zc9 (enc:=eI) (xs:=c_6) (ys:=[(nth bids i_8).Change])) g65 a8) ?_;exact zq.h):P:=a ⟨q⟩
theorem q2R(a:Zq Q→P:=by intro zq;refine kh ?_;refine cS (df (i:=i_5) rfl rfl rfl hx_ (List.length_map _) rfl a7) ?_;refine cS (dD 1 (i:=i_5) (j:=0) rfl rfl rfl hx_ a7) ?_;refine ek ?_;refine fi ?_;exact zq.h):P:=a ⟨q⟩
theorem q2S(a:Zq Q→P:=by intro zq;refine fe ?_;refine cU rfl (df (i:=p_28) rfl rfl rfl hf86_0_0 (List.length_map _) rfl a7) ?_;refine cU rfl (dD 1 (i:=p_28) (j:=0) rfl rfl rfl hf86_0_0 a7) ?_;refine fe ?_;exact zq.h):P:=a ⟨q⟩
theorem q2T(a:Zq Q→P:=by intro zq;refine dN ?_;refine dc rfl (cT) rfl rfl (gT 2 0 rfl rfl rfl rfl rfl rfl (zdC (ys:=[(nth l i_12).Reserve])) (zc9 (enc:=eI) (xs:=c_10) (ys:=[(nth l i_12).Reserve])) g60 a8) ?_;exact zq.h):P:=a ⟨q⟩
theorem q2U(a:Zq Q→P:=by intro zq;refine gn ?_;refine cS (di 0 rfl rfl rfl (fq a7 (gB (show List.length _=1 from rfl) (gB Vec.len (gB Vec.len (show [.int .i64 c_23,U c_24, .int .i64 c_25][0]?=some _ from rfl)))))) ?_;exact zq.h):P:=a ⟨q⟩
theorem li(a:Zq Q→P:=by intro zq;refine dy ?_;refine j3 ?_;exact zq.h):P:=a ⟨q⟩
theorem q2W(a:Zq Q→P:=by intro zq;refine TS.done ?_;refine K.pick [2,0,1] rfl a8 ?_;exact zq.h):P:=a ⟨q⟩
theorem lV(a:Zq Q→P:=by intro zq;refine eR ?_;refine ek ?_;exact zq.h):P:=a ⟨q⟩
theorem lw(a:Zq Q→P:=by intro zq;refine dy ?_;refine jt ?_;exact zq.h):P:=a ⟨q⟩
theorem q2Z(a:Zq Q→P:=by intro zq;refine dN ?_;refine dc rfl (cT) rfl rfl (gT 1 0 rfl rfl rfl rfl rfl rfl (zdC (ys:=[(nth r8 i_6')])) (zc9 (enc:=(eK .u8)) (xs:=c_4) (ys:=[(nth r8 i_6')])) g30 a8) ?_;exact zq.h):P:=a ⟨q⟩
theorem q20(a:Zq Q→P:=by intro zq;refine q0H ?_;refine cU rfl (dA (i:=d.toNat) rfl rfl rfl a7 a7) ?_;refine gI ?_;refine cU rfl (dA (i:=a.toNat) rfl rfl rfl a7 a7) ?_;refine fS ?_;exact zq.h):P:=a ⟨q⟩
theorem lY(a:Zq Q→P:=by intro zq;refine ft ?_;refine dz ?_;exact zq.h):P:=a ⟨q⟩
theorem q22(a:Zq Q→P:=by intro zq;refine cS (dk rfl rfl (SlC.mono hl le1_11) (List.length_map _)) ?_;exact zq.h):P:=a ⟨q⟩
theorem q23(a:Zq Q→P:=by intro zq;refine cS (dk rfl rfl (SlC.mono hl le1_2) (List.length_map _)) ?_;exact zq.h):P:=a ⟨q⟩
theorem q24(a:Zq Q→P:=by intro zq;refine q0H ?_;refine cU rfl (dA (i:=b.toNat) rfl rfl rfl a7 a7) ?_;refine gI ?_;refine cU rfl (dA (i:=c.toNat) rfl rfl rfl a7 a7) ?_;refine fS ?_;exact zq.h):P:=a ⟨q⟩
theorem lP(a:Zq Q→P:=by intro zq;refine j1 ?_;refine ek ?_;exact zq.h):P:=a ⟨q⟩
theorem lE(a:Zq Q→P:=by intro zq;refine io ?_;refine fG ?_;exact zq.h):P:=a ⟨q⟩
theorem q27(a:Zq Q→P:=by intro zq;refine cS (dk rfl rfl hbidders.1 hbidders.2.1) ?_;exact zq.h):P:=a ⟨q⟩
theorem q28(a:Zq Q→P:=by intro zq;refine dN ?_;refine dK rfl (cT) rfl rfl (dL 1 (i:=((nth bids i_11).Product).toNat) rfl rfl rfl rfl a7 a7) (fun w hw=>hw.sub Sx) ?_;refine dN ?_;exact zq.h):P:=a ⟨q⟩
theorem q29(a:Zq Q→P:=by intro zq;simp only [IntKind.wrap,IntKind.signed,IntKind.bits,Bool.false_and];exact zq.h):P:=a ⟨q⟩
theorem q3a(a:Zq Q→P:=by intro zq;refine cU rfl (dA (i:=0) rfl rfl rfl (show (0:Int)=((0:Nat):Int) from rfl) a7) ?_;exact zq.h):P:=a ⟨q⟩
theorem q3b(a:Zq Q→P:=by intro zq;refine TL.run 6 rfl ?_;refine fG ?_;exact zq.h):P:=a ⟨q⟩
theorem mp(a:Zq Q→P:=by intro zq;refine eR ?_;refine fP ?_;exact zq.h):P:=a ⟨q⟩
theorem me(a:Zq Q→P:=by intro zq;refine ee ?_;refine dz ?_;exact zq.h):P:=a ⟨q⟩
theorem q3e(a:Zq Q→P:=by intro zq;refine cS (df (i:=(nth x0_.order at_8.toNat).toNat) rfl rfl rfl h0_1.1 h0_1.2.1 a7 a7) ?_;refine cS (fL rfl rfl h0_1.1 h0_1.2.1 a7) ?_;exact zq.h):P:=a ⟨q⟩
theorem q3f(a:Zq Q→P:=by intro zq;refine dN ?_;refine dK rfl (cT) rfl rfl (dL 0 (i:=((i_7':Int) / 8).toNat) rfl rfl rfl rfl a7 a7) (fun w hw=>hw.sub Sx) ?_;refine dN ?_;exact zq.h):P:=a ⟨q⟩
theorem q3g(a:Zq Q→P:=by intro zq;refine dN ?_;refine dK rfl (cT) rfl rfl (dL 0 (i:=((i_5:Int) / 4).toNat) rfl rfl rfl rfl a7 a7) (fun w hw=>hw.sub Sx) ?_;refine dN ?_;exact zq.h):P:=a ⟨q⟩
theorem lT(a:Zq Q→P:=by intro zq;refine iS ?_;refine kz ?_;exact zq.h):P:=a ⟨q⟩
theorem l9(a:Zq Q→P:=by intro zq;refine fP ?_;refine fW ?_;exact zq.h):P:=a ⟨q⟩
theorem q3j(a:Zq Q→P:=by intro zq;refine dS (.still 0 (.still 2 (.eff 1 (.eff 3 (.still 4 (.still 5 .done)))))) _ b0 (List.Sublist.refl _) ?_;refine cU rfl (fg 2) ?_;exact zq.h):P:=a ⟨q⟩
theorem lQ(a:Zq Q→P:=by intro zq;refine fe ?_;refine jf ?_;exact zq.h):P:=a ⟨q⟩
theorem q3l(a:Zq Q→P:=by intro zq;refine cS (dk rfl rfl (SlD.mono (rep:=cW) (fun _ _ _ _=>GBid.mono) hbids le1_2).1 (SlD.mono (rep:=cW) (fun _ _ _ _=>GBid.mono) hbids le1_2).2.1) ?_;exact zq.h):P:=a ⟨q⟩
theorem l6(a:Zq Q→P:=by intro zq;refine iS ?_;refine ek ?_;exact zq.h):P:=a ⟨q⟩
theorem q3n(a:Zq Q→P:=by intro zq;refine cS (dk rfl rfl (SlD.mono (rep:=cW) (fun _ _ _ _=>GBid.mono) hbids le1_7).1 (SlD.mono (rep:=cW) (fun _ _ _ _=>GBid.mono) hbids le1_7).2.1) ?_;exact zq.h):P:=a ⟨q⟩
theorem q3o(a:Zq Q→P:=by intro zq;refine dM (fD 2) ?_;refine ee ?_;exact zq.h):P:=a ⟨q⟩
theorem q3p(a:Zq Q→P:=by intro zq;refine T.exit (iO (iO (j9 (fA (K.seq (T.region ?_))))));exact zq.h):P:=a ⟨q⟩
theorem q3q(a:Zq Q→P:=by intro zq;refine dy ?_;refine cS (jb) ?_;refine dy ?_;exact zq.h):P:=a ⟨q⟩
theorem q3r(a:Zq Q→P:=by intro zq;dsimp only [zdH,zeI];refine jk ?_;exact zq.h):P:=a ⟨q⟩
theorem q3s(a:Zq Q→P:=by intro zq;refine jk ?_;refine fS ?_;refine jf ?_;refine dN ?_;refine dT rfl (cT) rfl (iv 3 rfl rfl rfl rfl b6) ?_;refine q1C ?_;refine jh ?_;exact zq.h):P:=a ⟨q⟩
theorem q3t(a:Zq Q→P:=by intro zq;refine cS (dk rfl rfl hl.1 hl.2.1) ?_;exact zq.h):P:=a ⟨q⟩
theorem q3u(a:Zq Q→P:=by intro zq;refine dy ?_;refine TL.nil (fA ?_);exact zq.h):P:=a ⟨q⟩
theorem q3v(a:Zq Q→P:=by intro zq;refine ⟨(fun w hw=>(hw.frLe (i:=2) rfl le1_2).sub Sx),?_⟩;exact zq.h):P:=a ⟨q⟩
theorem q3w(a:Zq Q→P:=by intro zq;refine ⟨(fun w hw=>(hw.frLe (i:=2) rfl le1_3).sub Sx),?_⟩;exact zq.h):P:=a ⟨q⟩
theorem q3x(a:Zq Q→P:=by intro zq;refine dz (T.ret (gk (gp (gk (gk (gp (gk ?_)))))));exact zq.h):P:=a ⟨q⟩
theorem q3y(a:Zq Q→P:=by intro zq;refine jk ?_;refine fS ?_;refine jf ?_;refine dN ?_;refine dT rfl (cT) rfl (iv 5 rfl rfl rfl rfl b6) ?_;refine q1C ?_;refine jh ?_;exact zq.h):P:=a ⟨q⟩
theorem mf(a:Zq Q→P:=by intro zq;refine ek ?_;refine il ?_;exact zq.h):P:=a ⟨q⟩
theorem mw(a:Zq Q→P:=by intro zq;refine ee ?_;refine dZ ?_;exact zq.h):P:=a ⟨q⟩
theorem mr(a:Zq Q→P:=by intro zq;refine gy ?_;refine gn ?_;exact zq.h):P:=a ⟨q⟩
theorem q3C(a:Zq Q→P:=by intro zq;refine cS (dk rfl rfl hbids.1 hbids.2.1) ?_;exact zq.h):P:=a ⟨q⟩
theorem q3D(a:Zq Q→P:=by intro zq;refine cS (ka rfl rfl rfl a7) ?_;refine dy ?_;exact zq.h):P:=a ⟨q⟩
theorem q3E(a:Zq Q→P:=by intro zq;refine q1i ?_;refine dy ?_;refine jh ?_;exact zq.h):P:=a ⟨q⟩
theorem q3F(a:Zq Q→P:=by intro zq;refine cX (mE rfl rfl) ?_;exact zq.h):P:=a ⟨q⟩
theorem q3G(a:Zq Q→P:=by intro zq;refine dY ?_;refine jE ?_;exact zq.h):P:=a ⟨q⟩
theorem q3H(a:Zq Q→P:=by intro zq;refine dc rfl (cT) rfl rfl (Ew.alloc rfl) ?_;exact zq.h):P:=a ⟨q⟩
theorem q3I(a:Zq Q→P:=by intro zq;refine gn ?_;refine dM (iv 7 rfl rfl rfl rfl b6) ?_;refine ee ?_;exact zq.h):P:=a ⟨q⟩
theorem q3J(a:Zq Q→P:=by intro zq;refine jk ?_;refine jf ?_;refine dN ?_;refine dT rfl (cT) rfl (iv 2 rfl rfl rfl rfl b6) ?_;refine q1C ?_;refine q2q ?_;exact zq.h):P:=a ⟨q⟩
theorem q3K(a:Zq Q→P:=by intro zq;refine dy ?_;refine cS (dh (v:= .int .i64 (wI (4* (i_5:Int))))) ?_;refine cS (dh (v:= .int .i64 (wI ((wI (4* (i_5:Int)))+4)))) ?_;exact zq.h):P:=a ⟨q⟩
theorem q3L(a:Zq Q→P:=by intro zq;refine dN ?_;refine dK rfl (cT) rfl rfl (dL 0 (i:=i_5) rfl rfl rfl rfl rfl a7) (fun w hw=>hw.sub Sx) ?_;refine dN ?_;exact zq.h):P:=a ⟨q⟩
theorem km(a:Zq Q→P:=by intro zq;refine gv 0 rfl ?_;exact zq.h):P:=a ⟨q⟩
theorem q3N(a:Zq Q→P:=by intro zq;refine dz (T.ret (gp (gk (gp (gk (gp (gk ?_)))))));refine K.bq ?_;exact zq.h):P:=a ⟨q⟩
theorem kJ(a:Zq Q→P:=by intro zq;refine TL.run 4 rfl ?_;exact zq.h):P:=a ⟨q⟩
theorem q3P(a:Zq Q→P:=by intro zq;refine fP ?_;refine fG ?_;exact zq.h):P:=a ⟨q⟩
theorem q3Q(a:Zq Q→P:=by intro zq;refine dy ?_;refine TL.nil (fA (K.seq (T.region ?_)));exact zq.h):P:=a ⟨q⟩
theorem q3R(a:Zq Q→P:=by intro zq;refine dN ?_;refine dK rfl (cT) rfl rfl (dL 2 (i:=i_5) rfl rfl rfl rfl rfl a7) (fun w hw=>hw.sub Sx) ?_;refine dN ?_;exact zq.h):P:=a ⟨q⟩
theorem q3S(a:Zq Q→P:=by intro zq;refine gO ?_;refine il ?_;exact zq.h):P:=a ⟨q⟩
theorem q3T(a:Zq Q→P:=by intro zq;refine q1i ?_;refine jh ?_;exact zq.h):P:=a ⟨q⟩
theorem q3U(a:Zq Q→P:=by intro zq;refine iy ?_;refine fS ?_;exact zq.h):P:=a ⟨q⟩
theorem q3V(a:Zq Q→P:=by intro zq;refine dS (.still 0 (.still 1 (.still 2 (.still 3 (.still 4 (.still 5 (.still 6 .done))))))) _ b0 (List.Sublist.refl _) ?_;exact zq.h):P:=a ⟨q⟩
theorem q3W(a:Zq Q→P:=by intro zq;refine dy ?_;refine lS ?_;exact zq.h):P:=a ⟨q⟩
theorem q3X(a:Zq Q→P:=by intro zq;refine cX (Ew.bv 1 0 a8 (xs:=([107,101,121]:List Int)) b0 b0 rfl rfl rfl rfl rfl rfl a8) ?_;exact zq.h):P:=a ⟨q⟩
theorem q3Y(a:Zq Q→P:=by intro zq;refine eH ?_;refine T.pick [1,0,2] rfl a8 ?_;exact zq.h):P:=a ⟨q⟩
theorem q3Z(a:Zq Q→P:=by intro zq;refine gn ?_;refine cS (di 5) ?_;exact zq.h):P:=a ⟨q⟩
theorem ia(a:Zq Q→P:=by intro zq;refine TS.done ?_;exact zq.h):P:=a ⟨q⟩
theorem q31(a:Zq Q→P:=by intro zq;refine TL.run 10 rfl ?_;refine fG ?_;exact zq.h):P:=a ⟨q⟩
theorem q32(a:Zq Q→P:=by intro zq;refine cS (dL 3 (i:=((nth x0_.bids ((nth x0_.order at_8.toNat).toNat)).Product).toNat) rfl rfl rfl rfl a7 a7) ?_;exact zq.h):P:=a ⟨q⟩
theorem q33(a:Zq Q→P:=by intro zq;refine jL ?_;refine cX (de rfl rfl rfl (fun w hw=>zcf _ w (hw.fr (i:=2) rfl) product 0 ((l.length:Int) - 1))) ?_;refine kZ ?_;exact zq.h):P:=a ⟨q⟩
end
theorem d8 {P:Prop}(a:P:=by exact eQ rfl rfl (fun w' hw=>⟨rfl,hw.isBelow⟩)):P:=a
theorem eG {P:Prop}(a:P:=by exact List.Sublist.refl _):P:=a
theorem jo {P:Prop}(a:P:=by exact (.c (.c (.c (.c .nil))))):P:=a
theorem kn {P:Prop}(a:P:=by exact (.c (.c (.c (.c (.c .nil)))))):P:=a
theorem kY {P:Prop}(a:P:=by exact cY () hk .nil (List.Sublist.refl _)):P:=a
theorem kW {P:Prop}(a:P:=by exact fh rfl rfl rfl (fun w' hw=>⟨rfl,hw.isBelow⟩)):P:=a
theorem lZ {P:Prop}(a:P:=by exact (.c (.c (.c (.c (.c (.c .nil))))))):P:=a
theorem lU {P:Prop}(a:P:=by exact eQ rfl rfl (fun w' hw=>⟨⟨⟩,trivial,rfl,dp (hw.pick (idx:=[0,1]) rfl a8) hS0 (Frz.Le.refl _)⟩)):P:=a
theorem mx {P:Prop}(a:P:=by exact (.c (.c (.c .nil)))):P:=a
theorem q4d {P:Prop}(a:P:=by exact cY true hk (.c (.c (.c (.c (.c .nil))))) (List.Sublist.refl _)):P:=a
theorem q4e {P:Prop}(a:P:=by exact ih (i+1) a7):P:=a
theorem q4f {P:Prop}(a:P:=by exact cY () trivial (.c (.c (.c (.c (.c (.c .nil)))))) (List.Sublist.refl _)):P:=a
theorem q4g {P:Prop}(a:P:=by exact ⟨hk,inferInstance⟩):P:=a
theorem q4h {P:Prop}(a:P:=by exact K.next (i_3+1) hk a7 (.c (.c (.c (.c .nil)))) (List.Sublist.refl _)):P:=a
theorem q4i {P:Prop}(a:P:=by exact K.next ((i_6+1),(l_4.set i_6 (wI ((nth l_4 i_6)+(max ((wI ((nth l_4 i_6) *x0_.increment.Step)) / 100) 1))))) hk b5 (.c (.c (.c (.c (.c .nil))))) (List.Sublist.refl _)):P:=a
theorem q4j {P:Prop}(a:P:=by exact K.next (m_9',wI (j_6 - 1),((l_7.set j_6.toNat (nth l_7 ((wI (j_6 - 1)).toNat))).set ((wI (j_6 - 1)).toNat) (nth l_7 j_6.toNat)),F4) ⟨hk,le2_4⟩ b5 (.c (.c (.c (.c (.c (.c .nil)))))) (List.Sublist.refl _)):P:=a
theorem q4k {P:Prop}(a:P:=by exact (.c (.c (.c (.c (.c (.c (.c .nil)))))))):P:=a
theorem q4l {P:Prop}(a:P:=by exact ⟨hk,(Frz.Le.refl _)⟩):P:=a
theorem q4m {P:Prop}(a:P:=by exact eQ rfl rfl (fun w' hw=>⟨⟨⟩,trivial,rfl,dp (hw.pick (idx:=[1,2]) rfl a8) hS0 (Frz.Le.refl _)⟩)):P:=a
theorem q4n {P:Prop}(a:P:=by exact cY (false,F25) ⟨hk,le20_25⟩ (.c .nil) (List.Sublist.refl _)):P:=a
theorem q4o {P:Prop}(a:P:=by exact cY false hk (.c .nil) (List.Sublist.refl _)):P:=a
theorem q4p {P:Prop}(a:P:=by exact cY l_3 hk (.c .nil) (List.Sublist.refl _)):P:=a
theorem q4q {P:Prop}(a:P:=by exact cY l_4 hk (.c .nil) (List.Sublist.refl _)):P:=a
theorem q4r {P:Prop}(a:P:=by exact cY true hk (.c (.c (.c .nil))) (List.Sublist.refl _)):P:=a
theorem q4s {P:Prop}(a:P:=by exact eQ rfl rfl (fun w' hw=>⟨.slice none 0 0,trivial,rfl,hw.sub Sx⟩)):P:=a
theorem q4t {P:Prop}(a:P:=by exact eQ rfl rfl (fun w' hw=>⟨v',trivial,rfl,hw.sub Sx⟩)):P:=a
theorem q4u {P:Prop}(a:P:=by exact K.bE rfl rfl rfl rfl (fun w' hw=>⟨rfl,hw.isBelow⟩)):P:=a
theorem q4v {P:Prop}(a:P:=by exact cY (false,F20) ⟨hk,(Frz.Le.refl _)⟩ (.c .nil) (List.Sublist.refl _)):P:=a
theorem q4w {P:Prop}(a:P:=by exact (.c (.c (.c (.c (.c (.c (.c (.c .nil))))))))):P:=a
theorem q4x {P:Prop}(a:P:=by exact cY () trivial (.b (kg h1) .nil) (List.Sublist.refl _)):P:=a
theorem q4y {P:Prop}(a:P:=by exact cY () trivial (.b (iL h1).symm .nil) (List.Sublist.refl _)):P:=a
theorem q4z {P:Prop}(a:P:=by exact eQ rfl rfl (fun w' hw=>⟨(.slice none 0 0),F1.toFrz,(SlC.nil _ 1),rfl,dp (hw.pick (idx:=[0,1]) rfl a8) hS0 (Frz.Le.refl _)⟩)):P:=a
theorem q4A {P:Prop}(a:P:=by exact cY (g39,v29_,c29_,v31_0_0,v37) ⟨inferInstance,inferInstance,hv37⟩ (.c (.c (.c .nil))) (List.Sublist.refl _)):P:=a
theorem q4B {P:Prop}(a:P:=by exact eQ rfl rfl (fun w' hw=>⟨⟨⟩,trivial,rfl,dp (hw.pick (idx:=[1,2,3,4,5,6,7]) rfl a8) hS0 (Frz.Le.refl _)⟩)):P:=a
theorem q4C {P:Prop}(a:P:=by exact cY (out_3,vout_3) ⟨hk,inferInstance⟩ (.c .nil) (List.Sublist.refl _)):P:=a
theorem q4D {P:Prop}(a:P:=by exact K.next i_5' ⟨hk,a7⟩ a7 (.c (.c (.c .nil))) (List.Sublist.refl _)):P:=a
theorem q4E {P:Prop}(a:P:=by exact jx rfl (fun w' hw=>⟨⟨⟩,trivial,rfl,dp (hw.pick (idx:=[0,1]) rfl a8) hS0 (Frz.Le.refl _)⟩)):P:=a
theorem q4F {P:Prop}(a:P:=by exact fh rfl rfl rfl (fun w' hw=>⟨(.slice none 0 0),F1.toFrz,(SlC.nil _ 1),rfl,dU hw (i:=0) rfl hS0 (Frz.Le.refl _)⟩)):P:=a
theorem q4G {P:Prop}(a:P:=by exact iE 1 rfl rfl rfl rfl rfl (fun w' hw=>⟨(.slice none 0 0),F2.toFrz,(SlC.nil _ 1),rfl,dU hw (i:=3) rfl hS0 le1_2⟩)):P:=a
theorem q4H {P:Prop}(a:P:=by exact K.next ((i_12+1),(c_10++[(nth l i_12).Reserve]),v60) ⟨hk,inferInstance⟩ b5 (.c (.c (.c (.c .nil)))) (List.Sublist.refl _)):P:=a
theorem q4I {P:Prop}(a:P:=by exact jx rfl (fun w' hw=>⟨⟨⟩,F2.toFrz,trivial,rfl,dp (hw.pick (idx:=[0,1,2,3]) rfl a8) hS0 le1_2⟩)):P:=a
theorem q4J {P:Prop}(a:P:=by exact K.next ((i_8+1),(c_5++[(i_8:Int)]),v54,(c_6++[(nth bids i_8).Change]),v65) ⟨hk,inferInstance,inferInstance⟩ b5 (.c (.c (.c (.c (.c (.c .nil)))))) (List.Sublist.refl _)):P:=a
theorem q4K {P:Prop}(a:P:=by exact fh rfl rfl rfl (fun w' hw=>⟨((.slice none 0 0),v0_1,c0_1,v0_6),F2.toFrz,⟨(SlC.nil _ 1),(SlD.mono (rep:=cR) (fun _ _ _ _=>GBidder.mono) h0_1 le1_2),(SlC.mono h0_6 le1_2)⟩,rfl,dp (hw.pick (idx:=[0,1]) rfl a8) hS0 le1_2⟩)):P:=a
theorem q4L {P:Prop}(a:P:=by exact K.next (i_6',(c_4++[(nth r8 i_6')]),v30) ⟨hk,b5,inferInstance⟩ b5 (.c (.c (.c (.c .nil)))) (List.Sublist.refl _)):P:=a
theorem q4M {P:Prop}(a:P:=by exact cY (l_9.set (((nth bids i_11).Product).toNat) (wI ((nth l_9 (((nth bids i_11).Product).toNat))+(nth n i_11)))) hk (.c (.c (.c (.c (.c (.c (.c (.c (.c .nil))))))))) (List.Sublist.refl _)):P:=a
theorem iC:(∀(p:Prop) [Decidable p],(decide p=true)=p)∧(∀(p:Prop) [Decidable p],decide p=false↔¬p)∧(∀a b:Int,¬a<b↔b≤a)∧(∀a b:Int,¬a≤b↔b<a)∧(∀b:Bool,((!b)=true)=(b=false))∧(∀b:Bool,((!b)=false)=(b=true))∧(∀(p:Prop) [Decidable p],¬ ¬p↔p)∧(∀a b:Bool,((a&&b)=true)=(a=true∧b=true))∧(∀a b:Bool,((a||b)=true)=(a=true∨b=true))∧(∀a b:Bool,(a&&b)=false↔a=false∨b=false)∧(∀a b:Bool,(a||b)=false↔a=false∧b=false):=
 ⟨fun p _=>decide_eq_true_eq,fun p _=>decide_eq_false_iff_not,fun _ _=>Int.not_lt,fun _ _=>Int.not_le,fun _=>Bool.not_eq_true' _,fun _=>Bool.not_eq_false' _,fun _ _=>Decidable.not_not,fun a b=>Bool.and_eq_true a b,fun a b=>Bool.or_eq_true a b,fun a b=>Bool.and_eq_false_iff,fun a b=>Bool.or_eq_false_iff⟩
theorem S0 {α:Type}{a:List α}:a.Sublist a:=List.Sublist.refl _
theorem S1 {α:Type}{a:List α}:[].Sublist a:=List.nil_sublist _
theorem S2 {α:Type}{x:α}{a b:List α}(h:a.Sublist b):(x :: a).Sublist (x :: b):=List.Sublist.cons_cons _ h
theorem S3 {α:Type}{x:α}{a b:List α}(h:a.Sublist b):a.Sublist (x :: b):=List.Sublist.cons _ h
theorem Sx {α:Type}{a b:List α}(h:a.Sublist b:=by repeat first|exact S0|exact S1|refine S2 ?_|refine S3 ?_):a.Sublist b:=h
end Go.Proofs.YtmnjbhkcfghebaaGreatDoor
namespace Go.Proofs.YtmnjbhkcfghebaaGreatDoor
open Go.ChangeShapes Go.WideShapes Go.ChangeAt Go.RowKit
structure Only (S:Nat→Prop) (w w':World):Prop where
 os:w'.os=w.os
 tape:w'.tape=w.tape
 output:w'.output=w.output
 size:w.heap.size≤w'.heap.size
 block:∀k,k<w.heap.size→¬S k→w'.heap[k]?=w.heap[k]?
theorem Only.refl (S:Nat→Prop)(w:World):Only S w w:=⟨rfl,rfl,rfl,Nat.le_refl _,fun _ _ _=>rfl⟩
theorem Only.trans {S:Nat→Prop}{a b c:World}(h:Only S a b)(k:Only S b c):Only S a c:=
 ⟨k.os.trans h.os,k.tape.trans h.tape,k.output.trans h.output,Nat.le_trans h.size k.size,fun i hi hs=>(k.block i (by have:=h.size;omega) hs).trans (h.block i hi hs)⟩
theorem Only.mono {S T:Nat→Prop}{w w':World}(h:Only S w w')(hs:∀k,k<w.heap.size→S k→T k):Only T w w':=
 ⟨h.os,h.tape,h.output,h.size,fun k hk hn=>h.block k hk fun hk'=>hn (hs k hk hk')⟩
theorem Only.of_below_new {w w':World}(h:Below w.heap.size w w')(S:Nat→Prop):Only S w w':=⟨h.os,h.tape,h.output,h.size,fun k hk _=>h.block k hk⟩
theorem Only.below {S:Nat→Prop}{B:Nat}{w w':World}(h:Only S w w')(hB:B≤w.heap.size)(hs:∀k,S k→B≤k):Below B w w':=
 ⟨h.os,h.tape,h.output,h.size,fun k hk=>h.block k a7 fun hk'=>by have:=hs k hk';omega⟩
theorem Only.alloc {S:Nat→Prop}{a w:World}(h:Only S a w)(o:Obj):Only S a (w.alloc o):=
 h.trans ⟨rfl,rfl,rfl,by simp,fun k hk _=>Below.heap_alloc _ _ _ hk⟩
theorem Only.cell {S:Nat→Prop}{w w':World}(h:Only S w w'){p:Addr}(hp:p.block<w.heap.size)(hn:¬S p.block):w'.cell? p=w.cell? p:=World.cell?_of_block (w:=w) (h.block p.block hp hn)
theorem zjF {w:World}{a:Addr}{v:Value}(h:w.cell? a=some v):a.block<w.heap.size:=by
 unfold World.cell? at h
 cases hb:w.heap[a.block]? with
 |none=>rw [hb] at h;cases h
 |some o=>exact (Array.getElem?_eq_some_iff.1 hb).1
def zl9 (N:Nat)(w:World):Type:={ w':World // Below N w w' }
instance (N:Nat) (w:World):Nonempty (zl9 N w):=⟨⟨w,Below.refl _ _⟩⟩
theorem zfB {H:Type}{enc:TypeId×Value→H}{P:Program}(hl:laidOutB P=true){W W':World}(hb:Below W.heap.size W W'):
  ∀ {ts:List TypeId} {vs:List Value} {ds:List (DataW H)} {p:List MemPlace},(ts.all fun t=>P.readableRec t&&decide (t<P.types.size))=true→
   DataW.TrodAll enc P W 0 (fun _=>true) true ts vs ds p→(∀x∈p,x.block<W.heap.size)→DataW.TrodAll enc P W' 0 (fun b=>decide (b<W.heap.size)) true ts vs ds p
 | [],[],[],_,_,h,_=>h
 | [],_ :: _,_,_,_,h,_=>by cases h
 | [],[],_ :: _,_,_,h,_=>by cases h
 |_ :: _,[],_,_,_,h,_=>by cases h
 |_ :: _,_ :: _,[],_,_,h,_=>by cases h
 |t :: ts,v :: vs,d :: ds,ps,ht,h,hlt=>by
  obtain ⟨p,q,h1,h2,rfl⟩:=h
  simp only [List.all_cons,Bool.and_eq_true,decide_eq_true_eq] at ht
  exact ⟨p,q,Below.trod hl ht.1.1 ht.1.2 h1 hb (fun x hx=>hlt x (by simp [hx])),zfB hl hb (by simpa using ht.2) h2 (fun x hx=>hlt x (by simp [hx])),rfl⟩
theorem zkg {H:Type}{enc:TypeId×Value→H}{P:Program}{f:Func}{s:ChangeSpec}{tb:TypeId}{W W':World}{args:Array Value}{ds gs:List (DataW H)}{before:List MemPlace}
  (hl:laidOutB P=true) (hr:f.resultTypes= #[tb]) (hb:P.underlying tb=some .bool) (hts:(f.params.toList.all fun t=>P.readableRec t&&decide (t<P.types.size))=true)
  (hv:s.vars=[]) (hs:(s.fn H (ds++gs)).results=[.lit (.bool true)]) (ha:(s.fn H (ds++gs)).args=ds) (hvs:(s.fn H (ds++gs)).vars=[])
  (hW:DataW.Whole enc P f.params.toList s.vars false W args.toList ds gs before) (hB:Below W.heap.size W W'):s.post enc P f false true false false W args (.bool true) W':=by
 have hlt:∀x∈before,x.block<W.heap.size:=fun x hx=>by simpa using hW.lt x hx
 obtain ⟨p,q,hA,hV,e,hz,hn⟩:=hW
 rw [hv] at hV
 have hW:DataW.Whole enc P f.params.toList s.vars false W args.toList ds gs before:=⟨p,q,hA,by rw [hv];exact hV,e,hz,hn⟩
 have hq:q=[]:=by cases gs with
  |nil=>exact hV
  |cons _ _=>exact hV.elim
 subst hq
 refine ⟨ds,gs,before,[],p,[],hW,?_,?_,?_,hB.frame _,fun h=>by cases h⟩
 ·rw [hs,hr]
  exact trodAll_mk1 (shut_bool hb _)
 ·rw [ha]
  exact zfB hl hB hts hA (fun x hx=>hlt x (by rw [e];simp [hx]))
 ·rw [hv,hvs];rfl
theorem own:ownKnob Tryz.prog.godebug=none:=by kernel_rfl
theorem laid:laidOutB Tryz.prog=true:=by kernel_rfl
end Go.Proofs.YtmnjbhkcfghebaaGreatDoor
namespace Go.Proofs.YtmnjbhkcfghebaaGreatDoor
open Go.RowKit
class Calm (F:Fence):Prop where
 fn:∀f,F.fn f
 depth:F.depth=none
 calls:∀ {n:Nat} {P:Program} {f:FuncId} {args:Array Value} {w:World} {R:Ending→World→Prop},Calls P f args w R→CallsIn F n P f args w R
instance:Calm Fence.wide:=⟨fun _=>trivial,rfl,callsIn_wide.2⟩
instance (F:Fence) (l:Nat) [h:Calm F]:Calm (F.inRound l):=⟨h.fn,h.depth,fun k=>CallsIn.inRound l (h.calls k)⟩
def zh6 (o:Oper):Bool:=match o.op with| .defer _=>false|_=>true
theorem zi2 {o:Oper}(h:zh6 o=true):∀c,o.op≠ .defer c:=fun c e=>by simp [zh6,e] at h
section
variable {F:Fence}{P:Program}{ops:Array Oper}{Q:Exit→Act→World→Prop}{md:Region.Mode}{S:World→Prop}
theorem zii [hF:Calm F]{o:Oper}{a:Act}{w:World}{K:Act→World→Prop}(hd:∀c,o.op≠ .defer c)(h:o.uponIn F 0 P a K Q ((execOp a.eval o).run P w)):o.wpIn F 0 P a w K Q:=
 ⟨fun f _=>hF.fn f,by rw [Oper.semAt_eq _ _ _ hd];exact h⟩
theorem YieldsIf.wpOpIn [hF:Calm F]{i:Nat}{o:Oper}{v:Value}{a:Act}(hd:∀c,o.op≠ .defer c)(hi:ops[i]?=some o)(hy:YieldsIf P ops S o v a)
  {K:Act→World→Prop} {w:World} (hS:S w) (h:K (a.put o.dst v) w):wpOpIn F 0 P ops Q i K a w:=by
 unfold Go.wpOpIn
 simp only [hi]
 rcases hy with ⟨hw,hv⟩|⟨hw,rfl⟩
 ·simp only [hw,if_true];exact zii hd (by rw [hv w hS];exact h)
 ·simp only [hw,Bool.false_eq_true,if_false];exact ⟨fun f _=>hF.fn f,h⟩
theorem zhQ [hF:Calm F]{j:Nat}{oi oj:Oper}{v:Value}(hj:ops[j]?=some oj)(hap:oi.apart ops oj=true)
  (hsi:∀cs b,oi.op≠ .select cs b) (hsj:∀cs b,oj.op≠ .select cs b) (hdj:∀c,oj.op≠ .defer c)
  (hQ:∀c a w,Q (.panic c) (a.put oi.dst v) w→Q (.panic c) a w) {K:Act→World→Prop} {a:Act} {w:World}
  (hy:YieldsIf P ops S oi v a) (h:wpOpIn F 0 P ops Q j K (a.put oi.dst v) w):
  wpOpIn F 0 P ops Q j (fun a' w'=>YieldsIf P ops S oi v a'∧K (a'.put oi.dst v) w') a w:=by
 obtain ⟨h1,h2,h3⟩:=Oper.apart_spec hap
 have keep:∀(a:Act),YieldsIf P ops S oi v a→∀u,YieldsIf P ops S oi v (a.put oj.dst u):=fun a hy u=>
  hy.of_same (execOp_put oi hsi a oj.dst u h3) (wanted_put oi a oj.dst u h3)
 have keepD:∀d,YieldsIf P ops S oi v { a with defers:=d :: a.defers }:=fun d=>hy.of_same rfl rfl
 unfold wpOpIn at*
 simp only [hj] at*
 rw [wanted_put oj a oi.dst v h1] at h
 split
 ·rename_i hw
  simp only [hw,if_true] at h
  refine zii hdj ?_
  have h:=h.2
  rw [Oper.semAt_eq _ _ _ hdj,execOp_put oj hsj a oi.dst v h1] at h
  generalize (execOp a.eval oj).run P w=r at*
  cases r with
  |ok x w'=>
   cases x <;> simp only [Oper.uponIn] at h ⊢
   case value u=>exact ⟨keep a hy u,by rw [←Act.put_comm a v u h2];exact h⟩
   case skip=>exact ⟨keep a hy _,by rw [←Act.put_comm a v undef h2];exact h⟩
   case defer d=>
    refine ⟨keep _ (keepD d) _,?_⟩
    rw [←Act.put_comm _ v undef h2,←Act.put_defers]
    exact h
   case enter f args=>
    refine ⟨h.1,CallsIn.mono h.2 fun e w'' he=>?_⟩
    cases e with
    |returned u=>exact ⟨keep a hy u,by rw [←Act.put_comm a v u h2];exact he⟩
    |panicked c=>exact hQ _ _ _ he
    |outgrown=>exact he
   case row row args=>exact ⟨h.1,RowsIn.mono h.2 fun u w'' he=>⟨keep a hy u,by rw [←Act.put_comm a v u h2];exact he⟩⟩
   case round l f tmps assign body=>
    refine ⟨h.1,RoundIn.mono h.2 fun e w'' he=>?_⟩
    cases e with
    |returned u=>exact ⟨keep a hy u,by rw [←Act.put_comm a v u h2];exact he⟩
    |panicked c=>exact hQ _ _ _ he
    |outgrown=>exact he
  |halt x w'=>
   cases x <;> simp only [Oper.uponIn] at h ⊢
   case panic u=>exact hQ _ _ _ h
 ·rename_i hw
  simp only [hw] at h
  exact ⟨fun f _=>hF.fn f,keep a hy _,by rw [←Act.put_comm a v undef h2];exact h.2⟩
def zfZ:Op→Bool
 | .move _=>true
 | .extract _ _=>true
 |_=>false
theorem zkB {ρ:Operand→Value}{o:Oper}(hm:zfZ o.op=true){w:World}{v:Value}(h:(execOp ρ o).run P w= .ok (.value v) w)(w':World):(execOp ρ o).run P w'= .ok (.value v) w':=by
 unfold execOp at h ⊢
 cases ho:o.op with
 |move x=>simp only [ho] at h ⊢;simpa using h
 |extract t ix=>
  simp only [ho] at h ⊢
  unfold Instr.extract at h ⊢
  cases hx:ρ t with
  |tuple vs=>simp only [hx] at h ⊢;split at h <;> simp_all
  |_=>simp [hx] at h
 |_=>rw [ho] at hm;cases hm
theorem YieldsIf.free {S':World→Prop}{o:Oper}{v:Value}{a:Act}{w:World}(hm:zfZ o.op=true)(hS:S w)(h:YieldsIf P ops S o v a):YieldsIf P ops S' o v a:=
 h.imp (fun ⟨h1,h2⟩=>⟨h1,fun w' _=>zkB hm (h2 w hS) w'⟩) id
def depB (md:Region.Mode)(ops:Array Oper):Nat→Nat→Nat→Bool
 |0,_,_=>false
 |f+1,j,i=>match ops[j]? with
  |some o=>o.after.toList.any fun e=>Region.binds md e&&(Nat.beq e.on i||depB md ops f e.on i)
  |none=>false
def jX (md:Region.Mode)(ops:Array Oper)(j:Nat)(listed:Array Bool):Bool:=(List.range ops.size).all fun i=>(!(listed.getD i false)||((ops[i]?).map (zfZ ·.op)).getD false)||depB md ops ops.size j i
def ClosedL (md:Region.Mode)(ops:Array Oper)(listed:Array Bool):Prop:=∀k o,ops[k]?=some o→listed.getD k false=true→∀e∈o.after,Region.binds md e=true→listed.getD e.on false=true
theorem ClosedL.nil (n:Nat):ClosedL md ops (Array.replicate n false):=fun k o _ h=>by
 rcases Nat.lt_or_ge k n with h'|h'
 ·simp [h'] at h
 ·simp [Array.getElem?_eq_none,h'] at h
theorem ClosedL.step {j:Nat}{listed:Array Bool}(h:ClosedL md ops listed)(hj:j∈Region.ready md ops listed):ClosedL md ops (listed.setIfInBounds j true):=fun k o ho hk e he hb=>by
 by_cases hjk:j=k
 ·subst hjk
  obtain ⟨_,o',ho',hall⟩:=mem_ready.1 hj
  rw [ho] at ho';obtain rfl:=Option.some.inj ho'
  exact getD_set_true (hall e he hb)
 ·rw [getD_set_ne false hjk] at hk
  exact getD_set_true (h k o ho hk e he hb)
theorem zgV {listed:Array Bool}(hc:ClosedL md ops listed){i:Nat}:∀(f j:Nat),(∀o,ops[j]?=some o→∀e∈o.after,Region.binds md e=true→listed.getD e.on false=true)→depB md ops f j i=true→listed.getD i false=true
 |0,_,_,h=>by cases h
 |f+1,j,hj,h=>by
  unfold depB at h
  cases ho:ops[j]? with
  |none=>rw [ho] at h;cases h
  |some o=>
   rw [ho] at h
   obtain ⟨e,he,h2⟩:=List.any_eq_true.1 h
   have hb:=(Bool.and_eq_true _ _▸h2).1
   have hl:=hj o ho e (Array.mem_toList_iff.1 he) hb
   rcases Bool.or_eq_true _ _▸(Bool.and_eq_true _ _▸h2).2 with h3|h3
   ·rw [←Nat.eq_of_beq_eq_true h3];exact hl
   ·exact zgV hc f e.on (fun o' ho' e' he' hb'=>hc e.on o' ho' hl e' he' hb') h3
def lN (F:Fence)(P:Program)(md:Region.Mode)(ops:Array Oper)(Q:Exit→Act→World→Prop):Nat→Array Bool→(World→Prop)→Act→World→Prop
 |0,listed,_,a,w=>Region.ready md ops listed=[]∧Q .normal a w
 |fuel+1,listed,S,a,w=>
  (Region.ready md ops listed=[]→Q .normal a w)∧
  ∀i∈Region.ready md ops listed,wpOpIn F 0 P ops Q i (fun a' w'=>∃S':World→Prop,(jX md ops i listed=false→S'=S)∧S' w'∧lN F P md ops Q fuel (listed.setIfInBounds i true) S' a' w') a w
theorem ze1:∀(fuel:Nat) (listed:Array Bool) (S:World→Prop) (a:Act) (w:World),lN F P md ops Q fuel listed S a w→wpAnyIn F 0 P md ops Q fuel listed a w
 |0,_,_,_,_,h=>h
 |fuel+1,_,_,_,_,h=>⟨h.1,fun i hi=>wpOpIn_mono (fun a' w' ⟨S',_,_,h'⟩=>ze1 fuel _ S' a' w' h') (h.2 i hi)⟩
theorem zh4 [hF:Calm F]{i:Nat}{oi:Oper}{v:Value}(hi:ops[i]?=some oi)(hsel:∀(j:Nat) (o:Oper) cs b,ops[j]?=some o→o.op≠ .select cs b)(hdef:∀(j:Nat) (o:Oper) c,ops[j]?=some o→o.op≠ .defer c)
  (hQ:∀c a w,Q (.panic c) (a.put oi.dst v) w→Q (.panic c) a w):
  ∀(fuel:Nat) (S:World→Prop) (listed:Array Bool) (a:Act) (w:World),
   (∀j oj,ops[j]?=some oj→j≠i→listed.getD j true=false→(∀e∈oj.after,Region.binds md e=true→e.on≠i)→oi.apart ops oj=true)→
   i∈Region.ready md ops listed→ClosedL md ops listed→YieldsIf P ops S oi v a→S w→
   lN F P md ops Q fuel (listed.setIfInBounds i true) S (a.put oi.dst v) w→lN F P md ops Q (fuel+1) listed S a w:=by
 intro fuel
 induction fuel with
 |zero=>
  intro S listed a w _ hr _ hy hS H
  refine ⟨fun h=>(by rw [h] at hr;cases hr),fun j hj=>?_⟩
  by_cases hji:j=i
  ·subst hji;exact YieldsIf.wpOpIn (hdef _ _ · hi) hi hy hS ⟨S,fun _=>rfl,hS,H⟩
  ·have:=ready_mono hj hji
   rw [H.1] at this
   cases this
 |succ fuel ih=>
  intro S listed a w hfree hr hcl hy hS H
  refine ⟨fun h=>(by rw [h] at hr;cases hr),fun j hj=>?_⟩
  by_cases hji:j=i
  ·subst hji;exact YieldsIf.wpOpIn (hdef _ _ · hi) hi hy hS ⟨S,fun _=>rfl,hS,H⟩
  ·have h1:=H.2 j (ready_mono hj hji)
   obtain ⟨hjun,oj,hoj,hall⟩:=mem_ready.1 hj
   have hiun:=(mem_ready.1 hr).1
   have hnot:∀e∈oj.after,Region.binds md e=true→e.on≠i:=fun e he hb heq=>by
    have h1:=hall e he hb
    rw [heq] at h1
    rcases Nat.lt_or_ge i listed.size with h'|h'
    ·simp [h'] at hiun h1;rw [hiun] at h1;cases h1
    ·simp [Array.getElem?_eq_none h'] at h1
   have hsz:i<listed.size:=by
    rcases Nat.lt_or_ge i listed.size with h'|h'
    ·exact h'
    ·simp [Array.getElem?_eq_none h'] at hiun
   have hisz:i<ops.size:=(Array.getElem?_eq_some_iff.1 hi).1
   have hset:(listed.setIfInBounds i true).getD i false=true:=by simp [hsz]
   have hbar:zfZ oi.op=false→jX md ops j (listed.setIfInBounds i true)=false:=fun hm=>by
    cases hb:jX md ops j (listed.setIfInBounds i true) with
    |false=>rfl
    |true=>
     have h5:=List.all_eq_true.1 hb i (List.mem_range.2 hisz)
     rw [hset,hi] at h5
     simp only [Option.map_some,Option.getD_some,hm,Bool.not_true,Bool.or_false,Bool.false_or] at h5
     have h7:=zgV hcl ops.size j (fun o ho=>by rw [hoj] at ho;obtain rfl:=Option.some.inj ho;exact hall) h5
     simp [hsz] at hiun h7
     rw [hiun] at h7;cases h7
   have hbar2:zfZ oi.op=true→jX md ops j (listed.setIfInBounds i true)=jX md ops j listed:=fun hm=>by
    unfold jX
    rw [Bool.eq_iff_iff,List.all_eq_true,List.all_eq_true]
    refine forall_congr' fun k=>forall_congr' fun _=>?_
    by_cases hk:i=k
    ·subst hk;rw [hi];simp [hm]
    ·rw [getD_set_ne false hk]
   have h2:=zhQ hoj (hfree j oj hoj hji hjun hnot) (fun cs b=>hsel i oi cs b hi) (fun cs b=>hsel j oj cs b hoj) (hdef _ _ · hoj) hQ hy h1
   have hfree':∀k ok,ops[k]?=some ok→k≠i→(listed.setIfInBounds j true).getD k true=false→
     (∀e∈ok.after,Region.binds md e=true→e.on≠i)→oi.apart ops ok=true:=fun k ok hk hki hun hno=>by
    refine hfree k ok hk hki ?_ hno
    by_cases hjk:j=k
    ·subst hjk;exact hjun
    ·rw [getD_set_ne true hjk] at hun;exact hun
   refine wpOpIn_mono (fun a' w' h3=>?_) h2
   obtain ⟨hy',S',hS',hw',h4⟩:=h3
   cases hm:zfZ oi.op with
   |false=>
    obtain rfl:=hS' (hbar hm)
    refine ⟨_,fun _=>rfl,hw',ih _ (listed.setIfInBounds j true) a' w' hfree' (ready_mono hr (Ne.symm hji)) (hcl.step hj) hy' hw' ?_⟩
    rw [Array.setIfInBounds_comm _ _ hji]
    exact h4
   |true=>
    refine ⟨S',fun hb=>hS' ((hbar2 hm).trans hb),hw',ih S' (listed.setIfInBounds j true) a' w' hfree' (ready_mono hr (Ne.symm hji)) (hcl.step hj) (YieldsIf.free hm hS hy') hw' ?_⟩
    rw [Array.setIfInBounds_comm _ _ hji]
    exact h4
def ze6 (ops:Array Oper):Bool:=ops.all zh6
theorem zhy (h:ze6 ops=true)(j:Nat)(o:Oper)(c:Call)(ho:ops[j]?=some o):o.op≠ .defer c:=
 zi2 (Array.all_eq_true_iff_forall_mem.1 h o (Array.mem_of_getElem? ho)) c
theorem zig [hF:Calm F]{i:Nat}{oi:Oper}{v:Value}{fuel:Nat}{listed:Array Bool}{a:Act}{w:World}(hi:ops[i]?=some oi)
  (hs:Region.noSelect ops=true) (hd:ze6 ops=true) (hf:Region.free md ops listed i=true) (hr:(Region.ready md ops listed).contains i=true) (hc:ClosedL md ops listed)
  (hQ:∀c a w,Q (.panic c) (a.put oi.dst v) w→Q (.panic c) a w) (hy:YieldsIf P ops S oi v a) (hS:S w)
  (h:lN F P md ops Q fuel (listed.setIfInBounds i true) S (a.put oi.dst v) w):lN F P md ops Q (fuel+1) listed S a w:=
 zh4 hi (Region.noSelect_spec hs) (zhy hd) hQ fuel S listed a w (Region.free_spec hi hf) (by simpa using hr) hc hy hS h
theorem zgU {rs:List Nat}{fuel:Nat}{listed:Array Bool}{a:Act}{w:World}(hr:Region.ready md ops listed=rs)(hne:rs≠[])
  (h:∀i∈rs,wpOpIn F 0 P ops Q i (fun a' w'=>∃S':World→Prop,(jX md ops i listed=false→S'=S)∧S' w'∧lN F P md ops Q fuel (listed.setIfInBounds i true) S' a' w') a w):lN F P md ops Q (fuel+1) listed S a w:=
 ⟨fun h0=>absurd (hr▸h0) hne,hr▸h⟩
theorem zim {listed:Array Bool}{a:Act}{w:World}(hr:Region.ready md ops listed=[])(h:Q .normal a w):
  ∀fuel,lN F P md ops Q fuel listed S a w
 |0=>⟨hr,h⟩
 |_+1=>⟨fun _=>h,by rw [hr];simp⟩
theorem zf8 {id:Nat}{a:Act}{w:World}(hm:P.follows .mixedOrders=true)
  (h:lN F P .any ops Q ops.size (Array.replicate ops.size false) S a { w with drawn:=w.drawn+1 }):(Code.region id ops true).wpIn F 0 P Q a w:=
 wpIn_region_any hm (ze1 _ _ _ _ _ h)
end
abbrev eb:=List (Nat×Value)
def eJ:eb→Nat→Option Value
 | [],_=>none
 |(k,v) :: r,t=>bif Nat.beq k t then some v else eJ r t
def ev (fs:eb):Operand→Option Value
 | .tmp t=>eJ fs t
 | .const v=>some v
 | .global g=>some (.pointer (some ⟨g,0,none⟩))
 | .func f=>some (.func (.func f) #[] #[])
structure Fr (n:Nat) (fs:eb) (a:Act):Prop where
 size:a.tmps.size=n
 get:∀t v,eJ fs t=some v→a.tmps[t]?=some v
theorem Fr.ev {n:Nat}{fs:eb}{a:Act}(h:Fr n fs a){x:Operand}{v:Value}(e:ev fs x=some v):a.eval x=v:=by
 cases x with
 |tmp t=>simp [Act.eval,h.get t v e]
 |const u=>exact Option.some.inj e
 |global g=>exact Option.some.inj e
 |func f=>exact Option.some.inj e
theorem Fr.put {n:Nat}{fs:eb}{a:Act}(h:Fr n fs a){d:Nat}(hd:Nat.blt d n=true)(v:Value):Fr n ((d,v) :: fs) (a.put (some d) v):=by
 have hd':d<n:=by simpa using hd
 refine ⟨by simp [Act.put,h.size],fun t u e=>?_⟩
 simp only [Act.put,eJ] at e ⊢
 by_cases ht:d=t
 ·subst ht
  have:Nat.beq d d=true:=Nat.beq_refl _
  rw [this] at e
  simp at e
  simp [h.size,hd',e]
 ·have:Nat.beq d t=false:=by cases hb:Nat.beq d t with
   |false=>rfl
   |true=>exact absurd (Nat.eq_of_beq_eq_true hb) ht
  rw [this] at e
  rw [Array.getElem?_setIfInBounds_ne ht]
  exact h.get t u e
theorem Fr.put_none {n:Nat}{fs:eb}{a:Act}(h:Fr n fs a)(v:Value):Fr n fs (a.put none v):=h
theorem Fr.nil {n:Nat}{fs:eb}{a:Act}(h:Fr n fs a):Fr n [] a:=⟨h.size,fun _ _ e=>by cases e⟩
def Sub (fs gs:eb):Prop:=∀t v,eJ gs t=some v→eJ fs t=some v
theorem Sub.nil {fs:eb}:Sub fs []:=fun _ _ e=>by cases e
theorem Sub.cons {fs gs:eb}{t:Nat}{v:Value}(h:eJ fs t=some v)(k:Sub fs gs):Sub fs ((t,v) :: gs):=by
 intro u x e
 simp only [eJ] at e
 cases hb:Nat.beq t u with
 |true=>
  rw [hb] at e
  have:=Nat.eq_of_beq_eq_true hb
  subst this
  simp at e
  subst e
  exact h
 |false=>rw [hb] at e;exact k u x e
theorem fc {fs gs:eb}{t:Nat}{k:IntKind}{a b:Int}(h:eJ fs t=some (.int k a))(e:a=b)(k':Sub fs gs):Sub fs ((t, .int k b) :: gs):=Sub.cons (e▸h) k'
theorem e7 {fs gs:eb}{t:Nat}{a b:Bool}(h:eJ fs t=some (.bool a))(e:a=b)(k':Sub fs gs):Sub fs ((t, .bool b) :: gs):=Sub.cons (e▸h) k'
theorem Sub.refl {fs:eb}:Sub fs fs:=fun _ _ e=>e
theorem Fr.sub {n:Nat}{fs gs:eb}{a:Act}(h:Fr n fs a)(k:Sub fs gs):Fr n gs a:=⟨h.size,fun t v e=>h.get t v (k t v e)⟩
structure Ent where
 fp:Nat→Prop
 ok:World→Prop
 loc:∀ {w w':World},(∀g,fp g→w'.heap[g]?=w.heap[g]?)→ok w→ok w'
 lt:∀ {w:World},ok w→∀g,fp g→g<w.heap.size
 nd:∀ {w:World},ok w→∀g,fp g→∀c,w.heap[g]?≠some (.deferred c)
abbrev HS:=List Ent
@[irreducible] def Ent.row (g:Nat) (t:TypeId) (l:List Value):Ent where
 fp:=(· =g)
 ok w:=w.heap[g]?=some (.cells l.toArray t (0,0))
 loc h k:=(h g rfl).trans k
 lt h k e:=by subst e;exact (Array.getElem?_eq_some_iff.1 h).1
 nd h k e c:=by subst e;rw [h];simp
theorem e6 {g:Nat}{t:TypeId}{l:List Value}{k:Nat}:(Ent.row g t l).fp k↔k=g:=by unfold Ent.row;exact Iff.rfl
theorem dC {g:Nat}{t:TypeId}{l:List Value}{w:World}:(Ent.row g t l).ok w↔w.heap[g]?=some (.cells l.toArray t (0,0)):=by unfold Ent.row;exact Iff.rfl
structure Hp (B:World) (M:Nat→Prop) (hs:HS) (w:World):Prop where
 os:w.os=B.os
 tape:w.tape=B.tape
 output:w.output=B.output
 size:B.heap.size≤w.heap.size
 base:∀k,k<B.heap.size→¬M k→w.heap[k]?=B.heap[k]?
 own:∀e∈hs,e.ok w
 new:∀e∈hs,∀g,e.fp g→M g∨B.heap.size≤g
 apart:hs.Pairwise fun e f=>∀g,e.fp g→¬f.fp g
section
variable {B w w':World}{M:Nat→Prop}{hs hs':HS}
theorem Hp.refl (w:World)(M:Nat→Prop):Hp w M [] w:=⟨rfl,rfl,rfl,Nat.le_refl _,fun _ _ _=>rfl,(fun _ h=>by cases h),(fun _ h=>by cases h), .nil⟩
theorem Hp.only (h:Hp B M hs w):Only M B w:=⟨h.os,h.tape,h.output,h.size,h.base⟩
theorem Hp.sub (h:Hp B M hs w)(k:hs'.Sublist hs):Hp B M hs' w:=
 ⟨h.os,h.tape,h.output,h.size,h.base,fun e he=>h.own e (k.subset he),fun e he=>h.new e (k.subset he),h.apart.sublist k⟩
theorem Hp.perm (h:Hp B M hs w)(k:hs.Perm hs'):Hp B M hs' w:=
 ⟨h.os,h.tape,h.output,h.size,h.base,fun e he=>h.own e (k.mem_iff.2 he),fun e he=>h.new e (k.mem_iff.2 he),
  (k.pairwise_iff (fun hxy g hy hx=>hxy g hx hy)).1 h.apart⟩
theorem Hp.same (h:Hp B M hs w)(h1:w'.heap=w.heap)(h2:w'.os=w.os)(h3:w'.tape=w.tape)(h4:w'.output=w.output):Hp B M hs w':=
 ⟨h2.trans h.os,h3.trans h.tape,h4.trans h.output,by rw [h1];exact h.size,fun k a b=>by rw [h1];exact h.base k a b,fun e he=>e.loc (fun g _=>by rw [h1]) (h.own e he),h.new,h.apart⟩
theorem Hp.go {es es':HS}{S:Nat→Prop}(h:Hp B M (es++hs) w)(ho:Only S w w')(hS:∀g,g<w.heap.size→S g→∃e∈es,e.fp g)
  (hok:∀e∈es',e.ok w') (hfp:∀e∈es',∀g,e.fp g→(∃f∈es,f.fp g)∨w.heap.size≤g) (hap:es'.Pairwise fun e f=>∀g,e.fp g→¬f.fp g):Hp B M (es'++hs) w':=by
 have hlt:∀e∈es++hs,∀g,e.fp g→g<w.heap.size:=fun e he g hg=>e.lt (h.own e he) g hg
 have hpw:=List.pairwise_append.1 h.apart
 refine ⟨ho.os.trans h.os,ho.tape.trans h.tape,ho.output.trans h.output,Nat.le_trans h.size ho.size,fun k hk hM=>?_,?_,?_,?_⟩
 ·rw [ho.block k (Nat.lt_of_lt_of_le hk h.size) ?_]
  ·exact h.base k hk hM
  ·intro hs
   obtain ⟨e,he,hg⟩:=hS k (Nat.lt_of_lt_of_le hk h.size) hs
   rcases h.new e (List.mem_append_left _ he) k hg with h1|h1
   ·exact hM h1
   ·omega
 ·intro e he
  rcases List.mem_append.1 he with he|he
  ·exact hok e he
  ·refine e.loc (fun g hg=>ho.block g (hlt e (List.mem_append_right _ he) g hg) fun hs=>?_) (h.own e (List.mem_append_right _ he))
   obtain ⟨f,hf,hfg⟩:=hS g (hlt e (List.mem_append_right _ he) g hg) hs
   exact hpw.2.2 f hf e he g hfg hg
 ·intro e he g hg
  rcases List.mem_append.1 he with he|he
  ·rcases hfp e he g hg with ⟨f,hf,hfg⟩|hn
   ·exact h.new f (List.mem_append_left _ hf) g hfg
   ·exact .inr (Nat.le_trans h.size hn)
  ·exact h.new e (List.mem_append_right _ he) g hg
 ·refine List.pairwise_append.2 ⟨hap,hpw.2.1,fun e he f hf g hg hfg=>?_⟩
  rcases hfp e he g hg with ⟨x,hx,hxg⟩|hn
  ·exact hpw.2.2 x hx f hf g hxg hfg
  ·have:=hlt f (List.mem_append_right _ hf) g hfg
   omega
theorem Hp.below (h:Hp B M hs w)(hb:Below w.heap.size w w'):Hp B M hs w':=
 Hp.go (es:=[]) (es':=[]) (S:=fun _=>False) h (.of_below_new hb _) (fun _ _ h=>h.elim) (fun _ h=>by cases h) (fun _ h=>by cases h) .nil
theorem Hp.fresh {e:Ent}(h:Hp B M hs w)(hb:Below w.heap.size w w')(hok:e.ok w')(hn:∀g,e.fp g→w.heap.size≤g):Hp B M (e :: hs) w':=
 Hp.go (es:=[]) (es':=[e]) (S:=fun _=>False) h (.of_below_new hb _) (fun _ _ h=>h.elim) (fun x hx=>by simp at hx;subst hx;exact hok)
  (fun x hx g hg=>by simp at hx;subst hx;exact .inr (hn g hg)) (List.pairwise_singleton _ _)
theorem Hp.upd {e e':Ent}{S:Nat→Prop}(h:Hp B M (e :: hs) w)(ho:Only S w w')(hS:∀g,g<w.heap.size→S g→e.fp g)(hok:e'.ok w')(hfp:∀g,e'.fp g→e.fp g∨w.heap.size≤g):Hp B M (e' :: hs) w':=
 Hp.go (es:=[e]) (es':=[e']) h ho (fun g hg hs=>⟨e,by simp,hS g hg hs⟩) (fun x hx=>by simp at hx;subst hx;exact hok)
  (fun x hx g hg=>by simp at hx;subst hx;exact (hfp g hg).imp (fun h=>⟨e,by simp,h⟩) id) (List.pairwise_singleton _ _)
theorem zkJ (w:World)(o:Obj):(w.alloc o).heap[w.heap.size]?=some o:=by
 show (w.heap.push o)[w.heap.size]?=_
 simp
theorem Hp.allocRow (h:Hp B M hs w)(t:TypeId)(l:List Value):Hp B M (.row w.heap.size t l :: hs) (w.alloc (.cells l.toArray t)):=
 h.fresh ((Below.refl _ _).alloc (Nat.le_refl _) _) (dC.2 (zkJ w _)) (fun g hg=>by rw [e6.1 hg];exact Nat.le_refl _)
theorem Hp.isBelow (h:Hp B (fun _=>False) hs w):Below B.heap.size B w:=⟨h.os,h.tape,h.output,h.size,fun k hk=>h.base k hk (fun h=>h)⟩
theorem zfX:∀(hs:HS) (i:Nat) (hi:i<hs.length),hs.Perm (hs[i] :: hs.eraseIdx i)
 |_ :: _,0,_=> .refl _
 |x :: r,i+1,hi=>((zfX r i (by simpa using hi)).cons x).trans (.swap _ _ _)
theorem zeQ {e:Ent}{i:Nat}(h:hs[i]?=some e):hs.Perm (e :: hs.eraseIdx i):=by
 obtain ⟨hi,rfl⟩:=List.getElem?_eq_some_iff.1 h
 exact zfX hs i hi
theorem zeF {e e':Ent}{i:Nat}(h:hs[i]?=some e):(e' :: hs.eraseIdx i).Perm (hs.set i e'):=by
 obtain ⟨hi,rfl⟩:=List.getElem?_eq_some_iff.1 h
 have h1:(hs.set i e')[i]?=some e':=by simp [hi]
 have:=zeQ h1
 rw [List.eraseIdx_set_eq] at this
 exact this.symm
theorem Hp.updAt {e e':Ent}{i:Nat}{S:Nat→Prop}(h:Hp B M hs w)(hi:hs[i]?=some e)(ho:Only S w w')(hS:∀g,g<w.heap.size→S g→e.fp g)(hok:e'.ok w')(hfp:∀g,e'.fp g→e.fp g∨w.heap.size≤g):Hp B M (hs.set i e') w':=
 ((h.perm (zeQ hi)).upd ho hS hok hfp).perm (zeF hi)
theorem Hp.get {e:Ent}{i:Nat}(h:Hp B M hs w)(hi:hs[i]?=some e):e.ok w:=h.own e (List.mem_of_getElem? hi)
end
structure Kp (w w':World):Prop where
 size:w.heap.size≤w'.heap.size
 keep:∀(r:Nat) (c:Option (List Deferred)),w.heap[r]?=some (.deferred c)→w'.heap[r]?=some (.deferred c)
theorem Kp.refl (w:World):Kp w w:=⟨Nat.le_refl _,fun _ _ h=>h⟩
theorem Kp.same {w w':World}(h:w'.heap=w.heap):Kp w w':=⟨by rw [h];exact Nat.le_refl _,fun _ _ k=>by rw [h];exact k⟩
theorem Kp.trans {a b c:World}(h:Kp a b)(k:Kp b c):Kp a c:=⟨Nat.le_trans h.size k.size,fun r x hx=>k.keep r x (h.keep r x hx)⟩
theorem Kp.below {w w':World}(h:Below w.heap.size w w'):Kp w w':=⟨h.size,fun r c k=>(h.block r (Array.getElem?_eq_some_iff.1 k).1).trans k⟩
theorem Kp.only {S:Nat→Prop}{w w':World}(h:Only S w w')(hs:∀g,S g→∀c,w.heap[g]?≠some (.deferred c)):Kp w w':=⟨h.size,fun r c k=>(h.block r (Array.getElem?_eq_some_iff.1 k).1 (fun e=>hs r e c k)).trans k⟩
theorem Kp.alloc (w:World)(o:Obj):Kp w (w.alloc o):=Kp.below ((Below.refl _ _).alloc (Nat.le_refl _) o)
def mark (r:Nat):Deferred:={ target:= .collected r,args:= #[] }
def Mk (B D:World)(a:Act)(w:World):Prop:=Kp D w∧∃rs:List Nat,a.defers=rs.map mark∧rs.Nodup∧∀r∈rs,w.heap[r]?=some (.deferred (some []))∧B.heap.size≤r∧D.heap.size≤r
theorem Mk.next {B D w w':World}{a:Act}(h:Mk B D a w)(k:Kp w w'):Mk B D a w':=by
 obtain ⟨h0,rs,h1,h2,h3⟩:=h
 exact ⟨h0.trans k,rs,h1,h2,fun r hr=>⟨k.keep r _ (h3 r hr).1,(h3 r hr).2⟩⟩
theorem Mk.put {B D w:World}{a:Act}(h:Mk B D a w)(d:Option Nat)(v:Value):Mk B D (a.put d v) w:=by
 cases d <;> exact h
section
variable (F:Fence)(P:Program)(n:Nat)(B D:World)(M:Nat→Prop)
structure K (Q:Exit→Act→World→Prop) (e:Exit) (fs:eb) (hs:HS):Prop where
 out:∀a w,Fr n fs a→Hp B M hs w→Mk B D a w→Q e a w
structure T (c:Code) (Q:Exit→Act→World→Prop) (fs:eb) (hs:HS):Prop where
 out:∀a w,Fr n fs a→Hp B M hs w→Mk B D a w→c.wpIn F 0 P Q a w
structure TL (ops:Array Oper) (Q:Exit→Act→World→Prop) (l:List Oper) (fs:eb) (hs:HS):Prop where
 out:∀a w,Fr n fs a→Hp B M hs w→Mk B D a w→wpListIn F 0 P ops Q l a w
end
section
variable {F:Fence}{P:Program}{n:Nat}{B D:World}{M:Nat→Prop}{Q:Exit→Act→World→Prop}{fs:eb}{hs:HS}{ops:Array Oper}{l rest:List Oper}{x y c:Code}{e:Exit}{id id':Nat}
theorem T.seq (h:T F P n B D M x (Exit.then (y.wpIn F 0 P Q) Q) fs hs):T F P n B D M (.seq x y) Q fs hs:=⟨fun a w ha hw hm=>wpIn_seq (h.out a w ha hw hm)⟩
theorem T.block (h:T F P n B D M c (Exit.inBlock id Q) fs hs):T F P n B D M (.block id c) Q fs hs:=⟨fun a w ha hw hm=>wpIn_block (h.out a w ha hw hm)⟩
theorem T.skip (h:K n B D M Q .normal fs hs):T F P n B D M .skip Q fs hs:=⟨fun a w ha hw hm=>wpIn_skip (h.out a w ha hw hm)⟩
theorem T.exit (h:K n B D M Q (.exit id) fs hs):T F P n B D M (.exit id) Q fs hs:=⟨fun a w ha hw hm=>wpIn_exit (h.out a w ha hw hm)⟩
theorem T.ret (h:K n B D M Q .ret fs hs):T F P n B D M .ret Q fs hs:=⟨fun a w ha hw hm=>wpIn_ret (h.out a w ha hw hm)⟩
theorem T.cond {o:Operand}{b:Bool}(hb:ev fs o=some (.bool b))(h1:b=true→T F P n B D M x Q fs hs)(h2:b=false→T F P n B D M y Q fs hs):T F P n B D M (.cond o x y) Q fs hs:=
 ⟨fun a w ha hw hm=>wpIn_cond_split (ha.ev hb) (fun h=>(h1 h).out a w ha hw hm) (fun h=>(h2 h).out a w ha hw hm)⟩
theorem T.bD {o:Operand}{b:Bool}(hb:ev fs o=some (.bool b))(hT:b=true)(h1:T F P n B D M x Q fs hs):T F P n B D M (.cond o x y) Q fs hs:=T.cond hb (fun _=>h1) (fun h=>by rw [hT] at h;cases h)
theorem T.by {o:Operand}{b:Bool}(hb:ev fs o=some (.bool b))(hF:b=false)(h1:T F P n B D M y Q fs hs):T F P n B D M (.cond o x y) Q fs hs:=T.cond hb (fun h=>by rw [hF] at h;cases h) (fun _=>h1)
theorem T.region {l:List Oper}(h:TL F P n B D M l.toArray Q l fs hs):T F P n B D M (.region id l.toArray false) Q fs hs:=⟨fun a w ha hw hm=>wpIn_region_lit (h.out a w ha hw hm)⟩
theorem TL.nil (h:K n B D M Q .normal fs hs):TL F P n B D M ops Q [] fs hs:=⟨fun a w ha hw hm=>wpListIn_nil (h.out a w ha hw hm)⟩
theorem K.seq (h:T F P n B D M y Q fs hs):K n B D M (Exit.then (y.wpIn F 0 P Q) Q) .normal fs hs:=⟨fun a w ha hw hm=>h.out a w ha hw hm⟩
theorem iO {N:Act→World→Prop}(h:K n B D M Q (.exit id) fs hs):K n B D M (Exit.then N Q) (.exit id) fs hs:=⟨fun a w ha hw hm=>h.out a w ha hw hm⟩
theorem gk {N:Act→World→Prop}(h:K n B D M Q .ret fs hs):K n B D M (Exit.then N Q) .ret fs hs:=⟨fun a w ha hw hm=>h.out a w ha hw hm⟩
theorem fA (h:K n B D M Q .normal fs hs):K n B D M (Exit.inBlock id Q) .normal fs hs:=⟨fun a w ha hw hm=>h.out a w ha hw hm⟩
theorem gp (h:K n B D M Q .ret fs hs):K n B D M (Exit.inBlock id Q) .ret fs hs:=⟨fun a w ha hw hm=>h.out a w ha hw hm⟩
theorem j9 (h:K n B D M Q .normal fs hs):K n B D M (Exit.inBlock id Q) (.exit id) fs hs:=⟨fun a w ha hw hm=>by unfold Exit.inBlock;simpa using h.out a w ha hw hm⟩
theorem K.bc (hne:Nat.beq id' id=false)(h:K n B D M Q (.exit id') fs hs):K n B D M (Exit.inBlock id Q) (.exit id') fs hs:=⟨fun a w ha hw hm=>by
 unfold Exit.inBlock
 have:¬id'=id:=fun e=>by rw [e] at hne;have:Nat.beq id id=true:=Nat.beq_refl _;rw [this] at hne;cases hne
 simpa [this] using h.out a w ha hw hm⟩
theorem kX {gs:eb}{hs':HS}(h1:Sub fs gs)(h2:hs'.Sublist hs)(h:T F P n B D M c Q gs hs'):T F P n B D M c Q fs hs:=⟨fun a w ha hw hm=>h.out a w (ha.sub h1) (hw.sub h2) hm⟩
theorem TL.aR {gs:eb}{hs':HS}(h1:Sub fs gs)(h2:hs'.Sublist hs)(h:TL F P n B D M ops Q l gs hs'):TL F P n B D M ops Q l fs hs:=⟨fun a w ha hw hm=>h.out a w (ha.sub h1) (hw.sub h2) hm⟩
def At (n:Nat)(B D:World)(M:Nat→Prop)(fs:eb)(hs:HS)(a:Act)(w:World):Prop:=Fr n fs a∧Hp B M hs w∧Mk B D a w
theorem cY {ι:Type}{G:ι→eb}{H:ι→HS}{φ:ι→Prop}(i:ι)(hi:φ i)(h1:Sub fs (G i))(h2:(H i).Sublist hs):K n B D M (Exit.then (fun a w=>∃i,φ i∧At n B D M (G i) (H i) a w) Q) .normal fs hs:=⟨fun _ _ ha hw hm=>⟨i,hi,ha.sub h1,hw.sub h2,hm⟩⟩
def zlI {ι:Type}(n:Nat)(B D:World)(M:Nat→Prop)(G:ι→eb)(H:ι→HS)(φ:ι→Prop)(μ:ι→Nat)(m:Nat)(a:Act)(w:World):Prop:=∃n',n'<m∧∃j,φ j∧μ j=n'∧Fr n (G j) a∧Hp B M (H j) w∧Mk B D a w
theorem T.loop {ι:Type}(G:ι→eb)(H:ι→HS)(φ:ι→Prop)(μ:ι→Nat)(i:ι)(h0:φ i)(h1:Sub fs (G i))(h2:(H i).Sublist hs)
  (round:∀i,φ i→T F P n B D M c (Exit.then (zlI n B D M G H φ μ (μ i)) Q) (G i) (H i)):T F P n B D M (.loop c) Q fs hs:=
 ⟨fun a w ha hw hm=>wpIn_loop_ghost (fun m a w=>∃j,φ j∧μ j=m∧Fr n (G j) a∧Hp B M (H j) w∧Mk B D a w) (μ i) ⟨i,h0,rfl,ha.sub h1,hw.sub h2,hm⟩
  (fun m a w ⟨j,hj,hm,hfa,hfw,hk⟩=>by subst hm;exact (round j hj).out a w hfa hfw hk)⟩
theorem K.next {ι:Type}{G:ι→eb}{H:ι→HS}{φ:ι→Prop}{μ:ι→Nat}{m:Nat}(j:ι)(hj:φ j)(hm:μ j<m)(h1:Sub fs (G j))(h2:(H j).Sublist hs):K n B D M (Exit.then (zlI n B D M G H φ μ m) Q) .normal fs hs:=
 ⟨fun _ _ ha hw hk=>⟨μ j,hm,j,hj,rfl,ha.sub h1,hw.sub h2,hk⟩⟩
def mm:Nat→List Value→eb
 |_,[]=>[]
 |i,v :: r=>(i,v) :: mm (i+1) r
theorem zhK:∀(l:List Value) (i t:Nat) (v:Value),eJ (mm i l) t=some v→i≤t∧l[t - i]?=some v
 | [],_,_,_,h=>by cases h
 |u :: r,i,t,v,h=>by
  simp only [mm,eJ] at h
  cases hb:Nat.beq i t with
  |true=>
   rw [hb] at h
   have:=Nat.eq_of_beq_eq_true hb
   subst this
   simpa using h
  |false=>
   rw [hb] at h
   have hne:i≠t:=fun e=>by subst e;have:Nat.beq i i=true:=Nat.beq_refl _;rw [this] at hb;cases hb
   obtain ⟨h1,h2⟩:=zhK r (i+1) t v h
   have e:t - i=(t - (i+1))+1:=by omega
   exact ⟨by omega,by rw [e];simpa using h2⟩
def kw (P:Program)(fn:Func)(R:Ending→World→Prop):Exit→Act→World→Prop
 | .normal,a,w| .ret,a,w=>LeavesInM Fence.wide 0 P fn a.tmps R a.defers .returning w
 |_,_,_=>False
theorem zkR {f:FuncId}{fn:Func}{c:Code}{args:List Value}{w:World}{R:Ending→World→Prop}{hs:HS}(hf:P.funcs[f]?=some fn)(hb:fn.body=some c)(hn:fn.ntmps=n)(hlen:Nat.ble args.length n=true)
  (hh:Hp B M hs w) (h:T Fence.wide P n B w M c (kw P fn R) (mm 0 args) hs):Calls P f args.toArray w R:=by
 have hle:args.length≤n:=by simpa using hlen
 refine callsIn_wide.1 (callsIn_of_wp_marks (F:=Fence.wide) (n:=0) hf hb trivial (wpIn_mono (h.out { tmps:=args.toArray++Array.replicate (fn.ntmps - args.toArray.size) undef,defers:=[] } w ⟨?_,?_⟩ hh ⟨Kp.refl w,[],rfl,List.nodup_nil,fun _ h=>by cases h⟩) ?_))
 ·simp [hn];omega
 ·intro t v e
  obtain ⟨_,h2⟩:=zhK _ _ _ _ e
  rw [Nat.sub_zero] at h2
  have ht:t<args.length:=(List.getElem?_eq_some_iff.1 h2).1
  rw [Array.getElem?_append_left (by simpa using ht)]
  simpa using h2
 ·intro e a w hq
  cases e <;> first|exact hq|exact hq.elim
theorem dQ {f:FuncId}{fn:Func}{c:Code}{args:List Value}{w:World}{R:Ending→World→Prop}{hs:HS}(hf:P.funcs[f]?=some fn)(hb:fn.body=some c)(hn:fn.ntmps=n)(hlen:Nat.ble args.length n=true)
  (hh:Hp w M hs w) (h:T Fence.wide P n w w M c (kw P fn R) (mm 0 args) hs):Calls P f args.toArray w R:=zkR hf hb hn hlen hh h
theorem Hp.other {w w':World}{hs:HS}{r:Nat}(h:Hp B M hs w)(ho:Only (· =r) w w')(hr:B.heap.size≤r)(hn:∀e∈hs,¬e.fp r):Hp B M hs w':=
 ⟨ho.os.trans h.os,ho.tape.trans h.tape,ho.output.trans h.output,Nat.le_trans h.size ho.size,fun k hk hM=>by rw [ho.block k (Nat.lt_of_lt_of_le hk h.size) a7];exact h.base k hk hM,
  fun e he=>e.loc (fun g hg=>ho.block g (e.lt (h.own e he) g hg) (fun e'=>hn e he (e'▸hg))) (h.own e he),h.new,h.apart⟩
theorem Hp.notMark {w:World}{hs:HS}{r:Nat}{c:Option (List Deferred)}(h:Hp B M hs w)(hr:w.heap[r]?=some (.deferred c)):∀e∈hs,¬e.fp r:=fun e he hg=>e.nd (h.own e he) r hg c hr
theorem zf6 {fn:Func}{R:Ending→World→Prop}{hs:HS}{tmps:Array Value}{v:Value}(hv:∀w,Hp B M hs w→Kp D w→(results fn tmps).run P w= .ok v w∧R (.returned v) w):
  ∀(rs:List Nat) (w:World),Hp B M hs w→Kp D w→rs.Nodup→(∀r∈rs,w.heap[r]?=some (.deferred (some []))∧B.heap.size≤r∧D.heap.size≤r)→LeavesInM Fence.wide 0 P fn tmps R (rs.map mark) .returning w
 | [],w,h,hk,_,_=>⟨v,(hv w h hk).1,(hv w h hk).2⟩
 |r :: rs,w,h,hk,hn,hr=>by
  obtain ⟨h1,h2,h3⟩:=hr r b6
  have hlt:=(Array.getElem?_eq_some_iff.1 h1).1
  have ho:Only (· =r) w (w.putObj r (.deferred none)):=⟨rfl,rfl,rfl,by rw [World.putObj_size];exact Nat.le_refl _,fun k hk hne=>World.putObj_heap_other hne⟩
  refine ⟨by simp, .inl ⟨r,w.putObj r (.deferred none),rfl,run_takeDeferred h1,?_⟩⟩
  rw [List.nodup_cons] at hn
  refine zf6 hv rs _ (h.other ho h2 (h.notMark h1)) ⟨Nat.le_trans hk.size ho.size,fun q c hq=>?_⟩ hn.2 (fun q hq=>?_)
  ·have hq':=(Array.getElem?_eq_some_iff.1 hq).1
   exact (World.putObj_heap_other a7).trans (hk.keep q c hq)
  ·have hq':=hr q (by simp [hq])
   exact ⟨(World.putObj_heap_other (fun (e:q=r)=>hn.1 (by rw [←e];exact hq))).trans hq'.1,hq'.2⟩
theorem K.cf {fn:Func}{R:Ending→World→Prop}{v:Value}(hv:∀a w,Fr n fs a→Hp B M hs w→(results fn a.tmps).run P w= .ok v w)(h:∀w,Hp B M hs w→Kp D w→R (.returned v) w):K n B D M (kw P fn R) .ret fs hs∧K n B D M (kw P fn R) .normal fs hs:=by
 have key:∀a w,Fr n fs a→Hp B M hs w→Mk B D a w→LeavesInM Fence.wide 0 P fn a.tmps R a.defers .returning w:=fun a w ha hw ⟨h0,rs,h1,h2,h3⟩=>by
  rw [h1];exact zf6 (fun w' hw' hk=>⟨hv a w' ha hw',h w' hw' hk⟩) rs w hw h0 h2 h3
 exact ⟨⟨key⟩,⟨key⟩⟩
theorem jW {fn:Func}{R:Ending→World→Prop}{v:Value}(hv:∀a w,Fr n fs a→Hp B M hs w→(results fn a.tmps).run P w= .ok v w)(h:∀w,Hp B M hs w→R (.returned v) w):K n B D M (kw P fn R) .ret fs hs∧K n B D M (kw P fn R) .normal fs hs:=K.cf hv (fun w hw _=>h w hw)
theorem eQ {fn:Func}{R:Ending→World→Prop}{t:Nat}{v:Value}(hr:fn.results= #[.tmp t])(hv:eJ fs t=some v)(h:∀w,Hp B M hs w→R (.returned v) w):K n B D M (kw P fn R) .ret fs hs:=
 (jW (fun a w ha _=>by rw [results_tmp hr];simp [ha.get t v hv]) h).1
theorem fh {fn:Func}{R:Ending→World→Prop}{t u:Nat}{v x:Value}(hr:fn.results= #[.tmp t, .tmp u])(hv:eJ fs t=some v)(hx:eJ fs u=some x)(h:∀w,Hp B M hs w→R (.returned (.tuple #[v,x])) w):K n B D M (kw P fn R) .ret fs hs:=
 (jW (fun a w ha _=>by rw [results_tmp2 hr];simp only [Array.getD_eq_getD_getElem?,ha.get t v hv,ha.get u x hx];rfl) h).1
theorem K.cD {fn:Func}{R:Ending→World→Prop}(hr:fn.results= #[])(h:∀w,Hp B M hs w→R (.returned (.tuple #[])) w):K n B D M (kw P fn R) .ret fs hs:=(jW (fun _ _ _ _=>results_none hr _ _ _) h).1
theorem jx {fn:Func}{R:Ending→World→Prop}(hr:fn.results= #[])(h:∀w,Hp B M hs w→R (.returned (.tuple #[])) w):K n B D M (kw P fn R) .normal fs hs:=(jW (fun _ _ _ _=>results_none hr _ _ _) h).2
end
def zjz (P:Program)(t:TypeId):Option (Bool×Nat):=
 match P.underlying t,P.info? t with
 |some d,some i=>some ((match d with| .struct _| .array _ _=>true|_=>false),i.size)
 |_,_=>none
class TyA (P:Program) (t:TypeId) (n:outParam Nat):Prop where
 h:zjz P t=some (true,n)
class TyS (P:Program) (t:TypeId):Prop where
 h:zjz P t=some (false,1)
def ziw (P:Program)(t:TypeId):Option (Array Value):=((P.info? t).bind (·.zero)).map (·.cells)
class TyZ (P:Program) (t:TypeId) (z:outParam (List Value)):Prop where
 h:ziw P t=some z.toArray
def zj1 (P:Program)(s:TypeId)(f:Nat):Option Nat:=
 match P.underlying s with
 |some (.struct fs)=>match fs[f]? with
  |some fl=>match P.info? fl.type with
   |some i=>if i.size=0 then none else some fl.offset
   |none=>none
  |none=>none
 |_=>none
class TyF (P:Program) (s:TypeId) (f:Nat) (off:outParam Nat):Prop where
 h:zj1 P s f=some off
def zfs (P:Program)(t:TypeId):Option (TypeId×Nat):=
 match P.underlying t with
 |some (.slice e)=>(P.info? e).map fun i=>(e,i.size)
 |_=>none
class TySl (P:Program) (t:TypeId) (e:outParam TypeId) (n:outParam Nat):Prop where
 h:zfs P t=some (e,n)
def ziU (P:Program)(t:TypeId):Option (Nat×TypeId×Nat):=
 match P.underlying t with
 |some (.array k e)=>(P.info? e).map fun i=>(k,e,i.size)
 |_=>none
class TyAr (P:Program) (t:TypeId) (k:outParam Nat) (e:outParam TypeId) (n:outParam Nat):Prop where
 h:ziU P t=some (k,e,n)
def zl3 (P:Program)(t:TypeId):Option IntKind:=
 match P.underlying t with
 |some (.int k)=>some k
 |_=>none
class TyI (P:Program) (t:TypeId) (k:outParam IntKind):Prop where
 h:zl3 P t=some k
section
variable {F:Fence}[hF:Calm F]{P:Program}{n:Nat}{B D:World}{M:Nat→Prop}{Q:Exit→Act→World→Prop}{fs:eb}{hs:HS}{ops:Array Oper}{rest:List Oper}{o:Oper}{v:Value}
theorem zeW {t:TypeId}{b:Bool}{k:Nat}(h:zjz P t=some (b,k))(w:World):(isAgg t).run P w= .ok b w∧(sizeOf t).run P w= .ok k w:=by
 unfold zjz at h
 split at h
 ·rename_i d i h1 h2
  simp at h
  obtain ⟨rfl,rfl⟩:=h
  constructor
  ·simp only [isAgg,underlying,Sem.run_bind,run_program,Result.andThen_ok,h1,Sem.run_pure]
   cases d <;> rfl
  ·simp [sizeOf,typeInfo,h2]
 ·cases h
def Yv (P:Program)(n:Nat)(B:World)(M:Nat→Prop)(fs:eb)(hs:HS)(o:Oper)(v:Value):Prop:=∀a w,Fr n fs a→Hp B M hs w→(execOp a.eval o).run P w= .ok (.value v) w
def Wt (n:Nat)(ops:Array Oper)(fs:eb)(o:Oper)(b:Bool):Prop:=∀a,Fr n fs a→Region.wanted o (yielded ops a.tmps)=b
theorem cT (h:o.guard=none:=by exact rfl):Wt n ops fs o true:=fun a _=>by simp [Region.wanted,h]
theorem Wt.some {j d:Nat}{want b:Bool}(h:o.guard=some (j,want):=by exact rfl)(hd:(ops[j]?).bind (·.dst)=some d:=by exact rfl)(hl:eJ fs d=some (.bool b):=by exact rfl)(hb:b=want:=by exact rfl):Wt n ops fs o true:=fun a ha=>by
 simp [Region.wanted,h,yielded,hd,ha.get d _ hl,hb]
theorem Wt.not {j d:Nat}{want b:Bool}(h:o.guard=Option.some (j,want))(hd:(ops[j]?).bind (·.dst)=Option.some d)(hl:eJ fs d=Option.some (.bool b))(hb:b= !want):Wt n ops fs o false:=fun a ha=>by
 subst hb
 cases want <;> simp [Region.wanted,h,yielded,hd,ha.get d _ hl]
theorem Wt.undef {j d:Nat}{want:Bool}(h:o.guard=Option.some (j,want))(hd:(ops[j]?).bind (·.dst)=Option.some d)(hl:eJ fs d=Option.some undef):Wt n ops fs o false:=fun a ha=>by
 simp [Region.wanted,h,yielded,hd,ha.get d _ hl,Go.undef]
theorem zg7 {ρ:Operand→Value}{w w':World}(h:(execOp ρ o).run P w= .ok (.value v) w'):∀c,o.op≠ .defer c:=fun c e=>by
 unfold execOp at h
 simp only [e,Sem.run_bind] at h
 cases hr:(resolve ρ c o.type).run P w <;> rw [hr] at h <;> simp at h
theorem zla {ρ:Operand→Value}{w w':World}(h:(execOp ρ o).run P w= .ok .skip w'):∀c,o.op≠ .defer c:=fun c e=>by
 unfold execOp at h
 simp only [e,Sem.run_bind] at h
 cases hr:(resolve ρ c o.type).run P w <;> rw [hr] at h <;> simp at h
theorem zkP {ρ:Operand→Value}{w w':World}{f:FuncId}{args:Array Value}(h:(execOp ρ o).run P w= .ok (.enter f args) w'):∀c,o.op≠ .defer c:=fun c e=>by
 unfold execOp at h
 simp only [e,Sem.run_bind] at h
 cases hr:(resolve ρ c o.type).run P w <;> rw [hr] at h <;> simp at h
theorem TL.yv {d:Nat}(hw:Wt n ops fs o true)(hd:o.dst=some d)(hb:Nat.blt d n=true)(h:Yv P n B M fs hs o v)(k:TL F P n B D M ops Q rest ((d,v) :: fs) hs):TL F P n B D M ops Q (o :: rest) fs hs:=
 ⟨fun a w ha hp hm=>wpListIn_step fun K hK=>by
  rw [if_pos (hw a ha)]
  refine zii (zg7 (h a w ha hp)) ?_
  rw [h a w ha hp,Oper.uponIn_value,hd]
  exact hK _ _ (k.out _ w (ha.put hb v) hp (hm.put _ _))⟩
theorem TL.off {d:Nat}(hw:Wt n ops fs o false)(hd:o.dst=some d)(hb:Nat.blt d n=true)(k:TL F P n B D M ops Q rest ((d,undef) :: fs) hs):TL F P n B D M ops Q (o :: rest) fs hs:=
 ⟨fun a w ha hp hm=>wpListIn_step fun K hK=>by
  rw [if_neg (by rw [hw a ha];simp),hd]
  exact ⟨fun f _=>hF.fn f,hK _ _ (k.out _ w (ha.put hb undef) hp (hm.put _ _))⟩⟩
def evs (fs:eb):List Operand→Option (List Value)
 | []=>some []
 |x :: r=>match ev fs x with
  |some v=>match evs fs r with
   |some vs=>some (v :: vs)
   |none=>none
  |none=>none
theorem Fr.evs {a:Act}(ha:Fr n fs a):∀ {xs:List Operand} {vs:List Value},evs fs xs=some vs→xs.map a.eval=vs
 | [],vs,h=>by simp only [Go.Proofs.YtmnjbhkcfghebaaGreatDoor.evs] at h;cases h;rfl
 |x :: r,vs,h=>by
  simp only [Go.Proofs.YtmnjbhkcfghebaaGreatDoor.evs] at h
  split at h
  ·rename_i v hv
   split at h
   ·rename_i us hus
    cases h
    rw [List.map_cons,ha.ev hv,Fr.evs ha hus]
   ·cases h
  ·cases h
def binV (op:BinOp)(x y:Value):Option Value:=
 match op,x,y with
 | .add, .int k a, .int k' b=>match decEq k k' with|isTrue _=>some (.int k (k.wrap (a+b)))|isFalse _=>none
 | .sub, .int k a, .int k' b=>match decEq k k' with|isTrue _=>some (.int k (k.wrap (a - b)))|isFalse _=>none
 | .mul, .int k a, .int k' b=>match decEq k k' with|isTrue _=>some (.int k (k.wrap (a*b)))|isFalse _=>none
 | .eql, .int k a, .int k' b=>match decEq k k' with|isTrue _=>some (.bool (decide (a=b)))|isFalse _=>none
 | .neq, .int k a, .int k' b=>match decEq k k' with|isTrue _=>some (.bool (decide (¬a=b)))|isFalse _=>none
 | .lss, .int k a, .int k' b=>match decEq k k' with|isTrue _=>some (.bool (decide (a<b)))|isFalse _=>none
 | .leq, .int k a, .int k' b=>match decEq k k' with|isTrue _=>some (.bool (decide (a≤b)))|isFalse _=>none
 | .gtr, .int k a, .int k' b=>match decEq k k' with|isTrue _=>some (.bool (decide (b<a)))|isFalse _=>none
 | .geq, .int k a, .int k' b=>match decEq k k' with|isTrue _=>some (.bool (decide (b≤a)))|isFalse _=>none
 |_,_,_=>none
theorem zke {op:BinOp}{x y:Value}{t:TypeId}{ox oy:Operand}(h:binV op x y=some v)(w:World):(do eqGuard op t ox oy x y;binOp op t x y:Sem Value).run P w= .ok v w:=by
 unfold binV at h
 split at h <;> (try (split at h)) <;> (try (cases h;done))
 all_goals
  rename_i hk _
  subst hk
  cases h
  simp [eqGuard,binOp,Op.intArith,Op.intCmp,bne]
  try rfl
def zhN (fs:eb):Op→Option Value
 | .move x=>ev fs x
 | .assign x=>ev fs x
 | .binOp op _ x y _=>match ev fs x with
  |some a=>match ev fs y with
   |some b=>binV op a b
   |none=>none
  |none=>none
 | .unOp .not _ x=>match ev fs x with
  |some (.bool b)=>some (.bool (!b))
  |_=>none
 | .extract x i=>match ev fs x with
  |some (.tuple vs)=>vs.toList[i]?
  |_=>none
 | .nilCheck x=>match ev fs x with
  |some (.pointer (some a))=>some (.pointer (some a))
  |some (.func (.func f) x y)=>some (.func (.func f) x y)
  |_=>none
 | .makeFunc fn first captured=>match evs fs first.toList with
  |some x=>match evs fs captured.toList with
   |some y=>some (.func fn x.toArray y.toArray)
   |none=>none
  |none=>none
 |_=>none
theorem dh (h:zhN fs o.op=some v:=by exact rfl):Yv P n B M fs hs o v:=by
 intro a w ha _
 unfold zhN at h
 unfold execOp
 split at h
 ·rename_i x e;simp only [e];rw [ha.ev h];rfl
 ·rename_i x e;simp only [e];rw [ha.ev h];rfl
 ·rename_i op t x y u e
  split at h
  ·rename_i xv hx
   split at h
   ·rename_i yv hy
    simp only [e,ha.ev hx,ha.ev hy]
    have:=zke (P:=P) (t:=t) (ox:=x) (oy:=y) h w
    rw [Sem.run_bind,this]
    rfl
   ·cases h
  ·cases h
 ·rename_i t x e
  split at h
  ·rename_i b hx
   cases h
   simp only [e,ha.ev hx]
   rfl
  ·cases h
 ·rename_i x i e
  split at h
  ·rename_i vs hx
   rw [Array.getElem?_toList] at h
   simp only [e,ha.ev hx,Instr.extract,h]
   rfl
  ·cases h
 ·rename_i x e
  split at h
  ·rename_i hx;cases h;simp only [e,ha.ev hx];rfl
  ·rename_i hx;cases h;simp only [e,ha.ev hx];rfl
  ·cases h
 ·rename_i fn first captured e
  split at h
  ·rename_i x hx
   split at h
   ·rename_i y hy
    cases h
    simp only [e]
    have h1:first.map a.eval=x.toArray:=by rw [←ha.evs hx];apply Array.ext';simp
    have h2:captured.map a.eval=y.toArray:=by rw [←ha.evs hy];apply Array.ext';simp
    rw [h1,h2]
    rfl
   ·cases h
  ·cases h
 ·cases h
theorem Yv.eq {u:Value}(h:Yv P n B M fs hs o u)(e:u=v):Yv P n B M fs hs o v:=e▸h
theorem ka {x y:Operand}{t u:TypeId}{a b:Int}(ho:o.op= .binOp .add t x y u)(hx:ev fs x=some (.int .i64 a))(hy:ev fs y=some (.int .i64 b))(hr: -9223372036854775808≤a+b∧a+b≤9223372036854775807):Yv P n B M fs hs o (.int .i64 (a+b)):=
 (dh (v:= .int .i64 (IntKind.i64.wrap (a+b))) (by rw [ho];simp only [zhN,hx,hy];rfl)).eq (by rw [IntWalk.i64_in _ hr])
theorem ki {x y:Operand}{t u:TypeId}{a b:Int}(ho:o.op= .binOp .sub t x y u)(hx:ev fs x=some (.int .i64 a))(hy:ev fs y=some (.int .i64 b))(hr: -9223372036854775808≤a - b∧a - b≤9223372036854775807):Yv P n B M fs hs o (.int .i64 (a - b)):=
 (dh (v:= .int .i64 (IntKind.i64.wrap (a - b))) (by rw [ho];simp only [zhN,hx,hy];rfl)).eq (by rw [IntWalk.i64_in _ hr])
theorem zjW {x y:Operand}{t u:TypeId}{op:BinOp}{a b:Int}(hop:op= .quo∨op= .rem)(ho:o.op= .binOp op t x y u)(hx:ev fs x=some (.int .i64 a))(hy:ev fs y=some (.int .i64 b))(hb:b≠0){f:Act}(ha:Fr n fs f)(w:World):
  (execOp f.eval o).run P w= .ok (.value (.int .i64 (if op= .quo then IntKind.i64.wrap (a.tdiv b) else a.tmod b))) w:=by
 unfold execOp
 simp only [ho,ha.ev hx,ha.ev hy]
 rcases hop with rfl|rfl <;> simp [eqGuard,binOp,Op.intDiv,hb]
theorem gc {x y:Operand}{t u:TypeId}{a b:Int}(ho:o.op= .binOp .quo t x y u)(hx:ev fs x=some (.int .i64 a))(hy:ev fs y=some (.int .i64 b))(hr:0≤a∧a≤9223372036854775807∧1≤b):Yv P n B M fs hs o (.int .i64 (a / b)):=
 fun f w ha _=>by rw [zjW (.inl rfl) ho hx hy a7 ha w,if_pos rfl,IntWalk.i64_quo a b hr]
theorem jF {x y:Operand}{t u:TypeId}{a b:Int}(ho:o.op= .binOp .rem t x y u)(hx:ev fs x=some (.int .i64 a))(hy:ev fs y=some (.int .i64 b))(hr:0≤a∧1≤b):Yv P n B M fs hs o (.int .i64 (a % b)):=
 fun f w ha _=>by rw [zjW (.inr rfl) ho hx hy a7 ha w,if_neg a8,IntWalk.rem_in a b hr.1]
theorem Yv.cr {c x y:Operand}{b:Bool}(ho:o.op= .pick c x y)(hc:ev fs c=some (.bool b))(hb:b=true)(hx:ev fs x=some v):Yv P n B M fs hs o v:=fun f w ha _=>by
 unfold execOp
 simp [ho,ha.ev hc,ha.ev hx,hb,asBool]
theorem Yv.cs {c x y:Operand}{b:Bool}(ho:o.op= .pick c x y)(hc:ev fs c=some (.bool b))(hb:b=false)(hx:ev fs y=some v):Yv P n B M fs hs o v:=fun f w ha _=>by
 unfold execOp
 simp [ho,ha.ev hc,ha.ev hx,hb,asBool]
theorem zi6 {t:TypeId}{a b:Bool}(hU:P.underlying t=some .bool)(w:World):(Op.equal t (.bool a) (.bool b)).run P w= .ok (a == b) w:=by
 unfold Op.equal
 rw [show Op.maxDepth=Nat.succ 9999 from rfl]
 unfold Op.equalIn
 simp [underlying,hU]
theorem ks {x y:Operand}{t u:TypeId}{a b:Bool}(hU:P.underlying t=some .bool)(ho:o.op= .binOp .neq t x y u:=by exact rfl)(hx:ev fs x=some (.bool a):=by exact rfl)(hy:ev fs y=some (.bool b):=by exact rfl):Yv P n B M fs hs o (.bool (!(a == b))):=fun f w ha _=>by
 unfold execOp
 simp [ho,ha.ev hx,ha.ev hy,eqGuard,binOp,zi6 hU]
theorem kG (g o k:Nat):Addr.add ⟨g,o,none⟩ k=⟨g,o+k,none⟩:=by
 unfold Addr.add
 split
 ·rename_i h;subst h;rfl
 ·rfl
theorem Yv.fieldAddr {s f off g p:Nat}{x:Operand}[hT:TyF P s f off](ho:o.op= .fieldAddr s x f)(hx:ev fs x=some (.pointer (some ⟨g,p,none⟩))):Yv P n B M fs hs o (.pointer (some ⟨g,p+off,none⟩)):=fun a w ha _=>by
 have h:=hT.h
 unfold zj1 at h
 split at h
 ·rename_i fl hU
  split at h
  ·rename_i fd hfd
   split at h
   ·rename_i i hi
    split at h
    ·cases h
    ·rename_i hz
     cases h
     unfold execOp
     simp [ho,ha.ev hx,Instr.fieldAt,underlying,hU,hfd,Instr.sureAddr,fieldPlace,sizeOf,typeInfo,hi,hz,kG]
   ·cases h
  ·cases h
 ·cases h
theorem iX {t e k g p len cap i:Nat}{z:Int}{q:IntKind}{x y:Operand}[hT:TySl P t e k](ho:o.op= .indexAddr t x y)(hx:ev fs x=some (.slice (some ⟨g,p,none⟩) len cap))(hy:ev fs y=some (.int q z))(hz:z=(i:Int))(hi:i<len):Yv P n B M fs hs o (.pointer (some ⟨g,p+i*k,none⟩)):=fun a w ha _=>by
 have h:=hT.h
 unfold zfs at h
 split at h
 ·rename_i el hU
  cases hi':P.info? el with
  |none=>rw [hi'] at h;cases h
  |some inf=>
   rw [hi'] at h
   cases h
   subst hz
   unfold execOp
   simp [ho,ha.ev hx,ha.ev hy,Instr.indexAt,asIntOf,underlying,hU,hi,sizeOf,typeInfo,hi',kG]
 ·cases h
theorem dA {t e k c g p i:Nat}{z:Int}{q:IntKind}{x y:Operand}[hT:TyAr P t c e k](ho:o.op= .indexAddr t x y)(hx:ev fs x=some (.pointer (some ⟨g,p,none⟩)))(hy:ev fs y=some (.int q z))(hz:z=(i:Int))(hi:i<c):Yv P n B M fs hs o (.pointer (some ⟨g,p+i*k,none⟩)):=fun a w ha _=>by
 have h:=hT.h
 unfold ziU at h
 split at h
 ·rename_i cc el hU
  cases hi':P.info? el with
  |none=>rw [hi'] at h;cases h
  |some inf=>
   rw [hi'] at h
   cases h
   subst hz
   unfold execOp
   simp [ho,ha.ev hx,ha.ev hy,Instr.indexAt,Instr.sureAddr,asIntOf,underlying,hU,hi,sizeOf,typeInfo,hi',kG]
 ·cases h
theorem mg {t e k len cap:Nat}{A:Option Addr}{x:Operand}[hT:TySl P t e k](ho:o.op= .call { callee:= .builtin .len,args:= #[x],argTypes:= #[t] })(hx:ev fs x=some (.slice A len cap)):Yv P n B M fs hs o (.int .i64 (len:Int)):=fun a w ha _=>by
 have h:=hT.h
 unfold zfs at h
 split at h
 ·rename_i el hU
  unfold execOp
  simp [ho,ha.ev hx,resolve,invoke,builtin,Builtin.len_,underlying,hU,goInt]
 ·cases h
theorem ze7 {w:World}{g:Nat}{t:TypeId}{l:List Value}(h:w.heap[g]?=some (.cells l.toArray t (0,0)))(k:Nat):w.cell? ⟨g,k,none⟩=l[k]?:=by
 simp [World.cell?,h]
theorem zfw {t:TypeId}[hT:TyS P t]{g p:Nat}{x:Operand}{a:Act}{w:World}(ho:o.op= .load t x)(hx:a.eval x= .pointer (some ⟨g,p,none⟩))(hc:w.cell? ⟨g,p,none⟩=some v):(execOp a.eval o).run P w= .ok (.value v) w:=by
 unfold execOp
 simp [ho,hx,Instr.loadAt,Instr.sureAddr,loadVar,(zeW hT.h w).1,hc]
theorem di (i:Nat){t u:TypeId}[hT:TyS P t]{g p:Nat}{l:List Value}{x:Operand}(ho:o.op= .load t x:=by exact rfl)(hx:ev fs x=some (.pointer (some ⟨g,p,none⟩)):=by exact rfl)(hi:hs[i]?=some (.row g u l):=by exact rfl)(hv:l[p]?=some v:=by exact rfl):Yv P n B M fs hs o v:=fun a w ha hw=>
 zfw ho (ha.ev hx) (by rw [ze7 (dC.1 (hw.get hi))];exact hv)
def Cs (w:World)(g p:Nat)(l:List Value):Prop:=∀j,j<l.length→w.cell? ⟨g,p+j,none⟩=l[j]?
theorem zeO {w:World}{g p:Nat}{l:List Value}(h:Cs w g p l):∀(m i:Nat) (acc:Array Value),i+m=l.length→(loadCellsFrom ⟨g,p,none⟩ i m acc).run P w= .ok (acc++(l.drop i).toArray) w
 |0,i,acc,e=>by simp [loadCellsFrom,List.drop_eq_nil_of_le (show l.length≤i by omega)]
 |m+1,i,acc,e=>by
  have hi:i<l.length:=by omega
  have hc:=h i hi
  rw [List.getElem?_eq_getElem hi] at hc
  simp only [loadCellsFrom,Sem.run_bind,kG,run_load,hc,Result.andThen_ok]
  rw [zeO h m (i+1) _ a7,List.drop_eq_getElem_cons hi]
  simp
theorem zfx {t:TypeId}{k:Nat}[hT:TyA P t k]{g p:Nat}{l:List Value}{x:Operand}{a:Act}{w:World}(ho:o.op= .load t x)(hx:a.eval x= .pointer (some ⟨g,p,none⟩))(hc:Cs w g p l)(hl:l.length=k):(execOp a.eval o).run P w= .ok (.value (.agg l.toArray)) w:=by
 subst hl
 unfold execOp
 have h1:=(zeW (P:=P) hT.h w)
 have h2:=zeO (P:=P) hc l.length 0 #[] a7
 simp [ho,hx,Instr.loadAt,Instr.sureAddr,loadVar,h1.1,h1.2,loadCells,h2]
theorem gM {w:World}{g:Nat}{t:TypeId}{l:List Value}(h:w.heap[g]?=some (.cells l.toArray t (0,0))){m:List Value}{p:Nat}(hm:(l.drop p).take m.length=m):Cs w g p m:=fun j hj=>by
 rw [ze7 h,←List.getElem?_drop,←List.getElem?_take_of_lt hj,hm]
theorem fg (i:Nat){t u:TypeId}{k:Nat}[hT:TyA P t k]{g:Nat}{l:List Value}{x:Operand}(ho:o.op= .load t x:=by exact rfl)(hx:ev fs x=some (.pointer (some ⟨g,0,none⟩)):=by exact rfl)(hi:hs[i]?=some (.row g u l):=by exact rfl)(hl:l.length=k:=by exact rfl):Yv P n B M fs hs o (.agg l.toArray):=fun a w ha hw=>
 zfx ho (ha.ev hx) (gM (dC.1 (hw.get hi)) b6) hl
theorem fa (i:Nat){t u:TypeId}{k:Nat}[hT:TyA P t k]{g p:Nat}{l m:List Value}{x:Operand}(ho:o.op= .load t x:=by exact rfl)(hx:ev fs x=some (.pointer (some ⟨g,p,none⟩)):=by exact rfl)(hi:hs[i]?=some (.row g u l):=by exact rfl)(hm:(l.drop p).take m.length=m:=by exact rfl)(hl:m.length=k:=by exact rfl):Yv P n B M fs hs o (.agg m.toArray):=fun a w ha hw=>
 zfx ho (ha.ev hx) (gM (dC.1 (hw.get hi)) hm) hl
end
class SetAt {α:Type} (l:List α) (i:Nat) (v:α) (l':outParam (List α)):Prop where
 h:l.set i v=l'
instance (priority:=low) SetAt.any {α:Type} (l:List α) (i:Nat) (v:α):SetAt l i v (l.set i v):=⟨rfl⟩
instance SetAt.zero {α:Type} (x v:α) (r:List α):SetAt (x :: r) 0 v (v :: r):=⟨rfl⟩
instance SetAt.succ {α:Type} (x v:α) (r r':List α) (i:Nat) [h:SetAt r i v r']:SetAt (x :: r) (i+1) v (x :: r'):=⟨by rw [List.set_cons_succ,h.h]⟩
class OneC (v:Value):Prop where
 h:v.oneCell'=true
instance (b:Bool):OneC (.bool b):=⟨rfl⟩
instance (k:IntKind) (z:Int):OneC (.int k z):=⟨rfl⟩
instance (s:ByteArray):OneC (.string s):=⟨rfl⟩
instance (a:Option Addr):OneC (.pointer a):=⟨rfl⟩
instance (a:Option Addr) (n c:Nat):OneC (.slice a n c):=⟨rfl⟩
instance (r:Option Nat):OneC (.map r):=⟨rfl⟩
instance (f:Fn) (x y:Array Value):OneC (.func f x y):=⟨rfl⟩
instance:OneC .nilFunc:=⟨rfl⟩
instance:OneC .nilIface:=⟨rfl⟩
instance (t:TypeId) (v:Value):OneC (.iface t v):=⟨rfl⟩
class OneCs (l:List Value):Prop where
 h:∀v∈l,v.oneCell'=true
instance:OneCs []:=⟨fun _ h=>by cases h⟩
instance (v:Value) (l:List Value) [h:OneC v] [k:OneCs l]:OneCs (v :: l):=⟨fun x hx=>by
 rcases List.mem_cons.1 hx with rfl|hx
 ·exact h.h
 ·exact k.h x hx⟩
instance (l m:List Value) [h:OneCs l] [k:OneCs m]:OneCs (l++m):=⟨fun x hx=>by
 rcases List.mem_append.1 hx with hx|hx
 ·exact h.h x hx
 ·exact k.h x hx⟩
theorem OneC.cells {v:Value}(h:OneC v):v.cells= #[v]:=by
 have:=h.h
 cases v <;> first|rfl|cases this
def zjs (P : Program) (f : FuncId) : Bool := match P.funcs[f]? with
  | some fn => !(fn.name == "runtime.NumGoroutine") && fn.body.isSome
  | none => false
class Enters (P:Program) (f:FuncId):Prop where
 h:zjs P f=true
theorem Enters.run {P:Program}{f:FuncId}(h:Enters P f)(args:Array Value)(w:World):(callFunc f args).run P w= .ok (.enter f args) w:=by
 have:=h.h
 unfold zjs at this
 split at this
 ·rename_i fn hf
  simp only [Bool.and_eq_true,Bool.not_eq_true',beq_eq_false_iff_ne] at this
  obtain ⟨h1,h2⟩:=this
  obtain ⟨c,hc⟩:=Option.isSome_iff_exists.1 h2
  simp [callFunc,hf,h1,hc,mark]
 ·cases this
def zkZ (P:Program)(t:TypeId):Option (TypeId×Nat×Nat×Array Value):=
 match P.underlying t with
 |some (.slice e)=>match P.info? e with
  |some i=>match i.zero with
   |some z=>if z.cells.size=i.size∧0<i.size then some (e,i.size,i.bytes,z.cells) else none
   |none=>none
  |none=>none
 |_=>none
class TyE (P:Program) (t:TypeId) (e:outParam TypeId) (size:outParam Nat) (bytes:outParam Nat) (z:outParam (List Value)):Prop where
 h:zkZ P t=some (e,size,bytes,z.toArray)
theorem TyE.get {P:Program}{t e:TypeId}{size bytes:Nat}{z:List Value}(h:TyE P t e size bytes z):∃i zv,P.underlying t=some (.slice e)∧P.info? e=some i∧i.zero=some zv∧zv.cells=z.toArray∧i.size=size∧i.bytes=bytes∧zv.cells.size=size∧0<size:=by
 have:=h.h
 unfold zkZ at this
 split at this
 ·rename_i el hU
  split at this
  ·rename_i i hi
   split at this
   ·rename_i zv hz
    split at this
    ·rename_i hc
     simp at this
     obtain ⟨rfl,rfl,rfl,hz'⟩:=this
     exact ⟨i,zv,hU,hi,hz,hz',rfl,rfl,hc.1,hc.2⟩
    ·cases this
   ·cases this
  ·cases this
 ·cases this
@[irreducible] def Ent.sl (v:Value) (e:TypeId) (size n:Nat) (l:List Value):Ent where
 fp k:=v.ownBlock=some k
 ok w:=w.ownsRow 0 e size v n l
 loc {w w'} h k:=by
  refine ⟨k.1,?_⟩
  rcases k.2 with hz|⟨g,cap,cur,rfl,hb,hgg,r⟩
  ·exact .inl hz
  ·exact .inr ⟨g,cap,cur,rfl,hb,(h g rfl).trans hgg,r⟩
 lt h k e:=(World.ownsRow.lt h k e).2
 nd {w} h k e c:=by
  rcases h.2 with ⟨rfl,_⟩|⟨g,cap,cur,rfl,hb,hgg,_⟩
  ·cases e
  ·cases e;rw [hgg];simp
theorem dO {v:Value}{e:TypeId}{size n:Nat}{l:List Value}{k:Nat}:(Ent.sl v e size n l).fp k↔v.ownBlock=some k:=by unfold Ent.sl;exact Iff.rfl
theorem dH {v:Value}{e:TypeId}{size n:Nat}{l:List Value}{w:World}:(Ent.sl v e size n l).ok w↔w.ownsRow 0 e size v n l:=by unfold Ent.sl;exact Iff.rfl
section
variable {F:Fence}[hF:Calm F]{P:Program}{n:Nat}{B D:World}{M:Nat→Prop}{Q:Exit→Act→World→Prop}{fs:eb}{hs:HS}{ops:Array Oper}{rest:List Oper}{o:Oper}{v:Value}
def Ew (P:Program)(n:Nat)(B:World)(M:Nat→Prop)(fs:eb)(hs:HS)(o:Oper)(Φ:Value→HS→Prop):Prop:=
 ∀(F:Fence),Calm F→∀(Q:Exit→Act→World→Prop) (K:Act→World→Prop) a w,Fr n fs a→Hp B M hs w→(∀v w' hs',Kp w w'→Hp B M hs' w'→Φ v hs'→K (a.put o.dst v) w')→o.wpIn F 0 P a w K Q
theorem TL.ew {d:Nat}{Φ:Value→HS→Prop}(hw:Wt n ops fs o true)(hd:o.dst=some d)(hb:Nat.blt d n=true)(h:Ew P n B M fs hs o Φ)(k:∀v hs',Φ v hs'→TL F P n B D M ops Q rest ((d,v) :: fs) hs'):TL F P n B D M ops Q (o :: rest) fs hs:=
 ⟨fun a w ha hp hm=>wpListIn_step fun K hK=>by
  rw [if_pos (hw a ha)]
  exact h F hF Q K a w ha hp fun v w' hs' hk hp' hΦ=>hK _ _ (by rw [hd];exact (k v hs' hΦ).out _ w' (ha.put hb v) hp' ((hm.next hk).put _ _))⟩
theorem TL.cI {Φ:Value→HS→Prop}(hw:Wt n ops fs o true)(hd:o.dst=none)(h:Ew P n B M fs hs o Φ)(k:∀v hs',Φ v hs'→TL F P n B D M ops Q rest fs hs'):TL F P n B D M ops Q (o :: rest) fs hs:=
 ⟨fun a w ha hp hm=>wpListIn_step fun K hK=>by
  rw [if_pos (hw a ha)]
  exact h F hF Q K a w ha hp fun v w' hs' hk hp' hΦ=>hK _ _ (by rw [hd];exact (k v hs' hΦ).out _ w' (ha.put_none v) hp' ((hm.next hk).put _ _))⟩
theorem fQ {Φ:Value→HS→Prop}(h:∀a w,Fr n fs a→Hp B M hs w→∃v w' hs',(execOp a.eval o).run P w= .ok (.value v) w'∧Kp w w'∧Hp B M hs' w'∧Φ v hs'):Ew P n B M fs hs o Φ:=fun F hF Q K a w ha hp k=>by
 obtain ⟨v,w',hs',hr,hk,hp',hΦ⟩:=h a w ha hp
 refine zii (zg7 hr) ?_
 rw [hr,Oper.uponIn_value]
 exact k v w' hs' hk hp' hΦ
theorem jD {Φ:Value→HS→Prop}(h:∀a w,Fr n fs a→Hp B M hs w→∃w' hs',(execOp a.eval o).run P w= .ok .skip w'∧Kp w w'∧Hp B M hs' w'∧Φ undef hs'):Ew P n B M fs hs o Φ:=fun F hF Q K a w ha hp k=>by
 obtain ⟨w',hs',hr,hk,hp',hΦ⟩:=h a w ha hp
 refine zii (zla hr) ?_
 rw [hr,Oper.uponIn_skip]
 exact k undef w' hs' hk hp' hΦ
theorem Ew.yv (h:Yv P n B M fs hs o v):Ew P n B M fs hs o (fun v' hs'=>v'=v∧hs'=hs):=fQ fun a w ha hp=>⟨v,w,hs,h a w ha hp,Kp.refl w,hp,rfl,rfl⟩
theorem Ew.alloc {t:TypeId}{z:List Value}[hT:TyZ P t z](ho:o.op= .alloc t):Ew P n B M fs hs o (fun v hs'=>∃g,v= .pointer (some ⟨g,0,none⟩)∧hs'= .row g t z :: hs):=fQ fun a w _ hp=>by
 have h:=hT.h
 unfold ziw at h
 cases hi:P.info? t with
 |none=>rw [hi] at h;cases h
 |some i=>
  rw [hi] at h
  cases hz:i.zero with
  |none=>simp [hz] at h
  |some zv=>
   simp [hz] at h
   refine ⟨_,_,_,?_,Kp.alloc w _,hp.allocRow t z,w.heap.size,rfl,rfl⟩
   unfold execOp
   simp [ho,Instr.alloc,zeroValue,typeInfo,hi,hz,newVar,newRow,h]
theorem Ew.box {t:TypeId}{x:Operand}{u:Value}[hu:OneC u](ho:o.op= .box t x)(hx:ev fs x=some u):Ew P n B M fs hs o (fun v hs'=>∃g,v= .pointer (some ⟨g,0,none⟩)∧hs'= .row g t [u] :: hs):=fQ fun a w ha hp=>by
 refine ⟨_,_,_,?_,Kp.alloc w _,hp.allocRow t [u],w.heap.size,rfl,rfl⟩
 unfold execOp
 simp [ho,ha.ev hx,Instr.box,newVar,newRow,hu.cells]
theorem mE {t:TypeId}{x:Operand}{l:List Value}(ho:o.op= .box t x)(hx:ev fs x=some (.agg l.toArray)):Ew P n B M fs hs o (fun v hs'=>∃g,v= .pointer (some ⟨g,0,none⟩)∧hs'= .row g t l :: hs):=fQ fun a w ha hp=>by
 refine ⟨_,_,_,?_,Kp.alloc w _,hp.allocRow t l,w.heap.size,rfl,rfl⟩
 unfold execOp
 simp [ho,ha.ev hx,Instr.box,newVar,newRow,Value.cells]
theorem zeR (w:World)(g:Nat)(cs:Array Value):Only (· =g) w (w.setRow g cs):=
 ⟨rfl,rfl,rfl,by simp,fun k hk hn=>by
  unfold World.setRow
  simp only [Array.getElem?_modify]
  rw [if_neg (fun e=>hn e.symm)]⟩
theorem Hp.setRow {w:World}(hp:Hp B M hs w){i g:Nat}{u:TypeId}{l l':List Value}(hi:hs[i]?=some (.row g u l)):Hp B M (hs.set i (.row g u l')) (w.setRow g l'.toArray):=
 hp.updAt hi (zeR w g _) (fun k _ hk=>e6.2 hk) (dC.2 (setRow_heap w g _ _ u _ (dC.1 (hp.get hi)))) (fun k hk=> .inl (e6.2 (e6.1 hk)))
theorem zdS {w:World}{g:Nat}{t:TypeId}{l:List Value}(h:w.heap[g]?=some (.cells l.toArray t (0,0)))(cs:Array Value):Kp w (w.setRow g cs):=Kp.only (zeR w g cs) (fun k e c=>by subst e;rw [h];simp)
theorem zey (l:List Value)(p:Nat)(x:Value)(h:p<l.length):l.take p++[x]++l.drop (p+1)=l.set p x:=by
 rw [List.set_eq_take_append_cons_drop,if_pos h]
 simp
theorem zeG {a:Act}{w:World}{t:TypeId}{b:Bool}{k:Nat}(hT:zjz P t=some (b,k)){x y:Operand}(ho:o.op= .store t x y){g p:Nat}{u:TypeId}{l m:List Value}{val:Value}(hx:a.eval x= .pointer (some ⟨g,p,none⟩))(hy:a.eval y=val)(hm:val.cells=m.toArray)
  (hk:m.length=k) (h1:∀c∈m,c.oneCell'=true) (hg:w.heap[g]?=some (.cells l.toArray u (0,0))) (hl:p+m.length≤l.length):
  (execOp a.eval o).run P w= .ok .skip (w.setRow g (l.take p++m++l.drop (p+m.length)).toArray):=by
 have h2:=run_storeCells_at (P:=P) g p u m 0 l.toArray w hg (by simpa using hl) h1
 simp only [Nat.add_zero] at h2
 unfold execOp
 simp [ho,hx,hy,Instr.storeAt,Instr.sureAddr,storeVar,(zeW hT w).2,hm,hk,h2]
theorem iv (i:Nat){t u:TypeId}[hT:TyS P t]{x y:Operand}{g p:Nat}{l l':List Value}{hs':HS}{val:Value}[hv:OneC val](ho:o.op= .store t x y)(hx:ev fs x=some (.pointer (some ⟨g,p,none⟩)))(hy:ev fs y=some val)
  (hi:hs[i]?=some (.row g u l)) (hp:p<l.length) [hL:SetAt l p val l'] [hH:SetAt hs i (.row g u l') hs']:Ew P n B M fs hs o (fun v hs''=>v=undef∧hs''=hs'):=jD fun a w ha hw=>by
 have h:=zeG (P:=P) (w:=w) hT.h ho (ha.ev hx) (ha.ev hy) (m:=[val]) hv.cells rfl (by simpa using hv.h) (dC.1 (hw.get hi)) cM
 refine ⟨_,_,h,zdS (dC.1 (hw.get hi)) _,?_,rfl,rfl⟩
 rw [show [val].length=1 from rfl,zey l p val hp,hL.h,←hH.h]
 exact hw.setRow hi
theorem fD (i:Nat){t u:TypeId}{k:Nat}[hT:TyA P t k]{x y:Operand}{g:Nat}{l m:List Value}{hs':HS}[hv:OneCs m](ho:o.op= .store t x y:=by exact rfl)(hx:ev fs x=some (.pointer (some ⟨g,0,none⟩)):=by exact rfl)(hy:ev fs y=some (.agg m.toArray):=by exact rfl)
  (hi:hs[i]?=some (.row g u l):=by exact rfl) (hk:m.length=k:=by exact rfl) (hl:m.length=l.length:=by exact rfl) [hH:SetAt hs i (.row g u m) hs']:Ew P n B M fs hs o (fun v hs''=>v=undef∧hs''=hs'):=jD fun a w ha hw=>by
 have h:=zeG (P:=P) (w:=w) hT.h ho (ha.ev hx) (ha.ev hy) (m:=m) rfl hk hv.h (dC.1 (hw.get hi)) a7
 refine ⟨_,_,h,zdS (dC.1 (hw.get hi)) _,?_,rfl,rfl⟩
 rw [←hH.h]
 have e:l.take 0++m++l.drop (0+m.length)=m:=by simp [hl]
 rw [e]
 exact hw.setRow hi
theorem zhM:∀(m:List Value) (k off:Nat) (cs:Array Value),off+k+m.length≤cs.size→
  (m.zipIdx k).foldl (fun (cs:Array Value) (p:Value×Nat)=>cs.setIfInBounds (off+p.2) p.1) cs=(cs.toList.take (off+k)++m++cs.toList.drop (off+k+m.length)).toArray
 | [],k,off,cs,_=>by simp
 |v :: r,k,off,cs,h=>by
  simp only [List.zipIdx_cons,List.foldl_cons]
  rw [zhM r (k+1) off _ (by simp at h ⊢;omega)]
  congr 1
  have e:=list_seg_step cs.toList (off+k) v r (by simp at h ⊢;omega)
  simpa [Array.toList_setIfInBounds,Nat.add_assoc] using e
def zeL (l:List Value)(off:Nat)(m:List Value):List Value:=l.take off++m++l.drop (off+m.length)
class Cells (v:Value) (m:outParam (List Value)):Prop where
 h:v.cells=m.toArray
instance (priority:=low) (v:Value) [h:OneC v]:Cells v [v]:=⟨h.cells⟩
instance (m:List Value):Cells (.agg m.toArray) m:=⟨rfl⟩
class Splice (l:List Value) (off:Nat) (m:List Value) (l':outParam (List Value)):Prop where
 h:zeL l off m=l'∧off+m.length≤l.length
instance Splice.nil (l:List Value):Splice l 0 [] l:=⟨by simp [zeL]⟩
instance Splice.here (x v:Value) (r m r':List Value) [h:Splice r 0 m r']:Splice (x :: r) 0 (v :: m) (v :: r'):=⟨by
 have:=h.h
 simp [zeL] at this ⊢
 exact ⟨this.1,by omega⟩⟩
instance Splice.succ (x:Value) (r m r':List Value) (k:Nat) [h:Splice r k m r']:Splice (x :: r) (k+1) m (x :: r'):=⟨by
 have:=h.h
 have e:k+1+m.length=k+m.length+1:=by omega
 simp only [zeL,List.take_succ_cons,e,List.drop_succ_cons,List.cons_append,List.length_cons] at this ⊢
 exact ⟨by rw [this.1],by omega⟩⟩
class LenIs {α:Type} (l:List α) (k:Nat):Prop where
 h:l.length=k
instance {α:Type}:LenIs ([]:List α) 0:=⟨rfl⟩
instance {α:Type} (x:α) (l:List α) (k:Nat) [h:LenIs l k]:LenIs (x :: l) (k+1):=⟨by rw [List.length_cons,h.h]⟩
class Fill (place:Nat→Option (Nat×Nat)) (l:List Value) (ps:List (Nat×Value)) (l':outParam (List Value)):Prop where
 h:Instr.fill place l.toArray ps=some l'.toArray
instance (place:Nat→Option (Nat×Nat)) (l:List Value):Fill place l [] l:=⟨rfl⟩
class Place (place:Nat→Option (Nat×Nat)) (i:Nat) (off size:outParam Nat):Prop where
 h:place i=some (off,size)
instance Fill.cons (place:Nat→Option (Nat×Nat)) (l l1 l2 m:List Value) (i off size:Nat) (v:Value) (ps:List (Nat×Value)) [hp:Place place i off size] [hc:Cells v m] [h1:Splice l off m l1] [h2:Fill place l1 ps l2] [hs:LenIs m size]:Fill place l ((i,v) :: ps) l2:=⟨by
 unfold Instr.fill
 simp only [hp.h,hc.h]
 have hf:=zhM m 0 off l.toArray (by have:=h1.h.2;simp;omega)
 have e1:(m.toArray.zipIdx.foldl (fun (cs:Array Value) (p:Value×Nat)=>cs.setIfInBounds (off+p.2) p.1) l.toArray)=l1.toArray:=by
  rw [←h1.h.1]
  simpa [zeL] using hf
 have e2:(m.toArray.size≠size||off+m.toArray.size > l.toArray.size)=false:=by
  have:=h1.h.2
  simp [hs.h]
  have:=hs.h
  omega
 rw [if_neg (by rw [e2];simp)]
 rw [e1]
 exact h2.h⟩
end
class MulIs (i k:Nat) (r:outParam Nat):Prop where
 h:i*k=r
instance:MulIs 0 1 0:=⟨rfl⟩
instance:MulIs 1 1 1:=⟨rfl⟩
instance:MulIs 2 1 2:=⟨rfl⟩
instance:MulIs 3 1 3:=⟨rfl⟩
instance:MulIs 4 1 4:=⟨rfl⟩
instance:MulIs 5 1 5:=⟨rfl⟩
instance:MulIs 6 1 6:=⟨rfl⟩
instance:MulIs 7 1 7:=⟨rfl⟩
instance:MulIs 8 1 8:=⟨rfl⟩
instance:MulIs 9 1 9:=⟨rfl⟩
instance:MulIs 10 1 10:=⟨rfl⟩
instance:MulIs 11 1 11:=⟨rfl⟩
instance:MulIs 12 1 12:=⟨rfl⟩
instance:MulIs 0 2 0:=⟨rfl⟩
instance:MulIs 1 2 2:=⟨rfl⟩
instance:MulIs 2 2 4:=⟨rfl⟩
instance:MulIs 3 2 6:=⟨rfl⟩
instance:MulIs 4 2 8:=⟨rfl⟩
instance:MulIs 5 2 10:=⟨rfl⟩
instance:MulIs 6 2 12:=⟨rfl⟩
instance:MulIs 7 2 14:=⟨rfl⟩
instance:MulIs 8 2 16:=⟨rfl⟩
instance:MulIs 9 2 18:=⟨rfl⟩
instance:MulIs 10 2 20:=⟨rfl⟩
instance:MulIs 11 2 22:=⟨rfl⟩
instance:MulIs 12 2 24:=⟨rfl⟩
instance:MulIs 0 3 0:=⟨rfl⟩
instance:MulIs 1 3 3:=⟨rfl⟩
instance:MulIs 2 3 6:=⟨rfl⟩
instance:MulIs 3 3 9:=⟨rfl⟩
instance:MulIs 4 3 12:=⟨rfl⟩
instance:MulIs 5 3 15:=⟨rfl⟩
instance:MulIs 6 3 18:=⟨rfl⟩
instance:MulIs 7 3 21:=⟨rfl⟩
instance:MulIs 8 3 24:=⟨rfl⟩
instance:MulIs 9 3 27:=⟨rfl⟩
instance:MulIs 10 3 30:=⟨rfl⟩
instance:MulIs 11 3 33:=⟨rfl⟩
instance:MulIs 12 3 36:=⟨rfl⟩
instance:MulIs 0 4 0:=⟨rfl⟩
instance:MulIs 1 4 4:=⟨rfl⟩
instance:MulIs 2 4 8:=⟨rfl⟩
instance:MulIs 3 4 12:=⟨rfl⟩
instance:MulIs 4 4 16:=⟨rfl⟩
instance:MulIs 5 4 20:=⟨rfl⟩
instance:MulIs 6 4 24:=⟨rfl⟩
instance:MulIs 7 4 28:=⟨rfl⟩
instance:MulIs 8 4 32:=⟨rfl⟩
instance:MulIs 9 4 36:=⟨rfl⟩
instance:MulIs 10 4 40:=⟨rfl⟩
instance:MulIs 11 4 44:=⟨rfl⟩
instance:MulIs 12 4 48:=⟨rfl⟩
instance:MulIs 0 5 0:=⟨rfl⟩
instance:MulIs 1 5 5:=⟨rfl⟩
instance:MulIs 2 5 10:=⟨rfl⟩
instance:MulIs 3 5 15:=⟨rfl⟩
instance:MulIs 4 5 20:=⟨rfl⟩
instance:MulIs 5 5 25:=⟨rfl⟩
instance:MulIs 6 5 30:=⟨rfl⟩
instance:MulIs 7 5 35:=⟨rfl⟩
instance:MulIs 8 5 40:=⟨rfl⟩
instance:MulIs 9 5 45:=⟨rfl⟩
instance:MulIs 10 5 50:=⟨rfl⟩
instance:MulIs 11 5 55:=⟨rfl⟩
instance:MulIs 12 5 60:=⟨rfl⟩
instance:MulIs 0 6 0:=⟨rfl⟩
instance:MulIs 1 6 6:=⟨rfl⟩
instance:MulIs 2 6 12:=⟨rfl⟩
instance:MulIs 3 6 18:=⟨rfl⟩
instance:MulIs 4 6 24:=⟨rfl⟩
instance:MulIs 5 6 30:=⟨rfl⟩
instance:MulIs 6 6 36:=⟨rfl⟩
instance:MulIs 7 6 42:=⟨rfl⟩
instance:MulIs 8 6 48:=⟨rfl⟩
instance:MulIs 9 6 54:=⟨rfl⟩
instance:MulIs 10 6 60:=⟨rfl⟩
instance:MulIs 11 6 66:=⟨rfl⟩
instance:MulIs 12 6 72:=⟨rfl⟩
instance:MulIs 0 7 0:=⟨rfl⟩
instance:MulIs 1 7 7:=⟨rfl⟩
instance:MulIs 2 7 14:=⟨rfl⟩
instance:MulIs 3 7 21:=⟨rfl⟩
instance:MulIs 4 7 28:=⟨rfl⟩
instance:MulIs 5 7 35:=⟨rfl⟩
instance:MulIs 6 7 42:=⟨rfl⟩
instance:MulIs 7 7 49:=⟨rfl⟩
instance:MulIs 8 7 56:=⟨rfl⟩
instance:MulIs 9 7 63:=⟨rfl⟩
instance:MulIs 10 7 70:=⟨rfl⟩
instance:MulIs 11 7 77:=⟨rfl⟩
instance:MulIs 12 7 84:=⟨rfl⟩
instance:MulIs 0 8 0:=⟨rfl⟩
instance:MulIs 1 8 8:=⟨rfl⟩
instance:MulIs 2 8 16:=⟨rfl⟩
instance:MulIs 3 8 24:=⟨rfl⟩
instance:MulIs 4 8 32:=⟨rfl⟩
instance:MulIs 5 8 40:=⟨rfl⟩
instance:MulIs 6 8 48:=⟨rfl⟩
instance:MulIs 7 8 56:=⟨rfl⟩
instance:MulIs 8 8 64:=⟨rfl⟩
instance:MulIs 9 8 72:=⟨rfl⟩
instance:MulIs 10 8 80:=⟨rfl⟩
instance:MulIs 11 8 88:=⟨rfl⟩
instance:MulIs 12 8 96:=⟨rfl⟩
instance:MulIs 0 9 0:=⟨rfl⟩
instance:MulIs 1 9 9:=⟨rfl⟩
instance:MulIs 2 9 18:=⟨rfl⟩
instance:MulIs 3 9 27:=⟨rfl⟩
instance:MulIs 4 9 36:=⟨rfl⟩
instance:MulIs 5 9 45:=⟨rfl⟩
instance:MulIs 6 9 54:=⟨rfl⟩
instance:MulIs 7 9 63:=⟨rfl⟩
instance:MulIs 8 9 72:=⟨rfl⟩
instance:MulIs 9 9 81:=⟨rfl⟩
instance:MulIs 10 9 90:=⟨rfl⟩
instance:MulIs 11 9 99:=⟨rfl⟩
instance:MulIs 12 9 108:=⟨rfl⟩
instance:MulIs 0 10 0:=⟨rfl⟩
instance:MulIs 1 10 10:=⟨rfl⟩
instance:MulIs 2 10 20:=⟨rfl⟩
instance:MulIs 3 10 30:=⟨rfl⟩
instance:MulIs 4 10 40:=⟨rfl⟩
instance:MulIs 5 10 50:=⟨rfl⟩
instance:MulIs 6 10 60:=⟨rfl⟩
instance:MulIs 7 10 70:=⟨rfl⟩
instance:MulIs 8 10 80:=⟨rfl⟩
instance:MulIs 9 10 90:=⟨rfl⟩
instance:MulIs 10 10 100:=⟨rfl⟩
instance:MulIs 11 10 110:=⟨rfl⟩
instance:MulIs 12 10 120:=⟨rfl⟩
instance:MulIs 0 11 0:=⟨rfl⟩
instance:MulIs 1 11 11:=⟨rfl⟩
instance:MulIs 2 11 22:=⟨rfl⟩
instance:MulIs 3 11 33:=⟨rfl⟩
instance:MulIs 4 11 44:=⟨rfl⟩
instance:MulIs 5 11 55:=⟨rfl⟩
instance:MulIs 6 11 66:=⟨rfl⟩
instance:MulIs 7 11 77:=⟨rfl⟩
instance:MulIs 8 11 88:=⟨rfl⟩
instance:MulIs 9 11 99:=⟨rfl⟩
instance:MulIs 10 11 110:=⟨rfl⟩
instance:MulIs 11 11 121:=⟨rfl⟩
instance:MulIs 12 11 132:=⟨rfl⟩
instance:MulIs 0 12 0:=⟨rfl⟩
instance:MulIs 1 12 12:=⟨rfl⟩
instance:MulIs 2 12 24:=⟨rfl⟩
instance:MulIs 3 12 36:=⟨rfl⟩
instance:MulIs 4 12 48:=⟨rfl⟩
instance:MulIs 5 12 60:=⟨rfl⟩
instance:MulIs 6 12 72:=⟨rfl⟩
instance:MulIs 7 12 84:=⟨rfl⟩
instance:MulIs 8 12 96:=⟨rfl⟩
instance:MulIs 9 12 108:=⟨rfl⟩
instance:MulIs 10 12 120:=⟨rfl⟩
instance:MulIs 11 12 132:=⟨rfl⟩
instance:MulIs 12 12 144:=⟨rfl⟩
def zgZ (P:Program)(t:TypeId)(i:Nat):Option (Nat×Nat):=
 match P.underlying t with
 |some (.struct fs)=>match fs[i]? with
  |some f=>(P.info? f.type).map fun j=>(f.offset,j.size)
  |none=>none
 |_=>none
class TyPl (P:Program) (t:TypeId) (i:Nat) (off size:outParam Nat):Prop where
 h:zgZ P t i=some (off,size)
instance (P:Program) (t:TypeId) (i off size:Nat) [h:TyPl P t i off size]:Place (zgZ P t) i off size:=⟨h.h⟩
def zgX (size i:Nat):Option (Nat×Nat):=some (i*size,size)
instance (size i off:Nat) [h:MulIs i size off]:Place (zgX size) i off size:=⟨by unfold zgX;rw [h.h]⟩
def ziD (P:Program)(t:TypeId):Bool:=
 match P.underlying t with
 |some (.struct fs)=>fs.all fun f=>(P.info? f.type).isSome
 |_=>false
class TySt (P:Program) (t:TypeId):Prop where
 h:ziD P t=true
def evPs (fs:eb):List (Nat×Operand)→Option (List (Nat×Value))
 | []=>some []
 |(i,x) :: r=>match ev fs x with
  |some v=>match evPs fs r with
   |some vs=>some ((i,v) :: vs)
   |none=>none
  |none=>none
section
variable {F:Fence}[hF:Calm F]{P:Program}{n:Nat}{B D:World}{M:Nat→Prop}{Q:Exit→Act→World→Prop}{fs:eb}{hs:HS}{ops:Array Oper}{rest:List Oper}{o:Oper}{v:Value}
theorem Fr.evPs {a:Act}(ha:Fr n fs a):∀ {xs:List (Nat×Operand)} {vs:List (Nat×Value)},evPs fs xs=some vs→xs.map (fun p=>(p.1,a.eval p.2))=vs
 | [],vs,h=>by simp only [Go.Proofs.YtmnjbhkcfghebaaGreatDoor.evPs] at h;cases h;rfl
 |(i,x) :: r,vs,h=>by
  simp only [Go.Proofs.YtmnjbhkcfghebaaGreatDoor.evPs] at h
  split at h
  ·rename_i v hv
   split at h
   ·rename_i us hus
    cases h
    rw [List.map_cons,Fr.evPs ha hus,ha.ev hv]
   ·cases h
  ·cases h
theorem zgS {p q:Nat→Option (Nat×Nat)}(h:∀i,p i=q i):∀(ps:List (Nat×Value)) (l:Array Value),Instr.fill p l ps=Instr.fill q l ps
 | [],_=>rfl
 |(i,v) :: r,l=>by
  unfold Instr.fill
  rw [h i]
  split
  ·rfl
  ·split
   ·rfl
   ·exact zgS h r _
theorem zgA {w:World}:∀(l:List Field),(∀f∈l,(P.info? f.type).isSome=true)→
  (l.mapM (fun f=>(do pure (f.offset,←sizeOf f.type):Sem (Nat×Nat)))).run P w= .ok (l.map fun f=>(f.offset,((P.info? f.type).map (·.size)).getD 0)) w
 | [],_=>rfl
 |f :: r,h=>by
  obtain ⟨i,hi⟩:=Option.isSome_iff_exists.1 (h f b6)
  have ih:=zgA (w:=w) r (fun x hx=>h x (by simp [hx]))
  simp [List.mapM_cons,sizeOf,typeInfo,hi] at ih ⊢
  rw [ih]
  simp
theorem Yv.build {t:TypeId}{ps:Array (Nat×Operand)}{vs:List (Nat×Value)}{z l:List Value}[hS:TySt P t][hZ:TyZ P t z](ho:o.op= .build t ps)(hv:evPs fs ps.toList=some vs)[hF:Fill (zgZ P t) z vs l]:Yv P n B M fs hs o (.agg l.toArray):=fun a w ha _=>by
 have h:=hS.h
 unfold ziD at h
 split at h
 ·rename_i fl hU
  have hz:=hZ.h
  unfold ziw at hz
  cases hi:P.info? t with
  |none=>rw [hi] at hz;cases hz
  |some i=>
   rw [hi] at hz
   cases hz':i.zero with
   |none=>simp [hz'] at hz
   |some zv=>
    simp [hz'] at hz
    have hall:∀f∈fl.toList,(P.info? f.type).isSome=true:=by
     intro f hf
     have:=Array.all_eq_true_iff_forall_mem.1 h f (by simpa using hf)
     exact this
    have hm:=zgA (P:=P) (w:=w) fl.toList hall
    have hm':(fl.mapM (fun f=>(do pure (f.offset,←sizeOf f.type):Sem (Nat×Nat)))).run P w= .ok (fl.toList.map fun f=>(f.offset,((P.info? f.type).map (·.size)).getD 0)).toArray w:=by
     rw [Array.mapM_eq_mapM_toList]
     simp only [Sem.run_map,hm]
     rfl
    have hps:ps.map (fun (p:Nat×Operand)=>(p.1,a.eval p.2))=vs.toArray:=by
     apply Array.ext'
     rw [Array.toList_map]
     exact ha.evPs hv
    have hfill:=hF.h
    rw [zgS (q:=fun i=>((fl.toList.map fun f=>(f.offset,((P.info? f.type).map (·.size)).getD 0)).toArray)[i]?) ?_] at hfill
    ·unfold execOp
     simp only [ho,Instr.build,zeroValue,typeInfo,underlying]
     have e:(ps.map fun (x:Nat×Operand)=>match x with|(i,x)=>(i,a.eval x))=vs.toArray:=hps
     simp only [e,Sem.run_bind,run_program,Result.andThen_ok,hi,Sem.run_pure,hz',hU,hm',hz,hfill]
    ·intro i
     unfold zgZ
     rw [hU]
     simp only [List.getElem?_toArray,List.getElem?_map,Array.getElem?_toList]
     cases hfi:fl[i]? with
     |none=>rfl
     |some f=>
      obtain ⟨j,hj⟩:=Option.isSome_iff_exists.1 (hall f (by simpa using Array.mem_of_getElem? hfi))
      simp [hj]
 ·cases h
class Zs (z:List Value) (k:Nat) (l:outParam (List Value)):Prop where
 h:((Array.range (k*z.length)).map fun i=>z.toArray[i % z.toArray.size]!)=l.toArray
theorem Ew.buildSlice {t e:TypeId}{len size bytes:Nat}{ps:Array (Nat×Operand)}{vs:List (Nat×Value)}{z l0 l:List Value}[hT:TyE P t e size bytes z](ho:o.op= .buildSlice t len ps)(hv:evPs fs ps.toList=some vs)
  (hlen:Nat.ble 1 len=true) (hbig:len*size≤16777216) [hZ:Zs z len l0] [hF:Fill (zgX size) l0 vs l]:Ew P n B M fs hs o (fun v hs'=>∃g,v= .slice (some ⟨g,0,none⟩) len len∧hs'= .row g e l :: hs):=fQ fun a w ha hp=>by
 obtain ⟨i,zv,hU,hi,hz,hzc,rfl,rfl,hzs,hpos⟩:=hT.get
 have hps:ps.map (fun (p:Nat×Operand)=>(p.1,a.eval p.2))=vs.toArray:=by
  apply Array.ext'
  rw [Array.toList_map]
  exact ha.evPs hv
 have hlen':1≤len:=by simpa using hlen
 have hne:len*i.size≠0:=by
  have:=Nat.mul_pos hlen' hpos
  omega
 have hzl:z.length=i.size:=by rw [hzc] at hzs;simpa using hzs
 refine ⟨_,_,_,?_,Kp.alloc w _,hp.allocRow e l,w.heap.size,rfl,rfl⟩
 unfold execOp
 have e1:(ps.map fun (x:Nat×Operand)=>match x with|(i,x)=>(i,a.eval x))=vs.toArray:=hps
 have hZ':=hZ.h
 rw [hzl] at hZ'
 have hfill:=hF.h
 have e2:(fun j=>some (j*i.size,i.size))=zgX i.size:=rfl
 simp [ho,Instr.buildSlice,underlying,hU,sizeOf,typeInfo,hi,show ¬16777216<len*i.size by omega,hne,zeroValue,hz,hzc,e1]
 rw [e2]
 simp at hZ'
 rw [hZ',hfill]
 simp [newRow]
theorem zhW {F:Fence}[hF:Calm F]{m:Nat}{f:FuncId}{args:Array Value}{w:World}{R R':Ending→World→Prop}(h:Calls P f args w R)(hr:∀e w',R e w'→R' e w'):CallsIn F m P f args w R':=hF.calls (h.mono hr)
theorem Ew.call {c:Operand}{xs:Array Operand}{ts:Array TypeId}{f:FuncId}{fst caps:Array Value}{vs:List Value}{Φ:Value→HS→Prop}[hE:Enters P f](ho:o.op= .call { callee:= .value c,args:=xs,argTypes:=ts })(hc:ev fs c=some (.func (.func f) fst caps))(hv:evs fs xs.toList=some vs)
  (C:∀w,Hp B M hs w→Calls P f (fst.toList++vs++caps.toList).toArray w (fun e w'=>∃v hs',e= .returned v∧Kp w w'∧Hp B M hs' w'∧Φ v hs')):Ew P n B M fs hs o Φ:=fun F hF Q K a w ha hp k=>by
 have h1:xs.map a.eval=vs.toArray:=by rw [←ha.evs hv];apply Array.ext';simp
 have hrun:(execOp a.eval o).run P w= .ok (.enter f (fst.toList++vs++caps.toList).toArray) w:=by
  unfold execOp
  have:=hE.run (fst.toList++vs++caps.toList).toArray w
  simp only [ho,resolve,ha.ev hc,Deferred.ofValue,h1,invoke,Sem.run_bind,Sem.run_pure,Result.andThen_ok]
  rw [←this]
  congr 2
  apply Array.ext'
  simp
 refine zii (zkP hrun) ?_
 rw [hrun,Oper.uponIn_enter]
 refine ⟨(fun h=>by rw [hF.depth] at h;cases h),zhW (C w hp) ?_⟩
 rintro e w' ⟨v,hs',rfl,hk,hp',hΦ⟩
 exact k v w' hs' hk hp' hΦ
theorem de {c:Operand}{xs:Array Operand}{ts:Array TypeId}{f:FuncId}{vs:List Value}[hE:Enters P f](ho:o.op= .call { callee:= .value c,args:=xs,argTypes:=ts })(hc:ev fs c=some (.func (.func f) #[] #[]))(hv:evs fs xs.toList=some vs)
  (C:∀w,Hp B M hs w→Calls P f vs.toArray w (fun e w'=>e= .returned v∧Below w.heap.size w w')):Ew P n B M fs hs o (fun v' hs'=>v'=v∧hs'=hs):=
 Ew.call ho hc hv fun w hp=>by
  have:=C w hp
  simp only [List.append_nil,List.nil_append]
  exact this.mono fun e w' ⟨he,hb⟩=>⟨v,hs,he,Kp.below hb,hp.below hb,rfl,rfl⟩
theorem Ew.ct {c:Operand}{xs:Array Operand}{ts:Array TypeId}{f:FuncId}{vs:List Value}{Φ:Value→HS→Prop}[hE:Enters P f](ho:o.op= .call { callee:= .value c,args:=xs,argTypes:=ts })(hc:ev fs c=some (.func (.func f) #[] #[]))(hv:evs fs xs.toList=some vs)
  (C:∀w,Hp B M hs w→Calls P f vs.toArray w (fun e w'=>∃v hs',e= .returned v∧Kp w w'∧Hp B M hs' w'∧Φ v hs')):Ew P n B M fs hs o Φ:=
 Ew.call ho hc hv fun w hp=>by
  have:=C w hp
  simp only [List.append_nil,List.nil_append]
  exact this
theorem zf0 {w w':World}{r:Option Nat}(h:w.grownBy w' r):Only (fun k=>r=some k) w w':=⟨h.os,h.tape,h.output,h.size,fun k hk hn=>h.block k hk (fun e=>hn e.symm)⟩
theorem Ew.makeSlice {t e:TypeId}{size bytes k:Nat}{z:List Value}{x y:Operand}{q q':IntKind}{xi yi:Int}[hT:TyE P t e size bytes z](ho:o.op= .makeSlice t x y)(hx:ev fs x=some (.int q xi))(hy:ev fs y=some (.int q' yi))(hxi:xi=(k:Int))(hyi:yi=(k:Int))(hk:k≤9223372036854775807)(hb:bytes*k≤281474976710656):
  Ew P n B M fs hs o (fun v hs'=>∃g,v= .slice (some ⟨g,0,none⟩) k k∧hs'= .sl (.slice (some ⟨g,0,none⟩) k k) e size k (madeCells z.toArray (k*size)).toList :: hs):=fQ fun a w ha hp=>by
 obtain ⟨inf,zv,hU,hinf,hz,hzc,rfl,rfl,hzs,hpos⟩:=hT.get
 subst hxi hyi
 obtain ⟨w',hr,hown,hgr⟩:=run_make_full (P:=P) w 0 t e inf zv inf.size hU hinf hz rfl q q' k hb (by unfold maxLen;omega) (Nat.zero_le _)
 rw [hzc] at hown
 refine ⟨_,w',_,?_,Kp.only (zf0 hgr) (fun g hg=>by cases hg),hp.fresh ⟨hgr.os,hgr.tape,hgr.output,hgr.size,fun k hk=>hgr.block k hk b6⟩ (dH.2 hown) (fun p hp=>?_),w.heap.size,rfl,rfl⟩
 ·unfold execOp
  simp [ho,ha.ev hx,ha.ev hy,hr]
 ·have:=dO.1 hp
  simp [Value.ownBlock] at this
  omega
theorem Hp.slNil {w:World}(h:Hp B M hs w)(e:TypeId)(size:Nat):Hp B M (.sl (.slice none 0 0) e size 0 [] :: hs) w:=
 h.fresh (Below.refl _ _) (dH.2 (World.ownsRow_nil w 0 e size)) (fun g hg=>by have:=dO.1 hg;cases this)
theorem TL.slNil {l:List Oper}(e:TypeId)(size:Nat)(h:TL F P n B D M ops Q l fs (.sl (.slice none 0 0) e size 0 [] :: hs)):TL F P n B D M ops Q l fs hs:=⟨fun a w ha hw hm=>h.out a w ha (hw.slNil e size) hm⟩
theorem Yv.cu (i:Nat){t e:TypeId}[hT:TyS P t]{g p size k cap:Nat}{l:List Value}{x:Operand}(ho:o.op= .load t x)(hx:ev fs x=some (.pointer (some ⟨g,p,none⟩)))(hi:hs[i]?=some (.sl (.slice (some ⟨g,0,none⟩) k cap) e size k l))(hv:l[p]?=some v):Yv P n B M fs hs o v:=fun a w ha hw=>
 zfw ho (ha.ev hx) (by
  have h:=dH.1 (hw.get hi)
  rw [World.ownsRow.cellAt h p (by rw [←h.1];exact (List.getElem?_eq_some_iff.1 hv).1)];exact hv)
theorem Yv.cg (i:Nat){t e:TypeId}{q:Nat}[hT:TyA P t q]{g p size k cap:Nat}{l m:List Value}{x:Operand}(ho:o.op= .load t x)(hx:ev fs x=some (.pointer (some ⟨g,p,none⟩)))(hi:hs[i]?=some (.sl (.slice (some ⟨g,0,none⟩) k cap) e size k l))(hm:(l.drop p).take m.length=m)(hl:m.length=q):Yv P n B M fs hs o (.agg m.toArray):=fun a w ha hw=>
 zfx ho (ha.ev hx) (fun j hj=>by
  have h:=dH.1 (hw.get hi)
  have hlen:((l.drop p).take m.length).length=m.length:=by rw [hm]
  simp at hlen
  rw [World.ownsRow.cellAt h (p+j) (by rw [←h.1];omega),←List.getElem?_drop,←List.getElem?_take_of_lt hj,hm]) hl
end
inductive Ord where
 |done
 |still (i:Nat) (k:Ord)
 |eff (i:Nat) (k:Ord)
 |two (i j:Nat) (x y:Ord)
 |any (js:List Nat) (k:Ord)
 |bar (i:Nat) (k:Ord)
def zk1 (ops:Array Oper)(chk:Nat→Array Bool→Bool):Nat→List Nat→Nat→Array Bool→Bool
 |0,js,fuel,listed=>js.isEmpty&&chk fuel listed
 |m+1,js,fuel+1,listed=>Region.ready .any ops listed == js&&(!js.isEmpty&&js.all fun j=>zk1 ops chk m (js.erase j) fuel (listed.setIfInBounds j true))
 |_+1,_,0,_=>false
def kR (ops:Array Oper):Ord→Nat→Array Bool→Bool
 | .done,_,listed=>Region.ready .any ops listed == []
 | .still i k,fuel+1,listed=>Region.free .any ops listed i&&((Region.ready .any ops listed).contains i&&kR ops k fuel (listed.setIfInBounds i true))
 | .eff i k,fuel+1,listed=>Region.ready .any ops listed == [i]&&kR ops k fuel (listed.setIfInBounds i true)
 | .two i j x y,fuel+1,listed=>Region.ready .any ops listed == [i,j]&&(kR ops x fuel (listed.setIfInBounds i true)&&kR ops y fuel (listed.setIfInBounds j true))
 | .any js k,fuel,listed=>zk1 ops (fun f l=>kR ops k f l) js.length js fuel listed
 | .bar i k,fuel+1,listed=>Region.ready .any ops listed == [i]&&(jX .any ops i listed&&kR ops k fuel (listed.setIfInBounds i true))
 | .bar _ _,0,_=>false
 | .still _ _,0,_=>false
 | .eff _ _,0,_=>false
 | .two _ _ _ _,0,_=>false
def OKd (ops:Array Oper)(r:Ord)(fuel:Nat)(listed:Array Bool):Prop:=kR ops r fuel listed=true∧ClosedL .any ops listed
class NP (Q:Exit→Act→World→Prop):Prop where
 h:∀c a d v w,Q (.panic c) (Act.put a d v) w→Q (.panic c) a w
instance (P:Program) (fn:Func) (R:Ending→World→Prop):NP (kw P fn R):=⟨fun c a d v w h=>h⟩
instance (N:Act→World→Prop) (Q:Exit→Act→World→Prop) [h:NP Q]:NP (Exit.then N Q):=⟨fun c a d v w k=>h.h c a d v w k⟩
instance (id:Nat) (Q:Exit→Act→World→Prop) [h:NP Q]:NP (Exit.inBlock id Q):=⟨fun c a d v w k=>h.h c a d v w k⟩
class Mixed (P:Program):Prop where
 h:P.follows .mixedOrders=true
section
variable (F:Fence)(P:Program)(n:Nat)(B D:World)(M:Nat→Prop)(ops:Array Oper)(Q:Exit→Act→World→Prop)(hs0:HS)
structure TS (r:Ord) (fs:eb) (hs:HS):Prop where
 out:∀a w fuel (listed:Array Bool),Region.noSelect ops=true→ze6 ops=true→OKd ops r fuel listed→Fr n fs a→Hp B M hs w→Hp B M hs0 w→Mk B D a w→lN F P .any ops Q fuel listed (Hp B M hs0) a w
structure TSo (i:Nat) (k:Ord) (fs:eb) (hs:HS):Prop where
 out:∀a w fuel (listed:Array Bool),Region.noSelect ops=true→ze6 ops=true→OKd ops k fuel (listed.setIfInBounds i true)→Fr n fs a→Hp B M hs w→Hp B M hs0 w→Mk B D a w→wpOpIn F 0 P ops Q i (fun a' w'=>∃S':World→Prop,(jX .any ops i listed=false→S'=Hp B M hs0)∧S' w'∧lN F P .any ops Q fuel (listed.setIfInBounds i true) S' a' w') a w
structure TSb (i:Nat) (k:Ord) (fs:eb) (hs:HS):Prop where
 out:∀a w fuel (listed:Array Bool),Region.noSelect ops=true→ze6 ops=true→OKd ops k fuel (listed.setIfInBounds i true)→Fr n fs a→Hp B M hs w→Mk B D a w→wpOpIn F 0 P ops Q i (fun a' w'=>∃S':World→Prop,S' w'∧lN F P .any ops Q fuel (listed.setIfInBounds i true) S' a' w') a w
end
section
variable {F:Fence}[hF:Calm F]{P:Program}{n:Nat}{B D:World}{M:Nat→Prop}{Q:Exit→Act→World→Prop}{fs:eb}{hs hs0:HS}{ops:Array Oper}{o:Oper}{v:Value}{k x y:Ord}{i j:Nat}{l:List Oper}
theorem dS (r:Ord)(hs0:HS){id:Nat}{l:List Oper}[hm:Mixed P](hok:(Region.noSelect l.toArray&&ze6 l.toArray&&kR l.toArray r l.length (Array.replicate l.length false))=true)(hsub:hs0.Sublist hs)(h:TS F P n B D M l.toArray Q hs0 r fs hs):T F P n B D M (.region id l.toArray true) Q fs hs:=
 ⟨fun a w ha hw hk=>zf8 (S:=Hp B M hs0) hm.h (by
  simp only [Bool.and_eq_true] at hok
  have hw':Hp B M hs { w with drawn:=w.drawn+1 }:=hw.same rfl rfl rfl rfl
  have:=h.out a _ l.length (Array.replicate l.length false) hok.1.1 hok.1.2 ⟨hok.2,ClosedL.nil _⟩ ha hw' (hw'.sub hsub) (hk.next (Kp.same rfl))
  simpa using this)⟩
theorem TS.done (h:K n B D M Q .normal fs hs):TS F P n B D M ops Q hs0 .done fs hs:=
 ⟨fun a w fuel listed hns hnd hok ha hw _ hm=>zim (by
  have hok:=hok.1
  cases fuel <;> simpa [kR] using hok) (h.out a w ha hw hm) fuel⟩
theorem TS.bK {d:Nat}[hnp:NP Q](hi:ops[i]?=some o)(hd:o.dst=some d)(hb:Nat.blt d n=true)(hy:∀a,Fr n fs a→YieldsIf P ops (Hp B M hs0) o v a)(h:TS F P n B D M ops Q hs0 k ((d,v) :: fs) hs):TS F P n B D M ops Q hs0 (.still i k) fs hs:=
 ⟨fun a w fuel listed hns hnd hok ha hw hw0 hm=>by
  cases fuel with
  |zero=>simp [OKd,kR] at hok
  |succ fuel=>
   obtain ⟨hok,hcl⟩:=hok
   simp only [kR,Bool.and_eq_true] at hok
   refine zig (v:=v) hi hns hnd hok.1 hok.2.1 hcl (fun c a w hq=>hnp.h c a _ _ w hq) (hy a ha) hw0 ?_
   rw [hd]
   exact h.out _ w fuel _ hns hnd ⟨hok.2.2,hcl.step (by simpa using hok.2.1)⟩ (ha.put hb v) hw hw0 (hm.put _ _)⟩
theorem TS.still {d:Nat}[hnp:NP Q](hi:ops[i]?=some o)(hwt:Wt n ops fs o true)(hd:o.dst=some d)(hb:Nat.blt d n=true)(hy:Yv P n B M fs hs0 o v)(h:TS F P n B D M ops Q hs0 k ((d,v) :: fs) hs):TS F P n B D M ops Q hs0 (.still i k) fs hs:=
 TS.bK hi hd hb (fun a ha=> .inl ⟨hwt a ha,fun w hw=>hy a w ha hw⟩) h
theorem TS.bO {d:Nat}[hnp:NP Q](hi:ops[i]?=some o)(hwt:Wt n ops fs o false)(hd:o.dst=some d)(hb:Nat.blt d n=true)(h:TS F P n B D M ops Q hs0 k ((d,undef) :: fs) hs):TS F P n B D M ops Q hs0 (.still i k) fs hs:=
 TS.bK hi hd hb (fun a ha=> .inr ⟨hwt a ha,rfl⟩) h
theorem TS.eff (h:TSo F P n B D M ops Q hs0 i k fs hs):TS F P n B D M ops Q hs0 (.eff i k) fs hs:=
 ⟨fun a w fuel listed hns hnd hok ha hw hw0 hm=>by
  cases fuel with
  |zero=>simp [OKd,kR] at hok
  |succ fuel=>
   obtain ⟨hok,hcl⟩:=hok
   simp only [kR,Bool.and_eq_true,beq_iff_eq] at hok
   refine zgU hok.1 b6 ?_
   intro q hq
   simp at hq
   subst hq
   exact h.out a w fuel listed hns hnd ⟨hok.2,hcl.step (by rw [hok.1];simp)⟩ ha hw hw0 hm⟩
theorem TS.two (h1:TSo F P n B D M ops Q hs0 i x fs hs)(h2:TSo F P n B D M ops Q hs0 j y fs hs):TS F P n B D M ops Q hs0 (.two i j x y) fs hs:=
 ⟨fun a w fuel listed hns hnd hok ha hw hw0 hm=>by
  cases fuel with
  |zero=>simp [OKd,kR] at hok
  |succ fuel=>
   obtain ⟨hok,hcl⟩:=hok
   simp only [kR,Bool.and_eq_true,beq_iff_eq] at hok
   refine zgU hok.1 b6 ?_
   intro q hq
   simp at hq
   rcases hq with rfl|rfl
   ·exact h1.out a w fuel listed hns hnd ⟨hok.2.1,hcl.step (by rw [hok.1];simp)⟩ ha hw hw0 hm
   ·exact h2.out a w fuel listed hns hnd ⟨hok.2.2,hcl.step (by rw [hok.1];simp)⟩ ha hw hw0 hm⟩
theorem ly {d:Nat}(hi:ops[i]?=some o)(hwt:Wt n ops fs o false)(hd:o.dst=some d)(hb:Nat.blt d n=true)(h:TS F P n B D M ops Q hs0 k ((d,undef) :: fs) hs):TSo F P n B D M ops Q hs0 i k fs hs:=
 ⟨fun a w fuel listed hns hnd hok ha hw hw0 hm=>by
  unfold wpOpIn
  simp only [hi,hwt a ha,Bool.false_eq_true,if_false]
  rw [hd]
  exact ⟨fun f _=>hF.fn f,_,fun _=>rfl,hw0,h.out _ w fuel _ hns hnd hok (ha.put hb undef) hw hw0 (hm.put _ _)⟩⟩
end
section
variable {F:Fence}[hF:Calm F]{P:Program}{n:Nat}{B D:World}{M:Nat→Prop}{Q:Exit→Act→World→Prop}{fs:eb}{hs:HS}{ops:Array Oper}{rest:List Oper}{o:Oper}{v:Value}
theorem Hp.comp {w w':World}{es:HS}(h:Hp B M hs w)(k:Hp w (fun _=>False) es w'):Hp B M (es++hs) w':=
 Hp.go (es:=[]) (es':=es) (S:=fun _=>False) h k.only (fun _ _ h=>h.elim) k.own (fun e he g hg=>(k.new e he g hg).elim (fun h=>h.elim) .inr) k.apart
theorem jC {ι:Type}{φ:ι→Prop}{val:ι→Value}{es:ι→HS}{c:Operand}{xs:Array Operand}{ts:Array TypeId}{f:FuncId}{vs:List Value}[hE:Enters P f](ho:o.op= .call { callee:= .value c,args:=xs,argTypes:=ts })(hc:ev fs c=some (.func (.func f) #[] #[]))(hv:evs fs xs.toList=some vs)
  (C:∀w,Hp B M hs w→Calls P f vs.toArray w (fun e w'=>∃x,φ x∧e= .returned (val x)∧Hp w (fun _=>False) (es x) w')):Ew P n B M fs hs o (fun v' hs'=>∃x,φ x∧v'=val x∧hs'=es x++hs):=
 Ew.ct ho hc hv fun w hp=>(C w hp).mono fun e w' ⟨x,hx,he,hk⟩=>⟨val x,es x++hs,he,Kp.only hk.only (fun _ h=>h.elim),hp.comp hk,x,hx,rfl,rfl⟩
theorem Yv.max2 {x y:Operand}{ts:Array TypeId}{k:IntKind}{a b:Int}(ho:o.op= .call { callee:= .builtin .max,args:= #[x,y],argTypes:=ts })(hx:ev fs x=some (.int k a))(hy:ev fs y=some (.int k b)):Yv P n B M fs hs o (.int k (max a b)):=fun f w ha _=>by
 unfold execOp
 simp [ho,ha.ev hx,ha.ev hy,resolve,invoke,builtin,Builtin.max_,Builtin.max2]
 split <;> omega
theorem Yv.min2 {x y:Operand}{ts:Array TypeId}{k:IntKind}{a b:Int}(ho:o.op= .call { callee:= .builtin .min,args:= #[x,y],argTypes:=ts })(hx:ev fs x=some (.int k a))(hy:ev fs y=some (.int k b)):Yv P n B M fs hs o (.int k (min a b)):=fun f w ha _=>by
 unfold execOp
 simp [ho,ha.ev hx,ha.ev hy,resolve,invoke,builtin,Builtin.min_,Builtin.min2]
 split <;> omega
theorem Yv.bL {t e c i:Nat}{z:Int}{q:IntKind}{x y:Operand}{l:List Value}[hT:TyAr P t c e 1][hE:TyS P e](ho:o.op= .index t x y)(hx:ev fs x=some (.agg l.toArray))(hy:ev fs y=some (.int q z))(hz:z=(i:Int))(hi:i<c)(hv:l[i]?=some v):Yv P n B M fs hs o v:=fun a w ha _=>by
 have h:=hT.h
 unfold ziU at h
 split at h
 ·rename_i cc el hU
  cases hi':P.info? el with
  |none=>rw [hi'] at h;cases h
  |some inf=>
   rw [hi'] at h
   simp at h
   obtain ⟨rfl,rfl,h1⟩:=h
   subst hz
   unfold execOp
   have e1:=zeW (P:=P) hE.h w
   simp [ho,ha.ev hx,ha.ev hy,Instr.index,asIntOf,underlying,hU,hi,sizeOf,typeInfo,hi',part,e1.1,h1,hv]
 ·cases h
theorem Yv.bR {t e k c:TypeId}{ps:Array (Nat×Operand)}{vs:List (Nat×Value)}{z l:List Value}[hT:TyAr P t c e k][hZ:TyZ P t z](ho:o.op= .build t ps)(hv:evPs fs ps.toList=some vs)[hF:Fill (zgX k) z vs l]:Yv P n B M fs hs o (.agg l.toArray):=fun a w ha _=>by
 have h:=hT.h
 unfold ziU at h
 split at h
 ·rename_i cc el hU
  cases hi':P.info? el with
  |none=>rw [hi'] at h;cases h
  |some inf=>
   rw [hi'] at h
   cases h
   have hz:=hZ.h
   unfold ziw at hz
   cases hi:P.info? t with
   |none=>rw [hi] at hz;cases hz
   |some i=>
    rw [hi] at hz
    cases hz':i.zero with
    |none=>simp [hz'] at hz
    |some zv=>
     simp [hz'] at hz
     have hps:ps.map (fun (p:Nat×Operand)=>(p.1,a.eval p.2))=vs.toArray:=by
      apply Array.ext'
      rw [Array.toList_map]
      exact ha.evPs hv
     have e1:(ps.map fun (x:Nat×Operand)=>match x with|(i,x)=>(i,a.eval x))=vs.toArray:=hps
     have hfill:=hF.h
     have e2:(fun j=>some (j*inf.size,inf.size))=zgX inf.size:=rfl
     unfold execOp
     simp only [ho,Instr.build,zeroValue,typeInfo,underlying,sizeOf]
     simp only [e1,Sem.run_bind,run_program,Result.andThen_ok,hi,Sem.run_pure,hz',hU,hz,hi',e2,hfill]
 ·cases h
theorem zdJ {w:World}{t u:TypeId}{k g:Nat}[hT:TyA P t k]{l:List Value}(h:w.heap[g]?=some (.cells l.toArray u (0,0)))(hl:l.length=k):(loadVar t ⟨g,0,none⟩).run P w= .ok (.agg l.toArray) w:=by
 subst hl
 have h1:=(zeW (P:=P) hT.h w)
 have h2:=zeO (P:=P) (gM (p:=0) (m:=l) h b6) l.length 0 #[] a7
 simp [loadVar,h1.1,h1.2,loadCells,h2]
theorem jV (i:Nat){fn:Func}{R:Ending→World→Prop}{t u:TypeId}{s g k:Nat}{l:List Value}[hT:TyA P t k](hr:fn.results= #[.cell s t])(hv:eJ fs s=some (.pointer (some ⟨g,0,none⟩)))(hi:hs[i]?=some (.row g u l))(hl:l.length=k)(h:∀w,Hp B M hs w→R (.returned (.agg l.toArray)) w):K n B D M (kw P fn R) .ret fs hs:=
 (jW (fun a w ha hw=>by
  have h1:=zdJ (P:=P) (t:=t) (dC.1 (hw.get hi)) hl
  simp [results,hr,ha.get s _ hv,asAddr,h1]) h).1
theorem iE (i:Nat){fn:Func}{R:Ending→World→Prop}{t u:TypeId}{s r g k:Nat}{l:List Value}{x:Value}[hT:TyA P t k](hr:fn.results= #[.cell s t, .tmp r])(hv:eJ fs s=some (.pointer (some ⟨g,0,none⟩)))(hx:eJ fs r=some x)(hi:hs[i]?=some (.row g u l))(hl:l.length=k)(h:∀w,Hp B M hs w→R (.returned (.tuple #[.agg l.toArray,x])) w):K n B D M (kw P fn R) .ret fs hs:=
 (jW (fun a w ha hw=>by
  have h1:=zdJ (P:=P) (t:=t) (dC.1 (hw.get hi)) hl
  simp [results,hr,ha.get s _ hv,ha.get r _ hx,asAddr,h1]) h).1
def SlOf {α:Type}(w:World)(v:Value)(enc:α→List Value)(size:Nat)(xs:List α):Prop:=
 ∃(A:Option Addr) (cap:Nat),v= .slice A xs.length cap∧(0<xs.length→∃g off,A=some ⟨g,off,none⟩∧∀i (h:i<xs.length),Cs w g (off+i*size) (enc xs[i]))
theorem Cs.lt {w:World}{g p:Nat}{l:List Value}(h:Cs w g p l)(hl:0<l.length):g<w.heap.size:=by
 have:=h 0 hl
 rw [List.getElem?_eq_getElem hl] at this
 exact zjF this
def nth {α:Type}[Inhabited α](xs:List α)(k:Nat):α:=xs.getD k default
theorem eZ {α:Type}[Inhabited α]{xs:List α}{k:Nat}(h:k<xs.length):nth xs k=xs[k]:=by
 simp [nth,h]
theorem SlOf.op {α:Type}[Inhabited α]{w:World}{enc:α→List Value}{size:Nat}{xs:List α}(h:SlOf w v enc size xs):
  ∃(A:Option Addr) (cap:Nat),v= .slice A xs.length cap∧(0<xs.length→∃g off,A=some ⟨g,off,none⟩∧∀i,i<xs.length→Cs w g (off+i*size) (enc (nth xs i))):=by
 obtain ⟨A,cap,rfl,hc⟩:=h
 refine ⟨A,cap,rfl,fun hl=>?_⟩
 obtain ⟨g,off,rfl,hcs⟩:=hc hl
 exact ⟨g,off,rfl,fun i hi=>by
  have:=hcs i hi
  rwa [eZ hi]⟩
theorem zfG {α:Type}(enc:α→List Value)(size:Nat)(he:∀x,(enc x).length=size):∀(xs:List α) (i:Nat) (h:i<xs.length) (j:Nat),j<size→(xs.flatMap enc)[i*size+j]?=(enc xs[i])[j]?
 |x :: r,0,_,j,hj=>by
  simp only [List.flatMap_cons,Nat.zero_mul,Nat.zero_add,List.getElem_cons_zero]
  rw [List.getElem?_append_left (by rw [he];exact hj)]
 |x :: r,i+1,h,j,hj=>by
  simp only [List.flatMap_cons,List.getElem_cons_succ]
  rw [List.getElem?_append_right (by rw [he,Nat.add_mul];omega),he]
  have e:(i+1) *size+j - size=i*size+j:=by rw [Nat.add_mul];omega
  rw [e]
  exact zfG enc size he r i (by simpa using h) j hj
theorem zks {α:Type}(enc:α→List Value)(size:Nat)(he:∀x,(enc x).length=size)(xs:List α):(xs.flatMap enc).length=xs.length*size:=by
 induction xs with
 |nil=>simp
 |cons x r ih=>rw [List.flatMap_cons,List.length_append,ih,he,List.length_cons,Nat.add_mul];omega
theorem SlOf.own {α:Type}{w:World}{enc:α→List Value}{size:Nat}(he:∀x,(enc x).length=size){e:TypeId}{k:Nat}{xs:List α}(h:w.ownsRow 0 e size v k (xs.flatMap enc))(hk:k=xs.length):SlOf w v enc size xs:=by
 subst hk
 rcases h.2 with ⟨rfl,h0⟩|⟨g,cap,cur,rfl,hb,hg,r⟩
 ·exact ⟨none,0,by rw [h0],fun hl=>by omega⟩
 ·refine ⟨_,cap,rfl,fun _=>⟨g,0,rfl,fun i hi j hj=>?_⟩⟩
  rw [he] at hj
  have hlt:i*size+j<xs.length*size:=by
   have:(i+1) *size≤xs.length*size:=Nat.mul_le_mul_right _ hi
   rw [Nat.add_mul] at this
   omega
  rw [Nat.zero_add,World.ownsRow.cellAt h _ hlt,zfG enc size he xs i hi j hj]
theorem SlOf.lit {α:Type}{w:World}{enc:α→List Value}{size:Nat}(he:∀x,(enc x).length=size){g:Nat}{t:TypeId}{l:List Value}(xs:List α)(h:w.heap[g]?=some (.cells l.toArray t (0,0)))(hl:l=xs.flatMap enc){k c:Nat}(hk:k=xs.length):SlOf w (.slice (some ⟨g,0,none⟩) k c) enc size xs:=by
 subst hk hl
 refine ⟨_,c,rfl,fun _=>⟨g,0,rfl,fun i hi j hj=>?_⟩⟩
 rw [he] at hj
 rw [Nat.zero_add,ze7 h,zfG enc size he xs i hi j hj]
end
@[irreducible] def Ent.lp (l:Nat) (r:Loop):Ent where
 fp:=(· =l)
 ok w:=w.heap[l]?=some (.loop r)
 loc h k:=(h l rfl).trans k
 lt h k e:=by subst e;exact (Array.getElem?_eq_some_iff.1 h).1
 nd h k e c:=by subst e;rw [h];simp
section
variable {P:Program}{n:Nat}{B D:World}{M:Nat→Prop}{Q:Exit→Act→World→Prop}{fs:eb}{hs:HS}{ops:Array Oper}{rest:List Oper}{o:Oper}{v:Value}
def zl6 (B D:World)(M:Nat→Prop)(H:HS→Prop)(Zx:Code→HS→Prop)(X:Ent):Exit→Act→World→Prop
 | .normal,_,w=>Kp D w∧∃z,H z∧Hp B M (z++[X]) w
 | .ret,_,w=>Kp D w∧∃z,Zx .ret z∧Hp B M (z++[X]) w
 | .exit id,_,w=>Kp D w∧∃z,Zx (.exit id) z∧Hp B M (z++[X]) w
 |_,_,_=>False
instance (B D:World) (M:Nat→Prop) (H:HS→Prop) (Zx:Code→HS→Prop) (X:Ent):NP (zl6 B D M H Zx X):=⟨fun c a d v w h=>h⟩
end
instance (k:Nat) (v:Value) [h:OneC v]:OneCs (List.replicate k v):=⟨fun x hx=>by rw [(List.mem_replicate.1 hx).2];exact h.h⟩
section
variable {F:Fence}[hF:Calm F]{P:Program}{n:Nat}{B D:World}{M:Nat→Prop}{Q:Exit→Act→World→Prop}{fs:eb}{hs:HS}{ops:Array Oper}{rest:List Oper}{o:Oper}{v:Value}
theorem gw (i:Nat){t e e':TypeId}{k size len:Nat}{l:List Value}{x:Operand}{sv:Value}[hT:TySl P t e k](ho:o.op= .call { callee:= .builtin .len,args:= #[x],argTypes:= #[t] })(hx:ev fs x=some sv)(hi:hs[i]?=some (.sl sv e' size len l)):Yv P n B M fs hs o (.int .i64 (len:Int)):=fun a w ha hw=>by
 rcases (dH.1 (hw.get hi)).2 with ⟨rfl,h0⟩|⟨g,cap,_,rfl,_⟩
 ·subst h0;exact mg (P:=P) (B:=B) (M:=M) (hs:=hs) (n:=n) ho hx a w ha hw
 ·exact mg (P:=P) (B:=B) (M:=M) (hs:=hs) (n:=n) ho hx a w ha hw
theorem zih {l m:List Value}{p N:Nat}(h:p+m.length≤N):(l.take p++m++l.drop (p+m.length)).take N=(l.take N).take p++m++(l.take N).drop (p+m.length):=by
 rcases Nat.lt_or_ge l.length p with hl|hl
 ·have e1:l.take p=l:=List.take_of_length_le a7
  have e2:l.drop (p+m.length)=[]:=List.drop_of_length_le a7
  have e3:l.take N=l:=List.take_of_length_le a7
  rw [e2,e3,e1,e2]
  exact List.take_of_length_le cM
 ·rw [List.take_append,List.take_of_length_le cM,List.take_take,Nat.min_eq_left a7,List.drop_take]
  simp
  rw [Nat.min_eq_left hl]
theorem Hp.spliceS {w:World}(hp:Hp B M hs w){i g k cap size p:Nat}{e:TypeId}{l m:List Value}(hi:hs[i]?=some (.sl (.slice (some ⟨g,0,none⟩) k cap) e size k l))(hl:p+m.length≤l.length):
  ∃cur:List Value,w.heap[g]?=some (.cells cur.toArray e (0,0))∧p+m.length≤cur.length∧Hp B M (hs.set i (.sl (.slice (some ⟨g,0,none⟩) k cap) e size k (l.take p++m++l.drop (p+m.length)))) (w.setRow g (cur.take p++m++cur.drop (p+m.length)).toArray):=by
 have h:=dH.1 (hp.get hi)
 rcases h.2 with ⟨h',_⟩|⟨g',cap',cur,h',hb,hg,hnc,hcm,hcs,htake⟩
 ·simp at h'
 ·simp only [Value.slice.injEq,Option.some.injEq,Addr.mk.injEq,and_true,true_and] at h'
  obtain ⟨rfl,rfl⟩:=h'
  have hlen:l.length≤cur.toList.length:=by rw [←htake];simp;omega
  have h1:=h.1
  refine ⟨cur.toList,by simpa using hg,by omega,hp.updAt hi (zeR w g _) (fun k _ hk=>dO.2 (by rw [hk];rfl)) (dH.2 ⟨by simp;omega, .inr ⟨g,cap,_,rfl,hb,setRow_heap w g _ _ e _ hg,hnc,hcm,?_,?_⟩⟩) (fun k hk=> .inl (dO.2 (dO.1 hk)))⟩
  ·simp at hlen ⊢;omega
  ·rw [List.toList_toArray,zih a7,htake]
theorem Ew.ci (i:Nat){t e:TypeId}[hT:TyS P t]{x y:Operand}{g p k cap size:Nat}{l:List Value}{hs':HS}{val:Value}[hv:OneC val](ho:o.op= .store t x y)(hx:ev fs x=some (.pointer (some ⟨g,p,none⟩)))(hy:ev fs y=some val)
  (hi:hs[i]?=some (.sl (.slice (some ⟨g,0,none⟩) k cap) e size k l)) (hp:p<l.length) [hH:SetAt hs i (.sl (.slice (some ⟨g,0,none⟩) k cap) e size k (l.set p val)) hs']:Ew P n B M fs hs o (fun v hs''=>v=undef∧hs''=hs'):=jD fun a w ha hw=>by
 obtain ⟨cur,h1,h2,h3⟩:=hw.spliceS (m:=[val]) (p:=p) hi cM
 have h:=zeG (P:=P) (w:=w) hT.h ho (ha.ev hx) (ha.ev hy) (m:=[val]) hv.cells rfl (by simpa using hv.h) h1 h2
 refine ⟨_,_,h,zdS h1 _,?_,rfl,rfl⟩
 rw [←hH.h,←zey l p val hp]
 exact h3
theorem Ew.bS (i:Nat){t e:TypeId}{q:Nat}[hT:TyA P t q]{x y:Operand}{g p k cap size:Nat}{l m:List Value}{hs':HS}[hv:OneCs m](ho:o.op= .store t x y)(hx:ev fs x=some (.pointer (some ⟨g,p,none⟩)))(hy:ev fs y=some (.agg m.toArray))
  (hi:hs[i]?=some (.sl (.slice (some ⟨g,0,none⟩) k cap) e size k l)) (hk:m.length=q) (hp:p+m.length≤l.length) [hH:SetAt hs i (.sl (.slice (some ⟨g,0,none⟩) k cap) e size k (l.take p++m++l.drop (p+m.length))) hs']:Ew P n B M fs hs o (fun v hs''=>v=undef∧hs''=hs'):=jD fun a w ha hw=>by
 obtain ⟨cur,h1,h2,h3⟩:=hw.spliceS (m:=m) hi hp
 have h:=zeG (P:=P) (w:=w) hT.h ho (ha.ev hx) (ha.ev hy) (m:=m) rfl hk hv.h h1 h2
 refine ⟨_,_,h,zdS h1 _,?_,rfl,rfl⟩
 rw [←hH.h]
 exact h3
end
abbrev U (b:BitVec 64):Value:= .int .u64 (b.toNat:Int)
theorem zko (b:BitVec 64):IntKind.u64.wrap (b.toNat:Int)=(b.toNat:Int):=by
 rw [IntKind.wrap_u64];have:=b.isLt;omega
theorem zf5 (b:BitVec 64):BitVec.ofInt 64 (b.toNat:Int)=b:=by
 rw [BitVec.ofInt_natCast];simp
theorem U.one (b:BitVec 64):OneC (U b):=inferInstance
section
variable {P:Program}{n:Nat}{B D:World}{M:Nat→Prop}{fs:eb}{hs:HS}{o:Oper}{v:Value}
theorem zie {op:BinOp}{a b r:BitVec 64}(h:(op= .and∧r=a &&& b)∨(op= .or∧r=a ||| b)∨(op= .xor∧r=a ^^^ b)∨(op= .andNot∧r=a &&& ~~~b))(t:TypeId)(w:World):(binOp op t (U a) (U b)).run P w= .ok (U r) w:=by
 rcases h with ⟨rfl,rfl⟩|⟨rfl,rfl⟩|⟨rfl,rfl⟩|⟨rfl,rfl⟩
 ·have e:(binOp .and t (U a) (U b)).run P w= .ok (.int .u64 (IntKind.u64.wrap ((BitVec.ofInt 64 (a.toNat:Int) &&& BitVec.ofInt 64 (b.toNat:Int)).toNat:Int))) w:=rfl
  rw [e,zf5,zf5,zko]
 ·have e:(binOp .or t (U a) (U b)).run P w= .ok (.int .u64 (IntKind.u64.wrap ((BitVec.ofInt 64 (a.toNat:Int) ||| BitVec.ofInt 64 (b.toNat:Int)).toNat:Int))) w:=rfl
  rw [e,zf5,zf5,zko]
 ·have e:(binOp .xor t (U a) (U b)).run P w= .ok (.int .u64 (IntKind.u64.wrap ((BitVec.ofInt 64 (a.toNat:Int) ^^^ BitVec.ofInt 64 (b.toNat:Int)).toNat:Int))) w:=rfl
  rw [e,zf5,zf5,zko]
 ·have e:(binOp .andNot t (U a) (U b)).run P w= .ok (.int .u64 (IntKind.u64.wrap ((BitVec.ofInt 64 (a.toNat:Int) &&& ~~~(BitVec.ofInt 64 (b.toNat:Int))).toNat:Int))) w:=rfl
  rw [e,zf5,zf5,zko]
theorem Yv.bT {op:BinOp}{x y:Operand}{t u:TypeId}{a b r:BitVec 64}(h:(op= .and∧r=a &&& b)∨(op= .or∧r=a ||| b)∨(op= .xor∧r=a ^^^ b)∨(op= .andNot∧r=a &&& ~~~b))(ho:o.op= .binOp op t x y u)(hx:ev fs x=some (U a))(hy:ev fs y=some (U b)):Yv P n B M fs hs o (U r):=fun f w ha _=>by
 have hr:=zie (P:=P) h t w
 have hg:(eqGuard op t x y (U a) (U b)).run P w= .ok () w:=by rcases h with ⟨rfl,rfl⟩|⟨rfl,rfl⟩|⟨rfl,rfl⟩|⟨rfl,rfl⟩ <;> rfl
 unfold execOp
 simp only [ho,ha.ev hx,ha.ev hy]
 rw [Sem.run_bind,Sem.run_bind,hg]
 simp only [Result.andThen,hr]
 rfl
theorem Yv.cE {x y:Operand}{t u:TypeId}{a b:BitVec 64}(ho:o.op= .binOp .and t x y u)(hx:ev fs x=some (U a))(hy:ev fs y=some (U b)):Yv P n B M fs hs o (U (a &&& b)):=Yv.bT (.inl ⟨rfl,rfl⟩) ho hx hy
theorem j7 {x y:Operand}{t u:TypeId}{a b:BitVec 64}(ho:o.op= .binOp .or t x y u:=by exact rfl)(hx:ev fs x=some (U a):=by exact rfl)(hy:ev fs y=some (U b):=by exact rfl):Yv P n B M fs hs o (U (a ||| b)):=Yv.bT (.inr (.inl ⟨rfl,rfl⟩)) ho hx hy
theorem iI {x y:Operand}{t u:TypeId}{a:BitVec 64}{q:IntKind}{z:Int}(i:Nat)(ho:o.op= .binOp .shl t x y u)(hx:ev fs x=some (U a))(hy:ev fs y=some (.int q z))(hz:z=(i:Int))(hi:i<64):Yv P n B M fs hs o (U (a <<< i)):=fun f w ha _=>by
 subst hz
 have hr:(binOp .shl t (U a) (.int q (i:Int))).run P w= .ok (U (a <<< i)) w:=by
  show (Op.shift .shl .u64 (a.toNat:Int) q (i:Int)).run P w=_
  unfold Op.shift
  rw [if_neg a7]
  have e:min (i:Int).toNat IntKind.u64.bits=i:=by show min (i:Int).toNat 64=i;omega
  simp only [e]
  show Result.ok _ _=_
  congr 2
  rw [IntKind.wrap_u64,BitVec.toNat_shiftLeft,Nat.shiftLeft_eq,Int.natCast_emod,Int.natCast_mul,Int.natCast_pow]
  rfl
 unfold execOp
 simp only [ho,ha.ev hx,ha.ev hy]
 rw [Sem.run_bind,Sem.run_bind,show (eqGuard .shl t x y (U a) (.int q (i:Int))).run P w= .ok () w from rfl]
 simp only [Result.andThen,hr]
 rfl
theorem gU {x y:Operand}{t u:TypeId}{a:BitVec 64}{q:IntKind}{z:Int}(i:Nat)(ho:o.op= .binOp .shr t x y u)(hx:ev fs x=some (U a))(hy:ev fs y=some (.int q z))(hz:z=(i:Int))(hi:i<64):Yv P n B M fs hs o (U (a >>> i)):=fun f w ha _=>by
 subst hz
 have hr:(binOp .shr t (U a) (.int q (i:Int))).run P w= .ok (U (a >>> i)) w:=by
  show (Op.shift .shr .u64 (a.toNat:Int) q (i:Int)).run P w=_
  unfold Op.shift
  rw [if_neg a7]
  have e:min (i:Int).toNat IntKind.u64.bits=i:=by show min (i:Int).toNat 64=i;omega
  simp only [e]
  show Result.ok _ _=_
  congr 2
  rw [Int.fdiv_eq_ediv_of_nonneg _ (by exact Int.le_of_lt (Int.pow_pos a8)),BitVec.toNat_ushiftRight,Nat.shiftRight_eq_div_pow]
  norm_cast
 unfold execOp
 simp only [ho,ha.ev hx,ha.ev hy]
 rw [Sem.run_bind,Sem.run_bind,show (eqGuard .shr t x y (U a) (.int q (i:Int))).run P w= .ok () w from rfl]
 simp only [Result.andThen,hr]
 rfl
theorem jb {x y:Operand}{t u:TypeId}{a b:BitVec 64}(ho:o.op= .binOp .sub t x y u:=by exact rfl)(hx:ev fs x=some (U a):=by exact rfl)(hy:ev fs y=some (U b):=by exact rfl):Yv P n B M fs hs o (U (a - b)):=
 (dh (v:= .int .u64 (IntKind.u64.wrap ((a.toNat:Int) - (b.toNat:Int)))) (by rw [ho];simp only [zhN,hx,hy];rfl)).eq (by
  congr 1
  rw [IntKind.wrap_u64,BitVec.toNat_sub]
  have:=a.isLt;have:=b.isLt
  omega)
end
section
variable {P:Program}{n:Nat}{B D:World}{M:Nat→Prop}{fs:eb}{hs:HS}{o:Oper}{v:Value}
theorem eM (i:Nat){t u:TypeId}[hT:TyS P t]{x y:Operand}{g p:Nat}{l:List Value}{hs':HS}{val:Value}[hv:OneC val](l':List Value)(ho:o.op= .store t x y)(hx:ev fs x=some (.pointer (some ⟨g,p,none⟩)))(hy:ev fs y=some val)
  (hi:hs[i]?=some (.row g u l)) (hp:p<l.length) (hl:l.set p val=l') [hH:SetAt hs i (.row g u l') hs']:Ew P n B M fs hs o (fun v hs''=>v=undef∧hs''=hs'):=by
 haveI:SetAt l p val l':=⟨hl⟩
 exact iv i ho hx hy hi hp
end
instance (ws:List (BitVec 64)):OneCs (ws.map fun b=>U b):=⟨fun x hx=>by obtain ⟨b,_,rfl⟩:=List.mem_map.1 hx;rfl⟩
section
variable {P:Program}{n:Nat}{B D:World}{M:Nat→Prop}{fs:eb}{hs:HS}{o:Oper}{v:Value}
theorem gV {x y:Operand}{t u:TypeId}{a b:BitVec 64}(ho:o.op= .binOp .add t x y u:=by exact rfl)(hx:ev fs x=some (U a):=by exact rfl)(hy:ev fs y=some (U b):=by exact rfl):Yv P n B M fs hs o (U (a+b)):=
 (dh (v:= .int .u64 (IntKind.u64.wrap ((a.toNat:Int)+(b.toNat:Int)))) (by rw [ho];simp only [zhN,hx,hy];rfl)).eq (by
  rw [show IntKind.u64.wrap ((a.toNat:Int)+(b.toNat:Int))=((a+b).toNat:Int) from by rw [IntKind.wrap_u64,BitVec.toNat_add];omega])
theorem Yv.cn {x y:Operand}{t u:TypeId}{a b:BitVec 64}(ho:o.op= .binOp .mul t x y u)(hx:ev fs x=some (U a))(hy:ev fs y=some (U b)):Yv P n B M fs hs o (U (a*b)):=
 (dh (v:= .int .u64 (IntKind.u64.wrap ((a.toNat:Int) * (b.toNat:Int)))) (by rw [ho];simp only [zhN,hx,hy];rfl)).eq (by
  rw [show IntKind.u64.wrap ((a.toNat:Int) * (b.toNat:Int))=((a*b).toNat:Int) from by rw [IntKind.wrap_u64,BitVec.toNat_mul,Int.natCast_emod,Int.natCast_mul];rfl])
theorem Yv.co {x:Operand}{t:TypeId}{a:BitVec 64}(ho:o.op= .unOp .neg t x)(hx:ev fs x=some (U a)):Yv P n B M fs hs o (U (-a)):=fun f w ha _=>by
 have hr:(Op.unary .neg (U a)).run P w= .ok (U (-a)) w:=by
  have e:(Op.unary .neg (U a)).run P w= .ok (.int .u64 (IntKind.u64.wrap (0 - (a.toNat:Int)))) w:=rfl
  rw [e]
  congr 2
  rw [IntKind.wrap_u64,BitVec.toNat_neg]
  have:=a.isLt
  omega
 unfold execOp
 simp only [ho,ha.ev hx]
 rw [Sem.run_bind,hr]
 rfl
end
def Tab (w:World):Prop:=∀j,j<64→w.cell? ⟨0,j,none⟩=some (.int .u8 (Lib.deBruijn64tab.getD j 0:Nat))
theorem Tab.size {w:World}(h:Tab w):0<w.heap.size:=zjF (h 0 a8)
section
variable {F:Fence}{P:Program}{b:Frame}{a:Act}{k:List Item}{cs:List Frame}{w:World}{Q:Exit→Act→World→Prop}{n:Nat}
theorem zdI {c:Code}:step P (lone (b.atR a (.code (.scope c) :: k)) cs w)= .next (lone (b.atR a (.code c :: .inScope c :: k)) cs w):=step_lone_go (by simp [stepG,stepG.exec,Frame.atR])
theorem zhm {c:Code}:step P (lone (b.atR a (.inScope c :: k)) cs w)= .next (lone (b.atR a k) cs w):=step_lone_go (by simp [stepG,stepG.exec,Frame.atR])
theorem ziZ {c:Code}(h:c.wpIn F n P (Exit.noGoto Q) a w):(Code.scope c).wpIn F n P Q a w:=by
 intro b k cs hro hb hr
 have h0:(lone (b.atR a (.code (.scope c) :: k)) cs w).fenced P F:=fenced_calm hb hr rfl
 obtain ⟨e,a₁,w₁,hq,harr⟩:=h b (.inScope c :: k) cs hro hb hr
 cases e with
 |normal=>exact ⟨.normal,a₁,w₁,hq, .head h0 zdI (StepsIn.trans harr (.one (fenced_calm hb hr rfl) zhm))⟩
 |exit id'=>
  have hx:exitTo id' (.inScope c :: k)=exitTo id' k:=by simp [exitTo]
  exact ⟨.exit id',a₁,w₁,hq,fun k' hk=> .head h0 zdI (harr.1 k' (by rw [hx];exact hk)),
    fun hr' hk=>let ⟨k₁,h1,h2⟩:=harr.2 hr' (by rw [hx];exact hk); ⟨k₁,h1, .head h0 zdI h2⟩⟩
 |goto l=>exact hq.elim
 |ret=>exact ⟨_,a₁,w₁,hq, .of_steps (.one h0 zdI) harr⟩
 |panic ch=>exact ⟨_,a₁,w₁,hq, .of_steps (.one h0 zdI) harr⟩
 |outgrown=>exact ⟨_,a₁,w₁,hq, .of_steps (.one h0 zdI) harr⟩
end
section
variable {F:Fence}{P:Program}{n:Nat}{B D:World}{M:Nat→Prop}{Q:Exit→Act→World→Prop}{fs:eb}{hs:HS}{c:Code}{id:Nat}
theorem T.scope (h:T F P n B D M c (Exit.noGoto Q) fs hs):T F P n B D M (.scope c) Q fs hs:=⟨fun a w ha hw hm=>ziZ (h.out a w ha hw hm)⟩
theorem T.label {l:Nat}(h:K n B D M Q .normal fs hs):T F P n B D M (.label l) Q fs hs:=⟨fun a w ha hw hm=>wpIn_label (h.out a w ha hw hm)⟩
theorem K.bq (h:K n B D M Q .ret fs hs):K n B D M (Exit.noGoto Q) .ret fs hs:=⟨fun a w ha hw hm=>h.out a w ha hw hm⟩
instance (Q:Exit→Act→World→Prop) [h:NP Q]:NP (Exit.noGoto Q):=⟨fun c a d v w k=>h.h c a d v w k⟩
end
section
variable {P:Program}{n:Nat}{B D:World}{M:Nat→Prop}{fs:eb}{hs:HS}{o:Oper}{v:Value}
def dG (es:HS)(g:Nat):Prop:=∃e∈es,e.fp g
theorem lD {w:World}{es:HS}(h:∀e∈es,e.ok w)(hap:es.Pairwise fun e f=>∀g,e.fp g→¬f.fp g):Hp w (dG es) es w:=
 ⟨rfl,rfl,rfl,Nat.le_refl _,fun _ _ _=>rfl,h,fun e he g hg=> .inl ⟨e,he,hg⟩,hap⟩
end
section
variable {F:Fence}[hF:Calm F]{P:Program}{n:Nat}{B D:World}{M:Nat→Prop}{Q:Exit→Act→World→Prop}{fs:eb}{hs hs0:HS}{ops:Array Oper}{kk:Ord}
theorem TS.aR {gs:eb}{hs':HS}{r:Ord}(h1:Sub fs gs)(hp:hs.Perm hs')(h:TS F P n B D M ops Q hs0 r gs hs'):TS F P n B D M ops Q hs0 r fs hs:=
 ⟨fun a w fuel listed h2 h3 h4 ha hw hw0 hm=>h.out a w fuel listed h2 h3 h4 (ha.sub h1) (hw.perm hp) hw0 hm⟩
end
@[irreducible] def Ent.bag (es:HS):Ent where
 fp g:=∃e∈es,e.fp g
 ok w:=(∀e∈es,e.ok w)∧es.Pairwise fun (e f:Ent)=>∀g:Nat,e.fp g→¬f.fp g
 loc h k:=⟨fun e he=>e.loc (fun g hg=>h g ⟨e,he,hg⟩) (k.1 e he),k.2⟩
 lt h g hg:=by obtain ⟨e,he,hg⟩:=hg;exact e.lt (h.1 e he) g hg
 nd h g hg c:=by obtain ⟨e,he,hg⟩:=hg;exact e.nd (h.1 e he) g hg c
theorem dP {es:HS}{g:Nat}:(Ent.bag es).fp g↔∃e∈es,e.fp g:=by unfold Ent.bag;exact Iff.rfl
theorem d6 {es:HS}{w:World}:(Ent.bag es).ok w↔(∀e∈es,e.ok w)∧es.Pairwise fun e f=>∀g,e.fp g→¬f.fp g:=by unfold Ent.bag;exact Iff.rfl
section
variable {F:Fence}{P:Program}{n:Nat}{B D:World}{M:Nat→Prop}{Q:Exit→Act→World→Prop}{fs:eb}{hs:HS}{c:Code}{e:Exit}{w:World}
theorem gm {es es' rest:HS}(h:Hp B M (es++rest) w)(hok:∀e∈es',e.ok w)(hfp:∀e∈es',∀g,e.fp g→∃f∈es,f.fp g)(hap:es'.Pairwise fun e f=>∀g,e.fp g→¬f.fp g):Hp B M (es'++rest) w:=
 Hp.go (es:=es) h (Only.refl (fun _=>False) w) (fun _ _ h=>h.elim) hok (fun e he g hg=> .inl (hfp e he g hg)) hap
theorem Hp.openB {i a:Nat}{es:HS}{x:Ent}(h:Hp B M hs w)(hi:hs[i]?=some (.bag es))(ha:es[a]?=some x):Hp B M (x :: hs.set i (.bag (es.eraseIdx a))) w:=by
 have h1:=h.perm (zeQ hi)
 have hb:=d6.1 (h1.own (.bag es) b6)
 obtain ⟨hal,rfl⟩:=List.getElem?_eq_some_iff.1 ha
 have hpe:=zfX es a hal
 have hpw:=(hpe.pairwise_iff (fun hxy g hy hx=>hxy g hx hy)).1 hb.2
 rw [List.pairwise_cons] at hpw
 have h2:=gm (es:=[.bag es]) (es':=[es[a], .bag (es.eraseIdx a)]) h1 (fun e he=>by
   simp only [List.mem_cons,List.not_mem_nil,or_false] at he
   rcases he with rfl|rfl
   ·exact hb.1 _ (List.getElem_mem _)
   ·exact d6.2 ⟨fun e he=>hb.1 e (List.mem_of_mem_eraseIdx he),hpw.2⟩) (fun e he g hg=>by
   simp only [List.mem_cons,List.not_mem_nil,or_false] at he
   refine ⟨_,List.mem_singleton.2 rfl,dP.2 ?_⟩
   rcases he with rfl|rfl
   ·exact ⟨_,List.getElem_mem _,hg⟩
   ·obtain ⟨f,hf,hg⟩:=dP.1 hg
    exact ⟨f,List.mem_of_mem_eraseIdx hf,hg⟩) (by
   refine List.pairwise_cons.2 ⟨fun f hf g hg hfg=>?_,List.pairwise_singleton _ _⟩
   rw [List.mem_singleton.1 hf] at hfg
   obtain ⟨f',hf',hg'⟩:=dP.1 hfg
   exact hpw.1 f' hf' g hg hg')
 exact h2.perm ((zeF hi).cons _)
theorem Hp.closeB {i a:Nat}{es:HS}{x:Ent}(h:Hp B M (x :: hs) w)(hi:hs[i]?=some (.bag (es.eraseIdx a)))(ha:a<es.length):Hp B M (hs.set i (.bag (es.set a x))) w:=by
 have h1:Hp B M ([x, .bag (es.eraseIdx a)]++hs.eraseIdx i) w:=h.perm ((zeQ hi).cons _)
 have hb:=d6.1 (h1.own (.bag (es.eraseIdx a)) b6)
 have hx:=h1.own x b6
 have hxb:=(List.pairwise_cons.1 h1.apart).1 (.bag (es.eraseIdx a)) b6
 have hpe:(x :: es.eraseIdx a).Perm (es.set a x):=by
  have:=zeF (hs:=es) (e:=es[a]) (e':=x) (i:=a) (List.getElem?_eq_getElem ha)
  exact this
 have h2:=gm (es:=[x, .bag (es.eraseIdx a)]) (es':=[.bag (es.set a x)]) h1 (fun e he=>by
   rw [List.mem_singleton.1 he]
   refine d6.2 ⟨fun e he=>?_,(hpe.pairwise_iff (fun hxy g hy hx=>hxy g hx hy)).1 (List.pairwise_cons.2 ⟨fun f hf g hg hfg=>hxb g hg (dP.2 ⟨f,hf,hfg⟩),hb.2⟩)⟩
   rcases List.mem_cons.1 (hpe.symm.subset he) with rfl|he
   ·exact hx
   ·exact hb.1 e he) (fun e he g hg=>by
   rw [List.mem_singleton.1 he] at hg
   obtain ⟨f,hf,hfg⟩:=dP.1 hg
   rcases List.mem_cons.1 (hpe.symm.subset hf) with e1|hf
   ·rw [e1] at hfg;exact ⟨x,by simp,hfg⟩
   ·exact ⟨.bag (es.eraseIdx a),by simp,dP.2 ⟨f,hf,hfg⟩⟩) (List.pairwise_singleton _ _)
 exact h2.perm (zeF hi)
theorem Hp.intoB {i:Nat}{es:HS}{x:Ent}(h:Hp B M (x :: hs) w)(hi:hs[i]?=some (.bag es)):Hp B M (hs.set i (.bag (es++[x]))) w:=by
 have h1:Hp B M ([x, .bag es]++hs.eraseIdx i) w:=h.perm ((zeQ hi).cons _)
 have hb:=d6.1 (h1.own (.bag es) b6)
 have hx:=h1.own x b6
 have hxb:=(List.pairwise_cons.1 h1.apart).1 (.bag es) b6
 have h2:=gm (es:=[x, .bag es]) (es':=[.bag (es++[x])]) h1 (fun e he=>by
   rw [List.mem_singleton.1 he]
   refine d6.2 ⟨fun e he=>?_,List.pairwise_append.2 ⟨hb.2,List.pairwise_singleton _ _,fun f hf y hy g hg hyg=>?_⟩⟩
   ·rcases List.mem_append.1 he with he|he
    ·exact hb.1 e he
    ·rw [List.mem_singleton.1 he];exact hx
   ·rw [List.mem_singleton.1 hy] at hyg
    exact hxb g hyg (dP.2 ⟨f,hf,hg⟩)) (fun e he g hg=>by
   rw [List.mem_singleton.1 he] at hg
   obtain ⟨f,hf,hfg⟩:=dP.1 hg
   rcases List.mem_append.1 hf with hf|hf
   ·exact ⟨.bag es,by simp,dP.2 ⟨f,hf,hfg⟩⟩
   ·rw [List.mem_singleton.1 hf] at hfg;exact ⟨x,by simp,hfg⟩) (List.pairwise_singleton _ _)
 exact h2.perm (zeF hi)
theorem Hp.bag0 {es:HS}(h:Hp B M hs w)(hok:∀w,∀e∈es,e.ok w)(hfp:∀e∈es,∀g,¬e.fp g):Hp B M (.bag es :: hs) w:=
 gm (es:=[]) (es':=[.bag es]) h (fun e he=>by
  rw [List.mem_singleton.1 he]
  exact d6.2 ⟨hok w,(List.pairwise_iff_forall_sublist).2 (fun {a b} hs g hg=>absurd hg (hfp a (hs.subset b6) g))⟩) (fun e he g hg=>by
  rw [List.mem_singleton.1 he] at hg
  obtain ⟨f,hf,hg⟩:=dP.1 hg
  exact absurd hg (hfp f hf g)) (List.pairwise_singleton _ _)
theorem T.bag0 (es:HS)(hok:∀w,∀e∈es,e.ok w)(hfp:∀e∈es,∀g,¬e.fp g)(h:T F P n B D M c Q fs (.bag es :: hs)):T F P n B D M c Q fs hs:=⟨fun a w ha hw hm=>h.out a w ha (hw.bag0 hok hfp) hm⟩
end
end Go.Proofs.YtmnjbhkcfghebaaGreatDoor
