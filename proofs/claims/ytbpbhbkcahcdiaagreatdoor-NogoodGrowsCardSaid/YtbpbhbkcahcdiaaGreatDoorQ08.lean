/- Yc Cv Sc Lc Ga Gg Lq Pb Sd M13 Se M14 Ff Fo St Fv Sz Yn Sk: shortened and put together by squeeze.py. -/
import Derived.Test.YtbpbhbkcahcdiaaGreatDoorQ07
import Derived.Laws.Slices
set_option maxRecDepth 100000
set_option maxHeartbeats 4000000
set_option linter.unusedVariables false
set_option linter.unusedSectionVars false
set_option linter.unusedSimpArgs false
namespace Go.Proofs.YtbpbhbkcahcdiaaGreatDoor
open Go.RowKit
structure GViolation where
 Kind:Int
 At:Int
deriving DecidableEq,Inhabited
abbrev GViolation.enc (x:GViolation):List Value:=[.int .i64 x.Kind, .int .i64 x.At]
theorem GViolation.len (x:GViolation):(GViolation.enc x).length=2:=rfl
def zbY (fuel:Nat)(p:GProblem)(domains:Int)(rules:Int):Option Bool:=
 zaw (fun (_:Unit)=>
  some ((((decide ((p.Domains.length:Int)≤domains))&&(decide ((p.Rules.Pairs.length:Int)≤rules)))&&(decide ((p.Rules.Loads.length:Int)≤rules)))&&(decide ((p.Rules.Caps.length:Int)≤rules))))
 (fun k1=>
  zbD (fun (next3:Int→Option Bool) (i_2:Int)=>
   (bif ((decide (i_2<(p.Domains.length:Int)))&&(decide (i_2<600))) then
    grd (0≤i_2∧i_2<(p.Domains.length:Int)) <|
    (bif decide (60<(((nth p.Domains i_2.toNat).Channels).length:Int)) then
     some false
     else
     next3 (i_2+1))
    else
    k1 ())) fuel 0)
theorem zgs (F0:Frz)(w:World)(hF0:F0.At w)(p:GProblem)(vp_0:Value)(cp_0:List (List Value))(hp_0:SlD GDomain.rep F0 vp_0 2 cp_0 p.Domains)(vp_1:Value)(hp_1:SlC F0 vp_1 5 (p.Rules.Pairs.map GPair.enc))(vp_2:Value)(hp_2:SlC F0 vp_2 5 (p.Rules.Loads.map GLoad.enc))(vp_3:Value)(hp_3:SlC F0 vp_3 4 (p.Rules.Caps.map GCap.enc))(domains:Int)(rules:Int)(fuel:Nat)(r:Bool)(hr:zbY fuel p domains rules=some r):Calls Tryz.prog 26 #[.agg [vp_0,vp_1,vp_2,vp_3].toArray, .int .i64 domains, .int .i64 rules] w fun e w'=>e= .returned (.bool r)∧Below w.heap.size w w':=by
 have hk:=hr;unfold zbY at hk;haveI:=hp_0.1.oneC;haveI:=hp_1.oneC;haveI:=hp_2.oneC;haveI:=hp_3.oneC;obtain ⟨S0,F1,rfl,hS0,hp0⟩:=zau hF0;refine zac Tryz.func26 rfl rfl rfl hp0 ?_;refine T.sr ?_;refine TL.e (Ew.aC rfl rfl) ?_;rintro _ _ ⟨g3,rfl,rfl⟩;refine TL.run 1 rfl ?_;refine TL.ns (T.seq (T.sr ?_));refine TL.run 1 rfl ?_;refine TL.ns ?_;have hq:=zai hk;clear hk;obtain ⟨k1,hk1,hk⟩:=hq; (try dsimp only at hk);refine T.am (ι:=Unit) (fun z=>[(1, .int .i64 domains),(2, .int .i64 rules),(3, .pointer (some ⟨g3,0,none⟩))]) (fun z=>[.row g3 29 [vp_0,vp_1,vp_2,vp_3], .fr F1]) (fun z=>k1 ()=some r) ?_ ?_
 ·have hq:=zcE hk;clear hk;obtain ⟨f3,hf3,hk⟩:=hq;refine T.block ?_;refine T.loop (ι:=Nat×Int) (fun z=>[(1, .int .i64 domains),(2, .int .i64 rules),(3, .pointer (some ⟨g3,0,none⟩)),(7, .int .i64 z.2)]) (fun z=>[.row g3 29 [vp_0,vp_1,vp_2,vp_3], .fr F1]) (fun z=>zbD f3 z.1 z.2=some r) (fun z=>z.1) (fuel,0) ?_ ?_ ?_ ?_
  ·exact hk
  ·exact (.c (.c (.c (.c .nil))))
  ·exact List.Sublist.refl _
  ·rintro ⟨m_4,i_2⟩ hk; (try dsimp only at *);have hq:=zcU hk;clear hk;obtain ⟨m_4',rfl,hk⟩:=hq;generalize hn3:zbD f3 m_4'=next3 at hk;rw [←hf3] at hk; (try dsimp only at hk);refine T.seq (T.seq ?_);refine T.am (ι:=Unit) (fun z=>[(1, .int .i64 domains),(2, .int .i64 rules),(3, .pointer (some ⟨g3,0,none⟩)),(7, .int .i64 i_2),(16, .bool ((decide (i_2<(p.Domains.length:Int)))&&(decide (i_2<600))))]) (fun z=>[.row g3 29 [vp_0,vp_1,vp_2,vp_3], .fr F1]) (fun z=>True) ?_ ?_
   ·refine T.region ?_;refine TL.run 1 rfl ?_;refine TL.y (Yv.fieldAddr rfl rfl) ?_;refine TL.y (Yv.ac 0 rfl rfl rfl rfl) ?_;refine TL.y (Yv.ax rfl rfl hp_0.1 hp_0.2.1) ?_;have hm11:p.Domains.length≤9223372036854775807:=hp_0.2.1▸hp_0.1.max;refine TL.run 2 rfl ?_;refine TL.gs rfl rfl rfl (fun h5=>?_) (fun h5=>?_)
    ·have p5:=of_decide_eq_true h5;refine TL.run 3 rfl ?_;refine TL.nil ?_;exact K.aj () trivial (.c (.c (.c (.c (.b (zeF h5) .nil))))) (List.Sublist.refl _)
    ·have p5:=of_decide_eq_false h5;refine TL.run 3 rfl ?_;refine TL.nil ?_;exact K.aj () trivial (.c (.c (.c (.c (.b (zbh h5).symm .nil))))) (List.Sublist.refl _)
   ·rintro _ _;have hm11:p.Domains.length≤9223372036854775807:=hp_0.2.1▸hp_0.1.max;refine T.cond rfl (fun h6=>?_) (fun h6=>?_)
    ·have p6:=h6; (try simp only [nfB] at p6);replace hk:=zab hk h6;refine T.skip (K.seq (T.seq (T.block (T.seq ?_))));have hq:(0≤i_2∧i_2<(p.Domains.length:Int))∧_:=zaE hk;clear hk;obtain ⟨g22,hk⟩:=hq; (try dsimp only at hk);refine T.region ?_;refine TL.y (Yv.fieldAddr rfl rfl) ?_;refine TL.y (Yv.ac 0 rfl rfl rfl rfl) ?_;refine TL.run 1 rfl ?_;refine TL.y (Yv.aw (i:=i_2.toNat) rfl rfl rfl hp_0.1 hp_0.2.1 (by omega) (by omega)) ?_;refine TL.y (Yv.aR rfl rfl hp_0.1 hp_0.2.1 (by omega)) ?_;refine TL.y (Yv.loadR 1 (i:=i_2.toNat) (j:=1) rfl rfl rfl hp_0.1 hp_0.2.1 (by omega) rfl (GDomain.c1 (hp_0.2.2 i_2.toNat (by omega))).1) ?_;have hd24_1:=(GDomain.c1 (hp_0.2.2 i_2.toNat (by omega))).2;haveI:=hd24_1.oneC;refine TL.y (Yv.ax rfl rfl hd24_1 (List.length_map _)) ?_;have hm25:((nth p.Domains i_2.toNat).Channels).length≤9223372036854775807:=(List.length_map _)▸hd24_1.max;refine TL.run 1 rfl ?_;refine TL.ns ?_;refine T.cond rfl (fun h7=>?_) (fun h7=>?_)
     ·have p7:=of_decide_eq_true h7;replace hk:=zab hk h7;refine T.sr ?_;refine TL.run 1 rfl ?_;refine TL.ns (T.ret (K.ah (K.aa (K.aa (K.ah (K.aa ?_))))));obtain rfl:=Option.some.inj hk;exact K.ag rfl rfl (fun w' hw=>⟨rfl,hw.isBelow⟩)
     ·have p7:=of_decide_eq_false h7;replace hk:=zaa hk h7;refine T.skip (K.ad (K.seq (T.region ?_)));refine TL.run 1 rfl ?_;refine TL.y (Yv.an rfl rfl rfl (by omega)) ?_;refine TL.run 1 rfl ?_;refine TL.nil ?_;rw [←hn3] at hk;exact K.next (m_4',(i_2+1)) hk (by dsimp only;omega) (.c (.c (.c (.c .nil)))) (List.Sublist.refl _)
    ·replace hk:=zaa hk h6;refine T.exit (K.ab (K.ab (K.ae ?_)));exact K.aj () hk (.c (.c (.c .nil))) (List.Sublist.refl _)
 ·rintro _ hk;rw [←hk1] at hk; (try dsimp only at hk);refine T.seq ?_;refine T.am (ι:=Unit) (fun z=>[(6, .bool ((((decide ((p.Domains.length:Int)≤domains))&&(decide ((p.Rules.Pairs.length:Int)≤rules)))&&(decide ((p.Rules.Loads.length:Int)≤rules)))&&(decide ((p.Rules.Caps.length:Int)≤rules))))]) (fun z=>[.row g3 29 [vp_0,vp_1,vp_2,vp_3], .fr F1]) (fun z=>True) ?_ ?_
  ·refine T.region ?_;refine TL.y (Yv.fieldAddr rfl rfl) ?_;refine TL.y (Yv.ac 0 rfl rfl rfl rfl) ?_;refine TL.y (Yv.ax rfl rfl hp_0.1 hp_0.2.1) ?_;have hm29:p.Domains.length≤9223372036854775807:=hp_0.2.1▸hp_0.1.max;refine TL.run 3 rfl ?_;refine TL.gs rfl rfl rfl (fun h8=>?_) (fun h8=>?_)
   ·have p8:=of_decide_eq_true h8;refine TL.y (Yv.fieldAddr rfl rfl) ?_;refine TL.y (Yv.fieldAddr rfl rfl) ?_;refine TL.y (Yv.ac 0 rfl rfl rfl rfl) ?_;refine TL.y (Yv.ax rfl rfl hp_1 (List.length_map _)) ?_;have hm36:p.Rules.Pairs.length≤9223372036854775807:=(List.length_map _)▸hp_1.max;refine TL.run 4 rfl ?_;refine TL.gs rfl rfl rfl (fun h9=>?_) (fun h9=>?_)
    ·have p9:=of_decide_eq_true h9;refine TL.y (Yv.fieldAddr rfl rfl) ?_;refine TL.y (Yv.fieldAddr rfl rfl) ?_;refine TL.y (Yv.ac 0 rfl rfl rfl rfl) ?_;refine TL.y (Yv.ax rfl rfl hp_2 (List.length_map _)) ?_;have hm44:p.Rules.Loads.length≤9223372036854775807:=(List.length_map _)▸hp_2.max;refine TL.run 4 rfl ?_;refine TL.gs rfl rfl rfl (fun h10=>?_) (fun h10=>?_)
     ·have p10:=of_decide_eq_true h10;refine TL.y (Yv.fieldAddr rfl rfl) ?_;refine TL.y (Yv.fieldAddr rfl rfl) ?_;refine TL.y (Yv.ac 0 rfl rfl rfl rfl) ?_;refine TL.y (Yv.ax rfl rfl hp_3 (List.length_map _)) ?_;have hm52:p.Rules.Caps.length≤9223372036854775807:=(List.length_map _)▸hp_3.max;refine TL.run 4 rfl ?_;refine TL.nil ?_;exact K.aj () trivial (.b (zeF (zb6 (zb6 h8 h9) h10)) .nil) (List.Sublist.refl _)
     ·have p10:=of_decide_eq_false h10;refine TL.run 8 rfl ?_;refine TL.nil ?_;exact K.aj () trivial (.b (zbh (zb6 (zb6 h8 h9) h10)).symm .nil) (List.Sublist.refl _)
    ·have p9:=of_decide_eq_false h9;refine TL.run 16 rfl ?_;refine TL.nil ?_;exact K.aj () trivial (.b (zbh (zbh (zb6 h8 h9))).symm .nil) (List.Sublist.refl _)
   ·have p8:=of_decide_eq_false h8;refine TL.run 24 rfl ?_;refine TL.nil ?_;exact K.aj () trivial (.b (zbh (zbh (zbh h8))).symm .nil) (List.Sublist.refl _)
  ·rintro _ _;have hm29:p.Domains.length≤9223372036854775807:=hp_0.2.1▸hp_0.1.max;have hm36:p.Rules.Pairs.length≤9223372036854775807:=(List.length_map _)▸hp_1.max;have hm44:p.Rules.Loads.length≤9223372036854775807:=(List.length_map _)▸hp_2.max;have hm52:p.Rules.Caps.length≤9223372036854775807:=(List.length_map _)▸hp_3.max;refine T.ret ?_;obtain rfl:=Option.some.inj hk;exact K.ag rfl rfl (fun w' hw=>⟨rfl,hw.isBelow⟩)
theorem zbS {ρ:Type}{f:Nat→(Unit→ρ)→Unit→ρ}{k:Unit→ρ}{n:Nat}{z:ρ}(q:Nat→Bool)(hf:∀i next,i<n→f i next ()=bif q i then next () else z):zal f k n 0 ()=bif (List.range n).all q then k () else z:=by
 have key:∀m i,i+m=n→zal f k m i ()=bif (List.range' i m).all q then k () else z:=by
  intro m
  induction m with
  |zero=>intro i _;rfl
  |succ m ih=>
   intro i e
   show f i (zal f k m (i+1)) ()=_
   rw [hf i _ (by omega),ih (i+1) (by omega),List.range'_succ,List.all_cons]
   cases q i <;> rfl
 rw [key n 0 (by omega),List.range_eq_range']
theorem zdw {n:Int}:zao n=inB n 0 511:=rfl
theorem zjR {a b:Int}:za0 a b=rngB a b:=by
 unfold za0 rngB;by_cases h1:2≤a <;> by_cases h2:a≤b <;> by_cases h3:b≤51 <;> simp [h1,h2,h3]
theorem zkj {a b:List Int}(h:a.length=b.length):za7 a b=some (zdz a b):=by
 unfold za7;simp only [zaw,Nat.sub_zero]
 have key:∀m i,i+m=a.length→zal (fun (i:Nat) (next:Unit→Option Bool) (_:Unit)=>grd (0≤(i:Int)∧(i:Int)<(b.length:Int)) (bif decide (¬nth a i=nth b i) then some (decide (nth a i<nth b i)) else next ())) (fun _=>some false) m i ()=some (zdz (a.drop i) (b.drop i)):=by
  intro m
  induction m with
  |zero=>intro i e;rw [List.drop_eq_nil_of_le (show a.length≤i by omega)];rfl
  |succ m ih=>
   intro i e;have h2:=ih (i+1) (by omega)
   show grd _ _=_
   rw [zaO ⟨by omega,by omega⟩,ziT (by omega) (by omega)];by_cases e2:nth a i=nth b i
   ·rw [if_pos e2,decide_eq_false (fun hn=>hn e2),cond_false];exact h2
   ·rw [if_neg e2,decide_eq_true e2,cond_true]
 exact key a.length 0 (by omega)
def hasS (p:GProblem)(s:Int):Bool:=p.Domains.any fun d=>decide (d.Station=s)
theorem zli {p:GProblem}{s:Int}:zad p s<0↔hasS p s=false:=by
 unfold zad hasS;simp only [zaw,Nat.sub_zero]
 have key:∀m i,i+m=p.Domains.length→(zal (fun (i:Nat) (next:Unit→Int) (_:Unit)=>bif decide ((nth p.Domains i).Station=s) then (i:Int) else next ()) (fun _=>(-1)) m i ()<0↔((p.Domains.drop i).any fun d=>decide (d.Station=s))=false):=by
  intro m
  induction m with
  |zero=>intro i e;rw [List.drop_eq_nil_of_le (show p.Domains.length≤i by omega)];exact ⟨fun _=>rfl,fun _=>by show (-1:Int)<0;omega⟩
  |succ m ih=>
   intro i e;have h2:=ih (i+1) (by omega);rw [List.drop_eq_getElem_cons (show i<p.Domains.length by omega),List.any_cons,←zap (show i<p.Domains.length by omega)]
   show (bif decide ((nth p.Domains i).Station=s) then (i:Int) else _)<0↔_
   cases decide ((nth p.Domains i).Station=s) with
   |true=>simp
   |false=>rw [cond_false,Bool.false_or];exact h2
 have:=key p.Domains.length 0 (by omega)
 rwa [List.drop_zero] at this
theorem zb7 (i:Nat):((i:Int) - 1).toNat=i - 1:=by omega
theorem zlM {p : GProblem} {i : Nat} {next : Unit → Option Bool} (hi : i < p.Rules.Pairs.length) :
    (bif !(zao ((nth p.Rules.Pairs i).A)) then (bif true then some false else next ()) else
      (bif !(zao ((nth p.Rules.Pairs i).B)) then (bif true then some false else next ()) else
      (bif decide ((nth p.Rules.Pairs i).B ≤ (nth p.Rules.Pairs i).A) then (bif true then some false else next ()) else
      (bif decide ((nth p.Rules.Pairs i).Offset < (-1)) then (bif true then some false else next ()) else
      (bif decide (1 < (nth p.Rules.Pairs i).Offset) then (bif true then some false else next ()) else
      (bif !(za0 ((nth p.Rules.Pairs i).Low) ((nth p.Rules.Pairs i).High)) then (bif true then some false else next ()) else
      (bif decide (0 < (i : Int)) then (za7 (zaA (nth p.Rules.Pairs (((i : Int) - 1).toNat))) (zaA (nth p.Rules.Pairs i))).bind fun r => (bif !r then some false else next ()) else (bif false then some false else next ())))))))) = bif zf2 (pbG p).ps i then next () else some false := by
  have e1 : nth (pbG p).ps i = (nth p.Rules.Pairs i).b := zaY hi; have e2 : nth (pbG p).ps (i - 1) = (nth p.Rules.Pairs (i - 1)).b := zaY (by omega); rw [zb7, zkj (by rfl), Option.bind_some]; simp only [zdw, zjR]
  have hr : zf2 (pbG p).ps i = (inB (nth p.Rules.Pairs i).A 0 511 && (inB (nth p.Rules.Pairs i).B 0 511 && (!decide ((nth p.Rules.Pairs i).B ≤ (nth p.Rules.Pairs i).A) && (!decide ((nth p.Rules.Pairs i).Offset < (-1)) && (!decide (1 < (nth p.Rules.Pairs i).Offset) && (rngB (nth p.Rules.Pairs i).Low (nth p.Rules.Pairs i).High && (!decide (0 < (i : Int)) || zdz (zaA (nth p.Rules.Pairs (i - 1))) (zaA (nth p.Rules.Pairs i))))))))) := by
    unfold zf2; rw [e1, e2, Bool.eq_iff_iff, decide_eq_true_eq]; simp only [Bool.and_eq_true, Bool.or_eq_true, Bool.not_eq_true', decide_eq_false_iff_not, GPair.b, zaA]; constructor
    · rintro ⟨⟨h1, h2, h3, h4, h5, h6⟩, h9⟩; refine ⟨h1, h2, by omega, by omega, by omega, h6, ?_⟩; rcases Nat.eq_zero_or_pos i with h | h
      · exact .inl (by omega)
      · exact .inr (h9 h)
    · rintro ⟨h1, h2, h3, h4, h5, h6, h9⟩; refine ⟨⟨h1, h2, by omega, by omega, by omega, h6⟩, fun h => ?_⟩; rcases h9 with h9 | h9
      · omega
      · exact h9
  rw [hr]
  cases inB (nth p.Rules.Pairs i).A 0 511
  · rfl
  cases inB (nth p.Rules.Pairs i).B 0 511
  · rfl
  cases decide ((nth p.Rules.Pairs i).B ≤ (nth p.Rules.Pairs i).A)
  rotate_left
  · rfl
  cases decide ((nth p.Rules.Pairs i).Offset < (-1))
  rotate_left
  · rfl
  cases decide (1 < (nth p.Rules.Pairs i).Offset)
  rotate_left
  · rfl
  cases rngB (nth p.Rules.Pairs i).Low (nth p.Rules.Pairs i).High
  · rfl
  cases decide (0 < (i : Int))
  · rfl
  cases zdz (zaA (nth p.Rules.Pairs (i - 1))) (zaA (nth p.Rules.Pairs i)) <;> rfl
theorem zlX {p : GProblem} {i : Nat} {next : Unit → Option Bool} (hi : i < p.Rules.Loads.length) :
    (bif !(zao ((nth p.Rules.Loads i).To)) then (bif true then some false else next ()) else
      (bif !(zao ((nth p.Rules.Loads i).From)) then (bif true then some false else next ()) else
      (bif decide ((nth p.Rules.Loads i).To = (nth p.Rules.Loads i).From) then (bif true then some false else next ()) else
      (bif decide ((nth p.Rules.Loads i).Weight < 1) then (bif true then some false else next ()) else
      (bif decide (1073741824 < (nth p.Rules.Loads i).Weight) then (bif true then some false else next ()) else
      (bif !(za0 ((nth p.Rules.Loads i).Low) ((nth p.Rules.Loads i).High)) then (bif true then some false else next ()) else
      (bif decide (0 < (i : Int)) then (za7 (zaz (nth p.Rules.Loads (((i : Int) - 1).toNat))) (zaz (nth p.Rules.Loads i))).bind fun r => (bif !r then some false else next ()) else (bif false then some false else next ())))))))) = bif zgd (pbG p).ls i then next () else some false := by
  have e1 : nth (pbG p).ls i = (nth p.Rules.Loads i).b := zaY hi; have e2 : nth (pbG p).ls (i - 1) = (nth p.Rules.Loads (i - 1)).b := zaY (by omega); rw [zb7, zkj (by rfl), Option.bind_some]; simp only [zdw, zjR]
  have hr : zgd (pbG p).ls i = (inB (nth p.Rules.Loads i).To 0 511 && (inB (nth p.Rules.Loads i).From 0 511 && (!decide ((nth p.Rules.Loads i).To = (nth p.Rules.Loads i).From) && (!decide ((nth p.Rules.Loads i).Weight < 1) && (!decide (1073741824 < (nth p.Rules.Loads i).Weight) && (rngB (nth p.Rules.Loads i).Low (nth p.Rules.Loads i).High && (!decide (0 < (i : Int)) || zdz (zaz (nth p.Rules.Loads (i - 1))) (zaz (nth p.Rules.Loads i))))))))) := by
    unfold zgd; rw [e1, e2, Bool.eq_iff_iff, decide_eq_true_eq]; simp only [Bool.and_eq_true, Bool.or_eq_true, Bool.not_eq_true', decide_eq_false_iff_not, GLoad.b, zaz]; constructor
    · rintro ⟨⟨h1, h2, h3, h4, h5, h6⟩, h9⟩; refine ⟨h1, h2, by omega, by omega, by omega, h6, ?_⟩; rcases Nat.eq_zero_or_pos i with h | h
      · exact .inl (by omega)
      · exact .inr (h9 h)
    · rintro ⟨h1, h2, h3, h4, h5, h6, h9⟩; refine ⟨⟨h1, h2, by omega, by omega, by omega, h6⟩, fun h => ?_⟩; rcases h9 with h9 | h9
      · omega
      · exact h9
  rw [hr]
  cases inB (nth p.Rules.Loads i).To 0 511
  · rfl
  cases inB (nth p.Rules.Loads i).From 0 511
  · rfl
  cases decide ((nth p.Rules.Loads i).To = (nth p.Rules.Loads i).From)
  rotate_left
  · rfl
  cases decide ((nth p.Rules.Loads i).Weight < 1)
  rotate_left
  · rfl
  cases decide (1073741824 < (nth p.Rules.Loads i).Weight)
  rotate_left
  · rfl
  cases rngB (nth p.Rules.Loads i).Low (nth p.Rules.Loads i).High
  · rfl
  cases decide (0 < (i : Int))
  · rfl
  cases zdz (zaz (nth p.Rules.Loads (i - 1))) (zaz (nth p.Rules.Loads i)) <;> rfl
theorem zlA {p : GProblem} {i : Nat} {next : Unit → Option Bool} (hi : i < p.Rules.Caps.length) :
    (bif !(zao ((nth p.Rules.Caps i).Station)) then (bif true then some false else next ()) else
      (bif decide ((nth p.Rules.Caps i).Max < 0) then (bif true then some false else next ()) else
      (bif decide (1099511627776 < (nth p.Rules.Caps i).Max) then (bif true then some false else next ()) else
      (bif !(za0 ((nth p.Rules.Caps i).Low) ((nth p.Rules.Caps i).High)) then (bif true then some false else next ()) else
      (bif decide (0 < (i : Int)) then (za7 (zaI (nth p.Rules.Caps (((i : Int) - 1).toNat))) (zaI (nth p.Rules.Caps i))).bind fun r => (bif !r then some false else next ()) else (bif false then some false else next ())))))) = bif zf7 (pbG p).cs i then next () else some false := by
  have e1 : nth (pbG p).cs i = (nth p.Rules.Caps i).b := zaY hi; have e2 : nth (pbG p).cs (i - 1) = (nth p.Rules.Caps (i - 1)).b := zaY (by omega); rw [zb7, zkj (by rfl), Option.bind_some]; simp only [zdw, zjR]
  have hr : zf7 (pbG p).cs i = (inB (nth p.Rules.Caps i).Station 0 511 && (!decide ((nth p.Rules.Caps i).Max < 0) && (!decide (1099511627776 < (nth p.Rules.Caps i).Max) && (rngB (nth p.Rules.Caps i).Low (nth p.Rules.Caps i).High && (!decide (0 < (i : Int)) || zdz (zaI (nth p.Rules.Caps (i - 1))) (zaI (nth p.Rules.Caps i))))))) := by
    unfold zf7; rw [e1, e2, Bool.eq_iff_iff, decide_eq_true_eq]; simp only [Bool.and_eq_true, Bool.or_eq_true, Bool.not_eq_true', decide_eq_false_iff_not, GCap.b, zaI]; constructor
    · rintro ⟨⟨h1, h2, h3, h4⟩, h9⟩; refine ⟨h1, by omega, by omega, h4, ?_⟩; rcases Nat.eq_zero_or_pos i with h | h
      · exact .inl (by omega)
      · exact .inr (h9 h)
    · rintro ⟨h1, h2, h3, h4, h9⟩; refine ⟨⟨h1, by omega, by omega, h4⟩, fun h => ?_⟩; rcases h9 with h9 | h9
      · omega
      · exact h9
  rw [hr]
  cases inB (nth p.Rules.Caps i).Station 0 511
  · rfl
  cases decide ((nth p.Rules.Caps i).Max < 0)
  rotate_left
  · rfl
  cases decide (1099511627776 < (nth p.Rules.Caps i).Max)
  rotate_left
  · rfl
  cases rngB (nth p.Rules.Caps i).Low (nth p.Rules.Caps i).High
  · rfl
  cases decide (0 < (i : Int))
  · rfl
  cases zdz (zaI (nth p.Rules.Caps (i - 1))) (zaI (nth p.Rules.Caps i)) <;> rfl
theorem zgU {p:GProblem}:zbl p.Rules=some (zfT (pbG p)):=by
 unfold zbl;simp only [zaw,Nat.sub_zero];rw [zbS (n:=p.Rules.Pairs.length) (z:=some false) (zf2 (pbG p).ps) (fun i next hi=>zlM hi),zbS (n:=p.Rules.Loads.length) (z:=some false) (zgd (pbG p).ls) (fun i next hi=>zlX hi),zbS (n:=p.Rules.Caps.length) (z:=some false) (zf7 (pbG p).cs) (fun i next hi=>zlA hi)];have l1:(pbG p).ps.length=p.Rules.Pairs.length:=List.length_map _;have l2:(pbG p).ls.length=p.Rules.Loads.length:=List.length_map _;have l3:(pbG p).cs.length=p.Rules.Caps.length:=List.length_map _;unfold zfT;rw [l1,l2,l3];by_cases h:p.Rules.Pairs.length≤4096∧p.Rules.Loads.length≤1024∧p.Rules.Caps.length≤1024
 ·rw [decide_eq_true h,decide_eq_false (by omega),decide_eq_false (by omega),decide_eq_false (by omega)]
  cases (List.range p.Rules.Pairs.length).all (zf2 (pbG p).ps)
  ·rfl
  cases (List.range p.Rules.Loads.length).all (zgd (pbG p).ls)
  ·rfl
  cases (List.range p.Rules.Caps.length).all (zf7 (pbG p).cs) <;> rfl
 ·rw [decide_eq_false h];by_cases h1:(4096:Int)<p.Rules.Pairs.length
  ·rw [decide_eq_true h1];rfl
  ·by_cases h2:(1024:Int)<p.Rules.Loads.length
   ·rw [decide_eq_true h2,Bool.or_true];rfl
   ·rw [decide_eq_true (show (1024:Int)<p.Rules.Caps.length by omega),Bool.or_true];rfl
theorem zhX {p:GProblem}{s:Int}:zad p s<0↔¬0≤zgj (pbG p).ds s:=by
 rw [zli,zg3];unfold hasS;rw [List.any_eq_false];have l:(pbG p).ds.length=p.Domains.length:=List.length_map _;constructor
 ·rintro h ⟨i,hi,e⟩;rw [l] at hi;have e1:nth (pbG p).ds i=(nth p.Domains i).b:=zaY hi;rw [e1] at e;exact h _ (zak hi) (decide_eq_true e)
 ·intro h x hx hd;obtain ⟨i,hi,rfl⟩:=zaQ hx;refine h ⟨i,by rw [l];exact hi,?_⟩;have e1:nth (pbG p).ds i=(nth p.Domains i).b:=zaY hi;rw [e1];exact of_decide_eq_true hd
theorem zi7 {p:GProblem}:zbN p=some (okG p):=by
 have l0:(pbG p).ds.length=p.Domains.length:=List.length_map _;have l1:(pbG p).ps.length=p.Rules.Pairs.length:=List.length_map _;have l2:(pbG p).ls.length=p.Rules.Loads.length:=List.length_map _;have l3:(pbG p).cs.length=p.Rules.Caps.length:=List.length_map _;have n0:∀k,k<p.Domains.length→nth (pbG p).ds k=(nth p.Domains k).b:=fun k hk=>zaY hk;have n1:∀k,k<p.Rules.Pairs.length→nth (pbG p).ps k=(nth p.Rules.Pairs k).b:=fun k hk=>zaY hk;have n2:∀k,k<p.Rules.Loads.length→nth (pbG p).ls k=(nth p.Rules.Loads k).b:=fun k hk=>zaY hk;have n3:∀k,k<p.Rules.Caps.length→nth (pbG p).cs k=(nth p.Rules.Caps k).b:=fun k hk=>zaY hk;unfold zbN okG;rw [←zjZ];simp only [zaw,Nat.sub_zero,zgU,Option.bind_some];rw [zbS (n:=p.Domains.length) (z:=some false) (ziH (pbG p).ds) (fun i next hi=>?_),zbS (n:=p.Rules.Pairs.length) (z:=some false) (ziw (pbG p)) (fun i next hi=>?_),zbS (n:=p.Rules.Loads.length) (z:=some false) (ziI (pbG p)) (fun i next hi=>?_),zbS (n:=p.Rules.Caps.length) (z:=some false) (ziO (pbG p)) (fun i next hi=>?_)]
 ·unfold zjs;rw [l0,l1,l2,l3];by_cases h:p.Domains.length≤512
  ·rw [decide_eq_true h,decide_eq_false (by omega)]
   cases zfT (pbG p)
   ·rfl
   cases (List.range p.Domains.length).all (ziH (pbG p).ds)
   ·rfl
   cases (List.range p.Rules.Pairs.length).all (ziw (pbG p))
   ·rfl
   cases (List.range p.Rules.Loads.length).all (ziI (pbG p))
   ·rfl
   cases (List.range p.Rules.Caps.length).all (ziO (pbG p)) <;> rfl
  ·rw [decide_eq_false h,decide_eq_true (by omega)];rfl
 ·have hr:ziO (pbG p) i= !decide (zad p (nth p.Rules.Caps i).Station<0):=by
   unfold ziO;rw [n3 i hi,Bool.eq_iff_iff,decide_eq_true_eq];simp only [Bool.not_eq_true',decide_eq_false_iff_not,zhX,Decidable.not_not,GCap.b]
  rw [hr]
  cases decide (zad p (nth p.Rules.Caps i).Station<0) <;> rfl
 ·have hr:ziI (pbG p) i=(!decide (zad p (nth p.Rules.Loads i).To<0)&& !decide (zad p (nth p.Rules.Loads i).From<0)):=by
   unfold ziI;rw [n2 i hi,Bool.eq_iff_iff,decide_eq_true_eq];simp only [Bool.and_eq_true,Bool.not_eq_true',decide_eq_false_iff_not,zhX,Decidable.not_not,GLoad.b]
  rw [hr]
  cases decide (zad p (nth p.Rules.Loads i).To<0) <;> cases decide (zad p (nth p.Rules.Loads i).From<0) <;> rfl
 ·have hr:ziw (pbG p) i=(!decide (zad p (nth p.Rules.Pairs i).A<0)&& !decide (zad p (nth p.Rules.Pairs i).B<0)):=by
   unfold ziw;rw [n1 i hi,Bool.eq_iff_iff,decide_eq_true_eq];simp only [Bool.and_eq_true,Bool.not_eq_true',decide_eq_false_iff_not,zhX,Decidable.not_not,GPair.b]
  rw [hr]
  cases decide (zad p (nth p.Rules.Pairs i).A<0) <;> cases decide (zad p (nth p.Rules.Pairs i).B<0) <;> rfl
 ·rw [zbS (n:=(nth p.Domains i).Channels.length) (z:=some false) (zgD (nth p.Domains i).Channels) (fun k nx hk=>?_)]
  ·have hr:ziH (pbG p).ds i=(inB (nth p.Domains i).Station 0 511&&(!(decide (0<(i:Int))&&decide ((nth p.Domains i).Station≤(nth p.Domains (i - 1)).Station))&&(!decide (50<((nth p.Domains i).Channels.length:Int))&&(List.range (nth p.Domains i).Channels.length).all (zgD (nth p.Domains i).Channels)))):=by
    unfold ziH;rw [n0 i hi,n0 (i - 1) (by omega),Bool.eq_iff_iff,decide_eq_true_eq];simp only [Bool.and_eq_true,Bool.not_eq_true',Bool.and_eq_false_iff,decide_eq_false_iff_not,GDomain.b];constructor
    ·rintro ⟨⟨h1,h2,h3⟩,h4⟩;exact ⟨h1,by rcases Nat.eq_zero_or_pos i with h|h;exact .inl (by omega);exact .inr (by have:=h2 h;omega),by omega,h4⟩
    ·rintro ⟨h1,h2,h3,h4⟩;exact ⟨⟨h1,fun h=>by omega,by omega⟩,h4⟩
   rw [hr,zb7,zdw]
   cases inB (nth p.Domains i).Station 0 511
   ·rfl
   cases (decide (0<(i:Int))&&decide ((nth p.Domains i).Station≤(nth p.Domains (i - 1)).Station))
   rotate_left
   ·rfl
   cases decide (50<((nth p.Domains i).Channels.length:Int))
   rotate_left
   ·rfl
   rfl
  ·have hr:zgD (nth p.Domains i).Channels k=(!decide (nth (nth p.Domains i).Channels k<2)&&(!decide (51<nth (nth p.Domains i).Channels k)&& !(decide (0<(k:Int))&&decide (nth (nth p.Domains i).Channels k≤nth (nth p.Domains i).Channels (k - 1))))):=by
    unfold zgD;rw [Bool.eq_iff_iff,decide_eq_true_eq];simp only [Bool.and_eq_true,Bool.not_eq_true',Bool.and_eq_false_iff,decide_eq_false_iff_not];omega
   rw [hr,zb7]
   cases decide (nth (nth p.Domains i).Channels k<2)
   rotate_left
   ·rfl
   cases decide (51<nth (nth p.Domains i).Channels k)
   rotate_left
   ·rfl
   cases (decide (0<(k:Int))&&decide (nth (nth p.Domains i).Channels k≤nth (nth p.Domains i).Channels (k - 1))) <;> rfl
def zbK (p:GProblem)(s:Int):Bool:=p.Domains.any fun d=>decide (d.Station=s)
def zeU (c:GChoice):Bool:=decide (0≤c.Station∧c.Station<512∧2≤c.Channel∧c.Channel≤51)
def zeS (fuel:Nat)(p:GProblem)(m:List GDomain×Bool)(keep:Bool)(c:GChoice):Option ((List GDomain×Bool)×Int):=
 bif !zeU c then some (m,2) else
 bif !m.2 then some (m,8) else
 bif !zbK p c.Station then some (m,9) else
 (bif keep then zcj m.1 c.Station c.Channel else zbF m.1 c.Station c.Channel).bind fun d=>(zaZ fuel p d).bind fun r=>some (r,0)
section
variable {p:GProblem}{m:List GDomain×Bool}{k:SK}{L:Ws}{w:World}{F0:Frz}
theorem SI.stF (h:SI p m k L){b:Bool}(hok:(stE k L b).ok w)(htab:Tab w):StF k.w0 w k.sp k.gl k.tp k.Y L b:=by
 obtain ⟨h1,h2⟩:=Ent.bag_ok.1 hok;exact StF.of (Hp.startL h1 h2) h.tb (Ent.fz_ok.1 (h1 _ (by simp))) htab 0 1 rfl rfl h.len
theorem zgC (hs:StateAt w k.sp k.Y L (!m.2)):Calls Tryz.prog 68 #[.pointer (some ⟨k.sp,0,none⟩)] w fun e w'=>e= .returned (.bool (!m.2))∧Below w.heap.size w w':=
 zgR k.sp k.Y L (!m.2) w hs
theorem SI.ok (h:SI p m k L):k.Y.Ok:=by obtain ⟨P,_,hok,hY⟩:=h.pb;exact hY.ok (Pb.good hok)
theorem er_pl {xs:List Dx}{Y:Tb}{L:Ws}(h:xs.map Dx.pl=zhU Y L Y.n):xs.map Dx.er=gd Y L:=by
 (have e:xs.map Dx.er=(xs.map Dx.pl).map fun q=>(⟨q.1,q.2⟩:GDomain):=by rw [List.map_map];rfl);rw [e,h];unfold zhU gd;rw [List.map_map];rfl
theorem zhy (hF0:F0.At w)(h:SI p m k L)(hs:StateAt w k.sp k.Y L (!m.2)):Calls Tryz.prog 48 #[.pointer (some ⟨k.sp,0,none⟩)] w fun e w'=>∃(y:Value×List (List Value)) (G:Frz),SlD GDomain.rep G y.1 2 y.2 m.1∧e= .returned y.1∧Fx F0 w G w':=by
 cases hm:m.2 with
 |false=>
  rw [hm] at hs;refine (zhz k.sp k.Y L w hs).mono ?_;rintro e w' ⟨rfl,hb⟩;exact ⟨(.slice none 0 0,[]),F0,by rw [h.bad hm];exact SlD.nil _ _ 2,rfl,Fx.refl hF0 hb⟩
 |true=>
  rw [hm] at hs;refine (ziE k.sp k.Y L w hs h.ok).mono ?_;rintro e w' ⟨⟨v,xs⟩,hp,rfl,hw⟩;obtain ⟨G,h1,cs,h2⟩:=zk0 hF0 hw;refine ⟨(v,cs),G,?_,rfl,h1⟩;rw [(h.good hm).2.2,←er_pl hp];exact h2
theorem zjY {ds:List Dx}{j:Nat}:∀k,(∀i,i<k→(nth ds i).st.toNat≠j)→ixAt ds k j=0
 |0,_=>rfl
 |k+1,h=>by
  unfold ixAt;rw [if_neg (fun e=>h k (by omega) e.symm)];exact zjY k (fun i hi=>h i (by omega))
theorem zjw {P:Pb}{Y:Tb}(hok:P.ok=true)(hY:TbOf P Y){i:Nat}(hi:i<Y.n):atF Y (nth Y.st i)=((i:Int),true):=by
 have hG:=Pb.good hok;have h1:=hG.st (nth P.ds i) (zak (by rw [←hY.n];exact hi));rw [←hY.nth_st hi] at h1;have h2:=zhO hG hY hi;unfold Pb.ix at h2;unfold atF;rw [hY.ix,if_neg (by omega)]
 congr 1
theorem zl9 {P:Pb}{Y:Tb}(hok:P.ok=true)(hY:TbOf P Y){s:Int}(h:∀i,i<Y.n→nth Y.st i≠s):atF Y s=(0,false):=by
 have hG:=Pb.good hok;unfold atF;by_cases hs:s<0∨512≤s
 ·rw [if_pos (by rcases hs with h1|h1;exact .inl h1;exact .inr (.inl h1))]
 ·have h0:Y.ix s.toNat=0:=by
   rw [hY.ix];refine zjY _ fun i hi e=>?_; (have hi':i<Y.n:=by rw [hY.n];exact hi);have h1:=hG.st (nth P.ds i) (zak hi);apply h i hi';rw [hY.nth_st hi'];omega
  rw [if_pos (.inr (.inr h0))]
theorem zc0 {P:Pb}{Y:Tb}(hY:TbOf P Y){s:Int}:zbK P.er s=true↔∃i,i<Y.n∧nth Y.st i=s:=by
 unfold zbK;rw [List.any_eq_true]
 show (∃x∈P.ds.map Dx.er,_)↔_
 constructor
 ·rintro ⟨x,hx,h⟩;obtain ⟨i,hi,rfl⟩:=zaQ hx;rw [List.length_map] at hi;rw [zaL hi] at h; (have hi':i<Y.n:=by rw [hY.n];exact hi);exact ⟨i,hi',by rw [hY.nth_st hi'];exact of_decide_eq_true h⟩
 ·rintro ⟨i,hi,rfl⟩; (have hi':i<P.ds.length:=by rw [←hY.n];exact hi);exact ⟨Dx.er (nth P.ds i),List.mem_map.2 ⟨_,zak hi',rfl⟩,decide_eq_true (hY.nth_st hi).symm⟩
theorem zla {Y:Tb}{L:Ws}{i:Nat}{g:BitVec 64}{f:GDomain→GDomain}(hl:L.length=Y.n)(hi:i<Y.n)(h1:f (nth (gd Y L) i)=⟨nth Y.st i,(chansN (nth L i &&& ~~~g)).map fun j:Nat=>(j:Int)⟩)(h2:∀j,j<Y.n→j≠i→f (nth (gd Y L) j)=nth (gd Y L) j):(gd Y L).map f=gd Y (cutL L i g):=by
 refine zc8 (by rw [List.length_map,zbg,zbg]) fun j hj=>?_;rw [List.length_map,zbg] at hj;rw [zaL (by rw [zbg];exact hj),zbA (L:=cutL L i g) hj];unfold cutL;rw [zbO (by omega)];by_cases e:j=i
 ·subst e;rw [if_pos rfl,h1]
 ·rw [if_neg e,h2 j hj e,zbA hj]
theorem zkl {b:BitVec 64}{c j:Nat}(hc:c<64):(b &&& ~~~(~~~(1#64 <<< c))).getLsbD j=(b.getLsbD j&&decide (c=j)):=by
 rw [BitVec.not_not,BitVec.getLsbD_and];by_cases hj:j<64
 ·rw [zhB hj]
 ·rw [BitVec.getLsbD_of_ge b j (by omega)];simp
theorem zh5 {b:BitVec 64}{c j:Nat}(hc:c<64):(b &&& ~~~(1#64 <<< c)).getLsbD j=(b.getLsbD j&& !decide (c=j)):=by
 rw [BitVec.getLsbD_and];by_cases hj:j<64
 ·rw [BitVec.getLsbD_not,zhB hj];simp [hj]
 ·rw [BitVec.getLsbD_of_ge b j (by omega)];simp
theorem ziR {b:BitVec 64}{c:Nat}(hc:c<64):chansN (b &&& ~~~(~~~(1#64 <<< c)))=if b.getLsbD c then [c] else []:=by
 have h:∀j,j∈chansN (b &&& ~~~(~~~(1#64 <<< c)))↔j∈(if b.getLsbD c then [c] else []):=fun j=>by
  rw [chansN_mem,zkl hc]
  cases hb:b.getLsbD c with
  |false=>
   simp;intro h e;subst e;rw [hb] at h;cases h
  |true=>
   simp;constructor
   ·rintro ⟨_,rfl⟩;rfl
   ·rintro rfl;exact ⟨hb,rfl⟩
 refine zcG chansN_sub ?_ List.nodup_range' h
 split
 ·exact List.singleton_sublist.2 (List.mem_range'_1.2 ⟨by omega,by omega⟩)
 ·exact List.nil_sublist _
theorem zkm {Y:Tb}{L:Ws}{i c:Nat}(hl:L.length=Y.n)(hi:i<Y.n)(hinj:∀j,j<Y.n→nth Y.st j=nth Y.st i→j=i)(hc:c<64):(gd Y L).map (zcc (nth Y.st i) c)=gd Y (cutL L i (~~~(1#64 <<< c))):=by
 refine zla hl hi ?_ (fun j hj hne=>?_)
 ·rw [zbA hi,ziR hc];unfold zcc;dsimp only;rw [decide_eq_true rfl,cond_true]
  congr 1
  have e:((chansN (nth L i)).map fun j:Nat=>(j:Int)).any (fun k=>decide (k=(c:Int)))=(nth L i).getLsbD c:=by
   rw [Bool.eq_iff_iff,List.any_eq_true];constructor
   ·rintro ⟨q,hq,h⟩;obtain ⟨j,hj,rfl⟩:=mapI_mem.1 hq;have:=of_decide_eq_true h;rw [show c=j by omega];exact chansN_mem.1 hj
   ·intro h;exact ⟨c,mapI_mem.2 ⟨c,chansN_mem.2 h,rfl⟩,by simp⟩
  rw [e]
  cases (nth L i).getLsbD c <;> rfl
 ·rw [zbA hj];unfold zcc;dsimp only;rw [decide_eq_false (fun e=>hne (hinj j hj e)),cond_false]
theorem zkF {Y:Tb}{L:Ws}{i c:Nat}(hl:L.length=Y.n)(hi:i<Y.n)(hinj:∀j,j<Y.n→nth Y.st j=nth Y.st i→j=i)(hc:c<64):(gd Y L).map (zcq (nth Y.st i) c)=gd Y (cutL L i (1#64 <<< c)):=by
 refine zla hl hi ?_ (fun j hj hne=>?_)
 ·rw [zbA hi];unfold zcq;dsimp only
  congr 1
  rw [zd9 (b:=nth L i) (c:=nth L i &&& ~~~(1#64 <<< c)) (fun j hj=>by rw [zh5 hc,Bool.and_eq_true] at hj;exact hj.1),List.filter_map]
  congr 1
  apply List.filter_congr;intro j hj;rw [zh5 hc,chansN_mem.1 hj];simp only [Function.comp,Bool.true_and,not_true_eq_false,decide_false,Bool.false_or];by_cases e:c=j
  ·subst e;simp
  ·(have:¬(j:Int)=(c:Int):=by omega);simp [e,this]
 ·rw [zbA hj];unfold zcq;dsimp only
  congr 1
  rw [List.filter_eq_self];intro q _;rw [Bool.or_eq_true];exact .inl (decide_eq_true (fun e=>hne (hinj j hj e)))
theorem SI.two (h:SI p m k L){b:Bool}(hok:(stE k L b).ok w)(htab:Tab w)(hn0:0<k.Y.n):Hp w (fps [sRow k.sp k.gl k.tp k.Y.n b,zaR k.gl k.Y.n L]) [sRow k.sp k.gl k.tp k.Y.n b,zaR k.gl k.Y.n L] w∧(∀g,fps [sRow k.sp k.gl k.tp k.Y.n b,zaR k.gl k.Y.n L] g→¬IsC k.w0 g)∧¬fps [sRow k.sp k.gl k.tp k.Y.n b,zaR k.gl k.Y.n L] 0∧Fz k.w0 w:=by
 obtain ⟨h1,h2⟩:=Ent.bag_ok.1 hok;have h3:([sRow k.sp k.gl k.tp k.Y.n b,zaR k.gl k.Y.n L]++[Ent.fz k.w0]).Pairwise fun e f=>∀g,e.fp g→¬f.fp g:=h2;obtain ⟨a1,a2,a3⟩:=List.pairwise_append.1 h3;refine ⟨Hp.startL (fun e he=>h1 e (by simp at he ⊢;rcases he with h|h <;> simp [h])) a1,fun g ⟨e,he,hg⟩ hc=>a3 e he _ (by simp) g hg (Ent.fz_fp.2 hc),?_,Ent.fz_ok.1 (h1 _ (by simp))⟩;rintro ⟨e,he,hg⟩;have hT:=htab 0 (by decide);simp at he;rcases he with rfl|rfl
 ·have h4:=Ent.row_fp.1 hg;have h5:=Ent.row_ok.1 (h1 (sRow k.sp k.gl k.tp k.Y.n b) (by simp));rw [←h4] at h5;rw [zaX h5] at hT
  cases hT
 ·have h4:=Ent.sl_fp.1 hg;have h5:=Ent.sl_ok.1 (h1 (zaR k.gl k.Y.n L) (by simp)); (have e0:k.gl.b=0:=by simpa [sG,Value.ownBlock] using h4);have h9:=World.ownsRow.cellAt (by have:=h5;unfold sG at this;exact this) 0 (by omega);rw [e0] at h9;rw [hT] at h9
  cases L with
  |nil=>have:=h.len;simp at this;omega
  |cons x r=>simp [Ws.cells] at h9
theorem zjr (h:SI p m k L){c:GChoice}:zaU k.Y (!m.2) c.b=bif !zeU c then (0,2) else bif !m.2 then (0,8) else bif !zbK p c.Station then (0,9) else ((atF k.Y c.Station).1,0):=by
 obtain ⟨P,rfl,hok,hY⟩:=h.pb;unfold zaU GChoice.b zeU;dsimp only;by_cases h1:c.Station<0∨512≤c.Station∨c.Channel<2∨51<c.Channel
 ·rw [if_pos h1,decide_eq_false (by omega)];rfl
 ·rw [if_neg h1,decide_eq_true (by omega)];simp only [Bool.not_true,cond_false]
  cases m.2 with
  |false=>rfl
  |true=>
   simp only [Bool.not_true,cond_false,Bool.false_eq_true,if_false]
   cases hh:zbK P.er c.Station with
   |true=>
    obtain ⟨i,hi,e⟩:=(zc0 hY).1 hh;rw [←e,zjw hok hY hi];rfl
   |false=>
    rw [zl9 hok hY (s:=c.Station) (fun i hi e=>by rw [(zc0 hY).2 ⟨i,hi,e⟩] at hh;cases hh)];rfl
theorem zld (kp : Bool) (num : FuncId) (h : SI p m k L) (hok : (stE k L (!m.2)).ok w) (htab : Tab w) {fuel : Nat} (hf : 100000 ≤ fuel) (c : GChoice) {r : (List GDomain × Bool) × Int} (hr : zeS fuel p m kp c = some r)
    (hE : (zaU k.Y (!m.2) c.b).2 ≠ 0 → Calls Tryz.prog num #[.pointer (some ⟨k.sp, 0, none⟩), .agg (Ch.cells c.b).toArray] w fun e w' => e = .returned (.int .i64 (zaU k.Y (!m.2) c.b).2) ∧ Below w.heap.size w w')
    (hO : m.2 = true → (zaU k.Y false c.b).2 = 0 → Calls Tryz.prog num #[.pointer (some ⟨k.sp, 0, none⟩), .agg (Ch.cells c.b).toArray] w fun e w' => ∃ y : Ws × Bool, SPost k.Y (cutL L (zaU k.Y false c.b).1.toNat (bif kp then ~~~(1#64 <<< c.Channel.toNat) else 1#64 <<< c.Channel.toNat)) y.1 y.2 ∧ e = .returned (.int .i64 0) ∧ Hp w (fps [sRow k.sp k.gl k.tp k.Y.n false, zaR k.gl k.Y.n L]) [sRow k.sp k.gl k.tp k.Y.n y.2, zaR k.gl k.Y.n y.1] w') :
    Calls Tryz.prog num #[.pointer (some ⟨k.sp, 0, none⟩), .agg [.int .i64 c.Station, .int .i64 c.Channel].toArray] w fun e w' => ∃ L', SI p r.1 k L' ∧ e = .returned (.int .i64 r.2) ∧ Hp w (stE k L (!m.2)).fp [stE k L' (!r.1.2)] w' := by
  have hfit := zjr h (c := c)
  have keepE : ∀ {n : Int}, r = (m, n) → (zaU k.Y (!m.2) c.b).2 = n → n ≠ 0 → Calls Tryz.prog num #[.pointer (some ⟨k.sp, 0, none⟩), .agg [.int .i64 c.Station, .int .i64 c.Channel].toArray] w fun e w' => ∃ L', SI p r.1 k L' ∧ e = .returned (.int .i64 r.2) ∧ Hp w (stE k L (!m.2)).fp [stE k L' (!r.1.2)] w' := by
    intro n hr hc hn; subst hr; refine (hE (by rw [hc]; exact hn)).mono ?_; rintro e w' ⟨rfl, hb⟩; exact ⟨L, h, by rw [hc], (Hp.start hok).below hb⟩
  unfold zeS at hr
  cases hg : zeU c with
  | false => rw [hg] at hr hfit; exact keepE (Option.some.inj hr).symm (by rw [hfit]; rfl) (by decide)
  | true =>
    rw [hg] at hr hfit; simp only [Bool.not_true, cond_false] at hr hfit
    cases hm : m.2 with
    | false => rw [hm] at hr hfit; rw [← hm]; exact keepE (Option.some.inj hr).symm (by rw [hm]; rw [hfit]; rfl) (by decide)
    | true =>
      rw [hm] at hr hfit; simp only [Bool.not_true, cond_false] at hr hfit
      cases hh : zbK p c.Station with
      | false => rw [hh] at hr hfit; rw [← hm]; exact keepE (Option.some.inj hr).symm (by rw [hm, Bool.not_true, hfit]; rfl) (by decide)
      | true =>
        rw [hh] at hr hfit; simp only [Bool.not_true, cond_false] at hr hfit; obtain ⟨P, rfl, hok', hY⟩ := h.pb; have hG := Pb.good hok'; obtain ⟨i, hi, e⟩ := (zc0 hY).1 hh; rw [← e, zjw hok' hY hi] at hfit; obtain ⟨hC, hb, hd⟩ := h.good hm; (have hch : 2 ≤ c.Channel ∧ c.Channel ≤ 51 := by have := of_decide_eq_true hg; omega); have hn := hY.n; have h512 := hG.n; have hbd : Bd (gd k.Y L) := zme (by omega); have hinj : ∀ j, j < k.Y.n → nth k.Y.st j = nth k.Y.st i → j = i := fun j hj e' => zee hG hY hj hi e'; have hcn : ((c.Channel.toNat : Nat) : Int) = c.Channel := Int.toNat_of_nonneg (by omega)
        -- the domains after the cut
        have hdom : (bif kp then zcj m.1 c.Station c.Channel else zbF m.1 c.Station c.Channel) = some (gd k.Y (cutL L i (bif kp then ~~~(1#64 <<< c.Channel.toNat) else 1#64 <<< c.Channel.toNat))) := by
          rw [hd, ← e]
          cases kp with
          | true => rw [cond_true, cond_true, zlc hbd.len (fun x hx => (hbd.ch x hx).1), ← zkm h.len hi hinj (by omega), hcn]
          | false => rw [cond_false, cond_false, zjH hbd.len (fun x hx => (hbd.ch x hx).1), ← zkF h.len hi hinj (by omega), hcn]
        rw [hdom, Option.bind_some] at hr; obtain ⟨q, hq, hr⟩ := zah hr; obtain rfl := Option.some.inj hr; refine (hO hm (by rw [hfit])).mono ?_; rintro e' w' ⟨⟨L', c'⟩, hp, rfl, hw⟩; rw [hfit] at hp; dsimp only at hp hw ⊢; rw [Int.toNat_natCast] at hp; (have hlen : (cutL L i (bif kp then ~~~(1#64 <<< c.Channel.toNat) else 1#64 <<< c.Channel.toNat)).length = k.Y.n := by unfold cutL; rw [List.length_set, h.len]); obtain ⟨h3, h4⟩ := SI.of hok' hY h.tb hlen (hb.le zi3) (Is.of (hY.ok hG) hlen hp) hf hq; refine ⟨L', h3, rfl, ?_⟩; rw [← h4]; (have hok2 : (Ent.bag ([sRow k.sp k.gl k.tp k.Y.n false, zaR k.gl k.Y.n L] ++ [Ent.fz k.w0])).ok w := by rw [hm] at hok; exact hok); exact zkD hok2 hw
theorem zjt (h : SI p m k L) (hok : (stE k L (!m.2)).ok w) (htab : Tab w) {fuel : Nat} (hf : 100000 ≤ fuel) (c : GChoice) {r : (List GDomain × Bool) × Int} (hr : zeS fuel p m true c = some r) :
    Calls Tryz.prog 69 #[.pointer (some ⟨k.sp, 0, none⟩), .agg [.int .i64 c.Station, .int .i64 c.Channel].toArray] w fun e w' => ∃ L', SI p r.1 k L' ∧ e = .returned (.int .i64 r.2) ∧ Hp w (stE k L (!m.2)).fp [stE k L' (!r.1.2)] w' := by
  have hs := (h.stF hok htab).st; obtain ⟨P, hP, hok', hY⟩ := h.pb; have hix := hY.ixn; refine zld true _ h hok htab hf c hr (fun he => zfN k.sp k.Y L (!m.2) c.b w hs (k.Y.ix512 h.ok hix) he) (fun hm he => ?_); have hok2 := hok; rw [hm] at hok2; (have hn0 : 0 < k.Y.n := by have := zcF (Y := k.Y) hix he; omega); obtain ⟨h1, h2, h3, h4⟩ := h.two hok2 htab hn0; exact zjD k.w0 k.sp k.gl k.tp k.Y L w h.tb h.ok h4 htab h1 h2 h3 h.len (h.good hm).1.calm hix c.b he
theorem zjP (h : SI p m k L) (hok : (stE k L (!m.2)).ok w) (htab : Tab w) {fuel : Nat} (hf : 100000 ≤ fuel) (c : GChoice) {r : (List GDomain × Bool) × Int} (hr : zeS fuel p m false c = some r) :
    Calls Tryz.prog 72 #[.pointer (some ⟨k.sp, 0, none⟩), .agg [.int .i64 c.Station, .int .i64 c.Channel].toArray] w fun e w' => ∃ L', SI p r.1 k L' ∧ e = .returned (.int .i64 r.2) ∧ Hp w (stE k L (!m.2)).fp [stE k L' (!r.1.2)] w' := by
  have hs := (h.stF hok htab).st; obtain ⟨P, hP, hok', hY⟩ := h.pb; have hix := hY.ixn; refine zld false _ h hok htab hf c hr (fun he => zfQ k.sp k.Y L (!m.2) c.b w hs (k.Y.ix512 h.ok hix) he) (fun hm he => ?_); have hok2 := hok; rw [hm] at hok2; (have hn0 : 0 < k.Y.n := by have := zcF (Y := k.Y) hix he; omega); obtain ⟨h1, h2, h3, h4⟩ := h.two hok2 htab hn0; exact zi1 k.w0 k.sp k.gl k.tp k.Y L w h.tb h.ok h4 htab h1 h2 h3 h.len (h.good hm).1.calm hix c.b he
end
theorem zlk {p:GProblem}{a b:Int}{fuel:Nat}(hf:1000≤fuel):∃r,zbY fuel p a b=some r:=by
 unfold zbY;simp only [zaw];refine zca (σ:=Int) (I:=fun i=>0≤i∧i≤600) (μ:=fun i=>(600 - i).toNat) (post:=fun o=>∃r,o=some r) ⟨by omega,by omega⟩ (by omega) ?_;intro i next hi hn;by_cases h1:i<(p.Domains.length:Int) <;> by_cases h2:i<600
 ·rw [decide_eq_true h1,decide_eq_true h2,Bool.and_true,cond_true,zaO ⟨hi.1,h1⟩]
  cases decide (60<((nth p.Domains i.toNat).Channels.length:Int))
  ·exact hn _ ⟨by omega,by omega⟩ (by omega)
  ·exact ⟨_,rfl⟩
 ·rw [decide_eq_false h2,Bool.and_false,cond_false];exact ⟨_,rfl⟩
 ·rw [decide_eq_false h1,Bool.false_and,cond_false];exact ⟨_,rfl⟩
 ·rw [decide_eq_false h1,Bool.false_and,cond_false];exact ⟨_,rfl⟩
theorem keepD_mem {s c:Int}{x:GDomain}{q:Int}:q∈(zcc s c x).Channels↔q∈x.Channels∧(x.Station=s→q=c):=by
 unfold zcc;dsimp only;by_cases hs:x.Station=s
 ·rw [decide_eq_true hs,cond_true]
  cases ha:x.Channels.any (fun k=>decide (k=c)) with
  |true=>
   rw [cond_true];obtain ⟨k,hk,he⟩:=List.any_eq_true.1 ha;have:=of_decide_eq_true he;subst this;simp only [List.mem_singleton];exact ⟨fun h=>by subst h;exact ⟨hk,fun _=>rfl⟩,fun h=>h.2 hs⟩
  |false=>
   rw [cond_false];refine ⟨(fun h=>by cases h),fun h=>?_⟩;have:=h.2 hs;subst this;have:=List.any_eq_false.1 ha q h.1;simp at this
 ·rw [decide_eq_false hs,cond_false];exact ⟨fun h=>⟨h,fun h2=>absurd h2 hs⟩,fun h=>h.1⟩
theorem zgO {s c:Int}{x:GDomain}:(zcc s c x).Channels.Sublist x.Channels:=by
 unfold zcc;dsimp only
 cases decide (x.Station=s)
 ·exact List.Sublist.refl _
 ·cases ha:x.Channels.any (fun k=>decide (k=c))
  ·exact List.nil_sublist _
  ·obtain ⟨k,hk,he⟩:=List.any_eq_true.1 ha;have:=of_decide_eq_true he;subst this;exact List.singleton_sublist.2 hk
section
variable {p:GProblem}{a b d:List GDomain}
theorem keep_sub {s c:Int}:SubD (d.map (zcc s c)) d∧OrdD (d.map (zcc s c)) d:=by
 refine ⟨⟨List.length_map _,fun i hi=>?_⟩,fun i hi=>?_⟩
 ·rw [zaL hi];exact ⟨rfl,fun k hk=>(keepD_mem.1 hk).1⟩
 ·rw [zaL hi];exact zgO
theorem zjW {s c:Int}(h:SubD a b):SubD (a.map (zcc s c)) (b.map (zcc s c)):=by
 refine ⟨by rw [List.length_map,List.length_map,h.1],fun i hi=>?_⟩;rw [List.length_map] at hi;rw [zaL hi,zaL (by rw [h.1];exact hi)];have h2:=h.2 i hi;refine ⟨h2.1,fun k hk=>?_⟩;rw [keepD_mem] at hk ⊢;exact ⟨h2.2 k hk.1,fun e=>hk.2 (h2.1.trans e)⟩
theorem OrdD.trans {c:List GDomain}(h:OrdD a b)(k:OrdD b c)(hl:b.length=c.length):OrdD a c:=fun i hi=>(h i (by rw [hl];exact hi)).trans (k i hi)
theorem Bd.ord (hb:Bd b)(hl:a.length=b.length)(h:OrdD a b):Bd a:=by
 refine ⟨by rw [hl];exact hb.len,fun x hx=>?_⟩;obtain ⟨i,hi,rfl⟩:=zaQ hx; (have hi':i<b.length:=by rw [←hl];exact hi);have h2:=hb.ch _ (zak hi');exact ⟨Nat.le_trans (h i hi').length_le h2.1,h2.2.sublist (h i hi')⟩
theorem zdB:∀ {a b:List GDomain},a.length=b.length→OrdD a b→totG a≤totG b
 | [],[],_,_=>Nat.le_refl _
 |x :: r,y :: q,hl,h=>by
  have h0:=(h 0 (by simp)).length_le
  have ih:=zdB (a:=r) (b:=q) (by simpa using hl) (fun i hi=>by
   have:=h (i+1) (by simp;omega)
   simpa [nth] using this)
  simp only [totG,List.map_cons,List.sum_cons] at ih ⊢;have e1:nth (x :: r) 0=x:=rfl;have e2:nth (y :: q) 0=y:=rfl;rw [e1,e2] at h0;omega
theorem PropD.eq {r r':List GDomain×Bool}(hb:Bd d)(h:PropD p d r)(h':PropD p d r'):r=r':=by
 rcases h with ⟨h1,h2,h3,h4⟩|⟨h1,h2⟩
 ·rcases h' with ⟨g1,g2,g3,g4⟩|⟨g1,g2⟩
  ·have e1:=h4 _ g2 g3.1;have e2:=g4 _ h2 h3.1
   have:r.1=r'.1:=by
    refine zc8 (by rw [e2.1]) fun i hi=>?_; (have hi1:i<r'.1.length:=by rw [←e2.1];exact hi); (have hid:i<d.length:=by rw [←h3.1.1];exact hi);have a1:=e1.2 i hi;have a2:=e2.2 i hi1;have hch:(nth r.1 i).Channels=(nth r'.1 i).Channels:=zcG (h3.2 i hid) (g3.2 i hid) (hb.ch _ (zak hid)).2 (fun x=>⟨a2.2 x,a1.2 x⟩)
    cases hx:nth r.1 i with
    |mk s1 c1=>
     cases hy:nth r'.1 i with
     |mk s2 c2=>
      have b1:=a2.1;rw [hx,hy] at b1 hch;simp only at b1 hch;rw [b1,hch]
   exact Prod.ext this (h1.trans g1.symm)
  ·exact absurd h3.1 (g2 _ h2)
 ·rcases h' with ⟨g1,g2,g3,g4⟩|⟨g1,g2⟩
  ·exact absurd g3.1 (h2 _ g2)
  ·rw [h1,g1]
theorem PropD.keep {m r:List GDomain×Bool}{s c:Int}(h:PropD p d m)(hm:m.2=true)(hr:PropD p (m.1.map (zcc s c)) r):PropD p (d.map (zcc s c)) r:=by
 rcases h with ⟨_,h2,h3,h4⟩|⟨h1,_⟩
 ·have hsup:∀S,ClosedD p S→SubD S (d.map (zcc s c))→SubD S (m.1.map (zcc s c)):=fun S hS hs=>by
   have h5:=h4 S hS (hs.trans keep_sub.1);refine ⟨by rw [List.length_map];exact h5.1,fun i hi=>?_⟩;rw [List.length_map] at hi; (have hid:i<d.length:=by rw [←h3.1.1];exact hi);rw [zaL hi];have h6:=h5.2 i hi;refine ⟨h6.1,fun k hk=>keepD_mem.2 ⟨h6.2 k hk,fun e=>?_⟩⟩;have h7:=(hs.2 i (by rw [List.length_map];exact hid)).2 k hk;rw [zaL hid] at h7;exact (keepD_mem.1 h7).2 (by rw [←(h3.1.2 i hid).1];exact e)
  rcases hr with ⟨g1,g2,g3,g4⟩|⟨g1,g2⟩
  ·refine .inl ⟨g1,g2,⟨g3.1.trans (zjW h3.1),fun i hi=>?_⟩,fun S hS hs=>g4 S hS (hsup S hS hs)⟩;rw [List.length_map] at hi; (have hi':i<m.1.length:=by rw [h3.1.1];exact hi);have h8:=g3.2 i (by rw [List.length_map];exact hi');rw [zaL hi'] at h8;rw [zaL hi];refine h8.trans ?_;have hst:=(h3.1.2 i hi).1;have hsb:=h3.2 i hi;unfold zcc;dsimp only;rw [hst]
   cases decide ((nth d i).Station=s)
   ·exact hsb
   ·cases ha:(nth m.1 i).Channels.any (fun k=>decide (k=c))
    ·exact List.nil_sublist _
    ·obtain ⟨k,hk,he⟩:=List.any_eq_true.1 ha;rw [List.any_eq_true.2 ⟨k,hsb.subset hk,he⟩];exact List.Sublist.refl _
  ·exact .inr ⟨g1,fun S hS hs=>g2 S hS (hsup S hS hs)⟩
 ·rw [h1] at hm;cases hm
theorem PropD.keepBad {m:List GDomain×Bool}{d':List GDomain}(h:PropD p d m)(hm:m.2=false)(hs:SubD d' d):PropD p d' m:=by
 rcases h with ⟨h1,_⟩|⟨h1,h2⟩
 ·rw [h1] at hm;cases hm
 ·exact .inr ⟨h1,fun S hS hh=>h2 S hS (hh.trans hs)⟩
theorem PropD.ord {m:List GDomain×Bool}(h:PropD p d m)(hm:m.2=true):m.1.length=d.length∧OrdD m.1 d:=by
 rcases h with ⟨_,_,h3,_⟩|⟨h1,_⟩
 ·exact ⟨h3.1.1,h3.2⟩
 ·rw [h1] at hm;cases hm
def zeG (l:List GChoice)(i:Nat):Bool:=inB (nth l i).Station 0 511&&(inB (nth l i).Channel 2 51&& !(decide (0<(i:Int))&&decide ((nth l i).Station≤(nth l (i - 1)).Station)))
theorem zeJ {l:List GChoice}:zaK l=(List.range l.length).all (zeG l):=by
 unfold zaK;simp only [zaw,Nat.sub_zero];rw [zcl (zeG l) (fun i next _=>?_),Bool.and_true];rw [zb7,zdw]
 have e:zeG l i=(inB (nth l i).Station 0 511&&(!decide ((nth l i).Channel<2)&&(!decide (51<(nth l i).Channel)&& !(decide (0<(i:Int))&&decide ((nth l i).Station≤(nth l (i - 1)).Station))))):=by
  unfold zeG;rw [←Bool.and_assoc (!decide _)]
  congr 1
  congr 1
  unfold inB;by_cases h1:2≤(nth l i).Channel <;> by_cases h2:(nth l i).Channel≤51 <;> simp [h1,h2,Int.not_lt,Int.not_le] <;> omega
 rw [e]
 cases inB (nth l i).Station 0 511 <;> cases decide ((nth l i).Channel<2) <;> cases decide (51<(nth l i).Channel) <;> cases (decide (0<(i:Int))&&decide ((nth l i).Station≤(nth l (i - 1)).Station)) <;> rfl
theorem zmt (p:GProblem):(pbG p).er=p:=by
 unfold pbG Pb.er;dsimp only;rw [zdL (g:=Dx.er) (fun _=>rfl),zdL (g:=Pr.er) (fun _=>rfl),zdL (g:=Ld.er) (fun _=>rfl),zdL (g:=Cp.er) (fun _=>rfl)]
theorem zh2 {d:List GDomain}{n:Nat}(h:∀x∈d,x.Channels.length≤n):totG d≤d.length*n:=by
 induction d with
 |nil=>simp [totG]
 |cons x r ih=>
  have h1:=h x (by simp);have h2:=ih (fun y hy=>h y (by simp [hy]));simp only [totG,List.map_cons,List.sum_cons,List.length_cons,Nat.add_mul] at h2 ⊢;omega
theorem zht (h:okG p=true):WtP p∧Bd p.Domains∧totG p.Domains≤30000∧p.Domains.length≤512:=by
 have hG:=Pb.good h;have hw:=zlq h;rw [zmt] at hw;have hl:(pbG p).ds.length=p.Domains.length:=List.length_map _; (have hn:p.Domains.length≤512:=by rw [←hl];exact hG.n)
 have hc:∀x∈p.Domains,x.Channels.length≤52∧x.Channels.Nodup:=fun x hx=>by
  obtain ⟨i,hi,rfl⟩:=zaQ hx;have e:nth (pbG p).ds i=(nth p.Domains i).b:=zaY hi;have h1:=hG.chs _ (zak (show i<(pbG p).ds.length by rw [hl];exact hi));have h2:=zj2 h (i:=i) (by rw [hl];exact hi);rw [e] at h1 h2;exact ⟨h1.1,(zdE List.nodup_range').sublist h2⟩
 refine ⟨hw,⟨by omega,fun x hx=>⟨by have:=(hc x hx).1;omega,(hc x hx).2⟩⟩,?_,hn⟩;have:=zh2 (d:=p.Domains) (n:=52) (fun x hx=>(hc x hx).1);omega
theorem ziJ {a b:List Int}:zaC a b=decide (a=b):=by
 unfold zaC;simp only [zaw,Nat.sub_zero];by_cases hl:a.length=b.length
 ·rw [decide_eq_false (by simp [hl]),cond_false,zcl (fun i=>decide (nth a i=nth b i)) (fun i next _=>by by_cases h:nth a i=nth b i <;> simp [h]),Bool.and_true,Bool.eq_iff_iff,List.all_eq_true,decide_eq_true_eq];constructor
  ·intro h;exact zc8 hl fun i hi=>of_decide_eq_true (h i (List.mem_range.2 hi))
  ·rintro rfl i _;simp
 ·rw [decide_eq_true (by omega),cond_true,decide_eq_false (fun e=>hl (by rw [e]))]
theorem zgf {a b:List GDomain}:zaJ a b=decide (a=b):=by
 unfold zaJ;simp only [zaw,Nat.sub_zero,ziJ];by_cases hl:a.length=b.length
 ·rw [decide_eq_false (by simp [hl]),cond_false,zcl (fun i=>decide (nth a i=nth b i)) (fun i next _=>?_),Bool.and_true,Bool.eq_iff_iff,List.all_eq_true,decide_eq_true_eq]
  ·constructor
   ·intro h;exact zc8 hl fun i hi=>of_decide_eq_true (h i (List.mem_range.2 hi))
   ·rintro rfl i _;simp
  ·have e:decide (nth a i=nth b i)=(decide ((nth a i).Station=(nth b i).Station)&&decide ((nth a i).Channels=(nth b i).Channels)):=by
    rw [Bool.eq_iff_iff];simp only [Bool.and_eq_true,decide_eq_true_eq];constructor
    ·intro h;rw [h];exact ⟨rfl,rfl⟩
    ·intro h
     cases hx:nth a i
     cases hy:nth b i
     rw [hx,hy] at h;simp only at h;rw [h.1,h.2]
   rw [e];by_cases h1:(nth a i).Station=(nth b i).Station <;> by_cases h2:(nth a i).Channels=(nth b i).Channels <;> simp [h1,h2]
 ·rw [decide_eq_true (by omega),cond_true,decide_eq_false (fun e=>hl (by rw [e]))]
theorem hasSt_find {s:Int}:zad p s<0↔zbK p s=false:=zli
end
structure GG (p:GProblem):Prop where
 n:p.Domains.length≤512
 st:∀x∈p.Domains,0≤x.Station∧x.Station≤511
 chs:∀x∈p.Domains,x.Channels.length≤52∧∀c∈x.Channels,2≤c∧c≤51
 inc:∀i j,i<j→j<p.Domains.length→(nth p.Domains i).Station<(nth p.Domains j).Station
 ps:∀x∈p.Rules.Pairs,(zbK p x.A=true∧zbK p x.B=true)∧(x.A<x.B∧ -1≤x.Offset∧x.Offset≤1)∧2≤x.Low∧x.Low≤x.High∧x.High≤51
 ls:∀x∈p.Rules.Loads,(zbK p x.To=true∧zbK p x.From=true)∧(x.To≠x.From∧1≤x.Weight∧x.Weight≤1073741824)∧2≤x.Low∧x.Low≤x.High∧x.High≤51
 cs:∀x∈p.Rules.Caps,zbK p x.Station=true∧(0≤x.Max∧x.Max≤1099511627776)∧2≤x.Low∧x.Low≤x.High∧x.High≤51
 lls:p.Rules.Loads.length≤1024
 lps:p.Rules.Pairs.length≤4096
 lcs:p.Rules.Caps.length≤1024
theorem hasSt_ex {p:GProblem}{s:Int}:zbK p s=true↔∃x∈p.Domains,x.Station=s:=by
 unfold zbK;rw [List.any_eq_true];simp only [decide_eq_true_eq]
theorem zgx {p:GProblem}(h:okG p=true):GG p:=by
 have hG:=Pb.good h;have hl:(pbG p).ds.length=p.Domains.length:=List.length_map _;have hn:∀i,i<p.Domains.length→nth (pbG p).ds i=(nth p.Domains i).b:=fun i hi=>zaL hi
 have hs:∀ {s:Int},(∃i,i<(pbG p).ds.length∧s=(nth (pbG p).ds i).st)→zbK p s=true:=fun ⟨i,hi,e⟩=>by
  rw [hl] at hi;rw [hn i hi] at e;exact hasSt_ex.2 ⟨_,zak hi,e.symm⟩
 refine ⟨by rw [←hl];exact hG.n,fun x hx=>hG.st x.b (List.mem_map.2 ⟨x,hx,rfl⟩),fun x hx=>hG.chs x.b (List.mem_map.2 ⟨x,hx,rfl⟩),fun i j hij hj=>?_,fun x hx=>?_,fun x hx=>?_,fun x hx=>?_,?_,?_,?_⟩
 ·have:=hG.inc i j hij (by rw [hl];exact hj);rw [hn i (by omega),hn j hj] at this;exact this
 ·obtain ⟨h1,h2,h3⟩:=hG.ps x.b (List.mem_map.2 ⟨x,hx,rfl⟩);simp only [Pr.ok,rngB,inB,Bool.and_eq_true,decide_eq_true_eq] at h1;exact ⟨⟨hs h2,hs h3⟩,by show x.A<x.B∧_;exact ⟨h1.2.2.1,h1.2.2.2.1.1,h1.2.2.2.1.2⟩,h1.2.2.2.2.1,h1.2.2.2.2.2.1,h1.2.2.2.2.2.2⟩
 ·obtain ⟨h1,h2,h3⟩:=hG.ls x.b (List.mem_map.2 ⟨x,hx,rfl⟩);simp only [Ld.ok,rngB,inB,Bool.and_eq_true,decide_eq_true_eq] at h1;exact ⟨⟨hs h2,hs h3⟩,⟨h1.2.2.1,h1.2.2.2.1.1,h1.2.2.2.1.2⟩,h1.2.2.2.2.1,h1.2.2.2.2.2.1,h1.2.2.2.2.2.2⟩
 ·obtain ⟨h1,h2⟩:=hG.cs x.b (List.mem_map.2 ⟨x,hx,rfl⟩);simp only [Cp.ok,rngB,inB,Bool.and_eq_true,decide_eq_true_eq] at h1;exact ⟨hs h2,⟨h1.2.1.1,h1.2.1.2⟩,h1.2.2.1,h1.2.2.2.1,h1.2.2.2.2⟩
 ·have:=hG.lls;have e:(pbG p).ls.length=p.Rules.Loads.length:=List.length_map _;omega
 ·have:=hG.lps;have e:(pbG p).ps.length=p.Rules.Pairs.length:=List.length_map _;omega
 ·have:=hG.lcs;have e:(pbG p).cs.length=p.Rules.Caps.length:=List.length_map _;omega
structure ValidL (l:List GChoice):Prop where
 good:∀c∈l,0≤c.Station∧c.Station≤511∧2≤c.Channel∧c.Channel≤51
 inc:∀i j,i<j→j<l.length→(nth l i).Station<(nth l j).Station
theorem validL_iff {l:List GChoice}:(List.range l.length).all (zeG l)=true↔ValidL l:=by
 rw [List.all_eq_true];simp only [List.mem_range,zeG,inB,Bool.and_eq_true,decide_eq_true_eq,Bool.not_eq_true',Bool.and_eq_false_iff,decide_eq_false_iff_not];constructor
 ·intro h;refine ⟨fun c hc=>?_,fun i j hij hj=>?_⟩
  ·obtain ⟨i,hi,rfl⟩:=zaQ hc;have:=h i hi;omega
  ·have key:∀m,i+m+1<l.length→(nth l i).Station<(nth l (i+m+1)).Station:=by
    intro m
    induction m with
    |zero=>intro hm;have:=(h (i+1) hm).2.2;rw [show i+1 - 1=i by omega] at this;rw [Nat.add_zero];omega
    |succ m ih=>intro hm;have h1:=ih (by omega);have:=(h (i+(m+1)+1) hm).2.2;rw [show i+(m+1)+1 - 1=i+m+1 by omega] at this;omega
   have:=key (j - i - 1) (by omega)
   rwa [show i+(j - i - 1)+1=j by omega] at this
 ·intro h i hi;have:=h.good _ (zak hi);refine ⟨by omega,by omega,?_⟩;rcases Nat.eq_zero_or_pos i with h0|h0
  ·subst h0;left;omega
  ·right;have:=h.inc (i - 1) i (by omega) hi;omega
theorem ValidL.inj {l:List GChoice}(h:ValidL l){a b:GChoice}(ha:a∈l)(hb:b∈l)(e:a.Station=b.Station):a=b:=by
 obtain ⟨i,hi,rfl⟩:=zaQ ha;obtain ⟨j,hj,rfl⟩:=zaQ hb;rcases Nat.lt_trichotomy i j with h1|h1|h1
 ·have:=h.inc i j h1 hj;omega
 ·rw [h1]
 ·have:=h.inc j i h1 hi;omega
def orV (k:Int)(o:Option Nat)(r:GViolation):GViolation:=match o with
 |some i=>⟨k,(i:Int)⟩
 |none=>r
section
variable {p:GProblem}{f:Int→Int}
end
structure FiltD (f:GDomain→GDomain) (φ:Int→Int→Prop):Prop where
 st:∀x,(f x).Station=x.Station
 mem:∀x q,q∈(f x).Channels↔q∈x.Channels∧φ x.Station q
 sub:∀x,(f x).Channels.Sublist x.Channels
 mono:∀x y,x.Station=y.Station→x.Channels.Sublist y.Channels→(f x).Channels.Sublist (f y).Channels
theorem FiltD.id:FiltD id (fun _ _=>True):=⟨fun _=>rfl,fun _ _=>by simp,fun _=>List.Sublist.refl _,fun _ _ _ h=>h⟩
theorem FiltD.keep (s c:Int):FiltD (zcc s c) (fun t q=>t=s→q=c):=by
 refine ⟨fun _=>rfl,fun _ _=>keepD_mem,fun _=>zgO,fun x y hst hsb=>?_⟩;unfold zcc;dsimp only;rw [hst]
 cases decide (y.Station=s)
 ·exact hsb
 ·cases ha:x.Channels.any (fun k=>decide (k=c))
  ·exact List.nil_sublist _
  ·obtain ⟨k,hk,he⟩:=List.any_eq_true.1 ha;rw [List.any_eq_true.2 ⟨k,hsb.subset hk,he⟩];exact List.Sublist.refl _
theorem FiltD.drop (s c:Int):FiltD (zcq s c) (fun t q=>¬t=s∨¬q=c):=by
 refine ⟨fun _=>rfl,fun x q=>?_,fun _=>List.filter_sublist,fun x y hst hsb=>?_⟩
 ·unfold zcq;simp only [List.mem_filter,Bool.or_eq_true,decide_eq_true_eq]
 ·unfold zcq;dsimp only;rw [hst];exact hsb.filter _
section
variable {p:GProblem}{a b d:List GDomain}{f:GDomain→GDomain}{φ:Int→Int→Prop}
theorem FiltD.subD (h:FiltD f φ):SubD (d.map f) d∧OrdD (d.map f) d:=by
 refine ⟨⟨List.length_map _,fun i hi=>?_⟩,fun i hi=>?_⟩
 ·rw [zaL hi];exact ⟨h.st _,fun c hc=>((h.mem _ _).1 hc).1⟩
 ·rw [zaL hi];exact h.sub _
theorem FiltD.monoD (h:FiltD f φ)(hs:SubD a b):SubD (a.map f) (b.map f):=by
 refine ⟨by rw [List.length_map,List.length_map];exact hs.1,fun i hi=>?_⟩;rw [List.length_map] at hi;rw [zaL hi,zaL (by rw [hs.1];exact hi)];have h2:=hs.2 i hi;refine ⟨by rw [h.st,h.st];exact h2.1,fun c hc=>?_⟩;have h3:=(h.mem _ _).1 hc;exact (h.mem _ _).2 ⟨h2.2 c h3.1,by rw [←h2.1];exact h3.2⟩
theorem PropD.filt {m r:List GDomain×Bool}(hf:FiltD f φ)(h:PropD p d m)(hm:m.2=true)(hr:PropD p (m.1.map f) r):PropD p (d.map f) r:=by
 rcases h with ⟨_,h2,h3,h4⟩|⟨h1,_⟩
 ·have hsup:∀S,ClosedD p S→SubD S (d.map f)→SubD S (m.1.map f):=fun S hS hs=>by
   have h5:=h4 S hS (hs.trans hf.subD.1);refine ⟨by rw [List.length_map];exact h5.1,fun i hi=>?_⟩;rw [List.length_map] at hi; (have hid:i<d.length:=by rw [←h3.1.1];exact hi);rw [zaL hi];have h6:=h5.2 i hi;refine ⟨by rw [hf.st];exact h6.1,fun k hk=>(hf.mem _ _).2 ⟨h6.2 k hk,?_⟩⟩;have h7:=(hs.2 i (by rw [List.length_map];exact hid)).2 k hk;rw [zaL hid] at h7;rw [(h3.1.2 i hid).1];exact ((hf.mem _ _).1 h7).2
  rcases hr with ⟨g1,g2,g3,g4⟩|⟨g1,g2⟩
  ·refine .inl ⟨g1,g2,⟨g3.1.trans (hf.monoD h3.1),fun i hi=>?_⟩,fun S hS hs=>g4 S hS (hsup S hS hs)⟩;rw [List.length_map] at hi; (have hi':i<m.1.length:=by rw [h3.1.1];exact hi);have h8:=g3.2 i (by rw [List.length_map];exact hi');rw [zaL hi'] at h8;rw [zaL hi];exact h8.trans (hf.mono _ _ (h3.1.2 i hi).1 (h3.2 i hi))
  ·exact .inr ⟨g1,fun S hS hs=>g2 S hS (hsup S hS hs)⟩
 ·rw [h1] at hm;cases hm
def actC (keep:Bool)(c:GChoice):GDomain→GDomain:=bif zeU c then (bif keep then zcc c.Station c.Channel else zcq c.Station c.Channel) else id
def actQ (keep:Bool)(c:GChoice)(s q:Int):Prop:=zeU c=true→s=c.Station→(q=c.Channel↔keep=true)
theorem zdG (keep:Bool)(c:GChoice):FiltD (actC keep c) (actQ keep c):=by
 have key:∀ {φ ψ:Int→Int→Prop} {f:GDomain→GDomain},FiltD f φ→(∀s q,φ s q↔ψ s q)→FiltD f ψ:=fun h k=>⟨h.st,fun x q=>by rw [h.mem,k],h.sub,h.mono⟩;unfold actC actQ
 cases zeU c
 ·exact key FiltD.id (fun s q=>by simp)
 ·cases keep
  ·exact key (FiltD.drop _ _) (fun s q=>by simp;constructor <;> intro h <;> by_cases e:s=c.Station <;> simp_all)
  ·exact key (FiltD.keep _ _) (fun s q=>by simp)
theorem zjv {fuel:Nat}(hf:100000≤fuel)(hok:okG p=true)(hd:SubD d p.Domains∧OrdD d p.Domains){m:List GDomain×Bool}(h:PropD p d m)(keep:Bool)(c:GChoice):∃r,zeS fuel p m keep c=some (r,bif !zeU c then 2 else bif !m.2 then 8 else bif !zbK p c.Station then 9 else 0)∧PropD p (d.map (actC keep c)) r:=by
 obtain ⟨hw,hbd,ht,hn⟩:=zht hok;unfold zeS
 cases hg:zeU c
 ·refine ⟨m,rfl,?_⟩; (have e:actC keep c=id:=by unfold actC;rw [hg];rfl);rw [e,List.map_id];exact h
 ·cases hm:m.2
  ·exact ⟨m,rfl,h.keepBad hm (zdG keep c).subD.1⟩
  ·cases hh:zbK p c.Station
   ·refine ⟨m,rfl,?_⟩
    have e:d.map (actC keep c)=d:=by
     refine (List.map_congr_left (g:=id) fun x hx=>?_).trans (List.map_id _);obtain ⟨i,hi,rfl⟩:=zaQ hx; (have hi':i<p.Domains.length:=by rw [←hd.1.1];exact hi)
     have hne:¬(nth d i).Station=c.Station:=by
      rw [(hd.1.2 i hi').1];intro e;have:zbK p c.Station=true:=List.any_eq_true.2 ⟨_,zak hi',by simpa using e⟩;rw [hh] at this;cases this
     unfold actC;rw [hg,cond_true]
     cases keep
     ·show zcq _ _ _=_
      unfold zcq;have:(nth d i).Channels.filter (fun k=>decide (¬(nth d i).Station=c.Station)||decide (¬k=c.Channel))=(nth d i).Channels:=List.filter_eq_self.2 (fun k _=>by simp [hne]);rw [this];rfl
     ·show zcc _ _ _=_
      unfold zcc;rw [decide_eq_false hne];rfl
    rw [e];exact h
   ·have ho:=h.ord hm;have hol:=ho.2.trans hd.2 hd.1.1;have hlen:m.1.length=p.Domains.length:=ho.1.trans hd.1.1;have hb1:=hbd.ord hlen hol;have ht1:=zdB hlen hol;have hs:=(zdG keep c).subD (d:=m.1);have hb2:=hb1.ord hs.1.1 hs.2;have ht2:=zdB hs.1.1 hs.2;obtain ⟨r,h5,h6⟩:=zdR (fuel:=fuel) hw hb2 (by rw [hs.1.1];omega) (by omega);refine ⟨r,?_,PropD.filt (zdG keep c) h hm h6⟩
    have e:(bif keep then zcj m.1 c.Station c.Channel else zbF m.1 c.Station c.Channel)=some (m.1.map (actC keep c)):=by
     unfold actC;rw [hg]
     cases keep
     ·exact zjH hb1.len (fun x hx=>(hb1.ch x hx).1)
     ·exact zlc hb1.len (fun x hx=>(hb1.ch x hx).1)
    simp only [Bool.not_true,cond_false];rw [e,Option.bind_some,h5];rfl
end
def hv:List Nat→Nat
 | []=>0
 |d :: r=>d+256*hv r
section
variable {B w:World}{M S0:Nat→Prop}{hs:HS}{F:FzB B M S0}{e:Ent}{i j:Nat}
theorem Hp.newAt (hw:Hp B M hs w)(hi:hs[i]?=some e){g:Nat}(hg:e.fp g):M g∨B.heap.size≤g:=hw.new e (List.mem_of_getElem? hi) g hg
theorem Hp.apartF (hw:Hp B M hs w)(hi:hs[i]?=some e)(hj:hs[j]?=some (.fr F))(hij:i<j):∀g,e.fp g→¬F.toFrz.S g:=fun g hg hS=>
 hw.ne hij hi hj hg (Ent.fr_fp.2 ⟨hS,hw.newAt hi hg⟩)
end
def zfa (Y:Tb)(L:Ws)(c:Bool)(x:Ch):Bool:=if c=true∨x.ch<2∨51<x.ch then false else if (atF Y x.st).2=false then false else (nth L (atF Y x.st).1.toNat).getLsbD x.ch.toNat
theorem zkk (sp:Nat)(Y:Tb)(L:Ws)(c:Bool)(x:Ch)(w:World)(h:StateAt w sp Y L c)(hok:Y.Ok)(hix:∀j,0≤Y.ix j∧Y.ix j≤Y.n):Calls Tryz.prog 102 #[.pointer (some ⟨sp,0,none⟩), .agg (Ch.cells x).toArray] w fun e w'=>e= .returned (.bool (zfa Y L c x))∧Below w.heap.size w w':=by
 obtain ⟨tp,hsp0,hT⟩:=h.tb;obtain ⟨vL,hsp1,hL⟩:=h.left;obtain ⟨AL,capL,rfl,hLs⟩:=hL.op;have hLn:=h.len;have hcon:=h.con;refine zac (M:=fun _=>False) (hs:=[]) Tryz.func102 rfl rfl rfl (Hp.refl _ _) ?_;simp only [Ch.cells];refine T.sr ?_; (refine TL.ew (Wt.none rfl) rfl rfl (Ew.aC rfl rfl) ?_;rintro _ _ ⟨g3,rfl,rfl⟩);refine TL.run 1 rfl ?_;refine TL.ns (T.seq (T.sr ?_));refine TL.run 1 rfl ?_; (refine TL.ew (Wt.none rfl) rfl rfl (Ew.af rfl rfl rfl (fun w hw=>zbI sp Y L c w (h.kept hw))) ?_;rintro _ _ ⟨rfl,rfl⟩);refine TL.run 1 rfl ?_;refine TL.yv (Wt.some rfl rfl rfl rfl) rfl rfl (Yv.aA rfl) ?_;refine TL.yv (Wt.some rfl rfl rfl rfl) rfl rfl (Yv.aA rfl) ?_;refine TL.yv (Wt.some rfl rfl rfl rfl) rfl rfl (Yv.fieldAddr rfl rfl) ?_;refine TL.yv (Wt.some rfl rfl rfl rfl) rfl rfl (Yv.au rfl rfl hcon (fun h=>h)) ?_;refine TL.run 2 rfl ?_;refine TL.ao rfl rfl rfl (fun h1=>?_) (fun h1=>?_)
 ·have p1:=h1; (try simp only [nfB] at p1);refine TL.off (Wt.not rfl rfl rfl h1) rfl rfl ?_;refine TL.off (Wt.not rfl rfl rfl h1) rfl rfl ?_;refine TL.off (Wt.not rfl rfl rfl h1) rfl rfl ?_;refine TL.y (Yv.ar rfl rfl h1 rfl) ?_;refine TL.run 5 rfl ?_;refine TL.ns ?_;refine T.aG rfl rfl ?_;refine T.sr ?_;refine TL.run 1 rfl ?_;refine TL.ns (T.ret (K.aa ?_));refine K.ag rfl rfl (fun w' hw=>⟨?_,hw.isBelow⟩);exact zag (by rw [zfa,if_pos (by first|(left;assumption)|(right;omega))])
 ·have p1:=h1; (try simp only [nfB] at p1);refine TL.yv (Wt.some rfl rfl rfl h1) rfl rfl (Yv.fieldAddr rfl rfl) ?_;refine TL.yv (Wt.some rfl rfl rfl h1) rfl rfl (Yv.ac 0 rfl rfl rfl rfl) ?_;refine TL.yv (Wt.some rfl rfl rfl h1) rfl rfl (Yv.aA rfl) ?_;refine TL.y (Yv.as rfl rfl h1 rfl) ?_;refine TL.run 1 rfl ?_;refine TL.ao rfl rfl rfl (fun h2=>?_) (fun h2=>?_)
  ·have p2:=h2; (try simp only [nfB] at p2);refine TL.off (Wt.not rfl rfl rfl h2) rfl rfl ?_;refine TL.off (Wt.not rfl rfl rfl h2) rfl rfl ?_;refine TL.off (Wt.not rfl rfl rfl h2) rfl rfl ?_;refine TL.y (Yv.ar rfl rfl h2 rfl) ?_;refine TL.ns ?_;refine T.aG rfl rfl ?_;refine T.sr ?_;refine TL.run 1 rfl ?_;refine TL.ns (T.ret (K.aa ?_));refine K.ag rfl rfl (fun w' hw=>⟨?_,hw.isBelow⟩);exact zag (by rw [zfa,if_pos (by first|(left;assumption)|(right;omega))])
  ·have p2:=h2; (try simp only [nfB] at p2);refine TL.yv (Wt.some rfl rfl rfl h2) rfl rfl (Yv.fieldAddr rfl rfl) ?_;refine TL.yv (Wt.some rfl rfl rfl h2) rfl rfl (Yv.ac 0 rfl rfl rfl rfl) ?_;refine TL.yv (Wt.some rfl rfl rfl h2) rfl rfl (Yv.aA rfl) ?_;refine TL.y (Yv.as rfl rfl h2 rfl) ?_;refine TL.ns ?_;refine T.cond rfl (fun h3=>?_) (fun h3=>?_)
   ·have p3:=h3; (try simp only [nfB] at p3);refine T.sr ?_;refine TL.run 1 rfl ?_;refine TL.ns (T.ret (K.aa ?_));refine K.ag rfl rfl (fun w' hw=>⟨?_,hw.isBelow⟩);exact zag (by rw [zfa,if_pos (by first|(left;assumption)|(right;omega))])
   ·have p3:=h3; (try simp only [nfB] at p3);refine T.skip (K.seq (T.seq ?_));refine T.aq (.still 0 (.still 1 (.still 2 (.still 3 (.still 4 (.still 5 (.eff 6 (.still 7 (.still 8 (.still 9 (.still 10 (.still 11 .done)))))))))))) _ (by kernel_rfl) (List.Sublist.refl _) ?_;refine TS.run 2 rfl ?_;refine TS.y rfl (Yv.fieldAddr rfl rfl) ?_;refine TS.y rfl (Yv.au rfl rfl hsp0 (fun h=>h)) ?_;refine TS.y rfl (Yv.fieldAddr rfl rfl) ?_;refine TS.y rfl (Yv.ac 0 rfl rfl rfl rfl) ?_;refine TS.eff ?_; (refine TSo.ew rfl (Wt.none rfl) rfl rfl (Ew.af rfl rfl rfl (fun w hw=>zk8 tp Y x.st w (hT.later (Fz.of_below hw.isBelow)) (Y.ix512 hok hix))) ?_;rintro _ _ ⟨rfl,rfl⟩;refine ⟨Sx,?_⟩);refine TS.run 5 rfl ?_;refine TS.done ?_;refine K.seq (T.seq ?_);refine T.aq (.still 0 (.still 1 (.still 2 (.still 3 (.still 4 (.still 5 (.still 6 (.still 7 (.still 8 (.still 9 (.still 10 (.still 11 (.still 12 (.still 13 (.still 14 (.still 15 .done)))))))))))))))) _ (by kernel_rfl) (List.Sublist.refl _) ?_;refine TS.run 2 rfl ?_;refine TS.ao rfl rfl rfl rfl (fun h4=>?_) (fun h4=>?_)
    ·have p4:=h4; (try simp only [nfB] at p4); (try (have hat:=zga hix (s:=x.st) (by assumption);obtain ⟨gL,oL,rfl,hc⟩:=hLs (by omega);have hk:=hc (atF Y x.st).1.toNat (by omega);simp only [Le] at hk));refine TS.still rfl (Wt.some rfl rfl rfl h4) rfl rfl (Yv.aA rfl) ?_;refine TS.still rfl (Wt.some rfl rfl rfl h4) rfl rfl (Yv.aA rfl) ?_;refine TS.still rfl (Wt.some rfl rfl rfl h4) rfl rfl (Yv.fieldAddr rfl rfl) ?_;refine TS.still rfl (Wt.some rfl rfl rfl h4) rfl rfl (Yv.au rfl rfl hsp1 (fun h=>h)) ?_;refine TS.still rfl (Wt.some rfl rfl rfl h4) rfl rfl (Yv.aA rfl) ?_;refine TS.still rfl (Wt.some rfl rfl rfl h4) rfl rfl (Yv.ai rfl rfl rfl (show (atF Y x.st).1=(((atF Y x.st).1.toNat:Nat):Int) from by omega) (by omega)) ?_;refine TS.still rfl (Wt.some rfl rfl rfl h4) rfl rfl (Yv.loadC (j:=0) rfl rfl hk rfl rfl (fun h=>h)) ?_;refine TS.still rfl (Wt.some rfl rfl rfl h4) rfl rfl (Yv.fieldAddr rfl rfl) ?_;refine TS.still rfl (Wt.some rfl rfl rfl h4) rfl rfl (Yv.ac 0 rfl rfl rfl rfl) ?_;refine TS.still rfl (Wt.some rfl rfl rfl h4) rfl rfl (Yv.bg x.ch.toNat rfl rfl rfl (by omega) (by omega)) ?_;refine TS.still rfl (Wt.some rfl rfl rfl h4) rfl rfl (Yv.bc (b:=1#64) rfl rfl rfl) ?_;refine TS.still rfl (Wt.some rfl rfl rfl h4) rfl rfl (Yv.aA rfl) ?_;refine TS.y rfl (Yv.ar rfl rfl h4 rfl) ?_;refine TS.run 1 rfl ?_;refine TS.done ?_;refine K.seq (T.ret ?_);refine K.ag rfl rfl (fun w' hw=>⟨?_,hw.isBelow⟩);exact zag (by rw [zfa,if_neg (fun h=>by rcases h with h|h|h; (rw [p1] at h;cases h);omega;omega),if_neg (by rw [p4];simp),zhg])
    ·have p4:=h4; (try simp only [nfB] at p4); (try (have hat:=zga hix (s:=x.st) (by assumption);obtain ⟨gL,oL,rfl,hc⟩:=hLs (by omega);have hk:=hc (atF Y x.st).1.toNat (by omega);simp only [Le] at hk));refine TS.aM rfl (Wt.not rfl rfl rfl h4) rfl rfl ?_;refine TS.aM rfl (Wt.not rfl rfl rfl h4) rfl rfl ?_;refine TS.aM rfl (Wt.not rfl rfl rfl h4) rfl rfl ?_;refine TS.aM rfl (Wt.not rfl rfl rfl h4) rfl rfl ?_;refine TS.aM rfl (Wt.not rfl rfl rfl h4) rfl rfl ?_;refine TS.aM rfl (Wt.not rfl rfl rfl h4) rfl rfl ?_;refine TS.aM rfl (Wt.not rfl rfl rfl h4) rfl rfl ?_;refine TS.aM rfl (Wt.not rfl rfl rfl h4) rfl rfl ?_;refine TS.aM rfl (Wt.not rfl rfl rfl h4) rfl rfl ?_;refine TS.aM rfl (Wt.not rfl rfl rfl h4) rfl rfl ?_;refine TS.aM rfl (Wt.not rfl rfl rfl h4) rfl rfl ?_;refine TS.aM rfl (Wt.not rfl rfl rfl h4) rfl rfl ?_;refine TS.y rfl (Yv.as rfl rfl h4 rfl) ?_;refine TS.run 1 rfl ?_;refine TS.done ?_;refine K.seq (T.ret ?_);refine K.ag rfl rfl (fun w' hw=>⟨?_,hw.isBelow⟩);exact zag (by rw [zfa,if_neg (fun h=>by rcases h with h|h|h; (rw [p1] at h;cases h);omega;omega),if_pos (by assumption)])
theorem zjC (sp:Nat)(Y:Tb)(L:Ws)(w:World)(h:StateAt w sp Y L true):Calls Tryz.prog 101 #[.pointer (some ⟨sp,0,none⟩)] w fun e w'=>e= .returned (.slice none 0 0)∧Below w.heap.size w w':=by
 have hcon:=h.con;refine zac (M:=fun _=>False) (hs:=[]) Tryz.func101 rfl rfl rfl (Hp.refl _ _) ?_;refine T.sr ?_;refine TL.run 1 rfl ?_;refine TL.ns (T.seq (T.sr ?_));refine TL.run 1 rfl ?_; (refine TL.ew (Wt.none rfl) rfl rfl (Ew.af rfl rfl rfl (fun w hw=>zbI sp Y L true w (h.kept hw))) ?_;rintro _ _ ⟨rfl,rfl⟩);refine TL.run 1 rfl ?_;refine TL.yv (Wt.some rfl rfl rfl rfl) rfl rfl (Yv.aA rfl) ?_;refine TL.yv (Wt.some rfl rfl rfl rfl) rfl rfl (Yv.aA rfl) ?_;refine TL.yv (Wt.some rfl rfl rfl rfl) rfl rfl (Yv.fieldAddr rfl rfl) ?_;refine TL.yv (Wt.some rfl rfl rfl rfl) rfl rfl (Yv.au rfl rfl hcon (fun h=>h)) ?_;refine TL.run 1 rfl ?_;refine TL.ns ?_;refine T.aG rfl rfl ?_;refine T.sr ?_;refine TL.run 1 rfl ?_;refine TL.ns (T.ret (K.aa ?_));refine K.ag rfl rfl (fun w' hw=>⟨?_,hw.isBelow⟩)
 rfl
def fixD (d:List GDomain):List GChoice:=(d.filter fun x=>decide (x.Channels.length=1)).map fun x=>⟨x.Station,nth x.Channels 0⟩
def zck (m:List GDomain×Bool):List GChoice:=bif m.2 then fixD m.1 else []
def zfD (m:List GDomain×Bool)(c:GChoice):Bool:=m.2&&m.1.any fun x=>decide (x.Station=c.Station)&&x.Channels.any fun k=>decide (k=c.Channel)
theorem zke {d:List GDomain}{x:GDomain}:fixD (d++[x])=fixD d++(if x.Channels.length=1 then [⟨x.Station,nth x.Channels 0⟩] else []):=by
 unfold fixD;rw [List.filter_append,List.map_append]
 congr 1
 by_cases h:x.Channels.length=1 <;> simp [h]
theorem zk4 {b:BitVec 64}(hb:b≠0#64)(h0:b.getLsbD 0=false):(zcf b≠0↔(chansN b).length=1)∧(zcf b≠0→chansN b=[zcf b]):=by
 have key:zcf b≠0→chansN b=[zcf b]:=fun h=>by
  have h1:=(zf1 hb (c:=((zcf b:Nat):Int)) (by omega)).2 rfl
  cases hc:chansN b with
  |nil=>exact absurd hc (zgB hb)
  |cons j r=>
   have hj:=h1 j (by rw [hc];simp)
   cases r with
   |nil=>rw [show j=zcf b by omega]
   |cons k s=>
    have hk:=h1 k (by rw [hc];simp);have hn:=zdq b;rw [hc,List.nodup_cons] at hn;exact absurd (by simp;left;omega) hn.1
 refine ⟨⟨fun h=>by rw [key h];rfl,fun h hz=>?_⟩,key⟩;obtain ⟨j,hj⟩:=List.length_eq_one_iff.1 h
 have hj0:j≠0:=fun e=>by
  (have:j∈chansN b:=by rw [hj];simp);rw [chansN_mem,e,h0] at this
  cases this
 have:=(zf1 hb (c:=(j:Int)) (by omega)).1 (fun k hk=>by rw [hj] at hk;simp at hk;omega);omega
theorem zk5 {Y:Tb}{L:Ws}(hl:L.length=Y.n)(hne:∀i,i<Y.n→nth L i≠0#64)(hb:In51 L):∀k,k≤Y.n→(fixF Y L k).map Ch.er=fixD ((gd Y L).take k)
 |0,_=>by simp [fixF,fixD]
 |k+1,h=>by
  have h0:(nth L k).getLsbD 0=false:=by
   cases e:(nth L k).getLsbD 0 with
   |false=>rfl
   |true=>have:=hb k 0 e;omega
  obtain ⟨h1,h2⟩:=zk4 (hne k (by omega)) h0;rw [zfc,List.map_append,zk5 hl hne hb k (by omega),List.take_succ_eq_append_getElem (by rw [zbg];omega),←zap (by rw [zbg];omega),zbA (by omega),zke]
  congr 1
  show List.map Ch.er (if zcf (nth L k)≠0 then [⟨nth Y.st k,(zcf (nth L k):Int)⟩] else [])=_
  dsimp only;rw [List.length_map];by_cases e:zcf (nth L k)=0
  ·rw [if_neg (by simpa using e),if_neg (fun q=>(h1.2 q) e)];rfl
  ·rw [if_pos e,if_pos (h1.1 e),h2 e];rfl
section
variable {p:GProblem}{m:List GDomain×Bool}{k:SK}{L:Ws}{w:World}{F0:Frz}
theorem SI.ne (h:SI p m k L)(hm:m.2=true):∀i,i<k.Y.n→nth L i≠0#64:=fun i hi=>(h.good hm).1.ne i hi
theorem zjn (hF0:F0.At w)(h:SI p m k L)(hs:StateAt w k.sp k.Y L (!m.2)):Calls Tryz.prog 101 #[.pointer (some ⟨k.sp,0,none⟩)] w fun e w'=>∃(y:Value) (G:Frz),SlC G y 2 ((zck m).map GChoice.enc)∧e= .returned y∧Fx F0 w G w':=by
 cases hm:m.2 with
 |false=>
  rw [hm] at hs;refine (zjC k.sp k.Y L w hs).mono ?_;rintro e w' ⟨rfl,hb⟩;exact ⟨.slice none 0 0,F0,by unfold zck;rw [hm];exact SlC.nil _ 2,rfl,Fx.refl hF0 hb⟩
 |true=>
  rw [hm] at hs;refine (zjX k.sp k.Y L w hs h.ok).mono ?_;rintro e w' ⟨v, -,rfl,hw⟩;obtain ⟨G,h1,h2⟩:=zlO hF0 hw;refine ⟨v,G,?_,rfl,h1⟩
  have e:zck m=(fixF k.Y L k.Y.n).map Ch.er:=by
   unfold zck;rw [hm,cond_true,zk5 h.len (h.ne hm) (h.good hm).2.1 _ (Nat.le_refl _),(h.good hm).2.2,List.take_of_length_le (by rw [zbg];exact Nat.le_refl _)]
  rw [e];exact h2
theorem zlz (h:SI p m k L)(hs:StateAt w k.sp k.Y L (!m.2))(c:GChoice):Calls Tryz.prog 102 #[.pointer (some ⟨k.sp,0,none⟩), .agg [.int .i64 c.Station, .int .i64 c.Channel].toArray] w fun e w'=>e= .returned (.bool (zfD m c))∧Below w.heap.size w w':=by
 obtain ⟨P,hP,hok',hY⟩:=h.pb;have hG:=Pb.good hok';refine (zkk k.sp k.Y L (!m.2) c.b w hs h.ok hY.ixn).mono ?_;rintro e w' ⟨rfl,hb⟩;refine ⟨?_,hb⟩
 congr 2
 unfold zfa zfD
 cases hm:m.2 with
 |false=>rw [if_pos (.inl rfl)];rfl
 |true=>
  obtain ⟨-,h51,hd⟩:=h.good hm;rw [Bool.true_and,hd]
  have hany:∀q,(gd k.Y L).any (fun x=>decide (x.Station=c.Station)&&x.Channels.any fun k=>decide (k=c.Channel))=q↔((∃ i,i<k.Y.n∧nth k.Y.st i=c.Station∧∃j:Nat,(nth L i).getLsbD j=true∧(j:Int)=c.Channel)↔q=true):=fun q=>by
   have e1:(gd k.Y L).any (fun x=>decide (x.Station=c.Station)&&x.Channels.any fun k=>decide (k=c.Channel))=true↔(∃i,i<k.Y.n∧nth k.Y.st i=c.Station∧∃j:Nat,(nth L i).getLsbD j=true∧(j:Int)=c.Channel):=by
    rw [List.any_eq_true];constructor
    ·rintro ⟨x,hx,hh⟩;obtain ⟨i,hi,rfl⟩:=zaQ hx;rw [zbg] at hi;rw [Bool.and_eq_true,decide_eq_true_eq,List.any_eq_true] at hh;obtain ⟨h1,q,hq,h2⟩:=hh;obtain ⟨j,hj,rfl⟩:=(zfh hi).1 hq;rw [zbA hi] at h1;exact ⟨i,hi,h1,j,hj,of_decide_eq_true h2⟩
    ·rintro ⟨i,hi,h1,j,hj,h2⟩;refine ⟨_,zak (by rw [zbg];exact hi),?_⟩;rw [Bool.and_eq_true,decide_eq_true_eq,List.any_eq_true];exact ⟨by rw [zbA hi];exact h1,(j:Int),(zfh hi).2 ⟨j,hj,rfl⟩,decide_eq_true h2⟩
   rw [←e1]
   cases (gd k.Y L).any (fun x=>decide (x.Station=c.Station)&&x.Channels.any fun k=>decide (k=c.Channel)) <;> cases q <;> simp
  symm
  rw [hany]
  show _↔(if (!true)=true∨c.Channel<2∨51<c.Channel then false else if (atF k.Y c.Station).2=false then false else (nth L (atF k.Y c.Station).1.toNat).getLsbD c.Channel.toNat)=true
  by_cases hc:c.Channel<2∨51<c.Channel
  ·rw [if_pos (.inr hc)];refine ⟨fun ⟨i,hi,_,j,hj,h2⟩=>?_,fun h=>by cases h⟩;have:=h51 i j hj;omega
  ·rw [if_neg (by simpa using hc)]
   cases hh:zbK P.er c.Station with
   |true=>
    obtain ⟨i,hi,e⟩:=(zc0 hY).1 hh;rw [←e,zjw hok' hY hi];simp only [Bool.true_eq_false,if_false,Int.toNat_natCast];constructor
    ·rintro ⟨i',hi',h1,j,hj,h2⟩;rw [zee hG hY hi hi' h1.symm,←h2,Int.toNat_natCast];exact hj
    ·intro h;exact ⟨i,hi,rfl,c.Channel.toNat,h,by omega⟩
   |false=>
    (have hno:∀i,i<k.Y.n→nth k.Y.st i≠c.Station:=fun i hi e=>by rw [(zc0 hY).2 ⟨i,hi,e⟩] at hh;cases hh);rw [zl9 hok' hY hno];simp only [if_true];exact ⟨fun ⟨i,hi,h1,_⟩=>absurd h1 (hno i hi),fun h=>by cases h⟩
end
def za9 (v:Value)(l h k:Nat):Value:=match v with
 | .slice a _ cap=>sliced a l h cap k
 |x=>x
theorem SlC.slice {F:Frz}{v:Value}{size:Nat}{cs:List (List Value)}(h:SlC F v size cs){l i:Nat}(hl:l≤i)(hi:i≤cs.length):SlC F (za9 v l i size) size ((cs.take i).drop l):=by
 obtain ⟨A,cap,rfl,h2,h3,h4,h5⟩:=h; (have hlen:((cs.take i).drop l).length=i - l:=by rw [List.length_drop,List.length_take];omega);have hmem:∀c∈(cs.take i).drop l,c∈cs:=fun c hc=>List.mem_of_mem_take (List.mem_of_mem_drop hc);refine ⟨if cap=l then A else A.map (·.add (l*size)),cap - l,?_,by omega,by omega,fun c hc=>h4 c (hmem c hc),fun hp=>?_⟩
 ·rw [hlen];rfl
 ·rw [hlen] at hp;obtain ⟨g,off,rfl,hg,hc⟩:=h5 (by omega);rw [if_neg (by omega)];refine ⟨g,off+l*size,by simp [zcQ],hg,fun j hj=>?_⟩;rw [hlen] at hj;have h6:=hc (l+j) (by omega)
  have e:nth ((cs.take i).drop l) j=nth cs (l+j):=by
   rw [zap (by omega),zap (by omega),List.getElem_drop,List.getElem_take]
  rw [e,show off+l*size+j*size=off+(l+j) *size by rw [Nat.add_mul];omega];exact h6
theorem SlD.slice {α:Type}[Inhabited α]{rep:Frz→List Value→α→Prop}{F:Frz}{v:Value}{size:Nat}{cs:List (List Value)}{xs:List α}(h:SlD rep F v size cs xs){l i:Nat}(hl:l≤i)(hi:i≤xs.length):SlD rep F (za9 v l i size) size ((cs.take i).drop l) ((xs.take i).drop l):=by
 refine ⟨h.1.slice hl (by rw [h.2.1];exact hi),?_,fun j hj=>?_⟩
 ·rw [List.length_drop,List.length_take,List.length_drop,List.length_take,h.2.1]
 ·have hj':=hj;rw [List.length_drop,List.length_take] at hj'
  have e:nth ((cs.take i).drop l) j=nth cs (l+j):=by
   rw [zap (by rw [List.length_drop,List.length_take,h.2.1];omega),zap (by rw [h.2.1];omega),List.getElem_drop,List.getElem_take]
  have e':nth ((xs.take i).drop l) j=nth xs (l+j):=by
   rw [zap hj,zap (by omega),List.getElem_drop,List.getElem_take]
  rw [e,e'];exact h.2.2 _ (by omega)
section
variable {F:Frz}{v:Value}{size:Nat}
theorem SlC.sliceh {α:Type}{enc:α→List Value}{xs:List α}(h:SlC F v size (xs.map enc)){i:Nat}(hi:i≤xs.length):SlC F (za9 v 0 i size) size ((xs.take i).map enc):=by
 have:=h.slice (l:=0) (i:=i) (Nat.zero_le _) (by rw [List.length_map];exact hi)
 rwa [List.drop_zero,←List.map_take] at this
variable {α:Type}[Inhabited α]{rep:Frz→List Value→α→Prop}{cs:List (List Value)}{xs:List α}
theorem SlD.sliceh (h:SlD rep F v size cs xs){i:Nat}(hi:i≤xs.length):SlD rep F (za9 v 0 i size) size (cs.take i) (xs.take i):=by
 have:=h.slice (l:=0) (Nat.zero_le _) hi
 rwa [List.drop_zero,List.drop_zero] at this
end
section
variable {P:Program}{n:Nat}{B:World}{M:Nat→Prop}{fs:SFs}{hs:HS}{o:Oper}{v:Value}
theorem TySl.elem {t e k:Nat}(h:TySl P t e k):P.underlying t=some (.slice (P.elem t))∧∀w,(sizeOf (P.elem t)).run P w= .ok k w:=by
 have h:=h.h;unfold zeu at h
 split at h
 ·rename_i el hU; (have he:P.elem t=el:=by unfold Program.elem;rw [hU])
  cases hi':P.info? el with
  |none=>rw [hi'] at h;cases h
  |some inf=>
   rw [hi'] at h
   cases h
   refine ⟨by rw [he];exact hU,fun w=>?_⟩;rw [he];simp [sizeOf,typeInfo,hi']
 ·cases h
theorem Yv.bf {F:Frz}{t e k i m:Nat}{z:Int}{q:IntKind}{cs:List (List Value)}{x y:Operand}[hT:TySl P t e k](ho:o.op= .slice t x none (some y) none)(hx:ev fs x=some v)(hy:ev fs y=some (.int q z))(h:SlC F v k cs)(hm:cs.length=m)(hz:z=(i:Int))(hi:i≤m):Yv P n B M fs hs o (za9 v 0 i k):=fun a w ha _=>by
 subst hm hz;obtain ⟨A,cap,rfl,h2,h3,h4,h5⟩:=h;unfold execOp;have:=run_slice_h (P:=P) w t A cs.length cap hT.elem.1 q (i:Int) (by omega) (by omega);simp [ho,ha.ev hx,ha.ev hy,run_sliceAt_slice w t _ _ _ _ hT.elem.1,this,hT.elem.2,za9]
end
structure FxM (F:Frz) (w:World) (M:Nat→Prop) (G:Frz) (es:HS) (w':World):Prop where
 le:F.Le G
 at_:G.At w'
 hp:Hp w M es w'
 new:∀g,G.S g→F.S g∨M g∨w.heap.size≤g
 ap:∀e∈es,∀g,e.fp g→¬G.S g
theorem zgl:fps []=fun _=>False:=by funext g;unfold fps;simp
section
variable {B w w':World}{M S0:Nat→Prop}{hs:HS}{F:FzB B M S0}
theorem FxM.of {F0:Frz}{es:HS}{G:FzB B M S0}(hw:Hp B M (es++[Ent.fr G]) w')(hS:∀g,S0 g→F0.S g)(hle:F0.Le G.toFrz):FxM F0 B M G.toFrz es w':=by
 have h1:=hw;have h2:=List.pairwise_append.1 h1.apart;refine ⟨hle,hw.fr (i:=es.length) (by simp),hw.sub (List.sublist_append_left _ _),fun g hg=>(G.new g hg).imp (hS g) id,fun e he g hg hS=>?_⟩;refine h2.2.2 e he (.fr G) (by simp) g hg (Ent.fr_fp.2 ⟨hS,?_⟩);exact h1.new e (List.mem_append_left _ he) g hg
theorem FxM.up {M':Nat→Prop}{G:Frz}{es:HS}(h:FxM F.toFrz w M' G es w')(hw:Hp B M hs w)(hM:∀g,M' g→M g∨B.heap.size≤g):∃G':FzB B M S0,G'.toFrz=G:=by
 refine ⟨⟨G,fun g hg hb hm=>?_,fun g hg=>?_⟩,rfl⟩
 ·rcases h.new g hg with h1|h1|h1
  ·rw [(h.le g h1).2,F.base g h1 hb hm]
  ·rcases hM g h1 with h2|h2
   ·exact absurd h2 hm
   ·omega
  ·have:=hw.size;omega
 ·rcases h.new g hg with h1|h1|h1
  ·exact F.new g h1
  ·exact .inr (hM g h1)
  ·have:=hw.size;exact .inr (.inr (by omega))
end
section
variable {P:Program}{n:Nat}{B D:World}{M S0:Nat→Prop}{fs:SFs}{hs:HS}{o:Oper}{v:Value}
theorem Ew.az (idx : List Nat) (bs rest : HS) {ι : Type} {F : FzB B M S0} {φ : ι → Frz → Prop} {val : ι → Value} {es : ι → HS} {c : Operand} {xs : Array Operand} {ts : Array TypeId} {f : FuncId} {fst caps : Array Value} {vs : List Value} [hE : Enters P f]
    (ho : o.op = .call { callee := .value c, args := xs, argTypes := ts }) (hc : ev fs c = some (.func (.func f) fst caps)) (hv : evs fs xs.toList = some vs) (hp : zeO hs idx = some (bs ++ .fr F :: rest)) (hn : idx.Nodup)
    (C : ∀ w, Hp B M hs w → Hp B M (bs ++ .fr F :: rest) w → F.toFrz.At w → Calls P f (fst.toList ++ vs ++ caps.toList).toArray w (fun e w' => ∃ y G, φ y G ∧ e = .returned (val y) ∧ FxM F.toFrz w (fps bs) G (es y) w')) :
    Ew P n B M fs hs o (fun v hs'' => ∃ y, ∃ G : FzB B M S0, F.toFrz.Le G.toFrz ∧ φ y G.toFrz ∧ v = val y ∧ hs'' = es y ++ .fr G :: rest) :=
  Ew.call ho hc hv fun w hw => by
    have hw2 := hw.pick hp hn; have hF : F.toFrz.At w := hw2.fr (i := bs.length) (by simp); refine (C w hw hw2 hF).mono fun e w' ⟨y, G, hy, he, hx⟩ => ?_; have hM : ∀ g, fps bs g → M g ∨ B.heap.size ≤ g := fun g ⟨e, he, hg⟩ => hw2.new e (List.mem_append_left _ he) g hg; obtain ⟨G', rfl⟩ := hx.up hw2 hM; refine ⟨val y, es y ++ .fr G' :: rest, he, Kp.only hx.hp.only (fun g hg c => ?_), ?_, y, G', hx.le, hy, rfl, rfl⟩
    · obtain ⟨e, h1, h2⟩ := hg; exact e.nd (hw2.own e (List.mem_append_left _ h1)) g h2 c
    · (have h3 : Hp B M ((bs ++ [.fr F]) ++ rest) w := by rw [List.append_assoc]; exact hw2); have h4 := Hp.go (es := bs ++ [.fr F]) (es' := es y ++ [.fr G']) h3 hx.hp.only (fun g _ ⟨e, he, hg⟩ => ⟨e, List.mem_append_left _ he, hg⟩) (fun e he => ?_) (fun e he g hg => ?_) ?_
      · rw [List.append_assoc] at h4; exact h4
      · rcases List.mem_append.1 he with he | he
        · exact hx.hp.own e he
        · simp at he; subst he; exact Ent.fr_ok.2 (fun g hg => hx.at_ g hg.1)
      · rcases List.mem_append.1 he with he | he
        · rcases hx.hp.new e he g hg with ⟨f, hf, hfg⟩ | h5
          · exact .inl ⟨f, List.mem_append_left _ hf, hfg⟩
          · exact .inr h5
        · simp at he; subst he; have h6 := Ent.fr_fp.1 hg; rcases hx.new g h6.1 with h7 | ⟨f, hf, hfg⟩ | h7
          · exact .inl ⟨.fr F, by simp, Ent.fr_fp.2 ⟨h7, h6.2⟩⟩
          · exact .inl ⟨f, List.mem_append_left _ hf, hfg⟩
          · exact .inr h7
      · exact List.pairwise_append.2 ⟨hx.hp.apart, List.pairwise_singleton _ _, fun e he f hf g hg hfg => by
          simp at hf; subst hf
          exact hx.ap e he g hg (Ent.fr_fp.1 hfg).1⟩
theorem Ew.aX (idx : List Nat) (bs rest : HS) {ι : Type} {F : FzB B M S0} {φ : ι → Prop} {val : ι → Value} {es : ι → HS} {c : Operand} {xs : Array Operand} {ts : Array TypeId} {f : FuncId} {fst caps : Array Value} {vs : List Value} [hE : Enters P f]
    (ho : o.op = .call { callee := .value c, args := xs, argTypes := ts }) (hc : ev fs c = some (.func (.func f) fst caps)) (hv : evs fs xs.toList = some vs) (hp : zeO hs idx = some (bs ++ .fr F :: rest)) (hn : idx.Nodup)
    (C : ∀ w, Hp B M hs w → Hp B M (bs ++ .fr F :: rest) w → F.toFrz.At w → Calls P f (fst.toList ++ vs ++ caps.toList).toArray w (fun e w' => ∃ y, φ y ∧ e = .returned (val y) ∧ FxM F.toFrz w (fps bs) F.toFrz (es y) w')) :
    Ew P n B M fs hs o (fun v hs'' => ∃ y, φ y ∧ v = val y ∧ hs'' = es y ++ .fr F :: rest) :=
  Ew.call ho hc hv fun w hw => by
    have hw2 := hw.pick hp hn; have hF : F.toFrz.At w := hw2.fr (i := bs.length) (by simp); refine (C w hw hw2 hF).mono fun e w' ⟨y, hy, he, hx⟩ => ?_; refine ⟨val y, es y ++ .fr F :: rest, he, Kp.only hx.hp.only (fun g hg c => ?_), ?_, y, hy, rfl, rfl⟩
    · obtain ⟨e, h1, h2⟩ := hg; exact e.nd (hw2.own e (List.mem_append_left _ h1)) g h2 c
    · exact Hp.go (es := bs) (es' := es y) hw2 hx.hp.only (fun g _ ⟨e, he, hg⟩ => ⟨e, he, hg⟩) hx.hp.own (fun e he g hg => hx.hp.new e he g hg) hx.hp.apart
end
section
variable {w:World}{bs:HS}{F:Frz}
theorem zbq (hF:F.At w)(h:Hp w (fps bs) bs w)(hA:∀g,fps bs g→¬F.S g):∃(S0:Nat→Prop) (G:FzB w (fps bs) S0),G.toFrz=F∧(∀g,S0 g→F.S g)∧Hp w (fps bs) (bs++[Ent.fr G]) w:=⟨F.S,Frz.inB hF _,rfl,fun _ h=>h,Hp.startFM hF h hA⟩
variable {B:World}{M S0:Nat→Prop}{G:FzB B M S0}{rest:HS}
theorem Hp.takes (h:Hp B M (bs++ .fr G :: rest) w):Hp w (fps bs) bs w∧∀g,fps bs g→¬G.toFrz.S g:=by
 have h1:Hp B M bs w:=h.sub (List.sublist_append_left _ _);refine ⟨Hp.startL h1.own h1.apart,fun g ⟨e,he,hg⟩ hS=>?_⟩;exact (List.pairwise_append.1 h.apart).2.2 e he (.fr G) (by simp) g hg (Ent.fr_fp.2 ⟨hS,h1.new e he g hg⟩)
theorem Hp.takes0 (h:Hp B M (bs++ .fr G :: rest) w)(h0:¬M 0)(hB:0<B.heap.size):¬fps bs 0:=fun ⟨e,he,hg⟩=>by
 rcases h.new e (List.mem_append_left _ he) 0 hg with h1|h1
 ·exact h0 h1
 ·omega
end
theorem Tab.pos {w:World}(h:Tab w):0<w.heap.size:=by
 have h0:=h 0 (by decide);unfold World.cell? at h0;rcases Nat.eq_zero_or_pos w.heap.size with e|e
 ·rw [Array.getElem?_eq_none (by omega)] at h0;simp at h0
 ·exact e
abbrev st2L (k:SK)(v:Value)(L:Ws)(b:Bool):HS:=[.row k.sp 116 [.pointer (some ⟨k.tp,0,none⟩),v, .bool b], .sl v 88 1 k.Y.n (Ws.cells L)]
abbrev st2 (k:SK)(v:Value)(L:Ws)(b:Bool):Ent:= .bag (st2L k v L b)
def TbF (F:Frz)(k:SK):Prop:=∀g,IsC k.w0 g→F.S g∧F.w.heap[g]?=k.w0.heap[g]?
theorem TbF.mono {F G:Frz}{k:SK}(h:TbF F k)(hle:F.Le G):TbF G k:=fun g hg=>⟨(hle g (h g hg).1).1,(hle g (h g hg).1).2.trans (h g hg).2⟩
theorem TbF.fz {F:Frz}{k:SK}{w:World}(h:TbF F k)(hF:F.At w):Fz k.w0 w:=fun g hg=>(hF g (h g hg).1).trans (h g hg).2
theorem ze6:∀L:Ws,L.flatMap Le=Ws.cells L
 | []=>rfl
 |b :: r=>by
  rw [List.flatMap_cons,ze6 r];rfl
section
variable {p:GProblem}{m:List GDomain×Bool}{k:SK}{v:Value}{L:Ws}{b:Bool}{w w':World}{F F0:Frz}
theorem SI.gl (h:SI p m k L)(gl:GL):SI p m { k with gl:=gl } L:=⟨h.pb,h.tb,h.len,h.good,h.bad⟩
theorem SI.sp (h:SI p m k L)(sp:Nat):SI p m { k with sp:=sp } L:=⟨h.pb,h.tb,h.len,h.good,h.bad⟩
theorem SI.n512 (h:SI p m k L):k.Y.n≤512:=h.ok.n
theorem zb9 {g:Nat}{t:TypeId}{l:List Value}{i:Nat}{x:Value}(h:(Ent.row g t l).ok w)(hx:l[i]?=some x):w.cell? ⟨g,i,none⟩=some x:=by rw [zaX (Ent.row_ok.1 h)];exact hx
theorem zfl (h:SI p m k L)(hok:(st2 k v L b).ok w)(hf:Fz k.w0 w)(htab:Tab w):StateAt w k.sp k.Y L b:=by
 have h1:=(Ent.bag_ok.1 hok).1;have hr:=h1 (.row k.sp 116 [.pointer (some ⟨k.tp,0,none⟩),v, .bool b]) (by simp);have hl:=Ent.sl_ok.1 (h1 (.sl v 88 1 k.Y.n (Ws.cells L)) (by simp));refine ⟨htab,⟨k.tp,zb9 hr rfl,h.tb.later hf⟩,⟨v,zb9 hr rfl,?_⟩,h.len,zb9 hr rfl⟩;refine SlOf.own (enc:=Le) (size:=1) (fun _=>rfl) (xs:=L) (e:=88) (k:=k.Y.n) ?_ h.len.symm;rw [ze6];exact hl
theorem zmn (h:SI p m k L)(hok:(st2 k v L b).ok w)(hn:0<k.Y.n):∃gl:GL,v=sG gl k.Y.n:=by
 have h1:=(Ent.bag_ok.1 hok).1;have hl:=Ent.sl_ok.1 (h1 (.sl v 88 1 k.Y.n (Ws.cells L)) (by simp));rcases hl.2 with ⟨_,h0⟩|⟨g,cap,cur,rfl,_⟩
 ·omega
 ·exact ⟨⟨g,cap⟩,rfl⟩
theorem zlm {gl:GL}(hok:(st2 k (sG gl k.Y.n) L b).ok w)(hf:Fz k.w0 w)(hap:∀g,(st2 k (sG gl k.Y.n) L b).fp g→¬IsC k.w0 g):(stE { k with gl:=gl } L b).ok w:=by
 obtain ⟨h1,h2⟩:=Ent.bag_ok.1 hok;refine Ent.bag_ok.2 ⟨fun e he=>?_,?_⟩
 ·simp at he;rcases he with rfl|rfl|rfl
  ·exact h1 _ (by simp)
  ·exact h1 _ (by simp)
  ·exact Ent.fz_ok.2 hf
 ·show ([sRow k.sp gl k.tp k.Y.n b,zaR gl k.Y.n L]++[Ent.fz k.w0]).Pairwise _
  refine List.pairwise_append.2 ⟨h2,List.pairwise_singleton _ _,fun e he f hf' g hg hfg=>?_⟩;simp only [List.mem_singleton] at hf';subst hf';exact hap g (Ent.bag_fp.2 ⟨e,he,hg⟩) (Ent.fz_fp.1 hfg)
theorem zms {gl:GL}{L':Ws}{b':Bool}(hf:Fz k.w0 w)(h:Hp w (stE { k with gl:=gl } L b).fp [stE { k with gl:=gl } L' b'] w'):Hp w (st2 k (sG gl k.Y.n) L b).fp [st2 k (sG gl k.Y.n) L' b'] w':=by
 have hok:=h.own (stE { k with gl:=gl } L' b') (by simp);obtain ⟨h1,h2⟩:=Ent.bag_ok.1 hok;have h3:([sRow k.sp gl k.tp k.Y.n b',zaR gl k.Y.n L']++[Ent.fz k.w0]).Pairwise fun e f=>∀g,e.fp g→¬f.fp g:=h2;obtain ⟨a1,a2,a3⟩:=List.pairwise_append.1 h3;have hf':Fz k.w0 w':=Ent.fz_ok.1 (h1 (.fz k.w0) (by simp));have hsp:∀g,(st2 k (sG gl k.Y.n) L' b').fp g↔∃e∈[sRow k.sp gl k.tp k.Y.n b',zaR gl k.Y.n L'],e.fp g:=fun g=>Ent.bag_fp;have hfp:∀g,(st2 k (sG gl k.Y.n) L b).fp g↔∃e∈[sRow k.sp gl k.tp k.Y.n b,zaR gl k.Y.n L],e.fp g:=fun g=>Ent.bag_fp
 have hE:∀g,(stE { k with gl:=gl } L b).fp g↔(st2 k (sG gl k.Y.n) L b).fp g∨IsC k.w0 g:=fun g=>by
  rw [hfp,Ent.bag_fp];simp only [List.mem_cons,List.not_mem_nil,or_false,exists_eq_or_imp,exists_eq_left,Ent.fz_fp];exact or_assoc.symm
 refine ⟨h.os,h.tape,h.output,h.size,fun g hg hn=>?_,fun e he=>?_,fun e he g hg=>?_,List.pairwise_singleton _ _⟩
 ·by_cases hc:IsC k.w0 g
  ·rw [hf' g hc,hf g hc]
  ·exact h.base g hg (fun hh=>((hE g).1 hh).elim hn hc)
 ·simp at he;subst he;exact Ent.bag_ok.2 ⟨fun e he=>h1 e (by simp at he ⊢;rcases he with h|h <;> simp [h]),a1⟩
 ·simp at he;subst he;have hg':=(hsp g).1 hg;obtain ⟨x,hx,hxg⟩:=hg';rcases h.new (stE { k with gl:=gl } L' b') (by simp) g (Ent.bag_fp.2 ⟨x,by simp at hx ⊢;rcases hx with h|h <;> simp [h],hxg⟩) with h4|h4
  ·rcases (hE g).1 h4 with h5|h5
   ·exact .inl h5
   ·exact absurd (Ent.fz_fp.2 h5) (a3 x hx (.fz k.w0) (by simp) g hxg)
  ·exact .inr h4
theorem zdQ (h:SI p m k L)(tf:TbF F k)(hok:(st2 k v L (!m.2)).ok w)(hF:F.At w)(htab:Tab w):Calls Tryz.prog 68 #[.pointer (some ⟨k.sp,0,none⟩)] w fun e w'=>e= .returned (.bool (!m.2))∧Below w.heap.size w w':=zgC (zfl h hok (tf.fz hF) htab)
theorem ziL (h:SI p m k L)(tf:TbF F k)(hok:(st2 k v L (!m.2)).ok w)(hF:F.At w)(htab:Tab w):Calls Tryz.prog 48 #[.pointer (some ⟨k.sp,0,none⟩)] w fun e w'=>∃(y:Value×List (List Value)) (G:Frz),SlD GDomain.rep G y.1 2 y.2 m.1∧e= .returned y.1∧Fx F w G w':=zhy hF h (zfl h hok (tf.fz hF) htab)
theorem zkX (h:SI p m k L)(tf:TbF F k)(hok:(st2 k v L (!m.2)).ok w)(hF:F.At w)(htab:Tab w):Calls Tryz.prog 101 #[.pointer (some ⟨k.sp,0,none⟩)] w fun e w'=>∃(y:Value) (G:Frz),SlC G y 2 ((zck m).map GChoice.enc)∧e= .returned y∧Fx F w G w':=zjn hF h (zfl h hok (tf.fz hF) htab)
theorem zl5 (h:SI p m k L)(tf:TbF F k)(hok:(st2 k v L (!m.2)).ok w)(hF:F.At w)(htab:Tab w)(c:GChoice):Calls Tryz.prog 102 #[.pointer (some ⟨k.sp,0,none⟩), .agg [.int .i64 c.Station, .int .i64 c.Channel].toArray] w fun e w'=>e= .returned (.bool (zfD m c))∧Below w.heap.size w w':=zlz h (zfl h hok (tf.fz hF) htab) c
theorem zlg (kp : Bool) (num : FuncId) (h : SI p m k L) (tf : TbF F k) (hok : (st2 k v L (!m.2)).ok w) (hF : F.At w) (hap : ∀ g, (st2 k v L (!m.2)).fp g → ¬ F.S g) (htab : Tab w) {fuel : Nat} (c : GChoice) {r : (List GDomain × Bool) × Int} (hr : zeS fuel p m kp c = some r)
    (hE : (zaU k.Y (!m.2) c.b).2 ≠ 0 → Calls Tryz.prog num #[.pointer (some ⟨k.sp, 0, none⟩), .agg (Ch.cells c.b).toArray] w fun e w' => e = .returned (.int .i64 (zaU k.Y (!m.2) c.b).2) ∧ Below w.heap.size w w')
    (hO : ∀ gl : GL, SI p m { k with gl := gl } L → (stE { k with gl := gl } L (!m.2)).ok w → Calls Tryz.prog num #[.pointer (some ⟨k.sp, 0, none⟩), .agg [.int .i64 c.Station, .int .i64 c.Channel].toArray] w fun e w' => ∃ L', SI p r.1 { k with gl := gl } L' ∧ e = .returned (.int .i64 r.2) ∧ Hp w (stE { k with gl := gl } L (!m.2)).fp [stE { k with gl := gl } L' (!r.1.2)] w') :
    Calls Tryz.prog num #[.pointer (some ⟨k.sp, 0, none⟩), .agg [.int .i64 c.Station, .int .i64 c.Channel].toArray] w fun e w' => ∃ L', SI p r.1 k L' ∧ e = .returned (.int .i64 r.2) ∧ Hp w (st2 k v L (!m.2)).fp [st2 k v L' (!r.1.2)] w' := by
  have hfit := zjr h (c := c)
  have keepE : ∀ {n : Int}, r = (m, n) → (zaU k.Y (!m.2) c.b).2 = n → n ≠ 0 → Calls Tryz.prog num #[.pointer (some ⟨k.sp, 0, none⟩), .agg [.int .i64 c.Station, .int .i64 c.Channel].toArray] w fun e w' => ∃ L', SI p r.1 k L' ∧ e = .returned (.int .i64 r.2) ∧ Hp w (st2 k v L (!m.2)).fp [st2 k v L' (!r.1.2)] w' := by
    intro n hr hc hn; subst hr; refine (hE (by rw [hc]; exact hn)).mono ?_; rintro e w' ⟨rfl, hb⟩; exact ⟨L, h, by rw [hc], (Hp.start hok).below hb⟩
  by_cases hn : 0 < k.Y.n
  · obtain ⟨gl, rfl⟩ := zmn h hok hn; refine (hO gl (h.gl gl) (zlm hok (tf.fz hF) (fun g hg hc => hap g hg (tf g hc).1))).mono ?_; rintro e w' ⟨L', h1, rfl, h2⟩; exact ⟨L', ⟨h1.pb, h1.tb, h1.len, h1.good, h1.bad⟩, rfl, zms (tf.fz hF) h2⟩
  · unfold zeS at hr
    cases hg : zeU c with
    | false => rw [hg] at hr hfit; exact keepE (Option.some.inj hr).symm (by rw [hfit]; rfl) (by decide)
    | true =>
      rw [hg] at hr hfit; simp only [Bool.not_true, cond_false] at hr hfit
      cases hm : m.2 with
      | false => rw [hm] at hr hfit; rw [← hm]; exact keepE (Option.some.inj hr).symm (by rw [hm]; rw [hfit]; rfl) (by decide)
      | true =>
        rw [hm] at hr hfit; simp only [Bool.not_true, cond_false] at hr hfit
        cases hh : zbK p c.Station with
        | false => rw [hh] at hr hfit; rw [← hm]; exact keepE (Option.some.inj hr).symm (by rw [hm, Bool.not_true, hfit]; rfl) (by decide)
        | true =>
          obtain ⟨P, rfl, _, hY⟩ := h.pb; obtain ⟨i, hi, _⟩ := (zc0 hY).1 hh; omega
theorem zka (h : SI p m k L) (tf : TbF F k) (hok : (st2 k v L (!m.2)).ok w) (hF : F.At w) (hap : ∀ g, (st2 k v L (!m.2)).fp g → ¬ F.S g) (htab : Tab w) {fuel : Nat} (hf : 100000 ≤ fuel) (c : GChoice) {r : (List GDomain × Bool) × Int} (hr : zeS fuel p m true c = some r) :
    Calls Tryz.prog 69 #[.pointer (some ⟨k.sp, 0, none⟩), .agg [.int .i64 c.Station, .int .i64 c.Channel].toArray] w fun e w' => ∃ L', SI p r.1 k L' ∧ e = .returned (.int .i64 r.2) ∧ Hp w (st2 k v L (!m.2)).fp [st2 k v L' (!r.1.2)] w' := by
  obtain ⟨P, hP, hok', hY⟩ := h.pb; exact zlg true _ h tf hok hF hap htab c hr (fun he => zfN k.sp k.Y L (!m.2) c.b w (zfl h hok (tf.fz hF) htab) (k.Y.ix512 h.ok hY.ixn) he) (fun gl h1 h2 => zjt h1 h2 htab hf c hr)
theorem zi5 (h : SI p m k L) (tf : TbF F k) (hok : (st2 k v L (!m.2)).ok w) (hF : F.At w) (hap : ∀ g, (st2 k v L (!m.2)).fp g → ¬ F.S g) (htab : Tab w) {fuel : Nat} (hf : 100000 ≤ fuel) (c : GChoice) {r : (List GDomain × Bool) × Int} (hr : zeS fuel p m false c = some r) :
    Calls Tryz.prog 72 #[.pointer (some ⟨k.sp, 0, none⟩), .agg [.int .i64 c.Station, .int .i64 c.Channel].toArray] w fun e w' => ∃ L', SI p r.1 k L' ∧ e = .returned (.int .i64 r.2) ∧ Hp w (st2 k v L (!m.2)).fp [st2 k v L' (!r.1.2)] w' := by
  obtain ⟨P, hP, hok', hY⟩ := h.pb; exact zlg false _ h tf hok hF hap htab c hr (fun he => zfQ k.sp k.Y L (!m.2) c.b w (zfl h hok (tf.fz hF) htab) (k.Y.ix512 h.ok hY.ixn) he) (fun gl h1 h2 => zjP h1 h2 htab hf c hr)
theorem zls (hF:F0.At w)(h:SI p m k L)(hw:Hp w (fun _=>False) [stE k L b] w'):∃G,TbF G k∧FxM F0 w (fps []) G [st2 k (sG k.gl k.Y.n) L b] w':=by
 have hok:=hw.own (stE k L b) (by simp);obtain ⟨h1,h2⟩:=Ent.bag_ok.1 hok;have h3:([sRow k.sp k.gl k.tp k.Y.n b,zaR k.gl k.Y.n L]++[Ent.fz k.w0]).Pairwise fun e f=>∀g,e.fp g→¬f.fp g:=h2;obtain ⟨a1,a2,a3⟩:=List.pairwise_append.1 h3;have hf':Fz k.w0 w':=Ent.fz_ok.1 (h1 (.fz k.w0) (by simp));have hb:=hw.isBelow;have hF':=hF.below hb;have hnew:∀g,IsC k.w0 g→w.heap.size≤g:=fun g hg=>(hw.new (stE k L b) (by simp) g (Ent.bag_fp.2 ⟨.fz k.w0,by simp,Ent.fz_fp.2 hg⟩)).elim (fun h=>h.elim) id
 have hnew2:∀g,(st2 k (sG k.gl k.Y.n) L b).fp g→w.heap.size≤g:=fun g hg=>by
  obtain ⟨e,he,hg⟩:=Ent.bag_fp.1 hg;exact (hw.new (stE k L b) (by simp) g (Ent.bag_fp.2 ⟨e,by simp at he ⊢;rcases he with h|h <;> simp [h],hg⟩)).elim (fun h=>h.elim) id
 refine ⟨⟨fun g=>F0.S g∨IsC k.w0 g,w',fun g hg=>?_⟩,fun g hg=>⟨.inr hg,hf' g hg⟩,⟨fun g hg=>⟨.inl hg,hF' g hg⟩,fun g _=>rfl,?_,fun g hg=>hg.imp id (fun h=> .inr (hnew g h)),fun e he g hg hS=>?_⟩⟩
 ·rcases hg with hg|hg
  ·exact hF'.cb hg
  ·obtain ⟨cs,t,q,e⟩:=hg;exact ⟨cs,t,q,(hf' g ⟨cs,t,q,e⟩).trans e⟩
 ·rw [zgl];refine ⟨hw.os,hw.tape,hw.output,hw.size,hw.base,fun e he=>?_,fun e he g hg=>?_,List.pairwise_singleton _ _⟩
  ·simp at he;subst he;exact Ent.bag_ok.2 ⟨fun e he=>h1 e (by simp at he ⊢;rcases he with h|h <;> simp [h]),a1⟩
  ·simp at he;subst he;exact .inr (hnew2 g hg)
 ·simp at he;subst he;rcases hS with hS|hS
  ·have:=(hF.cb hS).lt;have:=hnew2 g hg;omega
  ·obtain ⟨e,he,hg⟩:=Ent.bag_fp.1 hg;exact a3 e he (.fz k.w0) (by simp) g hg (Ent.fz_fp.2 hS)
theorem zl1 {vd vp vl vc : Value} {cd : List (List Value)} (hF0 : F0.At w) (h : PbF F0 vd cd vp vl vc p) (htab : Tab w) (hv : okG p = true) {fuel : Nat} (hf : 100000 ≤ fuel) {r : List GDomain × Bool} (hr : zaZ fuel p p.Domains = some r) :
    Calls Tryz.prog 40 #[.agg [vd, vp, vl, vc].toArray] w fun e w' => ∃ (y : SK × Value × Ws) (G : Frz), (SI p r y.1 y.2.2 ∧ TbF G y.1) ∧ e = .returned (.tuple #[.pointer (some ⟨y.1.sp, 0, none⟩), .int .i64 0]) ∧ FxM F0 w (fps []) G [st2 y.1 y.2.1 y.2.2 (!r.2)] w' := by
  refine (zmu hF0 h htab hv hf hr).mono ?_; rintro e w' ⟨⟨k, L⟩, hs, rfl, hw⟩; obtain ⟨G, h1, h2⟩ := zls hF0 hs hw; exact ⟨(k, sG k.gl k.Y.n, L), G, ⟨hs, h1⟩, rfl, h2⟩
theorem zlj (h : SI p m k L) (tf : TbF F k) (hok : (st2 k v L (!m.2)).ok w) (hF : F.At w) (htab : Tab w) : Calls Tryz.prog 52 #[.pointer (some ⟨k.sp, 0, none⟩)] w fun e w' => ∃ (y : SK × Value) (G : Frz), (SI p m y.1 L ∧ TbF G y.1) ∧ e = .returned (.pointer (some ⟨y.1.sp, 0, none⟩)) ∧ FxM F w (fps []) G [st2 y.1 y.2 L (!m.2)] w' := by
  have hs := zfl h hok (tf.fz hF) htab; have h1 := (Ent.bag_ok.1 hok).1; have hr := h1 (.row k.sp 116 [.pointer (some ⟨k.tp, 0, none⟩), v, .bool (!m.2)]) (by simp); have hl := h1 (.sl v 88 1 k.Y.n (Ws.cells L)) (by simp); have hn := h.n512
  -- what is there is frozen for the time of the call
  have hC : SlC (Frz.all w) v 1 (L.map Le) := by
    have hl2 := hl; rw [← ze6] at hl2; exact (SlK.ent (G := Frz.all w) hl2 rfl (fun g _ hc => hc)).toF h.len.symm (fun _ => rfl)
  haveI := hC.oneC; refine Calls.mono (R := fun e w' => ∃ (y : Nat × Value), OneC y.2 ∧ e = .returned (.pointer (some ⟨y.1, 0, none⟩)) ∧ Hp w (fun _ => False) [.row y.1 116 [.pointer (some ⟨k.tp, 0, none⟩), y.2, .bool (!m.2)], .sl y.2 88 1 k.Y.n (Ws.cells L)] w') ?_ ?_
  · obtain ⟨S0, F1, hF1, hS0, hp0⟩ := zau (Frz.all_at w); rw [← hF1] at hC; refine zac (M := fun _ => False) (hs := [.fr F1]) Tryz.func52 rfl rfl rfl hp0 ?_; refine T.sr ?_; refine TL.run 1 rfl ?_; refine TL.ns (T.seq (T.sr ?_)); refine TL.run 1 rfl ?_; refine TL.e (Ew.af rfl rfl rfl (fun w' hw => zbI k.sp k.Y L (!m.2) w' (hs.kept hw))) ?_; rintro _ _ ⟨rfl, rfl⟩; refine TL.ns ?_; refine T.aI rfl rfl ?_; refine T.skip (K.seq (T.seq ?_)); refine T.aq (.still 0 (.still 1 (.still 2 (.still 3 (.still 4 (.still 5 (.still 6 (.still 7 (.still 9 (.still 10 (.still 11 (.still 12 (.eff 8 (.still 13 (.eff 14 (.still 15 .done)))))))))))))))) [.fr F1] (by kernel_rfl) (List.Sublist.refl _) ?_; refine TS.run 2 rfl ?_; refine TS.y rfl (Yv.fieldAddr rfl rfl) ?_; refine TS.y rfl (Yv.au rfl rfl (zb9 (i := 0) hr rfl) (fun h => h)) ?_; refine TS.run 2 rfl ?_; refine TS.y rfl (Yv.fieldAddr rfl rfl) ?_; refine TS.y rfl (Yv.au rfl rfl (zb9 (i := 1) hr rfl) (fun h => h)) ?_; refine TS.run 2 rfl ?_; refine TS.y rfl (Yv.fieldAddr rfl rfl) ?_; refine TS.y rfl (Yv.au rfl rfl (zb9 (i := 2) hr rfl) (fun h => h)) ?_; refine TS.slNil 88 1 ?_; refine TS.eff ?_; refine TSo.aF rfl (Wt.none rfl) rfl rfl (Ew.bw 0 1 (F := F1) (k' := k.Y.n) (l' := Ws.cells L) (zhH (enc := Le) (fun x => inferInstanceAs (OneCs [U x]))) rfl rfl rfl rfl rfl hC (by rw [List.length_map, h.len]; omega) (by rw [List.nil_append, ← List.flatMap_def, ze6]) (by omega) (by decide)) ?_; rintro v' _ ⟨hv', rfl⟩; refine ⟨fun w hw => hw.sub (List.sublist_cons_self _ _), ?_⟩; refine TS.y rfl (Yv.build rfl rfl) ?_; refine TS.eff ?_; refine TSo.aF rfl (Wt.none rfl) rfl rfl (Ew.aC rfl rfl) ?_; rintro _ _ ⟨g, rfl, rfl⟩; refine ⟨fun w hw => hw.sub Sx, ?_⟩; refine TS.run 1 rfl ?_; refine TS.done ?_; refine K.seq (T.ret ?_); exact K.ag rfl rfl (fun w' hw => ⟨(g, v'), hv', rfl, hw.sub Sx⟩)
  · rintro e w' ⟨⟨g, v'⟩, hv', rfl, hw⟩; refine ⟨({ k with sp := g }, v'), F, ⟨h.sp g, tf⟩, rfl, ⟨Frz.Le.refl _, hF.below hw.isBelow, ?_, fun g hg => .inl hg, fun e he q hq hS => ?_⟩⟩
    · rw [zgl]; exact zhF hw
    · simp at he; subst he; have h2 := (zhF hw).new _ (by simp) q hq; have := (hF.cb hS).lt; rcases h2 with h2 | h2
      · exact h2
      · omega
end
abbrev vI (z:Int):Value:= .int .i64 z
abbrev Vec (n:Nat)(α:Type):={ l:List α // l.length=n }
def Vec.fill {α:Type}(n:Nat)(v:α):Vec n α:=⟨List.replicate n v,List.length_replicate⟩
instance {n:Nat} {α:Type} [Inhabited α]:Inhabited (Vec n α):=⟨Vec.fill n default⟩
def Vec.get {n:Nat}{α:Type}[Inhabited α](x:Vec n α)(i:Nat):α:=nth x.1 i
def Vec.put {n:Nat}{α:Type}(x:Vec n α)(i:Nat)(v:α):Vec n α:=⟨x.1.set i v,by rw [List.length_set,x.2]⟩
theorem Vec.get_fill {α:Type}[Inhabited α]{n i:Nat}{v:α}(h:i<n):(Vec.fill n v).get i=v:=by
 unfold Vec.get Vec.fill;rw [zap (by simpa using h)];simp
theorem Vec.get_put {α:Type}[Inhabited α]{n i j:Nat}{x:Vec n α}{v:α}(h:i<n):(x.put i v).get j=if j=i then v else x.get j:=by
 unfold Vec.get Vec.put; (have hx:i<x.1.length:=by rw [x.2];exact h);unfold nth;rw [List.getD_eq_getElem?_getD,List.getD_eq_getElem?_getD];by_cases e:j=i
 ·rw [if_pos e,e,List.getElem?_set_self hx];rfl
 ·rw [if_neg e,List.getElem?_set_ne (fun h=>e h.symm)]
section
variable {α:Type}[Inhabited α]{n i j m p:Nat}{x:Vec n α}{f:α→Value}{a b l r:List Value}{v:Value}
theorem Vec.len:(x.1.map f).length=n:=by rw [List.length_map,x.2]
theorem Vec.cell (h:i<n):(x.1.map f)[i]?=some (f (x.get i)):=by
 unfold Vec.get;rw [List.getElem?_map,List.getElem?_eq_getElem (by rw [x.2];exact h),zap (by rw [x.2];exact h)];rfl
theorem Vec.upd {v:α}(h:i<n):(x.1.map f).set i (f v)=(x.put i v).1.map f:=by
 show _=(x.1.set i v).map f
 rw [List.map_set]
theorem zb4 (hp:p=i)(h:l[i]?=some v):l[p]?=some v:=by rw [hp];exact h
theorem zfB {u:Value}(hp:p=i)(h:l.set i u=r):l.set p u=r:=by rw [hp];exact h
theorem zjE (ha:a.length=m)(hi:i<m)(h:a[i]?=some v):(a++b)[i]?=some v:=by
 rw [List.getElem?_append_left (by omega)];exact h
theorem zbR (ha:a.length=m)(h:b[j]?=some v):(a++b)[m+j]?=some v:=by
 rw [List.getElem?_append_right (by omega),ha,show m+j - m=j by omega];exact h
theorem zfn {u:Value}(ha:a.length=m)(h:b.set j u=r):(a++b).set (m+j) u=a++r:=by
 rw [List.set_append_right _ _ (by omega),ha,show m+j - m=j by omega,h]
theorem zc7 {k:Nat}(ha:a.length=m)(hb:b.length=k):(a++b).length=m+k:=by rw [List.length_append,ha,hb]
instance OneCs.vmap {β:Type} {g:β→Value} {y:List β} [h:∀z,OneC (g z)]:OneCs (y.map g):=⟨fun z hz=>by obtain ⟨b,_,rfl⟩:=List.mem_map.1 hz;exact (h b).h⟩
instance OneCs.cat [h:OneCs a] [k:OneCs b]:OneCs (a++b):=⟨fun z hz=>(List.mem_append.1 hz).elim (h.h z) (k.h z)⟩
end
section
variable {P:Program}{n:Nat}{B D:World}{M:Nat→Prop}{fs:SFs}{hs:HS}{o:Oper}{v:Value}
theorem Ew.bp {t:TypeId}{z l:List Value}[hT:TyZ P t z](ho:o.op= .alloc t)(hz:z=l):Ew P n B M fs hs o (fun v hs'=>∃g,v= .pointer (some ⟨g,0,none⟩)∧hs'= .row g t l :: hs):=by
 subst hz;exact Ew.alloc ho
theorem zgz {place:Nat→Option (Nat×Nat)}{l l1 m:List Value}{l2:Array Value}{i off size:Nat}{v:Value}{ps:List (Nat×Value)}(hp:place i=some (off,size))(hc:v.cells=m.toArray)(hs:m.length=size)(h1:zc9 l off m=l1)(hb:off+m.length≤l.length)(h2:Instr.fill place l1.toArray ps=some l2):Instr.fill place l.toArray ((i,v) :: ps)=some l2:=by
 obtain ⟨l2'⟩:=l2;haveI:Place place i off size:=⟨hp⟩;haveI:Cells v m:=⟨hc⟩;haveI:Splice l off m l1:=⟨h1,hb⟩;haveI:Fill place l1 ps l2':=⟨h2⟩;haveI:LenIs m size:=⟨hs⟩;exact (inferInstance:Fill place l ((i,v) :: ps) l2').h
theorem ziy {l r:List Value}{off:Nat}{v:Value}(h:off<l.length)(hr:l.set off v=r):zc9 l off [v]=r:=by
 rw [←hr];exact zex l off v h
theorem zix {a b m:List Value}(h:a.length=m.length):zc9 (a++b) 0 m=m++b:=by
 simp [zc9,←h]
theorem Yv.cm {t:TypeId}{ps:Array (Nat×Operand)}{vs:List (Nat×Value)}{z l0 l:List Value}[hS:TySt P t][hZ:TyZ P t z](ho:o.op= .build t ps)(hv:evPs fs ps.toList=some vs)(hz:z=l0)(hF:Instr.fill (zfg P t) l0.toArray vs=some l.toArray):Yv P n B M fs hs o (.agg l.toArray):=by
 subst hz;haveI:Fill (zfg P t) z vs l:=⟨hF⟩;exact Yv.build ho hv
end
section
variable {B:World}{M S0:Nat→Prop}{hs:HS}{F:FzB B M S0}
def FzB.addE {w:World}(F:FzB B M S0)(hF:F.toFrz.At w)(T:Nat→Prop)(hc:∀g,T g→Cb w g)(hb:∀g,T g→M g∨B.heap.size≤g):FzB B M S0 where
 S k:=F.S k∨T k
 w:=w
 c k hk:=hk.elim (fun h=>hF.cb h) (hc k)
 base k hk h1 h2:=by
  rcases hk with h|h
  ·rw [hF k h,F.base k h h1 h2]
  ·rcases hb k h with h3|h3
   ·exact absurd h3 h2
   ·omega
 new k hk:=hk.elim (F.new k) (fun h=> .inr (hb k h))
theorem Hp.freezeE {w : World} {i j : Nat} {e : Ent} (hw : Hp B M hs w) (hij : i ≠ j) (hi : hs[i]? = some (.fr F)) (hj : hs[j]? = some e) (hc : ∀ g, e.fp g → Cb w g) :
    ∃ G : FzB B M S0, F.toFrz.Le G.toFrz ∧ (∀ w', G.toFrz.At w' → e.ok w') ∧ Hp B M ((hs.set i (.fr G)).eraseIdx j) w := by
  have hF := hw.fr hi; have hb := hw.new e (List.mem_of_getElem? hj); refine ⟨F.addE hF e.fp hc hb, fun k hk => ⟨.inl hk, hF k hk⟩, fun w' hw' => e.loc (fun g hg => hw' g (.inr hg)) (hw.get hj), ?_⟩; obtain ⟨r, h1, h2⟩ := zdM (a' := .fr (F.addE hF e.fp hc hb)) hij hi hj; refine Hp.perm ?_ h2.symm; refine Hp.repl (hw.perm h1) ?_ ?_ (List.pairwise_singleton _ _)
  · intro x hx; simp at hx; subst hx; exact Ent.fr_ok.2 (fun k hk => rfl)
  · intro x hx k hk; simp at hx; subst hx; have h := Ent.fr_fp.1 hk; rcases h.1 with h3 | h3
    · exact ⟨_, by simp, Ent.fr_fp.2 ⟨h3, h.2⟩⟩
    · exact ⟨e, by simp, h3⟩
end
theorem zmg {k:SK}{v:Value}{L:Ws}{b:Bool}{w:World}(h:(st2 k v L b).ok w):∀g,(st2 k v L b).fp g→Cb w g:=fun g hg=>by
 have h1:=(Ent.bag_ok.1 h).1;obtain ⟨e,he,hg⟩:=Ent.bag_fp.1 hg;simp at he;rcases he with rfl|rfl
 ·have:=Ent.row_fp.1 hg;subst this;exact ⟨_,_,_,Ent.row_ok.1 (h1 _ (List.mem_cons_self ..))⟩
 ·have h2:=Ent.sl_fp.1 hg;rcases (Ent.sl_ok.1 (h1 (.sl v 88 1 k.Y.n (Ws.cells L)) (by simp))).2 with ⟨rfl,_⟩|⟨g',cap,cur,rfl,_,hgg,_⟩
  ·cases h2
  ·simp [Value.ownBlock] at h2;subst h2;exact ⟨_,_,_,hgg⟩
def SzF (F:Frz)(k:SK)(v:Value)(L:Ws)(b:Bool):Prop:=∀w,F.At w→(st2 k v L b).ok w
theorem SzF.mono {F G:Frz}{k:SK}{v:Value}{L:Ws}{b:Bool}(h:SzF F k v L b)(hle:F.Le G):SzF G k v L b:=fun w hw=>h w (hw.le hle)
theorem Hp.freezeSt {B w : World} {M S0 : Nat → Prop} {hs : HS} {F : FzB B M S0} {i j : Nat} {k : SK} {v : Value} {L : Ws} {b : Bool} (hw : Hp B M hs w) (hij : i ≠ j) (hi : hs[i]? = some (.fr F)) (hj : hs[j]? = some (st2 k v L b)) :
    ∃ G : FzB B M S0, (F.toFrz.Le G.toFrz ∧ SzF G.toFrz k v L b) ∧ Hp B M ((hs.set i (.fr G)).eraseIdx j) w := by
  obtain ⟨G, h1, h2, h3⟩ := hw.freezeE hij hi hj (zmg (hw.get hj)); exact ⟨G, ⟨h1, h2⟩, h3⟩
def R_List_GChoice.rep (F:Frz)(c:List Value)(x:List GChoice):Prop:=∃(v0:Value),c=[v0]∧SlC F v0 2 (x.map GChoice.enc)
theorem R_List_GChoice.mono {F G:Frz}{c:List Value}{x:List GChoice}(hle:F.Le G)(h:R_List_GChoice.rep F c x):R_List_GChoice.rep G c x:=by
 obtain ⟨v0,h0,h1⟩:=h;exact ⟨v0,h0,h1.mono hle⟩
theorem R_List_GChoice.len {F:Frz}{c:List Value}{x:List GChoice}(h:R_List_GChoice.rep F c x):c.length=1:=by
 obtain ⟨v0,h0,h1⟩:=h;subst h0;rfl
theorem R_List_GChoice.one {F:Frz}{c:List Value}{x:List GChoice}(h:R_List_GChoice.rep F c x):OneCs c:=by
 obtain ⟨v0,h0,h1⟩:=h;subst h0;haveI:=h1.oneC
 infer_instance
theorem R_List_GChoice.c0 {F:Frz}{c:List Value}{x:List GChoice}(h:R_List_GChoice.rep F c x):c[0]?=some (nth c 0)∧SlC F (nth c 0) 2 (x.map GChoice.enc):=by
 obtain ⟨v0,h0,h1⟩:=h;subst h0;exact ⟨rfl,h1⟩
theorem R_List_GChoice.form {F:Frz}{c:List Value}{x:List GChoice}(h:R_List_GChoice.rep F c x):(c.drop 0).take 1=[nth c 0]:=by
 obtain ⟨v0,h0,h1⟩:=h;subst h0;rfl
def zb0 (p:GProblem)(g_:List GChoice):Option Bool:=
 (zbN p).bind fun r8=>
 (bif ((!r8)||(!(zaK g_))) then
  some false
  else
  zaw (fun (_:Unit)=>
   some true)
  (fun k3=>
   zal (fun (i_5:Nat) (next4:Unit→Option Bool) (_:Unit)=>
    zaw (fun (x_7:Bool)=>
     (bif x_7 then
      some false
      else
      next4 ()))
    (fun k8=>
     (bif decide ((zad p ((nth g_ i_5).Station))<0) then
      k8 true
      else
      grd (0≤(zad p ((nth g_ i_5).Station))∧(zad p ((nth g_ i_5).Station))<(p.Domains.length:Int)) <|
      k8 (!(zbc ((nth p.Domains ((zad p ((nth g_ i_5).Station)).toNat)).Channels) ((nth g_ i_5).Channel))))))
   (fun (_:Unit)=>
    k3 ()) (g_.length - 0) 0 ()))
theorem zgr (F0:Frz)(w:World)(hF0:F0.At w)(p:GProblem)(vp_0:Value)(cp_0:List (List Value))(hp_0:SlD GDomain.rep F0 vp_0 2 cp_0 p.Domains)(vp_1:Value)(hp_1:SlC F0 vp_1 5 (p.Rules.Pairs.map GPair.enc))(vp_2:Value)(hp_2:SlC F0 vp_2 5 (p.Rules.Loads.map GLoad.enc))(vp_3:Value)(hp_3:SlC F0 vp_3 4 (p.Rules.Caps.map GCap.enc))(g_:List GChoice)(vg_:Value)(hg_:SlC F0 vg_ 2 (g_.map GChoice.enc))(r:Bool)(hr:zb0 p g_=some r):Calls Tryz.prog 24 #[.agg [vp_0,vp_1,vp_2,vp_3].toArray,vg_] w fun e w'=>e= .returned (.bool r)∧Below w.heap.size w w':=by
 have hk:=hr;unfold zb0 at hk;haveI:=hp_0.1.oneC;haveI:=hp_1.oneC;haveI:=hp_2.oneC;haveI:=hp_3.oneC;haveI:=hg_.oneC;obtain ⟨S0,F1,rfl,hS0,hp0⟩:=zau hF0;refine zac Tryz.func24 rfl rfl rfl hp0 ?_;refine T.sr ?_;refine TL.e (Ew.aC rfl rfl) ?_;rintro _ _ ⟨g2,rfl,rfl⟩;refine TL.run 1 rfl ?_;refine TL.ns (T.seq (T.seq ?_));have hq:=zah hk;clear hk;obtain ⟨r8,hr8,hk⟩:=hq; (try dsimp only at hk);refine T.am (ι:=Unit) (fun z=>[(1,vg_),(2, .pointer (some ⟨g2,0,none⟩)),(14, .bool ((!r8)||(!(zaK g_))))]) (fun z=>[.row g2 29 [vp_0,vp_1,vp_2,vp_3], .fr F1]) (fun z=>True) ?_ ?_
 ·refine T.region ?_;refine TL.y (Yv.al 0 rfl rfl rfl rfl) ?_;refine TL.e (Ew.af rfl rfl rfl (fun w hw=>zep _ w (hw.fr (i:=1) rfl) p vp_0 cp_0 hp_0 vp_1 hp_1 vp_2 hp_2 vp_3 hp_3 r8 hr8)) ?_;rintro _ _ ⟨rfl,rfl⟩;refine TL.run 2 rfl ?_;refine TL.gs rfl rfl rfl (fun h1=>?_) (fun h1=>?_)
  ·refine TL.run 4 rfl ?_;refine TL.nil ?_;exact K.aj () trivial (.c (.c (.b (zby h1).symm .nil))) (List.Sublist.refl _)
  ·refine TL.run 1 rfl ?_;refine TL.e (Ew.af rfl rfl rfl (fun w hw=>zcZ _ w (hw.fr (i:=1) rfl) g_ vg_ hg_)) ?_;rintro _ _ ⟨rfl,rfl⟩;refine TL.run 2 rfl ?_;refine TL.nil ?_;exact K.aj () trivial (.c (.c (.b (or_f h1) .nil))) (List.Sublist.refl _)
 ·rintro _ _;refine T.cond rfl (fun h2=>?_) (fun h2=>?_)
  ·replace hk:=zab hk h2;refine T.sr ?_;refine TL.run 1 rfl ?_;refine TL.ns (T.ret (K.aa ?_));obtain rfl:=Option.some.inj hk;exact K.ag rfl rfl (fun w' hw=>⟨rfl,hw.isBelow⟩)
  ·replace hk:=zaa hk h2;refine T.skip (K.seq (T.seq (T.sr ?_)));refine TL.run 1 rfl ?_;refine TL.ns ?_;have hq:=zai hk;clear hk;obtain ⟨k3,hk3,hk⟩:=hq; (try dsimp only at hk);refine T.am (ι:=Unit) (fun z=>[]) (fun z=>[.fr F1]) (fun z=>k3 ()=some r) ?_ ?_
   ·have hq:=zar hk;clear hk;obtain ⟨f4,kk4,hf4,hkk4,hk⟩:=hq;refine T.block ?_;refine T.loop (ι:=Nat) (fun z=>[(1,vg_),(2, .pointer (some ⟨g2,0,none⟩)),(5, .int .i64 (z:Int))]) (fun z=>[.row g2 29 [vp_0,vp_1,vp_2,vp_3], .fr F1]) (fun z=>zal f4 kk4 (g_.length - z) z ()=some r) (fun z=>g_.length - z) 0 ?_ ?_ ?_ ?_
    ·exact hk
    ·exact (.c (.c (.c .nil)))
    ·exact List.Sublist.refl _
    ·rintro i_5 hk;refine T.seq (T.sr ?_);refine TL.run 2 rfl ?_;refine TL.y (Yv.ax rfl rfl hg_ (List.length_map _)) ?_;have hm17:g_.length≤9223372036854775807:=(List.length_map _)▸hg_.max;refine TL.run 1 rfl ?_;refine TL.ns ?_;refine T.cond rfl (fun h6=>?_) (fun h6=>?_)
     ·have p6:=of_decide_eq_true h6;rw [zaD (by omega)] at hk;generalize hn4:zal f4 kk4 (g_.length - (i_5+1)) (i_5+1)=next4 at hk;rw [←hf4] at hk; (try dsimp only at hk);refine T.skip (K.seq (T.seq (T.block (T.seq ?_))));refine T.aq (.still 0 (.still 1 (.still 2 (.still 3 (.still 4 (.still 5 (.eff 6 (.still 7 .done)))))))) _ (by kernel_rfl) (List.Sublist.refl _) ?_;refine TS.y rfl (Yv.al 0 rfl rfl rfl rfl) ?_;refine TS.run 2 rfl ?_;refine TS.y rfl (Yv.aw (i:=i_5) rfl rfl rfl hg_ (List.length_map _) rfl (by omega)) ?_;refine TS.y rfl (Yv.aR rfl rfl hg_ (List.length_map _) (by omega)) ?_;refine TS.y rfl (Yv.aE 1 (i:=i_5) (j:=0) rfl rfl rfl hg_ (by omega) rfl rfl) ?_;refine TS.eff ?_;refine TSo.aF rfl (Wt.none rfl) rfl rfl (Ew.af rfl rfl rfl (fun w hw=>zbU _ w (hw.fr (i:=1) rfl) p vp_0 cp_0 hp_0 vp_1 hp_1 vp_2 hp_2 vp_3 hp_3 ((nth g_ i_5).Station))) ?_;rintro _ _ ⟨rfl,rfl⟩;refine ⟨(fun w hw=>hw.sub Sx),?_⟩;refine TS.run 1 rfl ?_;refine TS.done ?_;refine K.seq (T.seq ?_); (try dsimp only at hk);have hq:=zai hk;clear hk;obtain ⟨k8,hk8,hk⟩:=hq; (try dsimp only at hk);refine T.am (ι:=Bool) (fun z=>[(1,vg_),(2, .pointer (some ⟨g2,0,none⟩)),(5, .int .i64 (i_5:Int)),(44, .bool z)]) (fun z=>[.row g2 29 [vp_0,vp_1,vp_2,vp_3], .fr F1]) (fun z=>k8 z=some r) ?_ ?_
      ·refine T.aq (.still 0 (.still 1 (.still 2 (.still 3 (.still 4 (.still 5 (.still 6 (.still 7 (.still 8 (.still 9 (.still 10 (.still 11 (.still 12 (.still 13 (.eff 14 (.still 15 (.still 16 .done))))))))))))))))) _ (by kernel_rfl) (List.Sublist.refl _) ?_;refine TS.run 3 rfl ?_;refine TS.gs rfl rfl rfl rfl (fun h9=>?_) (fun h9=>?_)
       ·have p9:=of_decide_eq_true h9;replace hk:=zab hk h9;refine TS.run 11 rfl ?_;refine TS.eff ?_;refine TSo.off rfl (Wt.not rfl rfl rfl rfl) rfl rfl ?_;refine TS.run 2 rfl ?_;refine TS.done ?_;exact K.aj true hk (.c (.c (.c (.c .nil)))) (List.Sublist.refl _)
       ·have p9:=of_decide_eq_false h9;replace hk:=zaa hk h9;refine TS.y rfl (Yv.fieldAddr rfl rfl) ?_;refine TS.y rfl (Yv.ac 0 rfl rfl rfl rfl) ?_;refine TS.run 1 rfl ?_;have hq:(0≤(zad p ((nth g_ i_5).Station))∧(zad p ((nth g_ i_5).Station))<(p.Domains.length:Int))∧_:=zaE hk;clear hk;obtain ⟨g34,hk⟩:=hq;refine TS.y rfl (Yv.aw (i:=(zad p ((nth g_ i_5).Station)).toNat) rfl rfl rfl hp_0.1 hp_0.2.1 (by omega) (by omega)) ?_;refine TS.y rfl (Yv.aR rfl rfl hp_0.1 hp_0.2.1 (by omega)) ?_;refine TS.y rfl (Yv.loadR 1 (i:=(zad p ((nth g_ i_5).Station)).toNat) (j:=1) rfl rfl rfl hp_0.1 hp_0.2.1 (by omega) rfl (GDomain.c1 (hp_0.2.2 ((zad p ((nth g_ i_5).Station)).toNat) (by omega))).1) ?_;have hd36_1:=(GDomain.c1 (hp_0.2.2 ((zad p ((nth g_ i_5).Station)).toNat) (by omega))).2;haveI:=hd36_1.oneC;refine TS.run 2 rfl ?_;refine TS.y rfl (Yv.aw (i:=i_5) rfl rfl rfl hg_ (List.length_map _) rfl (by omega)) ?_;refine TS.y rfl (Yv.aR rfl rfl hg_ (List.length_map _) (by omega)) ?_;refine TS.y rfl (Yv.aE 1 (i:=i_5) (j:=1) rfl rfl rfl hg_ (by omega) rfl rfl) ?_;refine TS.eff ?_;refine TSo.aF rfl (Wt.some rfl rfl rfl rfl) rfl rfl (Ew.af rfl rfl rfl (fun w hw=>zff _ w (hw.fr (i:=1) rfl) ((nth p.Domains ((zad p ((nth g_ i_5).Station)).toNat)).Channels) (nth (nth cp_0 ((zad p ((nth g_ i_5).Station)).toNat)) 1) hd36_1 ((nth g_ i_5).Channel))) ?_;rintro _ _ ⟨rfl,rfl⟩;refine ⟨(fun w hw=>hw.sub Sx),?_⟩;refine TS.run 2 rfl ?_;refine TS.done ?_;exact K.aj (!(zbc ((nth p.Domains ((zad p ((nth g_ i_5).Station)).toNat)).Channels) ((nth g_ i_5).Channel))) hk (.c (.c (.c (.c .nil)))) (List.Sublist.refl _)
      ·rintro x_7 hk;rw [←hk8] at hk; (try dsimp only at hk);refine T.cond rfl (fun h10=>?_) (fun h10=>?_)
       ·replace hk:=zab hk h10;refine T.sr ?_;refine TL.run 1 rfl ?_;refine TL.ns (T.ret (K.ah (K.aa (K.aa (K.ah (K.aa ?_))))));obtain rfl:=Option.some.inj hk;exact K.ag rfl rfl (fun w' hw=>⟨rfl,hw.isBelow⟩)
       ·replace hk:=zaa hk h10;refine T.skip (K.ad (K.seq (T.region ?_)));refine TL.run 1 rfl ?_;refine TL.y (Yv.an rfl rfl rfl (by omega)) ?_;refine TL.run 1 rfl ?_;refine TL.nil ?_;rw [←hn4] at hk;exact K.next (i_5+1) hk (by omega) (.c (.c (.c .nil))) (List.Sublist.refl _)
     ·have p6:=of_decide_eq_false h6;rw [zaF (by omega),←hkk4] at hk; (try dsimp only at hk);refine T.exit (K.ab (K.ab (K.ae ?_)));refine K.pick [1] rfl (by decide) ?_;exact K.aj () hk .nil (List.Sublist.refl _)
   ·rintro _ hk;rw [←hk3] at hk; (try dsimp only at hk);refine T.sr ?_;refine TL.run 1 rfl ?_;refine TL.ns (T.ret ?_);obtain rfl:=Option.some.inj hk;exact K.ag rfl rfl (fun w' hw=>⟨rfl,hw.isBelow⟩)
def zbE (a:List (List GChoice))(b:List (List GChoice)):Bool:=
 (bif decide (¬(a.length:Int)=(b.length:Int)) then
  false
  else
  zaw (fun (_:Unit)=>
   true)
  (fun k2=>
   zal (fun (i_4:Nat) (next3:Unit→Bool) (_:Unit)=>
    (bif !(zbj (nth a i_4) (nth b i_4)) then
     false
     else
     next3 ()))
   (fun (_:Unit)=>
    k2 ()) (a.length - 0) 0 ()))
theorem zgI (F0:Frz)(w:World)(hF0:F0.At w)(a:List (List GChoice))(va:Value)(ca:List (List Value))(ha:SlD R_List_GChoice.rep F0 va 1 ca a)(b:List (List GChoice))(vb:Value)(cb:List (List Value))(hb:SlD R_List_GChoice.rep F0 vb 1 cb b):Calls Tryz.prog 33 #[va,vb] w fun e w'=>e= .returned (.bool (zbE a b))∧Below w.heap.size w w':=by
 obtain ⟨r,hk⟩:∃r,zbE a b=r:=⟨_,rfl⟩;rw [hk];unfold zbE at hk;haveI:=ha.1.oneC;haveI:=hb.1.oneC;obtain ⟨S0,F1,rfl,hS0,hp0⟩:=zau hF0;refine zac Tryz.func33 rfl rfl rfl hp0 ?_;refine T.sr ?_;refine TL.run 1 rfl ?_;refine TL.ns (T.seq (T.sr ?_));refine TL.run 1 rfl ?_;refine TL.y (Yv.ax rfl rfl ha.1 ha.2.1) ?_;have hm7:a.length≤9223372036854775807:=ha.2.1▸ha.1.max;refine TL.run 1 rfl ?_;refine TL.y (Yv.ax rfl rfl hb.1 hb.2.1) ?_;have hm9:b.length≤9223372036854775807:=hb.2.1▸hb.1.max;refine TL.run 1 rfl ?_;refine TL.ns ?_;refine T.cond rfl (fun h1=>?_) (fun h1=>?_)
 ·have p1:=of_decide_eq_true h1;replace hk:=zab hk h1;refine T.sr ?_;refine TL.run 1 rfl ?_;refine TL.ns (T.ret (K.aa ?_));subst hk;exact K.ag rfl rfl (fun w' hw=>⟨rfl,hw.isBelow⟩)
 ·have p1:=of_decide_eq_false h1;replace hk:=zaa hk h1;refine T.skip (K.seq (T.seq (T.sr ?_)));refine TL.run 1 rfl ?_;refine TL.ns ?_;have hq:=zai hk;clear hk;obtain ⟨k2,hk2,hk⟩:=hq; (try dsimp only at hk);refine T.am (ι:=Unit) (fun z=>[]) (fun z=>[.fr F1]) (fun z=>k2 ()=r) ?_ ?_
  ·have hq:=zar hk;clear hk;obtain ⟨f3,kk3,hf3,hkk3,hk⟩:=hq;refine T.block ?_;refine T.loop (ι:=Nat) (fun z=>[(0,va),(1,vb),(5, .int .i64 (z:Int))]) (fun z=>[.fr F1]) (fun z=>zal f3 kk3 (a.length - z) z ()=r) (fun z=>a.length - z) 0 ?_ ?_ ?_ ?_
   ·exact hk
   ·exact (.c (.c (.c .nil)))
   ·exact List.Sublist.refl _
   ·rintro i_4 hk;refine T.seq (T.sr ?_);refine TL.run 2 rfl ?_;refine TL.y (Yv.ax rfl rfl ha.1 ha.2.1) ?_;refine TL.run 1 rfl ?_;refine TL.ns ?_;refine T.cond rfl (fun h5=>?_) (fun h5=>?_)
    ·have p5:=of_decide_eq_true h5;rw [zaD (by omega)] at hk;generalize hn3:zal f3 kk3 (a.length - (i_4+1)) (i_4+1)=next3 at hk;rw [←hf3] at hk; (try dsimp only at hk);refine T.skip (K.seq (T.seq (T.block (T.seq ?_))));refine T.aq (.still 0 (.still 1 (.still 2 (.still 3 (.still 4 (.still 5 (.still 6 (.still 7 (.eff 8 (.still 9 .done)))))))))) _ (by kernel_rfl) (List.Sublist.refl _) ?_;refine TS.run 2 rfl ?_;refine TS.y rfl (Yv.aw (i:=i_4) rfl rfl rfl ha.1 ha.2.1 rfl (by omega)) ?_;refine TS.y rfl (Yv.loadR 0 (i:=i_4) (j:=0) rfl rfl rfl ha.1 ha.2.1 (by omega) rfl (R_List_GChoice.c0 (ha.2.2 i_4 (by omega))).1) ?_;have hd20_0:=(R_List_GChoice.c0 (ha.2.2 i_4 (by omega))).2;haveI:=hd20_0.oneC;refine TS.run 2 rfl ?_;refine TS.y rfl (Yv.aw (i:=i_4) rfl rfl rfl hb.1 hb.2.1 rfl (by omega)) ?_;refine TS.y rfl (Yv.loadR 0 (i:=i_4) (j:=0) rfl rfl rfl hb.1 hb.2.1 (by omega) rfl (R_List_GChoice.c0 (hb.2.2 i_4 (by omega))).1) ?_;have hd24_0:=(R_List_GChoice.c0 (hb.2.2 i_4 (by omega))).2;haveI:=hd24_0.oneC;refine TS.eff ?_;refine TSo.aF rfl (Wt.none rfl) rfl rfl (Ew.af rfl rfl rfl (fun w hw=>zeR _ w (hw.fr (i:=0) rfl) (nth a i_4) (nth (nth ca i_4) 0) hd20_0 (nth b i_4) (nth (nth cb i_4) 0) hd24_0)) ?_;rintro _ _ ⟨rfl,rfl⟩;refine ⟨(fun w hw=>hw.sub Sx),?_⟩;refine TS.run 1 rfl ?_;refine TS.done ?_;refine K.seq ?_;refine T.cond rfl (fun h6=>?_) (fun h6=>?_)
     ·replace hk:=zab hk h6;refine T.sr ?_;refine TL.run 1 rfl ?_;refine TL.ns (T.ret (K.ah (K.aa (K.aa (K.ah (K.aa ?_))))));subst hk;exact K.ag rfl rfl (fun w' hw=>⟨rfl,hw.isBelow⟩)
     ·replace hk:=zaa hk h6;refine T.skip (K.ad (K.seq (T.region ?_)));refine TL.run 1 rfl ?_;refine TL.y (Yv.an rfl rfl rfl (by omega)) ?_;refine TL.run 1 rfl ?_;refine TL.nil ?_;rw [←hn3] at hk;exact K.next (i_4+1) hk (by omega) (.c (.c (.c .nil))) (List.Sublist.refl _)
    ·have p5:=of_decide_eq_false h5;rw [zaF (by omega),←hkk3] at hk; (try dsimp only at hk);refine T.exit (K.ab (K.ab (K.ae ?_)));exact K.aj () hk .nil (List.Sublist.refl _)
  ·rintro _ hk;rw [←hk2] at hk; (try dsimp only at hk);refine T.sr ?_;refine TL.run 1 rfl ?_;refine TL.ns (T.ret ?_);subst hk;exact K.ag rfl rfl (fun w' hw=>⟨rfl,hw.isBelow⟩)
def zb2 (fuel:Nat)(l:List (List GChoice))(most:Int):Option Bool:=
 zaw (fun (_:Unit)=>
  some (decide ((l.length:Int)≤most)))
 (fun k1=>
  zbD (fun (next3:Int→Option Bool) (i_2:Int)=>
   (bif ((decide (i_2<(l.length:Int)))&&(decide (i_2≤most))) then
    grd (0≤i_2∧i_2<(l.length:Int)) <|
    (bif decide (20<((nth l i_2.toNat).length:Int)) then
     some false
     else
     next3 (i_2+1))
    else
    k1 ())) fuel 0)
theorem zf8 (F0:Frz)(w:World)(hF0:F0.At w)(l:List (List GChoice))(vl:Value)(cl:List (List Value))(hl:SlD R_List_GChoice.rep F0 vl 1 cl l)(most:Int)(fuel:Nat)(r:Bool)(hr:zb2 fuel l most=some r):Calls Tryz.prog 34 #[vl, .int .i64 most] w fun e w'=>e= .returned (.bool r)∧Below w.heap.size w w':=by
 have hk:=hr;unfold zb2 at hk;haveI:=hl.1.oneC;obtain ⟨S0,F1,rfl,hS0,hp0⟩:=zau hF0;refine zac Tryz.func34 rfl rfl rfl hp0 ?_;refine T.sr ?_;refine TL.run 1 rfl ?_;refine TL.ns (T.seq (T.sr ?_));refine TL.run 1 rfl ?_;refine TL.ns ?_;have hq:=zai hk;clear hk;obtain ⟨k1,hk1,hk⟩:=hq; (try dsimp only at hk);refine T.am (ι:=Unit) (fun z=>[(0,vl),(1, .int .i64 most)]) (fun z=>[.fr F1]) (fun z=>k1 ()=some r) ?_ ?_
 ·have hq:=zcE hk;clear hk;obtain ⟨f3,hf3,hk⟩:=hq;refine T.block ?_;refine T.loop (ι:=Nat×Int) (fun z=>[(0,vl),(1, .int .i64 most),(5, .int .i64 z.2)]) (fun z=>[.fr F1]) (fun z=>zbD f3 z.1 z.2=some r) (fun z=>z.1) (fuel,0) ?_ ?_ ?_ ?_
  ·exact hk
  ·exact (.c (.c (.c .nil)))
  ·exact List.Sublist.refl _
  ·rintro ⟨m_4,i_2⟩ hk; (try dsimp only at *);have hq:=zcU hk;clear hk;obtain ⟨m_4',rfl,hk⟩:=hq;generalize hn3:zbD f3 m_4'=next3 at hk;rw [←hf3] at hk; (try dsimp only at hk);refine T.seq (T.seq ?_);refine T.am (ι:=Unit) (fun z=>[(0,vl),(1, .int .i64 most),(5, .int .i64 i_2),(14, .bool ((decide (i_2<(l.length:Int)))&&(decide (i_2≤most))))]) (fun z=>[.fr F1]) (fun z=>True) ?_ ?_
   ·refine T.region ?_;refine TL.run 2 rfl ?_;refine TL.y (Yv.ax rfl rfl hl.1 hl.2.1) ?_;have hm8:l.length≤9223372036854775807:=hl.2.1▸hl.1.max;refine TL.run 2 rfl ?_;refine TL.gs rfl rfl rfl (fun h5=>?_) (fun h5=>?_)
    ·have p5:=of_decide_eq_true h5;refine TL.run 4 rfl ?_;refine TL.nil ?_;exact K.aj () trivial (.c (.c (.c (.b (zeF h5) .nil)))) (List.Sublist.refl _)
    ·have p5:=of_decide_eq_false h5;refine TL.run 4 rfl ?_;refine TL.nil ?_;exact K.aj () trivial (.c (.c (.c (.b (zbh h5).symm .nil)))) (List.Sublist.refl _)
   ·rintro _ _;have hm8:l.length≤9223372036854775807:=hl.2.1▸hl.1.max;refine T.cond rfl (fun h6=>?_) (fun h6=>?_)
    ·have p6:=h6; (try simp only [nfB] at p6);replace hk:=zab hk h6;refine T.skip (K.seq (T.seq (T.block (T.seq ?_))));have hq:(0≤i_2∧i_2<(l.length:Int))∧_:=zaE hk;clear hk;obtain ⟨g19,hk⟩:=hq; (try dsimp only at hk);refine T.region ?_;refine TL.run 2 rfl ?_;refine TL.y (Yv.aw (i:=i_2.toNat) rfl rfl rfl hl.1 hl.2.1 (by omega) (by omega)) ?_;refine TL.y (Yv.loadR 0 (i:=i_2.toNat) (j:=0) rfl rfl rfl hl.1 hl.2.1 (by omega) rfl (R_List_GChoice.c0 (hl.2.2 i_2.toNat (by omega))).1) ?_;have hd20_0:=(R_List_GChoice.c0 (hl.2.2 i_2.toNat (by omega))).2;haveI:=hd20_0.oneC;refine TL.y (Yv.ax rfl rfl hd20_0 (List.length_map _)) ?_;have hm21:(nth l i_2.toNat).length≤9223372036854775807:=(List.length_map _)▸hd20_0.max;refine TL.run 1 rfl ?_;refine TL.ns ?_;refine T.cond rfl (fun h7=>?_) (fun h7=>?_)
     ·have p7:=of_decide_eq_true h7;replace hk:=zab hk h7;refine T.sr ?_;refine TL.run 1 rfl ?_;refine TL.ns (T.ret (K.ah (K.aa (K.aa (K.ah (K.aa ?_))))));obtain rfl:=Option.some.inj hk;exact K.ag rfl rfl (fun w' hw=>⟨rfl,hw.isBelow⟩)
     ·have p7:=of_decide_eq_false h7;replace hk:=zaa hk h7;refine T.skip (K.ad (K.seq (T.region ?_)));refine TL.run 1 rfl ?_;refine TL.y (Yv.an rfl rfl rfl (by omega)) ?_;refine TL.run 1 rfl ?_;refine TL.nil ?_;rw [←hn3] at hk;exact K.next (m_4',(i_2+1)) hk (by dsimp only;omega) (.c (.c (.c .nil))) (List.Sublist.refl _)
    ·replace hk:=zaa hk h6;refine T.exit (K.ab (K.ab (K.ae ?_)));exact K.aj () hk (.c (.c .nil)) (List.Sublist.refl _)
 ·rintro _ hk;rw [←hk1] at hk; (try dsimp only at hk);refine T.sr ?_;refine TL.run 1 rfl ?_;refine TL.y (Yv.ax rfl rfl hl.1 hl.2.1) ?_;have hm24:l.length≤9223372036854775807:=hl.2.1▸hl.1.max;refine TL.run 3 rfl ?_;refine TL.ns (T.ret ?_);obtain rfl:=Option.some.inj hk;exact K.ag rfl rfl (fun w' hw=>⟨rfl,hw.isBelow⟩)
section
variable {P:Program}{n:Nat}{B:World}{M:Nat→Prop}{fs:SFs}{hs:HS}{o:Oper}
theorem zcp {w:World}{v:Value}{e:TypeId}{size k:Nat}{l:List Value}(h:(Ent.sl v e size k l).ok w):k≤9223372036854775807:=by
 have ho:=Ent.sl_ok.1 h;rcases ho.2 with ⟨rfl,h0⟩|⟨g,cap,cur,rfl,hb,hg,hnc,hcm,hcs,htake⟩
 ·omega
 ·unfold maxLen at hcm;omega
theorem Ew.bF {t e:TypeId}{size bytes:Nat}{z:List Value}[hT:TyE P t e size bytes z](ho:o.op= .buildSlice t 0 #[]):Ew P n B M fs hs o (fun v hs'=>∃g,v= .slice (some ⟨g,0,none⟩) 0 0∧hs'= .sl (.slice (some ⟨g,0,none⟩) 0 0) e size 0 [] :: hs):=Ew.aZ fun a w ha hp=>by
 obtain ⟨i,zv,hU,hi,hz,hzc,rfl,rfl,hzs,hpos⟩:=hT.get;refine ⟨_,w.alloc (.cells #[] e),_,?_,Kp.alloc w _,hp.fresh ((Below.refl _ _).alloc (Nat.le_refl _) _) (Ent.sl_ok.2 (World.ownsRow_made (base:=0) (e:=e) (size:=i.size) w #[] 0 (Nat.zero_le _) (by unfold maxLen;omega) (by simp))) (fun g hg=>?_),w.heap.size,rfl,rfl⟩
 ·unfold execOp;simp [ho,Instr.buildSlice,underlying,hU,sizeOf,typeInfo,hi,Instr.fill,newRow];rw [show Array.range 0= #[] from by simp [Array.range]];simp
 ·have:=Ent.sl_fp.1 hg;simp [Value.ownBlock] at this;omega
end
section
variable {Fe:Fence}[hFe:Calm Fe]{P:Program}{n:Nat}{B D:World}{M S0:Nat→Prop}{Q:Exit→Act→World→Prop}{fs:SFs}{hs:HS}{ops:Array Oper}
theorem TL.aW {l:List Oper}{v:Value}{e:TypeId}{size k:Nat}{cs:List Value}(j:Nat)(hj:hs[j]?=some (.sl v e size k cs))(h:OneC v→k≤9223372036854775807→TL Fe P n B D M ops Q l fs hs):TL Fe P n B D M ops Q l fs hs:=
 TL.ba (ι:=Unit) (φ:=fun _=>OneC v∧k≤9223372036854775807) (hs':=fun _=>hs) (fun w hw=>⟨(),⟨zct (hw.get hj),zcp (hw.get hj)⟩,hw⟩) (fun _ hx=>h hx.1 hx.2)
theorem TS.aW {hs0:HS}{r:Ord}{v:Value}{e:TypeId}{size k:Nat}{cs:List Value}(j:Nat)(hj:hs[j]?=some (.sl v e size k cs))(h:OneC v→k≤9223372036854775807→TS Fe P n B D M ops Q hs0 r fs hs):TS Fe P n B D M ops Q hs0 r fs hs:=
 TS.ba (ι:=Unit) (φ:=fun _=>OneC v∧k≤9223372036854775807) (hs':=fun _=>hs) (fun w hw=>⟨(),⟨zct (hw.get hj),zcp (hw.get hj)⟩,hw⟩) (fun _ hx=>h hx.1 hx.2)
end
theorem zek (F0:Frz)(w:World)(hF0:F0.At w)(l:List GChoice)(vl:Value)(hl:SlC F0 vl 2 (l.map GChoice.enc))(hr:room l.length 16):Calls Tryz.prog 46 #[vl] w fun e w'=>∃v':Value,True∧e= .returned v'∧Hp w (fun _=>False) [.sl v' 50 2 l.length (l.flatMap GChoice.enc)] w':=by
 haveI:=hl.oneC;have hl0:=hl;obtain ⟨A,cap,hv,hlc,hcm,hcl,hcs⟩:=hl0;have hlen:(l.map GChoice.enc).length=l.length:=List.length_map _;obtain ⟨S0,F1,hF1,hS0,hp0⟩:=zau hF0
 cases hA:A with
 |none=>
  have h0:l=[]:=by
   cases l with
   |nil=>rfl
   |cons x r=>
    obtain ⟨g,off,h1,_⟩:=hcs (by simp);rw [hA] at h1;cases h1
  subst h0;refine zac (M:=fun _=>False) (hs:=[.fr F1]) Tryz.func46 rfl rfl rfl hp0 ?_;refine T.sr ?_;refine TL.run 1 rfl ?_;refine TL.ns (T.seq (T.sr ?_));refine TL.run 1 rfl ?_;refine TL.y (Yv.bK (v:= .bool true) rfl rfl rfl (fun w=>by rw [hv,hA];kernel_rfl)) ?_;refine TL.ns ?_;refine T.aG rfl rfl ?_;refine T.sr ?_;refine TL.run 1 rfl ?_;refine TL.slNil 50 2 ?_;refine TL.ns (T.ret (K.aa ?_));exact K.ag rfl rfl (fun w' hw=>⟨.slice none 0 0,trivial,rfl,hw.sub Sx⟩)
 |some a=>
  rw [←hF1] at hl;refine zac (M:=fun _=>False) (hs:=[.fr F1]) Tryz.func46 rfl rfl rfl hp0 ?_;refine T.sr ?_;refine TL.run 1 rfl ?_;refine TL.ns (T.seq (T.sr ?_));refine TL.run 1 rfl ?_;refine TL.y (Yv.bK (v:= .bool false) rfl rfl rfl (fun w=>by rw [hv,hA];kernel_rfl)) ?_;refine TL.ns ?_;refine T.aI rfl rfl ?_;refine T.skip (K.seq (T.sr ?_));refine TL.e (Ew.bF rfl) ?_;rintro _ _ ⟨g,rfl,rfl⟩;refine TL.run 1 rfl ?_;refine TL.e (Ew.bw 0 1 (k':=l.length) (l':=l.flatMap GChoice.enc) (zhH (enc:=GChoice.enc) (fun _=>inferInstance)) rfl rfl rfl rfl rfl hl (by rw [List.length_map];omega) (by rw [List.nil_append,←List.flatMap_def]) hr (by decide)) ?_;rintro v' _ ⟨hv',rfl⟩;refine TL.run 1 rfl ?_;refine TL.ns (T.ret ?_);exact K.ag rfl rfl (fun w' hw=>⟨v',trivial,rfl,hw.sub Sx⟩)
theorem zhb (F0:Frz)(w:World)(hF0:F0.At w)(l:List GChoice)(vl:Value)(hl:SlC F0 vl 2 (l.map GChoice.enc))(hr:room l.length 16):Calls Tryz.prog 46 #[vl] w fun e w'=>∃(y:Value) (G:Frz),SlC G y 2 (l.map GChoice.enc)∧e= .returned y∧Fx F0 w G w':=by
 refine (zek F0 w hF0 l vl hl hr).mono ?_;rintro e w' ⟨v',_,rfl,hw⟩;obtain ⟨G,h1,h2,h3⟩:=Fx.hp hF0 hw;have h4:=SlK.ent (G:=G) (hw.own (.sl v' 50 2 l.length (l.flatMap GChoice.enc)) (by simp)) h2 (h3 _ (by simp));exact ⟨v',G,h4.toF rfl (fun _=>rfl),rfl,h1⟩
end Go.Proofs.YtbpbhbkcahcdiaaGreatDoor
