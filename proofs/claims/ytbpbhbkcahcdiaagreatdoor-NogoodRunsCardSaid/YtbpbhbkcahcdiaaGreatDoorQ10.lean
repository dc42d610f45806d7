/- Yo Na Nb Nc: shortened and put together by squeeze.py. -/
import Derived.Test.YtbpbhbkcahcdiaaGreatDoorQ09
set_option maxRecDepth 100000
set_option maxHeartbeats 4000000
set_option linter.unusedVariables false
set_option linter.unusedSectionVars false
set_option linter.unusedSimpArgs false
namespace Go.Proofs.YtbpbhbkcahcdiaaGreatDoor
open Go.RowKit
structure GStore where
 domains:Vec 512 (BitVec 64)
 start:GProblem×(List GDomain×Bool)
 list:List (List GChoice)
deriving Inhabited
def zbc (n:Int)(low:Int)(high:Int):Bool:=
 ((decide (low≤n))&&(decide (n≤high)))
theorem zc5 (F0:Frz)(w:World)(hF0:F0.At w)(n:Int)(low:Int)(high:Int):Calls Tryz.prog 74 #[.int .i64 n, .int .i64 low, .int .i64 high] w fun e w'=>e= .returned (.bool (zbc n low high))∧Below w.heap.size w w':=by
 obtain ⟨r,hk⟩:∃r,zbc n low high=r:=⟨_,rfl⟩;rw [hk];unfold zbc at hk;obtain ⟨S0,F1,rfl,hS0,hp0⟩:=zan hF0;refine zac Tryz.func74 rfl rfl rfl hp0 ?_;refine T.sr ?_;refine TL.run 1 rfl ?_;refine TL.ns (T.seq ?_);refine T.al (ι:=Unit) (fun z=>[(6, .bool ((decide (low≤n))&&(decide (n≤high))))]) (fun z=>[.fr F1]) (fun z=>True) ?_ ?_
 ·refine T.region ?_;refine TL.run 4 rfl ?_;refine TL.gs rfl rfl rfl (fun h1=>?_) (fun h1=>?_)
  ·have p1:=of_decide_eq_true h1;refine TL.run 5 rfl ?_;refine TL.nil ?_;exact K.aj () trivial (.b (zdi h1) .nil) (List.Sublist.refl _)
  ·have p1:=of_decide_eq_false h1;refine TL.run 5 rfl ?_;refine TL.nil ?_;exact K.aj () trivial (.b (zaJ h1).symm .nil) (List.Sublist.refl _)
 ·rintro _ _;refine T.ret ?_;subst hk;exact K.ah rfl rfl (fun w' hw=>⟨rfl,hw.isBelow⟩)
def zbe (n:Int):Bool:=
 (zbc n 0 511)
theorem zd0 (F0:Frz)(w:World)(hF0:F0.At w)(n:Int):Calls Tryz.prog 73 #[.int .i64 n] w fun e w'=>e= .returned (.bool (zbe n))∧Below w.heap.size w w':=by
 obtain ⟨r,hk⟩:∃r,zbe n=r:=⟨_,rfl⟩;rw [hk];unfold zbe at hk;obtain ⟨S0,F1,rfl,hS0,hp0⟩:=zan hF0;refine zac Tryz.func73 rfl rfl rfl hp0 ?_;refine T.sr ?_;refine TL.run 1 rfl ?_;refine TL.nx ?_;refine TL.run 1 rfl ?_;refine TL.e (Ew.af rfl rfl rfl (fun w hw=>zc5 _ w (hw.fr (i:=0) rfl) n 0 511)) ?_;rintro _ _ ⟨rfl,rfl⟩;refine TL.run 1 rfl ?_;refine TL.ns (T.ret ?_);subst hk;exact K.ah rfl rfl (fun w' hw=>⟨rfl,hw.isBelow⟩)
def zaQ (l:List GChoice):Bool:=
 zax (fun (_:Unit)=>
  true)
 (fun k1=>
  zai (fun (i_3:Nat) (next2:Unit→Bool) (_:Unit)=>
   (bif ((!(zbe ((nth l i_3).Station)))||(!(zbc ((nth l i_3).Channel) 2 51))) then
    false
    else
    (bif ((decide (0<(i_3:Int)))&&(decide ((nth l i_3).Station≤(nth l (((i_3:Int) - 1).toNat)).Station))) then
     false
     else
     next2 ())))
  (fun (_:Unit)=>
   k1 ()) (l.length - 0) 0 ())
theorem zcS (F0:Frz)(w:World)(hF0:F0.At w)(l:List GChoice)(vl:Value)(hl:SlC F0 vl 2 (l.map GChoice.enc)):Calls Tryz.prog 47 #[vl] w fun e w'=>e= .returned (.bool (zaQ l))∧Below w.heap.size w w':=by
 obtain ⟨r,hk⟩:∃r,zaQ l=r:=⟨_,rfl⟩;rw [hk];unfold zaQ at hk;haveI:=hl.oneC;obtain ⟨S0,F1,rfl,hS0,hp0⟩:=zan hF0;refine zac Tryz.func47 rfl rfl rfl hp0 ?_;refine T.sr ?_;refine TL.run 1 rfl ?_;refine TL.ns (T.seq (T.sr ?_));refine TL.run 1 rfl ?_;refine TL.y (Yv.ar rfl rfl hl (List.length_map _)) ?_;have hm6:l.length≤9223372036854775807:=(List.length_map _)▸hl.max;refine TL.run 1 rfl ?_;refine TL.ns ?_;have hq:=zae hk;clear hk;obtain ⟨k1,hk1,hk⟩:=hq; (try dsimp only at hk);refine T.al (ι:=Unit) (fun z=>[]) (fun z=>[.fr F1]) (fun z=>k1 ()=r) ?_ ?_
 ·have hq:=zaj hk;clear hk;obtain ⟨f2,kk2,hf2,hkk2,hk⟩:=hq;refine T.block ?_;refine T.loop (ι:=Nat) (fun z=>[(0,vl),(5,vl),(6, .int .i64 (l.length:Int)),(7, .int .i64 (z:Int))]) (fun z=>[.fr F1]) (fun z=>zai f2 kk2 (l.length - z) z ()=r) (fun z=>l.length - z) 0 ?_ ?_ ?_ ?_
  ·exact hk
  ·exact (.c (.c (.c (.c .nil))))
  ·exact List.Sublist.refl _
  ·rintro i_3 hk;refine T.sr ?_;refine TL.run 1 rfl ?_;refine TL.ns (T.seq ?_);refine T.cond rfl (fun h4=>?_) (fun h4=>?_)
   ·have p4:=of_decide_eq_true h4;rw [zar (by omega)] at hk;generalize hn2:zai f2 kk2 (l.length - (i_3+1)) (i_3+1)=next2 at hk;rw [←hf2] at hk; (try dsimp only at hk);refine T.skip (K.seq (T.seq (T.block (T.sr ?_))));refine TL.run 1 rfl ?_;refine TL.y (Yv.ao (i:=i_3) rfl rfl rfl hl (List.length_map _) rfl (by omega)) ?_;refine TL.y (Yv.aI 0 (i:=i_3) rfl rfl rfl hl (by omega) rfl rfl rfl) ?_;refine TL.e (Ew.alloc rfl) ?_;rintro _ _ ⟨g4,rfl,rfl⟩;refine TL.run 1 rfl ?_;refine TL.e0 (Ew.ak 0 rfl rfl rfl rfl rfl rfl) ?_;rintro _ _ ⟨rfl,rfl⟩;refine TL.ns (T.seq (T.seq ?_));refine T.al (ι:=Unit) (fun z=>[(0,vl),(3, .int .i64 (i_3:Int)),(4, .pointer (some ⟨g4,0,none⟩)),(5,vl),(6, .int .i64 (l.length:Int)),(7, .int .i64 (i_3:Int)),(21, .bool ((!(zbe ((nth l i_3).Station)))||(!(zbc ((nth l i_3).Channel) 2 51))))]) (fun z=>[.row g4 50 [.int .i64 ((nth l i_3).Station), .int .i64 ((nth l i_3).Channel)], .fr F1]) (fun z=>True) ?_ ?_
    ·refine T.region ?_;refine TL.y (Yv.fieldAddr rfl rfl) ?_;refine TL.y (Yv.ac 0 rfl rfl rfl rfl) ?_;refine TL.e (Ew.af rfl rfl rfl (fun w hw=>zd0 _ w (hw.fr (i:=1) rfl) ((nth l i_3).Station))) ?_;rintro _ _ ⟨rfl,rfl⟩;refine TL.run 2 rfl ?_;refine TL.gs rfl rfl rfl (fun h5=>?_) (fun h5=>?_)
     ·refine TL.run 5 rfl ?_;refine TL.nil ?_;exact K.aj () trivial (.c (.c (.c (.c (.c (.c (.b (zbN h5).symm .nil))))))) (List.Sublist.refl _)
     ·refine TL.y (Yv.fieldAddr rfl rfl) ?_;refine TL.y (Yv.ac 0 rfl rfl rfl rfl) ?_;refine TL.e (Ew.af rfl rfl rfl (fun w hw=>zc5 _ w (hw.fr (i:=1) rfl) ((nth l i_3).Channel) 2 51)) ?_;rintro _ _ ⟨rfl,rfl⟩;refine TL.run 2 rfl ?_;refine TL.nil ?_;exact K.aj () trivial (.c (.c (.c (.c (.c (.c (.b (or_f h5) .nil))))))) (List.Sublist.refl _)
    ·rintro _ _;refine T.cond rfl (fun h6=>?_) (fun h6=>?_)
     ·replace hk:=zab hk h6;refine T.sr ?_;refine TL.run 1 rfl ?_;refine TL.ns (T.ret (K.aa (K.ag (K.aa (K.aa (K.ag (K.aa ?_)))))));subst hk;exact K.ah rfl rfl (fun w' hw=>⟨rfl,hw.isBelow⟩)
     ·replace hk:=zaa hk h6;refine T.skip (K.seq (T.seq ?_));refine T.al (ι:=Unit) (fun z=>[(0,vl),(5,vl),(6, .int .i64 (l.length:Int)),(7, .int .i64 (i_3:Int)),(34, .bool ((decide (0<(i_3:Int)))&&(decide ((nth l i_3).Station≤(nth l (((i_3:Int) - 1).toNat)).Station))))]) (fun z=>[.row g4 50 [.int .i64 ((nth l i_3).Station), .int .i64 ((nth l i_3).Channel)], .fr F1]) (fun z=>True) ?_ ?_
      ·refine T.as (.still 0 (.still 1 (.still 2 (.still 3 (.still 4 (.still 5 (.still 6 (.still 7 (.still 8 (.still 9 (.still 10 (.still 11 (.still 12 .done))))))))))))) _ (by kernel_rfl) (List.Sublist.refl _) ?_;refine TS.run 3 rfl ?_;refine TS.gs rfl rfl rfl rfl (fun h7=>?_) (fun h7=>?_)
       ·have p7:=of_decide_eq_true h7;refine TS.run 2 rfl ?_;refine TS.y rfl (Yv.aP rfl rfl rfl (by omega)) ?_;refine TS.y rfl (Yv.ao (i:=((i_3:Int) - 1).toNat) rfl rfl rfl hl (List.length_map _) (by omega) (by omega)) ?_;refine TS.y rfl (Yv.aG rfl rfl hl (List.length_map _) (by omega)) ?_;refine TS.y rfl (Yv.az 1 (i:=((i_3:Int) - 1).toNat) (j:=0) rfl rfl rfl hl (by omega) rfl rfl) ?_;refine TS.y rfl (Yv.fieldAddr rfl rfl) ?_;refine TS.y rfl (Yv.ac 0 rfl rfl rfl rfl) ?_;refine TS.run 2 rfl ?_;refine TS.done ?_;exact K.aj () trivial (.c (.c (.c (.c (.b (zdi h7) .nil))))) (List.Sublist.refl _)
       ·have p7:=of_decide_eq_false h7;refine TS.run 10 rfl ?_;refine TS.done ?_;exact K.aj () trivial (.c (.c (.c (.c (.b (zaJ h7).symm .nil))))) (List.Sublist.refl _)
      ·rintro _ _;refine T.cond rfl (fun h8=>?_) (fun h8=>?_)
       ·have p8:=h8; (try simp only [nfB] at p8);replace hk:=zab hk h8;refine T.sr ?_;refine TL.run 1 rfl ?_;refine TL.ns (T.ret (K.ag (K.aa (K.aa (K.ag (K.aa ?_))))));subst hk;exact K.ah rfl rfl (fun w' hw=>⟨rfl,hw.isBelow⟩)
       ·replace hk:=zaa hk h8;refine T.skip (K.ad (K.seq (T.region ?_)));refine TL.y (Yv.an rfl rfl rfl (by omega)) ?_;refine TL.run 1 rfl ?_;refine TL.nil ?_;rw [←hn2] at hk;refine K.pick [1] rfl (by decide) ?_;exact K.next (i_3+1) hk (by omega) (.c (.c (.c (.c .nil)))) (List.Sublist.refl _)
   ·have p4:=of_decide_eq_false h4;rw [zas (by omega),←hkk2] at hk; (try dsimp only at hk);refine T.exit (K.ab (K.ab (K.ae ?_)));exact K.aj () hk .nil (List.Sublist.refl _)
 ·rintro _ hk;rw [←hk1] at hk; (try dsimp only at hk);refine T.sr ?_;refine TL.run 1 rfl ?_;refine TL.ns (T.ret ?_);subst hk;exact K.ah rfl rfl (fun w' hw=>⟨rfl,hw.isBelow⟩)
def zbL (p:GProblem):Option (Vec 512 (BitVec 64)):=
 zax (fun (c_1:Vec 512 (BitVec 64))=>
  some c_1)
 (fun k2=>
  zai (fun (i_5:Nat) (next4:Vec 512 (BitVec 64)→Option (Vec 512 (BitVec 64))) (c_3:Vec 512 (BitVec 64))=>
   grd (0≤(nth p.Domains i_5).Station∧(nth p.Domains i_5).Station<(512:Int)) <|
   zai (fun (i_9:Nat) (next8:Vec 512 (BitVec 64)→Option (Vec 512 (BitVec 64))) (c_7:Vec 512 (BitVec 64))=>
    grd (0≤(nth ((nth p.Domains i_5).Channels) i_9)∧(nth ((nth p.Domains i_5).Channels) i_9)<(64:Int)) <|
    next8 (Vec.put c_7 (((nth p.Domains i_5).Station).toNat) ((Vec.get c_7 (((nth p.Domains i_5).Station).toNat)) ||| ((1#64) <<< ((nth ((nth p.Domains i_5).Channels) i_9).toNat)))))
   (fun (c_7:Vec 512 (BitVec 64))=>
    next4 c_7) ((((nth p.Domains i_5).Channels).length) - 0) 0 (Vec.put c_3 (((nth p.Domains i_5).Station).toNat) (1#64)))
  (fun (c_3:Vec 512 (BitVec 64))=>
   k2 c_3) (p.Domains.length - 0) 0 (Vec.fill 512 (0#64)))
theorem ze3 (F0:Frz)(w:World)(hF0:F0.At w)(p:GProblem)(vp_0:Value)(cp_0:List (List Value))(hp_0:SlD GDomain.rep F0 vp_0 2 cp_0 p.Domains)(vp_1:Value)(hp_1:SlC F0 vp_1 5 (p.Rules.Pairs.map GPair.enc))(vp_2:Value)(hp_2:SlC F0 vp_2 5 (p.Rules.Loads.map GLoad.enc))(vp_3:Value)(hp_3:SlC F0 vp_3 4 (p.Rules.Caps.map GCap.enc))(r:Vec 512 (BitVec 64))(hr:zbL p=some r):Calls Tryz.prog 41 #[.agg [vp_0,vp_1,vp_2,vp_3].toArray] w fun e w'=>e= .returned (.agg (r.1.map U).toArray)∧Below w.heap.size w w':=by
 have hk:=hr;unfold zbL at hk;haveI:=hp_0.1.oneC;haveI:=hp_1.oneC;haveI:=hp_2.oneC;haveI:=hp_3.oneC;obtain ⟨S0,F1,rfl,hS0,hp0⟩:=zan hF0;refine zac Tryz.func41 rfl rfl rfl hp0 ?_;refine T.sr ?_;refine TL.e (Ew.aA rfl rfl) ?_;rintro _ _ ⟨g1,rfl,rfl⟩;refine TL.e (Ew.bp (l:=((Vec.fill 512 (0#64)).1.map U)) rfl (by kernel_rfl)) ?_;rintro _ _ ⟨g2,rfl,rfl⟩;refine TL.nx ?_;refine TL.e (Ew.bp (l:=((Vec.fill 512 (0#64)).1.map U)) rfl (by kernel_rfl)) ?_;rintro _ _ ⟨g3,rfl,rfl⟩;refine TL.ns (T.seq (T.sr ?_));refine TL.y (Yv.fieldAddr rfl rfl) ?_;refine TL.y (Yv.ac 2 rfl rfl rfl rfl) ?_;refine TL.y (Yv.ar rfl rfl hp_0.1 hp_0.2.1) ?_;have hm10:p.Domains.length≤9223372036854775807:=hp_0.2.1▸hp_0.1.max;refine TL.run 1 rfl ?_;refine TL.ns ?_;have hq:=zae hk;clear hk;obtain ⟨k2,hk2,hk⟩:=hq; (try dsimp only at hk);refine T.al (ι:=Vec 512 (BitVec 64)) (fun z=>[(2, .pointer (some ⟨g2,0,none⟩)),(3, .pointer (some ⟨g3,0,none⟩))]) (fun z=>[.row g3 89 (z.1.map U), .row g2 89 ((Vec.fill 512 (0#64)).1.map U), .fr F1]) (fun z=>k2 z=some r) ?_ ?_
 ·have hq:=zaj hk;clear hk;obtain ⟨f4,kk4,hf4,hkk4,hk⟩:=hq;refine T.block ?_;refine T.pick [0,1,3] rfl (by decide) ?_;refine T.loop (ι:=Nat×Vec 512 (BitVec 64)) (fun z=>[(2, .pointer (some ⟨g2,0,none⟩)),(3, .pointer (some ⟨g3,0,none⟩)),(9,vp_0),(10, .int .i64 (p.Domains.length:Int)),(11, .int .i64 (z.1:Int))]) (fun z=>[.row g3 89 (z.2.1.map U), .row g2 89 ((Vec.fill 512 (0#64)).1.map U), .fr F1]) (fun z=>zai f4 kk4 (p.Domains.length - z.1) z.1 z.2=some r) (fun z=>p.Domains.length - z.1) (0,(Vec.fill 512 (0#64))) ?_ ?_ ?_ ?_
  ·exact hk
  ·exact (.c (.c (.c (.c (.c .nil)))))
  ·exact List.Sublist.refl _
  ·rintro ⟨i_5,c_3⟩ hk; (try dsimp only at *);refine T.sr ?_;refine TL.run 1 rfl ?_;refine TL.ns (T.seq ?_);refine T.cond rfl (fun h6=>?_) (fun h6=>?_)
   ·have p6:=of_decide_eq_true h6;rw [zar (by omega)] at hk;generalize hn4:zai f4 kk4 (p.Domains.length - (i_5+1)) (i_5+1)=next4 at hk;rw [←hf4] at hk; (try dsimp only at hk);refine T.skip (K.seq (T.seq (T.block (T.sr ?_))));refine TL.y (Yv.ao (i:=i_5) rfl rfl rfl hp_0.1 hp_0.2.1 rfl (by omega)) ?_;refine TL.y (Yv.bD 2 (i:=i_5) (j:=0) rfl rfl rfl hp_0.1 hp_0.2.1 (by omega) rfl (GDomain.form (hp_0.2.2 i_5 (by omega))) rfl) ?_;have hd14_1:=(GDomain.c1 (hp_0.2.2 i_5 (by omega))).2;haveI:=hd14_1.oneC;refine TL.e (Ew.alloc rfl) ?_;rintro _ _ ⟨g5,rfl,rfl⟩;refine TL.e0 (Ew.ak 0 rfl rfl rfl rfl rfl rfl) ?_;rintro _ _ ⟨rfl,rfl⟩;refine TL.ns (T.seq ?_);have hq:(0≤(nth p.Domains i_5).Station∧(nth p.Domains i_5).Station<(512:Int))∧_:=zaE hk;clear hk;obtain ⟨g17,hk⟩:=hq; (try dsimp only at hk);refine T.region ?_;refine TL.y (Yv.fieldAddr rfl rfl) ?_;refine TL.y (Yv.ac 0 rfl rfl rfl rfl) ?_;refine TL.y (Yv.ay (i:=((nth p.Domains i_5).Station).toNat) rfl rfl rfl (by omega) (by omega)) ?_;refine TL.e0 (Ew.aT 1 ((Vec.put c_3 (((nth p.Domains i_5).Station).toNat) (1#64)).1.map U) rfl rfl rfl rfl (by rw [Vec.len];first|omega|(simp only [List.length_cons,List.length_nil];omega)) (zfT (by omega) (Vec.upd (x:=c_3) (f:=U) (i:=((nth p.Domains i_5).Station).toNat) (v:=1#64) (by omega)))) ?_;rintro _ _ ⟨rfl,rfl⟩;refine TL.nx ?_;refine TL.y (Yv.fieldAddr rfl rfl) ?_;refine TL.y (Yv.ac 0 rfl rfl rfl rfl) ?_;refine TL.y (Yv.ar rfl rfl hd14_1 (List.length_map _)) ?_;have hm20:((nth p.Domains i_5).Channels).length≤9223372036854775807:=(List.length_map _)▸hd14_1.max;refine TL.run 1 rfl ?_;refine TL.ns ?_;have hq:=zaj hk;clear hk;obtain ⟨f8,kk8,hf8,hkk8,hk⟩:=hq;refine T.block ?_;refine T.pick [1,0,2,3] rfl (by decide) ?_;refine T.loop (ι:=Nat×Vec 512 (BitVec 64)) (fun z=>[(2, .pointer (some ⟨g2,0,none⟩)),(3, .pointer (some ⟨g3,0,none⟩)),(5, .pointer (some ⟨g5,0,none⟩)),(9,vp_0),(10, .int .i64 (p.Domains.length:Int)),(11, .int .i64 (i_5:Int)),(19,(nth (nth cp_0 i_5) 1)),(20, .int .i64 (((nth p.Domains i_5).Channels).length:Int)),(21, .int .i64 (z.1:Int))]) (fun z=>[.row g3 89 (z.2.1.map U), .row g5 48 [.int .i64 ((nth p.Domains i_5).Station),(nth (nth cp_0 i_5) 1)], .row g2 89 ((Vec.fill 512 (0#64)).1.map U), .fr F1]) (fun z=>zai f8 kk8 ((((nth p.Domains i_5).Channels).length) - z.1) z.1 z.2=some r) (fun z=>(((nth p.Domains i_5).Channels).length) - z.1) (0,(Vec.put c_3 (((nth p.Domains i_5).Station).toNat) (1#64))) ?_ ?_ ?_ ?_
    ·exact hk
    ·exact (.c (.c (.c (.c (.c (.c (.c (.c (.c .nil)))))))))
    ·exact List.Sublist.refl _
    ·rintro ⟨i_9,c_7⟩ hk; (try dsimp only at *);refine T.sr ?_;refine TL.run 1 rfl ?_;refine TL.ns (T.seq ?_);refine T.cond rfl (fun h10=>?_) (fun h10=>?_)
     ·have p10:=of_decide_eq_true h10;rw [zar (by omega)] at hk;generalize hn8:zai f8 kk8 ((((nth p.Domains i_5).Channels).length) - (i_9+1)) (i_9+1)=next8 at hk;rw [←hf8] at hk; (try dsimp only at hk);refine T.skip (K.seq (T.seq (T.block (T.sr ?_))));refine TL.y (Yv.ao (i:=i_9) rfl rfl rfl hd14_1 (List.length_map _) rfl (by omega)) ?_;refine TL.y (Yv.az 3 (i:=i_9) (j:=0) rfl rfl rfl hd14_1 (by omega) rfl rfl) ?_;refine TL.run 1 rfl ?_;refine TL.ns ?_;have hq:(0≤(nth ((nth p.Domains i_5).Channels) i_9)∧(nth ((nth p.Domains i_5).Channels) i_9)<(64:Int))∧_:=zaE hk;clear hk;obtain ⟨g30,hk⟩:=hq; (try dsimp only at hk);refine T.as (.still 0 (.still 1 (.still 2 (.still 4 (.still 5 (.eff 3 (.still 6 (.still 7 (.eff 8 .done))))))))) [.row g5 48 [.int .i64 ((nth p.Domains i_5).Station),(nth (nth cp_0 i_5) 1)], .row g2 89 ((Vec.fill 512 (0#64)).1.map U), .fr F1] (by kernel_rfl) Sx ?_;refine TS.y rfl (Yv.fieldAddr rfl rfl) ?_;refine TS.y rfl (Yv.ac 0 rfl rfl rfl rfl) ?_;refine TS.y rfl (Yv.ay (i:=((nth p.Domains i_5).Station).toNat) rfl rfl rfl (by omega) (by omega)) ?_;refine TS.run 1 rfl ?_;refine TS.y rfl (Yv.bi (a:=1#64) ((nth ((nth p.Domains i_5).Channels) i_9).toNat) rfl rfl rfl (by omega) (by omega)) ?_;refine TS.eff ?_;refine TSo.br rfl (Wt.none rfl) rfl rfl (Yv.ac 0 rfl rfl rfl (zb8 (by omega) (Vec.cell (i:=((nth p.Domains i_5).Station).toNat) (by omega)))) (fun w hw=>hw.sub Sx) ?_;refine TS.y rfl (Yv.orV (a:=(Vec.get c_7 (((nth p.Domains i_5).Station).toNat))) (b:=((1#64) <<< ((nth ((nth p.Domains i_5).Channels) i_9).toNat))) rfl rfl rfl) ?_;refine TS.y rfl (Yv.ay (i:=((nth p.Domains i_5).Station).toNat) rfl rfl rfl (by omega) (by omega)) ?_;refine TS.eff ?_;refine TSo.aY rfl (Wt.none rfl) rfl (Ew.aT 0 ((Vec.put c_7 (((nth p.Domains i_5).Station).toNat) ((Vec.get c_7 (((nth p.Domains i_5).Station).toNat)) ||| ((1#64) <<< ((nth ((nth p.Domains i_5).Channels) i_9).toNat)))).1.map U) rfl rfl rfl rfl (by rw [Vec.len];first|omega|(simp only [List.length_cons,List.length_nil];omega)) (zfT (by omega) (Vec.upd (x:=c_7) (f:=U) (i:=((nth p.Domains i_5).Station).toNat) (v:=((Vec.get c_7 (((nth p.Domains i_5).Station).toNat)) ||| ((1#64) <<< ((nth ((nth p.Domains i_5).Channels) i_9).toNat)))) (by omega)))) ?_;rintro _ _ ⟨rfl,rfl⟩;refine ⟨(fun w hw=>hw.sub Sx),?_⟩;refine TS.done ?_;refine K.ad (K.seq (T.region ?_));refine TL.y (Yv.an rfl rfl rfl (by omega)) ?_;refine TL.run 1 rfl ?_;refine TL.nil ?_;rw [←hn8] at hk;exact K.next ((i_9+1),(Vec.put c_7 (((nth p.Domains i_5).Station).toNat) ((Vec.get c_7 (((nth p.Domains i_5).Station).toNat)) ||| ((1#64) <<< ((nth ((nth p.Domains i_5).Channels) i_9).toNat))))) hk (by dsimp only;omega) (.c (.c (.c (.c (.c (.c (.c (.c (.c .nil))))))))) (List.Sublist.refl _)
     ·have p10:=of_decide_eq_false h10;rw [zas (by omega),←hkk8] at hk; (try dsimp only at hk);refine T.exit (K.ab (K.ab (K.ae (K.ad (K.seq (T.region ?_))))));refine TL.y (Yv.an rfl rfl rfl (by omega)) ?_;refine TL.run 1 rfl ?_;refine TL.nil ?_;rw [←hn4] at hk;refine K.pick [0,2,3] rfl (by decide) ?_;exact K.next ((i_5+1),c_7) hk (by dsimp only;omega) (.c (.c (.c (.c (.c .nil))))) (List.Sublist.refl _)
   ·have p6:=of_decide_eq_false h6;rw [zas (by omega),←hkk4] at hk; (try dsimp only at hk);refine T.exit (K.ab (K.ab (K.ae ?_)));exact K.aj c_3 hk (.c (.c .nil)) (List.Sublist.refl _)
 ·rintro c_1 hk;rw [←hk2] at hk; (try dsimp only at hk);refine T.sr ?_;refine TL.y (Yv.am 0 rfl rfl rfl Vec.len) ?_;refine TL.e0 (Ew.ak 1 rfl rfl rfl rfl Vec.len (Vec.len.trans Vec.len.symm)) ?_;rintro _ _ ⟨rfl,rfl⟩;refine TL.ns (T.ret ?_);obtain rfl:=Option.some.inj hk;exact K.bG 1 rfl rfl rfl Vec.len (fun w' hw=>⟨rfl,hw.isBelow⟩)
def zbn (p0_:GProblem)(m0_:List GDomain×Bool):Option (Vec 512 Int):=
 zax (fun (c_1:Vec 512 Int)=>
  some c_1)
 (fun k2=>
  zai (fun (i_5:Nat) (next4:Vec 512 Int→Option (Vec 512 Int)) (c_3:Vec 512 Int)=>
   grd (0≤(nth (zcv m0_) i_5).Station∧(nth (zcv m0_) i_5).Station<(512:Int)) <|
   next4 (Vec.put c_3 (((nth (zcv m0_) i_5).Station).toNat) ((nth (zcv m0_) i_5).Channel)))
  (fun (c_3:Vec 512 Int)=>
   k2 c_3) (((zcv m0_).length) - 0) 0 (Vec.fill 512 0))
theorem zdn (F0:Frz)(w:World)(hF0:F0.At w)(p0_:GProblem)(m0_:List GDomain×Bool)(k0_:SK)(v0_:Value)(L0_:Ws)(hs0_:SI p0_ m0_ k0_ L0_)(tf0_:TbF F0 k0_)(htab:Tab w)(hO:Hp w (fps [st2 k0_ v0_ L0_ (!m0_.2)]) [st2 k0_ v0_ L0_ (!m0_.2)] w)(hA:∀g,fps [st2 k0_ v0_ L0_ (!m0_.2)] g→¬F0.S g)(hZ:¬fps [st2 k0_ v0_ L0_ (!m0_.2)] 0)(r:Vec 512 Int)(hr:zbn p0_ m0_=some r):Calls Tryz.prog 70 #[.pointer (some ⟨k0_.sp,0,none⟩)] w fun e w'=>∃(y:Unit) (G:Frz),(True)∧e= .returned (.agg (r.1.map vI).toArray)∧FxM F0 w (fps [st2 k0_ v0_ L0_ (!m0_.2)]) G [st2 k0_ v0_ L0_ (!m0_.2)] w':=by
 have hk:=hr;unfold zbn at hk;obtain ⟨S0,F1,rfl,hS0,hp0⟩:=zbz hF0 hO hA;have hM0:=hZ;have htk:∀ {hs:HS} {w':World},Hp w (fps [st2 k0_ v0_ L0_ (!m0_.2)]) hs w'→Tab w':=fun hw=>htab.kept hw hZ;refine zac (hs:=[st2 k0_ v0_ L0_ (!m0_.2), .fr F1]) Tryz.func70 rfl rfl rfl hp0 ?_;refine T.sr ?_;refine TL.e (Ew.bp (l:=((Vec.fill 512 0).1.map vI)) rfl (by kernel_rfl)) ?_;rintro _ _ ⟨g2,rfl,rfl⟩;refine TL.nx ?_;refine TL.e (Ew.bp (l:=((Vec.fill 512 0).1.map vI)) rfl (by kernel_rfl)) ?_;rintro _ _ ⟨g3,rfl,rfl⟩;refine TL.ns (T.seq (T.sr ?_));refine TL.run 1 rfl ?_;refine TL.e (Ew.aS 3 rfl rfl rfl rfl (fun w hw hF=>zlm hs0_ tf0_ (hw.get (i:=2) rfl) (hw.fr (i:=3) rfl) (htk hw))) ?_;rintro _ _ ⟨v7_,F2,le1_2,hf7,hq,rfl⟩;obtain rfl:=hq.symm;haveI:=hf7.oneC;refine TL.y (Yv.ar rfl rfl hf7 (List.length_map _)) ?_;have hm8:(zcv m0_).length≤9223372036854775807:=(List.length_map _)▸hf7.max;refine TL.run 1 rfl ?_;refine TL.ns ?_;have hq:=zae hk;clear hk;obtain ⟨k2,hk2,hk⟩:=hq; (try dsimp only at hk);refine T.al (ι:=Vec 512 Int) (fun z=>[(2, .pointer (some ⟨g2,0,none⟩)),(3, .pointer (some ⟨g3,0,none⟩))]) (fun z=>[.row g3 123 (z.1.map vI), .row g2 123 ((Vec.fill 512 0).1.map vI),st2 k0_ v0_ L0_ (!m0_.2), .fr F2]) (fun z=>k2 z=some r) ?_ ?_
 ·have hq:=zaj hk;clear hk;obtain ⟨f4,kk4,hf4,hkk4,hk⟩:=hq;refine T.block ?_;refine T.loop (ι:=Nat×Vec 512 Int) (fun z=>[(2, .pointer (some ⟨g2,0,none⟩)),(3, .pointer (some ⟨g3,0,none⟩)),(7,v7_),(8, .int .i64 ((zcv m0_).length:Int)),(9, .int .i64 (z.1:Int))]) (fun z=>[.row g3 123 (z.2.1.map vI), .row g2 123 ((Vec.fill 512 0).1.map vI),st2 k0_ v0_ L0_ (!m0_.2), .fr F2]) (fun z=>zai f4 kk4 (((zcv m0_).length) - z.1) z.1 z.2=some r) (fun z=>((zcv m0_).length) - z.1) (0,(Vec.fill 512 0)) ?_ ?_ ?_ ?_
  ·exact hk
  ·exact (.c (.c (.c (.c (.c .nil)))))
  ·exact List.Sublist.refl _
  ·rintro ⟨i_5,c_3⟩ hk; (try dsimp only at *);refine T.sr ?_;refine TL.run 1 rfl ?_;refine TL.ns (T.seq ?_);refine T.cond rfl (fun h6=>?_) (fun h6=>?_)
   ·have p6:=of_decide_eq_true h6;rw [zar (by omega)] at hk;generalize hn4:zai f4 kk4 (((zcv m0_).length) - (i_5+1)) (i_5+1)=next4 at hk;rw [←hf4] at hk; (try dsimp only at hk);refine T.skip (K.seq (T.seq (T.block (T.sr ?_))));refine TL.y (Yv.ao (i:=i_5) rfl rfl rfl hf7 (List.length_map _) rfl (by omega)) ?_;refine TL.y (Yv.aI 3 (i:=i_5) rfl rfl rfl hf7 (by omega) rfl rfl rfl) ?_;refine TL.e (Ew.alloc rfl) ?_;rintro _ _ ⟨g5,rfl,rfl⟩;refine TL.e0 (Ew.ak 0 rfl rfl rfl rfl rfl rfl) ?_;rintro _ _ ⟨rfl,rfl⟩;refine TL.ns ?_;have hq:(0≤(nth (zcv m0_) i_5).Station∧(nth (zcv m0_) i_5).Station<(512:Int))∧_:=zaE hk;clear hk;obtain ⟨g17,hk⟩:=hq; (try dsimp only at hk);refine T.region ?_;refine TL.y (Yv.fieldAddr rfl rfl) ?_;refine TL.y (Yv.ac 0 rfl rfl rfl rfl) ?_;refine TL.y (Yv.fieldAddr rfl rfl) ?_;refine TL.y (Yv.ac 0 rfl rfl rfl rfl) ?_;refine TL.y (Yv.ay (i:=((nth (zcv m0_) i_5).Station).toNat) rfl rfl rfl (by omega) (by omega)) ?_;refine TL.e0 (Ew.aT 1 ((Vec.put c_3 (((nth (zcv m0_) i_5).Station).toNat) ((nth (zcv m0_) i_5).Channel)).1.map vI) rfl rfl rfl rfl (by rw [Vec.len];first|omega|(simp only [List.length_cons,List.length_nil];omega)) (zfT (by omega) (Vec.upd (x:=c_3) (f:=vI) (i:=((nth (zcv m0_) i_5).Station).toNat) (v:=(nth (zcv m0_) i_5).Channel) (by omega)))) ?_;rintro _ _ ⟨rfl,rfl⟩;refine TL.nil (K.ad (K.seq (T.region ?_)));refine TL.y (Yv.an rfl rfl rfl (by omega)) ?_;refine TL.run 1 rfl ?_;refine TL.nil ?_;rw [←hn4] at hk;refine K.pick [1,2,3,4] rfl (by decide) ?_;exact K.next ((i_5+1),(Vec.put c_3 (((nth (zcv m0_) i_5).Station).toNat) ((nth (zcv m0_) i_5).Channel))) hk (by dsimp only;omega) (.c (.c (.c (.c (.c .nil))))) (List.Sublist.refl _)
   ·have p6:=of_decide_eq_false h6;rw [zas (by omega),←hkk4] at hk; (try dsimp only at hk);refine T.exit (K.ab (K.ab (K.ae ?_)));exact K.aj c_3 hk (.c (.c .nil)) (List.Sublist.refl _)
 ·rintro c_1 hk;rw [←hk2] at hk; (try dsimp only at hk);refine T.sr ?_;refine TL.y (Yv.am 0 rfl rfl rfl Vec.len) ?_;refine TL.e0 (Ew.ak 1 rfl rfl rfl rfl Vec.len (Vec.len.trans Vec.len.symm)) ?_;rintro _ _ ⟨rfl,rfl⟩;refine TL.ns (T.ret ?_);obtain rfl:=Option.some.inj hk;exact K.bG 1 rfl rfl rfl Vec.len (fun w' hw=>⟨⟨⟩,F2.toFrz,trivial,rfl,FxM.of (hw.pick (idx:=[2,3]) rfl (by decide)) hS0 le1_2⟩)
def zbP (p0_:GProblem)(m0_:List GDomain×Bool)(x1_:Vec 512 Int)(g_:List GChoice):Option (GChoice×Bool):=
 zax (fun (s6:Int×Int×Int×Int×Int)=>
  (bif ((decide (s6.1=0))&&(decide (0<(g_.length:Int)))) then
   some ((nth g_ 0),true)
   else
   some ((GChoice.mk s6.2.2.2.1 s6.2.2.2.2),((decide (s6.1=0))||(zfN m0_ (GChoice.mk s6.2.2.2.1 s6.2.2.2.2))))))
 (fun k6=>
  zai (fun (i_13:Nat) (next12:(Int×Int×Int×Int×Int)→Option (GChoice×Bool)) (s12:Int×Int×Int×Int×Int)=>
   grd (0≤(nth g_ i_13).Station∧(nth g_ i_13).Station<(512:Int)) <|
   zax (fun (s18:Int×Int×Int)=>
    (bif decide (1<s18.1) then
     some ((GChoice.mk 0 0),false)
     else
     next12 (s18.1,s12.2.1,s12.2.2.1,s18.2.1,s18.2.2)))
   (fun k18=>
    (bif decide (¬(Vec.get x1_ (((nth g_ i_13).Station).toNat))=(nth g_ i_13).Channel) then
     k18 (wI (s12.1+1),(nth g_ i_13).Station,(nth g_ i_13).Channel)
     else
     k18 (s12.1,s12.2.2.2.1,s12.2.2.2.2))))
  (fun (s12:Int×Int×Int×Int×Int)=>
   k6 (s12.1,s12.2.1,s12.2.2.1,s12.2.2.2.1,s12.2.2.2.2)) (g_.length - 0) 0 (0,0,0,0,0))
theorem zfs (F0:Frz)(w:World)(hF0:F0.At w)(p0_:GProblem)(m0_:List GDomain×Bool)(k0_:SK)(v0_:Value)(L0_:Ws)(hs0_:SI p0_ m0_ k0_ L0_)(tf0_:TbF F0 k0_)(x1_:Vec 512 Int)(g1_:Nat)(g_:List GChoice)(vg_:Value)(hg_:SlC F0 vg_ 2 (g_.map GChoice.enc))(htab:Tab w)(hO:Hp w (fps [st2 k0_ v0_ L0_ (!m0_.2), .row g1_ 123 (x1_.1.map vI)]) [st2 k0_ v0_ L0_ (!m0_.2), .row g1_ 123 (x1_.1.map vI)] w)(hA:∀g,fps [st2 k0_ v0_ L0_ (!m0_.2), .row g1_ 123 (x1_.1.map vI)] g→¬F0.S g)(hZ:¬fps [st2 k0_ v0_ L0_ (!m0_.2), .row g1_ 123 (x1_.1.map vI)] 0)(r:GChoice×Bool)(hr:zbP p0_ m0_ x1_ g_=some r):Calls Tryz.prog 71 #[.pointer (some ⟨k0_.sp,0,none⟩), .pointer (some ⟨g1_,0,none⟩),vg_] w fun e w'=>∃(y:Unit),(True)∧e= .returned (.tuple #[.agg [.int .i64 r.1.Station, .int .i64 r.1.Channel].toArray, .bool r.2])∧FxM F0 w (fps [st2 k0_ v0_ L0_ (!m0_.2), .row g1_ 123 (x1_.1.map vI)]) F0 [st2 k0_ v0_ L0_ (!m0_.2), .row g1_ 123 (x1_.1.map vI)] w':=by
 have hk:=hr;unfold zbP at hk;haveI:=hg_.oneC;obtain ⟨S0,F1,rfl,hS0,hp0⟩:=zbz hF0 hO hA;have hM0:=hZ;have htk:∀ {hs:HS} {w':World},Hp w (fps [st2 k0_ v0_ L0_ (!m0_.2), .row g1_ 123 (x1_.1.map vI)]) hs w'→Tab w':=fun hw=>htab.kept hw hZ;refine zac (hs:=[st2 k0_ v0_ L0_ (!m0_.2), .row g1_ 123 (x1_.1.map vI), .fr F1]) Tryz.func71 rfl rfl rfl hp0 ?_;refine T.sr ?_;refine TL.e (Ew.alloc rfl) ?_;rintro _ _ ⟨g6,rfl,rfl⟩;refine TL.run 1 rfl ?_;refine TL.nx ?_;refine TL.e (Ew.alloc rfl) ?_;rintro _ _ ⟨g8,rfl,rfl⟩;refine TL.nx ?_;refine TL.run 1 rfl ?_;refine TL.ns (T.seq (T.sr ?_));refine TL.run 1 rfl ?_;refine TL.y (Yv.ar rfl rfl hg_ (List.length_map _)) ?_;have hm13:g_.length≤9223372036854775807:=(List.length_map _)▸hg_.max;refine TL.run 1 rfl ?_;refine TL.ns ?_;have hq:=zae hk;clear hk;obtain ⟨k6,hk6,hk⟩:=hq; (try dsimp only at hk);refine T.al (ι:=Int×Int×Int×Int×Int) (fun z=>[(0, .pointer (some ⟨k0_.sp,0,none⟩)),(2,vg_),(6, .pointer (some ⟨g6,0,none⟩)),(8, .pointer (some ⟨g8,0,none⟩)),(9, .int .i64 z.1)]) (fun z=>[.row g6 50 [.int .i64 z.2.1, .int .i64 z.2.2.1], .row g8 50 [.int .i64 z.2.2.2.1, .int .i64 z.2.2.2.2],st2 k0_ v0_ L0_ (!m0_.2), .row g1_ 123 (x1_.1.map vI), .fr F1]) (fun z=>k6 (z.1,z.2.1,z.2.2.1,z.2.2.2.1,z.2.2.2.2)=some r) ?_ ?_
 ·have hq:=zaj hk;clear hk;obtain ⟨f12,kk12,hf12,hkk12,hk⟩:=hq;refine T.block ?_;refine T.pick [1,0,2,3,4] rfl (by decide) ?_;refine T.loop (ι:=Nat×Int×Int×Int×Int×Int) (fun z=>[(0, .pointer (some ⟨k0_.sp,0,none⟩)),(1, .pointer (some ⟨g1_,0,none⟩)),(2,vg_),(6, .pointer (some ⟨g6,0,none⟩)),(8, .pointer (some ⟨g8,0,none⟩)),(9, .int .i64 z.2.1),(12,vg_),(13, .int .i64 (g_.length:Int)),(14, .int .i64 (z.1:Int))]) (fun z=>[.row g6 50 [.int .i64 z.2.2.1, .int .i64 z.2.2.2.1], .row g8 50 [.int .i64 z.2.2.2.2.1, .int .i64 z.2.2.2.2.2],st2 k0_ v0_ L0_ (!m0_.2), .row g1_ 123 (x1_.1.map vI), .fr F1]) (fun z=>zai f12 kk12 (g_.length - z.1) z.1 (z.2.1,z.2.2.1,z.2.2.2.1,z.2.2.2.2.1,z.2.2.2.2.2)=some r) (fun z=>g_.length - z.1) (0,0,0,0,0,0) ?_ ?_ ?_ ?_
  ·exact hk
  ·exact (.c (.c (.c (.c (.c (.c (.c (.c (.c .nil)))))))))
  ·exact List.Sublist.refl _
  ·rintro ⟨i_13,n_7,c_8,c_9,c_10,c_11⟩ hk; (try dsimp only at *);refine T.sr ?_;refine TL.run 1 rfl ?_;refine TL.ns (T.seq ?_);refine T.cond rfl (fun h14=>?_) (fun h14=>?_)
   ·have p14:=of_decide_eq_true h14;rw [zar (by omega)] at hk;generalize hn12:zai f12 kk12 (g_.length - (i_13+1)) (i_13+1)=next12 at hk;rw [←hf12] at hk; (try dsimp only at hk);refine T.skip (K.seq (T.seq (T.block (T.sr ?_))));refine TL.y (Yv.ao (i:=i_13) rfl rfl rfl hg_ (List.length_map _) rfl (by omega)) ?_;refine TL.y (Yv.aI 4 (i:=i_13) rfl rfl rfl hg_ (by omega) rfl rfl rfl) ?_;refine TL.e (Ew.alloc rfl) ?_;rintro _ _ ⟨g11,rfl,rfl⟩;refine TL.e0 (Ew.ak 0 rfl rfl rfl rfl rfl rfl) ?_;rintro _ _ ⟨rfl,rfl⟩;refine TL.ns (T.seq (T.seq ?_));have hq:(0≤(nth g_ i_13).Station∧(nth g_ i_13).Station<(512:Int))∧_:=zaE hk;clear hk;obtain ⟨g22,hk⟩:=hq; (try dsimp only at hk);refine T.as (.still 0 (.still 1 (.still 2 (.still 3 (.still 4 (.still 5 (.still 6 (.still 7 (.still 8 .done))))))))) _ (by kernel_rfl) (List.Sublist.refl _) ?_;refine TS.run 1 rfl ?_;refine TS.y rfl (Yv.fieldAddr rfl rfl) ?_;refine TS.y rfl (Yv.ac 0 rfl rfl rfl rfl) ?_;refine TS.run 1 rfl ?_;refine TS.y rfl (Yv.ay (i:=((nth g_ i_13).Station).toNat) rfl rfl rfl (by omega) (by omega)) ?_;refine TS.y rfl (Yv.ac 4 rfl rfl rfl (zb8 (by omega) (Vec.cell (i:=((nth g_ i_13).Station).toNat) (by omega)))) ?_;refine TS.y rfl (Yv.fieldAddr rfl rfl) ?_;refine TS.y rfl (Yv.ac 0 rfl rfl rfl rfl) ?_;refine TS.run 1 rfl ?_;refine TS.done ?_;refine K.seq ?_;have hq:=zae hk;clear hk;obtain ⟨k18,hk18,hk⟩:=hq; (try dsimp only at hk);refine T.al (ι:=Int×Int×Int) (fun z=>[(0, .pointer (some ⟨k0_.sp,0,none⟩)),(1, .pointer (some ⟨g1_,0,none⟩)),(2,vg_),(6, .pointer (some ⟨g6,0,none⟩)),(8, .pointer (some ⟨g8,0,none⟩)),(9, .int .i64 z.1),(12,vg_),(13, .int .i64 (g_.length:Int)),(14, .int .i64 (i_13:Int))]) (fun z=>[.row g8 50 [.int .i64 z.2.1, .int .i64 z.2.2], .row g6 50 [.int .i64 c_8, .int .i64 c_9],st2 k0_ v0_ L0_ (!m0_.2), .row g1_ 123 (x1_.1.map vI), .fr F1]) (fun z=>k18 (z.1,z.2.1,z.2.2)=some r) ?_ ?_
    ·refine T.cond rfl (fun h19=>?_) (fun h19=>?_)
     ·have p19:=of_decide_eq_true h19;replace hk:=zab hk h19;refine T.sr ?_;refine TL.y (Yv.am 0 rfl rfl rfl rfl) ?_;refine TL.e0 (Ew.ak 2 rfl rfl rfl rfl rfl rfl) ?_;rintro _ _ ⟨rfl,rfl⟩;refine TL.ns (T.region ?_);refine TL.run 3 rfl ?_;refine TL.nil ?_;refine K.pick [2,1,3,4,5] rfl (by decide) ?_;exact K.aj (wI (n_7+1),(nth g_ i_13).Station,(nth g_ i_13).Channel) hk (.c (.c (.c (.c (.c (.c (.c (.c (.c .nil))))))))) (List.Sublist.refl _)
     ·have p19:=of_decide_eq_false h19;replace hk:=zaa hk h19;refine T.skip ?_;refine K.pick [2,1,3,4,5] rfl (by decide) ?_;exact K.aj (n_7,c_10,c_11) hk (.c (.c (.c (.c (.c (.c (.c (.c (.c .nil))))))))) (List.Sublist.refl _)
    ·rintro ⟨n_15,c_16,c_17⟩ hk; (try dsimp only at *);rw [←hk18] at hk; (try dsimp only at hk);refine T.sr ?_;refine TL.run 2 rfl ?_;refine TL.ns ?_;refine T.cond rfl (fun h20=>?_) (fun h20=>?_)
     ·have p20:=of_decide_eq_true h20;replace hk:=zab hk h20;refine T.sr ?_;refine TL.y (Yv.build rfl rfl) ?_;refine TL.e0 (Ew.ak 1 rfl rfl rfl rfl rfl rfl) ?_;rintro _ _ ⟨rfl,rfl⟩;refine TL.run 1 rfl ?_;refine TL.ns (T.ret (K.ag (K.aa (K.aa (K.ag (K.aa ?_))))));obtain rfl:=Option.some.inj hk;exact K.bu 1 rfl rfl rfl rfl rfl (fun w' hw=>⟨⟨⟩,trivial,rfl,FxM.of (hw.pick (idx:=[2,3,4]) rfl (by decide)) hS0 (Frz.Le.refl _)⟩)
     ·have p20:=of_decide_eq_false h20;replace hk:=zaa hk h20;refine T.skip (K.ad (K.seq (T.region ?_)));refine TL.y (Yv.an rfl rfl rfl (by omega)) ?_;refine TL.run 1 rfl ?_;refine TL.nil ?_;rw [←hn12] at hk;refine K.pick [1,0,2,3,4] rfl (by decide) ?_;exact K.next ((i_13+1),n_15,c_8,c_9,c_16,c_17) hk (by dsimp only;omega) (.c (.c (.c (.c (.c (.c (.c (.c (.c .nil))))))))) (List.Sublist.refl _)
   ·have p14:=of_decide_eq_false h14;rw [zas (by omega),←hkk12] at hk; (try dsimp only at hk);refine T.exit (K.ab (K.ab (K.ae ?_)));exact K.aj (n_7,c_8,c_9,c_10,c_11) hk (.c (.c (.c (.c (.c .nil))))) (List.Sublist.refl _)
 ·rintro ⟨n_1,c_2,c_3,c_4,c_5⟩ hk; (try dsimp only at *);rw [←hk6] at hk; (try dsimp only at hk);refine T.seq (T.seq ?_);refine T.al (ι:=Unit) (fun z=>[(0, .pointer (some ⟨k0_.sp,0,none⟩)),(2,vg_),(6, .pointer (some ⟨g6,0,none⟩)),(8, .pointer (some ⟨g8,0,none⟩)),(9, .int .i64 n_1),(40, .bool ((decide (n_1=0))&&(decide (0<(g_.length:Int)))))]) (fun z=>[.row g6 50 [.int .i64 c_2, .int .i64 c_3], .row g8 50 [.int .i64 c_4, .int .i64 c_5],st2 k0_ v0_ L0_ (!m0_.2), .row g1_ 123 (x1_.1.map vI), .fr F1]) (fun z=>True) ?_ ?_
  ·refine T.region ?_;refine TL.run 3 rfl ?_;refine TL.gs rfl rfl rfl (fun h21=>?_) (fun h21=>?_)
   ·have p21:=of_decide_eq_true h21;refine TL.run 1 rfl ?_;refine TL.y (Yv.ar rfl rfl hg_ (List.length_map _)) ?_;refine TL.run 2 rfl ?_;refine TL.nil ?_;exact K.aj () trivial (.c (.c (.c (.c (.c (.b (zdi h21) .nil)))))) (List.Sublist.refl _)
   ·have p21:=of_decide_eq_false h21;refine TL.run 4 rfl ?_;refine TL.nil ?_;exact K.aj () trivial (.c (.c (.c (.c (.c (.b (zaJ h21).symm .nil)))))) (List.Sublist.refl _)
  ·rintro _ _;refine T.cond rfl (fun h22=>?_) (fun h22=>?_)
   ·have p22:=h22; (try simp only [nfB] at p22);replace hk:=zab hk h22;refine T.sr ?_;refine TL.run 1 rfl ?_;refine TL.y (Yv.ao (i:=0) rfl rfl rfl hg_ (List.length_map _) (show (0:Int)=((0:Nat):Int) from rfl) (by omega)) ?_;refine TL.y (Yv.aI 4 (i:=0) rfl rfl rfl hg_ (by omega) rfl rfl rfl) ?_;refine TL.e0 (Ew.ak 0 rfl rfl rfl rfl rfl rfl) ?_;rintro _ _ ⟨rfl,rfl⟩;refine TL.run 1 rfl ?_;refine TL.ns (T.ret (K.aa ?_));obtain rfl:=Option.some.inj hk;exact K.bu 0 rfl rfl rfl rfl rfl (fun w' hw=>⟨⟨⟩,trivial,rfl,FxM.of (hw.pick (idx:=[2,3,4]) rfl (by decide)) hS0 (Frz.Le.refl _)⟩)
   ·replace hk:=zaa hk h22;refine T.skip (K.seq (T.seq ?_));refine T.al (ι:=Unit) (fun z=>[(6, .pointer (some ⟨g6,0,none⟩)),(7, .bool ((decide (n_1=0))||(zfN m0_ (GChoice.mk c_4 c_5))))]) (fun z=>[.row g6 50 [.int .i64 c_4, .int .i64 c_5], .row g8 50 [.int .i64 c_4, .int .i64 c_5],st2 k0_ v0_ L0_ (!m0_.2), .row g1_ 123 (x1_.1.map vI), .fr F1]) (fun z=>True) ?_ ?_
    ·refine T.as (.still 0 (.still 1 (.still 2 (.still 3 (.still 4 (.still 5 (.eff 6 (.still 7 (.eff 8 (.still 9 .done)))))))))) [.row g8 50 [.int .i64 c_4, .int .i64 c_5],st2 k0_ v0_ L0_ (!m0_.2), .row g1_ 123 (x1_.1.map vI), .fr F1] (by kernel_rfl) Sx ?_;refine TS.y rfl (Yv.am 0 rfl rfl rfl rfl) ?_;refine TS.run 3 rfl ?_;refine TS.gs rfl rfl rfl rfl (fun h23=>?_) (fun h23=>?_)
     ·have p23:=of_decide_eq_true h23;refine TS.run 2 rfl ?_;refine TS.eff ?_;refine TSo.off rfl (Wt.not rfl rfl rfl rfl) rfl rfl ?_;refine TS.run 1 rfl ?_;refine TS.eff ?_;refine TSo.aY rfl (Wt.none rfl) rfl (Ew.ak 0 rfl rfl rfl rfl rfl rfl) ?_;rintro _ _ ⟨rfl,rfl⟩;refine ⟨(fun w hw=>hw.sub Sx),?_⟩;refine TS.run 1 rfl ?_;refine TS.done ?_;exact K.aj () trivial (.c (.b (zbN h23).symm .nil)) (List.Sublist.refl _)
     ·have p23:=of_decide_eq_false h23;refine TS.run 1 rfl ?_;refine TS.y rfl (Yv.am 0 rfl rfl rfl rfl) ?_;refine TS.eff ?_;refine TSo.aD rfl (Wt.some rfl rfl rfl rfl) rfl rfl (Ew.af rfl rfl rfl (fun w hw=>zmA hs0_ tf0_ (hw.get (i:=2) rfl) (hw.fr (i:=4) rfl) (htk hw) (GChoice.mk c_4 c_5))) ?_;rintro _ _ ⟨rfl,rfl⟩;refine ⟨(fun w hw=>hw.sub Sx),?_⟩;refine TS.run 1 rfl ?_;refine TS.eff ?_;refine TSo.aY rfl (Wt.none rfl) rfl (Ew.ak 0 rfl rfl rfl rfl rfl rfl) ?_;rintro _ _ ⟨rfl,rfl⟩;refine ⟨(fun w hw=>hw.sub Sx),?_⟩;refine TS.run 1 rfl ?_;refine TS.done ?_;exact K.aj () trivial (.c (.b (or_f h23) .nil)) (List.Sublist.refl _)
    ·rintro _ _;refine T.ret ?_;obtain rfl:=Option.some.inj hk;exact K.bu 0 rfl rfl rfl rfl rfl (fun w' hw=>⟨⟨⟩,trivial,rfl,FxM.of (hw.pick (idx:=[2,3,4]) rfl (by decide)) hS0 (Frz.Le.refl _)⟩)
def zag (x0_:GStore):Bool:=
 false
theorem zau (F0:Frz)(w:World)(hF0:F0.At w)(x0_:GStore)(g0_:Nat)(k0_512:SK)(v0_512:Value)(L0_512:Ws)(hs0_512:SI x0_.start.1 x0_.start.2 k0_512 L0_512)(tf0_512:TbF F0 k0_512)(zf0_512:SzF F0 k0_512 v0_512 L0_512 (!x0_.start.2.2))(v0_513:Value)(c0_513:List (List Value))(h0_513:OwnD R_List_GChoice.rep F0 1 c0_513 x0_.list)(hO:Hp w (fps [.row g0_ 92 ((x0_.domains.1.map U)++[.pointer (some ⟨k0_512.sp,0,none⟩),v0_513]), .sl v0_513 31 1 x0_.list.length c0_513.flatten]) [.row g0_ 92 ((x0_.domains.1.map U)++[.pointer (some ⟨k0_512.sp,0,none⟩),v0_513]), .sl v0_513 31 1 x0_.list.length c0_513.flatten] w)(hA:∀g,fps [.row g0_ 92 ((x0_.domains.1.map U)++[.pointer (some ⟨k0_512.sp,0,none⟩),v0_513]), .sl v0_513 31 1 x0_.list.length c0_513.flatten] g→¬F0.S g):Calls Tryz.prog 43 #[.pointer (some ⟨g0_,0,none⟩)] w fun e w'=>∃(y:Unit),(True)∧e= .returned (.bool (zag x0_))∧FxM F0 w (fps [.row g0_ 92 ((x0_.domains.1.map U)++[.pointer (some ⟨k0_512.sp,0,none⟩),v0_513]), .sl v0_513 31 1 x0_.list.length c0_513.flatten]) F0 [.row g0_ 92 ((x0_.domains.1.map U)++[.pointer (some ⟨k0_512.sp,0,none⟩),v0_513]), .sl v0_513 31 1 x0_.list.length c0_513.flatten] w':=by
 obtain ⟨r,hk⟩:∃r,zag x0_=r:=⟨_,rfl⟩;rw [hk];unfold zag at hk;haveI:=zcG (hO.own (.sl v0_513 31 1 x0_.list.length c0_513.flatten) (by simp));have hmx0_513:=zcu (hO.own (.sl v0_513 31 1 x0_.list.length c0_513.flatten) (by simp));obtain ⟨S0,F1,rfl,hS0,hp0⟩:=zbz hF0 hO hA;refine zac (hs:=[.row g0_ 92 ((x0_.domains.1.map U)++[.pointer (some ⟨k0_512.sp,0,none⟩),v0_513]), .sl v0_513 31 1 x0_.list.length c0_513.flatten, .fr F1]) Tryz.func43 rfl rfl rfl hp0 ?_;refine T.sr ?_;refine TL.run 1 rfl ?_;refine TL.ns (T.seq ?_);refine T.al (ι:=Unit) (fun z=>[(2, .bool false)]) (fun z=>[.row g0_ 92 ((x0_.domains.1.map U)++[.pointer (some ⟨k0_512.sp,0,none⟩),v0_513]), .sl v0_513 31 1 x0_.list.length c0_513.flatten, .fr F1]) (fun z=>True) ?_ ?_
 ·refine T.region ?_;refine TL.run 1 rfl ?_;refine TL.y (Yv.ba (e:=92) (by kernel_rfl) rfl rfl rfl) ?_;refine TL.run 3 rfl ?_;refine TL.y (Yv.fieldAddr rfl rfl) ?_;refine TL.y (Yv.ac 0 rfl rfl rfl (zb8 (by omega) (zb2 Vec.len (show [.pointer (some ⟨k0_512.sp,0,none⟩),v0_513][0]?=some _ from rfl)))) ?_;refine TL.y (Yv.ba (e:=116) (by kernel_rfl) rfl rfl rfl) ?_;refine TL.run 2 rfl ?_;refine TL.nil ?_;exact K.aj () trivial (.c .nil) (List.Sublist.refl _)
 ·rintro _ _;refine T.ret ?_;subst hk;exact K.ah rfl rfl (fun w' hw=>⟨⟨⟩,trivial,rfl,FxM.of (hw.pick (idx:=[0,1,2]) rfl (by decide)) hS0 (Frz.Le.refl _)⟩)
def zap (x0_:GStore)(g_:List GChoice):Option Bool:=
 (bif !(zaQ g_) then
  some false
  else
  zax (fun (_:Unit)=>
   some true)
  (fun k2=>
   zai (fun (i_4:Nat) (next3:Unit→Option Bool) (_:Unit)=>
    grd (0≤(nth g_ i_4).Station∧(nth g_ i_4).Station<(512:Int)) <|
    grd (0≤(nth g_ i_4).Channel∧(nth g_ i_4).Channel<(64:Int)) <|
    (bif decide (((((Vec.get x0_.domains (((nth g_ i_4).Station).toNat)) >>> (((nth g_ i_4).Channel).toNat)) &&& (1#64)).toNat:Int)=((0#64).toNat:Int)) then
     some false
     else
     next3 ()))
   (fun (_:Unit)=>
    k2 ()) (g_.length - 0) 0 ()))
theorem zaZ (F0:Frz)(w:World)(hF0:F0.At w)(x0_:GStore)(g0_:Nat)(k0_512:SK)(v0_512:Value)(L0_512:Ws)(hs0_512:SI x0_.start.1 x0_.start.2 k0_512 L0_512)(tf0_512:TbF F0 k0_512)(zf0_512:SzF F0 k0_512 v0_512 L0_512 (!x0_.start.2.2))(v0_513:Value)(c0_513:List (List Value))(h0_513:OwnD R_List_GChoice.rep F0 1 c0_513 x0_.list)(g_:List GChoice)(vg_:Value)(hg_:SlC F0 vg_ 2 (g_.map GChoice.enc))(hO:Hp w (fps [.row g0_ 92 ((x0_.domains.1.map U)++[.pointer (some ⟨k0_512.sp,0,none⟩),v0_513]), .sl v0_513 31 1 x0_.list.length c0_513.flatten]) [.row g0_ 92 ((x0_.domains.1.map U)++[.pointer (some ⟨k0_512.sp,0,none⟩),v0_513]), .sl v0_513 31 1 x0_.list.length c0_513.flatten] w)(hA:∀g,fps [.row g0_ 92 ((x0_.domains.1.map U)++[.pointer (some ⟨k0_512.sp,0,none⟩),v0_513]), .sl v0_513 31 1 x0_.list.length c0_513.flatten] g→¬F0.S g)(r:Bool)(hr:zap x0_ g_=some r):Calls Tryz.prog 44 #[.pointer (some ⟨g0_,0,none⟩),vg_] w fun e w'=>∃(y:Unit),(True)∧e= .returned (.bool r)∧FxM F0 w (fps [.row g0_ 92 ((x0_.domains.1.map U)++[.pointer (some ⟨k0_512.sp,0,none⟩),v0_513]), .sl v0_513 31 1 x0_.list.length c0_513.flatten]) F0 [.row g0_ 92 ((x0_.domains.1.map U)++[.pointer (some ⟨k0_512.sp,0,none⟩),v0_513]), .sl v0_513 31 1 x0_.list.length c0_513.flatten] w':=by
 have hk:=hr;unfold zap at hk;haveI:=hg_.oneC;haveI:=zcG (hO.own (.sl v0_513 31 1 x0_.list.length c0_513.flatten) (by simp));have hmx0_513:=zcu (hO.own (.sl v0_513 31 1 x0_.list.length c0_513.flatten) (by simp));obtain ⟨S0,F1,rfl,hS0,hp0⟩:=zbz hF0 hO hA;refine zac (hs:=[.row g0_ 92 ((x0_.domains.1.map U)++[.pointer (some ⟨k0_512.sp,0,none⟩),v0_513]), .sl v0_513 31 1 x0_.list.length c0_513.flatten, .fr F1]) Tryz.func44 rfl rfl rfl hp0 ?_;refine T.sr ?_;refine TL.run 1 rfl ?_;refine TL.ns (T.seq (T.sr ?_));refine TL.run 1 rfl ?_;refine TL.e (Ew.af rfl rfl rfl (fun w hw=>zcS _ w (hw.fr (i:=2) rfl) g_ vg_ hg_)) ?_;rintro _ _ ⟨rfl,rfl⟩;refine TL.run 1 rfl ?_;refine TL.ns ?_;refine T.cond rfl (fun h1=>?_) (fun h1=>?_)
 ·replace hk:=zab hk h1;refine T.sr ?_;refine TL.run 1 rfl ?_;refine TL.ns (T.ret (K.aa ?_));obtain rfl:=Option.some.inj hk;exact K.ah rfl rfl (fun w' hw=>⟨⟨⟩,trivial,rfl,FxM.of (hw.pick (idx:=[0,1,2]) rfl (by decide)) hS0 (Frz.Le.refl _)⟩)
 ·replace hk:=zaa hk h1;refine T.skip (K.seq (T.seq (T.sr ?_)));refine TL.run 1 rfl ?_;refine TL.y (Yv.ar rfl rfl hg_ (List.length_map _)) ?_;have hm11:g_.length≤9223372036854775807:=(List.length_map _)▸hg_.max;refine TL.run 1 rfl ?_;refine TL.ns ?_;have hq:=zae hk;clear hk;obtain ⟨k2,hk2,hk⟩:=hq; (try dsimp only at hk);refine T.al (ι:=Unit) (fun z=>[]) (fun z=>[.row g0_ 92 ((x0_.domains.1.map U)++[.pointer (some ⟨k0_512.sp,0,none⟩),v0_513]), .sl v0_513 31 1 x0_.list.length c0_513.flatten, .fr F1]) (fun z=>k2 ()=some r) ?_ ?_
  ·have hq:=zaj hk;clear hk;obtain ⟨f3,kk3,hf3,hkk3,hk⟩:=hq;refine T.block ?_;refine T.loop (ι:=Nat) (fun z=>[(0, .pointer (some ⟨g0_,0,none⟩)),(10,vg_),(11, .int .i64 (g_.length:Int)),(12, .int .i64 (z:Int))]) (fun z=>[.row g0_ 92 ((x0_.domains.1.map U)++[.pointer (some ⟨k0_512.sp,0,none⟩),v0_513]), .sl v0_513 31 1 x0_.list.length c0_513.flatten, .fr F1]) (fun z=>zai f3 kk3 (g_.length - z) z ()=some r) (fun z=>g_.length - z) 0 ?_ ?_ ?_ ?_
   ·exact hk
   ·exact (.c (.c (.c (.c .nil))))
   ·exact List.Sublist.refl _
   ·rintro i_4 hk;refine T.sr ?_;refine TL.run 1 rfl ?_;refine TL.ns (T.seq ?_);refine T.cond rfl (fun h5=>?_) (fun h5=>?_)
    ·have p5:=of_decide_eq_true h5;rw [zar (by omega)] at hk;generalize hn3:zai f3 kk3 (g_.length - (i_4+1)) (i_4+1)=next3 at hk;rw [←hf3] at hk; (try dsimp only at hk);refine T.skip (K.seq (T.seq (T.block (T.sr ?_))));refine TL.y (Yv.ao (i:=i_4) rfl rfl rfl hg_ (List.length_map _) rfl (by omega)) ?_;refine TL.y (Yv.aI 2 (i:=i_4) rfl rfl rfl hg_ (by omega) rfl rfl rfl) ?_;refine TL.e (Ew.alloc rfl) ?_;rintro _ _ ⟨g6,rfl,rfl⟩;refine TL.e0 (Ew.ak 0 rfl rfl rfl rfl rfl rfl) ?_;rintro _ _ ⟨rfl,rfl⟩;refine TL.ns (T.seq ?_);have hq:(0≤(nth g_ i_4).Station∧(nth g_ i_4).Station<(512:Int))∧_:=zaE hk;clear hk;obtain ⟨g21,hk⟩:=hq;have hq:(0≤(nth g_ i_4).Channel∧(nth g_ i_4).Channel<(64:Int))∧_:=zaE hk;clear hk;obtain ⟨g25,hk⟩:=hq; (try dsimp only at hk);refine T.as (.still 0 (.still 1 (.still 2 (.still 3 (.still 4 (.still 5 (.still 6 (.still 7 (.still 8 (.still 9 (.still 10 (.still 11 .done)))))))))))) _ (by kernel_rfl) (List.Sublist.refl _) ?_;refine TS.run 1 rfl ?_;refine TS.y rfl (Yv.fieldAddr rfl rfl) ?_;refine TS.y rfl (Yv.ac 0 rfl rfl rfl rfl) ?_;refine TS.run 1 rfl ?_;refine TS.y rfl (Yv.fieldAddr rfl rfl) ?_;refine TS.y rfl (Yv.ay (i:=((nth g_ i_4).Station).toNat) rfl rfl rfl (by omega) (by omega)) ?_;refine TS.y rfl (Yv.ac 1 rfl rfl rfl (zb8 (by omega) (zj4 Vec.len (by omega) (Vec.cell (i:=((nth g_ i_4).Station).toNat) (by omega))))) ?_;refine TS.y rfl (Yv.fieldAddr rfl rfl) ?_;refine TS.y rfl (Yv.ac 0 rfl rfl rfl rfl) ?_;refine TS.y rfl (Yv.bf (a:=(Vec.get x0_.domains (((nth g_ i_4).Station).toNat))) (((nth g_ i_4).Channel).toNat) rfl rfl rfl (by omega) (by omega)) ?_;refine TS.y rfl (Yv.be (a:=((Vec.get x0_.domains (((nth g_ i_4).Station).toNat)) >>> (((nth g_ i_4).Channel).toNat))) (b:=1#64) rfl rfl rfl) ?_;refine TS.run 1 rfl ?_;refine TS.done ?_;refine K.seq ?_;refine T.cond rfl (fun h6=>?_) (fun h6=>?_)
     ·replace hk:=zab hk h6;refine T.sr ?_;refine TL.run 1 rfl ?_;refine TL.ns (T.ret (K.ag (K.aa (K.aa (K.ag (K.aa ?_))))));obtain rfl:=Option.some.inj hk;exact K.ah rfl rfl (fun w' hw=>⟨⟨⟩,trivial,rfl,FxM.of (hw.pick (idx:=[1,2,3]) rfl (by decide)) hS0 (Frz.Le.refl _)⟩)
     ·replace hk:=zaa hk h6;refine T.skip (K.ad (K.seq (T.region ?_)));refine TL.y (Yv.an rfl rfl rfl (by omega)) ?_;refine TL.run 1 rfl ?_;refine TL.nil ?_;rw [←hn3] at hk;refine K.pick [1,2,3] rfl (by decide) ?_;exact K.next (i_4+1) hk (by omega) (.c (.c (.c (.c .nil)))) (List.Sublist.refl _)
    ·have p5:=of_decide_eq_false h5;rw [zas (by omega),←hkk3] at hk; (try dsimp only at hk);refine T.exit (K.ab (K.ab (K.ae ?_)));exact K.aj () hk .nil (List.Sublist.refl _)
  ·rintro _ hk;rw [←hk2] at hk; (try dsimp only at hk);refine T.sr ?_;refine TL.run 1 rfl ?_;refine TL.ns (T.ret ?_);obtain rfl:=Option.some.inj hk;exact K.ah rfl rfl (fun w' hw=>⟨⟨⟩,trivial,rfl,FxM.of (hw.pick (idx:=[0,1,2]) rfl (by decide)) hS0 (Frz.Le.refl _)⟩)
def zao (x0_:GStore):Int:=
 (bif (zag x0_) then
  0
  else
  (x0_.list.length:Int))
theorem zbD (F0:Frz)(w:World)(hF0:F0.At w)(x0_:GStore)(g0_:Nat)(k0_512:SK)(v0_512:Value)(L0_512:Ws)(hs0_512:SI x0_.start.1 x0_.start.2 k0_512 L0_512)(tf0_512:TbF F0 k0_512)(zf0_512:SzF F0 k0_512 v0_512 L0_512 (!x0_.start.2.2))(v0_513:Value)(c0_513:List (List Value))(h0_513:OwnD R_List_GChoice.rep F0 1 c0_513 x0_.list)(hO:Hp w (fps [.row g0_ 92 ((x0_.domains.1.map U)++[.pointer (some ⟨k0_512.sp,0,none⟩),v0_513]), .sl v0_513 31 1 x0_.list.length c0_513.flatten]) [.row g0_ 92 ((x0_.domains.1.map U)++[.pointer (some ⟨k0_512.sp,0,none⟩),v0_513]), .sl v0_513 31 1 x0_.list.length c0_513.flatten] w)(hA:∀g,fps [.row g0_ 92 ((x0_.domains.1.map U)++[.pointer (some ⟨k0_512.sp,0,none⟩),v0_513]), .sl v0_513 31 1 x0_.list.length c0_513.flatten] g→¬F0.S g):Calls Tryz.prog 31 #[.pointer (some ⟨g0_,0,none⟩)] w fun e w'=>∃(y:Unit),(True)∧e= .returned (.int .i64 (zao x0_))∧FxM F0 w (fps [.row g0_ 92 ((x0_.domains.1.map U)++[.pointer (some ⟨k0_512.sp,0,none⟩),v0_513]), .sl v0_513 31 1 x0_.list.length c0_513.flatten]) F0 [.row g0_ 92 ((x0_.domains.1.map U)++[.pointer (some ⟨k0_512.sp,0,none⟩),v0_513]), .sl v0_513 31 1 x0_.list.length c0_513.flatten] w':=by
 obtain ⟨r,hk⟩:∃r,zao x0_=r:=⟨_,rfl⟩;rw [hk];unfold zao at hk;haveI:=zcG (hO.own (.sl v0_513 31 1 x0_.list.length c0_513.flatten) (by simp));have hmx0_513:=zcu (hO.own (.sl v0_513 31 1 x0_.list.length c0_513.flatten) (by simp));obtain ⟨S0,F1,rfl,hS0,hp0⟩:=zbz hF0 hO hA;refine zac (hs:=[.row g0_ 92 ((x0_.domains.1.map U)++[.pointer (some ⟨k0_512.sp,0,none⟩),v0_513]), .sl v0_513 31 1 x0_.list.length c0_513.flatten, .fr F1]) Tryz.func31 rfl rfl rfl hp0 ?_;refine T.sr ?_;refine TL.run 1 rfl ?_;refine TL.ns (T.seq (T.sr ?_));refine TL.run 1 rfl ?_;refine TL.e (Ew.aU [0,1,2] [.row g0_ 92 ((x0_.domains.1.map U)++([.pointer (some ⟨k0_512.sp,0,none⟩),v0_513]:List Value)), .sl v0_513 31 1 x0_.list.length c0_513.flatten] [] rfl rfl rfl rfl (by decide) (fun w hw hw2 hF=>zau _ w hF x0_ g0_ k0_512 v0_512 L0_512 hs0_512 tf0_512 zf0_512 v0_513 c0_513 h0_513 hw2.takes.1 hw2.takes.2)) ?_;rintro _ _ ⟨⟨⟩, -,rfl,rfl⟩;dsimp only [List.cons_append,List.nil_append];refine TL.ns ?_;refine T.cond rfl (fun h1=>?_) (fun h1=>?_)
 ·replace hk:=zab hk h1;refine T.sr ?_;refine TL.run 1 rfl ?_;refine TL.ns (T.ret (K.aa ?_));subst hk;exact K.ah rfl rfl (fun w' hw=>⟨⟨⟩,trivial,rfl,FxM.of (hw.pick (idx:=[0,1,2]) rfl (by decide)) hS0 (Frz.Le.refl _)⟩)
 ·replace hk:=zaa hk h1;refine T.skip (K.seq (T.sr ?_));refine TL.run 2 rfl ?_;refine TL.y (Yv.fieldAddr rfl rfl) ?_;refine TL.y (Yv.ac 0 rfl rfl rfl (zb8 (by omega) (zb2 Vec.len (show [.pointer (some ⟨k0_512.sp,0,none⟩),v0_513][1]?=some _ from rfl)))) ?_;refine TL.y (Yv.bk 1 rfl rfl rfl) ?_;refine TL.run 1 rfl ?_;refine TL.ns (T.ret ?_);subst hk;exact K.ah rfl rfl (fun w' hw=>⟨⟨⟩,trivial,rfl,FxM.of (hw.pick (idx:=[0,1,2]) rfl (by decide)) hS0 (Frz.Le.refl _)⟩)
def zaD (x0_:GStore)(g_:List GChoice):Option (Int×List (List GChoice)):=
 (bif (zag x0_) then
  some (1,x0_.list)
  else
  (zap x0_ g_).bind fun r9=>
  (bif !r9 then
   some (2,x0_.list)
   else
   (bif decide (4096≤(x0_.list.length:Int)) then
    some (7,x0_.list)
    else
    grd (room g_.length 16) <|
    grd (room (x0_.list++[g_]).length 24) <|
    some (0,(x0_.list++[g_])))))
theorem za3 (F0:Frz)(w:World)(hF0:F0.At w)(x0_:GStore)(g0_:Nat)(k0_512:SK)(v0_512:Value)(L0_512:Ws)(hs0_512:SI x0_.start.1 x0_.start.2 k0_512 L0_512)(tf0_512:TbF F0 k0_512)(zf0_512:SzF F0 k0_512 v0_512 L0_512 (!x0_.start.2.2))(v0_513:Value)(c0_513:List (List Value))(h0_513:OwnD R_List_GChoice.rep F0 1 c0_513 x0_.list)(g_:List GChoice)(vg_:Value)(hg_:SlC F0 vg_ 2 (g_.map GChoice.enc))(hO:Hp w (fps [.row g0_ 92 ((x0_.domains.1.map U)++[.pointer (some ⟨k0_512.sp,0,none⟩),v0_513]), .sl v0_513 31 1 x0_.list.length c0_513.flatten]) [.row g0_ 92 ((x0_.domains.1.map U)++[.pointer (some ⟨k0_512.sp,0,none⟩),v0_513]), .sl v0_513 31 1 x0_.list.length c0_513.flatten] w)(hA:∀g,fps [.row g0_ 92 ((x0_.domains.1.map U)++[.pointer (some ⟨k0_512.sp,0,none⟩),v0_513]), .sl v0_513 31 1 x0_.list.length c0_513.flatten] g→¬F0.S g)(r:Int×List (List GChoice))(hr:zaD x0_ g_=some r):Calls Tryz.prog 15 #[.pointer (some ⟨g0_,0,none⟩),vg_] w fun e w'=>∃(y:Value×List (List Value)) (G:Frz),(OwnD R_List_GChoice.rep G 1 y.2 r.2)∧e= .returned (.int .i64 r.1)∧FxM F0 w (fps [.row g0_ 92 ((x0_.domains.1.map U)++[.pointer (some ⟨k0_512.sp,0,none⟩),v0_513]), .sl v0_513 31 1 x0_.list.length c0_513.flatten]) G [.row g0_ 92 ((x0_.domains.1.map U)++[.pointer (some ⟨k0_512.sp,0,none⟩),y.1]), .sl y.1 31 1 r.2.length y.2.flatten] w':=by
 have hk:=hr;unfold zaD at hk;haveI:=hg_.oneC;haveI:=zcG (hO.own (.sl v0_513 31 1 x0_.list.length c0_513.flatten) (by simp));have hmx0_513:=zcu (hO.own (.sl v0_513 31 1 x0_.list.length c0_513.flatten) (by simp));obtain ⟨S0,F1,rfl,hS0,hp0⟩:=zbz hF0 hO hA;refine zac (hs:=[.row g0_ 92 ((x0_.domains.1.map U)++[.pointer (some ⟨k0_512.sp,0,none⟩),v0_513]), .sl v0_513 31 1 x0_.list.length c0_513.flatten, .fr F1]) Tryz.func15 rfl rfl rfl hp0 ?_;refine T.sr ?_;refine TL.run 1 rfl ?_;refine TL.ns (T.seq (T.sr ?_));refine TL.run 1 rfl ?_;refine TL.e (Ew.aU [0,1,2] [.row g0_ 92 ((x0_.domains.1.map U)++([.pointer (some ⟨k0_512.sp,0,none⟩),v0_513]:List Value)), .sl v0_513 31 1 x0_.list.length c0_513.flatten] [] rfl rfl rfl rfl (by decide) (fun w hw hw2 hF=>zau _ w hF x0_ g0_ k0_512 v0_512 L0_512 hs0_512 tf0_512 zf0_512 v0_513 c0_513 h0_513 hw2.takes.1 hw2.takes.2)) ?_;rintro _ _ ⟨⟨⟩, -,rfl,rfl⟩;dsimp only [List.cons_append,List.nil_append];refine TL.ns ?_;refine T.cond rfl (fun h1=>?_) (fun h1=>?_)
 ·replace hk:=zab hk h1;refine T.sr ?_;refine TL.run 1 rfl ?_;refine TL.ns (T.ret (K.aa ?_));obtain rfl:=Option.some.inj hk;exact K.ah rfl rfl (fun w' hw=>⟨(v0_513,c0_513),F1.toFrz,h0_513,rfl,FxM.of (hw.pick (idx:=[0,1,2]) rfl (by decide)) hS0 (Frz.Le.refl _)⟩)
 ·replace hk:=zaa hk h1;refine T.skip (K.seq (T.seq (T.seq ?_)));have hq:=zal hk;clear hk;obtain ⟨r9,hr9,hk⟩:=hq; (try dsimp only at hk);refine T.region ?_;refine TL.run 2 rfl ?_;refine TL.e (Ew.aU [0,1,2] [.row g0_ 92 ((x0_.domains.1.map U)++([.pointer (some ⟨k0_512.sp,0,none⟩),v0_513]:List Value)), .sl v0_513 31 1 x0_.list.length c0_513.flatten] [] rfl rfl rfl rfl (by decide) (fun w hw hw2 hF=>zaZ _ w hF x0_ g0_ k0_512 v0_512 L0_512 hs0_512 tf0_512 zf0_512 v0_513 c0_513 h0_513 g_ vg_ hg_ hw2.takes.1 hw2.takes.2 r9 hr9)) ?_;rintro _ _ ⟨⟨⟩, -,rfl,rfl⟩;dsimp only [List.cons_append,List.nil_append];refine TL.run 1 rfl ?_;refine TL.ns ?_;refine T.cond rfl (fun h2=>?_) (fun h2=>?_)
  ·replace hk:=zab hk h2;refine T.sr ?_;refine TL.run 1 rfl ?_;refine TL.ns (T.ret (K.aa ?_));obtain rfl:=Option.some.inj hk;exact K.ah rfl rfl (fun w' hw=>⟨(v0_513,c0_513),F1.toFrz,h0_513,rfl,FxM.of (hw.pick (idx:=[0,1,2]) rfl (by decide)) hS0 (Frz.Le.refl _)⟩)
  ·replace hk:=zaa hk h2;refine T.skip (K.seq (T.seq (T.sr ?_)));refine TL.run 2 rfl ?_;refine TL.y (Yv.fieldAddr rfl rfl) ?_;refine TL.y (Yv.ac 0 rfl rfl rfl (zb8 (by omega) (zb2 Vec.len (show [.pointer (some ⟨k0_512.sp,0,none⟩),v0_513][1]?=some _ from rfl)))) ?_;refine TL.y (Yv.bk 1 rfl rfl rfl) ?_;refine TL.run 1 rfl ?_;refine TL.ns ?_;refine T.cond rfl (fun h3=>?_) (fun h3=>?_)
   ·have p3:=of_decide_eq_true h3;replace hk:=zab hk h3;refine T.sr ?_;refine TL.run 1 rfl ?_;refine TL.ns (T.ret (K.aa ?_));obtain rfl:=Option.some.inj hk;exact K.ah rfl rfl (fun w' hw=>⟨(v0_513,c0_513),F1.toFrz,h0_513,rfl,FxM.of (hw.pick (idx:=[0,1,2]) rfl (by decide)) hS0 (Frz.Le.refl _)⟩)
   ·have p3:=of_decide_eq_false h3;replace hk:=zaa hk h3;refine T.skip (K.seq (T.seq ?_));have hq:(room g_.length 16)∧_:=zaE hk;clear hk;obtain ⟨g23,hk⟩:=hq;have hq:(room (x0_.list++[g_]).length 24)∧_:=zaE hk;clear hk;obtain ⟨g25,hk⟩:=hq; (try dsimp only at hk);refine T.al (ι:=Value×List (List Value)×FzB w (fps [.row g0_ 92 ((x0_.domains.1.map U)++[.pointer (some ⟨k0_512.sp,0,none⟩),v0_513]), .sl v0_513 31 1 x0_.list.length c0_513.flatten]) S0) (fun z=>[]) (fun z=>[.row g0_ 92 ((x0_.domains.1.map U)++[.pointer (some ⟨k0_512.sp,0,none⟩),z.1]), .sl z.1 31 1 (x0_.list++[g_]).length z.2.1.flatten, .fr z.2.2]) (fun z=>OneC z.1∧OwnD R_List_GChoice.rep z.2.2.toFrz 1 z.2.1 (x0_.list++[g_])∧F1.toFrz.Le z.2.2.toFrz) ?_ ?_
    ·refine T.as (.still 0 (.still 1 (.still 2 (.still 3 (.still 5 (.two 4 6 (.eff 6 (.eff 7 (.eff 8 (.still 9 (.still 10 (.eff 11 .done)))))) (.two 4 7 (.eff 7 (.eff 8 (.still 9 (.still 10 (.eff 11 .done))))) (.eff 4 (.eff 8 (.still 9 (.still 10 (.eff 11 .done)))))))))))) [.fr F1] (by kernel_rfl) Sx ?_;refine TS.run 3 rfl ?_;refine TS.y rfl (Yv.fieldAddr rfl rfl) ?_;refine TS.run 1 rfl ?_;refine TS.two ?_ ?_
     ·refine TSo.br rfl (Wt.none rfl) rfl rfl (Yv.ac 0 rfl rfl rfl (zb8 (by omega) (zb2 Vec.len (show [.pointer (some ⟨k0_512.sp,0,none⟩),v0_513][1]?=some _ from rfl)))) (fun w hw=>hw.sub Sx) ?_;refine TS.eff ?_;refine TSo.aD rfl (Wt.none rfl) rfl rfl (Ew.aS 2 rfl rfl rfl rfl (fun w hw hF=>zgZ _ w hF g_ vg_ hg_ g23)) ?_;rintro _ _ ⟨v23_,F3,le1_3,hf23,hq,rfl⟩;obtain rfl:=hq.symm;haveI:=hf23.oneC;refine ⟨(fun w hw=>(hw.frLe (i:=2) rfl le1_3).sub Sx),?_⟩;refine TS.eff ?_;refine TSo.aD rfl (Wt.none rfl) rfl rfl (Ew.buildSlice rfl rfl rfl (by decide)) ?_;rintro _ _ ⟨g24,rfl,rfl⟩;have hl24:OwnD R_List_GChoice.rep F3.toFrz 1 [[v23_]] [g_]:=(OwnD.snoc (OwnD.nil _ _ 1) ⟨_,rfl,hf23⟩ rfl);refine ⟨(fun w hw=>(hw.frLe (i:=3) rfl le1_3).sub Sx),?_⟩;refine TS.eff ?_;refine TSo.aD rfl (Wt.none rfl) rfl rfl (Ew.aQ 2 0 rfl rfl rfl rfl rfl rfl (zce (ys:=[g_]) rfl) (zbI (cs:=c0_513) (ds:=[[v23_]])) g25 (by decide)) ?_;rintro v25 _ ⟨hv25,rfl⟩;have ho25:OwnD R_List_GChoice.rep F3.toFrz 1 (c0_513++[[v23_]]) (x0_.list++[g_]):=(OwnD.snoc (OwnD.mono (rep:=R_List_GChoice.rep) (fun _ _ _ _=>R_List_GChoice.mono) h0_513 le1_3) ⟨_,rfl,hf23⟩ rfl);refine ⟨(fun w hw=>(hw.frLe (i:=3) rfl le1_3).sub Sx),?_⟩;refine TS.run 1 rfl ?_;refine TS.y rfl (Yv.fieldAddr rfl rfl) ?_;refine TS.eff ?_;refine TSo.aY rfl (Wt.none rfl) rfl (Ew.aT 1 ((x0_.domains.1.map U)++[.pointer (some ⟨k0_512.sp,0,none⟩),v25]) rfl rfl rfl rfl (by rw [(zde Vec.len rfl)];first|omega|(simp only [List.length_cons,List.length_nil];omega)) (zfT (by omega) (zfE Vec.len (rfl:[.pointer (some ⟨k0_512.sp,0,none⟩),v0_513].set 1 _=_)))) ?_;rintro _ _ ⟨rfl,rfl⟩;refine ⟨(fun w hw=>(hw.frLe (i:=3) rfl le1_3).sub Sx),?_⟩;refine TS.done ?_;refine K.pick [1,2,3] rfl (by decide) ?_;exact K.aj (v25,(c0_513++[[v23_]]),F3) ⟨inferInstance,ho25,le1_3⟩ .nil (List.Sublist.refl _)
     ·refine TSo.aD rfl (Wt.none rfl) rfl rfl (Ew.aS 2 rfl rfl rfl rfl (fun w hw hF=>zgZ _ w hF g_ vg_ hg_ g23)) ?_;rintro _ _ ⟨v23_,F4,le1_4,hf23,hq,rfl⟩;obtain rfl:=hq.symm;haveI:=hf23.oneC;refine ⟨(fun w hw=>(hw.frLe (i:=2) rfl le1_4).sub Sx),?_⟩;refine TS.two ?_ ?_
      ·refine TSo.br rfl (Wt.none rfl) rfl rfl (Yv.ac 0 rfl rfl rfl (zb8 (by omega) (zb2 Vec.len (show [.pointer (some ⟨k0_512.sp,0,none⟩),v0_513][1]?=some _ from rfl)))) (fun w hw=>(hw.frLe (i:=2) rfl le1_4).sub Sx) ?_;refine TS.eff ?_;refine TSo.aD rfl (Wt.none rfl) rfl rfl (Ew.buildSlice rfl rfl rfl (by decide)) ?_;rintro _ _ ⟨g24,rfl,rfl⟩;have hl24:OwnD R_List_GChoice.rep F4.toFrz 1 [[v23_]] [g_]:=(OwnD.snoc (OwnD.nil _ _ 1) ⟨_,rfl,hf23⟩ rfl);refine ⟨(fun w hw=>(hw.frLe (i:=3) rfl le1_4).sub Sx),?_⟩;refine TS.eff ?_;refine TSo.aD rfl (Wt.none rfl) rfl rfl (Ew.aQ 2 0 rfl rfl rfl rfl rfl rfl (zce (ys:=[g_]) rfl) (zbI (cs:=c0_513) (ds:=[[v23_]])) g25 (by decide)) ?_;rintro v25 _ ⟨hv25,rfl⟩;have ho25:OwnD R_List_GChoice.rep F4.toFrz 1 (c0_513++[[v23_]]) (x0_.list++[g_]):=(OwnD.snoc (OwnD.mono (rep:=R_List_GChoice.rep) (fun _ _ _ _=>R_List_GChoice.mono) h0_513 le1_4) ⟨_,rfl,hf23⟩ rfl);refine ⟨(fun w hw=>(hw.frLe (i:=3) rfl le1_4).sub Sx),?_⟩;refine TS.run 1 rfl ?_;refine TS.y rfl (Yv.fieldAddr rfl rfl) ?_;refine TS.eff ?_;refine TSo.aY rfl (Wt.none rfl) rfl (Ew.aT 1 ((x0_.domains.1.map U)++[.pointer (some ⟨k0_512.sp,0,none⟩),v25]) rfl rfl rfl rfl (by rw [(zde Vec.len rfl)];first|omega|(simp only [List.length_cons,List.length_nil];omega)) (zfT (by omega) (zfE Vec.len (rfl:[.pointer (some ⟨k0_512.sp,0,none⟩),v0_513].set 1 _=_)))) ?_;rintro _ _ ⟨rfl,rfl⟩;refine ⟨(fun w hw=>(hw.frLe (i:=3) rfl le1_4).sub Sx),?_⟩;refine TS.done ?_;refine K.pick [1,2,3] rfl (by decide) ?_;exact K.aj (v25,(c0_513++[[v23_]]),F4) ⟨inferInstance,ho25,le1_4⟩ .nil (List.Sublist.refl _)
      ·refine TSo.aD rfl (Wt.none rfl) rfl rfl (Ew.buildSlice rfl rfl rfl (by decide)) ?_;rintro _ _ ⟨g24,rfl,rfl⟩;have hl24:OwnD R_List_GChoice.rep F4.toFrz 1 [[v23_]] [g_]:=(OwnD.snoc (OwnD.nil _ _ 1) ⟨_,rfl,hf23⟩ rfl);refine ⟨(fun w hw=>(hw.frLe (i:=3) rfl le1_4).sub Sx),?_⟩;refine TS.eff ?_;refine TSo.br rfl (Wt.none rfl) rfl rfl (Yv.ac 1 rfl rfl rfl (zb8 (by omega) (zb2 Vec.len (show [.pointer (some ⟨k0_512.sp,0,none⟩),v0_513][1]?=some _ from rfl)))) (fun w hw=>(hw.frLe (i:=3) rfl le1_4).sub Sx) ?_;refine TS.eff ?_;refine TSo.aD rfl (Wt.none rfl) rfl rfl (Ew.aQ 2 0 rfl rfl rfl rfl rfl rfl (zce (ys:=[g_]) rfl) (zbI (cs:=c0_513) (ds:=[[v23_]])) g25 (by decide)) ?_;rintro v25 _ ⟨hv25,rfl⟩;have ho25:OwnD R_List_GChoice.rep F4.toFrz 1 (c0_513++[[v23_]]) (x0_.list++[g_]):=(OwnD.snoc (OwnD.mono (rep:=R_List_GChoice.rep) (fun _ _ _ _=>R_List_GChoice.mono) h0_513 le1_4) ⟨_,rfl,hf23⟩ rfl);refine ⟨(fun w hw=>(hw.frLe (i:=3) rfl le1_4).sub Sx),?_⟩;refine TS.run 1 rfl ?_;refine TS.y rfl (Yv.fieldAddr rfl rfl) ?_;refine TS.eff ?_;refine TSo.aY rfl (Wt.none rfl) rfl (Ew.aT 1 ((x0_.domains.1.map U)++[.pointer (some ⟨k0_512.sp,0,none⟩),v25]) rfl rfl rfl rfl (by rw [(zde Vec.len rfl)];first|omega|(simp only [List.length_cons,List.length_nil];omega)) (zfT (by omega) (zfE Vec.len (rfl:[.pointer (some ⟨k0_512.sp,0,none⟩),v0_513].set 1 _=_)))) ?_;rintro _ _ ⟨rfl,rfl⟩;refine ⟨(fun w hw=>(hw.frLe (i:=3) rfl le1_4).sub Sx),?_⟩;refine TS.done ?_;refine K.pick [1,2,3] rfl (by decide) ?_;exact K.aj (v25,(c0_513++[[v23_]]),F4) ⟨inferInstance,ho25,le1_4⟩ .nil (List.Sublist.refl _)
    ·rintro ⟨vo1_4,co1_4,F2⟩ ⟨hvo1_4,ho1_4,le1_2⟩; (try dsimp only at *);refine T.sr ?_;refine TL.run 1 rfl ?_;refine TL.ns (T.ret ?_);obtain rfl:=Option.some.inj hk;exact K.ah rfl rfl (fun w' hw=>⟨(vo1_4,co1_4),F2.toFrz,ho1_4,rfl,FxM.of (hw.pick (idx:=[0,1,2]) rfl (by decide)) hS0 le1_2⟩)
def zaw (fuel:Nat)(x0_:GStore)(l:List GChoice):Option ((Option (GProblem×(List GDomain×Bool)))×Bool):=
 zax (fun (m_1:List GDomain×Bool)=>
  zax (fun (m_8:List GDomain×Bool)=>
   some (some (x0_.start.1,m_8),false))
  (fun k9=>
   zbd (fun (next12:(Bool×(List GDomain×Bool))→Option ((Option (GProblem×(List GDomain×Bool)))×Bool)) (s12:Bool×(List GDomain×Bool))=>
    (bif s12.1 then
     (bif !s12.2.2 then
      some (none,true)
      else
      (zbn x0_.start.1 s12.2).bind fun r36=>
      zai (fun (i_20:Nat) (next19:(Bool×(List GDomain×Bool)×Vec 512 Int)→Option ((Option (GProblem×(List GDomain×Bool)))×Bool)) (s19:Bool×(List GDomain×Bool)×Vec 512 Int)=>
       zax (fun (s25:Bool×(List GDomain×Bool)×Vec 512 Int)=>
        next19 (s25.1,s25.2.1,s25.2.2))
       (fun k25=>
        (zbP x0_.start.1 s19.2.1 s19.2.2 (nth x0_.list i_20)).bind fun r49=>
        (bif !r49.2 then
         k25 (s19.1,s19.2.1,s19.2.2)
         else
         (bif decide (((nth x0_.list i_20).length:Int)=0) then
          some (none,true)
          else
          (ze2 fuel x0_.start.1 s19.2.1 false r49.1).bind fun r59=>
          (bif !r59.1.2 then
           some (none,true)
           else
           (zbn x0_.start.1 r59.1).bind fun r63=>
           k25 (true,r59.1,r63))))))
      (fun (s19:Bool×(List GDomain×Bool)×Vec 512 Int)=>
       next12 (s19.1,s19.2.1)) (x0_.list.length - 0) 0 (false,s12.2,r36))
     else
     k9 s12.2)) fuel (true,m_1)))
 (fun k2=>
  zai (fun (i_5:Nat) (next4:(List GDomain×Bool)→Option ((Option (GProblem×(List GDomain×Bool)))×Bool)) (m_3:List GDomain×Bool)=>
   (bif !m_3.2 then
    some (none,true)
    else
    (ze2 fuel x0_.start.1 m_3 true (nth l i_5)).bind fun r30=>
    next4 r30.1))
  (fun (m_3:List GDomain×Bool)=>
   k2 m_3) (l.length - 0) 0 x0_.start.2)
theorem zaH (F0:Frz)(w:World)(hF0:F0.At w)(x0_:GStore)(g0_:Nat)(k0_512:SK)(v0_512:Value)(L0_512:Ws)(hs0_512:SI x0_.start.1 x0_.start.2 k0_512 L0_512)(tf0_512:TbF F0 k0_512)(zf0_512:SzF F0 k0_512 v0_512 L0_512 (!x0_.start.2.2))(v0_513:Value)(c0_513:List (List Value))(h0_513:OwnD R_List_GChoice.rep F0 1 c0_513 x0_.list)(l:List GChoice)(vl:Value)(hl:SlC F0 vl 2 (l.map GChoice.enc))(htab:Tab w)(hO:Hp w (fps [.row g0_ 92 ((x0_.domains.1.map U)++[.pointer (some ⟨k0_512.sp,0,none⟩),v0_513]), .sl v0_513 31 1 x0_.list.length c0_513.flatten]) [.row g0_ 92 ((x0_.domains.1.map U)++[.pointer (some ⟨k0_512.sp,0,none⟩),v0_513]), .sl v0_513 31 1 x0_.list.length c0_513.flatten] w)(hA:∀g,fps [.row g0_ 92 ((x0_.domains.1.map U)++[.pointer (some ⟨k0_512.sp,0,none⟩),v0_513]), .sl v0_513 31 1 x0_.list.length c0_513.flatten] g→¬F0.S g)(hZ:¬fps [.row g0_ 92 ((x0_.domains.1.map U)++[.pointer (some ⟨k0_512.sp,0,none⟩),v0_513]), .sl v0_513 31 1 x0_.list.length c0_513.flatten] 0)(fuel:Nat)(hfu:100000≤fuel)(r:(Option (GProblem×(List GDomain×Bool)))×Bool)(hr:zaw fuel x0_ l=some r):Calls Tryz.prog 45 #[.pointer (some ⟨g0_,0,none⟩),vl] w fun e w'=>((r.1).isSome=true→∃(y:SK×Value×Ws) (G:Frz),(SI (r.1.getD default).1 (r.1.getD default).2 y.1 y.2.2∧TbF G y.1)∧e= .returned (.tuple #[.pointer (some ⟨y.1.sp,0,none⟩), .bool r.2])∧FxM F0 w (fps [.row g0_ 92 ((x0_.domains.1.map U)++[.pointer (some ⟨k0_512.sp,0,none⟩),v0_513]), .sl v0_513 31 1 x0_.list.length c0_513.flatten]) G [.row g0_ 92 ((x0_.domains.1.map U)++[.pointer (some ⟨k0_512.sp,0,none⟩),v0_513]), .sl v0_513 31 1 x0_.list.length c0_513.flatten,st2 y.1 y.2.1 y.2.2 (!(r.1.getD default).2.2)] w')∧((r.1).isSome=false→∃(y:Unit) (G:Frz),(True)∧e= .returned (.tuple #[.pointer none, .bool r.2])∧FxM F0 w (fps [.row g0_ 92 ((x0_.domains.1.map U)++[.pointer (some ⟨k0_512.sp,0,none⟩),v0_513]), .sl v0_513 31 1 x0_.list.length c0_513.flatten]) G [.row g0_ 92 ((x0_.domains.1.map U)++[.pointer (some ⟨k0_512.sp,0,none⟩),v0_513]), .sl v0_513 31 1 x0_.list.length c0_513.flatten] w'):=by
 have hk:=hr;unfold zaw at hk;haveI:=hl.oneC;haveI:=zcG (hO.own (.sl v0_513 31 1 x0_.list.length c0_513.flatten) (by simp));have hmx0_513:=zcu (hO.own (.sl v0_513 31 1 x0_.list.length c0_513.flatten) (by simp));obtain ⟨S0,F1,rfl,hS0,hp0⟩:=zbz hF0 hO hA;have hM0:=hZ;have htk:∀ {hs:HS} {w':World},Hp w (fps [.row g0_ 92 ((x0_.domains.1.map U)++[.pointer (some ⟨k0_512.sp,0,none⟩),v0_513]), .sl v0_513 31 1 x0_.list.length c0_513.flatten]) hs w'→Tab w':=fun hw=>htab.kept hw hZ;refine zac (hs:=[.row g0_ 92 ((x0_.domains.1.map U)++[.pointer (some ⟨k0_512.sp,0,none⟩),v0_513]), .sl v0_513 31 1 x0_.list.length c0_513.flatten, .fr F1]) Tryz.func45 rfl rfl rfl hp0 ?_;refine T.sr ?_;refine TL.run 2 rfl ?_;refine TL.nx ?_;refine TL.run 2 rfl ?_;refine TL.y (Yv.fieldAddr rfl rfl) ?_;refine TL.y (Yv.ac 0 rfl rfl rfl (zb8 (by omega) (zb2 Vec.len (show [.pointer (some ⟨k0_512.sp,0,none⟩),v0_513][0]?=some _ from rfl)))) ?_;refine TL.e (Ew.aH [2,0,1] [] [.row g0_ 92 ((x0_.domains.1.map U)++([.pointer (some ⟨k0_512.sp,0,none⟩),v0_513]:List Value)), .sl v0_513 31 1 x0_.list.length c0_513.flatten] rfl rfl rfl rfl (by decide) (fun w hw hw2 hF=>zlX hs0_512 tf0_512 (zf0_512 w hF) hF (htk hw))) ?_;rintro _ _ ⟨⟨k19_,v19_⟩,F2,le1_2,⟨hs19,tf19⟩,rfl,rfl⟩;dsimp only [List.cons_append,List.nil_append]; (try dsimp only at hs19 tf19);refine TL.run 1 rfl ?_;refine TL.ns (T.seq (T.sr ?_));refine TL.run 1 rfl ?_;refine TL.y (Yv.ar rfl rfl (SlC.mono hl le1_2) (List.length_map _)) ?_;have hm21:l.length≤9223372036854775807:=(List.length_map _)▸(SlC.mono hl le1_2).max;refine TL.run 1 rfl ?_;refine TL.ns ?_;have hq:=zae hk;clear hk;obtain ⟨k2,hk2,hk⟩:=hq; (try dsimp only at hk);refine T.al (ι:=(List GDomain×Bool)×Ws) (fun z=>[(0, .pointer (some ⟨g0_,0,none⟩)),(6, .pointer (some ⟨k19_.sp,0,none⟩))]) (fun z=>[st2 k19_ v19_ z.2 (!z.1.2), .row g0_ 92 ((x0_.domains.1.map U)++[.pointer (some ⟨k0_512.sp,0,none⟩),v0_513]), .sl v0_513 31 1 x0_.list.length c0_513.flatten, .fr F2]) (fun z=>k2 z.1=some r∧SI x0_.start.1 z.1 k19_ z.2) ?_ ?_
 ·have hq:=zaj hk;clear hk;obtain ⟨f4,kk4,hf4,hkk4,hk⟩:=hq;refine T.block ?_;refine T.pick [0,2,3,1] rfl (by decide) ?_;refine T.loop (ι:=Nat×(List GDomain×Bool)×Ws) (fun z=>[(0, .pointer (some ⟨g0_,0,none⟩)),(6, .pointer (some ⟨k19_.sp,0,none⟩)),(20,vl),(21, .int .i64 (l.length:Int)),(22, .int .i64 (z.1:Int))]) (fun z=>[st2 k19_ v19_ z.2.2 (!z.2.1.2), .row g0_ 92 ((x0_.domains.1.map U)++[.pointer (some ⟨k0_512.sp,0,none⟩),v0_513]), .sl v0_513 31 1 x0_.list.length c0_513.flatten, .fr F2]) (fun z=>zai f4 kk4 (l.length - z.1) z.1 z.2.1=some r∧SI x0_.start.1 z.2.1 k19_ z.2.2) (fun z=>l.length - z.1) (0,x0_.start.2,L0_512) ?_ ?_ ?_ ?_
  ·exact ⟨hk,hs19⟩
  ·exact (.c (.c (.c (.c (.c .nil)))))
  ·exact List.Sublist.refl _
  ·rintro ⟨i_5,m_3,Lm_3⟩ ⟨hk,hsm_3⟩; (try dsimp only at *);refine T.sr ?_;refine TL.run 1 rfl ?_;refine TL.ns (T.seq ?_);refine T.cond rfl (fun h6=>?_) (fun h6=>?_)
   ·have p6:=of_decide_eq_true h6;rw [zar (by omega)] at hk;generalize hn4:zai f4 kk4 (l.length - (i_5+1)) (i_5+1)=next4 at hk;rw [←hf4] at hk; (try dsimp only at hk);refine T.skip (K.seq (T.seq (T.block (T.sr ?_))));refine TL.y (Yv.ao (i:=i_5) rfl rfl rfl (SlC.mono hl le1_2) (List.length_map _) rfl (by omega)) ?_;refine TL.y (Yv.aI 3 (i:=i_5) rfl rfl rfl (SlC.mono hl le1_2) (by omega) rfl rfl rfl) ?_;refine TL.e (Ew.alloc rfl) ?_;rintro _ _ ⟨g8,rfl,rfl⟩;refine TL.e0 (Ew.ak 0 rfl rfl rfl rfl rfl rfl) ?_;rintro _ _ ⟨rfl,rfl⟩;refine TL.ns (T.seq (T.sr ?_));refine TL.run 1 rfl ?_;refine TL.e (Ew.af rfl rfl rfl (fun w hw=>zd8 hsm_3 tf19 (hw.get (i:=1) rfl) (hw.fr (i:=4) rfl) (htk hw))) ?_;rintro _ _ ⟨rfl,rfl⟩;refine TL.ns ?_;refine T.cond rfl (fun h7=>?_) (fun h7=>?_)
    ·replace hk:=zab hk h7;refine T.sr ?_;refine TL.run 2 rfl ?_;refine TL.ns (T.ret (K.aa (K.ag (K.aa (K.aa (K.ag (K.aa ?_)))))));obtain rfl:=Option.some.inj hk;exact K.aN rfl rfl rfl (fun w' hw=>⟨fun h=>(by cases h),fun _=>⟨⟨⟩,F2.toFrz,trivial,rfl,FxM.of (hw.pick (idx:=[2,3,4]) rfl (by decide)) hS0 le1_2⟩⟩)
    ·replace hk:=zaa hk h7;refine T.skip (K.seq ?_);have hq:=zal hk;clear hk;obtain ⟨r30,hr30,hk⟩:=hq; (try dsimp only at hk);refine T.region ?_;refine TL.run 1 rfl ?_;refine TL.y (Yv.am 0 rfl rfl rfl rfl) ?_;refine TL.e (Ew.bB 1 rfl rfl rfl rfl (fun w hw=>zjT hsm_3 tf19 (hw.get (i:=1) rfl) (hw.fr (i:=4) rfl) (hw.apartF (i:=1) (j:=4) rfl rfl (by decide)) (htk hw) hfu (nth l i_5) hr30)) ?_;rintro _ _ ⟨L30_,hs30,rfl,rfl⟩;refine TL.nil (K.ad (K.seq (T.region ?_)));refine TL.y (Yv.an rfl rfl rfl (by omega)) ?_;refine TL.run 1 rfl ?_;refine TL.nil ?_;rw [←hn4] at hk;refine K.pick [1,2,3,4] rfl (by decide) ?_;exact K.next ((i_5+1),r30.1,L30_) ⟨hk,hs30⟩ (by dsimp only;omega) (.c (.c (.c (.c (.c .nil))))) (List.Sublist.refl _)
   ·have p6:=of_decide_eq_false h6;rw [zas (by omega),←hkk4] at hk; (try dsimp only at hk);refine T.exit (K.ab (K.ab (K.ae ?_)));exact K.aj (m_3,Lm_3) ⟨hk,hsm_3⟩ (.c (.c .nil)) (List.Sublist.refl _)
 ·rintro ⟨m_1,Lm_1⟩ ⟨hk,hsm_1⟩; (try dsimp only at *);rw [←hk2] at hk; (try dsimp only at hk);refine T.seq (T.sr ?_);refine TL.run 1 rfl ?_;refine TL.ns ?_;have hq:=zae hk;clear hk;obtain ⟨k9,hk9,hk⟩:=hq; (try dsimp only at hk);refine T.al (ι:=(List GDomain×Bool)×Ws×FzB w (fps [.row g0_ 92 ((x0_.domains.1.map U)++[.pointer (some ⟨k0_512.sp,0,none⟩),v0_513]), .sl v0_513 31 1 x0_.list.length c0_513.flatten]) S0) (fun z=>[(6, .pointer (some ⟨k19_.sp,0,none⟩))]) (fun z=>[st2 k19_ v19_ z.2.1 (!z.1.2), .row g0_ 92 ((x0_.domains.1.map U)++[.pointer (some ⟨k0_512.sp,0,none⟩),v0_513]), .sl v0_513 31 1 x0_.list.length c0_513.flatten, .fr z.2.2]) (fun z=>k9 z.1=some r∧SI x0_.start.1 z.1 k19_ z.2.1∧F2.toFrz.Le z.2.2.toFrz) ?_ ?_
  ·have hq:=zb3 hk;clear hk;obtain ⟨f12,hf12,hk⟩:=hq;refine T.block ?_;refine T.loop (ι:=Nat×Bool×(List GDomain×Bool)×Ws×FzB w (fps [.row g0_ 92 ((x0_.domains.1.map U)++[.pointer (some ⟨k0_512.sp,0,none⟩),v0_513]), .sl v0_513 31 1 x0_.list.length c0_513.flatten]) S0) (fun z=>[(0, .pointer (some ⟨g0_,0,none⟩)),(6, .pointer (some ⟨k19_.sp,0,none⟩)),(9, .bool z.2.1)]) (fun z=>[st2 k19_ v19_ z.2.2.2.1 (!z.2.2.1.2), .row g0_ 92 ((x0_.domains.1.map U)++[.pointer (some ⟨k0_512.sp,0,none⟩),v0_513]), .sl v0_513 31 1 x0_.list.length c0_513.flatten, .fr z.2.2.2.2]) (fun z=>zbd f12 z.1 (z.2.1,z.2.2.1)=some r∧SI x0_.start.1 z.2.2.1 k19_ z.2.2.2.1∧F2.toFrz.Le z.2.2.2.2.toFrz) (fun z=>z.1) (fuel,true,m_1,Lm_1,F2) ?_ ?_ ?_ ?_
   ·exact ⟨hk,hsm_1,(Frz.Le.refl _)⟩
   ·exact (.c (.c (.c .nil)))
   ·exact List.Sublist.refl _
   ·rintro ⟨m_13,changed_10,m_11,Lm_11,F4⟩ ⟨hk,hsm_11,le2_4⟩; (try dsimp only at *);have le1_4:=le1_2.trans le2_4;have hq:=zco hk;clear hk;obtain ⟨m_13',rfl,hk⟩:=hq;generalize hn12:zbd f12 m_13'=next12 at hk;rw [←hf12] at hk; (try dsimp only at hk);refine T.seq (T.sr ?_);refine TL.run 1 rfl ?_;refine TL.ns ?_;refine T.cond rfl (fun h14=>?_) (fun h14=>?_)
    ·replace hk:=zab hk h14;refine T.skip (K.seq (T.block (T.seq (T.sr ?_))));refine TL.run 1 rfl ?_;refine TL.e (Ew.af rfl rfl rfl (fun w hw=>zd8 hsm_11 (tf19.mono le2_4) (hw.get (i:=0) rfl) (hw.fr (i:=3) rfl) (htk hw))) ?_;rintro _ _ ⟨rfl,rfl⟩;refine TL.ns ?_;refine T.cond rfl (fun h15=>?_) (fun h15=>?_)
     ·replace hk:=zab hk h15;refine T.sr ?_;refine TL.run 2 rfl ?_;refine TL.ns (T.ret (K.aa (K.ag (K.aa (K.ag (K.aa ?_))))));obtain rfl:=Option.some.inj hk;exact K.aN rfl rfl rfl (fun w' hw=>⟨fun h=>(by cases h),fun _=>⟨⟨⟩,F4.toFrz,trivial,rfl,FxM.of (hw.pick (idx:=[1,2,3]) rfl (by decide)) hS0 le1_4⟩⟩)
     ·replace hk:=zaa hk h15;refine T.skip (K.seq (T.sr ?_));refine TL.run 1 rfl ?_;refine TL.ns (T.seq ?_);have hq:=zal hk;clear hk;obtain ⟨r36,hr36,hk⟩:=hq; (try dsimp only at hk);refine T.region ?_;refine TL.run 1 rfl ?_;refine TL.e (Ew.aH [0,3,1,2] [st2 k19_ v19_ Lm_11 (!m_11.2)] [.row g0_ 92 ((x0_.domains.1.map U)++([.pointer (some ⟨k0_512.sp,0,none⟩),v0_513]:List Value)), .sl v0_513 31 1 x0_.list.length c0_513.flatten] rfl rfl rfl rfl (by decide) (fun w hw hw2 hF=>zdn _ w hF x0_.start.1 m_11 k19_ v19_ Lm_11 hsm_11 (tf19.mono le2_4) (htk hw) hw2.takes.1 hw2.takes.2 (hw2.takes0 hM0 htab.pos) r36 hr36)) ?_;rintro _ _ ⟨⟨⟩,F5,le4_5, -,rfl,rfl⟩;dsimp only [List.cons_append,List.nil_append];have le1_5:=le1_4.trans le4_5;have le2_5:=le2_4.trans le4_5;refine TL.e (Ew.bp (l:=((Vec.fill 512 0).1.map vI)) rfl (by kernel_rfl)) ?_;rintro _ _ ⟨g10,rfl,rfl⟩;refine TL.e0 (Ew.ak 0 rfl rfl rfl rfl Vec.len (Vec.len.trans Vec.len.symm)) ?_;rintro _ _ ⟨rfl,rfl⟩;refine TL.nx ?_;refine TL.run 2 rfl ?_;refine TL.y (Yv.fieldAddr rfl rfl) ?_;refine TL.y (Yv.ac 3 rfl rfl rfl (zb8 (by omega) (zb2 Vec.len (show [.pointer (some ⟨k0_512.sp,0,none⟩),v0_513][1]?=some _ from rfl)))) ?_;refine TL.y (Yv.bk 4 rfl rfl rfl) ?_;refine TL.run 1 rfl ?_;refine TL.ns ?_;have hq:=zaj hk;clear hk;obtain ⟨f19,kk19,hf19,hkk19,hk⟩:=hq;refine T.block ?_;refine T.pick [1,0,3,4,2] rfl (by decide) ?_;refine T.loop (ι:=Nat×Bool×(List GDomain×Bool)×Ws×Vec 512 Int×FzB w (fps [.row g0_ 92 ((x0_.domains.1.map U)++[.pointer (some ⟨k0_512.sp,0,none⟩),v0_513]), .sl v0_513 31 1 x0_.list.length c0_513.flatten]) S0) (fun z=>[(0, .pointer (some ⟨g0_,0,none⟩)),(6, .pointer (some ⟨k19_.sp,0,none⟩)),(9, .bool z.2.1),(10, .pointer (some ⟨g10,0,none⟩)),(40,v0_513),(41, .int .i64 (x0_.list.length:Int)),(42, .int .i64 (z.1:Int))]) (fun z=>[st2 k19_ v19_ z.2.2.2.1 (!z.2.2.1.2), .row g10 123 (z.2.2.2.2.1.1.map vI), .row g0_ 92 ((x0_.domains.1.map U)++[.pointer (some ⟨k0_512.sp,0,none⟩),v0_513]), .sl v0_513 31 1 x0_.list.length c0_513.flatten, .fr z.2.2.2.2.2]) (fun z=>zai f19 kk19 (x0_.list.length - z.1) z.1 (z.2.1,z.2.2.1,z.2.2.2.2.1)=some r∧SI x0_.start.1 z.2.2.1 k19_ z.2.2.2.1∧F5.toFrz.Le z.2.2.2.2.2.toFrz) (fun z=>x0_.list.length - z.1) (0,false,m_11,Lm_11,r36,F5) ?_ ?_ ?_ ?_
      ·exact ⟨hk,hsm_11,(Frz.Le.refl _)⟩
      ·exact (.c (.c (.c (.c (.c (.c (.c .nil)))))))
      ·exact List.Sublist.refl _
      ·rintro ⟨i_20,changed_16,m_17,Lm_17,c_18,F6⟩ ⟨hk,hsm_17,le5_6⟩; (try dsimp only at *);have le1_6:=le1_5.trans le5_6;have le2_6:=le2_5.trans le5_6;refine T.sr ?_;refine TL.run 1 rfl ?_;refine TL.ns (T.seq ?_);refine T.cond rfl (fun h21=>?_) (fun h21=>?_)
       ·have p21:=of_decide_eq_true h21;rw [zar (by omega)] at hk;generalize hn19:zai f19 kk19 (x0_.list.length - (i_20+1)) (i_20+1)=next19 at hk;rw [←hf19] at hk; (try dsimp only at hk);refine T.skip (K.seq (T.seq ?_));have hq:=zae hk;clear hk;obtain ⟨k25,hk25,hk⟩:=hq; (try dsimp only at hk);refine T.al (ι:=Bool×(List GDomain×Bool)×Ws×Vec 512 Int×FzB w (fps [.row g0_ 92 ((x0_.domains.1.map U)++[.pointer (some ⟨k0_512.sp,0,none⟩),v0_513]), .sl v0_513 31 1 x0_.list.length c0_513.flatten]) S0) (fun z=>[(0, .pointer (some ⟨g0_,0,none⟩)),(6, .pointer (some ⟨k19_.sp,0,none⟩)),(9, .bool z.1),(10, .pointer (some ⟨g10,0,none⟩)),(40,v0_513),(41, .int .i64 (x0_.list.length:Int)),(42, .int .i64 (i_20:Int))]) (fun z=>[st2 k19_ v19_ z.2.2.1 (!z.2.1.2), .row g10 123 (z.2.2.2.1.1.map vI), .row g0_ 92 ((x0_.domains.1.map U)++[.pointer (some ⟨k0_512.sp,0,none⟩),v0_513]), .sl v0_513 31 1 x0_.list.length c0_513.flatten, .fr z.2.2.2.2]) (fun z=>k25 (z.1,z.2.1,z.2.2.2.1)=some r∧SI x0_.start.1 z.2.1 k19_ z.2.2.1∧F6.toFrz.Le z.2.2.2.2.toFrz) ?_ ?_
        ·refine T.block (T.sr ?_);refine TL.y (Yv.bZ 3 (i:=i_20) rfl rfl rfl rfl rfl (by omega)) ?_;refine TL.y (Yv.ck 3 rfl rfl rfl (by omega) ((zdr _ (OwnD.mono (rep:=R_List_GChoice.rep) (fun _ _ _ _=>R_List_GChoice.mono) h0_513 le1_6).2.1 i_20 (by have:=(OwnD.mono (rep:=R_List_GChoice.rep) (fun _ _ _ _=>R_List_GChoice.mono) h0_513 le1_6).1;omega) 0 (by decide)).trans (R_List_GChoice.c0 ((OwnD.mono (rep:=R_List_GChoice.rep) (fun _ _ _ _=>R_List_GChoice.mono) h0_513 le1_6).2.2 i_20 (by omega))).1)) ?_;have hd45_0:=(R_List_GChoice.c0 ((OwnD.mono (rep:=R_List_GChoice.rep) (fun _ _ _ _=>R_List_GChoice.mono) h0_513 le1_6).2.2 i_20 (by omega))).2;haveI:=hd45_0.oneC;refine TL.run 1 rfl ?_;refine TL.ns (T.seq ?_);have hq:=zal hk;clear hk;obtain ⟨r49,hr49,hk⟩:=hq; (try dsimp only at hk);refine T.region ?_;refine TL.run 2 rfl ?_;refine TL.e (Ew.aU [0,1,4,2,3] [st2 k19_ v19_ Lm_17 (!m_17.2), .row g10 123 (c_18.1.map vI)] [.row g0_ 92 ((x0_.domains.1.map U)++([.pointer (some ⟨k0_512.sp,0,none⟩),v0_513]:List Value)), .sl v0_513 31 1 x0_.list.length c0_513.flatten] rfl rfl rfl rfl (by decide) (fun w hw hw2 hF=>zfs _ w hF x0_.start.1 m_17 k19_ v19_ Lm_17 hsm_17 (tf19.mono le2_6) c_18 g10 (nth x0_.list i_20) (nth (nth c0_513 i_20) 0) hd45_0 (htk hw) hw2.takes.1 hw2.takes.2 (hw2.takes0 hM0 htab.pos) r49 hr49)) ?_;rintro _ _ ⟨⟨⟩, -,rfl,rfl⟩;dsimp only [List.cons_append,List.nil_append];refine TL.run 3 rfl ?_;refine TL.e (Ew.alloc rfl) ?_;rintro _ _ ⟨g13,rfl,rfl⟩;refine TL.e0 (Ew.ak 0 rfl rfl rfl rfl rfl rfl) ?_;rintro _ _ ⟨rfl,rfl⟩;refine TL.run 1 rfl ?_;refine TL.ns (T.seq (T.sr ?_));refine TL.run 2 rfl ?_;refine TL.ns ?_;refine T.cond rfl (fun h26=>?_) (fun h26=>?_)
         ·replace hk:=zab hk h26;refine T.exit (K.ab (K.ae ?_));refine K.pick [1,2,4,5,3] rfl (by decide) ?_;exact K.aj (changed_16,m_17,Lm_17,c_18,F6) ⟨hk,hsm_17,(Frz.Le.refl _)⟩ (.c (.c (.c (.c (.c (.c (.c .nil))))))) (List.Sublist.refl _)
         ·replace hk:=zaa hk h26;refine T.skip (K.seq (T.seq (T.sr ?_)));refine TL.run 1 rfl ?_;refine TL.y (Yv.ar rfl rfl hd45_0 (List.length_map _)) ?_;have hm55:(nth x0_.list i_20).length≤9223372036854775807:=(List.length_map _)▸hd45_0.max;refine TL.run 1 rfl ?_;refine TL.ns ?_;refine T.cond rfl (fun h27=>?_) (fun h27=>?_)
          ·have p27:=of_decide_eq_true h27;replace hk:=zab hk h27;refine T.sr ?_;refine TL.run 2 rfl ?_;refine TL.ns (T.ret (K.aa (K.ag (K.aa (K.aa (K.ag (K.ag (K.aa (K.ag (K.aa ?_))))))))));obtain rfl:=Option.some.inj hk;exact K.aN rfl rfl rfl (fun w' hw=>⟨fun h=>(by cases h),fun _=>⟨⟨⟩,F6.toFrz,trivial,rfl,FxM.of (hw.pick (idx:=[4,5,3]) rfl (by decide)) hS0 le1_6⟩⟩)
          ·have p27:=of_decide_eq_false h27;replace hk:=zaa hk h27;refine T.skip (K.seq (T.seq ?_));have hq:=zal hk;clear hk;obtain ⟨r59,hr59,hk⟩:=hq; (try dsimp only at hk);refine T.region ?_;refine TL.run 1 rfl ?_;refine TL.y (Yv.am 0 rfl rfl rfl rfl) ?_;refine TL.e (Ew.bB 1 rfl rfl rfl rfl (fun w hw=>zkp hsm_17 (tf19.mono le2_6) (hw.get (i:=1) rfl) (hw.fr (i:=3) rfl) (hw.apartF (i:=1) (j:=3) rfl rfl (by decide)) (htk hw) hfu r49.1 hr59)) ?_;rintro _ _ ⟨L59_,hs59,rfl,rfl⟩;refine TL.ns (T.seq (T.sr ?_));refine TL.run 1 rfl ?_;refine TL.e (Ew.af rfl rfl rfl (fun w hw=>zd8 hs59 (tf19.mono le2_6) (hw.get (i:=1) rfl) (hw.fr (i:=3) rfl) (htk hw))) ?_;rintro _ _ ⟨rfl,rfl⟩;refine TL.ns ?_;refine T.cond rfl (fun h28=>?_) (fun h28=>?_)
           ·replace hk:=zab hk h28;refine T.sr ?_;refine TL.run 2 rfl ?_;refine TL.ns (T.ret (K.aa (K.ag (K.aa (K.aa (K.ag (K.ag (K.aa (K.ag (K.aa ?_))))))))));obtain rfl:=Option.some.inj hk;exact K.aN rfl rfl rfl (fun w' hw=>⟨fun h=>(by cases h),fun _=>⟨⟨⟩,F6.toFrz,trivial,rfl,FxM.of (hw.pick (idx:=[4,5,3]) rfl (by decide)) hS0 le1_6⟩⟩)
           ·replace hk:=zaa hk h28;refine T.skip (K.seq ?_);have hq:=zal hk;clear hk;obtain ⟨r63,hr63,hk⟩:=hq; (try dsimp only at hk);refine T.region ?_;refine TL.run 1 rfl ?_;refine TL.e (Ew.aH [1,3,0,2,4,5] [st2 k19_ v19_ L59_ (!r59.1.2)] [.row g13 50 [.int .i64 r49.1.Station, .int .i64 r49.1.Channel], .row g10 123 (c_18.1.map vI), .row g0_ 92 ((x0_.domains.1.map U)++([.pointer (some ⟨k0_512.sp,0,none⟩),v0_513]:List Value)), .sl v0_513 31 1 x0_.list.length c0_513.flatten] rfl rfl rfl rfl (by decide) (fun w hw hw2 hF=>zdn _ w hF x0_.start.1 r59.1 k19_ v19_ L59_ hs59 (tf19.mono le2_6) (htk hw) hw2.takes.1 hw2.takes.2 (hw2.takes0 hM0 htab.pos) r63 hr63)) ?_;rintro _ _ ⟨⟨⟩,F8,le6_8, -,rfl,rfl⟩;dsimp only [List.cons_append,List.nil_append];refine TL.e0 (Ew.ak 3 rfl rfl rfl rfl Vec.len (Vec.len.trans Vec.len.symm)) ?_;rintro _ _ ⟨rfl,rfl⟩;refine TL.run 1 rfl ?_;refine TL.nil (K.ad ?_);refine K.pick [0,3,4,5,1] rfl (by decide) ?_;exact K.aj (true,r59.1,L59_,r63,F8) ⟨hk,hs59,le6_8⟩ (.c (.c (.c (.c (.c (.c (.c .nil))))))) (List.Sublist.refl _)
        ·rintro ⟨changed_22,m_23,Lm_23,c_24,F7⟩ ⟨hk,hsm_23,le6_7⟩; (try dsimp only at *);rw [←hk25] at hk; (try dsimp only at hk);have le5_7:=le5_6.trans le6_7;refine T.region ?_;refine TL.y (Yv.an rfl rfl rfl (by omega)) ?_;refine TL.run 1 rfl ?_;refine TL.nil ?_;rw [←hn19] at hk;exact K.next ((i_20+1),changed_22,m_23,Lm_23,c_24,F7) ⟨hk,hsm_23,le5_7⟩ (by dsimp only;omega) (.c (.c (.c (.c (.c (.c (.c .nil))))))) (List.Sublist.refl _)
       ·have p21:=of_decide_eq_false h21;rw [zas (by omega),←hkk19] at hk; (try dsimp only at hk);refine T.exit (K.ab (K.ab (K.ae (K.ad ?_))));rw [←hn12] at hk;refine K.pick [0,2,3,4] rfl (by decide) ?_;exact K.next (m_13',changed_16,m_17,Lm_17,F6) ⟨hk,hsm_17,le2_6⟩ (by dsimp only;omega) (.c (.c (.c .nil))) (List.Sublist.refl _)
    ·replace hk:=zaa hk h14;refine T.exit (K.ab (K.ab (K.ae ?_)));exact K.aj (m_11,Lm_11,F4) ⟨hk,hsm_11,le2_4⟩ (.c .nil) (List.Sublist.refl _)
  ·rintro ⟨m_8,Lm_8,F3⟩ ⟨hk,hsm_8,le2_3⟩; (try dsimp only at *);rw [←hk9] at hk; (try dsimp only at hk);have le1_3:=le1_2.trans le2_3;refine T.sr ?_;refine TL.run 3 rfl ?_;refine TL.ns (T.ret ?_);obtain rfl:=Option.some.inj hk;exact K.aN rfl rfl rfl (fun w' hw=>⟨fun _=>⟨(k19_,v19_,Lm_8),F3.toFrz,⟨hsm_8,(tf19.mono le2_3)⟩,rfl,FxM.of (hw.pick (idx:=[1,2,0,3]) rfl (by decide)) hS0 le1_3⟩,fun h=>(by cases h)⟩)
def zaV (fuel:Nat)(x0_:GStore)(g_:List GChoice):Option (Bool×Int):=
 (bif (zag x0_) then
  some (false,1)
  else
  (zap x0_ g_).bind fun r12=>
  (bif !r12 then
   some (false,2)
   else
   (zaw fuel x0_ g_).bind fun r17=>
   (bif (r17.1).isSome then
    some (r17.2,0)
    else
    some (r17.2,0))))
theorem zb7 (F0:Frz)(w:World)(hF0:F0.At w)(x0_:GStore)(g0_:Nat)(k0_512:SK)(v0_512:Value)(L0_512:Ws)(hs0_512:SI x0_.start.1 x0_.start.2 k0_512 L0_512)(tf0_512:TbF F0 k0_512)(zf0_512:SzF F0 k0_512 v0_512 L0_512 (!x0_.start.2.2))(v0_513:Value)(c0_513:List (List Value))(h0_513:OwnD R_List_GChoice.rep F0 1 c0_513 x0_.list)(g_:List GChoice)(vg_:Value)(hg_:SlC F0 vg_ 2 (g_.map GChoice.enc))(htab:Tab w)(hO:Hp w (fps [.row g0_ 92 ((x0_.domains.1.map U)++[.pointer (some ⟨k0_512.sp,0,none⟩),v0_513]), .sl v0_513 31 1 x0_.list.length c0_513.flatten]) [.row g0_ 92 ((x0_.domains.1.map U)++[.pointer (some ⟨k0_512.sp,0,none⟩),v0_513]), .sl v0_513 31 1 x0_.list.length c0_513.flatten] w)(hA:∀g,fps [.row g0_ 92 ((x0_.domains.1.map U)++[.pointer (some ⟨k0_512.sp,0,none⟩),v0_513]), .sl v0_513 31 1 x0_.list.length c0_513.flatten] g→¬F0.S g)(hZ:¬fps [.row g0_ 92 ((x0_.domains.1.map U)++[.pointer (some ⟨k0_512.sp,0,none⟩),v0_513]), .sl v0_513 31 1 x0_.list.length c0_513.flatten] 0)(fuel:Nat)(hfu:100000≤fuel)(r:Bool×Int)(hr:zaV fuel x0_ g_=some r):Calls Tryz.prog 14 #[.pointer (some ⟨g0_,0,none⟩),vg_] w fun e w'=>∃(y:Unit) (G:Frz),(True)∧e= .returned (.tuple #[.bool r.1, .int .i64 r.2])∧FxM F0 w (fps [.row g0_ 92 ((x0_.domains.1.map U)++[.pointer (some ⟨k0_512.sp,0,none⟩),v0_513]), .sl v0_513 31 1 x0_.list.length c0_513.flatten]) G [.row g0_ 92 ((x0_.domains.1.map U)++[.pointer (some ⟨k0_512.sp,0,none⟩),v0_513]), .sl v0_513 31 1 x0_.list.length c0_513.flatten] w':=by
 have hk:=hr;unfold zaV at hk;haveI:=hg_.oneC;haveI:=zcG (hO.own (.sl v0_513 31 1 x0_.list.length c0_513.flatten) (by simp));have hmx0_513:=zcu (hO.own (.sl v0_513 31 1 x0_.list.length c0_513.flatten) (by simp));obtain ⟨S0,F1,rfl,hS0,hp0⟩:=zbz hF0 hO hA;have hM0:=hZ;have htk:∀ {hs:HS} {w':World},Hp w (fps [.row g0_ 92 ((x0_.domains.1.map U)++[.pointer (some ⟨k0_512.sp,0,none⟩),v0_513]), .sl v0_513 31 1 x0_.list.length c0_513.flatten]) hs w'→Tab w':=fun hw=>htab.kept hw hZ;refine zac (hs:=[.row g0_ 92 ((x0_.domains.1.map U)++[.pointer (some ⟨k0_512.sp,0,none⟩),v0_513]), .sl v0_513 31 1 x0_.list.length c0_513.flatten, .fr F1]) Tryz.func14 rfl rfl rfl hp0 ?_;refine T.sr ?_;refine TL.run 2 rfl ?_;refine TL.ns (T.seq (T.sr ?_));refine TL.run 1 rfl ?_;refine TL.e (Ew.aU [0,1,2] [.row g0_ 92 ((x0_.domains.1.map U)++([.pointer (some ⟨k0_512.sp,0,none⟩),v0_513]:List Value)), .sl v0_513 31 1 x0_.list.length c0_513.flatten] [] rfl rfl rfl rfl (by decide) (fun w hw hw2 hF=>zau _ w hF x0_ g0_ k0_512 v0_512 L0_512 hs0_512 tf0_512 zf0_512 v0_513 c0_513 h0_513 hw2.takes.1 hw2.takes.2)) ?_;rintro _ _ ⟨⟨⟩, -,rfl,rfl⟩;dsimp only [List.cons_append,List.nil_append];refine TL.ns ?_;refine T.cond rfl (fun h1=>?_) (fun h1=>?_)
 ·replace hk:=zab hk h1;refine T.sr ?_;refine TL.run 2 rfl ?_;refine TL.ns (T.ret (K.aa ?_));obtain rfl:=Option.some.inj hk;exact K.aN rfl rfl rfl (fun w' hw=>⟨⟨⟩,F1.toFrz,trivial,rfl,FxM.of (hw.pick (idx:=[0,1,2]) rfl (by decide)) hS0 (Frz.Le.refl _)⟩)
 ·replace hk:=zaa hk h1;refine T.skip (K.seq (T.seq (T.seq ?_)));have hq:=zal hk;clear hk;obtain ⟨r12,hr12,hk⟩:=hq; (try dsimp only at hk);refine T.region ?_;refine TL.run 2 rfl ?_;refine TL.e (Ew.aU [0,1,2] [.row g0_ 92 ((x0_.domains.1.map U)++([.pointer (some ⟨k0_512.sp,0,none⟩),v0_513]:List Value)), .sl v0_513 31 1 x0_.list.length c0_513.flatten] [] rfl rfl rfl rfl (by decide) (fun w hw hw2 hF=>zaZ _ w hF x0_ g0_ k0_512 v0_512 L0_512 hs0_512 tf0_512 zf0_512 v0_513 c0_513 h0_513 g_ vg_ hg_ hw2.takes.1 hw2.takes.2 r12 hr12)) ?_;rintro _ _ ⟨⟨⟩, -,rfl,rfl⟩;dsimp only [List.cons_append,List.nil_append];refine TL.run 1 rfl ?_;refine TL.ns ?_;refine T.cond rfl (fun h2=>?_) (fun h2=>?_)
  ·replace hk:=zab hk h2;refine T.sr ?_;refine TL.run 2 rfl ?_;refine TL.ns (T.ret (K.aa ?_));obtain rfl:=Option.some.inj hk;exact K.aN rfl rfl rfl (fun w' hw=>⟨⟨⟩,F1.toFrz,trivial,rfl,FxM.of (hw.pick (idx:=[0,1,2]) rfl (by decide)) hS0 (Frz.Le.refl _)⟩)
  ·replace hk:=zaa hk h2;refine T.skip (K.seq (T.seq ?_));have hq:=zal hk;clear hk;obtain ⟨r17,hr17,hk⟩:=hq; (try dsimp only at hk);refine T.bc ((r17.1).isSome) (fun h3=>?_) (fun h3=>?_)
   ·replace hk:=zab hk h3;refine T.region ?_;refine TL.run 2 rfl ?_;refine TL.e (Ew.aH [0,1,2] [.row g0_ 92 ((x0_.domains.1.map U)++([.pointer (some ⟨k0_512.sp,0,none⟩),v0_513]:List Value)), .sl v0_513 31 1 x0_.list.length c0_513.flatten] [] rfl rfl rfl rfl (by decide) (fun w hw hw2 hF=>(zaH _ w hF x0_ g0_ k0_512 v0_512 L0_512 hs0_512 tf0_512 zf0_512 v0_513 c0_513 h0_513 g_ vg_ hg_ (htk hw) hw2.takes.1 hw2.takes.2 (hw2.takes0 hM0 htab.pos) fuel hfu r17 hr17).mono (fun e w' hp=>hp.1 h3))) ?_;rintro _ _ ⟨⟨k17_n,v17_n,L17_n⟩,F2,le1_2,⟨hs17_n,tf17_n⟩,rfl,rfl⟩;dsimp only [List.cons_append,List.nil_append]; (try dsimp only at hs17_n tf17_n);refine TL.run 5 rfl ?_;refine TL.nx ?_;refine TL.run 3 rfl ?_;refine TL.ns (T.ret ?_);obtain rfl:=Option.some.inj hk;exact K.aN rfl rfl rfl (fun w' hw=>⟨⟨⟩,F2.toFrz,trivial,rfl,FxM.of (hw.pick (idx:=[0,1,3]) rfl (by decide)) hS0 le1_2⟩)
   ·replace hk:=zaa hk h3;refine T.region ?_;refine TL.run 2 rfl ?_;refine TL.e (Ew.aH [0,1,2] [.row g0_ 92 ((x0_.domains.1.map U)++([.pointer (some ⟨k0_512.sp,0,none⟩),v0_513]:List Value)), .sl v0_513 31 1 x0_.list.length c0_513.flatten] [] rfl rfl rfl rfl (by decide) (fun w hw hw2 hF=>(zaH _ w hF x0_ g0_ k0_512 v0_512 L0_512 hs0_512 tf0_512 zf0_512 v0_513 c0_513 h0_513 g_ vg_ hg_ (htk hw) hw2.takes.1 hw2.takes.2 (hw2.takes0 hM0 htab.pos) fuel hfu r17 hr17).mono (fun e w' hp=>hp.2 h3))) ?_;rintro _ _ ⟨⟨⟩,F3,le1_3, -,rfl,rfl⟩;dsimp only [List.cons_append,List.nil_append];refine TL.run 5 rfl ?_;refine TL.nx ?_;refine TL.run 3 rfl ?_;refine TL.ns (T.ret ?_);obtain rfl:=Option.some.inj hk;exact K.aN rfl rfl rfl (fun w' hw=>⟨⟨⟩,F3.toFrz,trivial,rfl,FxM.of (hw.pick (idx:=[0,1,2]) rfl (by decide)) hS0 le1_3⟩)
def zaf (fuel:Nat)(x0_:GStore)(l:List GChoice):Option (List GDomain×Bool×Int):=
 (bif (zag x0_) then
  some ([],false,1)
  else
  (bif !(zaQ l) then
   some ([],false,2)
   else
   zax (fun (_:Unit)=>
    (zaw fuel x0_ l).bind fun r34=>
    (bif (r34.1).isSome then
     (bif r34.2 then
      some ([],true,0)
      else
      some (((r34.1.getD default).2).1,false,0))
     else
     (bif r34.2 then
      some ([],true,0)
      else
      none)))
   (fun k3=>
    zai (fun (i_5:Nat) (next4:Unit→Option (List GDomain×Bool×Int)) (_:Unit)=>
     grd (0≤(nth l i_5).Station∧(nth l i_5).Station<(512:Int)) <|
     (bif decide (((Vec.get x0_.domains (((nth l i_5).Station).toNat)).toNat:Int)=((0#64).toNat:Int)) then
      some ([],false,9)
      else
      next4 ()))
    (fun (_:Unit)=>
     k3 ()) (l.length - 0) 0 ())))
theorem zaN (F0:Frz)(w:World)(hF0:F0.At w)(x0_:GStore)(g0_:Nat)(k0_512:SK)(v0_512:Value)(L0_512:Ws)(hs0_512:SI x0_.start.1 x0_.start.2 k0_512 L0_512)(tf0_512:TbF F0 k0_512)(zf0_512:SzF F0 k0_512 v0_512 L0_512 (!x0_.start.2.2))(v0_513:Value)(c0_513:List (List Value))(h0_513:OwnD R_List_GChoice.rep F0 1 c0_513 x0_.list)(l:List GChoice)(vl:Value)(hl:SlC F0 vl 2 (l.map GChoice.enc))(htab:Tab w)(hO:Hp w (fps [.row g0_ 92 ((x0_.domains.1.map U)++[.pointer (some ⟨k0_512.sp,0,none⟩),v0_513]), .sl v0_513 31 1 x0_.list.length c0_513.flatten]) [.row g0_ 92 ((x0_.domains.1.map U)++[.pointer (some ⟨k0_512.sp,0,none⟩),v0_513]), .sl v0_513 31 1 x0_.list.length c0_513.flatten] w)(hA:∀g,fps [.row g0_ 92 ((x0_.domains.1.map U)++[.pointer (some ⟨k0_512.sp,0,none⟩),v0_513]), .sl v0_513 31 1 x0_.list.length c0_513.flatten] g→¬F0.S g)(hZ:¬fps [.row g0_ 92 ((x0_.domains.1.map U)++[.pointer (some ⟨k0_512.sp,0,none⟩),v0_513]), .sl v0_513 31 1 x0_.list.length c0_513.flatten] 0)(fuel:Nat)(hfu:100000≤fuel)(r:List GDomain×Bool×Int)(hr:zaf fuel x0_ l=some r):Calls Tryz.prog 17 #[.pointer (some ⟨g0_,0,none⟩),vl] w fun e w'=>∃(y:Value×List (List Value)) (G:Frz),(SlD GDomain.rep G y.1 2 y.2 r.1)∧e= .returned (.tuple #[y.1, .bool r.2.1, .int .i64 r.2.2])∧FxM F0 w (fps [.row g0_ 92 ((x0_.domains.1.map U)++[.pointer (some ⟨k0_512.sp,0,none⟩),v0_513]), .sl v0_513 31 1 x0_.list.length c0_513.flatten]) G [.row g0_ 92 ((x0_.domains.1.map U)++[.pointer (some ⟨k0_512.sp,0,none⟩),v0_513]), .sl v0_513 31 1 x0_.list.length c0_513.flatten] w':=by
 have hk:=hr;unfold zaf at hk;haveI:=hl.oneC;haveI:=zcG (hO.own (.sl v0_513 31 1 x0_.list.length c0_513.flatten) (by simp));have hmx0_513:=zcu (hO.own (.sl v0_513 31 1 x0_.list.length c0_513.flatten) (by simp));obtain ⟨S0,F1,rfl,hS0,hp0⟩:=zbz hF0 hO hA;have hM0:=hZ;have htk:∀ {hs:HS} {w':World},Hp w (fps [.row g0_ 92 ((x0_.domains.1.map U)++[.pointer (some ⟨k0_512.sp,0,none⟩),v0_513]), .sl v0_513 31 1 x0_.list.length c0_513.flatten]) hs w'→Tab w':=fun hw=>htab.kept hw hZ;refine zac (hs:=[.row g0_ 92 ((x0_.domains.1.map U)++[.pointer (some ⟨k0_512.sp,0,none⟩),v0_513]), .sl v0_513 31 1 x0_.list.length c0_513.flatten, .fr F1]) Tryz.func17 rfl rfl rfl hp0 ?_;refine T.sr ?_;refine TL.run 3 rfl ?_;refine TL.ns (T.seq (T.sr ?_));refine TL.run 1 rfl ?_;refine TL.e (Ew.aU [0,1,2] [.row g0_ 92 ((x0_.domains.1.map U)++([.pointer (some ⟨k0_512.sp,0,none⟩),v0_513]:List Value)), .sl v0_513 31 1 x0_.list.length c0_513.flatten] [] rfl rfl rfl rfl (by decide) (fun w hw hw2 hF=>zau _ w hF x0_ g0_ k0_512 v0_512 L0_512 hs0_512 tf0_512 zf0_512 v0_513 c0_513 h0_513 hw2.takes.1 hw2.takes.2)) ?_;rintro _ _ ⟨⟨⟩, -,rfl,rfl⟩;dsimp only [List.cons_append,List.nil_append];refine TL.ns ?_;refine T.cond rfl (fun h1=>?_) (fun h1=>?_)
 ·replace hk:=zab hk h1;refine T.sr ?_;refine TL.run 3 rfl ?_;refine TL.ns (T.ret (K.aa ?_));obtain rfl:=Option.some.inj hk;exact K.bq rfl rfl rfl rfl (fun w' hw=>⟨((.slice none 0 0),[]),F1.toFrz,(SlD.nil _ _ 2),rfl,FxM.of (hw.pick (idx:=[0,1,2]) rfl (by decide)) hS0 (Frz.Le.refl _)⟩)
 ·replace hk:=zaa hk h1;refine T.skip (K.seq (T.seq (T.sr ?_)));refine TL.run 1 rfl ?_;refine TL.e (Ew.af rfl rfl rfl (fun w hw=>zcS _ w (hw.fr (i:=2) rfl) l vl hl)) ?_;rintro _ _ ⟨rfl,rfl⟩;refine TL.run 1 rfl ?_;refine TL.ns ?_;refine T.cond rfl (fun h2=>?_) (fun h2=>?_)
  ·replace hk:=zab hk h2;refine T.sr ?_;refine TL.run 3 rfl ?_;refine TL.ns (T.ret (K.aa ?_));obtain rfl:=Option.some.inj hk;exact K.bq rfl rfl rfl rfl (fun w' hw=>⟨((.slice none 0 0),[]),F1.toFrz,(SlD.nil _ _ 2),rfl,FxM.of (hw.pick (idx:=[0,1,2]) rfl (by decide)) hS0 (Frz.Le.refl _)⟩)
  ·replace hk:=zaa hk h2;refine T.skip (K.seq (T.seq (T.sr ?_)));refine TL.run 1 rfl ?_;refine TL.y (Yv.ar rfl rfl hl (List.length_map _)) ?_;have hm17:l.length≤9223372036854775807:=(List.length_map _)▸hl.max;refine TL.run 1 rfl ?_;refine TL.ns ?_;have hq:=zae hk;clear hk;obtain ⟨k3,hk3,hk⟩:=hq; (try dsimp only at hk);refine T.al (ι:=Unit) (fun z=>[(0, .pointer (some ⟨g0_,0,none⟩)),(1,vl)]) (fun z=>[.row g0_ 92 ((x0_.domains.1.map U)++[.pointer (some ⟨k0_512.sp,0,none⟩),v0_513]), .sl v0_513 31 1 x0_.list.length c0_513.flatten, .fr F1]) (fun z=>k3 ()=some r) ?_ ?_
   ·have hq:=zaj hk;clear hk;obtain ⟨f4,kk4,hf4,hkk4,hk⟩:=hq;refine T.block ?_;refine T.loop (ι:=Nat) (fun z=>[(0, .pointer (some ⟨g0_,0,none⟩)),(1,vl),(16,vl),(17, .int .i64 (l.length:Int)),(18, .int .i64 (z:Int))]) (fun z=>[.row g0_ 92 ((x0_.domains.1.map U)++[.pointer (some ⟨k0_512.sp,0,none⟩),v0_513]), .sl v0_513 31 1 x0_.list.length c0_513.flatten, .fr F1]) (fun z=>zai f4 kk4 (l.length - z) z ()=some r) (fun z=>l.length - z) 0 ?_ ?_ ?_ ?_
    ·exact hk
    ·exact (.c (.c (.c (.c (.c .nil)))))
    ·exact List.Sublist.refl _
    ·rintro i_5 hk;refine T.sr ?_;refine TL.run 1 rfl ?_;refine TL.ns (T.seq ?_);refine T.cond rfl (fun h6=>?_) (fun h6=>?_)
     ·have p6:=of_decide_eq_true h6;rw [zar (by omega)] at hk;generalize hn4:zai f4 kk4 (l.length - (i_5+1)) (i_5+1)=next4 at hk;rw [←hf4] at hk; (try dsimp only at hk);refine T.skip (K.seq (T.seq (T.block (T.sr ?_))));refine TL.y (Yv.ao (i:=i_5) rfl rfl rfl hl (List.length_map _) rfl (by omega)) ?_;refine TL.y (Yv.aI 2 (i:=i_5) rfl rfl rfl hl (by omega) rfl rfl rfl) ?_;refine TL.e (Ew.alloc rfl) ?_;rintro _ _ ⟨g8,rfl,rfl⟩;refine TL.e0 (Ew.ak 0 rfl rfl rfl rfl rfl rfl) ?_;rintro _ _ ⟨rfl,rfl⟩;refine TL.ns (T.seq ?_);have hq:(0≤(nth l i_5).Station∧(nth l i_5).Station<(512:Int))∧_:=zaE hk;clear hk;obtain ⟨g27,hk⟩:=hq; (try dsimp only at hk);refine T.as (.still 0 (.still 1 (.still 2 (.still 3 (.still 4 (.still 5 (.still 6 (.still 7 .done)))))))) _ (by kernel_rfl) (List.Sublist.refl _) ?_;refine TS.run 1 rfl ?_;refine TS.y rfl (Yv.fieldAddr rfl rfl) ?_;refine TS.y rfl (Yv.ac 0 rfl rfl rfl rfl) ?_;refine TS.run 1 rfl ?_;refine TS.y rfl (Yv.fieldAddr rfl rfl) ?_;refine TS.y rfl (Yv.ay (i:=((nth l i_5).Station).toNat) rfl rfl rfl (by omega) (by omega)) ?_;refine TS.y rfl (Yv.ac 1 rfl rfl rfl (zb8 (by omega) (zj4 Vec.len (by omega) (Vec.cell (i:=((nth l i_5).Station).toNat) (by omega))))) ?_;refine TS.run 1 rfl ?_;refine TS.done ?_;refine K.seq ?_;refine T.cond rfl (fun h7=>?_) (fun h7=>?_)
      ·replace hk:=zab hk h7;refine T.sr ?_;refine TL.run 3 rfl ?_;refine TL.ns (T.ret (K.ag (K.aa (K.aa (K.ag (K.aa ?_))))));obtain rfl:=Option.some.inj hk;exact K.bq rfl rfl rfl rfl (fun w' hw=>⟨((.slice none 0 0),[]),F1.toFrz,(SlD.nil _ _ 2),rfl,FxM.of (hw.pick (idx:=[1,2,3]) rfl (by decide)) hS0 (Frz.Le.refl _)⟩)
      ·replace hk:=zaa hk h7;refine T.skip (K.ad (K.seq (T.region ?_)));refine TL.y (Yv.an rfl rfl rfl (by omega)) ?_;refine TL.run 1 rfl ?_;refine TL.nil ?_;rw [←hn4] at hk;refine K.pick [1,2,3] rfl (by decide) ?_;exact K.next (i_5+1) hk (by omega) (.c (.c (.c (.c (.c .nil))))) (List.Sublist.refl _)
     ·have p6:=of_decide_eq_false h6;rw [zas (by omega),←hkk4] at hk; (try dsimp only at hk);refine T.exit (K.ab (K.ab (K.ae ?_)));exact K.aj () hk (.c (.c .nil)) (List.Sublist.refl _)
   ·rintro _ hk;rw [←hk3] at hk; (try dsimp only at hk);refine T.seq ?_;have hq:=zal hk;clear hk;obtain ⟨r34,hr34,hk⟩:=hq; (try dsimp only at hk);refine T.bc ((r34.1).isSome) (fun h8=>?_) (fun h8=>?_)
    ·replace hk:=zab hk h8;refine T.region ?_;refine TL.run 2 rfl ?_;refine TL.e (Ew.aH [0,1,2] [.row g0_ 92 ((x0_.domains.1.map U)++([.pointer (some ⟨k0_512.sp,0,none⟩),v0_513]:List Value)), .sl v0_513 31 1 x0_.list.length c0_513.flatten] [] rfl rfl rfl rfl (by decide) (fun w hw hw2 hF=>(zaH _ w hF x0_ g0_ k0_512 v0_512 L0_512 hs0_512 tf0_512 zf0_512 v0_513 c0_513 h0_513 l vl hl (htk hw) hw2.takes.1 hw2.takes.2 (hw2.takes0 hM0 htab.pos) fuel hfu r34 hr34).mono (fun e w' hp=>hp.1 h8))) ?_;rintro _ _ ⟨⟨k34_n,v34_n,L34_n⟩,F2,le1_2,⟨hs34_n,tf34_n⟩,rfl,rfl⟩;dsimp only [List.cons_append,List.nil_append]; (try dsimp only at hs34_n tf34_n);refine TL.run 5 rfl ?_;refine TL.ns (T.seq (T.sr ?_));refine TL.run 1 rfl ?_;refine TL.ns ?_;refine T.cond rfl (fun h9=>?_) (fun h9=>?_)
     ·replace hk:=zab hk h9;refine T.sr ?_;refine TL.run 3 rfl ?_;refine TL.ns (T.ret (K.aa ?_));obtain rfl:=Option.some.inj hk;exact K.bq rfl rfl rfl rfl (fun w' hw=>⟨((.slice none 0 0),[]),F2.toFrz,(SlD.nil _ _ 2),rfl,FxM.of (hw.pick (idx:=[0,1,3]) rfl (by decide)) hS0 le1_2⟩)
     ·replace hk:=zaa hk h9;refine T.skip (K.seq (T.sr ?_));refine TL.run 1 rfl ?_;refine TL.e (Ew.aS 3 rfl rfl rfl rfl (fun w hw hF=>ziZ hs34_n tf34_n (hw.get (i:=2) rfl) (hw.fr (i:=3) rfl) (htk hw))) ?_;rintro _ _ ⟨⟨v39_,c39_⟩,F3,le2_3,hf39,hq,rfl⟩;obtain rfl:=hq.symm;dsimp only at hf39 ⊢;have le1_3:=le1_2.trans le2_3;haveI:=hf39.1.oneC;refine TL.run 3 rfl ?_;refine TL.ns (T.ret ?_);obtain rfl:=Option.some.inj hk;exact K.bq rfl rfl rfl rfl (fun w' hw=>⟨(v39_,c39_),F3.toFrz,hf39,rfl,FxM.of (hw.pick (idx:=[0,1,3]) rfl (by decide)) hS0 le1_3⟩)
    ·replace hk:=zaa hk h8;refine T.region ?_;refine TL.run 2 rfl ?_;refine TL.e (Ew.aH [0,1,2] [.row g0_ 92 ((x0_.domains.1.map U)++([.pointer (some ⟨k0_512.sp,0,none⟩),v0_513]:List Value)), .sl v0_513 31 1 x0_.list.length c0_513.flatten] [] rfl rfl rfl rfl (by decide) (fun w hw hw2 hF=>(zaH _ w hF x0_ g0_ k0_512 v0_512 L0_512 hs0_512 tf0_512 zf0_512 v0_513 c0_513 h0_513 l vl hl (htk hw) hw2.takes.1 hw2.takes.2 (hw2.takes0 hM0 htab.pos) fuel hfu r34 hr34).mono (fun e w' hp=>hp.2 h8))) ?_;rintro _ _ ⟨⟨⟩,F4,le1_4, -,rfl,rfl⟩;dsimp only [List.cons_append,List.nil_append];refine TL.run 5 rfl ?_;refine TL.ns (T.seq (T.sr ?_));refine TL.run 1 rfl ?_;refine TL.ns ?_;refine T.cond rfl (fun h10=>?_) (fun h10=>?_)
     ·replace hk:=zab hk h10;refine T.sr ?_;refine TL.run 3 rfl ?_;refine TL.ns (T.ret (K.aa ?_));obtain rfl:=Option.some.inj hk;exact K.bq rfl rfl rfl rfl (fun w' hw=>⟨((.slice none 0 0),[]),F4.toFrz,(SlD.nil _ _ 2),rfl,FxM.of (hw.pick (idx:=[0,1,2]) rfl (by decide)) hS0 le1_4⟩)
     ·replace hk:=zaa hk h10;refine T.skip (K.seq (T.seq ?_));cases hk
def zbC (fuel:Nat)(p:GProblem):Option (Option GStore×Int):=
 (bif okG p then
  (za2 fuel p p.Domains).bind fun r8=>
  (zbL p).bind fun r15=>
  some (some (GStore.mk r15 (p,r8) []),0)
  else
  some (none,2))
theorem zbB (F0:Frz)(w:World)(hF0:F0.At w)(p:GProblem)(vp_0:Value)(cp_0:List (List Value))(hp_0:SlD GDomain.rep F0 vp_0 2 cp_0 p.Domains)(vp_1:Value)(hp_1:SlC F0 vp_1 5 (p.Rules.Pairs.map GPair.enc))(vp_2:Value)(hp_2:SlC F0 vp_2 5 (p.Rules.Loads.map GLoad.enc))(vp_3:Value)(hp_3:SlC F0 vp_3 4 (p.Rules.Caps.map GCap.enc))(htab:Tab w)(fuel:Nat)(hfu:100000≤fuel)(r:Option GStore×Int)(hr:zbC fuel p=some r):Calls Tryz.prog 12 #[.agg [vp_0,vp_1,vp_2,vp_3].toArray] w fun e w'=>((r.1).isSome=true→∃(y:Nat×SK×Value×Ws×Value×List (List Value)) (G:Frz),(SI ((r.1.getD default).start).1 ((r.1.getD default).start).2 y.2.1 y.2.2.2.1∧TbF G y.2.1∧SzF G y.2.1 y.2.2.1 y.2.2.2.1 (!((r.1.getD default).start).2.2)∧OwnD R_List_GChoice.rep G 1 y.2.2.2.2.2 ((r.1.getD default).list))∧e= .returned (.tuple #[.pointer (some ⟨y.1,0,none⟩), .int .i64 r.2])∧FxM F0 w (fps []) G [.row y.1 92 ((((r.1.getD default).domains).1.map U)++[.pointer (some ⟨y.2.1.sp,0,none⟩),y.2.2.2.2.1]), .sl y.2.2.2.2.1 31 1 ((r.1.getD default).list).length y.2.2.2.2.2.flatten] w')∧((r.1).isSome=false→∃(y:Unit) (G:Frz),(True)∧e= .returned (.tuple #[.pointer none, .int .i64 r.2])∧FxM F0 w (fps []) G [] w'):=by
 have hk:=hr;unfold zbC at hk;haveI:=hp_0.1.oneC;haveI:=hp_1.oneC;haveI:=hp_2.oneC;haveI:=hp_3.oneC;obtain ⟨S0,F1,rfl,hS0,hp0⟩:=zan hF0;rw [zgG];have hM0:¬(fun _:Nat=>False) 0:=fun h=>h;have htk:∀ {hs:HS} {w':World},Hp w (fun _=>False) hs w'→Tab w':=fun hw=>htab.keptF hw;refine zac Tryz.func12 rfl rfl rfl hp0 ?_;refine T.sr ?_;refine TL.e (Ew.aA rfl rfl) ?_;rintro _ _ ⟨g1,rfl,rfl⟩;refine TL.run 2 rfl ?_;refine TL.ns (T.seq ?_);refine T.bc (okG p) (fun h1=>?_) (fun h1=>?_)
 ·replace hk:=zab hk h1;have hq:=zal hk;clear hk;obtain ⟨r8,hr8,hk⟩:=hq; (try dsimp only at hk);refine T.region ?_;refine TL.y (Yv.am 0 rfl rfl rfl rfl) ?_;refine TL.e (Ew.aH [1,0] [] [.row g1 29 [vp_0,vp_1,vp_2,vp_3]] rfl rfl rfl rfl (by decide) (fun w hw hw2 hF=>zmJ (p:=p) hF ⟨hp_0,hp_1,hp_2,hp_3⟩ (htk hw) h1 hfu hr8)) ?_;rintro _ _ ⟨⟨k8_,v8_,L8_⟩,F2,le1_2,⟨hs8,tf8⟩,rfl,rfl⟩;dsimp only [List.cons_append,List.nil_append]; (try dsimp only at hs8 tf8);refine TL.run 5 rfl ?_;refine TL.ns (T.seq (T.sr ?_));refine TL.run 2 rfl ?_;refine TL.ns ?_;refine T.aJ rfl rfl ?_;refine T.skip (K.seq (T.seq ?_));refine T.aX (fun w hw=>hw.freezeSt (i:=1) (j:=0) (by decide) rfl rfl) ?_;rintro F3 ⟨le2_3,zf3⟩;dsimp only [List.set,List.eraseIdx];have le1_3:=le1_2.trans le2_3;have hq:=zal hk;clear hk;obtain ⟨r15,hr15,hk⟩:=hq; (try dsimp only at hk);refine T.region ?_;refine TL.y (Yv.am 1 rfl rfl rfl rfl) ?_;refine TL.e (Ew.af rfl rfl rfl (fun w hw=>ze3 _ w (hw.fr (i:=0) rfl) p vp_0 cp_0 (SlD.mono (rep:=GDomain.rep) (fun _ _ _ _=>GDomain.mono) hp_0 le1_3) vp_1 (SlC.mono hp_1 le1_3) vp_2 (SlC.mono hp_2 le1_3) vp_3 (SlC.mono hp_3 le1_3) r15 hr15)) ?_;rintro _ _ ⟨rfl,rfl⟩;refine TL.run 1 rfl ?_;refine TL.y (Yv.cm rfl rfl (l0:=(((Vec.fill 512 (0#64)).1.map U)++[.pointer none,(.slice none 0 0)])) (l:=((r15.1.map U)++[.pointer (some ⟨k8_.sp,0,none⟩),(.slice none 0 0)])) (by kernel_rfl) (zhD (off:=0) (by kernel_rfl) rfl Vec.len (ziX (Vec.len.trans Vec.len.symm)) (by simp only [Nat.zero_add,Vec.len];rw [(zde Vec.len rfl)];decide) (zhD (off:=512) (by kernel_rfl) (OneC.cells inferInstance) rfl (zjf (off:=512) (by rw [(zde Vec.len rfl)];simp only [List.length_cons,List.length_nil];decide) (zfT (by rfl) (zfE Vec.len (rfl:([.pointer none,(.slice none 0 0)]:List Value).set 0 _=_)))) (by rw [(zde Vec.len rfl)];simp only [List.length_cons,List.length_nil];decide) rfl))) ?_;refine TL.e (Ew.aA rfl rfl) ?_;rintro _ _ ⟨g18,rfl,rfl⟩;refine TL.slNil 31 1 ?_;refine TL.run 2 rfl ?_;refine TL.ns (T.ret ?_);obtain rfl:=Option.some.inj hk;exact K.aN rfl rfl rfl (fun w' hw=>⟨fun _=>⟨(g18,k8_,v8_,L8_,(.slice none 0 0),[]),F3.toFrz,⟨hs8,(tf8.mono le2_3),zf3,(OwnD.nil _ _ 1)⟩,rfl,FxM.of (hw.pick (idx:=[1,0,2]) rfl (by decide)) hS0 le1_3⟩,fun h=>(by cases h)⟩)
 ·replace hk:=zaa hk h1;refine T.region ?_;refine TL.y (Yv.am 0 rfl rfl rfl rfl) ?_;refine TL.e (Ew.af rfl rfl rfl (fun w hw=>zkq (p:=p) (hw.fr (i:=1) rfl) ⟨hp_0,hp_1,hp_2,hp_3⟩ h1)) ?_;rintro _ _ ⟨rfl,rfl⟩;refine TL.run 5 rfl ?_;refine TL.ns (T.seq (T.sr ?_));refine TL.run 2 rfl ?_;refine TL.ns ?_;refine T.aK rfl rfl ?_;refine T.sr ?_;refine TL.run 3 rfl ?_;refine TL.ns (T.ret (K.aa ?_));obtain rfl:=Option.some.inj hk;exact K.aN rfl rfl rfl (fun w' hw=>⟨fun h=>(by cases h),fun _=>⟨⟨⟩,F1.toFrz,trivial,rfl,FxM.of (hw.pick (idx:=[1]) rfl (by decide)) hS0 (Frz.Le.refl _)⟩⟩)
theorem zcX {l:List GChoice}:zaQ l=(List.range l.length).all (zev l):=by
 unfold zaQ;simp only [zax,Nat.sub_zero];rw [zcB (zev l) (fun i next _=>?_),Bool.and_true];rw [zcg];unfold zev
 show (bif !(inB (nth l i).Station 0 511)|| !(inB (nth l i).Channel 2 51) then false else _)=_
 cases inB (nth l i).Station 0 511 <;> cases inB (nth l i).Channel 2 51 <;> cases (decide (0<(i:Int))&&decide ((nth l i).Station≤(nth l (i - 1)).Station)) <;> rfl
def bitN (p:GProblem)(i:Nat)(n b:Nat):Prop:=∃j,j<i∧(nth p.Domains j).Station=(n:Int)∧(b=0∨(b:Int)∈(nth p.Domains j).Channels)
theorem zlO {c b:Nat}(hc:c<64):((1#64) <<< c).getLsbD b=decide (b=c):=by
 rw [BitVec.getLsbD_shiftLeft];by_cases h:b=c
 ·subst h;simp [hc]
 ·by_cases h1:b<c
  ·simp [h1,h]
  ·(have:b - c≠0:=by omega);rw [decide_eq_false h];by_cases h2:b<64
   ·have e:(1#64).getLsbD (b - c)=false:=by
     rw [BitVec.getLsbD_one];simp;omega
    rw [e,Bool.and_false]
   ·simp [h2]
theorem zkv {p:GProblem}(hG:GG p):∃v,zbL p=some v∧∀n b,n<512→b<64→((Vec.get v n).getLsbD b=true↔bitN p p.Domains.length n b):=by
 unfold zbL;simp only [zax,Nat.sub_zero];refine zaU (fun i (c:Vec 512 (BitVec 64))=>∀n b,n<512→b<64→((Vec.get c n).getLsbD b=true↔bitN p i n b)) (fun o=>∃v:Vec 512 (BitVec 64),o=some v∧∀n b,n<512→b<64→((Vec.get v n).getLsbD b=true↔bitN p p.Domains.length n b)) ?_ (fun v hv=>⟨v,rfl,hv⟩) (fun i c next hi hc hn=>?_)
 ·intro n b hn hb;rw [Vec.get_fill hn];constructor
  ·intro h;simp at h
  ·rintro ⟨j,hj,_⟩;omega
 have hs:=hG.st _ (zak hi);have hch:=hG.chs _ (zak hi);rw [zaX (by omega)]; (have hlt:(nth p.Domains i).Station.toNat<512:=by omega);refine zaU (fun k (e:Vec 512 (BitVec 64))=>∀n b,n<512→b<64→((Vec.get e n).getLsbD b=true↔bitN p i n b∨((nth p.Domains i).Station=(n:Int)∧(b=0∨∃q,q<k∧nth (nth p.Domains i).Channels q=(b:Int))))) (fun o=>∃v:Vec 512 (BitVec 64),o=some v∧∀n b,n<512→b<64→((Vec.get v n).getLsbD b=true↔bitN p p.Domains.length n b)) ?_ (fun e he=>hn e fun n b h1 h2=>?_) (fun k e next' hk he hn'=>?_)
 ·intro n b h1 h2;rw [Vec.get_put hlt];by_cases e:n=(nth p.Domains i).Station.toNat
  ·rw [if_pos e,BitVec.getLsbD_one]; (have e':(nth p.Domains i).Station=(n:Int):=by omega);constructor
   ·intro h;simp at h;exact .inr ⟨e', .inl h⟩
   ·rintro (⟨j,hj,h3,_⟩|⟨_,h3|⟨q,hq,_⟩⟩)
    ·have:=hG.inc j i hj hi;omega
    ·simp [h3]
    ·omega
  ·rw [if_neg e,hc n b h1 h2]; (have e':¬(nth p.Domains i).Station=(n:Int):=by omega);simp [e']
 ·rw [he n b h1 h2];constructor
  ·rintro (⟨j,hj,h3⟩|⟨h3,h4⟩)
   ·exact ⟨j,by omega,h3⟩
   ·refine ⟨i,by omega,h3,h4.imp id ?_⟩;rintro ⟨q,hq,e⟩;rw [←e];exact zak hq
  ·rintro ⟨j,hj,h3,h4⟩;rcases Nat.lt_or_ge j i with h5|h5
   ·exact .inl ⟨j,h5,h3,h4⟩
   ·(obtain rfl:j=i:=by omega);refine .inr ⟨h3,h4.imp id fun h=>?_⟩;obtain ⟨q,hq,e⟩:=zaK h;exact ⟨q,hq,e⟩
 ·have hc2:=hch.2 _ (zak hk);rw [zaX (by omega)];refine hn' _ fun n b h1 h2=>?_;rw [Vec.get_put hlt];by_cases e:n=(nth p.Domains i).Station.toNat
  ·(have e':(nth p.Domains i).Station=(n:Int):=by omega);rw [if_pos e,BitVec.getLsbD_or,zlO (by omega),Bool.or_eq_true,decide_eq_true_eq,←e,he n b h1 h2];constructor
   ·rintro ((h3|⟨h3,h4|⟨q,hq,h5⟩⟩)|h3)
    ·exact .inl h3
    ·exact .inr ⟨e', .inl h4⟩
    ·exact .inr ⟨e', .inr ⟨q,by omega,h5⟩⟩
    ·exact .inr ⟨e', .inr ⟨k,by omega,by omega⟩⟩
   ·rintro (h3|⟨h3,h4|⟨q,hq,h5⟩⟩)
    ·exact .inl (.inl h3)
    ·exact .inl (.inr ⟨e', .inl h4⟩)
    ·rcases Nat.lt_or_ge q k with h6|h6
     ·exact .inl (.inr ⟨e', .inr ⟨q,h6,h5⟩⟩)
     ·(obtain rfl:q=k:=by omega);exact .inr (by omega)
  ·(have e':¬(nth p.Domains i).Station=(n:Int):=by omega);rw [if_neg e,he n b h1 h2];simp [e']
def TabN (p:GProblem)(v:Vec 512 (BitVec 64)):Prop:=∀n b,n<512→b<64→((Vec.get v n).getLsbD b=true↔bitN p p.Domains.length n b)
theorem TabN.zero {p:GProblem}{v:Vec 512 (BitVec 64)}(hG:GG p)(h:TabN p v){s:Int}(h0:0≤s∧s≤511):decide (((Vec.get v s.toNat).toNat:Int)=((0#64).toNat:Int))= !zbM p s:=by
 have key:zbM p s=true↔(Vec.get v s.toNat).getLsbD 0=true:=by
  rw [h _ _ (by omega) (by omega),hasSt_ex];constructor
  ·rintro ⟨x,hx,e⟩;obtain ⟨j,hj,rfl⟩:=zaK hx;exact ⟨j,hj,by omega, .inl rfl⟩
  ·rintro ⟨j,hj,e,_⟩;exact ⟨_,zak hj,by omega⟩
 have none:zbM p s=false→∀b,b<64→(Vec.get v s.toNat).getLsbD b=false:=fun hf b hb=>by
  cases hg:(Vec.get v s.toNat).getLsbD b with
  |false=>rfl
  |true=>
   obtain ⟨j,hj,e,_⟩:=(h _ _ (by omega) hb).1 hg;have:zbM p s=true:=hasSt_ex.2 ⟨_,zak hj,by omega⟩;rw [hf] at this;cases this
 cases hh:zbM p s with
 |true=>
  refine decide_eq_false fun e=>?_;have h1:=key.1 hh;have e2:Vec.get v s.toNat=0#64:=BitVec.eq_of_toNat_eq (by omega);rw [e2] at h1;simp at h1
 |false=>
  refine decide_eq_true ?_; (have e2:Vec.get v s.toNat=0#64:=BitVec.eq_of_getLsbD_eq fun b hb=>by rw [none hh b hb];simp);rw [e2]
def zdp (p:GProblem)(s c:Int):Bool:=p.Domains.any fun x=>decide (x.Station=s)&&x.Channels.any fun k=>decide (k=c)
theorem hasCh_iff {p:GProblem}{s c:Int}:zdp p s c=true↔∃x∈p.Domains,x.Station=s∧c∈x.Channels:=by
 unfold zdp;simp only [List.any_eq_true,Bool.and_eq_true,decide_eq_true_eq];constructor
 ·rintro ⟨x,hx,h1,k,hk,rfl⟩;exact ⟨x,hx,h1,hk⟩
 ·rintro ⟨x,hx,h1,hk⟩;exact ⟨x,hx,h1,c,hk,rfl⟩
theorem zlW {x:BitVec 64}{c:Nat}:decide ((((x >>> c) &&& (1#64)).toNat:Int)=((0#64).toNat:Int))= !x.getLsbD c:=by
 have e:((x >>> c) &&& (1#64))=bif x.getLsbD c then 1#64 else 0#64:=by
  refine BitVec.eq_of_getLsbD_eq fun b hb=>?_;rw [BitVec.getLsbD_and,BitVec.getLsbD_ushiftRight,BitVec.getLsbD_one];by_cases h0:b=0
  ·subst h0;cases x.getLsbD c <;> simp
  ·cases x.getLsbD c <;> simp [h0]
 rw [e]
 cases x.getLsbD c <;> rfl
theorem TabN.bit {p:GProblem}{v:Vec 512 (BitVec 64)}(h:TabN p v){s c:Int}(h0:0≤s∧s≤511)(h1:2≤c∧c≤51):(Vec.get v s.toNat).getLsbD c.toNat=zdp p s c:=by
 rw [Bool.eq_iff_iff,h _ _ (by omega) (by omega),hasCh_iff];constructor
 ·rintro ⟨j,hj,e,h2|h2⟩
  ·omega
  ·exact ⟨_,zak hj,by omega,by rw [show c=((c.toNat:Nat):Int) by omega];exact h2⟩
 ·rintro ⟨x,hx,e,h2⟩;obtain ⟨j,hj,rfl⟩:=zaK hx;exact ⟨j,hj,by omega, .inr (by rw [show ((c.toNat:Nat):Int)=c by omega];exact h2)⟩
def okN (p:GProblem)(g:List GChoice):Bool:=(List.range g.length).all (zev g)&&(List.range g.length).all fun i=>zdp p (nth g i).Station (nth g i).Channel
theorem okN_iff {p:GProblem}{g:List GChoice}:okN p g=true↔ValidL g∧∀c∈g,zdp p c.Station c.Channel=true:=by
 unfold okN;rw [Bool.and_eq_true,validL_iff,List.all_eq_true];constructor
 ·rintro ⟨h1,h2⟩;refine ⟨h1,fun c hc=>?_⟩;obtain ⟨i,hi,rfl⟩:=zaK hc;exact h2 i (List.mem_range.2 hi)
 ·rintro ⟨h1,h2⟩;exact ⟨h1,fun i hi=>h2 _ (zak (List.mem_range.1 hi))⟩
theorem zlk {p:GProblem}{t:GStore}{g:List GChoice}(h:TabN p t.domains):zap t g=some (okN p g):=by
 unfold zap okN;rw [zcX]
 cases hv:(List.range g.length).all (zev g) with
 |false=>rfl
 |true=>
  have hl:=validL_iff.1 hv;simp only [zax,Nat.sub_zero,Bool.not_true,cond_false,Bool.true_and];refine (zaU (fun i _=>(List.range i).all (fun i=>zdp p (nth g i).Station (nth g i).Channel)=true) (fun o=>o=some ((List.range g.length).all fun i=>zdp p (nth g i).Station (nth g i).Channel)) rfl (fun _ h=>by rw [h]) (fun i _ next hi hI hn=>?_));have hg:=hl.good _ (zak hi);rw [zaX (by omega),zaX (by omega),zlW,h.bit (by omega) (by omega)]
  cases hc:zdp p (nth g i).Station (nth g i).Channel with
  |false=>
   have:(List.range g.length).all (fun i=>zdp p (nth g i).Station (nth g i).Channel)=false:=by
    rw [List.all_eq_false];exact ⟨i,List.mem_range.2 hi,by simp [hc]⟩
   rw [this];rfl
  |true=>exact hn () (by rw [List.range_succ,List.all_append,hI];simp [hc])
structure SubP (p:GProblem) (d:List GDomain):Prop where
 sub:SubD d p.Domains
 ord:OrdD d p.Domains
section
variable {p:GProblem}{d:List GDomain}
theorem SubP.len (h:SubP p d):d.length=p.Domains.length:=h.sub.1
theorem SubP.inc (hG:GG p)(h:SubP p d){i j:Nat}(hi:i<d.length)(hj:j<d.length)(e:(nth d i).Station=(nth d j).Station):i=j:=by
 (have hi':i<p.Domains.length:=by rw [←h.len];exact hi); (have hj':j<p.Domains.length:=by rw [←h.len];exact hj);rw [(h.sub.2 i hi').1,(h.sub.2 j hj').1] at e;rcases Nat.lt_trichotomy i j with h1|h1|h1
 ·have:=hG.inc i j h1 hj';omega
 ·exact h1
 ·have:=hG.inc j i h1 hi';omega
theorem SubP.inj (hG:GG p)(h:SubP p d){x y:GDomain}(hx:x∈d)(hy:y∈d)(e:x.Station=y.Station):x=y:=by
 obtain ⟨i,hi,rfl⟩:=zaK hx;obtain ⟨j,hj,rfl⟩:=zaK hy;rw [h.inc hG hi hj e]
theorem SubP.st (hG:GG p)(h:SubP p d){x:GDomain}(hx:x∈d):0≤x.Station∧x.Station≤511:=by
 obtain ⟨i,hi,rfl⟩:=zaK hx; (have hi':i<p.Domains.length:=by rw [←h.len];exact hi);rw [(h.sub.2 i hi').1];exact hG.st _ (zak hi')
theorem SubP.ch (hG:GG p)(h:SubP p d){x:GDomain}(hx:x∈d){c:Int}(hc:c∈x.Channels):2≤c∧c≤51:=by
 obtain ⟨i,hi,rfl⟩:=zaK hx; (have hi':i<p.Domains.length:=by rw [←h.len];exact hi);exact (hG.chs _ (zak hi')).2 _ ((h.sub.2 i hi').2 c hc)
theorem SubP.has (h:SubP p d){s:Int}(hs:zbM p s=true):∃x∈d,x.Station=s:=by
 obtain ⟨x,hx,rfl⟩:=hasSt_ex.1 hs;obtain ⟨i,hi,rfl⟩:=zaK hx;exact ⟨_,zak (by rw [h.len];exact hi),(h.sub.2 i hi).1⟩
theorem zgh {s c:Int}(h:zdp p s c=true):zbM p s=true:=by
 obtain ⟨x,hx,e,_⟩:=hasCh_iff.1 h;exact hasSt_ex.2 ⟨x,hx,e⟩
def FixN (d:List GDomain)(v:Vec 512 Int):Prop:=∀x∈d,Vec.get v x.Station.toNat=bif decide (x.Channels.length=1) then nth x.Channels 0 else 0
theorem fixD_mem {c:GChoice}:c∈fixD d↔∃x∈d,x.Channels.length=1∧c=⟨x.Station,nth x.Channels 0⟩:=by
 unfold fixD;rw [List.mem_map];constructor
 ·rintro ⟨x,hx,rfl⟩;rw [List.mem_filter,decide_eq_true_eq] at hx;exact ⟨x,hx.1,hx.2,rfl⟩
 ·rintro ⟨x,hx,h1,rfl⟩;exact ⟨x,List.mem_filter.2 ⟨hx,decide_eq_true h1⟩,rfl⟩
theorem zbS {α:Type}[Inhabited α]{l:List α}{i:Nat}(hi:i<l.length):l.take (i+1)=l.take i++[nth l i]:=by
 rw [List.take_succ_eq_append_getElem hi,zat hi]
theorem zjK {m:List GDomain×Bool}(hG:GG p)(h:SubP p m.1)(h2:m.2=true):∃v,zbn p m=some v∧FixN m.1 v:=by
 (have e1:zcv m=fixD m.1:=by unfold zcv;rw [h2];rfl)
 have hin:∀c∈fixD m.1,∀c'∈fixD m.1,c.Station=c'.Station→c=c':=fun c hc c' hc' e=>by
  obtain ⟨x,hx,_,rfl⟩:=fixD_mem.1 hc;obtain ⟨y,hy,_,rfl⟩:=fixD_mem.1 hc';rw [h.inj hG hx hy e]
 have hst:∀c∈fixD m.1,0≤c.Station∧c.Station≤511:=fun c hc=>by
  obtain ⟨x,hx,_,rfl⟩:=fixD_mem.1 hc;exact h.st hG hx
 unfold zbn;simp only [zax,Nat.sub_zero,e1];refine zaU (fun k (v:Vec 512 Int)=>(∀c∈(fixD m.1).take k,Vec.get v c.Station.toNat=c.Channel)∧∀n:Nat,n<512→(∀c∈(fixD m.1).take k,c.Station≠(n:Int))→Vec.get v n=0) (fun o=>∃v:Vec 512 Int,o=some v∧FixN m.1 v) ⟨fun c hc=>by simp at hc,fun n hn _=>Vec.get_fill hn⟩ (fun v hv=>⟨v,rfl,fun x hx=>?_⟩) (fun i v next hi hI hn=>?_)
 ·rw [List.take_of_length_le (Nat.le_refl _)] at hv;have hs:=h.st hG hx;by_cases hl:x.Channels.length=1
  ·rw [decide_eq_true hl,cond_true];exact hv.1 ⟨x.Station,nth x.Channels 0⟩ (fixD_mem.2 ⟨x,hx,hl,rfl⟩)
  ·rw [decide_eq_false hl,cond_false];refine hv.2 _ (by omega) fun c hc e=>?_;obtain ⟨y,hy,h3,rfl⟩:=fixD_mem.1 hc;have:y=x:=h.inj hG hy hx (by dsimp only at e;omega);rw [this] at h3;exact hl h3
 ·have hm:=zak hi;have hs:=hst _ hm;rw [zaX (by omega)];refine hn _ ⟨fun c hc=>?_,fun n h1 hc=>?_⟩
  ·rw [Vec.get_put (by omega)];rw [zbS hi,List.mem_append,List.mem_singleton] at hc;rcases hc with hc|rfl
   ·have h3:=hst c (List.mem_of_mem_take hc);by_cases e:c.Station.toNat=(nth (fixD m.1) i).Station.toNat
    ·rw [if_pos e,hin c (List.mem_of_mem_take hc) _ hm (by omega)]
    ·rw [if_neg e];exact hI.1 c hc
   ·rw [if_pos rfl]
  ·rw [Vec.get_put (by omega)];rw [zbS hi] at hc;have h3:=hc (nth (fixD m.1) i) (List.mem_append.2 (.inr (List.mem_singleton.2 rfl)));rw [if_neg (by omega)];exact hI.2 n h1 fun c h4=>hc c (List.mem_append.2 (.inl h4))
def zcI (v:Vec 512 Int)(g:List GChoice):List GChoice:=g.filter fun c=> !decide (Vec.get v c.Station.toNat=c.Channel)
def zdo (m:List GDomain×Bool)(v:Vec 512 Int)(g:List GChoice):GChoice×Bool:=match zcI v g with
 | []=>(bif decide (0<(g.length:Int)) then nth g 0 else ⟨0,0⟩,true)
 | [c]=>(c,zfN m c)
 |_=>(⟨0,0⟩,false)
theorem zga {v:Vec 512 Int}{g:List GChoice}{c:GChoice}:zcI v (g++[c])=zcI v g++bif decide (¬Vec.get v c.Station.toNat=c.Channel) then [c] else []:=by
 unfold zcI;rw [List.filter_append];by_cases h:Vec.get v c.Station.toNat=c.Channel
 ·simp [h]
 ·simp [h]
theorem zlp {m:List GDomain×Bool}{v:Vec 512 Int}{g:List GChoice}(hg:ValidL g):zbP p m v g=some (zdo m v g):=by
 unfold zbP;simp only [zax,Nat.sub_zero];refine zaU (fun i (s:Int×Int×Int×Int×Int)=>(zcI v (g.take i)=[]∧s.1=0∧s.2.2.2.1=0∧s.2.2.2.2=0)∨(zcI v (g.take i)=[⟨s.2.2.2.1,s.2.2.2.2⟩]∧s.1=1)) (fun o=>o=some (zdo m v g)) (.inl ⟨by simp [zcI],rfl,rfl,rfl⟩) (fun s hs=>?_) (fun i s next hi hI hn=>?_)
 ·rw [List.take_of_length_le (Nat.le_refl _)] at hs;unfold zdo;rcases hs with ⟨h1,h2,h3,h4⟩|⟨h1,h2⟩
  ·rw [h1]; (try dsimp only);rw [h2,h3,h4,decide_eq_true rfl,Bool.true_and,Bool.true_or]
   cases decide (0<(g.length:Int)) <;> rfl
  ·rw [h1]; (try dsimp only);rw [h2,show decide ((1:Int)=0)=false from rfl,Bool.false_and,Bool.false_or];rfl
 ·have h1:=hg.good _ (zak hi);rw [zaX (by omega)];by_cases e:Vec.get v (nth g i).Station.toNat=(nth g i).Channel
  ·(have e2:zcI v (g.take (i+1))=zcI v (g.take i):=by rw [zbS hi,zga,decide_eq_false (by simpa using e),cond_false,List.append_nil]);rw [decide_eq_false (by simpa using e),cond_false]; (try dsimp only);rw [decide_eq_false (by rcases hI with h|h <;> omega),cond_false];exact hn _ (by rw [e2];exact hI)
  ·(have e2:zcI v (g.take (i+1))=zcI v (g.take i)++[nth g i]:=by rw [zbS hi,zga,decide_eq_true e,cond_true]);rw [decide_eq_true e,cond_true]; (try dsimp only);rcases hI with ⟨h2,h3,h4,h5⟩|⟨h2,h3⟩
   ·rw [h3,show wI (0+1)=1 from rfl,show decide ((1:Int)<1)=false from rfl,cond_false];exact hn _ (.inr ⟨by rw [e2,h2];rfl,rfl⟩)
   ·rw [h3,show wI (1+1)=2 from rfl,show decide ((1:Int)<2)=true from rfl,cond_true];have h6:(zcI v (g.take (i+1))).Sublist (zcI v g):=(List.take_sublist _ _).filter _;rw [e2,h2] at h6;have h7:=h6.length_le;unfold zdo
    match h8:zcI v g with
    | []=>rw [h8] at h7;simp at h7
    | [c]=>rw [h8] at h7;simp at h7
    |_ :: _ :: _=>rfl
end
def remN (d:List GDomain)(g:List GChoice)(s c:Int):Bool:=(g.any fun x=>decide (x.Station=s)&&decide (x.Channel=c))&&g.all fun x=>decide (x.Station=s)||zcz d x.Station x.Channel
structure ClosedN (p:GProblem) (S:List (List GChoice)) (d:List GDomain):Prop where
 cl:ClosedD p d
 ne:∀g∈S,g≠[]
 calm:∀g∈S,∀x∈d,∀c∈x.Channels,remN d g x.Station c=false
section
variable {p:GProblem}{S:List (List GChoice)}{d e:List GDomain}{m:List GDomain×Bool}{v:Vec 512 Int}{g:List GChoice}
theorem zjC {s c:Int}(hG:GG p)(hd:SubP p d){x:GDomain}(hx:x∈d)(hs:x.Station=s)(hl:x.Channels.length=1)(h0:nth x.Channels 0=c):zcz d s c=true:=by
 rw [onlyP_iff];intro y hy e k hk;have:y=x:=hd.inj hG hy hx (by rw [e,hs]);subst this;obtain ⟨z,hz⟩:=List.length_eq_one_iff.1 hl;rw [hz] at hk h0;simp [nth] at hk h0;rw [hk,h0]
theorem zhJ (hG:GG p)(hd:SubP p d)(hv:FixN d v)(hg:okN p g=true){c:GChoice}(hc:c∈g)(h:Vec.get v c.Station.toNat=c.Channel):∃x∈d,x.Station=c.Station∧x.Channels.length=1∧nth x.Channels 0=c.Channel:=by
 obtain ⟨hl,hh⟩:=okN_iff.1 hg;obtain ⟨x,hx,e⟩:=hd.has (zgh (hh c hc));have h1:=hv x hx;have h2:=hl.good c hc;rw [e,h] at h1;by_cases h3:x.Channels.length=1
 ·rw [decide_eq_true h3,cond_true] at h1;exact ⟨x,hx,e,h3,h1.symm⟩
 ·rw [decide_eq_false h3,cond_false] at h1;omega
theorem ziy {c:GChoice}(hc:c∈g)(h:c∉zcI v g):Vec.get v c.Station.toNat=c.Channel:=by
 refine Decidable.byContradiction fun e=>h ?_;unfold zcI;rw [List.mem_filter];exact ⟨hc,by simp [e]⟩
theorem has_ex {c:GChoice}:zfN m c=true↔m.2=true∧∃x∈m.1,x.Station=c.Station∧c.Channel∈x.Channels:=by
 unfold zfN;simp only [Bool.and_eq_true,List.any_eq_true,decide_eq_true_eq];constructor
 ·rintro ⟨h,x,hx,h1,k,hk,rfl⟩;exact ⟨h,x,hx,h1,hk⟩
 ·rintro ⟨h,x,hx,h1,hk⟩;exact ⟨h,x,hx,h1,_,hk,rfl⟩
theorem zg7 (hG:GG p)(hd:SubP p m.1)(h2:m.2=true)(hv:FixN m.1 v)(hg:okN p g=true)(h0:g≠[])(h:(zdo m v g).2=true):(zdo m v g).1∈g∧zfN m (zdo m v g).1=true∧∀x∈g,x≠(zdo m v g).1→zcz m.1 x.Station x.Channel=true:=by
 have hpos:0<g.length:=List.length_pos_iff.2 h0
 have only:∀x∈g,x∉zcI v g→zcz m.1 x.Station x.Channel=true:=fun x hx hn=>by
  obtain ⟨y,hy,h3,h4,h5⟩:=zhJ hG hd hv hg hx (ziy hx hn);exact zjC hG hd hy h3 h4 h5
 unfold zdo at h ⊢
 match h8:zcI v g with
 | []=>
  rw [h8] at h;dsimp only at h ⊢;rw [decide_eq_true (by omega),cond_true];refine ⟨zak hpos,?_,fun x hx _=>only x hx (by rw [h8];simp)⟩;obtain ⟨y,hy,h3,h4,h5⟩:=zhJ hG hd hv hg (zak hpos) (ziy (zak hpos) (by rw [h8];simp));obtain ⟨z,hz⟩:=List.length_eq_one_iff.1 h4;refine has_ex.2 ⟨h2,y,hy,h3,?_⟩;rw [←h5,hz];simp [nth]
 | [c]=>
  rw [h8] at h;dsimp only at h ⊢; (have hc:c∈zcI v g:=by rw [h8];simp);refine ⟨(List.mem_filter.1 hc).1,h,fun x hx hne=>only x hx (by rw [h8];simpa using hne)⟩
 |_ :: _ :: _=>rw [h8] at h;cases h
theorem zju (hG:GG p)(hd:SubP p m.1)(h2:m.2=true)(hv:FixN m.1 v)(hg:okN p g=true)(h0:g≠[])(hS:g∈S)(h:(zdo m v g).2=true)(he:ClosedN p S e)(hs:SubD e m.1):SubD e (m.1.map (zcD (zdo m v g).1.Station (zdo m v g).1.Channel)):=by
 obtain ⟨h3,h4,h5⟩:=zg7 hG hd h2 hv hg h0 h;generalize (zdo m v g).1=c at h3 h4 h5 ⊢;obtain ⟨hl,_⟩:=okN_iff.1 hg;refine ⟨by rw [List.length_map];exact hs.1,fun i hi=>?_⟩;rw [List.length_map] at hi;rw [zaL hi];have h6:=hs.2 i hi;refine ⟨h6.1,fun k hk=>?_⟩;unfold zcD;dsimp only;rw [List.mem_filter];refine ⟨h6.2 k hk,?_⟩;rw [Bool.or_eq_true,decide_eq_true_eq,decide_eq_true_eq];by_cases e1:(nth m.1 i).Station=c.Station
 ·refine .inr fun e2=>?_; (have hi':i<e.length:=by rw [hs.1];exact hi);have h7:=he.calm g hS _ (zak hi') k hk
  have h8:remN e g (nth e i).Station k=true:=by
   unfold remN;rw [Bool.and_eq_true,List.any_eq_true,List.all_eq_true];refine ⟨⟨c,h3,by rw [h6.1,e1,e2];simp⟩,fun x hx=>?_⟩;by_cases e3:x=c
   ·rw [e3,h6.1,e1];simp
   ·rw [zcM hs (h5 x hx e3)];simp
  rw [h8] at h7;cases h7
 ·exact .inl e1
theorem zjb (hG : GG p) (hB : ∀ x ∈ m.1, x.Channels.Nodup) (hd : SubP p m.1) (h2 : m.2 = true) (hc : ClosedD p m.1) (hv : FixN m.1 v) (hg : okN p g = true) (h : (zdo m v g).2 = false) : g ≠ [] ∧ ∀ x ∈ m.1, ∀ c ∈ x.Channels, remN m.1 g x.Station c = false := by
  obtain ⟨hl, hh⟩ := okN_iff.1 hg; refine ⟨fun e => ?_, fun x hx c hcx => ?_⟩
  · subst e; cases h
  · cases hr : remN m.1 g x.Station c with
    | false => rfl
    | true =>
      unfold remN at hr; rw [Bool.and_eq_true, List.any_eq_true, List.all_eq_true] at hr; obtain ⟨⟨y, hy, h3⟩, h4⟩ := hr; rw [Bool.and_eq_true, decide_eq_true_eq, decide_eq_true_eq] at h3
      -- the others are made
      have ho : ∀ z ∈ zcI v g, z = y := fun z hz => by
        have hzg := (List.mem_filter.1 hz); have h5 := h4 z hzg.1; rw [Bool.or_eq_true, decide_eq_true_eq] at h5; rcases h5 with h5 | h5
        · exact hl.inj hzg.1 hy (by rw [h5, h3.1])
        · exfalso; obtain ⟨u, hu, e⟩ := hd.has (zgh (hh z hzg.1)); have h6 := onlyP_iff.1 h5 u hu e
          have h7 : u.Channels = [z.Channel] := by
            have hne := hc.ne u hu; have hnd := hB u hu
            match hq : u.Channels with
            | [] => exact absurd hq hne
            | [a] => rw [hq] at h6; rw [h6 a (by simp)]
            | a :: b :: r =>
              rw [hq] at h6 hnd; have h8 := h6 a (by simp); have h9 := h6 b (by simp); rw [h8, h9] at hnd; simp at hnd
          have h8 := hv u hu; rw [h7] at h8; have h9 := hzg.2; rw [← e, h8] at h9; simp [nth] at h9
      have hyo : zfN m y = true := has_ex.2 ⟨h2, x, hx, h3.1.symm, by rw [h3.2]; exact hcx⟩
      have hnd : (zcI v g).length ≤ 1 := by
        match h8 : zcI v g with
        | [] => simp
        | [_] => simp
        | a :: b :: r =>
          exfalso; have hsub : (zcI v g).Sublist g := List.filter_sublist
          have hgn : g.Nodup := by
            rw [List.Nodup, List.pairwise_iff_getElem]; intro i j hi hj hij e; have := hl.inc i j hij hj; rw [zat hi, zat hj, e] at this; omega
          have := hgn.sublist hsub; rw [h8] at this ho; rw [ho a (by simp), ho b (by simp)] at this; simp at this
      unfold zdo at h
      match h8 : zcI v g with
      | [] => rw [h8] at h; cases h
      | [a] => rw [h8] at h ho; rw [ho a (by simp)] at h; dsimp only at h; rw [hyo] at h; cases h
      | a :: b :: r => rw [h8] at hnd; simp at hnd
end
end Go.Proofs.YtbpbhbkcahcdiaaGreatDoor
