/- Spans: whether a number is within, points, negatives, sums, differences, rounding outward. Printed by gen_sa.py. -/
import Derived.Test.YtjamgccgoapbeaaGreatDoorGVs
import Derived.Test.YtjamgccgoapbeaaGreatDoorGVx
import Derived.Test.YtjamgccgoapbeaaGreatDoorGYa
import Derived.Deep.RegionHeld3
import Derived.Deep.DeepCutAuto
set_option linter.unusedVariables false
set_option maxRecDepth 100000
set_option maxHeartbeats 64000000
namespace Go.Proofs.YtjamgccgoapbeaaGreatDoor
open Go.RowKit
theorem cmp_q_e (M:Nat) (hM:M≤1099511627776) (vx vy:Value) (x y:Rat) (c:Int) (hc:cmpQ x y=c) (w:World) (hx:Nm w vx x) (hy:Nm w vy y) (bx:Bq M x) (by_:Bq M y):Calls Tryz.prog 16 #[vx,vy] w fun e w'=>e=.returned (.int .i64 c)∧Ext w w':=by
 subst hc;exact cmp_q M hM vx vy x y w hx hy bx by_
theorem cmpQ_le0 (x y:Rat):cmpQ x y≤0↔x≤y:=by
 have h:=cmpQ_pos x y;have h1:=cmpQ_one x y
 constructor
 ·intro h2
  refine Rat.not_lt.1 (fun h3=>?_)
  have:=h.2 h3;omega
 ·intro h2
  have h3:¬ y<x:=Rat.not_lt.2 h2;have h4:cmpQ x y≠1:=fun e=>h3 (h.1 e);omega
def hasB (lo hi x:Rat):Bool:=decide (cmpQ (aq lo hi).1 x≤0) && decide (cmpQ x (aq lo hi).2≤0)
theorem hasB_true {lo hi x:Rat}:hasB lo hi x=true↔InS (aq lo hi) x:=by
 unfold hasB InS;rw [Bool.and_eq_true,decide_eq_true_iff,decide_eq_true_iff,cmpQ_le0,cmpQ_le0]
theorem has_c (M:Nat) (hM:M≤1099511627776) (v vx:Value) (lo hi x:Rat) (b:Bool) (hb:hasB lo hi x=b) (w:World) (h:Sp w v lo hi) (hx:Nm w vx x) (hp1:Bq M lo) (hp2:Bq M hi) (bx:Bq M x):Calls Tryz.prog 46 #[v,vx] w fun e w'=>e=.returned (.bool b)∧Ext w w':=by
 obtain⟨b1,A1,k1,ca1,B1,l1,cb1,b2,A2,k2,ca2,B2,l2,cb2,rfl,-,-⟩:=h.form;obtain⟨b3,A3,k3,ca3,B3,l3,cb3,rfl⟩:=hx.form2;have BS:=ZZ (bq_sort hp1 hp2);have BL1:=ZZ hp1;have BL2:=ZZ hp2;have BX:=ZZ bx;have HM:=ZZ hM;have HX:=ZZ hx;have HH:=ZZ h;obtain⟨s1,hs1⟩:∃q,(aq lo hi).1=q:=⟨_,rfl⟩;obtain⟨s2,hs2⟩:∃q,(aq lo hi).2=q:=⟨_,rfl⟩;obtain⟨ca,hca⟩:∃c,cmpQ s1 x=c:=⟨_,rfl⟩;obtain⟨cc,hcc⟩:∃c,cmpQ x s2=c:=⟨_,rfl⟩;have HB:=ZZ (show (decide (ca≤0) && decide (cc≤0))=b by rw [←hb];unfold hasB;rw [hs1,hs2,hca,hcc]);rw [hs1,hs2] at BS;have HQ:=ZZ (And.intro hs1 hs2);have HCA:=ZZ hca;have HCC:=ZZ hcc;have E0:=ZZ (ext2 w (.cells #[.bool b1,.slice A1 k1 ca1,.slice B1 l1 cb1,.bool b2,.slice A2 k2 ca2,.slice B2 l2 cb2] 37) (.cells #[.bool b3,.slice A3 k3 ca3,.slice B3 l3 cb3] 35));clear h hx hp1 hp2 bx hM hs1 hs2 hca hcc hb
 go_enter Tryz.func46,Tryz.ntmps46
 go_wp2_with fail;refine(sorted_c M HM.out _ lo hi _ (HH.out.mono E0.out) BL1.out BL2.out).mono ?_
 rintro e w3 ⟨v3,rfl,h3,e3⟩;rw [HQ.out.1,HQ.out.2] at h3;obtain⟨b5,A5,k5,ca5,B5,l5,cb5,b6,A6,k6,ca6,B6,l6,cb6,rfl,hlo,hhi⟩:=h3.form;have hrb:=row6 (al (ab _ (.cells #[.bool b3,.slice A3 k3 ca3,.slice B3 l3 cb3] 35)) e3)
 have hrx:w3.heap[w.heap.size+1]?=some (.cells #[.bool b3,.slice A3 k3 ca3,.slice B3 l3 cb3] 35 (0,0)):=by
  have q:=row3 e3
  simpa using q
 have HLO:=ZZ hlo;have HHI:=ZZ hhi;have HRB:=ZZ hrb;have HRX:=ZZ hrx;have K3:=ZZ (al E0.out e3);obtain⟨x0,x1,x2,x3,x4,x5,f0,f1,f2,f3,f4,f5⟩:=ai hrb;obtain⟨y0,y1,y2,-⟩:=aj hrx;clear h3 hlo hhi hrb hrx e3;go_wp2_with fail;have n10:w.heap.size+1≠w.heap.size:=by omega
 have RB:=ZZ (ag HRB.out (.bool b5) (.slice A5 k5 ca5) (.slice B5 l5 cb5) (.bool b6) (.slice A6 k6 ca6) (.slice B6 l6 cb6));have RX:=ZZ (ah HRX.out n10 (.bool b5) (.slice A5 k5 ca5) (.slice B5 l5 cb5) (.bool b6) (.slice A6 k6 ca6) (.slice B6 l6 cb6));have K4:=ZZ (af K3.out (Nat.le_refl _) (.bool b5) (.slice A5 k5 ca5) (.slice B5 l5 cb5) (.bool b6) (.slice A6 k6 ca6) (.slice B6 l6 cb6));refine(cmp_q_e M HM.out _ _ s1 x ca HCA.out _ (HLO.out.put6 HRB.out _ _ _ _ _ _) ((HX.out.mono K3.out).put6 HRB.out _ _ _ _ _ _) BS.out.1 BX.out).mono ?_;rintro e w4 ⟨rfl,e4⟩;have hrb:=(e4.block _ (lt_of_block RB.out)).trans RB.out;have hrx:=(e4.block _ (lt_of_block RX.out)).trans RX.out;have N5:=ZZ ((HHI.out.put6 HRB.out (.bool b5) (.slice A5 k5 ca5) (.slice B5 l5 cb5) (.bool b6) (.slice A6 k6 ca6) (.slice B6 l6 cb6)).mono e4);have N6:=ZZ (((HX.out.mono K3.out).put6 HRB.out (.bool b5) (.slice A5 k5 ca5) (.slice B5 l5 cb5) (.bool b6) (.slice A6 k6 ca6) (.slice B6 l6 cb6)).mono e4);have K5:=ZZ (al K4.out e4);clear x0 x1 x2 x3 x4 x5 f0 f1 f2 f3 f4 f5 y0 y1 y2 e4 n10;obtain⟨x0,x1,x2,x3,x4,x5,f0,f1,f2,f3,f4,f5⟩:=ai hrb;obtain⟨y0,y1,y2,-⟩:=aj hrx;clear hrb hrx
 by_cases h1:ca≤0
 ·have t1:decide (ca≤0)=true:=decide_eq_true h1
  obtain⟨bb,hbb⟩:∃bb,decide (cc≤0)=bb:=⟨_,rfl⟩;obtain rfl:bb=b:=by rw [←HB.out,t1,hbb];rfl
  clear h1;go_wp2_with fail;refine(cmp_q_e M HM.out _ _ x s2 cc HCC.out _ N6.out N5.out BX.out BS.out.2).mono ?_;rintro e w5 ⟨rfl,e5⟩;go_wp2_with fail;go_ret;exact⟨by first|rfl|rw [hbb],al K5.out e5⟩
 ·have t1:decide (ca≤0)=false:=decide_eq_false h1
  obtain rfl:false=b:=by rw [←HB.out,t1];rfl
  clear h1;go_wp2_with fail;go_ret;exact⟨rfl,K5.out⟩
theorem point_c (vx:Value) (x:Rat) (w:World) (hx:Nm w vx x):Calls Tryz.prog 56 #[vx] w fun e w'=>∃v,e=.returned v∧Sp w' v x x∧Ext w w':=by
 obtain⟨b3,A3,k3,ca3,B3,l3,cb3,rfl⟩:=hx.form2;have HX:=ZZ hx;have E0:=ZZ (ext2 w (.cells #[.bool b3,.slice A3 k3 ca3,.slice B3 l3 cb3] 35) (.cells #[.bool false,.slice none 0 0,.slice none 0 0,.bool false,.slice none 0 0,.slice none 0 0] 37));have LE:=ZZ (show w.heap.size≤w.heap.size+1 from Nat.le_succ _);have hrx:=row3 (ab (w.alloc (.cells #[.bool b3,.slice A3 k3 ca3,.slice B3 l3 cb3] 35)) (.cells #[.bool false,.slice none 0 0,.slice none 0 0,.bool false,.slice none 0 0,.slice none 0 0] 37))
 have hrz:((w.alloc (.cells #[.bool b3,.slice A3 k3 ca3,.slice B3 l3 cb3] 35)).alloc (.cells #[.bool false,.slice none 0 0,.slice none 0 0,.bool false,.slice none 0 0,.slice none 0 0] 37)).heap[w.heap.size+1]?=some (.cells #[.bool false,.slice none 0 0,.slice none 0 0,.bool false,.slice none 0 0,.slice none 0 0] 37 (0,0)):=by
  have q:=row6 (ae ((w.alloc (.cells #[.bool b3,.slice A3 k3 ca3,.slice B3 l3 cb3] 35)).alloc (.cells #[.bool false,.slice none 0 0,.slice none 0 0,.bool false,.slice none 0 0,.slice none 0 0] 37)))
  simpa using q
 have HRZ:=ZZ hrz;clear hx
 go_enter Tryz.func56,Tryz.ntmps56
 go_wp2_with fail;refine bodyPost_ret (v:=.agg #[.bool b3,.slice A3 k3 ca3,.slice B3 l3 cb3,.bool b3,.slice A3 k3 ca3,.slice B3 l3 cb3]) (by simp [results,Tryz.f56];go_simp) rfl ?_
 exact⟨_,rfl,⟨_,_,_,_,_,_,rfl,HX.out.mono (ext2 _ _ _),HX.out.mono (ext2 _ _ _)⟩,ext2 _ _ _⟩
theorem add_s (M:Nat) (hM:M≤1099511627776) (va vb:Value) (qa qb qc qd:Rat) (w:World) (ha:Sp w va qa qb) (hb:Sp w vb qc qd) (ba1:Bq M qa) (ba2:Bq M qb) (bb1:Bq M qc) (bb2:Bq M qd):Calls Tryz.prog 54 #[va,vb] w fun e w'=>∃v,e=.returned v∧Sp w' v ((aq qa qb).1+(aq qc qd).1) ((aq qa qb).2+(aq qc qd).2)∧Ext w w':=by
 obtain⟨b1,A1,k1,ca1,B1,l1,cb1,b2,A2,k2,ca2,B2,l2,cb2,rfl,-,-⟩:=ha.form;obtain⟨b3,A3,k3,ca3,B3,l3,cb3,b4,A4,k4,ca4,B4,l4,cb4,rfl,-,-⟩:=hb.form;have HA:=ZZ ha;have HB:=ZZ hb;have BA1:=ZZ ba1;have BA2:=ZZ ba2;have BB1:=ZZ bb1;have BB2:=ZZ bb2;have HM:=ZZ hM;clear ha hb ba1 ba2 bb1 bb2 hM;obtain⟨hw0,hra,hrb,hrz⟩:=setupS3 w (.bool b1) (.slice A1 k1 ca1) (.slice B1 l1 cb1) (.bool b2) (.slice A2 k2 ca2) (.slice B2 l2 cb2) (.bool b3) (.slice A3 k3 ca3) (.slice B3 l3 cb3) (.bool b4) (.slice A4 k4 ca4) (.slice B4 l4 cb4);have hww:=ZZ hw0;have RA:=ZZ hra;have RB:=ZZ hrb;have RZ:=ZZ hrz;clear hw0 hra hrb hrz
 go_enter Tryz.func54,Tryz.ntmps54
 go_wp2_with fail;generalize World.alloc (World.alloc (World.alloc w (.cells #[.bool b1,.slice A1 k1 ca1,.slice B1 l1 cb1,.bool b2,.slice A2 k2 ca2,.slice B2 l2 cb2] _)) (.cells #[.bool b3,.slice A3 k3 ca3,.slice B3 l3 cb3,.bool b4,.slice A4 k4 ca4,.slice B4 l4 cb4] _)) (.cells #[.bool false,.slice none 0 0,.slice none 0 0,.bool false,.slice none 0 0,.slice none 0 0] _)=W2 at *
 have HW2:=ZZ (ae W2);have LT0:=ZZ (show w.heap.size≤w.heap.size+1 from Nat.le_succ _);have LT1:=ZZ (show w.heap.size≤w.heap.size+1+1 from Nat.le_succ_of_le (Nat.le_succ _));have LE0:=ZZ (Nat.le_refl w.heap.size);generalize hg0:w.heap.size=g0 at *;have HG0:=ZZ hg0;clear hg0;have n01:=ZZ (show g0≠g0+1 by omega);have n10:=ZZ (show g0+1≠g0 by omega);have n02:=ZZ (show g0≠g0+1+1 by omega);have n20:=ZZ (show g0+1+1≠g0 by omega);have n12:=ZZ (show g0+1≠g0+1+1 by omega);have n21:=ZZ (show g0+1+1≠g0+1 by omega)
 have HR:=ZZ (show ∀W:World,Ext W2 W→W.heap[g0]?=some (.cells #[.bool b1,.slice A1 k1 ca1,.slice B1 l1 cb1,.bool b2,.slice A2 k2 ca2,.slice B2 l2 cb2] 37 (0,0))∧W.heap[g0+1]?=some (.cells #[.bool b3,.slice A3 k3 ca3,.slice B3 l3 cb3,.bool b4,.slice A4 k4 ca4,.slice B4 l4 cb4] 37 (0,0))∧W.heap[g0+1+1]?=some (.cells #[.bool false,.slice none 0 0,.slice none 0 0,.bool false,.slice none 0 0,.slice none 0 0] 37 (0,0)) from fun W h=>
  ⟨(h.block _ (lt_of_block RA.out)).trans RA.out,(h.block _ (lt_of_block RB.out)).trans RB.out,(h.block _ (lt_of_block RZ.out)).trans RZ.out⟩)
 have HS:=ZZ (show ∀W:World,Ext W2 W→W.cell? ⟨g0,0,none⟩=some (.bool b1)∧W.cell? ⟨g0,1,none⟩=some (.slice A1 k1 ca1)∧W.cell? ⟨g0,2,none⟩=some (.slice B1 l1 cb1)∧W.cell? ⟨g0,3,none⟩=some (.bool b2)∧W.cell? ⟨g0,4,none⟩=some (.slice A2 k2 ca2)∧W.cell? ⟨g0,5,none⟩=some (.slice B2 l2 cb2)∧W.cell? ⟨g0+1,0,none⟩=some (.bool b3)∧W.cell? ⟨g0+1,1,none⟩=some (.slice A3 k3 ca3)∧W.cell? ⟨g0+1,2,none⟩=some (.slice B3 l3 cb3)∧W.cell? ⟨g0+1,3,none⟩=some (.bool b4)∧W.cell? ⟨g0+1,4,none⟩=some (.slice A4 k4 ca4)∧W.cell? ⟨g0+1,5,none⟩=some (.slice B4 l4 cb4) from fun W h=>by
  obtain⟨r1,r2,-⟩:=HR.out W h;obtain⟨p0,p1,p2,p3,p4,p5,-⟩:=ai r1;obtain⟨q0,q1,q2,q3,q4,q5,-⟩:=ai r2;exact⟨p0,p1,p2,p3,p4,p5,q0,q1,q2,q3,q4,q5⟩)
 go_cut [] (fun wx=>SrtR w g0 (aq qa qb) (aq qc qd) wx)
 case first=>
  obtain⟨xy1,xy2,-⟩:=HR.out W2 (ae W2);obtain⟨x0,x1,x2,x3,x4,x5,xf0,xf1,xf2,xf3,xf4,xf5⟩:=ai xy1;obtain⟨y0,y1,y2,y3,y4,y5,yf0,yf1,yf2,yf3,yf4,yf5⟩:=ai xy2;clear xy1 xy2;have e1:=ZZ (ae W2)
  go_region_with (first
   |(go_at_call 98
     with_reducible refine(sorted_c M HM.out _ qa qb _ (HA.out.mono (al hww.out (by repeat (with_reducible first|exact ae _|exact e1.out|refine al ?_ (ab _ _)|refine al ?_ (ac _))))) BA1.out BA2.out).mono ?_
     rintro e w4 ⟨v4,rfl,h4,k4⟩;obtain⟨b5,A5,k5,ca5,B5,l5,cb5,b6,A6,k6,ca6,B6,l6,cb6,rfl,-,-⟩:=h4.form;have S3:=ZZ h4;have hx2:=ZZ (show Ext W2 w4 from al (by repeat (with_reducible first|exact ae _|exact e1.out|refine al ?_ (ab _ _)|refine al ?_ (ac _))) k4);clear h4 k4;obtain⟨pq1,pq2,-⟩:=HR.out w4 hx2.out;obtain⟨p0,p1,p2,p3,p4,p5,pf0,pf1,pf2,pf3,pf4,pf5⟩:=ai pq1;obtain⟨q0,q1,q2,q3,q4,q5,qf0,qf1,qf2,qf3,qf4,qf5⟩:=ai pq2;clear pq1 pq2)
   |(go_at_call 98
     have _q:=hx2
     with_reducible refine(sorted_c M HM.out _ qc qd _ (HB.out.mono (al hww.out hx2.out)) BB1.out BB2.out).mono ?_
     clear _q;rintro e w5 ⟨v5,rfl,h5,k5⟩;obtain⟨b7,A7,k7,ca7,B7,l7,cb7,b8,A8,k8,ca8,B8,l8,cb8,rfl,-,-⟩:=h5.form;have S4:=ZZ h5;have hx3:=ZZ (al hx2.out k5);have e3:=ZZ k5;clear h5 k5;clear p0 p1 p2 p3 p4 p5 pf0 pf1 pf2 pf3 pf4 pf5 q0 q1 q2 q3 q4 q5 qf0 qf1 qf2 qf3 qf4 qf5;obtain⟨pq1,pq2,-⟩:=HR.out w5 hx3.out;obtain⟨p0,p1,p2,p3,p4,p5,pf0,pf1,pf2,pf3,pf4,pf5⟩:=ai pq1;obtain⟨q0,q1,q2,q3,q4,q5,qf0,qf1,qf2,qf3,qf4,qf5⟩:=ai pq2;clear pq1 pq2;have u01:=n01.out;have u10:=n10.out))
  all_goals
   clear x0 x1 x2 x3 x4 x5 xf0 xf1 xf2 xf3 xf4 xf5 y0 y1 y2 y3 y4 y5 yf0 yf1 yf2 yf3 yf4 yf5 p0 p1 p2 p3 p4 p5 pf0 pf1 pf2 pf3 pf4 pf5 q0 q1 q2 q3 q4 q5 qf0 qf1 qf2 qf3 qf4 qf5 u01 u10;go_wp2_with fail;go_meet;obtain⟨hra,hrb,hrz⟩:=HR.out _ hx3.out;have ra1:((((((w5.setCell ⟨g0,0,none⟩ (.bool b5)).setCell ⟨g0,1,none⟩ (.slice A5 k5 ca5)).setCell ⟨g0,2,none⟩ (.slice B5 l5 cb5)).setCell ⟨g0,3,none⟩ (.bool b6)).setCell ⟨g0,4,none⟩ (.slice A6 k6 ca6)).setCell ⟨g0,5,none⟩ (.slice B6 l6 cb6)).heap[g0]?=some (.cells #[.bool b5,.slice A5 k5 ca5,.slice B5 l5 cb5,.bool b6,.slice A6 k6 ca6,.slice B6 l6 cb6] 37 (0,0)):=ag hra _ _ _ _ _ _;have rb1:((((((w5.setCell ⟨g0,0,none⟩ (.bool b5)).setCell ⟨g0,1,none⟩ (.slice A5 k5 ca5)).setCell ⟨g0,2,none⟩ (.slice B5 l5 cb5)).setCell ⟨g0,3,none⟩ (.bool b6)).setCell ⟨g0,4,none⟩ (.slice A6 k6 ca6)).setCell ⟨g0,5,none⟩ (.slice B6 l6 cb6)).heap[g0+1]?=some (.cells #[.bool b3,.slice A3 k3 ca3,.slice B3 l3 cb3,.bool b4,.slice A4 k4 ca4,.slice B4 l4 cb4] 37 (0,0)):=ah hrb n10.out _ _ _ _ _ _;have rz1:((((((w5.setCell ⟨g0,0,none⟩ (.bool b5)).setCell ⟨g0,1,none⟩ (.slice A5 k5 ca5)).setCell ⟨g0,2,none⟩ (.slice B5 l5 cb5)).setCell ⟨g0,3,none⟩ (.bool b6)).setCell ⟨g0,4,none⟩ (.slice A6 k6 ca6)).setCell ⟨g0,5,none⟩ (.slice B6 l6 cb6)).heap[g0+1+1]?=some (.cells #[.bool false,.slice none 0 0,.slice none 0 0,.bool false,.slice none 0 0,.slice none 0 0] 37 (0,0)):=ah hrz n20.out _ _ _ _ _ _
   have ra2:((((((((((((w5.setCell ⟨g0,0,none⟩ (.bool b5)).setCell ⟨g0,1,none⟩ (.slice A5 k5 ca5)).setCell ⟨g0,2,none⟩ (.slice B5 l5 cb5)).setCell ⟨g0,3,none⟩ (.bool b6)).setCell ⟨g0,4,none⟩ (.slice A6 k6 ca6)).setCell ⟨g0,5,none⟩ (.slice B6 l6 cb6)).setCell ⟨g0+1,0,none⟩ (.bool b7)).setCell ⟨g0+1,1,none⟩ (.slice A7 k7 ca7)).setCell ⟨g0+1,2,none⟩ (.slice B7 l7 cb7)).setCell ⟨g0+1,3,none⟩ (.bool b8)).setCell ⟨g0+1,4,none⟩ (.slice A8 k8 ca8)).setCell ⟨g0+1,5,none⟩ (.slice B8 l8 cb8)).heap[g0]?=some (.cells #[.bool b5,.slice A5 k5 ca5,.slice B5 l5 cb5,.bool b6,.slice A6 k6 ca6,.slice B6 l6 cb6] 37 (0,0)):=ah ra1 n01.out _ _ _ _ _ _;have rb2:((((((((((((w5.setCell ⟨g0,0,none⟩ (.bool b5)).setCell ⟨g0,1,none⟩ (.slice A5 k5 ca5)).setCell ⟨g0,2,none⟩ (.slice B5 l5 cb5)).setCell ⟨g0,3,none⟩ (.bool b6)).setCell ⟨g0,4,none⟩ (.slice A6 k6 ca6)).setCell ⟨g0,5,none⟩ (.slice B6 l6 cb6)).setCell ⟨g0+1,0,none⟩ (.bool b7)).setCell ⟨g0+1,1,none⟩ (.slice A7 k7 ca7)).setCell ⟨g0+1,2,none⟩ (.slice B7 l7 cb7)).setCell ⟨g0+1,3,none⟩ (.bool b8)).setCell ⟨g0+1,4,none⟩ (.slice A8 k8 ca8)).setCell ⟨g0+1,5,none⟩ (.slice B8 l8 cb8)).heap[g0+1]?=some (.cells #[.bool b7,.slice A7 k7 ca7,.slice B7 l7 cb7,.bool b8,.slice A8 k8 ca8,.slice B8 l8 cb8] 37 (0,0)):=ag rb1 _ _ _ _ _ _
   have rz2:((((((((((((w5.setCell ⟨g0,0,none⟩ (.bool b5)).setCell ⟨g0,1,none⟩ (.slice A5 k5 ca5)).setCell ⟨g0,2,none⟩ (.slice B5 l5 cb5)).setCell ⟨g0,3,none⟩ (.bool b6)).setCell ⟨g0,4,none⟩ (.slice A6 k6 ca6)).setCell ⟨g0,5,none⟩ (.slice B6 l6 cb6)).setCell ⟨g0+1,0,none⟩ (.bool b7)).setCell ⟨g0+1,1,none⟩ (.slice A7 k7 ca7)).setCell ⟨g0+1,2,none⟩ (.slice B7 l7 cb7)).setCell ⟨g0+1,3,none⟩ (.bool b8)).setCell ⟨g0+1,4,none⟩ (.slice A8 k8 ca8)).setCell ⟨g0+1,5,none⟩ (.slice B8 l8 cb8)).heap[g0+1+1]?=some (.cells #[.bool false,.slice none 0 0,.slice none 0 0,.bool false,.slice none 0 0,.slice none 0 0] 37 (0,0)):=ah rz1 n21.out _ _ _ _ _ _;have S3':Sp ((((((((((((w5.setCell ⟨g0,0,none⟩ (.bool b5)).setCell ⟨g0,1,none⟩ (.slice A5 k5 ca5)).setCell ⟨g0,2,none⟩ (.slice B5 l5 cb5)).setCell ⟨g0,3,none⟩ (.bool b6)).setCell ⟨g0,4,none⟩ (.slice A6 k6 ca6)).setCell ⟨g0,5,none⟩ (.slice B6 l6 cb6)).setCell ⟨g0+1,0,none⟩ (.bool b7)).setCell ⟨g0+1,1,none⟩ (.slice A7 k7 ca7)).setCell ⟨g0+1,2,none⟩ (.slice B7 l7 cb7)).setCell ⟨g0+1,3,none⟩ (.bool b8)).setCell ⟨g0+1,4,none⟩ (.slice A8 k8 ca8)).setCell ⟨g0+1,5,none⟩ (.slice B8 l8 cb8)) (.agg #[.bool b5,.slice A5 k5 ca5,.slice B5 l5 cb5,.bool b6,.slice A6 k6 ca6,.slice B6 l6 cb6]) _ _:=((S3.out.mono e3.out).put6 hra _ _ _ _ _ _).put6 rb1 _ _ _ _ _ _
   have S4':Sp ((((((((((((w5.setCell ⟨g0,0,none⟩ (.bool b5)).setCell ⟨g0,1,none⟩ (.slice A5 k5 ca5)).setCell ⟨g0,2,none⟩ (.slice B5 l5 cb5)).setCell ⟨g0,3,none⟩ (.bool b6)).setCell ⟨g0,4,none⟩ (.slice A6 k6 ca6)).setCell ⟨g0,5,none⟩ (.slice B6 l6 cb6)).setCell ⟨g0+1,0,none⟩ (.bool b7)).setCell ⟨g0+1,1,none⟩ (.slice A7 k7 ca7)).setCell ⟨g0+1,2,none⟩ (.slice B7 l7 cb7)).setCell ⟨g0+1,3,none⟩ (.bool b8)).setCell ⟨g0+1,4,none⟩ (.slice A8 k8 ca8)).setCell ⟨g0+1,5,none⟩ (.slice B8 l8 cb8)) (.agg #[.bool b7,.slice A7 k7 ca7,.slice B7 l7 cb7,.bool b8,.slice A8 k8 ca8,.slice B8 l8 cb8]) _ _:=(S4.out.put6 hra _ _ _ _ _ _).put6 rb1 _ _ _ _ _ _;have EF:Ext w ((((((((((((w5.setCell ⟨g0,0,none⟩ (.bool b5)).setCell ⟨g0,1,none⟩ (.slice A5 k5 ca5)).setCell ⟨g0,2,none⟩ (.slice B5 l5 cb5)).setCell ⟨g0,3,none⟩ (.bool b6)).setCell ⟨g0,4,none⟩ (.slice A6 k6 ca6)).setCell ⟨g0,5,none⟩ (.slice B6 l6 cb6)).setCell ⟨g0+1,0,none⟩ (.bool b7)).setCell ⟨g0+1,1,none⟩ (.slice A7 k7 ca7)).setCell ⟨g0+1,2,none⟩ (.slice B7 l7 cb7)).setCell ⟨g0+1,3,none⟩ (.bool b8)).setCell ⟨g0+1,4,none⟩ (.slice A8 k8 ca8)).setCell ⟨g0+1,5,none⟩ (.slice B8 l8 cb8)):=af (af (al hww.out hx3.out) (by rw [HG0.out];exact LE0.out) _ _ _ _ _ _) (by rw [HG0.out];exact LT0.out) _ _ _ _ _ _;exact⟨_,_,_,_,_,_,_,_,_,_,_,_,_,_,_,_,_,_,_,_,_,_,_,_,_,_,_,_,ra2,rb2,rz2,S3',S4',EF⟩
 case rest=>
  obtain⟨b5,A5,k5,ca5,B5,l5,cb5,b6,A6,k6,ca6,B6,l6,cb6,b7,A7,k7,ca7,B7,l7,cb7,b8,A8,k8,ca8,B8,l8,cb8,ra3,rb3,rz3,S5,S6,EF'⟩:=hcut;rename World=>WF;have ra2:=ZZ ra3;have rb2:=ZZ rb3;have rz2:=ZZ rz3;have S3':=ZZ S5;have S4':=ZZ S6;have EF:=ZZ EF';clear ra3 rb3 rz3 S5 S6 EF' hww HW2 HS HR RA RB RZ HA HB;have BS:=ZZ (bq_sort BA1.out BA2.out);have BT:=ZZ (bq_sort BB1.out BB2.out);obtain⟨HL1,HH1⟩:=sp_ends S3'.out;obtain⟨HL2,HH2⟩:=sp_ends S4'.out;clear S3' S4'
  have HR:=ZZ (show ∀W:World,Ext WF W→W.heap[g0]?=some (.cells #[.bool b5,.slice A5 k5 ca5,.slice B5 l5 cb5,.bool b6,.slice A6 k6 ca6,.slice B6 l6 cb6] 37 (0,0))∧W.heap[g0+1]?=some (.cells #[.bool b7,.slice A7 k7 ca7,.slice B7 l7 cb7,.bool b8,.slice A8 k8 ca8,.slice B8 l8 cb8] 37 (0,0))∧W.heap[g0+1+1]?=some (.cells #[.bool false,.slice none 0 0,.slice none 0 0,.bool false,.slice none 0 0,.slice none 0 0] 37 (0,0)) from fun W h=>
   ⟨(h.block _ (lt_of_block ra2.out)).trans ra2.out,(h.block _ (lt_of_block rb2.out)).trans rb2.out,(h.block _ (lt_of_block rz2.out)).trans rz2.out⟩)
  clear ra2 rb2 rz2
  go_upto_region 2 with (fail)
  have e1:=ZZ (ac WF);have hx1:=e1
  go_region_held3 (fun W=>W.cell? ⟨g0,0,none⟩=some (.bool b5)∧W.cell? ⟨g0,1,none⟩=some (.slice A5 k5 ca5)∧W.cell? ⟨g0,2,none⟩=some (.slice B5 l5 cb5)∧W.cell? ⟨g0,3,none⟩=some (.bool b6)∧W.cell? ⟨g0,4,none⟩=some (.slice A6 k6 ca6)∧W.cell? ⟨g0,5,none⟩=some (.slice B6 l6 cb6)∧W.cell? ⟨g0+1,0,none⟩=some (.bool b7)∧W.cell? ⟨g0+1,1,none⟩=some (.slice A7 k7 ca7)∧W.cell? ⟨g0+1,2,none⟩=some (.slice B7 l7 cb7)∧W.cell? ⟨g0+1,3,none⟩=some (.bool b8)∧W.cell? ⟨g0+1,4,none⟩=some (.slice A8 k8 ca8)∧W.cell? ⟨g0+1,5,none⟩=some (.slice B8 l8 cb8))
   (first
    | with_reducible exact two_rows_v (HR.out _ hx3.out).1 (HR.out _ hx3.out).2.1
    | with_reducible exact two_rows_v (HR.out _ hx2.out).1 (HR.out _ hx2.out).2.1
    | with_reducible exact two_rows_v (HR.out _ hx1.out).1 (HR.out _ hx1.out).2.1
    | with_reducible exact two_rows_put (HR.out _ hx3.out).1 (HR.out _ hx3.out).2.1 _ _ _ _ _ _)
   (first
    |(have _q:=hx2
      go_at_call 44
      refine(add_q M HM.out _ _ (aq qa qb).2 (aq qc qd).2 _ (HH1.out.mono hx2.out) (HH2.out.mono hx2.out) BS.out.2 BT.out.2).mono ?_;clear _q;rintro e w8 ⟨v8,rfl,h8,kk8⟩;obtain⟨b12,A12,k12,ca12,B12,l12,cb12,rfl⟩:=h8.form2;have H5:=ZZ h8;have hx3:=ZZ (al hx2.out kk8);have e3:=ZZ kk8;clear h8 kk8;obtain⟨-,-,rz⟩:=HR.out w8 hx3.out;obtain⟨z0,z1,z2,z3,z4,z5,zf0,zf1,zf2,zf3,zf4,zf5⟩:=ai rz;have RZ3:=ZZ rz;clear rz)
    |(have _q:=hx1
      go_at_call 44
      refine(add_q M HM.out _ _ (aq qa qb).1 (aq qc qd).1 _ (HL1.out.mono hx1.out) (HL2.out.mono hx1.out) BS.out.1 BT.out.1).mono ?_;clear _q;rintro e w7 ⟨v7,rfl,h7,kk7⟩;obtain⟨b11,A11,k11,ca11,B11,l11,cb11,rfl⟩:=h7.form2;have H4:=ZZ h7;have hx2:=ZZ (al hx1.out kk7);clear h7 kk7))
  all_goals
   go_wp2_with fail;refine bodyPost_ret (v:=.agg #[.bool b11,.slice A11 k11 ca11,.slice B11 l11 cb11,.bool b12,.slice A12 k12 ca12,.slice B12 l12 cb12]) (by simp [results,Tryz.f54];go_simp) rfl ?_
   exact⟨_,rfl,⟨_,_,_,_,_,_,rfl,(H4.out.mono e3.out).put6 RZ3.out _ _ _ _ _ _,H5.out.put6 RZ3.out _ _ _ _ _ _⟩,af (al EF.out hx3.out) (by rw [HG0.out];exact LT1.out) _ _ _ _ _ _⟩
end Go.Proofs.YtjamgccgoapbeaaGreatDoor
