/- Spans: whether a number is within, points, negatives, sums, differences, rounding outward. Printed by gen_sa.py. The reference's numbers: sums, differences. Printed by gen_rt.py. -/
import Derived.Test.YtjamgccgoapbeaaGreatDoorGVs
import Derived.Test.YtjamgccgoapbeaaGreatDoorGVx
import Derived.Deep.RegionHeld3
import Derived.Deep.DeepCutAuto
import Derived.Test.YtjamgccgoapbeaaGreatDoorGYh
set_option linter.unusedVariables false
set_option maxRecDepth 100000
set_option maxHeartbeats 64000000
namespace Go.Proofs.YtjamgccgoapbeaaGreatDoor
open Go.RowKit
theorem point_c (vx:Value) (x:Rat) (w:World) (hx:Nm w vx x):Calls Tryz.prog 56 #[vx] w fun e w'=>∃v,e=.returned v∧Sp w' v x x∧Ext w w':=by
 obtain⟨b3,A3,k3,ca3,B3,l3,cb3,rfl⟩:=hx.form2;have HX:=ZZ hx;have E0:=ZZ (ext2 w (.cells #[.bool b3,.slice A3 k3 ca3,.slice B3 l3 cb3] 35) (.cells #[.bool false,.slice none 0 0,.slice none 0 0,.bool false,.slice none 0 0,.slice none 0 0] 37));have LE:=ZZ (show w.heap.size≤w.heap.size+1 from Nat.le_succ _);have hrx:=row3 (ab (w.alloc (.cells #[.bool b3,.slice A3 k3 ca3,.slice B3 l3 cb3] 35)) (.cells #[.bool false,.slice none 0 0,.slice none 0 0,.bool false,.slice none 0 0,.slice none 0 0] 37))
 have hrz:((w.alloc (.cells #[.bool b3,.slice A3 k3 ca3,.slice B3 l3 cb3] 35)).alloc (.cells #[.bool false,.slice none 0 0,.slice none 0 0,.bool false,.slice none 0 0,.slice none 0 0] 37)).heap[w.heap.size+1]?=some (.cells #[.bool false,.slice none 0 0,.slice none 0 0,.bool false,.slice none 0 0,.slice none 0 0] 37 (0,0)):=by
  have q:=row6 (ae ((w.alloc (.cells #[.bool b3,.slice A3 k3 ca3,.slice B3 l3 cb3] 35)).alloc (.cells #[.bool false,.slice none 0 0,.slice none 0 0,.bool false,.slice none 0 0,.slice none 0 0] 37)))
  simpa using q
 have HRZ:=ZZ hrz;clear hx
 go_enter Tryz.func56,Tryz.ntmps56
 go_wp2_with fail;refine bodyPost_ret (v:=.agg #[.bool b3,.slice A3 k3 ca3,.slice B3 l3 cb3,.bool b3,.slice A3 k3 ca3,.slice B3 l3 cb3]) (by simp [results,Tryz.f56];go_simp) rfl ?_
 exact⟨_,rfl,⟨_,_,_,_,_,_,rfl,HX.out.mono (ext2 _ _ _),HX.out.mono (ext2 _ _ _)⟩,ext2 _ _ _⟩
theorem add_s (M:Nat) (hM:M≤1099511627776) (va vb:Value) (qa qb qc qd:Rat) (w:World) (ha:Sp w va qa qb) (hb:Sp w vb qc qd) (ba1:Bq M qa) (ba2:Bq M qb) (bb1:Bq M qc) (bb2:Bq M qd):Calls Tryz.prog 54 #[va,vb] w fun e w'=>∃v,e=.returned v∧Sp w' v ((au qa qb).1+(au qc qd).1) ((au qa qb).2+(au qc qd).2)∧Ext w w':=by
 obtain⟨b1,A1,k1,ca1,B1,l1,cb1,b2,A2,k2,ca2,B2,l2,cb2,rfl,-,-⟩:=ha.form;obtain⟨b3,A3,k3,ca3,B3,l3,cb3,b4,A4,k4,ca4,B4,l4,cb4,rfl,-,-⟩:=hb.form;have HA:=ZZ ha;have HB:=ZZ hb;have BA1:=ZZ ba1;have BA2:=ZZ ba2;have BB1:=ZZ bb1;have BB2:=ZZ bb2;have HM:=ZZ hM;clear ha hb ba1 ba2 bb1 bb2 hM;obtain⟨hw0,hra,hrb,hrz⟩:=setupS3 w (.bool b1) (.slice A1 k1 ca1) (.slice B1 l1 cb1) (.bool b2) (.slice A2 k2 ca2) (.slice B2 l2 cb2) (.bool b3) (.slice A3 k3 ca3) (.slice B3 l3 cb3) (.bool b4) (.slice A4 k4 ca4) (.slice B4 l4 cb4);have hww:=ZZ hw0;have RA:=ZZ hra;have RB:=ZZ hrb;have RZ:=ZZ hrz;clear hw0 hra hrb hrz
 go_enter Tryz.func54,Tryz.ntmps54
 go_wp2_with fail;generalize World.alloc (World.alloc (World.alloc w (.cells #[.bool b1,.slice A1 k1 ca1,.slice B1 l1 cb1,.bool b2,.slice A2 k2 ca2,.slice B2 l2 cb2] _)) (.cells #[.bool b3,.slice A3 k3 ca3,.slice B3 l3 cb3,.bool b4,.slice A4 k4 ca4,.slice B4 l4 cb4] _)) (.cells #[.bool false,.slice none 0 0,.slice none 0 0,.bool false,.slice none 0 0,.slice none 0 0] _)=W2 at *
 have HW2:=ZZ (ae W2);have LT0:=ZZ (show w.heap.size≤w.heap.size+1 from Nat.le_succ _);have LT1:=ZZ (show w.heap.size≤w.heap.size+1+1 from Nat.le_succ_of_le (Nat.le_succ _));have LE0:=ZZ (Nat.le_refl w.heap.size);generalize hg0:w.heap.size=g0 at *;have HG0:=ZZ hg0;clear hg0;have n01:=ZZ (show g0≠g0+1 by omega);have n10:=ZZ (show g0+1≠g0 by omega);have n02:=ZZ (show g0≠g0+1+1 by omega);have n20:=ZZ (show g0+1+1≠g0 by omega);have n12:=ZZ (show g0+1≠g0+1+1 by omega);have n21:=ZZ (show g0+1+1≠g0+1 by omega)
 have HR:=ZZ (show ∀W:World,Ext W2 W→W.heap[g0]?=some (.cells #[.bool b1,.slice A1 k1 ca1,.slice B1 l1 cb1,.bool b2,.slice A2 k2 ca2,.slice B2 l2 cb2] 37 (0,0))∧W.heap[g0+1]?=some (.cells #[.bool b3,.slice A3 k3 ca3,.slice B3 l3 cb3,.bool b4,.slice A4 k4 ca4,.slice B4 l4 cb4] 37 (0,0))∧W.heap[g0+1+1]?=some (.cells #[.bool false,.slice none 0 0,.slice none 0 0,.bool false,.slice none 0 0,.slice none 0 0] 37 (0,0)) from fun W h=>
  ⟨(h.block _ (lt_of_block RA.out)).trans RA.out,(h.block _ (lt_of_block RB.out)).trans RB.out,(h.block _ (lt_of_block RZ.out)).trans RZ.out⟩)
 have HS:=ZZ (show ∀W:World,Ext W2 W→W.cell? ⟨g0,0,none⟩=some (.bool b1)∧W.cell? ⟨g0,1,none⟩=some (.slice A1 k1 ca1)∧W.cell? ⟨g0,2,none⟩=some (.slice B1 l1 cb1)∧W.cell? ⟨g0,3,none⟩=some (.bool b2)∧W.cell? ⟨g0,4,none⟩=some (.slice A2 k2 ca2)∧W.cell? ⟨g0,5,none⟩=some (.slice B2 l2 cb2)∧W.cell? ⟨g0+1,0,none⟩=some (.bool b3)∧W.cell? ⟨g0+1,1,none⟩=some (.slice A3 k3 ca3)∧W.cell? ⟨g0+1,2,none⟩=some (.slice B3 l3 cb3)∧W.cell? ⟨g0+1,3,none⟩=some (.bool b4)∧W.cell? ⟨g0+1,4,none⟩=some (.slice A4 k4 ca4)∧W.cell? ⟨g0+1,5,none⟩=some (.slice B4 l4 cb4) from fun W h=>by
  obtain⟨r1,r2,-⟩:=HR.out W h;obtain⟨p0,p1,p2,p3,p4,p5,-⟩:=ai r1;obtain⟨q0,q1,q2,q3,q4,q5,-⟩:=ai r2;exact⟨p0,p1,p2,p3,p4,p5,q0,q1,q2,q3,q4,q5⟩)
 go_cut [] (fun wx=>SrtR w g0 (au qa qb) (au qc qd) wx)
 case first=>
  obtain⟨xy1,xy2,-⟩:=HR.out W2 (ae W2);obtain⟨x0,x1,x2,x3,x4,x5,xf0,xf1,xf2,xf3,xf4,xf5⟩:=ai xy1;obtain⟨y0,y1,y2,y3,y4,y5,yf0,yf1,yf2,yf3,yf4,yf5⟩:=ai xy2;clear xy1 xy2;have e1:=ZZ (ae W2)
  go_region_with (first
   |(go_at_call 98
     with_reducible refine(sorted_c M HM.out _ qa qb _ (HA.out.mono (am hww.out (by repeat (with_reducible first|exact ae _|exact e1.out|refine am ?_ (ab _ _)|refine am ?_ (ac _))))) BA1.out BA2.out).mono ?_
     rintro e w4 ⟨v4,rfl,h4,k4⟩;obtain⟨b5,A5,k5,ca5,B5,l5,cb5,b6,A6,k6,ca6,B6,l6,cb6,rfl,-,-⟩:=h4.form;have S3:=ZZ h4;have hx2:=ZZ (show Ext W2 w4 from am (by repeat (with_reducible first|exact ae _|exact e1.out|refine am ?_ (ab _ _)|refine am ?_ (ac _))) k4);clear h4 k4;obtain⟨pq1,pq2,-⟩:=HR.out w4 hx2.out;obtain⟨p0,p1,p2,p3,p4,p5,pf0,pf1,pf2,pf3,pf4,pf5⟩:=ai pq1;obtain⟨q0,q1,q2,q3,q4,q5,qf0,qf1,qf2,qf3,qf4,qf5⟩:=ai pq2;clear pq1 pq2)
   |(go_at_call 98
     have _q:=hx2
     with_reducible refine(sorted_c M HM.out _ qc qd _ (HB.out.mono (am hww.out hx2.out)) BB1.out BB2.out).mono ?_
     clear _q;rintro e w5 ⟨v5,rfl,h5,k5⟩;obtain⟨b7,A7,k7,ca7,B7,l7,cb7,b8,A8,k8,ca8,B8,l8,cb8,rfl,-,-⟩:=h5.form;have S4:=ZZ h5;have hx3:=ZZ (am hx2.out k5);have e3:=ZZ k5;clear h5 k5;clear p0 p1 p2 p3 p4 p5 pf0 pf1 pf2 pf3 pf4 pf5 q0 q1 q2 q3 q4 q5 qf0 qf1 qf2 qf3 qf4 qf5;obtain⟨pq1,pq2,-⟩:=HR.out w5 hx3.out;obtain⟨p0,p1,p2,p3,p4,p5,pf0,pf1,pf2,pf3,pf4,pf5⟩:=ai pq1;obtain⟨q0,q1,q2,q3,q4,q5,qf0,qf1,qf2,qf3,qf4,qf5⟩:=ai pq2;clear pq1 pq2;have u01:=n01.out;have u10:=n10.out))
  all_goals
   clear x0 x1 x2 x3 x4 x5 xf0 xf1 xf2 xf3 xf4 xf5 y0 y1 y2 y3 y4 y5 yf0 yf1 yf2 yf3 yf4 yf5 p0 p1 p2 p3 p4 p5 pf0 pf1 pf2 pf3 pf4 pf5 q0 q1 q2 q3 q4 q5 qf0 qf1 qf2 qf3 qf4 qf5 u01 u10;go_wp2_with fail;go_meet;obtain⟨hra,hrb,hrz⟩:=HR.out _ hx3.out;have ra1:((((((w5.setCell ⟨g0,0,none⟩ (.bool b5)).setCell ⟨g0,1,none⟩ (.slice A5 k5 ca5)).setCell ⟨g0,2,none⟩ (.slice B5 l5 cb5)).setCell ⟨g0,3,none⟩ (.bool b6)).setCell ⟨g0,4,none⟩ (.slice A6 k6 ca6)).setCell ⟨g0,5,none⟩ (.slice B6 l6 cb6)).heap[g0]?=some (.cells #[.bool b5,.slice A5 k5 ca5,.slice B5 l5 cb5,.bool b6,.slice A6 k6 ca6,.slice B6 l6 cb6] 37 (0,0)):=ag hra _ _ _ _ _ _;have rb1:((((((w5.setCell ⟨g0,0,none⟩ (.bool b5)).setCell ⟨g0,1,none⟩ (.slice A5 k5 ca5)).setCell ⟨g0,2,none⟩ (.slice B5 l5 cb5)).setCell ⟨g0,3,none⟩ (.bool b6)).setCell ⟨g0,4,none⟩ (.slice A6 k6 ca6)).setCell ⟨g0,5,none⟩ (.slice B6 l6 cb6)).heap[g0+1]?=some (.cells #[.bool b3,.slice A3 k3 ca3,.slice B3 l3 cb3,.bool b4,.slice A4 k4 ca4,.slice B4 l4 cb4] 37 (0,0)):=ah hrb n10.out _ _ _ _ _ _;have rz1:((((((w5.setCell ⟨g0,0,none⟩ (.bool b5)).setCell ⟨g0,1,none⟩ (.slice A5 k5 ca5)).setCell ⟨g0,2,none⟩ (.slice B5 l5 cb5)).setCell ⟨g0,3,none⟩ (.bool b6)).setCell ⟨g0,4,none⟩ (.slice A6 k6 ca6)).setCell ⟨g0,5,none⟩ (.slice B6 l6 cb6)).heap[g0+1+1]?=some (.cells #[.bool false,.slice none 0 0,.slice none 0 0,.bool false,.slice none 0 0,.slice none 0 0] 37 (0,0)):=ah hrz n20.out _ _ _ _ _ _
   have ra2:((((((((((((w5.setCell ⟨g0,0,none⟩ (.bool b5)).setCell ⟨g0,1,none⟩ (.slice A5 k5 ca5)).setCell ⟨g0,2,none⟩ (.slice B5 l5 cb5)).setCell ⟨g0,3,none⟩ (.bool b6)).setCell ⟨g0,4,none⟩ (.slice A6 k6 ca6)).setCell ⟨g0,5,none⟩ (.slice B6 l6 cb6)).setCell ⟨g0+1,0,none⟩ (.bool b7)).setCell ⟨g0+1,1,none⟩ (.slice A7 k7 ca7)).setCell ⟨g0+1,2,none⟩ (.slice B7 l7 cb7)).setCell ⟨g0+1,3,none⟩ (.bool b8)).setCell ⟨g0+1,4,none⟩ (.slice A8 k8 ca8)).setCell ⟨g0+1,5,none⟩ (.slice B8 l8 cb8)).heap[g0]?=some (.cells #[.bool b5,.slice A5 k5 ca5,.slice B5 l5 cb5,.bool b6,.slice A6 k6 ca6,.slice B6 l6 cb6] 37 (0,0)):=ah ra1 n01.out _ _ _ _ _ _;have rb2:((((((((((((w5.setCell ⟨g0,0,none⟩ (.bool b5)).setCell ⟨g0,1,none⟩ (.slice A5 k5 ca5)).setCell ⟨g0,2,none⟩ (.slice B5 l5 cb5)).setCell ⟨g0,3,none⟩ (.bool b6)).setCell ⟨g0,4,none⟩ (.slice A6 k6 ca6)).setCell ⟨g0,5,none⟩ (.slice B6 l6 cb6)).setCell ⟨g0+1,0,none⟩ (.bool b7)).setCell ⟨g0+1,1,none⟩ (.slice A7 k7 ca7)).setCell ⟨g0+1,2,none⟩ (.slice B7 l7 cb7)).setCell ⟨g0+1,3,none⟩ (.bool b8)).setCell ⟨g0+1,4,none⟩ (.slice A8 k8 ca8)).setCell ⟨g0+1,5,none⟩ (.slice B8 l8 cb8)).heap[g0+1]?=some (.cells #[.bool b7,.slice A7 k7 ca7,.slice B7 l7 cb7,.bool b8,.slice A8 k8 ca8,.slice B8 l8 cb8] 37 (0,0)):=ag rb1 _ _ _ _ _ _
   have rz2:((((((((((((w5.setCell ⟨g0,0,none⟩ (.bool b5)).setCell ⟨g0,1,none⟩ (.slice A5 k5 ca5)).setCell ⟨g0,2,none⟩ (.slice B5 l5 cb5)).setCell ⟨g0,3,none⟩ (.bool b6)).setCell ⟨g0,4,none⟩ (.slice A6 k6 ca6)).setCell ⟨g0,5,none⟩ (.slice B6 l6 cb6)).setCell ⟨g0+1,0,none⟩ (.bool b7)).setCell ⟨g0+1,1,none⟩ (.slice A7 k7 ca7)).setCell ⟨g0+1,2,none⟩ (.slice B7 l7 cb7)).setCell ⟨g0+1,3,none⟩ (.bool b8)).setCell ⟨g0+1,4,none⟩ (.slice A8 k8 ca8)).setCell ⟨g0+1,5,none⟩ (.slice B8 l8 cb8)).heap[g0+1+1]?=some (.cells #[.bool false,.slice none 0 0,.slice none 0 0,.bool false,.slice none 0 0,.slice none 0 0] 37 (0,0)):=ah rz1 n21.out _ _ _ _ _ _;have S3':Sp ((((((((((((w5.setCell ⟨g0,0,none⟩ (.bool b5)).setCell ⟨g0,1,none⟩ (.slice A5 k5 ca5)).setCell ⟨g0,2,none⟩ (.slice B5 l5 cb5)).setCell ⟨g0,3,none⟩ (.bool b6)).setCell ⟨g0,4,none⟩ (.slice A6 k6 ca6)).setCell ⟨g0,5,none⟩ (.slice B6 l6 cb6)).setCell ⟨g0+1,0,none⟩ (.bool b7)).setCell ⟨g0+1,1,none⟩ (.slice A7 k7 ca7)).setCell ⟨g0+1,2,none⟩ (.slice B7 l7 cb7)).setCell ⟨g0+1,3,none⟩ (.bool b8)).setCell ⟨g0+1,4,none⟩ (.slice A8 k8 ca8)).setCell ⟨g0+1,5,none⟩ (.slice B8 l8 cb8)) (.agg #[.bool b5,.slice A5 k5 ca5,.slice B5 l5 cb5,.bool b6,.slice A6 k6 ca6,.slice B6 l6 cb6]) _ _:=((S3.out.mono e3.out).put6 hra _ _ _ _ _ _).put6 rb1 _ _ _ _ _ _
   have S4':Sp ((((((((((((w5.setCell ⟨g0,0,none⟩ (.bool b5)).setCell ⟨g0,1,none⟩ (.slice A5 k5 ca5)).setCell ⟨g0,2,none⟩ (.slice B5 l5 cb5)).setCell ⟨g0,3,none⟩ (.bool b6)).setCell ⟨g0,4,none⟩ (.slice A6 k6 ca6)).setCell ⟨g0,5,none⟩ (.slice B6 l6 cb6)).setCell ⟨g0+1,0,none⟩ (.bool b7)).setCell ⟨g0+1,1,none⟩ (.slice A7 k7 ca7)).setCell ⟨g0+1,2,none⟩ (.slice B7 l7 cb7)).setCell ⟨g0+1,3,none⟩ (.bool b8)).setCell ⟨g0+1,4,none⟩ (.slice A8 k8 ca8)).setCell ⟨g0+1,5,none⟩ (.slice B8 l8 cb8)) (.agg #[.bool b7,.slice A7 k7 ca7,.slice B7 l7 cb7,.bool b8,.slice A8 k8 ca8,.slice B8 l8 cb8]) _ _:=(S4.out.put6 hra _ _ _ _ _ _).put6 rb1 _ _ _ _ _ _;have EF:Ext w ((((((((((((w5.setCell ⟨g0,0,none⟩ (.bool b5)).setCell ⟨g0,1,none⟩ (.slice A5 k5 ca5)).setCell ⟨g0,2,none⟩ (.slice B5 l5 cb5)).setCell ⟨g0,3,none⟩ (.bool b6)).setCell ⟨g0,4,none⟩ (.slice A6 k6 ca6)).setCell ⟨g0,5,none⟩ (.slice B6 l6 cb6)).setCell ⟨g0+1,0,none⟩ (.bool b7)).setCell ⟨g0+1,1,none⟩ (.slice A7 k7 ca7)).setCell ⟨g0+1,2,none⟩ (.slice B7 l7 cb7)).setCell ⟨g0+1,3,none⟩ (.bool b8)).setCell ⟨g0+1,4,none⟩ (.slice A8 k8 ca8)).setCell ⟨g0+1,5,none⟩ (.slice B8 l8 cb8)):=af (af (am hww.out hx3.out) (by rw [HG0.out];exact LE0.out) _ _ _ _ _ _) (by rw [HG0.out];exact LT0.out) _ _ _ _ _ _;exact⟨_,_,_,_,_,_,_,_,_,_,_,_,_,_,_,_,_,_,_,_,_,_,_,_,_,_,_,_,ra2,rb2,rz2,S3',S4',EF⟩
 case rest=>
  obtain⟨b5,A5,k5,ca5,B5,l5,cb5,b6,A6,k6,ca6,B6,l6,cb6,b7,A7,k7,ca7,B7,l7,cb7,b8,A8,k8,ca8,B8,l8,cb8,ra3,rb3,rz3,S5,S6,EF'⟩:=hcut;rename World=>WF;have ra2:=ZZ ra3;have rb2:=ZZ rb3;have rz2:=ZZ rz3;have S3':=ZZ S5;have S4':=ZZ S6;have EF:=ZZ EF';clear ra3 rb3 rz3 S5 S6 EF' hww HW2 HS HR RA RB RZ HA HB;have BS:=ZZ (bq_sort BA1.out BA2.out);have BT:=ZZ (bq_sort BB1.out BB2.out);obtain⟨HL1,HH1⟩:=sp_ends S3'.out;obtain⟨HL2,HH2⟩:=sp_ends S4'.out;clear S3' S4'
  have HR:=ZZ (show ∀W:World,Ext WF W→W.heap[g0]?=some (.cells #[.bool b5,.slice A5 k5 ca5,.slice B5 l5 cb5,.bool b6,.slice A6 k6 ca6,.slice B6 l6 cb6] 37 (0,0))∧W.heap[g0+1]?=some (.cells #[.bool b7,.slice A7 k7 ca7,.slice B7 l7 cb7,.bool b8,.slice A8 k8 ca8,.slice B8 l8 cb8] 37 (0,0))∧W.heap[g0+1+1]?=some (.cells #[.bool false,.slice none 0 0,.slice none 0 0,.bool false,.slice none 0 0,.slice none 0 0] 37 (0,0)) from fun W h=>
   ⟨(h.block _ (lt_of_block ra2.out)).trans ra2.out,(h.block _ (lt_of_block rb2.out)).trans rb2.out,(h.block _ (lt_of_block rz2.out)).trans rz2.out⟩)
  clear ra2 rb2 rz2
  go_upto_region 2 with (fail)
  have e1:=ZZ (ac WF);have hx1:=e1
  go_region_held3 (fun W=>W.cell? ⟨g0,0,none⟩=some (.bool b5)∧W.cell? ⟨g0,1,none⟩=some (.slice A5 k5 ca5)∧W.cell? ⟨g0,2,none⟩=some (.slice B5 l5 cb5)∧W.cell? ⟨g0,3,none⟩=some (.bool b6)∧W.cell? ⟨g0,4,none⟩=some (.slice A6 k6 ca6)∧W.cell? ⟨g0,5,none⟩=some (.slice B6 l6 cb6)∧W.cell? ⟨g0+1,0,none⟩=some (.bool b7)∧W.cell? ⟨g0+1,1,none⟩=some (.slice A7 k7 ca7)∧W.cell? ⟨g0+1,2,none⟩=some (.slice B7 l7 cb7)∧W.cell? ⟨g0+1,3,none⟩=some (.bool b8)∧W.cell? ⟨g0+1,4,none⟩=some (.slice A8 k8 ca8)∧W.cell? ⟨g0+1,5,none⟩=some (.slice B8 l8 cb8))
   (first
    | with_reducible exact two_rows_v (HR.out _ hx3.out).1 (HR.out _ hx3.out).2.1
    | with_reducible exact two_rows_v (HR.out _ hx2.out).1 (HR.out _ hx2.out).2.1
    | with_reducible exact two_rows_v (HR.out _ hx1.out).1 (HR.out _ hx1.out).2.1
    | with_reducible exact two_rows_put (HR.out _ hx3.out).1 (HR.out _ hx3.out).2.1 _ _ _ _ _ _)
   (first
    |(have _q:=hx2
      go_at_call 44
      refine(add_q M HM.out _ _ (au qa qb).2 (au qc qd).2 _ (HH1.out.mono hx2.out) (HH2.out.mono hx2.out) BS.out.2 BT.out.2).mono ?_;clear _q;rintro e w8 ⟨v8,rfl,h8,kk8⟩;obtain⟨b12,A12,k12,ca12,B12,l12,cb12,rfl⟩:=h8.form2;have H5:=ZZ h8;have hx3:=ZZ (am hx2.out kk8);have e3:=ZZ kk8;clear h8 kk8;obtain⟨-,-,rz⟩:=HR.out w8 hx3.out;obtain⟨z0,z1,z2,z3,z4,z5,zf0,zf1,zf2,zf3,zf4,zf5⟩:=ai rz;have RZ3:=ZZ rz;clear rz)
    |(have _q:=hx1
      go_at_call 44
      refine(add_q M HM.out _ _ (au qa qb).1 (au qc qd).1 _ (HL1.out.mono hx1.out) (HL2.out.mono hx1.out) BS.out.1 BT.out.1).mono ?_;clear _q;rintro e w7 ⟨v7,rfl,h7,kk7⟩;obtain⟨b11,A11,k11,ca11,B11,l11,cb11,rfl⟩:=h7.form2;have H4:=ZZ h7;have hx2:=ZZ (am hx1.out kk7);clear h7 kk7))
  all_goals
   go_wp2_with fail;refine bodyPost_ret (v:=.agg #[.bool b11,.slice A11 k11 ca11,.slice B11 l11 cb11,.bool b12,.slice A12 k12 ca12,.slice B12 l12 cb12]) (by simp [results,Tryz.f54];go_simp) rfl ?_
   exact⟨_,rfl,⟨_,_,_,_,_,_,rfl,(H4.out.mono e3.out).put6 RZ3.out _ _ _ _ _ _,H5.out.put6 RZ3.out _ _ _ _ _ _⟩,af (am EF.out hx3.out) (by rw [HG0.out];exact LT1.out) _ _ _ _ _ _⟩
end Go.Proofs.YtjamgccgoapbeaaGreatDoor
set_option linter.unusedVariables false
set_option maxRecDepth 100000
set_option maxHeartbeats 64000000
namespace Go.Proofs.YtjamgccgoapbeaaGreatDoor
open Go.RowKit
def AddC (w:World) (vx vy v:Value):Prop:=∀C:Nat→Prop,(∀b,w.heap.size≤b→C b)→BlN C vx→BlN C vy→BlN C v
theorem ext3r (w:World) (a b c:Obj):Ext w (((w.alloc a).alloc b).alloc c):=am (ab _ _) (am (ab _ _) (ab _ _))
theorem add_n_left (vx vy:Value) (x y:Rat) (w:World) (hx:Nr w vx x) (hy:Nr w vy y) (h0:x=0):Calls Tryz.prog 87 #[vx,vy] w fun e w'=>∃v,e=.returned v∧Nr w' v y∧Ext w w'∧AddC w vx vy v:=by
 obtain⟨s1,A,k,ca,B,l,cb,rfl,hs1,hxt,hxb⟩:=hx.form;obtain⟨s2,C,m,cc,D,n,cd,rfl,hs2,hyt,hyb⟩:=hy.form;obtain⟨hS,hZ,hw1,hw2,hsz,hsz1⟩:=setupR2 w (.int .i64 s1) (.slice A k ca) (.slice B l cb) (.int .i64 s2) (.slice C m cc) (.slice D n cd);have HS:=ZZ hS;have HZ:=ZZ hZ;have HW1:=ZZ hw1;have HW2:=ZZ hw2;have Hsz1:=ZZ hsz1;have Hx:=ZZ hx;have Hy:=ZZ hy;have HXT:=ZZ hxt;have HYT:=ZZ hyt;have HS1:=ZZ hs1;have HS2:=ZZ hs2;subst h0;obtain rfl:s1=0:=hs1.symm;have hc0:=hS _ hw2;clear hx hy hxt hxb hyt hyb hS hZ hw1 hw2 hsz hsz1 hs1 hs2
 go_enter Tryz.func87,Tryz.ntmps87
 go_wp2_with fail;refine bodyPost_ret (v:=.agg #[.int .i64 s2,.slice C m cc,.slice D n cd]) (by simp [results,Tryz.f87];go_simp) rfl ?_
 exact⟨_,rfl,Hy.out.mono (ext3r _ _ _ _),ext3r _ _ _ _,fun C _ _ hy=>hy⟩
theorem add_n_right (vx vy:Value) (x y:Rat) (w:World) (hx:Nr w vx x) (hy:Nr w vy y) (hx0:x≠0) (h0:y=0):Calls Tryz.prog 87 #[vx,vy] w fun e w'=>∃v,e=.returned v∧Nr w' v x∧Ext w w'∧AddC w vx vy v:=by
 obtain⟨s1,A,k,ca,B,l,cb,rfl,hs1,hxt,hxb⟩:=hx.form;obtain⟨s2,C,m,cc,D,n,cd,rfl,hs2,hyt,hyb⟩:=hy.form;obtain⟨hS,hZ,hw1,hw2,hsz,hsz1⟩:=setupR2 w (.int .i64 s1) (.slice A k ca) (.slice B l cb) (.int .i64 s2) (.slice C m cc) (.slice D n cd);have HS:=ZZ hS;have HZ:=ZZ hZ;have HW1:=ZZ hw1;have HW2:=ZZ hw2;have Hsz1:=ZZ hsz1;have Hx:=ZZ hx;have Hy:=ZZ hy;have HXT:=ZZ hxt;have HYT:=ZZ hyt;have HS1:=ZZ hs1;have HS2:=ZZ hs2;subst h0;obtain rfl:s2=0:=hs2.symm
 have hz0:(s1 == 0)=false:=by
  rw [beq_eq_false_iff_ne,←hs1];intro e;exact hx0 (Rat.num_eq_zero.1 (Int.sign_eq_zero_iff_zero.1 e))
 clear hx0;have hc0:=hS _ hw2;clear hx hy hxt hxb hyt hyb hS hZ hw1 hw2 hsz hsz1 hs1 hs2
 go_enter Tryz.func87,Tryz.ntmps87
 go_wp2_with fail;refine bodyPost_ret (v:=.agg #[.int .i64 s1,.slice A k ca,.slice B l cb]) (by simp [results,Tryz.f87];go_simp) rfl ?_
 exact⟨_,rfl,Hx.out.mono (ext3r _ _ _ _),ext3r _ _ _ _,fun C _ hx _=>hx⟩
theorem add_n_main (M:Nat) (hM:M≤134217728) (vx vy:Value) (x y:Rat) (w:World) (hx:Nr w vx x) (hy:Nr w vy y) (bx:Bq M x) (by_:Bq M y) (hx0:x≠0) (hy0:y≠0):Calls Tryz.prog 87 #[vx,vy] w fun e w'=>∃v,e=.returned v∧Nr w' v (x+y)∧Ext w w'∧AddC w vx vy v:=by
 obtain⟨s1,A,k,ca,B,l,cb,rfl,hs1,hxt,hxb⟩:=hx.form;obtain⟨s2,C,m,cc,D,n,cd,rfl,hs2,hyt,hyb⟩:=hy.form;obtain⟨hS,hZ,hw1,hw2,hsz,hsz1⟩:=setupR2 w (.int .i64 s1) (.slice A k ca) (.slice B l cb) (.int .i64 s2) (.slice C m cc) (.slice D n cd);have HS:=ZZ hS;have HZ:=ZZ hZ;have HW1:=ZZ hw1;have HW2:=ZZ hw2;have Hsz1:=ZZ hsz1;have Hx:=ZZ hx;have Hy:=ZZ hy;have HXT:=ZZ hxt;have HYT:=ZZ hyt;have HS1:=ZZ hs1;have HS2:=ZZ hs2;have HXB:=ZZ hxb;have HYB:=ZZ hyb;rw [bn_ne hx0] at HXB;rw [bn_ne hy0] at HYB
 have hz1:(s1 == 0)=false:=by
  rw [beq_eq_false_iff_ne,←hs1];intro e;exact hx0 (Rat.num_eq_zero.1 (Int.sign_eq_zero_iff_zero.1 e))
 have hz2:(s2 == 0)=false:=by
  rw [beq_eq_false_iff_ne,←hs2];intro e;exact hy0 (Rat.num_eq_zero.1 (Int.sign_eq_zero_iff_zero.1 e))
 have HQ1:=ZZ ((sign_sgnB hx0).symm.trans hs1);have HQ2:=ZZ ((sign_sgnB hy0).symm.trans hs2);have HSAME:=ZZ (add_same x y);have HMORE:=ZZ (add_more x y);have HLESS:=ZZ (add_less x y);generalize decide (x.num<0)=b1 at *;generalize decide (y.num<0)=b2 at *;have S3:=ZZ (sr_bits bx.1 (by omega));have S4:=ZZ (sr_bits bx.2 (by omega));have S5:=ZZ (sr_bits by_.1 (by omega));have S6:=ZZ (sr_bits by_.2 (by omega));have D0:=ZZ (Nat.mul_pos x.den_pos y.den_pos);obtain⟨na,hna⟩:∃a,x.num.natAbs*y.den=a:=⟨_,rfl⟩;obtain⟨nb,hnb⟩:∃a,y.num.natAbs*x.den=a:=⟨_,rfl⟩;obtain⟨nd,hnd⟩:∃a,x.den*y.den=a:=⟨_,rfl⟩;have ba:na<2 ^ (M+M):=by rw [←hna];exact lt_mul bx.1 by_.2
 have bb:nb<2 ^ (M+M):=by rw [←hnb];exact lt_mul by_.1 bx.2
 have bd:nd<2 ^ (M+M):=by rw [←hnd];exact lt_mul bx.2 by_.2
 have SA:=ZZ (sr_bits ba (by omega));have SB:=ZZ (sr_bits bb (by omega));have LD:=ZZ (show (dr nd).length≤1073741824 from Nat.le_trans (dr_bits bd) (by omega));have LS:=ZZ (show (dr (na+nb)).length≤1073741824 from Nat.le_trans (dr_bits (lt_add ba bb)) (by omega));have LM:=ZZ (show (dr (na - nb)).length≤1073741824 from Nat.le_trans (dr_bits (show na - nb<2 ^ (M+M) by omega)) (by omega));have LN:=ZZ (show (dr (nb - na)).length≤1073741824 from Nat.le_trans (dr_bits (show nb - na<2 ^ (M+M) by omega)) (by omega));rw [hna,hnb,hnd] at HSAME HMORE HLESS;rw [hnd] at D0;have HNA:=ZZ hna;have HNB:=ZZ hnb;have HND:=ZZ hnd;clear hx hy hxt hxb hyt hyb hS hZ hw1 hw2 hsz hsz1 hs1 hs2;clear hx0 hy0 bx by_ hM hna hnb hnd ba bb bd
 go_enter Tryz.func87,Tryz.ntmps87
 go_upto_region 5 with (fail)
 generalize World.alloc (World.alloc (World.alloc w (.cells #[.int .i64 s1,.slice A k ca,.slice B l cb] _)) (.cells #[.int .i64 s2,.slice C m cc,.slice D n cd] _)) _=W2 at *;generalize World.alloc (World.alloc w (.cells #[.int .i64 s1,.slice A k ca,.slice B l cb] _)) (.cells #[.int .i64 s2,.slice C m cc,.slice D n cd] _)=W1 at *;generalize hg0:w.heap.size=g0 at *;have Hsz:=ZZ (show w.heap.size≤g0+1+1 by omega);clear hg0;have hww:=ZZ (am HW1.out HW2.out)
 go_cut [5,6,7] (fun p q r wx=>p=.slice A k ca∧q=.slice C m cc∧r=.slice B l cb∧Hid (Ext W2 wx))
 case first=>
  obtain⟨a0,a1,a2,a3,a4,a5⟩:=HS.out W2 HW2.out
  go_big_region
  all_goals
   go_wp2_with fail;go_meet
   exact⟨rfl,rfl,rfl,ZZ (ac W2)⟩
 case rest=>
  obtain⟨rfl,rfl,rfl,hx0⟩:=hcut;rename World=>W3;have hc0:=HS.out W3 (am HW2.out hx0.out)
  go_upto_region 6 with (fail)
  obtain⟨bb,hbb⟩:∃b,b=!(decide (x.den=1) && decide (y.den=1)):=⟨_,rfl⟩
  go_cut [31] (fun v wx=>v=.bool bb∧W3=wx)
  case first=>
   obtain⟨a0,a1,a2,a3,a4,a5⟩:=hc0
   by_cases d1:x.den=1
   ·have D1:=ZZ d1
    go_wp2_with fail;refine(is1_r _ x.den true (decide_eq_true D1.out) _ (HXB.out.mono (am hww.out hx0.out))).mono ?_
    rintro e wi ⟨rfl,rfl⟩
    by_cases d2:y.den=1
    ·have D2:=ZZ d2
     have hbf:bb=false:=by rw [hbb,decide_eq_true d1,decide_eq_true d2];rfl
     clear hbb d1 d2;go_wp2_with fail;refine(is1_r _ y.den true (decide_eq_true D2.out) _ (HYB.out.mono (am hww.out hx0.out))).mono ?_;rintro e wi ⟨rfl,rfl⟩;go_wp2_with fail;go_meet;exact⟨by rw [hbf],rfl⟩
    ·have D2:=ZZ d2
     have hbf:bb=true:=by rw [hbb,decide_eq_false d2,Bool.and_false];rfl
     clear hbb d1 d2;go_wp2_with fail;refine(is1_r _ y.den false (decide_eq_false D2.out) _ (HYB.out.mono (am hww.out hx0.out))).mono ?_;rintro e wi ⟨rfl,rfl⟩;go_wp2_with fail;go_meet;exact⟨by rw [hbf],rfl⟩
   ·have D1:=ZZ d1
    have hbf:bb=true:=by rw [hbb,decide_eq_false d1,Bool.false_and];rfl
    clear hbb d1;go_wp2_with fail;refine(is1_r _ x.den false (decide_eq_false D1.out) _ (HXB.out.mono (am hww.out hx0.out))).mono ?_;rintro e wi ⟨rfl,rfl⟩;go_wp2_with fail;go_meet;exact⟨by rw [hbf],rfl⟩
  case rest=>
  obtain⟨rfl,rfl⟩:=hcut
  go_upto_if 31 with (fail)
  go_cut [5,6,7] (fun p q r wx=>Hid (Wr wx p na)∧Hid (Wr wx q nb)∧Hid (Wr wx r nd)∧Hid (Ext W2 wx)∧Hid (∀C:Nat→Prop,(∀b,w.heap.size≤b→C b)→BlN C (.agg #[.int .i64 s1,.slice A k ca,.slice B l cb])→BlC C r))
  case first=>
   cases hb:bb
   ·subst hb
    have D1:=ZZ (show x.den=1 by by_cases h:x.den=1;exact h;rw [decide_eq_false h] at hbb;simp at hbb);have D2:=ZZ (show y.den=1 by by_cases h:y.den=1;exact h;rw [decide_eq_false h] at hbb;simp at hbb);clear hbb;go_wp2_with fail;go_meet;refine⟨ZZ ?_,ZZ ?_,ZZ ?_,hx0,ZZ (fun C _ hx=>(hx _ _ _ _ _ _ _ rfl).2)⟩
    ·rw [←HNA.out,D2.out,Nat.mul_one];exact HXT.out.mono (am hww.out hx0.out)
    ·rw [←HNB.out,D1.out,Nat.mul_one];exact HYT.out.mono (am hww.out hx0.out)
    ·rw [←HND.out,D2.out,Nat.mul_one];exact HXB.out.mono (am hww.out hx0.out)
   ·subst hb
    clear hbb;go_wp2_with fail;obtain⟨a0,a1,a2,a3,a4,a5⟩:=hc0;clear a0 a1 a2 a3 a4 a5;have hS0:=HS.out W3 (am HW2.out hx0.out);have hx1:=ZZ (am hx0.out (ac W3))
    go_region_held3 (fun W=>W.cell? ⟨g0,0,none⟩=some (.int .i64 s1)∧W.cell? ⟨g0,1,none⟩=some (.slice A k ca)∧W.cell? ⟨g0,2,none⟩=some (.slice B l cb)∧W.cell? ⟨g0+1,0,none⟩=some (.int .i64 s2)∧W.cell? ⟨g0+1,1,none⟩=some (.slice C m cc)∧W.cell? ⟨g0+1,2,none⟩=some (.slice D n cd))
     (first
      | exact HS.out _ (am HW2.out hx4.out)
      | exact HS.out _ (am HW2.out hx3.out)
      | exact HS.out _ (am HW2.out hx2.out)
      | exact HS.out _ (am HW2.out hx1.out))
     (first
      |(have _q:=hx3
        go_at_call 136
        refine(times_f _ _ (x.den) (y.den) _ (HXB.out.mono (am hww.out hx3.out)) (HYB.out.mono (am hww.out hx3.out)) S4.out S6.out).mono ?_;clear _q;rintro e wc3 ⟨v3,rfl,h3,k2,fr3⟩;have F3:=ZZ (fr3.mono (am hww.out hx3.out).size);clear fr3;obtain⟨P3,p3,c3,rfl⟩:=h3.form';have J3:=ZZ h3;have J1t:=ZZ (J1'.out.mono k2);have J2':=ZZ (J2.out.mono k2);have hx4:=ZZ (am hx3.out k2);clear h3 k2)
      |(have _q:=hx2
        go_at_call 136
        refine(times_r _ _ (y.num.natAbs) (x.den) _ (HYT.out.mono (am hww.out hx2.out)) (HXB.out.mono (am hww.out hx2.out)) S5.out S4.out).mono ?_;clear _q;rintro e wc2 ⟨v2,rfl,h3,k2⟩;obtain⟨P2,p2,c2,rfl⟩:=h3.form';have J2:=ZZ h3;have J1':=ZZ (J1.out.mono k2);have hx3:=ZZ (am hx2.out k2);clear h3 k2)
      |(have _q:=hx1
        go_at_call 136
        refine(times_r _ _ (x.num.natAbs) (y.den) _ (HXT.out.mono (am hww.out hx1.out)) (HYB.out.mono (am hww.out hx1.out)) S3.out S6.out).mono ?_;clear _q;rintro e wc1 ⟨v1,rfl,h3,k2⟩;obtain⟨P1,p1,c1,rfl⟩:=h3.form';have J1:=ZZ h3;have hx2:=ZZ (am hx1.out k2);clear h3 k2))
    all_goals
     go_wp2_with fail;go_meet
     rw [HNA.out] at J1t;rw [HNB.out] at J2';rw [HND.out] at J3;exact⟨J1t,J2',J3,hx4,ZZ (fun C hC _=>F3.out.blc hC)⟩
  case rest=>
  rename World=>W4
  rename_i p q r
  obtain⟨HP,HQQ,HR,HX4,HFR⟩:=hcut;obtain⟨P1,p1,c1,rfl⟩:=HP.out.form';obtain⟨P2,p2,c2,rfl⟩:=HQQ.out.form';obtain⟨P3,p3,c3,rfl⟩:=HR.out.form';have hxa:=ZZ (show Ext W2 W4 from HX4.out);clear hc0 hbb hx0;have hS4:=HS.out W4 (am HW2.out hxa.out)
  by_cases hb:b1=b2
  ·have HE:=ZZ (HSAME.out hb)
   have t1:(s1 == s2)=true:=by rw [beq_iff_eq,←HQ1.out,←HQ2.out,hb]
   clear hb HMORE HLESS HSAME;go_wp2_with fail;have hS0:=HS.out W4 (am HW2.out hxa.out);have hx1:=ZZ (am hxa.out (ac W4));have e1:=ZZ (ac W4)
   go_region_held3 (fun W=>W.cell? ⟨g0,0,none⟩=some (.int .i64 s1)∧W.cell? ⟨g0,1,none⟩=some (.slice A k ca)∧W.cell? ⟨g0,2,none⟩=some (.slice B l cb)∧W.cell? ⟨g0+1,0,none⟩=some (.int .i64 s2)∧W.cell? ⟨g0+1,1,none⟩=some (.slice C m cc)∧W.cell? ⟨g0+1,2,none⟩=some (.slice D n cd))
    (first
     | exact HS.out _ (av (am HW2.out hx3.out) Hsz1.out _ _ _)
     | exact HS.out _ (am HW2.out hx3.out)
     | exact HS.out _ (am HW2.out hx2.out)
     | exact HS.out _ (am HW2.out hx1.out))
    (first
     |(have _q:=hx2
       go_at_call 131
       refine(made_f b1 s1 HQ1.out _ _ (na+nb) nd D0.out _ J1.out JR.out LS.out LD.out).mono ?_;clear _q;rintro e wd2 ⟨v2,rfl,h7,k4,frm⟩;have FM:=ZZ (fun (C:Nat→Prop) hC hx=>frm.2 C (fun b hb=>hC b (Nat.le_trans (am hww.out hx2.out).size hb)) (F1.out.blc hC) (HFR.out C hC hx));clear frm;obtain⟨s7,A7,k7,c8,B7,l7,d7,h7e,-⟩:=h7.form;subst h7e;have H7:=ZZ h7;have hx3:=ZZ (am hx2.out k4);have hz:=HZ.out _ hx3.out;obtain⟨z0,z1,z2,f0,f1,f2⟩:=ak hz;have Hz:=ZZ hz;clear h7 k4 hz)
     |(have _q:=hx1
       go_at_call 137
       refine(plus_f _ _ na nb _ (HP.out.mono e1.out) (HQQ.out.mono e1.out) SA.out SB.out).mono ?_;clear _q;rintro e wd1 ⟨v1,rfl,h3,k2,fr1⟩;have F1:=ZZ (fr1.mono (am hww.out hx1.out).size);clear fr1;obtain⟨P7,p7,c7,rfl⟩:=h3.form';have J1:=ZZ h3;have JR:=ZZ (HR.out.mono (am e1.out k2));have hx2:=ZZ (am hx1.out k2);clear h3 k2))
   go_wp2_with fail;refine bodyPost_ret (v:=.agg #[.int .i64 s7,.slice A7 k7 c8,.slice B7 l7 d7]) (by simp [results,Tryz.f87];go_simp) rfl ?_
   refine⟨_,rfl,?_,av (am hww.out hx3.out) Hsz.out _ _ _,fun C hC hx _=>FM.out C hC hx⟩;rw [←HE.out];exact Nr.put_z H7.out Hz.out _ _ _
  ·have hnb:b1=!b2:=by cases b1 <;> cases b2 <;> first|rfl|exact absurd rfl hb
   have t1:(s1 == s2)=false:=by
    rw [beq_eq_false_iff_ne,←HQ1.out,←HQ2.out,hnb,sgnB_neg]
    have:=sgnB_ne b2
    omega
   obtain⟨c,hc⟩:∃c,ordN na nb=c:=⟨_,rfl⟩;have HC:=ZZ hc;clear hb HSAME;go_wp2_with fail;refine(order_e _ _ na nb c HC.out _ HP.out HQQ.out SA.out SB.out).mono ?_;rintro e W5 ⟨rfl,k5⟩;have hxb:=ZZ (am hxa.out k5);have HP5:=ZZ (HP.out.mono k5);have HQ5:=ZZ (HQQ.out.mono k5);have HR5:=ZZ (HR.out.mono k5);clear k5 hS4;have hS5:=HS.out W5 (am HW2.out hxb.out)
   by_cases hlt:na<nb
   ·have t2:decide (c<0)=true:=by rw [←hc];exact decide_eq_true ((ord_neg _ _).2 hlt)
    have HE:=ZZ (HLESS.out hnb (Nat.le_of_lt hlt));have HLE:=ZZ (Nat.le_of_lt hlt);clear hlt hc HMORE HLESS hnb;go_wp2_with fail;have hS0:=HS.out W5 (am HW2.out hxb.out);have hx1:=ZZ (am hxb.out (ac W5));have e1:=ZZ (ac W5)
    go_region_held3 (fun W=>W.cell? ⟨g0,0,none⟩=some (.int .i64 s1)∧W.cell? ⟨g0,1,none⟩=some (.slice A k ca)∧W.cell? ⟨g0,2,none⟩=some (.slice B l cb)∧W.cell? ⟨g0+1,0,none⟩=some (.int .i64 s2)∧W.cell? ⟨g0+1,1,none⟩=some (.slice C m cc)∧W.cell? ⟨g0+1,2,none⟩=some (.slice D n cd))
     (first
      | exact HS.out _ (av (am HW2.out hx3.out) Hsz1.out _ _ _)
      | exact HS.out _ (am HW2.out hx3.out)
      | exact HS.out _ (am HW2.out hx2.out)
      | exact HS.out _ (am HW2.out hx1.out))
     (first
      |(have _q:=hx2
        go_at_call 131
        refine(made_f b2 s2 HQ2.out _ _ (nb - na) nd D0.out _ J1.out JR.out LN.out LD.out).mono ?_;clear _q;rintro e wd2 ⟨v2,rfl,h7,k4,frm⟩;have FM:=ZZ (fun (C:Nat→Prop) hC hx=>frm.2 C (fun b hb=>hC b (Nat.le_trans (am hww.out hx2.out).size hb)) (F1.out.blc hC) (HFR.out C hC hx));clear frm;obtain⟨s7,A7,k7,c8,B7,l7,d7,h7e,-⟩:=h7.form;subst h7e;have H7:=ZZ h7;have hx3:=ZZ (am hx2.out k4);have hz:=HZ.out _ hx3.out;obtain⟨z0,z1,z2,f0,f1,f2⟩:=ak hz;have Hz:=ZZ hz;clear h7 k4 hz)
      |(have _q:=hx1
        go_at_call 139
        refine(minus_f _ _ nb na _ (HQ5.out.mono e1.out) (HP5.out.mono e1.out) SB.out HLE.out).mono ?_;clear _q;rintro e wd1 ⟨v1,rfl,h3,k2,fr1⟩;have F1:=ZZ (fr1.mono (am hww.out hx1.out).size);clear fr1;obtain⟨P7,p7,c7,rfl⟩:=h3.form';have J1:=ZZ h3;have JR:=ZZ (HR5.out.mono (am e1.out k2));have hx2:=ZZ (am hx1.out k2);clear h3 k2))
    go_wp2_with fail;refine bodyPost_ret (v:=.agg #[.int .i64 s7,.slice A7 k7 c8,.slice B7 l7 d7]) (by simp [results,Tryz.f87];go_simp) rfl ?_
    refine⟨_,rfl,?_,av (am hww.out hx3.out) Hsz.out _ _ _,fun C hC hx _=>FM.out C hC hx⟩;rw [←HE.out];exact Nr.put_z H7.out Hz.out _ _ _
   ·have t2:decide (c<0)=false:=by rw [←hc];exact decide_eq_false (fun h=>hlt ((ord_neg _ _).1 h))
    have HE:=ZZ (HMORE.out hnb (by omega));have HLE:=ZZ (show nb≤na by omega);clear hlt hc HMORE HLESS hnb;go_wp2_with fail;have hS0:=HS.out W5 (am HW2.out hxb.out);have hx1:=ZZ (am hxb.out (ac W5));have e1:=ZZ (ac W5)
    go_region_held3 (fun W=>W.cell? ⟨g0,0,none⟩=some (.int .i64 s1)∧W.cell? ⟨g0,1,none⟩=some (.slice A k ca)∧W.cell? ⟨g0,2,none⟩=some (.slice B l cb)∧W.cell? ⟨g0+1,0,none⟩=some (.int .i64 s2)∧W.cell? ⟨g0+1,1,none⟩=some (.slice C m cc)∧W.cell? ⟨g0+1,2,none⟩=some (.slice D n cd))
     (first
      | exact HS.out _ (av (am HW2.out hx3.out) Hsz1.out _ _ _)
      | exact HS.out _ (am HW2.out hx3.out)
      | exact HS.out _ (am HW2.out hx2.out)
      | exact HS.out _ (am HW2.out hx1.out))
     (first
      |(have _q:=hx2
        go_at_call 131
        refine(made_f b1 s1 HQ1.out _ _ (na - nb) nd D0.out _ J1.out JR.out LM.out LD.out).mono ?_;clear _q;rintro e wd2 ⟨v2,rfl,h7,k4,frm⟩;have FM:=ZZ (fun (C:Nat→Prop) hC hx=>frm.2 C (fun b hb=>hC b (Nat.le_trans (am hww.out hx2.out).size hb)) (F1.out.blc hC) (HFR.out C hC hx));clear frm;obtain⟨s7,A7,k7,c8,B7,l7,d7,h7e,-⟩:=h7.form;subst h7e;have H7:=ZZ h7;have hx3:=ZZ (am hx2.out k4);have hz:=HZ.out _ hx3.out;obtain⟨z0,z1,z2,f0,f1,f2⟩:=ak hz;have Hz:=ZZ hz;clear h7 k4 hz)
      |(have _q:=hx1
        go_at_call 139
        refine(minus_f _ _ na nb _ (HP5.out.mono e1.out) (HQ5.out.mono e1.out) SA.out HLE.out).mono ?_;clear _q;rintro e wd1 ⟨v1,rfl,h3,k2,fr1⟩;have F1:=ZZ (fr1.mono (am hww.out hx1.out).size);clear fr1;obtain⟨P7,p7,c7,rfl⟩:=h3.form';have J1:=ZZ h3;have JR:=ZZ (HR5.out.mono (am e1.out k2));have hx2:=ZZ (am hx1.out k2);clear h3 k2))
    go_wp2_with fail;refine bodyPost_ret (v:=.agg #[.int .i64 s7,.slice A7 k7 c8,.slice B7 l7 d7]) (by simp [results,Tryz.f87];go_simp) rfl ?_
    refine⟨_,rfl,?_,av (am hww.out hx3.out) Hsz.out _ _ _,fun C hC hx _=>FM.out C hC hx⟩;rw [←HE.out];exact Nr.put_z H7.out Hz.out _ _ _
theorem add_f (M:Nat) (hM:M≤134217728) (vx vy:Value) (x y:Rat) (w:World) (hx:Nr w vx x) (hy:Nr w vy y) (bx:Bq M x) (by_:Bq M y):Calls Tryz.prog 87 #[vx,vy] w fun e w'=>∃v,e=.returned v∧Nr w' v (x+y)∧Ext w w'∧AddC w vx vy v:=by
 by_cases hx0:x=0
 ·have h:=add_n_left vx vy x y w hx hy hx0
  rw [hx0,Rat.zero_add];exact h
 ·by_cases hy0:y=0
  ·have h:=add_n_right vx vy x y w hx hy hx0 hy0
   rw [hy0,Rat.add_zero];exact h
  ·exact add_n_main M hM vx vy x y w hx hy bx by_ hx0 hy0
end Go.Proofs.YtjamgccgoapbeaaGreatDoor
