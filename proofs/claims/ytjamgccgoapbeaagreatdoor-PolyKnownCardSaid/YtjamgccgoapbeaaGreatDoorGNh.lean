/- Numbers: differences, the lesser, the greater one, integers. Printed by gen_ng.py. Numbers: rounding. Printed by gen_nh.py. -/
import Derived.Test.YtjamgccgoapbeaaGreatDoorGNe
import Derived.Test.YtjamgccgoapbeaaGreatDoorGNf
set_option linter.unusedVariables false
set_option maxRecDepth 100000
set_option maxHeartbeats 64000000
namespace Go.Proofs.YtjamgccgoapbeaaGreatDoor
open Go.RowKit
theorem Nm.form2 {w:World} {v:Value} {q:Rat} (h:Nm w v q):∃s A k c B l d,v=.agg #[.bool s,.slice A k c,.slice B l d]:=by
 obtain⟨A,k,c,B,l,d,e,-⟩:=h.form;exact⟨_,A,k,c,B,l,d,e⟩
theorem sub_q (M:Nat) (hM:M≤1099511627776) (vx vy:Value) (x y:Rat) (w:World) (hx:Nm w vx x) (hy:Nm w vy y) (bx:Bq M x) (by_:Bq M y):Calls Tryz.prog 103 #[vx,vy] w fun e w'=>∃v,e=.returned v∧Nm w' v (x - y)∧Ext w w':=by
 obtain⟨A,k,ca,B,l,cb,rfl,hxn,hxd,hkx,hlx⟩:=hx.form;obtain⟨C,m,cc,D,n,cd,rfl,hyn,hyd,hky,hly⟩:=hy.form;have Hx:=ZZ hx;have Hy:=ZZ hy;have BX:=ZZ bx;have BY:=ZZ by_.neg;have HM:=ZZ hM;clear hx hy hxn hxd hyn hyd hkx hlx hky hly bx by_ hM;generalize hbx:decide (x.num<0)=b1 at *;generalize hby:decide (y.num<0)=b2 at *;have Hbx:=ZZ hbx
 have Hby:=ZZ hby
 clear hbx hby
 obtain⟨hS,hZ,hw1,hw2,hsz,hsz1⟩:=setup2 w (.bool b1) (.slice A k ca) (.slice B l cb) (.bool b2) (.slice C m cc) (.slice D n cd);have HS:=ZZ hS;have HZ:=ZZ hZ;have HW1:=ZZ hw1;have HW2:=ZZ hw2;have Hsz1:=ZZ hsz1;clear hS hZ hw1 hw2 hsz hsz1
 go_enter Tryz.func103,Tryz.ntmps103
 go_wp2_with fail;generalize World.alloc (World.alloc (World.alloc w (.cells #[.bool b1,.slice A k ca,.slice B l cb] _)) (.cells #[.bool b2,.slice C m cc,.slice D n cd] _)) _=W2 at *
 generalize World.alloc (World.alloc w (.cells #[.bool b1,.slice A k ca,.slice B l cb] _)) (.cells #[.bool b2,.slice C m cc,.slice D n cd] _)=W1 at *;generalize hg0:w.heap.size=g0 at *;have Hsz:=ZZ (show w.heap.size≤g0+1+1 by omega);clear hg0;have hww:=ZZ (ak HW1.out HW2.out);have hx0:=ZZ (ae W2);have hS0:=HS.out _ (ak HW2.out hx0.out);have e1:=ZZ (ac W2);have hx1:=ZZ (ak hx0.out e1.out)
 go_region_held3 (fun W=>W.cell? ⟨g0,0,none⟩=some (.bool b1)∧W.cell? ⟨g0,1,none⟩=some (.slice A k ca)∧W.cell? ⟨g0,2,none⟩=some (.slice B l cb)∧W.cell? ⟨g0+1,0,none⟩=some (.bool b2)∧W.cell? ⟨g0+1,1,none⟩=some (.slice C m cc)∧W.cell? ⟨g0+1,2,none⟩=some (.slice D n cd))
  (first
   | exact HS.out _ (al (ak HW2.out hx3.out) Hsz1.out _ _ _)
   | exact HS.out _ (ak HW2.out hx3.out)
   | exact HS.out _ (ak HW2.out hx2.out)
   | exact HS.out _ (ak HW2.out hx1.out))
  (first
   |(have _q:=hx2
     go_at_call 44
     refine(add_q M HM.out _ _ _ _ _ (Hx.out.mono (ak hww.out hx2.out)) H2.out BX.out BY.out).mono ?_;clear _q;rintro e w2 ⟨vv,rfl,h3,k3⟩;obtain⟨b12,P12,p12,c12,Q12,q12,d12,rfl⟩:=h3.form2;have H3:=ZZ h3;clear h3;have e3:=ZZ k3;have hx3:=ZZ (ak hx2.out k3);clear k3;have hz:=HZ.out _ hx3.out;obtain⟨z0,z1,z2,f0,f1,f2⟩:=aj hz;have Hz:=ZZ hz;clear hz)
   |(have _q:=hx1
     go_at_call 64
     refine(neg_q _ _ _ (Hy.out.mono (ak hww.out hx1.out))).mono ?_;clear _q;rintro e w1 ⟨vv,rfl,h2,k2⟩;obtain⟨b11,P11,p11,c11,Q11,q11,d11,rfl⟩:=h2.form2;have H2:=ZZ h2;clear h2;have e2:=ZZ k2;have hx2:=ZZ (ak hx1.out k2);clear k2))
 go_wp2_with fail;refine bodyPost_ret (v:=.agg #[.bool b12,.slice P12 p12 c12,.slice Q12 q12 d12]) (by simp [results,Tryz.f103];go_simp) rfl ?_
 refine⟨_,rfl,?_,al (ak hww.out hx3.out) Hsz.out _ _ _⟩;rw [Rat.sub_eq_add_neg];exact H3.out.put3 Hz.out
theorem cmpQ_one (x y:Rat):-1≤cmpQ x y∧cmpQ x y≤1:=by
 unfold cmpQ
 rcases sign_cases (x.num*y.den - y.num*x.den) with h|h|h <;> rw [h] <;> omega
def aq (x y:Rat):Rat:=if y<x then y else x
theorem min_q (M:Nat) (hM:M≤1099511627776) (vx vy:Value) (x y:Rat) (w:World) (hx:Nm w vx x) (hy:Nm w vy y) (bx:Bq M x) (by_:Bq M y):Calls Tryz.prog 119 #[vx,vy] w fun e w'=>∃v,e=.returned v∧Nm w' v (aq x y)∧Ext w w':=by
 obtain⟨A,k,ca,B,l,cb,rfl,hxn,hxd,hkx,hlx⟩:=hx.form;obtain⟨C,m,cc,D,n,cd,rfl,hyn,hyd,hky,hly⟩:=hy.form;have Hx:=ZZ hx;have Hy:=ZZ hy;have BX:=ZZ bx;have BY:=ZZ by_;have HM:=ZZ hM;clear hx hy hxn hxd hyn hyd hkx hlx hky hly bx by_ hM;generalize hbx:decide (x.num<0)=b1 at *;generalize hby:decide (y.num<0)=b2 at *;have Hbx:=ZZ hbx
 have Hby:=ZZ hby
 clear hbx hby
 obtain⟨hS,hZ,hw1,hw2,hsz,hsz1⟩:=setup2 w (.bool b1) (.slice A k ca) (.slice B l cb) (.bool b2) (.slice C m cc) (.slice D n cd);have HS:=ZZ hS;have HZ:=ZZ hZ;have HW1:=ZZ hw1;have HW2:=ZZ hw2;have Hsz1:=ZZ hsz1;clear hS hZ hw1 hw2 hsz hsz1
 go_enter Tryz.func119,Tryz.ntmps119
 go_wp2_with fail;generalize World.alloc (World.alloc (World.alloc w (.cells #[.bool b1,.slice A k ca,.slice B l cb] _)) (.cells #[.bool b2,.slice C m cc,.slice D n cd] _)) _=W2 at *
 generalize World.alloc (World.alloc w (.cells #[.bool b1,.slice A k ca,.slice B l cb] _)) (.cells #[.bool b2,.slice C m cc,.slice D n cd] _)=W1 at *;generalize hg0:w.heap.size=g0 at *;have Hsz:=ZZ (show w.heap.size≤g0+1+1 by omega);clear hg0;have hww:=ZZ (ak HW1.out HW2.out);have hs:=HS.out W2 HW2.out;refine(cmp_q M HM.out _ _ _ _ _ (Hy.out.mono hww.out) (Hx.out.mono hww.out) BY.out BX.out).mono ?_;rintro e w3 ⟨rfl,k3⟩;have hz:=HZ.out _ k3;obtain⟨z0,z1,z2,f0,f1,f2⟩:=aj hz;have Hz:=ZZ hz;obtain⟨o0,o1,o2,o3,o4,o5⟩:=HS.out _ (ak HW2.out k3);have K3:=ZZ k3;clear hz k3 hs;generalize hc:cmpQ y x=c at *;have Hc:=ZZ hc;clear hc
 rcases(show c<0∨0≤c by omega) with h|h
 ·go_wp2_with fail
  have hcn:y<x:=by have h1:=Hc.out;have h2:=cmpQ_neg y x;have h3:=cmpQ_one y x;rw [h1] at h2 h3;exact h2.1 (by omega)
  refine bodyPost_ret (v:=.agg #[.bool b2,.slice C m cc,.slice D n cd]) (by simp [results,Tryz.f119];go_simp) rfl ?_;refine⟨_,rfl,?_,al (ak hww.out K3.out) Hsz.out _ _ _⟩;rw [show aq x y=y from if_pos hcn];exact(Hy.out.mono (ak hww.out K3.out)).put3 Hz.out
 ·go_wp2_with fail
  have hcn:¬(y<x):=fun hh=>by have h1:=Hc.out;have h2:=(cmpQ_neg y x).2 hh;omega
  refine bodyPost_ret (v:=.agg #[.bool b1,.slice A k ca,.slice B l cb]) (by simp [results,Tryz.f119];go_simp) rfl ?_;refine⟨_,rfl,?_,al (ak hww.out K3.out) Hsz.out _ _ _⟩;rw [show aq x y=x from if_neg hcn];exact(Hx.out.mono (ak hww.out K3.out)).put3 Hz.out
def ar (x y:Rat):Rat:=if x<y then y else x
theorem max_q (M:Nat) (hM:M≤1099511627776) (vx vy:Value) (x y:Rat) (w:World) (hx:Nm w vx x) (hy:Nm w vy y) (bx:Bq M x) (by_:Bq M y):Calls Tryz.prog 115 #[vx,vy] w fun e w'=>∃v,e=.returned v∧Nm w' v (ar x y)∧Ext w w':=by
 obtain⟨A,k,ca,B,l,cb,rfl,hxn,hxd,hkx,hlx⟩:=hx.form;obtain⟨C,m,cc,D,n,cd,rfl,hyn,hyd,hky,hly⟩:=hy.form;have Hx:=ZZ hx;have Hy:=ZZ hy;have BX:=ZZ bx;have BY:=ZZ by_;have HM:=ZZ hM;clear hx hy hxn hxd hyn hyd hkx hlx hky hly bx by_ hM;generalize hbx:decide (x.num<0)=b1 at *;generalize hby:decide (y.num<0)=b2 at *;have Hbx:=ZZ hbx
 have Hby:=ZZ hby
 clear hbx hby
 obtain⟨hS,hZ,hw1,hw2,hsz,hsz1⟩:=setup2 w (.bool b1) (.slice A k ca) (.slice B l cb) (.bool b2) (.slice C m cc) (.slice D n cd);have HS:=ZZ hS;have HZ:=ZZ hZ;have HW1:=ZZ hw1;have HW2:=ZZ hw2;have Hsz1:=ZZ hsz1;clear hS hZ hw1 hw2 hsz hsz1
 go_enter Tryz.func115,Tryz.ntmps115
 go_wp2_with fail;generalize World.alloc (World.alloc (World.alloc w (.cells #[.bool b1,.slice A k ca,.slice B l cb] _)) (.cells #[.bool b2,.slice C m cc,.slice D n cd] _)) _=W2 at *
 generalize World.alloc (World.alloc w (.cells #[.bool b1,.slice A k ca,.slice B l cb] _)) (.cells #[.bool b2,.slice C m cc,.slice D n cd] _)=W1 at *;generalize hg0:w.heap.size=g0 at *;have Hsz:=ZZ (show w.heap.size≤g0+1+1 by omega);clear hg0;have hww:=ZZ (ak HW1.out HW2.out);have hs:=HS.out W2 HW2.out;refine(cmp_q M HM.out _ _ _ _ _ (Hy.out.mono hww.out) (Hx.out.mono hww.out) BY.out BX.out).mono ?_;rintro e w3 ⟨rfl,k3⟩;have hz:=HZ.out _ k3;obtain⟨z0,z1,z2,f0,f1,f2⟩:=aj hz;have Hz:=ZZ hz;obtain⟨o0,o1,o2,o3,o4,o5⟩:=HS.out _ (ak HW2.out k3);have K3:=ZZ k3;clear hz k3 hs;generalize hc:cmpQ y x=c at *;have Hc:=ZZ hc;clear hc
 rcases(show 0<c∨c≤0 by omega) with h|h
 ·go_wp2_with fail
  have hcn:x<y:=by have h1:=Hc.out;have h2:=cmpQ_pos y x;have h3:=cmpQ_one y x;rw [h1] at h2 h3;exact h2.1 (by omega)
  refine bodyPost_ret (v:=.agg #[.bool b2,.slice C m cc,.slice D n cd]) (by simp [results,Tryz.f115];go_simp) rfl ?_;refine⟨_,rfl,?_,al (ak hww.out K3.out) Hsz.out _ _ _⟩;rw [show ar x y=y from if_pos hcn];exact(Hy.out.mono (ak hww.out K3.out)).put3 Hz.out
 ·go_wp2_with fail
  have hcn:¬(x<y):=fun hh=>by have h1:=Hc.out;have h2:=(cmpQ_pos y x).2 hh;omega
  refine bodyPost_ret (v:=.agg #[.bool b1,.slice A k ca,.slice B l cb]) (by simp [results,Tryz.f115];go_simp) rfl ?_;refine⟨_,rfl,?_,al (ak hww.out K3.out) Hsz.out _ _ _⟩;rw [show ar x y=x from if_neg hcn];exact(Hx.out.mono (ak hww.out K3.out)).put3 Hz.out
theorem rat_int (z:Int):rat (decide (z<0)) z.natAbs 1=(z:Rat):=rat_self (z:Rat)
theorem setup0 (w:World):(∀W,Ext (w.alloc (.cells #[.bool false,.slice none 0 0,.slice none 0 0] 35)) W→W.heap[w.heap.size]?=some (.cells #[.bool false,.slice none 0 0,.slice none 0 0] 35 (0,0))):=
 fun W h=>row3 h
theorem sm_small (k:Nat) (h:k<2 ^ 64):Sm k:=sm_of_lt h (by omega)
theorem int_q_neg (k:Nat) (h0:0<k) (hk:k≤9223372036854775808) (w:World):Calls Tryz.prog 11 #[.int .i64 (-(k:Int))] w fun e w'=>∃v,e=.returned v∧Nm w' v ((-(k:Int):Int):Rat)∧Ext w w':=by
  have Hr:=ZZ (show rat true k 1=((-(k:Int):Int):Rat) by have:=rat_int (-(k:Int));rw [show decide (-(k:Int)<0)=true by simp;omega,Int.natAbs_neg,Int.natAbs_natCast] at this;exact this);have Sk:=ZZ (sm_small k (by omega));have H0:=ZZ h0;have HK:=ZZ hk;have t1:decide (-(k:Int)<0)=true:=by simp;omega
  have t2:-(k:Int)<0:=by omega
  clear h0 hk
  go_enter Tryz.func11,Tryz.ntmps11
  go_wp2_with fail;rw [show IntKind.u64.wrap (-IntKind.u64.wrap (-(k:Int)))=(k:Int) by have h0:=H0.out;have hk:=HK.out;rw [IntKind.wrap_u64,IntKind.wrap_u64];omega]
  refine(word_c k (by have:=HK.out;rw [B64_eq];omega) _).mono ?_;rintro e w1 ⟨v1,rfl,h1,k1⟩;obtain⟨P1,p1,c1,rfl⟩:=h1.form';have G1:=ZZ h1;have K1:=ZZ k1;clear h1 k1;go_wp2_with fail;refine(one_c _).mono ?_;rintro e w2 ⟨v2,rfl,h2,k2⟩;obtain⟨P2,p2,c2,rfl⟩:=h2.form';have G2:=ZZ h2;have K2:=ZZ k2;clear h2 k2;go_wp2_with fail;refine(reduced_c _ _ _ _ _ _ (G1.out.mono K2.out) G2.out Sk.out (sm_small 1 (by decide)) (by decide)).mono ?_;rintro e w3 ⟨v3,rfl,h3,k3⟩;obtain⟨b3,P3,p3,c3,Q3,q3,d3,rfl⟩:=h3.form2;have G3:=ZZ h3;have K3:=ZZ (ak K1.out (ak K2.out k3));have hz:=setup0 w w3 K3.out;obtain⟨z0,z1,z2,f0,f1,f2⟩:=aj hz;have Hz:=ZZ hz;clear h3 k3 hz;go_wp2_with fail;refine bodyPost_ret (v:=.agg #[.bool b3,.slice P3 p3 c3,.slice Q3 q3 d3]) (by simp [results,Tryz.f11];go_simp) rfl ?_;refine⟨_,rfl,?_,al (ak (ab _ _) K3.out) (Nat.le_refl _) _ _ _⟩;have hr:rat true k 1=_:=Hr.out;rw [←hr];exact G3.out.put3 Hz.out
theorem int_q_nat (k:Nat) (hk:k<9223372036854775808) (w:World):Calls Tryz.prog 11 #[.int .i64 (k:Int)] w fun e w'=>∃v,e=.returned v∧Nm w' v (((k:Int):Int):Rat)∧Ext w w':=by
  have Hr:=ZZ (show rat false k 1=(((k:Int):Int):Rat) by have:=rat_int (k:Int);rw [show decide ((k:Int)<0)=false by rw [decide_eq_false_iff_not];omega,Int.natAbs_natCast] at this;exact this);have Sk:=ZZ (sm_small k (by omega));have q1:(0:Int)≤(k:Int):=by omega
  have q2:(k:Int)≤9223372036854775807:=by omega
  have HK:=ZZ hk;clear hk
  go_enter Tryz.func11,Tryz.ntmps11
  go_wp2_with fail;refine(word_c k (by have:=HK.out;rw [B64_eq];omega) _).mono ?_
  rintro e w1 ⟨v1,rfl,h1,k1⟩;obtain⟨P1,p1,c1,rfl⟩:=h1.form';have G1:=ZZ h1;have K1:=ZZ k1;clear h1 k1;go_wp2_with fail;refine(one_c _).mono ?_;rintro e w2 ⟨v2,rfl,h2,k2⟩;obtain⟨P2,p2,c2,rfl⟩:=h2.form';have G2:=ZZ h2;have K2:=ZZ k2;clear h2 k2;go_wp2_with fail;refine(reduced_c _ _ _ _ _ _ (G1.out.mono K2.out) G2.out Sk.out (sm_small 1 (by decide)) (by decide)).mono ?_;rintro e w3 ⟨v3,rfl,h3,k3⟩;obtain⟨b3,P3,p3,c3,Q3,q3,d3,rfl⟩:=h3.form2;have G3:=ZZ h3;have K3:=ZZ (ak K1.out (ak K2.out k3));have hz:=setup0 w w3 K3.out;obtain⟨z0,z1,z2,f0,f1,f2⟩:=aj hz;have Hz:=ZZ hz;clear h3 k3 hz;go_wp2_with fail;refine bodyPost_ret (v:=.agg #[.bool b3,.slice P3 p3 c3,.slice Q3 q3 d3]) (by simp [results,Tryz.f11];go_simp) rfl ?_;refine⟨_,rfl,?_,al (ak (ab _ _) K3.out) (Nat.le_refl _) _ _ _⟩;have hr:rat false k 1=_:=Hr.out;rw [←hr];exact G3.out.put3 Hz.out
theorem int_q (z:Int) (h1:-9223372036854775808≤z) (h2:z<9223372036854775808) (w:World):Calls Tryz.prog 11 #[.int .i64 z] w fun e w'=>∃v,e=.returned v∧Nm w' v (z:Rat)∧Ext w w':=by
 rcases(show z<0∨0≤z by omega) with h|h
 ·obtain⟨k,rfl⟩:∃k:Nat,z = -(k:Int):=⟨z.natAbs,by omega⟩
  exact int_q_neg k (by omega) (by omega) w
 ·obtain⟨k,rfl⟩:∃k:Nat,z=(k:Int):=⟨z.toNat,by omega⟩
  exact int_q_nat k (by omega) w
theorem bq_int (z:Int) (h1:-9223372036854775808≤z) (h2:z<9223372036854775808):Bq 64 (z:Rat):=
 ⟨by show z.natAbs<2 ^ 64;omega,by show 1<2 ^ 64;decide⟩
end Go.Proofs.YtjamgccgoapbeaaGreatDoor
set_option linter.unusedVariables false
set_option maxRecDepth 100000
set_option maxHeartbeats 64000000
namespace Go.Proofs.YtjamgccgoapbeaaGreatDoor
open Go.RowKit
theorem up_c (va:Value) (n k:Nat) (w:World) (ha:Wd w va n) (sa:Sm n) (hk:k≤70368744177664):Calls Tryz.prog 148 #[va,.int .i64 k] w fun e w'=>∃v,e=.returned v∧Wd w' v (n*2 ^ k)∧Ext w w':=by
 refine(up_r va n k w ha sa hk).mono ?_;rintro e w' ⟨⟨r,rfl,h1,h2,h3,h4⟩,h5⟩;exact⟨_,rfl,by rw [←h4];exact cut_w h2 h3.cl (by omega),h5⟩
def shQ (x:Rat) (k:Int):Rat:=if k<0 then rat (decide (x.num<0)) x.num.natAbs (x.den*2 ^ k.natAbs) else rat (decide (x.num<0)) (x.num.natAbs*2 ^ k.natAbs) x.den
theorem lt_shift {n B k:Nat} (h:n<2 ^ B):n*2 ^ k<2 ^ (B+k):=by
 rw [Nat.pow_add];exact Nat.mul_lt_mul_of_pos_right h (Nat.pow_pos (by decide))
theorem Bq.sh {B:Nat} {x:Rat} {k:Int} (h:Bq B x):Bq (B+k.natAbs) (shQ x k):=by
 unfold shQ;have hp:0<x.den:=x.den_pos
 split
 ·exact bq_rat (lt_mono h.1 (by omega)) (lt_shift h.2) (Nat.ne_of_gt (Nat.mul_pos hp (Nat.pow_pos (by decide))))
 ·exact bq_rat (lt_shift h.1) (lt_mono h.2 (by omega)) (Nat.ne_of_gt hp)
theorem shifted_up (M:Nat) (hM:M≤1099511627776) (j:Nat) (hj:j≤1099511627776) (vx:Value) (x:Rat) (w:World) (hx:Nm w vx x) (bx:Bq M x):Calls Tryz.prog 118 #[vx,.int .i64 j] w fun e w'=>∃v,e=.returned v∧Nm w' v (shQ x j)∧Ext w w':=by
 have S1:=ZZ (sm_of_lt bx.1 (by omega));have S2:=ZZ (sm_of_lt bx.2 (by omega));have S3:=ZZ (sm_of_lt (lt_shift (k:=j) bx.1) (by omega));have D0:=ZZ x.den_pos;have HJ:=ZZ hj;have q1:(0:Int)≤(j:Int):=by omega
 have q2:¬(j:Int)<0:=by omega
 clear hj bx hM;obtain⟨A,k,ca,B,l,cb,rfl,hxn,hxd,hkx,hlx⟩:=hx.form;have Hx:=ZZ hx;have Hxn:=ZZ hxn;have Hkx:=ZZ hkx;have Hlx:=ZZ hlx;clear hx hxn hxd hkx hlx;generalize hbx:decide (x.num<0)=b1 at *;have Hbx:=ZZ hbx;clear hbx;obtain⟨hS,hZ,hw1,hw2,hsz,hsz1⟩:=setup1 w (.bool b1) (.slice A k ca) (.slice B l cb);have HS:=ZZ hS;have HZ:=ZZ hZ;have HW1:=ZZ hw1;have HW2:=ZZ hw2;have Hsz1:=ZZ hsz1;clear hS hZ hw1 hw2 hsz hsz1
 go_enter Tryz.func118,Tryz.ntmps118
 go_wp2_with fail;generalize World.alloc (World.alloc w (.cells #[.bool b1,.slice A k ca,.slice B l cb] _)) _=W2 at *
 generalize World.alloc w (.cells #[.bool b1,.slice A k ca,.slice B l cb] _)=W1 at *;generalize hg0:w.heap.size=g0 at *;have Hsz:=ZZ (show w.heap.size≤g0+1 by omega);clear hg0;have hww:=ZZ (ak HW1.out HW2.out);have hx0:=ZZ (ae W2);have hS0:=HS.out _ (ak HW2.out hx0.out);have e1:=ZZ (ac W2);have hx1:=ZZ (ak hx0.out e1.out)
 go_region_held3 (fun W=>W.cell? ⟨g0,0,none⟩=some (.bool b1)∧W.cell? ⟨g0,1,none⟩=some (.slice A k ca)∧W.cell? ⟨g0,2,none⟩=some (.slice B l cb))
  (first
   | exact HS.out _ (al (ak HW2.out hx4.out) Hsz1.out _ _ _)
   | exact HS.out _ (ak HW2.out hx4.out)
   | exact HS.out _ (ak HW2.out hx3.out)
   | exact HS.out _ (ak HW2.out hx2.out)
   | exact HS.out _ (ak HW2.out hx1.out))
  (first
   |(have _q:=hx3
     go_at_call 57
     refine(reduced_c _ _ _ _ _ _ (H2.out.mono e3.out) H3.out S3.out S2.out D0.out).mono ?_;clear _q;rintro e w3 ⟨vv,rfl,h4,k4⟩;obtain⟨b3,P3,p3,c3,Q3,q3,d3,rfl⟩:=h4.form2;have H4:=ZZ h4;clear h4;have e4:=ZZ k4;have hx4:=ZZ (ak hx3.out k4);clear k4;have hz:=HZ.out _ hx4.out;obtain⟨z0,z1,z2,f0,f1,f2⟩:=aj hz;have Hz:=ZZ hz;clear hz)
   |(have _q:=hx2
     go_at_call 74
     refine(under_c _ _ _ (Hx.out.mono (ak hww.out hx2.out))).mono ?_;clear _q;rintro e w2 ⟨vv,rfl,h3,k3⟩;obtain⟨P2,p2,c2,rfl⟩:=h3.form';have H3:=ZZ h3;clear h3;have e3:=ZZ k3;have hx3:=ZZ (ak hx2.out k3);clear k3)
   |(have _q:=hx1
     go_at_call 148
     refine(up_c _ _ _ _ (Hxn.out.mono (ak hww.out hx1.out)) S1.out (Nat.le_trans HJ.out (by decide))).mono ?_;clear _q;rintro e w1 ⟨vv,rfl,h2,k2⟩;obtain⟨P1,p1,c1,rfl⟩:=h2.form';have H2:=ZZ h2;clear h2;have e2:=ZZ k2;have hx2:=ZZ (ak hx1.out k2);clear k2))
 go_wp2_with fail;refine bodyPost_ret (v:=.agg #[.bool b3,.slice P3 p3 c3,.slice Q3 q3 d3]) (by simp [results,Tryz.f118];go_simp) rfl ?_
 refine⟨_,rfl,?_,al (ak hww.out hx4.out) Hsz.out _ _ _⟩
 have hr:rat b1 (x.num.natAbs*2 ^ j) x.den=shQ x (j:Int):=by
  unfold shQ;rw [if_neg (by omega),Hbx.out];rfl
 rw [←hr];exact H4.out.put3 Hz.out
theorem shifted_down (M:Nat) (hM:M≤1099511627776) (j:Nat) (h0:0<j) (hj:j≤1099511627776) (vx:Value) (x:Rat) (w:World) (hx:Nm w vx x) (bx:Bq M x):Calls Tryz.prog 118 #[vx,.int .i64 (-(j:Int))] w fun e w'=>∃v,e=.returned v∧Nm w' v (shQ x (-(j:Int)))∧Ext w w':=by
 have S1:=ZZ (sm_of_lt bx.1 (by omega));have S2:=ZZ (sm_of_lt bx.2 (by omega));have S3:=ZZ (sm_of_lt (lt_shift (k:=j) bx.2) (by omega));have D0:=ZZ (Nat.mul_pos x.den_pos (Nat.pow_pos (n:=j) (show 0<2 by decide)));have HJ:=ZZ hj;have HP:=ZZ h0;have q2:-(j:Int)<0:=by omega
 have q3:decide (-(j:Int)<0)=true:=by rw [decide_eq_true_eq];omega
 have q4:IntKind.i64.wrap (j:Int)=(j:Int):=IntWalk.i64_in _ (by omega);have q5:IntKind.i64.wrap (- -(j:Int))=(j:Int):=IntWalk.i64_in _ (by omega) |>.trans (by omega)
 clear hj bx hM h0;obtain⟨A,k,ca,B,l,cb,rfl,hxn,hxd,hkx,hlx⟩:=hx.form;have Hx:=ZZ hx;have Hxn:=ZZ hxn;have Hkx:=ZZ hkx;have Hlx:=ZZ hlx;clear hx hxn hxd hkx hlx;generalize hbx:decide (x.num<0)=b1 at *;have Hbx:=ZZ hbx;clear hbx;obtain⟨hS,hZ,hw1,hw2,hsz,hsz1⟩:=setup1 w (.bool b1) (.slice A k ca) (.slice B l cb);have HS:=ZZ hS;have HZ:=ZZ hZ;have HW1:=ZZ hw1;have HW2:=ZZ hw2;have Hsz1:=ZZ hsz1;clear hS hZ hw1 hw2 hsz hsz1
 go_enter Tryz.func118,Tryz.ntmps118
 go_wp2_with fail;generalize World.alloc (World.alloc w (.cells #[.bool b1,.slice A k ca,.slice B l cb] _)) _=W2 at *
 generalize World.alloc w (.cells #[.bool b1,.slice A k ca,.slice B l cb] _)=W1 at *;generalize hg0:w.heap.size=g0 at *;have Hsz:=ZZ (show w.heap.size≤g0+1 by omega);clear hg0;have hww:=ZZ (ak HW1.out HW2.out);have hx0:=ZZ (ae W2);have hS0:=HS.out _ (ak HW2.out hx0.out);have e1:=ZZ (ac W2);have hx1:=ZZ (ak hx0.out e1.out)
 go_region_held3 (fun W=>W.cell? ⟨g0,0,none⟩=some (.bool b1)∧W.cell? ⟨g0,1,none⟩=some (.slice A k ca)∧W.cell? ⟨g0,2,none⟩=some (.slice B l cb))
  (first
   | exact HS.out _ (al (ak HW2.out hx4.out) Hsz1.out _ _ _)
   | exact HS.out _ (ak HW2.out hx4.out)
   | exact HS.out _ (ak HW2.out hx3.out)
   | exact HS.out _ (ak HW2.out hx2.out)
   | exact HS.out _ (ak HW2.out hx1.out))
  (first
   |(have _q:=hx3
     go_at_call 57
     refine(reduced_c _ _ _ _ _ _ (Hxn.out.mono (ak hww.out hx3.out)) H3.out S1.out S3.out D0.out).mono ?_;clear _q;rintro e w3 ⟨vv,rfl,h4,k4⟩;obtain⟨b3,P3,p3,c3,Q3,q3,d3,rfl⟩:=h4.form2;have H4:=ZZ h4;clear h4;have e4:=ZZ k4;have hx4:=ZZ (ak hx3.out k4);clear k4;have hz:=HZ.out _ hx4.out;obtain⟨z0,z1,z2,f0,f1,f2⟩:=aj hz;have Hz:=ZZ hz;clear hz)
   |(have _q:=hx2
     go_at_call 148
     refine(up_c _ _ _ _ H2.out S2.out (Nat.le_trans HJ.out (by decide))).mono ?_;clear _q;rintro e w2 ⟨vv,rfl,h3,k3⟩;obtain⟨P2,p2,c2,rfl⟩:=h3.form';have H3:=ZZ h3;clear h3;have e3:=ZZ k3;have hx3:=ZZ (ak hx2.out k3);clear k3)
   |(have _q:=hx1
     go_at_call 74
     refine(under_c _ _ _ (Hx.out.mono (ak hww.out hx1.out))).mono ?_;clear _q;rintro e w1 ⟨vv,rfl,h2,k2⟩;obtain⟨P1,p1,c1,rfl⟩:=h2.form';have H2:=ZZ h2;clear h2;have e2:=ZZ k2;have hx2:=ZZ (ak hx1.out k2);clear k2))
 go_wp2_with fail;refine bodyPost_ret (v:=.agg #[.bool b3,.slice P3 p3 c3,.slice Q3 q3 d3]) (by simp [results,Tryz.f118];go_simp) rfl ?_
 refine⟨_,rfl,?_,al (ak hww.out hx4.out) Hsz.out _ _ _⟩
 have hr:rat b1 x.num.natAbs (x.den*2 ^ j)=shQ x (-(j:Int)):=by
  unfold shQ;rw [if_pos (by have:=HP.out;omega),Hbx.out,Int.natAbs_neg];rfl
 rw [←hr];exact H4.out.put3 Hz.out
theorem shifted_q (M:Nat) (hM:M≤1099511627776) (z:Int) (hz:z.natAbs≤1099511627776) (vx:Value) (x:Rat) (w:World) (hx:Nm w vx x) (bx:Bq M x):Calls Tryz.prog 118 #[vx,.int .i64 z] w fun e w'=>∃v,e=.returned v∧Nm w' v (shQ x z)∧Ext w w':=by
 rcases(show z<0∨0≤z by omega) with h|h
 ·obtain⟨k,rfl⟩:∃k:Nat,z = -(k:Int):=⟨z.natAbs,by omega⟩
  exact shifted_down M hM k (by omega) (by omega) vx x w hx bx
 ·obtain⟨k,rfl⟩:∃k:Nat,z=(k:Int):=⟨z.toNat,by omega⟩
  exact shifted_up M hM k (by omega) vx x w hx bx
end Go.Proofs.YtjamgccgoapbeaaGreatDoor
