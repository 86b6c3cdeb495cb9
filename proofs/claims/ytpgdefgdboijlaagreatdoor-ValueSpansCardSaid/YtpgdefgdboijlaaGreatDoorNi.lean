/- Numbers: logarithms, integers next to a number. Printed by gen_ni.py. -/
import Derived.Test.YtpgdefgdboijlaaGreatDoorNh
set_option linter.unusedVariables false
set_option maxRecDepth 100000
set_option maxHeartbeats 16000000
namespace Go.Proofs.YtpgdefgdboijlaaGreatDoor
open Go.RowKit
theorem size_c' (va:Value) (n a:Nat) (hae:a=bl n) (w:World) (ha:Wd w va n) (sa:Sm n):Calls Tryz.prog 193 #[va] w fun e w'=>e=.returned (.int .i64 (a:Int))∧Ext w w':=by
 subst hae;refine(size_c va n w ha sa).mono ?_;rintro e w' ⟨rfl,rfl⟩;exact⟨rfl,ad _⟩
theorem bl_le {n M:Nat} (h:n<2 ^ M):bl n≤M:=by
 unfold bl
 split
 ·omega
 ·rename_i h0
  have:=(Nat.log2_lt h0).2 h
  omega
def logN (n d:Nat):Int:=
 if bl d≤bl n then (if n<d*2 ^ (bl n - bl d) then ((bl n - bl d:Nat):Int) - 1 else ((bl n - bl d:Nat):Int))
 else (if n*2 ^ (bl d - bl n)<d then -((bl d - bl n:Nat):Int) - 1 else -((bl d - bl n:Nat):Int))
def logQ (x:Rat):Int:=logN x.num.natAbs x.den
theorem logQ_bound {M:Nat} {x:Rat} (h:Bq M x):-(M:Int) - 1≤logQ x∧logQ x≤M:=by
 have h1:=bl_le h.1;have h2:=bl_le h.2;unfold logQ logN
 split <;> split <;> omega
theorem log_ge (M:Nat) (hM:M≤1099511627776) (vx:Value) (x:Rat) (w:World) (hx:Nm w vx x) (bx:Bq M x) (hc:bl x.den≤bl x.num.natAbs):Calls Tryz.prog 165 #[vx] w fun e w'=>e=.returned (.int .i64 (logQ x))∧Ext w w':=by
 have S1:=ZZ (sm_of_lt bx.1 (by omega));have S2:=ZZ (sm_of_lt bx.2 (by omega));have ha:=bl_le bx.1;have hb:=bl_le bx.2;have HC:=ZZ hc;obtain⟨j,hj⟩:∃j,j=bl x.num.natAbs - bl x.den:=⟨_,rfl⟩;have S3:=ZZ (sm_of_lt (lt_shift (k:=j) bx.2) (by omega));have S4:=ZZ (sm_of_lt (lt_shift (k:=0) bx.1) (by omega));have HJ:=ZZ (show j≤1099511627776 by omega);have HJ':=ZZ hj;obtain⟨a,hae⟩:∃a,a=bl x.num.natAbs:=⟨_,rfl⟩;obtain⟨b,hbe⟩:∃b,b=bl x.den:=⟨_,rfl⟩;have HAE:=ZZ hae;have HBE:=ZZ hbe;have u1:IntKind.i64.wrap ((a:Int) - (b:Int))=(j:Int):=(IntWalk.i64_in _ (by omega)).trans (by omega);have u2:IntKind.i64.wrap (-(j:Int)) = -(j:Int):=IntWalk.i64_in _ (by omega);have u3:max (-(j:Int)) 0=0:=by omega
 have u4:max (j:Int) 0=(j:Int):=by omega
 have u5:IntKind.i64.wrap ((j:Int) - 1)=(j:Int) - 1:=IntWalk.i64_in _ (by omega);clear hae hbe hj ha hb hc bx hM;obtain⟨A,k,ca,B,l,cb,rfl,hxn,hxd,hkx,hlx⟩:=hx.form;have Hx:=ZZ hx;have Hxn:=ZZ hxn;have Hkx:=ZZ hkx;have Hlx:=ZZ hlx;clear hx hxn hxd hkx hlx;generalize hbx:decide (x.num<0)=b1 at *;have Hbx:=ZZ hbx;clear hbx;obtain⟨hS,-,hw1,-⟩:=setup1 w (.bool b1) (.slice A k ca) (.slice B l cb);have HS:=ZZ hS;have hww:=ZZ hw1;clear hS hw1
 go_enter Tryz.func165,Tryz.ntmps165
 go_wp2_with fail;generalize World.alloc w (.cells #[.bool b1,.slice A k ca,.slice B l cb] _)=W2 at *
 generalize w.heap.size=g0 at *;have HW2:=ZZ (ad W2);have hx0:=ZZ (ad W2);have hS0:=HS.out _ (al HW2.out hx0.out);have e1:=ZZ (ac W2);have hx1:=ZZ (al hx0.out e1.out)
 go_region_held3 (fun W=>W.cell? ⟨g0,0,none⟩=some (.bool b1)∧W.cell? ⟨g0,1,none⟩=some (.slice A k ca)∧W.cell? ⟨g0,2,none⟩=some (.slice B l cb)) (first
   | exact HS.out _ (al HW2.out hx4.out)
   | exact HS.out _ (al HW2.out hx3.out)
   | exact HS.out _ (al HW2.out hx2.out)
   | exact HS.out _ (al HW2.out hx1.out))
  (first
   |(have _q:=hx3
     go_at_call 193
     refine(size_c' _ _ b HBE.out _ H3.out S2.out).mono ?_;clear _q;rintro e w3 ⟨rfl,h4⟩;have k4:=h4;clear h4;have e4:=ZZ k4;have hx4:=ZZ (al hx3.out k4);clear k4)
   |(have _q:=hx2
     go_at_call 115
     refine(under_c _ _ _ (Hx.out.mono (al hww.out hx2.out))).mono ?_;clear _q;rintro e w2 ⟨vv,rfl,h3,k3⟩;obtain⟨P1,p1,c1,rfl⟩:=h3.form';have H3:=ZZ h3;clear h3;have e3:=ZZ k3;have hx3:=ZZ (al hx2.out k3);clear k3)
   |(have _q:=hx1
     go_at_call 193
     refine(size_c' _ _ a HAE.out _ (Hxn.out.mono (al hww.out hx1.out)) S1.out).mono ?_;clear _q;rintro e w1 ⟨rfl,h2⟩;have k2:=h2;clear h2;have e2:=ZZ k2;have hx2:=ZZ (al hx1.out k2);clear k2))
 go_wp2_with fail;have hS4:=HS.out _ (al HW2.out hx4.out)
 have e5:=ZZ (ac w3);have hx5:=ZZ (al hx4.out e5.out)
 go_region_held3 (fun W=>W.cell? ⟨g0,0,none⟩=some (.bool b1)∧W.cell? ⟨g0,1,none⟩=some (.slice A k ca)∧W.cell? ⟨g0,2,none⟩=some (.slice B l cb)) (first
   | exact HS.out _ (al HW2.out hx9.out)
   | exact HS.out _ (al HW2.out hx8.out)
   | exact HS.out _ (al HW2.out hx7.out)
   | exact HS.out _ (al HW2.out hx6.out)
   | exact HS.out _ (al HW2.out hx5.out))
  (first
   |(have _q:=hx8
     go_at_call 135
     refine(cmp_c _ _ _ _ _ (H6.out.mono (al e7.out e8.out)) H8.out S4.out S3.out).mono ?_;clear _q;rintro e w7 ⟨⟨cq,rfl,hq1,hq2⟩,kq,rfl⟩;have Hq1:=ZZ hq1;have Hq2:=ZZ hq2;clear hq1 hq2;have k9:=aA w6 kq;have e9:=ZZ k9;have hx9:=ZZ (al hx8.out k9);clear k9)
   |(have _q:=hx7
     go_at_call 171
     refine(up_c _ _ j _ H7.out S2.out (Nat.le_trans HJ.out (by decide))).mono ?_;clear _q;rintro e w6 ⟨vv,rfl,h8,k8⟩;obtain⟨P5,p5,c5,rfl⟩:=h8.form';have H8:=ZZ h8;clear h8;have e8:=ZZ k8;have hx8:=ZZ (al hx7.out k8);clear k8)
   |(have _q:=hx6
     go_at_call 115
     refine(under_c _ _ _ (Hx.out.mono (al hww.out hx6.out))).mono ?_;clear _q;rintro e w5 ⟨vv,rfl,h7,k7⟩;obtain⟨P4,p4,c4,rfl⟩:=h7.form';have H7:=ZZ h7;clear h7;have e7:=ZZ k7;have hx7:=ZZ (al hx6.out k7);clear k7)
   |(have _q:=hx5
     go_at_call 171
     refine(up_c _ _ 0 _ (Hxn.out.mono (al hww.out hx5.out)) S1.out (Nat.le_trans (Nat.zero_le 0) (by decide))).mono ?_;clear _q;rintro e w4 ⟨vv,rfl,h6,k6⟩;obtain⟨P3,p3,c3,rfl⟩:=h6.form';have H6:=ZZ h6;clear h6;have e6:=ZZ k6;have hx6:=ZZ (al hx5.out k6);clear k6))
 all_goals
  rcases(show cq<0∨0≤cq by omega) with hc|hc
  ·go_wp2_with fail
   go_ret;have h1:=Hq1.out.1 hc
   refine⟨ret_i ?_,al hww.out hx9.out⟩;have hj:=HJ'.out;have hC:=HC.out;unfold logQ logN;rw [hj] at h1 ⊢
   simp only [Nat.pow_zero,Nat.mul_one] at h1
   rw [if_pos hC,if_pos h1]
  ·go_wp2_with fail
   go_ret;have h1:¬ _:=fun h=>by have:=Hq1.out.2 h;omega
   refine⟨ret_i ?_,al hww.out hx9.out⟩;have hj:=HJ'.out;have hC:=HC.out;unfold logQ logN;rw [hj] at h1 ⊢
   simp only [Nat.pow_zero,Nat.mul_one] at h1
   rw [if_pos hC,if_neg h1]
theorem log_lt (M:Nat) (hM:M≤1099511627776) (vx:Value) (x:Rat) (w:World) (hx:Nm w vx x) (bx:Bq M x) (hc:bl x.num.natAbs<bl x.den):Calls Tryz.prog 165 #[vx] w fun e w'=>e=.returned (.int .i64 (logQ x))∧Ext w w':=by
 have S1:=ZZ (sm_of_lt bx.1 (by omega));have S2:=ZZ (sm_of_lt bx.2 (by omega));have ha:=bl_le bx.1;have hb:=bl_le bx.2;have HC:=ZZ hc;obtain⟨j,hj⟩:∃j,j=bl x.den - bl x.num.natAbs:=⟨_,rfl⟩;have S3:=ZZ (sm_of_lt (lt_shift (k:=0) bx.2) (by omega));have S4:=ZZ (sm_of_lt (lt_shift (k:=j) bx.1) (by omega));have HJ:=ZZ (show j≤1099511627776 by omega);have HJ':=ZZ hj;obtain⟨a,hae⟩:∃a,a=bl x.num.natAbs:=⟨_,rfl⟩;obtain⟨b,hbe⟩:∃b,b=bl x.den:=⟨_,rfl⟩;have HAE:=ZZ hae;have HBE:=ZZ hbe;have u1:IntKind.i64.wrap ((a:Int) - (b:Int)) = -(j:Int):=(IntWalk.i64_in _ (by omega)).trans (by omega);have u2:IntKind.i64.wrap (- -(j:Int))=(j:Int):=(IntWalk.i64_in _ (by omega)).trans (by omega);have u6:IntKind.i64.wrap (j:Int)=(j:Int):=IntWalk.i64_in _ (by omega);have u3:max (-(j:Int)) 0=0:=by omega
 have u4:max (j:Int) 0=(j:Int):=by omega
 have u5:IntKind.i64.wrap (-(j:Int) - 1) = -(j:Int) - 1:=IntWalk.i64_in _ (by omega);clear hae hbe hj ha hb hc bx hM;obtain⟨A,k,ca,B,l,cb,rfl,hxn,hxd,hkx,hlx⟩:=hx.form;have Hx:=ZZ hx;have Hxn:=ZZ hxn;have Hkx:=ZZ hkx;have Hlx:=ZZ hlx;clear hx hxn hxd hkx hlx;generalize hbx:decide (x.num<0)=b1 at *;have Hbx:=ZZ hbx;clear hbx;obtain⟨hS,-,hw1,-⟩:=setup1 w (.bool b1) (.slice A k ca) (.slice B l cb);have HS:=ZZ hS;have hww:=ZZ hw1;clear hS hw1
 go_enter Tryz.func165,Tryz.ntmps165
 go_wp2_with fail;generalize World.alloc w (.cells #[.bool b1,.slice A k ca,.slice B l cb] _)=W2 at *
 generalize w.heap.size=g0 at *;have HW2:=ZZ (ad W2);have hx0:=ZZ (ad W2);have hS0:=HS.out _ (al HW2.out hx0.out);have e1:=ZZ (ac W2);have hx1:=ZZ (al hx0.out e1.out)
 go_region_held3 (fun W=>W.cell? ⟨g0,0,none⟩=some (.bool b1)∧W.cell? ⟨g0,1,none⟩=some (.slice A k ca)∧W.cell? ⟨g0,2,none⟩=some (.slice B l cb)) (first
   | exact HS.out _ (al HW2.out hx4.out)
   | exact HS.out _ (al HW2.out hx3.out)
   | exact HS.out _ (al HW2.out hx2.out)
   | exact HS.out _ (al HW2.out hx1.out))
  (first
   |(have _q:=hx3
     go_at_call 193
     refine(size_c' _ _ b HBE.out _ H3.out S2.out).mono ?_;clear _q;rintro e w3 ⟨rfl,h4⟩;have k4:=h4;clear h4;have e4:=ZZ k4;have hx4:=ZZ (al hx3.out k4);clear k4)
   |(have _q:=hx2
     go_at_call 115
     refine(under_c _ _ _ (Hx.out.mono (al hww.out hx2.out))).mono ?_;clear _q;rintro e w2 ⟨vv,rfl,h3,k3⟩;obtain⟨P1,p1,c1,rfl⟩:=h3.form';have H3:=ZZ h3;clear h3;have e3:=ZZ k3;have hx3:=ZZ (al hx2.out k3);clear k3)
   |(have _q:=hx1
     go_at_call 193
     refine(size_c' _ _ a HAE.out _ (Hxn.out.mono (al hww.out hx1.out)) S1.out).mono ?_;clear _q;rintro e w1 ⟨rfl,h2⟩;have k2:=h2;clear h2;have e2:=ZZ k2;have hx2:=ZZ (al hx1.out k2);clear k2))
 go_wp2_with fail;have hS4:=HS.out _ (al HW2.out hx4.out)
 have e5:=ZZ (ac w3);have hx5:=ZZ (al hx4.out e5.out)
 go_region_held3 (fun W=>W.cell? ⟨g0,0,none⟩=some (.bool b1)∧W.cell? ⟨g0,1,none⟩=some (.slice A k ca)∧W.cell? ⟨g0,2,none⟩=some (.slice B l cb)) (first
   | exact HS.out _ (al HW2.out hx9.out)
   | exact HS.out _ (al HW2.out hx8.out)
   | exact HS.out _ (al HW2.out hx7.out)
   | exact HS.out _ (al HW2.out hx6.out)
   | exact HS.out _ (al HW2.out hx5.out))
  (first
   |(have _q:=hx8
     go_at_call 135
     refine(cmp_c _ _ _ _ _ (H6.out.mono (al e7.out e8.out)) H8.out S4.out S3.out).mono ?_;clear _q;rintro e w7 ⟨⟨cq,rfl,hq1,hq2⟩,kq,rfl⟩;have Hq1:=ZZ hq1;have Hq2:=ZZ hq2;clear hq1 hq2;have k9:=aA w6 kq;have e9:=ZZ k9;have hx9:=ZZ (al hx8.out k9);clear k9)
   |(have _q:=hx7
     go_at_call 171
     refine(up_c _ _ 0 _ H7.out S2.out (Nat.le_trans (Nat.zero_le 0) (by decide))).mono ?_;clear _q;rintro e w6 ⟨vv,rfl,h8,k8⟩;obtain⟨P5,p5,c5,rfl⟩:=h8.form';have H8:=ZZ h8;clear h8;have e8:=ZZ k8;have hx8:=ZZ (al hx7.out k8);clear k8)
   |(have _q:=hx6
     go_at_call 115
     refine(under_c _ _ _ (Hx.out.mono (al hww.out hx6.out))).mono ?_;clear _q;rintro e w5 ⟨vv,rfl,h7,k7⟩;obtain⟨P4,p4,c4,rfl⟩:=h7.form';have H7:=ZZ h7;clear h7;have e7:=ZZ k7;have hx7:=ZZ (al hx6.out k7);clear k7)
   |(have _q:=hx5
     go_at_call 171
     refine(up_c _ _ j _ (Hxn.out.mono (al hww.out hx5.out)) S1.out (Nat.le_trans HJ.out (by decide))).mono ?_;clear _q;rintro e w4 ⟨vv,rfl,h6,k6⟩;obtain⟨P3,p3,c3,rfl⟩:=h6.form';have H6:=ZZ h6;clear h6;have e6:=ZZ k6;have hx6:=ZZ (al hx5.out k6);clear k6))
 all_goals
  rcases(show cq<0∨0≤cq by omega) with hc|hc
  ·go_wp2_with fail
   go_ret;have h1:=Hq1.out.1 hc
   refine⟨ret_i ?_,al hww.out hx9.out⟩;have hj:=HJ'.out;have hC:=HC.out;unfold logQ logN;rw [hj] at h1 ⊢
   simp only [Nat.pow_zero,Nat.mul_one] at h1
   rw [if_neg (by omega),if_pos h1]
  ·go_wp2_with fail
   go_ret;have h1:¬ _:=fun h=>by have:=Hq1.out.2 h;omega
   refine⟨ret_i ?_,al hww.out hx9.out⟩;have hj:=HJ'.out;have hC:=HC.out;unfold logQ logN;rw [hj] at h1 ⊢
   simp only [Nat.pow_zero,Nat.mul_one] at h1
   rw [if_neg (by omega),if_neg h1]
theorem log_q (M:Nat) (hM:M≤1099511627776) (vx:Value) (x:Rat) (w:World) (hx:Nm w vx x) (bx:Bq M x):Calls Tryz.prog 165 #[vx] w fun e w'=>e=.returned (.int .i64 (logQ x))∧Ext w w':=by
 rcases Nat.lt_or_ge (bl x.num.natAbs) (bl x.den) with h|h
 ·exact log_lt M hM vx x w hx bx h
 ·exact log_ge M hM vx x w hx bx h
def wholeN (n d:Nat) (away:Bool):Nat:=if away=true∧n % d≠0 then n / d+1 else n / d
def wholeQ (x:Rat) (away:Bool):Rat:=rat (decide (x.num<0)) (wholeN x.num.natAbs x.den away) 1
theorem wholeN_lt {n d B:Nat} {away:Bool} (h:n<2 ^ B):wholeN n d away<2 ^ (B+1):=by
 unfold wholeN;have h1:n / d≤n:=Nat.div_le_self _ _;rw [Nat.pow_succ]
 split <;> omega
theorem Bq.wh {B:Nat} {x:Rat} {away:Bool} (h:Bq B x):Bq (B+1) (wholeQ x away):=
 bq_rat (wholeN_lt h.1) (Nat.one_lt_two_pow (by omega)) (by decide)
theorem whole_near (M:Nat) (hM:M≤1099511627776) (vx:Value) (x:Rat) (w:World) (hx:Nm w vx x) (bx:Bq M x) :Calls Tryz.prog 129 #[vx,.bool false] w fun e w'=>∃v,e=.returned v∧Nm w' v (wholeQ x false)∧Ext w w':=by
 have S1:=ZZ (sm_of_lt bx.1 (by omega));have S2:=ZZ (sm_of_lt bx.2 (by omega));have S3:=ZZ (sm_of_lt (wholeN_lt (d:=x.den) (away:=false) bx.1) (by omega));have S4:=ZZ (sm_of_lt (Nat.lt_of_le_of_lt (Nat.div_le_self x.num.natAbs x.den) bx.1) (by omega));have D0:=ZZ x.den_pos;clear bx hM;obtain⟨A,k,ca,B,l,cb,rfl,hxn,hxd,hkx,hlx⟩:=hx.form;have Hx:=ZZ hx;have Hxn:=ZZ hxn;have Hkx:=ZZ hkx;have Hlx:=ZZ hlx;clear hx hxn hxd hkx hlx;generalize hbx:decide (x.num<0)=b1 at *;have Hbx:=ZZ hbx;clear hbx;obtain⟨hS,hZ,hw1,hw2,hsz,hsz1⟩:=setup1 w (.bool b1) (.slice A k ca) (.slice B l cb);have HS:=ZZ hS;have HZ:=ZZ hZ;have HW1:=ZZ hw1;have HW2:=ZZ hw2;have Hsz1:=ZZ hsz1;clear hS hZ hw1 hw2 hsz hsz1
 go_enter Tryz.func129,Tryz.ntmps129
 go_wp2_with fail;generalize World.alloc (World.alloc w (.cells #[.bool b1,.slice A k ca,.slice B l cb] _)) _=W2 at *
 generalize World.alloc w (.cells #[.bool b1,.slice A k ca,.slice B l cb] _)=W1 at *;generalize hg0:w.heap.size=g0 at *;have Hsz:=ZZ (show w.heap.size≤g0+1 by omega);clear hg0;have hww:=ZZ (al HW1.out HW2.out);have hx0:=ZZ (ad W2);have hS0:=HS.out _ (al HW2.out hx0.out);have e1:=ZZ (ac W2);have hx1:=ZZ (al hx0.out e1.out)
 go_region_held3 (fun W=>W.cell? ⟨g0,0,none⟩=some (.bool b1)∧W.cell? ⟨g0,1,none⟩=some (.slice A k ca)∧W.cell? ⟨g0,2,none⟩=some (.slice B l cb)) (first
   | exact HS.out _ (al HW2.out hx3.out)
   | exact HS.out _ (al HW2.out hx2.out)
   | exact HS.out _ (al HW2.out hx1.out))
  (first
   |(have _q:=hx2
     go_at_call 149
     refine(div_c _ _ _ _ _ (Hxn.out.mono (al hww.out hx2.out)) H2.out S1.out S2.out D0.out).mono ?_;clear _q;rintro e w2 ⟨qv,rv,rfl,h3,hr,k3⟩;obtain⟨R,r,rc,rfl⟩:=hr.form';have HRR:=ZZ hr;clear hr;obtain⟨P2,p2,c2,rfl⟩:=h3.form';have H3:=ZZ h3;clear h3;have e3:=ZZ k3;have hx3:=ZZ (al hx2.out k3);clear k3)
   |(have _q:=hx1
     go_at_call 115
     refine(under_c _ _ _ (Hx.out.mono (al hww.out hx1.out))).mono ?_;clear _q;rintro e w1 ⟨vv,rfl,h2,k2⟩;obtain⟨P1,p1,c1,rfl⟩:=h2.form';have H2:=ZZ h2;clear h2;have e2:=ZZ k2;have hx2:=ZZ (al hx1.out k2);clear k2))
 go_wp2_with fail;have FQ:=ZZ (show Wd w2 (.slice P2 p2 c2) (wholeN x.num.natAbs x.den false) by unfold wholeN;rw [if_neg (by simp)];exact H3.out)
 have hS3:=HS.out _ (al HW2.out hx3.out);have e4:=ZZ (ac w2);have hx4:=ZZ (al hx3.out e4.out)
 go_region_held3 (fun W=>W.cell? ⟨g0,0,none⟩=some (.bool b1)∧W.cell? ⟨g0,1,none⟩=some (.slice A k ca)∧W.cell? ⟨g0,2,none⟩=some (.slice B l cb)) (first
   | exact HS.out _ (ao (al HW2.out hx6.out) Hsz1.out _ _ _)
   | exact HS.out _ (al HW2.out hx6.out)
   | exact HS.out _ (al HW2.out hx5.out)
   | exact HS.out _ (al HW2.out hx4.out))
  (first
   |(have _q:=hx5
     go_at_call 103
     refine(reduced_c _ _ _ _ _ _ (FQ.out.mono (al e4.out e5.out)) H5.out S3.out (sm_small 1 (by decide)) (by decide)).mono ?_;clear _q;rintro e w6 ⟨vv,rfl,h6,k6⟩;obtain⟨b6,P6,p6,c6,Q6,q6,d6,rfl⟩:=h6.form2;have H6:=ZZ h6;clear h6;have e6:=ZZ k6;have hx6:=ZZ (al hx5.out k6);clear k6;have hz:=HZ.out _ hx6.out;obtain⟨z0,z1,z2,f0,f1,f2⟩:=ai hz;have Hz:=ZZ hz;clear hz)
   |(have _q:=hx4
     go_at_call 105
     refine(one_c _).mono ?_;clear _q;rintro e w5 ⟨vv,rfl,h5,k5⟩;obtain⟨P5,p5,c5,rfl⟩:=h5.form';have H5:=ZZ h5;clear h5;have e5:=ZZ k5;have hx5:=ZZ (al hx4.out k5);clear k5))
 go_wp2_with fail;refine bodyPost_ret (v:=.agg #[.bool b6,.slice P6 p6 c6,.slice Q6 q6 d6]) (by simp [results,Tryz.f129];go_simp) rfl ?_
 refine⟨_,rfl,?_,ao (al hww.out hx6.out) Hsz.out _ _ _⟩;unfold wholeQ;rw [Hbx.out];exact H6.out.put3 Hz.out
theorem whole_zero (M:Nat) (hM:M≤1099511627776) (vx:Value) (x:Rat) (w:World) (hx:Nm w vx x) (bx:Bq M x) (hr:x.num.natAbs % x.den=0):Calls Tryz.prog 129 #[vx,.bool true] w fun e w'=>∃v,e=.returned v∧Nm w' v (wholeQ x true)∧Ext w w':=by
 have S1:=ZZ (sm_of_lt bx.1 (by omega));have S2:=ZZ (sm_of_lt bx.2 (by omega));have S3:=ZZ (sm_of_lt (wholeN_lt (d:=x.den) (away:=true) bx.1) (by omega));have S4:=ZZ (sm_of_lt (Nat.lt_of_le_of_lt (Nat.div_le_self x.num.natAbs x.den) bx.1) (by omega));have D0:=ZZ x.den_pos;have HR:=ZZ hr;clear hr;clear bx hM;obtain⟨A,k,ca,B,l,cb,rfl,hxn,hxd,hkx,hlx⟩:=hx.form;have Hx:=ZZ hx;have Hxn:=ZZ hxn;have Hkx:=ZZ hkx;have Hlx:=ZZ hlx;clear hx hxn hxd hkx hlx;generalize hbx:decide (x.num<0)=b1 at *;have Hbx:=ZZ hbx;clear hbx;obtain⟨hS,hZ,hw1,hw2,hsz,hsz1⟩:=setup1 w (.bool b1) (.slice A k ca) (.slice B l cb);have HS:=ZZ hS;have HZ:=ZZ hZ;have HW1:=ZZ hw1;have HW2:=ZZ hw2;have Hsz1:=ZZ hsz1;clear hS hZ hw1 hw2 hsz hsz1
 go_enter Tryz.func129,Tryz.ntmps129
 go_wp2_with fail;generalize World.alloc (World.alloc w (.cells #[.bool b1,.slice A k ca,.slice B l cb] _)) _=W2 at *
 generalize World.alloc w (.cells #[.bool b1,.slice A k ca,.slice B l cb] _)=W1 at *;generalize hg0:w.heap.size=g0 at *;have Hsz:=ZZ (show w.heap.size≤g0+1 by omega);clear hg0;have hww:=ZZ (al HW1.out HW2.out);have hx0:=ZZ (ad W2);have hS0:=HS.out _ (al HW2.out hx0.out);have e1:=ZZ (ac W2);have hx1:=ZZ (al hx0.out e1.out)
 go_region_held3 (fun W=>W.cell? ⟨g0,0,none⟩=some (.bool b1)∧W.cell? ⟨g0,1,none⟩=some (.slice A k ca)∧W.cell? ⟨g0,2,none⟩=some (.slice B l cb)) (first
   | exact HS.out _ (al HW2.out hx3.out)
   | exact HS.out _ (al HW2.out hx2.out)
   | exact HS.out _ (al HW2.out hx1.out))
  (first
   |(have _q:=hx2
     go_at_call 149
     refine(div_c _ _ _ _ _ (Hxn.out.mono (al hww.out hx2.out)) H2.out S1.out S2.out D0.out).mono ?_;clear _q;rintro e w2 ⟨qv,rv,rfl,h3,hr,k3⟩;obtain⟨R,r,rc,rfl⟩:=hr.form';have HRR:=ZZ hr;clear hr;obtain⟨P2,p2,c2,rfl⟩:=h3.form';have H3:=ZZ h3;clear h3;have e3:=ZZ k3;have hx3:=ZZ (al hx2.out k3);clear k3)
   |(have _q:=hx1
     go_at_call 115
     refine(under_c _ _ _ (Hx.out.mono (al hww.out hx1.out))).mono ?_;clear _q;rintro e w1 ⟨vv,rfl,h2,k2⟩;obtain⟨P1,p1,c1,rfl⟩:=h2.form';have H2:=ZZ h2;clear h2;have e2:=ZZ k2;have hx2:=ZZ (al hx1.out k2);clear k2))
 obtain rfl:r=0:=by have h:=HRR.out.len;rw [HR.out,dg_zero] at h;exact h.symm
 go_wp2_with fail;have FQ:=ZZ (show Wd w2 (.slice P2 p2 c2) (wholeN x.num.natAbs x.den true) by unfold wholeN;rw [if_neg (fun h=>h.2 HR.out)];exact H3.out)
 have hS3:=HS.out _ (al HW2.out hx3.out);have e4:=ZZ (ac w2);have hx4:=ZZ (al hx3.out e4.out)
 go_region_held3 (fun W=>W.cell? ⟨g0,0,none⟩=some (.bool b1)∧W.cell? ⟨g0,1,none⟩=some (.slice A k ca)∧W.cell? ⟨g0,2,none⟩=some (.slice B l cb)) (first
   | exact HS.out _ (ao (al HW2.out hx6.out) Hsz1.out _ _ _)
   | exact HS.out _ (al HW2.out hx6.out)
   | exact HS.out _ (al HW2.out hx5.out)
   | exact HS.out _ (al HW2.out hx4.out))
  (first
   |(have _q:=hx5
     go_at_call 103
     refine(reduced_c _ _ _ _ _ _ (FQ.out.mono (al e4.out e5.out)) H5.out S3.out (sm_small 1 (by decide)) (by decide)).mono ?_;clear _q;rintro e w6 ⟨vv,rfl,h6,k6⟩;obtain⟨b6,P6,p6,c6,Q6,q6,d6,rfl⟩:=h6.form2;have H6:=ZZ h6;clear h6;have e6:=ZZ k6;have hx6:=ZZ (al hx5.out k6);clear k6;have hz:=HZ.out _ hx6.out;obtain⟨z0,z1,z2,f0,f1,f2⟩:=ai hz;have Hz:=ZZ hz;clear hz)
   |(have _q:=hx4
     go_at_call 105
     refine(one_c _).mono ?_;clear _q;rintro e w5 ⟨vv,rfl,h5,k5⟩;obtain⟨P5,p5,c5,rfl⟩:=h5.form';have H5:=ZZ h5;clear h5;have e5:=ZZ k5;have hx5:=ZZ (al hx4.out k5);clear k5))
 go_wp2_with fail;refine bodyPost_ret (v:=.agg #[.bool b6,.slice P6 p6 c6,.slice Q6 q6 d6]) (by simp [results,Tryz.f129];go_simp) rfl ?_
 refine⟨_,rfl,?_,ao (al hww.out hx6.out) Hsz.out _ _ _⟩;unfold wholeQ;rw [Hbx.out];exact H6.out.put3 Hz.out
theorem whole_far (M:Nat) (hM:M≤1099511627776) (vx:Value) (x:Rat) (w:World) (hx:Nm w vx x) (bx:Bq M x) (hr:¬ x.num.natAbs % x.den=0):Calls Tryz.prog 129 #[vx,.bool true] w fun e w'=>∃v,e=.returned v∧Nm w' v (wholeQ x true)∧Ext w w':=by
 have S1:=ZZ (sm_of_lt bx.1 (by omega));have S2:=ZZ (sm_of_lt bx.2 (by omega));have S3:=ZZ (sm_of_lt (wholeN_lt (d:=x.den) (away:=true) bx.1) (by omega));have S4:=ZZ (sm_of_lt (Nat.lt_of_le_of_lt (Nat.div_le_self x.num.natAbs x.den) bx.1) (by omega));have D0:=ZZ x.den_pos;have HR:=ZZ hr;clear hr;clear bx hM;obtain⟨A,k,ca,B,l,cb,rfl,hxn,hxd,hkx,hlx⟩:=hx.form;have Hx:=ZZ hx;have Hxn:=ZZ hxn;have Hkx:=ZZ hkx;have Hlx:=ZZ hlx;clear hx hxn hxd hkx hlx;generalize hbx:decide (x.num<0)=b1 at *;have Hbx:=ZZ hbx;clear hbx;obtain⟨hS,hZ,hw1,hw2,hsz,hsz1⟩:=setup1 w (.bool b1) (.slice A k ca) (.slice B l cb);have HS:=ZZ hS;have HZ:=ZZ hZ;have HW1:=ZZ hw1;have HW2:=ZZ hw2;have Hsz1:=ZZ hsz1;clear hS hZ hw1 hw2 hsz hsz1
 go_enter Tryz.func129,Tryz.ntmps129
 go_wp2_with fail;generalize World.alloc (World.alloc w (.cells #[.bool b1,.slice A k ca,.slice B l cb] _)) _=W2 at *
 generalize World.alloc w (.cells #[.bool b1,.slice A k ca,.slice B l cb] _)=W1 at *;generalize hg0:w.heap.size=g0 at *;have Hsz:=ZZ (show w.heap.size≤g0+1 by omega);clear hg0;have hww:=ZZ (al HW1.out HW2.out);have hx0:=ZZ (ad W2);have hS0:=HS.out _ (al HW2.out hx0.out);have e1:=ZZ (ac W2);have hx1:=ZZ (al hx0.out e1.out)
 go_region_held3 (fun W=>W.cell? ⟨g0,0,none⟩=some (.bool b1)∧W.cell? ⟨g0,1,none⟩=some (.slice A k ca)∧W.cell? ⟨g0,2,none⟩=some (.slice B l cb)) (first
   | exact HS.out _ (al HW2.out hx3.out)
   | exact HS.out _ (al HW2.out hx2.out)
   | exact HS.out _ (al HW2.out hx1.out))
  (first
   |(have _q:=hx2
     go_at_call 149
     refine(div_c _ _ _ _ _ (Hxn.out.mono (al hww.out hx2.out)) H2.out S1.out S2.out D0.out).mono ?_;clear _q;rintro e w2 ⟨qv,rv,rfl,h3,hr,k3⟩;obtain⟨R,r,rc,rfl⟩:=hr.form';have HRR:=ZZ hr;clear hr;obtain⟨P2,p2,c2,rfl⟩:=h3.form';have H3:=ZZ h3;clear h3;have e3:=ZZ k3;have hx3:=ZZ (al hx2.out k3);clear k3)
   |(have _q:=hx1
     go_at_call 115
     refine(under_c _ _ _ (Hx.out.mono (al hww.out hx1.out))).mono ?_;clear _q;rintro e w1 ⟨vv,rfl,h2,k2⟩;obtain⟨P1,p1,c1,rfl⟩:=h2.form';have H2:=ZZ h2;clear h2;have e2:=ZZ k2;have hx2:=ZZ (al hx1.out k2);clear k2))
 have t3:(0:Int)<(r:Int):=by
  have h:=HRR.out.len;have h2:¬(dg (x.num.natAbs % x.den)).length=0:=fun e=>HR.out (dg_len_zero.1 e);omega
 go_wp2_with fail;refine(one_c _).mono ?_
 rintro e w3 ⟨v3,rfl,h3,k3⟩;obtain⟨P3,p3,c3,rfl⟩:=h3.form';have G3:=ZZ h3;have e4:=ZZ k3;have hx4:=ZZ (al hx3.out k3);clear h3 k3;go_wp2_with fail;refine(add_c _ _ _ _ _ (H3.out.mono e4.out) G3.out S4.out (sm_small 1 (by decide))).mono ?_;rintro e w4 ⟨v4,rfl,h4,k4⟩;obtain⟨P4,p4,c4,rfl⟩:=h4.form';have FQ:=ZZ (show Wd w4 (.slice P4 p4 c4) (wholeN x.num.natAbs x.den true) by unfold wholeN;rw [if_pos ⟨rfl,HR.out⟩];exact h4);have e5:=ZZ k4;have hx5:=ZZ (al hx4.out k4);clear h4 k4;go_wp2_with fail;have hS5:=HS.out _ (al HW2.out hx5.out);have e6:=ZZ (ac w4);have hx6:=ZZ (al hx5.out e6.out)
 go_region_held3 (fun W=>W.cell? ⟨g0,0,none⟩=some (.bool b1)∧W.cell? ⟨g0,1,none⟩=some (.slice A k ca)∧W.cell? ⟨g0,2,none⟩=some (.slice B l cb)) (first
   | exact HS.out _ (ao (al HW2.out hx8.out) Hsz1.out _ _ _)
   | exact HS.out _ (al HW2.out hx8.out)
   | exact HS.out _ (al HW2.out hx7.out)
   | exact HS.out _ (al HW2.out hx6.out))
  (first
   |(have _q:=hx7
     go_at_call 103
     refine(reduced_c _ _ _ _ _ _ (FQ.out.mono (al e6.out e7.out)) H7.out S3.out (sm_small 1 (by decide)) (by decide)).mono ?_;clear _q;rintro e w6 ⟨vv,rfl,h8,k8⟩;obtain⟨b6,P6,p6,c6,Q6,q6,d6,rfl⟩:=h8.form2;have H8:=ZZ h8;clear h8;have e8:=ZZ k8;have hx8:=ZZ (al hx7.out k8);clear k8;have hz:=HZ.out _ hx8.out;obtain⟨z0,z1,z2,f0,f1,f2⟩:=ai hz;have Hz:=ZZ hz;clear hz)
   |(have _q:=hx6
     go_at_call 105
     refine(one_c _).mono ?_;clear _q;rintro e w5 ⟨vv,rfl,h7,k7⟩;obtain⟨P5,p5,c5,rfl⟩:=h7.form';have H7:=ZZ h7;clear h7;have e7:=ZZ k7;have hx7:=ZZ (al hx6.out k7);clear k7))
 go_wp2_with fail;refine bodyPost_ret (v:=.agg #[.bool b6,.slice P6 p6 c6,.slice Q6 q6 d6]) (by simp [results,Tryz.f129];go_simp) rfl ?_
 refine⟨_,rfl,?_,ao (al hww.out hx8.out) Hsz.out _ _ _⟩;unfold wholeQ;rw [Hbx.out];exact H8.out.put3 Hz.out
theorem whole_q (M:Nat) (hM:M≤1099511627776) (away:Bool) (vx:Value) (x:Rat) (w:World) (hx:Nm w vx x) (bx:Bq M x):Calls Tryz.prog 129 #[vx,.bool away] w fun e w'=>∃v,e=.returned v∧Nm w' v (wholeQ x away)∧Ext w w':=by
 cases away
 ·exact whole_near M hM vx x w hx bx
 ·by_cases h:x.num.natAbs % x.den=0
  ·exact whole_zero M hM vx x w hx bx h
  ·exact whole_far M hM vx x w hx bx h
end Go.Proofs.YtpgdefgdboijlaaGreatDoor
