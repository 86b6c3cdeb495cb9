/- Numbers: quotients, comparisons. -/
import Derived.Test.YtkoaakefgacokaaGreatDoorGRat
import Derived.Test.YtkoaakefgacokaaGreatDoorGNe
set_option linter.unusedVariables false
set_option maxRecDepth 100000
set_option maxHeartbeats 64000000
namespace Go.Proofs.YtkoaakefgacokaaGreatDoor
open Go.RowKit
theorem wrap_small (z:Int) (h1:-1≤z) (h2:z≤1):IntKind.i64.wrap z=z:=IntWalk.i64_in _ (by omega)
theorem div_q (M:Nat) (hM:M≤1099511627776) (vx vy:Value) (x y:Rat) (w:World) (hx:Nm w vx x) (hy:Nm w vy y) (bx:Bq M x) (by_:Bq M y) (h0:y≠0):Calls Tryz.prog 122 #[vx,vy] w fun e w'=>∃v,e=.returned (.tuple #[v,.int .i64 0])∧Nm w' v (x / y)∧Ext w w':=by
 have H0:=ZZ h0;clear h0;obtain⟨A,k,ca,B,l,cb,rfl,hxn,hxd,hkx,hlx⟩:=hx.form;obtain⟨C,m,cc,D,n,cd,rfl,hyn,hyd,hky,hly⟩:=hy.form;obtain⟨s1,s2,s3,s4,s5,s6⟩:=Bq.sm2 bx by_ hM;obtain⟨s7,s8⟩:=bx.sm hM;obtain⟨s9,s10⟩:=by_.sm hM;have D0:=ZZ (Nat.mul_pos x.den_pos y.den_pos);have Hx:=ZZ hx;have Hy:=ZZ hy;have Hxn:=ZZ hxn;have Hyn:=ZZ hyn;have Hkx:=ZZ hkx;have Hlx:=ZZ hlx;have Hky:=ZZ hky;have Hly:=ZZ hly;have S1:=ZZ s1;have S2:=ZZ s2;have S3:=ZZ s3;have S4:=ZZ s4;have S5:=ZZ s5;have S6:=ZZ s6;have S7:=ZZ s7;have S8:=ZZ s8;have S9:=ZZ s9;have S10:=ZZ s10;clear hx hy hxn hxd hyn hyd hkx hlx hky hly s1 s2 s3 s4 s5 s6 s7 s8 s9 s10 bx by_ hM;generalize hbx:decide (x.num<0)=b1 at *;generalize hby:decide (y.num<0)=b2 at *;have Hbx:=ZZ hbx
 have Hby:=ZZ hby
 clear hbx hby
 have hm:¬ m=0:=fun h=>H0.out (Hky.out.1 h);have t1:((m:Int) == 0)=false:=by simp;omega
 have D1:=ZZ (show 0<x.den*y.num.natAbs from Nat.mul_pos x.den_pos (Nat.pos_of_ne_zero (by rw [Ne,Int.natAbs_eq_zero,Rat.num_eq_zero];exact H0.out)));clear hm;obtain⟨hS,hZ,hw1,hw2,hsz,hsz1⟩:=setup2 w (.bool b1) (.slice A k ca) (.slice B l cb) (.bool b2) (.slice C m cc) (.slice D n cd);have HS:=ZZ hS;have HZ:=ZZ hZ;have HW1:=ZZ hw1;have HW2:=ZZ hw2;have Hsz1:=ZZ hsz1;clear hS hZ hw1 hw2 hsz hsz1
 go_enter Tryz.func122,Tryz.ntmps122
 go_wp2_with fail;generalize World.alloc (World.alloc (World.alloc w (.cells #[.bool b1,.slice A k ca,.slice B l cb] _)) (.cells #[.bool b2,.slice C m cc,.slice D n cd] _)) _=W2 at *
 generalize World.alloc (World.alloc w (.cells #[.bool b1,.slice A k ca,.slice B l cb] _)) (.cells #[.bool b2,.slice C m cc,.slice D n cd] _)=W1 at *;generalize hg0:w.heap.size=g0 at *;have Hsz:=ZZ (show w.heap.size≤g0+1+1 by omega);clear hg0;have hww:=ZZ (al HW1.out HW2.out);have hx0:=ZZ (ae W2);have hS0:=HS.out _ (al HW2.out hx0.out);have e1:=ZZ (ac W2);have hx1:=ZZ (al hx0.out e1.out)
 go_region_held3 (fun W=>W.cell? ⟨g0,0,none⟩=some (.bool b1)∧W.cell? ⟨g0,1,none⟩=some (.slice A k ca)∧W.cell? ⟨g0,2,none⟩=some (.slice B l cb)∧W.cell? ⟨g0+1,0,none⟩=some (.bool b2)∧W.cell? ⟨g0+1,1,none⟩=some (.slice C m cc)∧W.cell? ⟨g0+1,2,none⟩=some (.slice D n cd))
  (first
   | exact HS.out _ (am (al HW2.out hx6.out) Hsz1.out _ _ _)
   | exact HS.out _ (al HW2.out hx6.out)
   | exact HS.out _ (al HW2.out hx5.out)
   | exact HS.out _ (al HW2.out hx4.out)
   | exact HS.out _ (al HW2.out hx3.out)
   | exact HS.out _ (al HW2.out hx2.out)
   | exact HS.out _ (al HW2.out hx1.out))
  (first
   |(have _q:=hx5
     go_at_call 40
     refine(reduced_c _ _ _ _ _ _ (H3.out.mono (al e4.out e5.out)) H5.out S3.out S5.out D1.out).mono ?_;clear _q;rintro e w6 ⟨vv,rfl,h6,k6⟩;obtain⟨P6,p6,c6,Q6,q6,d6,he,-⟩:=h6.form;subst he;have H6:=ZZ h6;clear h6;have e6:=ZZ k6;have hx6:=ZZ (al hx5.out k6);clear k6;have hz:=HZ.out _ hx6.out;obtain⟨z0,z1,z2,f0,f1,f2⟩:=aj hz;have Hz:=ZZ hz;clear hz)
   |(have _q:=hx4
     go_at_call 62
     refine(mul_c _ _ _ _ _ H4.out (Hyn.out.mono (al hww.out hx4.out)) S8.out S9.out).mono ?_;clear _q;rintro e w5 ⟨vv,rfl,h5,k5⟩;obtain⟨P5,p5,c5,rfl⟩:=h5.form';have H5:=ZZ h5;clear h5;have e5:=ZZ k5;have hx5:=ZZ (al hx4.out k5);clear k5)
   |(have _q:=hx3
     go_at_call 63
     refine(under_c _ _ _ (Hx.out.mono (al hww.out hx3.out))).mono ?_;clear _q;rintro e w4 ⟨vv,rfl,h4,k4⟩;obtain⟨P4,p4,c4,rfl⟩:=h4.form';have H4:=ZZ h4;clear h4;have e4:=ZZ k4;have hx4:=ZZ (al hx3.out k4);clear k4)
   |(have _q:=hx2
     go_at_call 62
     refine(mul_c _ _ _ _ _ (Hxn.out.mono (al hww.out hx2.out)) H2.out S7.out S10.out).mono ?_;clear _q;rintro e w3 ⟨vv,rfl,h3,k3⟩;obtain⟨P3,p3,c3,rfl⟩:=h3.form';have H3:=ZZ h3;clear h3;have e3:=ZZ k3;have hx3:=ZZ (al hx2.out k3);clear k3)
   |(have _q:=hx1
     go_at_call 63
     refine(under_c _ _ _ (Hy.out.mono (al hww.out hx1.out))).mono ?_;clear _q;rintro e w2 ⟨vv,rfl,h2,k2⟩;obtain⟨P2,p2,c2,rfl⟩:=h2.form';have H2:=ZZ h2;clear h2;have e2:=ZZ k2;have hx2:=ZZ (al hx1.out k2);clear k2))
 go_wp2_with fail;refine bodyPost_ret (v:=.tuple #[.agg #[.bool (decide ((rat (!(b1 == b2)) (x.num.natAbs*y.den) (x.den*y.num.natAbs)).num<0)),.slice P6 p6 c6,.slice Q6 q6 d6],.int .i64 0]) (by simp [results,Tryz.f122];go_simp) rfl ?_
 refine⟨_,rfl,?_,am (al hww.out hx6.out) Hsz.out _ _ _⟩;have hr:=div_parts x y H0.out;rw [Hbx.out,Hby.out] at hr;have hr':rat (!(b1 == b2)) (x.num.natAbs*y.den) (x.den*y.num.natAbs)=x / y:=hr;have h8:=H6.out.put3 Hz.out;rw [hr'] at h8 ⊢;exact h8
theorem sign_q' (vx:Value) (x:Rat) (w:World) (s:Int) (hs:x.num.sign=s) (hx:Nm w vx x):Calls Tryz.prog 20 #[vx] w fun e w'=>e=.returned (.int .i64 s)∧Ext w w':=by
 subst hs;exact sign_q vx x w hx
theorem cmp_q_diff (s t c:Int) (hcase:(s,t,c) ∈ [((-1:Int),(0:Int),(-1:Int)),(-1,1,-1),(0,-1,1),(0,1,-1),(1,-1,1),(1,0,1)]) (vx vy:Value) (x y:Rat) (w:World) (hx:Nm w vx x) (hy:Nm w vy y) (hs:x.num.sign=s) (ht:y.num.sign=t):Calls Tryz.prog 33 #[vx,vy] w fun e w'=>e=.returned (.int .i64 c)∧Ext w w':=by
 obtain⟨A,k,ca,B,l,cb,rfl,-,-,-,-⟩:=hx.form;obtain⟨C,m,cc,D,n,cd,rfl,-,-,-,-⟩:=hy.form;have Hx:=ZZ hx;have Hy:=ZZ hy;have Hs:=ZZ hs;have Ht:=ZZ ht;clear hx hy hs ht;generalize decide (x.num<0)=b1 at *;generalize decide (y.num<0)=b2 at *
 simp only [List.mem_cons,List.not_mem_nil,or_false,Prod.mk.injEq] at hcase
 rcases hcase with ⟨rfl,rfl,rfl⟩|⟨rfl,rfl,rfl⟩|⟨rfl,rfl,rfl⟩|⟨rfl,rfl,rfl⟩|⟨rfl,rfl,rfl⟩|⟨rfl,rfl,rfl⟩
 all_goals
  obtain⟨hS,hw1⟩:=setup2n w (.bool b1) (.slice A k ca) (.slice B l cb) (.bool b2) (.slice C m cc) (.slice D n cd);have HS:=ZZ hS;have hww:=ZZ hw1;clear hS hw1
  go_enter Tryz.func33,Tryz.ntmps33
  go_wp2_with fail;generalize World.alloc (World.alloc w (.cells #[.bool b1,.slice A k ca,.slice B l cb] _)) (.cells #[.bool b2,.slice C m cc,.slice D n cd] _)=W2 at *
  generalize w.heap.size=g0 at *;have HW2:=ZZ (ae W2);have hx0:=ZZ (ae W2);have hS0:=HS.out _ (al HW2.out hx0.out);have e1:=ZZ (ac W2);have hx1:=ZZ (al hx0.out e1.out)
  go_region_held3 (fun W=>W.cell? ⟨g0,0,none⟩=some (.bool b1)∧W.cell? ⟨g0,1,none⟩=some (.slice A k ca)∧W.cell? ⟨g0,2,none⟩=some (.slice B l cb)∧W.cell? ⟨g0+1,0,none⟩=some (.bool b2)∧W.cell? ⟨g0+1,1,none⟩=some (.slice C m cc)∧W.cell? ⟨g0+1,2,none⟩=some (.slice D n cd))
   (first
    | exact HS.out _ (al HW2.out hx3.out)
    | exact HS.out _ (al HW2.out hx2.out)
    | exact HS.out _ (al HW2.out hx1.out))
   (first
    |(have _q:=hx2
      go_at_call 20
      refine(sign_q' _ _ _ _ Ht.out (Hy.out.mono (al hww.out hx2.out))).mono ?_;clear _q;rintro e w2 ⟨rfl,k3⟩;have e3:=ZZ k3;have hx3:=ZZ (al hx2.out k3);clear k3)
    |(have _q:=hx1
      go_at_call 20
      refine(sign_q' _ _ _ _ Hs.out (Hx.out.mono (al hww.out hx1.out))).mono ?_;clear _q;rintro e w1 ⟨rfl,k2⟩;have e2:=ZZ k2;have hx2:=ZZ (al hx1.out k2);clear k2))
  go_wp2_with fail;go_ret
  exact⟨rfl,al hww.out hx3.out⟩
theorem cmp_q_same (M:Nat) (hM:M≤1099511627776) (s:Int) (hcase:s = -1∨s=0∨s=1) (vx vy:Value) (x y:Rat) (w:World) (hx:Nm w vx x) (hy:Nm w vy y) (bx:Bq M x) (by_:Bq M y) (hs:x.num.sign=s) (ht:y.num.sign=s):Calls Tryz.prog 33 #[vx,vy] w fun e w'=>∃c:Int,e=.returned (.int .i64 (s*max (-1) (min 1 c)))∧(c<0↔x.num.natAbs*y.den<y.num.natAbs*x.den)∧(0<c↔y.num.natAbs*x.den<x.num.natAbs*y.den)∧Ext w w':=by
 have Hs:=ZZ hs;have Ht:=ZZ ht;clear hs ht;obtain⟨A,k,ca,B,l,cb,rfl,hxn,hxd,hkx,hlx⟩:=hx.form;obtain⟨C,m,cc,D,n,cd,rfl,hyn,hyd,hky,hly⟩:=hy.form;obtain⟨s1,s2,s3,s4,s5,s6⟩:=Bq.sm2 bx by_ hM;obtain⟨s7,s8⟩:=bx.sm hM;obtain⟨s9,s10⟩:=by_.sm hM;have D0:=ZZ (Nat.mul_pos x.den_pos y.den_pos);have Hx:=ZZ hx;have Hy:=ZZ hy;have Hxn:=ZZ hxn;have Hyn:=ZZ hyn;have Hkx:=ZZ hkx;have Hlx:=ZZ hlx;have Hky:=ZZ hky;have Hly:=ZZ hly;have S1:=ZZ s1;have S2:=ZZ s2;have S3:=ZZ s3;have S4:=ZZ s4;have S5:=ZZ s5;have S6:=ZZ s6;have S7:=ZZ s7;have S8:=ZZ s8;have S9:=ZZ s9;have S10:=ZZ s10;clear hx hy hxn hxd hyn hyd hkx hlx hky hly s1 s2 s3 s4 s5 s6 s7 s8 s9 s10 bx by_ hM;generalize hbx:decide (x.num<0)=b1 at *;generalize hby:decide (y.num<0)=b2 at *;have Hbx:=ZZ hbx
 have Hby:=ZZ hby
 clear hbx hby
 rcases hcase with rfl|rfl|rfl
 all_goals
  obtain⟨hS,hw1⟩:=setup2n w (.bool b1) (.slice A k ca) (.slice B l cb) (.bool b2) (.slice C m cc) (.slice D n cd);have HS:=ZZ hS;have hww:=ZZ hw1;clear hS hw1
  go_enter Tryz.func33,Tryz.ntmps33
  go_wp2_with fail;generalize World.alloc (World.alloc w (.cells #[.bool b1,.slice A k ca,.slice B l cb] _)) (.cells #[.bool b2,.slice C m cc,.slice D n cd] _)=W2 at *
  generalize w.heap.size=g0 at *;have HW2:=ZZ (ae W2);have hx0:=ZZ (ae W2);have hS0:=HS.out _ (al HW2.out hx0.out);have e1:=ZZ (ac W2);have hx1:=ZZ (al hx0.out e1.out)
  go_region_held3 (fun W=>W.cell? ⟨g0,0,none⟩=some (.bool b1)∧W.cell? ⟨g0,1,none⟩=some (.slice A k ca)∧W.cell? ⟨g0,2,none⟩=some (.slice B l cb)∧W.cell? ⟨g0+1,0,none⟩=some (.bool b2)∧W.cell? ⟨g0+1,1,none⟩=some (.slice C m cc)∧W.cell? ⟨g0+1,2,none⟩=some (.slice D n cd))
   (first
    | exact HS.out _ (al HW2.out hx3.out)
    | exact HS.out _ (al HW2.out hx2.out)
    | exact HS.out _ (al HW2.out hx1.out))
   (first
    |(have _q:=hx2
      go_at_call 20
      refine(sign_q' _ _ _ _ Ht.out (Hy.out.mono (al hww.out hx2.out))).mono ?_;clear _q;rintro e w2 ⟨rfl,k3⟩;have e3:=ZZ k3;have hx3:=ZZ (al hx2.out k3);clear k3)
    |(have _q:=hx1
      go_at_call 20
      refine(sign_q' _ _ _ _ Hs.out (Hx.out.mono (al hww.out hx1.out))).mono ?_;clear _q;rintro e w1 ⟨rfl,k2⟩;have e2:=ZZ k2;have hx2:=ZZ (al hx1.out k2);clear k2))
  go_wp2_with fail;have hS3:=HS.out _ (al HW2.out hx3.out)
  have e4:=ZZ (ac w2);have hx4:=ZZ (al hx3.out e4.out)
  go_region_held3 (fun W=>W.cell? ⟨g0,0,none⟩=some (.bool b1)∧W.cell? ⟨g0,1,none⟩=some (.slice A k ca)∧W.cell? ⟨g0,2,none⟩=some (.slice B l cb)∧W.cell? ⟨g0+1,0,none⟩=some (.bool b2)∧W.cell? ⟨g0+1,1,none⟩=some (.slice C m cc)∧W.cell? ⟨g0+1,2,none⟩=some (.slice D n cd))
   (first
    | exact HS.out _ (al HW2.out hx9.out)
    | exact HS.out _ (al HW2.out hx8.out)
    | exact HS.out _ (al HW2.out hx7.out)
    | exact HS.out _ (al HW2.out hx6.out)
    | exact HS.out _ (al HW2.out hx5.out)
    | exact HS.out _ (al HW2.out hx4.out))
   (first
    |(have _q:=hx8
      go_at_call 65
      refine(cmp_c _ _ _ _ _ (H6.out.mono (al e7.out e8.out)) H8.out S3.out S4.out).mono ?_;clear _q;rintro e w7 ⟨⟨cq,rfl,hq1,hq2⟩,kq,rfl⟩;have Hq1:=ZZ hq1;have Hq2:=ZZ hq2;clear hq1 hq2;have k9:=av w6 kq;have e9:=ZZ k9;have hx9:=ZZ (al hx8.out k9);clear k9)
    |(have _q:=hx7
      go_at_call 62
      refine(mul_c _ _ _ _ _ (Hyn.out.mono (al hww.out hx7.out)) H7.out S9.out S8.out).mono ?_;clear _q;rintro e w6 ⟨vv,rfl,h8,k8⟩;obtain⟨P6,p6,c6,rfl⟩:=h8.form';have H8:=ZZ h8;clear h8;have e8:=ZZ k8;have hx8:=ZZ (al hx7.out k8);clear k8)
    |(have _q:=hx6
      go_at_call 63
      refine(under_c _ _ _ (Hx.out.mono (al hww.out hx6.out))).mono ?_;clear _q;rintro e w5 ⟨vv,rfl,h7,k7⟩;obtain⟨P5,p5,c5,rfl⟩:=h7.form';have H7:=ZZ h7;clear h7;have e7:=ZZ k7;have hx7:=ZZ (al hx6.out k7);clear k7)
    |(have _q:=hx5
      go_at_call 62
      refine(mul_c _ _ _ _ _ (Hxn.out.mono (al hww.out hx5.out)) H5.out S7.out S10.out).mono ?_;clear _q;rintro e w4 ⟨vv,rfl,h6,k6⟩;obtain⟨P4,p4,c4,rfl⟩:=h6.form';have H6:=ZZ h6;clear h6;have e6:=ZZ k6;have hx6:=ZZ (al hx5.out k6);clear k6)
    |(have _q:=hx4
      go_at_call 63
      refine(under_c _ _ _ (Hy.out.mono (al hww.out hx4.out))).mono ?_;clear _q;rintro e w3 ⟨vv,rfl,h5,k5⟩;obtain⟨P3,p3,c3,rfl⟩:=h5.form';have H5:=ZZ h5;clear h5;have e5:=ZZ k5;have hx5:=ZZ (al hx4.out k5);clear k5))
  go_wp2_with fail;go_ret
  refine⟨cq,?_,Hq1.out,Hq2.out,al hww.out hx9.out⟩
  first
   | exact ret_i (by rw [wrap_small _ (by omega) (by omega)];omega)
   | exact ret_i (by rw [wrap_small _ (by omega) (by omega),Int.zero_mul])
theorem sign_cases (q:Int):q.sign = -1∨q.sign=0∨q.sign=1:=by
 rcases Int.lt_trichotomy q 0 with h|h|h
 ·exact .inl (Int.sign_eq_neg_one_of_neg h)
 ·exact .inr (.inl (by rw [h];rfl))
 ·exact .inr (.inr (Int.sign_eq_one_of_pos h))
theorem cmp_q (M:Nat) (hM:M≤1099511627776) (vx vy:Value) (x y:Rat) (w:World) (hx:Nm w vx x) (hy:Nm w vy y) (bx:Bq M x) (by_:Bq M y):Calls Tryz.prog 33 #[vx,vy] w fun e w'=>e=.returned (.int .i64 (cmpQ x y))∧Ext w w':=by
 by_cases hs:x.num.sign=y.num.sign
 ·refine(cmp_q_same M hM x.num.sign (sign_cases _) vx vy x y w hx hy bx by_ rfl hs.symm).mono ?_
  rintro e w' ⟨c,rfl,h1,h2,h3⟩;exact⟨by rw [cmpQ_same x y c hs h1 h2],h3⟩
 ·rw [cmpQ_sign x y hs]
  refine cmp_q_diff x.num.sign y.num.sign _ ?_ vx vy x y w hx hy rfl rfl
  rcases sign_cases x.num with a|a|a <;> rcases sign_cases y.num with b|b|b <;> rw [a,b] at hs ⊢ <;> first|(exfalso;exact hs rfl)|decide
theorem Nm.form2 {w:World} {v:Value} {q:Rat} (h:Nm w v q):∃s A k c B l d,v=.agg #[.bool s,.slice A k c,.slice B l d]:=by
 obtain⟨A,k,c,B,l,d,e,-⟩:=h.form;exact⟨_,A,k,c,B,l,d,e⟩
theorem sub_q (M:Nat) (hM:M≤1099511627776) (vx vy:Value) (x y:Rat) (w:World) (hx:Nm w vx x) (hy:Nm w vy y) (bx:Bq M x) (by_:Bq M y):Calls Tryz.prog 85 #[vx,vy] w fun e w'=>∃v,e=.returned v∧Nm w' v (x - y)∧Ext w w':=by
 obtain⟨A,k,ca,B,l,cb,rfl,hxn,hxd,hkx,hlx⟩:=hx.form;obtain⟨C,m,cc,D,n,cd,rfl,hyn,hyd,hky,hly⟩:=hy.form;have Hx:=ZZ hx;have Hy:=ZZ hy;have BX:=ZZ bx;have BY:=ZZ by_.neg;have HM:=ZZ hM;clear hx hy hxn hxd hyn hyd hkx hlx hky hly bx by_ hM;generalize hbx:decide (x.num<0)=b1 at *;generalize hby:decide (y.num<0)=b2 at *;have Hbx:=ZZ hbx
 have Hby:=ZZ hby
 clear hbx hby
 obtain⟨hS,hZ,hw1,hw2,hsz,hsz1⟩:=setup2 w (.bool b1) (.slice A k ca) (.slice B l cb) (.bool b2) (.slice C m cc) (.slice D n cd);have HS:=ZZ hS;have HZ:=ZZ hZ;have HW1:=ZZ hw1;have HW2:=ZZ hw2;have Hsz1:=ZZ hsz1;clear hS hZ hw1 hw2 hsz hsz1
 go_enter Tryz.func85,Tryz.ntmps85
 go_wp2_with fail;generalize World.alloc (World.alloc (World.alloc w (.cells #[.bool b1,.slice A k ca,.slice B l cb] _)) (.cells #[.bool b2,.slice C m cc,.slice D n cd] _)) _=W2 at *
 generalize World.alloc (World.alloc w (.cells #[.bool b1,.slice A k ca,.slice B l cb] _)) (.cells #[.bool b2,.slice C m cc,.slice D n cd] _)=W1 at *;generalize hg0:w.heap.size=g0 at *;have Hsz:=ZZ (show w.heap.size≤g0+1+1 by omega);clear hg0;have hww:=ZZ (al HW1.out HW2.out);have hx0:=ZZ (ae W2);have hS0:=HS.out _ (al HW2.out hx0.out);have e1:=ZZ (ac W2);have hx1:=ZZ (al hx0.out e1.out)
 go_region_held3 (fun W=>W.cell? ⟨g0,0,none⟩=some (.bool b1)∧W.cell? ⟨g0,1,none⟩=some (.slice A k ca)∧W.cell? ⟨g0,2,none⟩=some (.slice B l cb)∧W.cell? ⟨g0+1,0,none⟩=some (.bool b2)∧W.cell? ⟨g0+1,1,none⟩=some (.slice C m cc)∧W.cell? ⟨g0+1,2,none⟩=some (.slice D n cd))
  (first
   | exact HS.out _ (am (al HW2.out hx3.out) Hsz1.out _ _ _)
   | exact HS.out _ (al HW2.out hx3.out)
   | exact HS.out _ (al HW2.out hx2.out)
   | exact HS.out _ (al HW2.out hx1.out))
  (first
   |(have _q:=hx2
     go_at_call 21
     refine(add_q M HM.out _ _ _ _ _ (Hx.out.mono (al hww.out hx2.out)) H2.out BX.out BY.out).mono ?_;clear _q;rintro e w2 ⟨vv,rfl,h3,k3⟩;obtain⟨b12,P12,p12,c12,Q12,q12,d12,rfl⟩:=h3.form2;have H3:=ZZ h3;clear h3;have e3:=ZZ k3;have hx3:=ZZ (al hx2.out k3);clear k3;have hz:=HZ.out _ hx3.out;obtain⟨z0,z1,z2,f0,f1,f2⟩:=aj hz;have Hz:=ZZ hz;clear hz)
   |(have _q:=hx1
     go_at_call 11
     refine(neg_q _ _ _ (Hy.out.mono (al hww.out hx1.out))).mono ?_;clear _q;rintro e w1 ⟨vv,rfl,h2,k2⟩;obtain⟨b11,P11,p11,c11,Q11,q11,d11,rfl⟩:=h2.form2;have H2:=ZZ h2;clear h2;have e2:=ZZ k2;have hx2:=ZZ (al hx1.out k2);clear k2))
 go_wp2_with fail;refine bodyPost_ret (v:=.agg #[.bool b12,.slice P12 p12 c12,.slice Q12 q12 d12]) (by simp [results,Tryz.f85];go_simp) rfl ?_
 refine⟨_,rfl,?_,am (al hww.out hx3.out) Hsz.out _ _ _⟩;rw [Rat.sub_eq_add_neg];exact H3.out.put3 Hz.out
theorem cmpQ_one (x y:Rat):-1≤cmpQ x y∧cmpQ x y≤1:=by
 unfold cmpQ
 rcases sign_cases (x.num*y.den - y.num*x.den) with h|h|h <;> rw [h] <;> omega
def aq (x y:Rat):Rat:=if y<x then y else x
theorem min_q (M:Nat) (hM:M≤1099511627776) (vx vy:Value) (x y:Rat) (w:World) (hx:Nm w vx x) (hy:Nm w vy y) (bx:Bq M x) (by_:Bq M y):Calls Tryz.prog 77 #[vx,vy] w fun e w'=>∃v,e=.returned v∧Nm w' v (aq x y)∧Ext w w':=by
 obtain⟨A,k,ca,B,l,cb,rfl,hxn,hxd,hkx,hlx⟩:=hx.form;obtain⟨C,m,cc,D,n,cd,rfl,hyn,hyd,hky,hly⟩:=hy.form;have Hx:=ZZ hx;have Hy:=ZZ hy;have BX:=ZZ bx;have BY:=ZZ by_;have HM:=ZZ hM;clear hx hy hxn hxd hyn hyd hkx hlx hky hly bx by_ hM;generalize hbx:decide (x.num<0)=b1 at *;generalize hby:decide (y.num<0)=b2 at *;have Hbx:=ZZ hbx
 have Hby:=ZZ hby
 clear hbx hby
 obtain⟨hS,hZ,hw1,hw2,hsz,hsz1⟩:=setup2 w (.bool b1) (.slice A k ca) (.slice B l cb) (.bool b2) (.slice C m cc) (.slice D n cd);have HS:=ZZ hS;have HZ:=ZZ hZ;have HW1:=ZZ hw1;have HW2:=ZZ hw2;have Hsz1:=ZZ hsz1;clear hS hZ hw1 hw2 hsz hsz1
 go_enter Tryz.func77,Tryz.ntmps77
 go_wp2_with fail;generalize World.alloc (World.alloc (World.alloc w (.cells #[.bool b1,.slice A k ca,.slice B l cb] _)) (.cells #[.bool b2,.slice C m cc,.slice D n cd] _)) _=W2 at *
 generalize World.alloc (World.alloc w (.cells #[.bool b1,.slice A k ca,.slice B l cb] _)) (.cells #[.bool b2,.slice C m cc,.slice D n cd] _)=W1 at *;generalize hg0:w.heap.size=g0 at *;have Hsz:=ZZ (show w.heap.size≤g0+1+1 by omega);clear hg0;have hww:=ZZ (al HW1.out HW2.out);have hs:=HS.out W2 HW2.out;refine(cmp_q M HM.out _ _ _ _ _ (Hy.out.mono hww.out) (Hx.out.mono hww.out) BY.out BX.out).mono ?_;rintro e w3 ⟨rfl,k3⟩;have hz:=HZ.out _ k3;obtain⟨z0,z1,z2,f0,f1,f2⟩:=aj hz;have Hz:=ZZ hz;obtain⟨o0,o1,o2,o3,o4,o5⟩:=HS.out _ (al HW2.out k3);have K3:=ZZ k3;clear hz k3 hs;generalize hc:cmpQ y x=c at *;have Hc:=ZZ hc;clear hc
 rcases(show c<0∨0≤c by omega) with h|h
 ·go_wp2_with fail
  have hcn:y<x:=by have h1:=Hc.out;have h2:=cmpQ_neg y x;have h3:=cmpQ_one y x;rw [h1] at h2 h3;exact h2.1 (by omega)
  refine bodyPost_ret (v:=.agg #[.bool b2,.slice C m cc,.slice D n cd]) (by simp [results,Tryz.f77];go_simp) rfl ?_;refine⟨_,rfl,?_,am (al hww.out K3.out) Hsz.out _ _ _⟩;rw [show aq x y=y from if_pos hcn];exact(Hy.out.mono (al hww.out K3.out)).put3 Hz.out
 ·go_wp2_with fail
  have hcn:¬(y<x):=fun hh=>by have h1:=Hc.out;have h2:=(cmpQ_neg y x).2 hh;omega
  refine bodyPost_ret (v:=.agg #[.bool b1,.slice A k ca,.slice B l cb]) (by simp [results,Tryz.f77];go_simp) rfl ?_;refine⟨_,rfl,?_,am (al hww.out K3.out) Hsz.out _ _ _⟩;rw [show aq x y=x from if_neg hcn];exact(Hx.out.mono (al hww.out K3.out)).put3 Hz.out
def ar (x y:Rat):Rat:=if x<y then y else x
theorem max_q (M:Nat) (hM:M≤1099511627776) (vx vy:Value) (x y:Rat) (w:World) (hx:Nm w vx x) (hy:Nm w vy y) (bx:Bq M x) (by_:Bq M y):Calls Tryz.prog 78 #[vx,vy] w fun e w'=>∃v,e=.returned v∧Nm w' v (ar x y)∧Ext w w':=by
 obtain⟨A,k,ca,B,l,cb,rfl,hxn,hxd,hkx,hlx⟩:=hx.form;obtain⟨C,m,cc,D,n,cd,rfl,hyn,hyd,hky,hly⟩:=hy.form;have Hx:=ZZ hx;have Hy:=ZZ hy;have BX:=ZZ bx;have BY:=ZZ by_;have HM:=ZZ hM;clear hx hy hxn hxd hyn hyd hkx hlx hky hly bx by_ hM;generalize hbx:decide (x.num<0)=b1 at *;generalize hby:decide (y.num<0)=b2 at *;have Hbx:=ZZ hbx
 have Hby:=ZZ hby
 clear hbx hby
 obtain⟨hS,hZ,hw1,hw2,hsz,hsz1⟩:=setup2 w (.bool b1) (.slice A k ca) (.slice B l cb) (.bool b2) (.slice C m cc) (.slice D n cd);have HS:=ZZ hS;have HZ:=ZZ hZ;have HW1:=ZZ hw1;have HW2:=ZZ hw2;have Hsz1:=ZZ hsz1;clear hS hZ hw1 hw2 hsz hsz1
 go_enter Tryz.func78,Tryz.ntmps78
 go_wp2_with fail;generalize World.alloc (World.alloc (World.alloc w (.cells #[.bool b1,.slice A k ca,.slice B l cb] _)) (.cells #[.bool b2,.slice C m cc,.slice D n cd] _)) _=W2 at *
 generalize World.alloc (World.alloc w (.cells #[.bool b1,.slice A k ca,.slice B l cb] _)) (.cells #[.bool b2,.slice C m cc,.slice D n cd] _)=W1 at *;generalize hg0:w.heap.size=g0 at *;have Hsz:=ZZ (show w.heap.size≤g0+1+1 by omega);clear hg0;have hww:=ZZ (al HW1.out HW2.out);have hs:=HS.out W2 HW2.out;refine(cmp_q M HM.out _ _ _ _ _ (Hy.out.mono hww.out) (Hx.out.mono hww.out) BY.out BX.out).mono ?_;rintro e w3 ⟨rfl,k3⟩;have hz:=HZ.out _ k3;obtain⟨z0,z1,z2,f0,f1,f2⟩:=aj hz;have Hz:=ZZ hz;obtain⟨o0,o1,o2,o3,o4,o5⟩:=HS.out _ (al HW2.out k3);have K3:=ZZ k3;clear hz k3 hs;generalize hc:cmpQ y x=c at *;have Hc:=ZZ hc;clear hc
 rcases(show 0<c∨c≤0 by omega) with h|h
 ·go_wp2_with fail
  have hcn:x<y:=by have h1:=Hc.out;have h2:=cmpQ_pos y x;have h3:=cmpQ_one y x;rw [h1] at h2 h3;exact h2.1 (by omega)
  refine bodyPost_ret (v:=.agg #[.bool b2,.slice C m cc,.slice D n cd]) (by simp [results,Tryz.f78];go_simp) rfl ?_;refine⟨_,rfl,?_,am (al hww.out K3.out) Hsz.out _ _ _⟩;rw [show ar x y=y from if_pos hcn];exact(Hy.out.mono (al hww.out K3.out)).put3 Hz.out
 ·go_wp2_with fail
  have hcn:¬(x<y):=fun hh=>by have h1:=Hc.out;have h2:=(cmpQ_pos y x).2 hh;omega
  refine bodyPost_ret (v:=.agg #[.bool b1,.slice A k ca,.slice B l cb]) (by simp [results,Tryz.f78];go_simp) rfl ?_;refine⟨_,rfl,?_,am (al hww.out K3.out) Hsz.out _ _ _⟩;rw [show ar x y=x from if_neg hcn];exact(Hx.out.mono (al hww.out K3.out)).put3 Hz.out
theorem rat_int (z:Int):rat (decide (z<0)) z.natAbs 1=(z:Rat):=rat_self (z:Rat)
theorem setup0 (w:World):(∀W,Ext (w.alloc (.cells #[.bool false,.slice none 0 0,.slice none 0 0] 38)) W→W.heap[w.heap.size]?=some (.cells #[.bool false,.slice none 0 0,.slice none 0 0] 38 (0,0))):=
 fun W h=>row3 h
theorem sm_small (k:Nat) (h:k<2 ^ 64):Sm k:=sm_of_lt h (by omega)
theorem int_q_neg (k:Nat) (h0:0<k) (hk:k≤9223372036854775808) (w:World):Calls Tryz.prog 15 #[.int .i64 (-(k:Int))] w fun e w'=>∃v,e=.returned v∧Nm w' v ((-(k:Int):Int):Rat)∧Ext w w':=by
  have Hr:=ZZ (show rat true k 1=((-(k:Int):Int):Rat) by have:=rat_int (-(k:Int));rw [show decide (-(k:Int)<0)=true by simp;omega,Int.natAbs_neg,Int.natAbs_natCast] at this;exact this);have Sk:=ZZ (sm_small k (by omega));have H0:=ZZ h0;have HK:=ZZ hk;have t1:decide (-(k:Int)<0)=true:=by simp;omega
  have t2:-(k:Int)<0:=by omega
  clear h0 hk
  go_enter Tryz.func15,Tryz.ntmps15
  go_wp2_with fail;rw [show IntKind.u64.wrap (-IntKind.u64.wrap (-(k:Int)))=(k:Int) by have h0:=H0.out;have hk:=HK.out;rw [IntKind.wrap_u64,IntKind.wrap_u64];omega]
  refine(word_c k (by have:=HK.out;rw [B64_eq];omega) _).mono ?_;rintro e w1 ⟨v1,rfl,h1,k1⟩;obtain⟨P1,p1,c1,rfl⟩:=h1.form';have G1:=ZZ h1;have K1:=ZZ k1;clear h1 k1;go_wp2_with fail;refine(one_c _).mono ?_;rintro e w2 ⟨v2,rfl,h2,k2⟩;obtain⟨P2,p2,c2,rfl⟩:=h2.form';have G2:=ZZ h2;have K2:=ZZ k2;clear h2 k2;go_wp2_with fail;refine(reduced_c _ _ _ _ _ _ (G1.out.mono K2.out) G2.out Sk.out (sm_small 1 (by decide)) (by decide)).mono ?_;rintro e w3 ⟨v3,rfl,h3,k3⟩;obtain⟨b3,P3,p3,c3,Q3,q3,d3,rfl⟩:=h3.form2;have G3:=ZZ h3;have K3:=ZZ (al K1.out (al K2.out k3));have hz:=setup0 w w3 K3.out;obtain⟨z0,z1,z2,f0,f1,f2⟩:=aj hz;have Hz:=ZZ hz;clear h3 k3 hz;go_wp2_with fail;refine bodyPost_ret (v:=.agg #[.bool b3,.slice P3 p3 c3,.slice Q3 q3 d3]) (by simp [results,Tryz.f15];go_simp) rfl ?_;refine⟨_,rfl,?_,am (al (ab _ _) K3.out) (Nat.le_refl _) _ _ _⟩;have hr:rat true k 1=_:=Hr.out;rw [←hr];exact G3.out.put3 Hz.out
theorem int_q_nat (k:Nat) (hk:k<9223372036854775808) (w:World):Calls Tryz.prog 15 #[.int .i64 (k:Int)] w fun e w'=>∃v,e=.returned v∧Nm w' v (((k:Int):Int):Rat)∧Ext w w':=by
  have Hr:=ZZ (show rat false k 1=(((k:Int):Int):Rat) by have:=rat_int (k:Int);rw [show decide ((k:Int)<0)=false by rw [decide_eq_false_iff_not];omega,Int.natAbs_natCast] at this;exact this);have Sk:=ZZ (sm_small k (by omega));have q1:(0:Int)≤(k:Int):=by omega
  have q2:(k:Int)≤9223372036854775807:=by omega
  have HK:=ZZ hk;clear hk
  go_enter Tryz.func15,Tryz.ntmps15
  go_wp2_with fail;refine(word_c k (by have:=HK.out;rw [B64_eq];omega) _).mono ?_
  rintro e w1 ⟨v1,rfl,h1,k1⟩;obtain⟨P1,p1,c1,rfl⟩:=h1.form';have G1:=ZZ h1;have K1:=ZZ k1;clear h1 k1;go_wp2_with fail;refine(one_c _).mono ?_;rintro e w2 ⟨v2,rfl,h2,k2⟩;obtain⟨P2,p2,c2,rfl⟩:=h2.form';have G2:=ZZ h2;have K2:=ZZ k2;clear h2 k2;go_wp2_with fail;refine(reduced_c _ _ _ _ _ _ (G1.out.mono K2.out) G2.out Sk.out (sm_small 1 (by decide)) (by decide)).mono ?_;rintro e w3 ⟨v3,rfl,h3,k3⟩;obtain⟨b3,P3,p3,c3,Q3,q3,d3,rfl⟩:=h3.form2;have G3:=ZZ h3;have K3:=ZZ (al K1.out (al K2.out k3));have hz:=setup0 w w3 K3.out;obtain⟨z0,z1,z2,f0,f1,f2⟩:=aj hz;have Hz:=ZZ hz;clear h3 k3 hz;go_wp2_with fail;refine bodyPost_ret (v:=.agg #[.bool b3,.slice P3 p3 c3,.slice Q3 q3 d3]) (by simp [results,Tryz.f15];go_simp) rfl ?_;refine⟨_,rfl,?_,am (al (ab _ _) K3.out) (Nat.le_refl _) _ _ _⟩;have hr:rat false k 1=_:=Hr.out;rw [←hr];exact G3.out.put3 Hz.out
theorem int_q (z:Int) (h1:-9223372036854775808≤z) (h2:z<9223372036854775808) (w:World):Calls Tryz.prog 15 #[.int .i64 z] w fun e w'=>∃v,e=.returned v∧Nm w' v (z:Rat)∧Ext w w':=by
 rcases(show z<0∨0≤z by omega) with h|h
 ·obtain⟨k,rfl⟩:∃k:Nat,z = -(k:Int):=⟨z.natAbs,by omega⟩
  exact int_q_neg k (by omega) (by omega) w
 ·obtain⟨k,rfl⟩:∃k:Nat,z=(k:Int):=⟨z.toNat,by omega⟩
  exact int_q_nat k (by omega) w
theorem bq_int (z:Int) (h1:-9223372036854775808≤z) (h2:z<9223372036854775808):Bq 64 (z:Rat):=
 ⟨by show z.natAbs<2 ^ 64;omega,by show 1<2 ^ 64;decide⟩
end Go.Proofs.YtkoaakefgacokaaGreatDoor
