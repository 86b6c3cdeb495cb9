/- Numbers: sums. Printed by gen_ne.py. -/
import Derived.Test.YtkoaakefgacokaaGreatDoorGRat
set_option linter.unusedVariables false
set_option maxRecDepth 100000
set_option maxHeartbeats 64000000
namespace Go.Proofs.YtkoaakefgacokaaGreatDoor
open Go.RowKit
theorem Wd.len {w:World} {A:Option Addr} {k c n:Nat} (h:Wd w (.slice A k c) n):(dg n).length=k:=by
 obtain⟨A',c',e,-⟩:=h
 cases e;rfl
theorem dn_len {q:Rat} (h:Sm q.den):(dg (dn q)).length≤1099511627776:=by
 unfold dn
 split
 ·rw [dg_zero];simp
 ·exact h
theorem add_q_whole (M:Nat) (hM:M≤1099511627776) (vx vy:Value) (x y:Rat) (w:World) (hx:Nm w vx x) (hy:Nm w vy y) (bx:Bq M x) (by_:Bq M y) (h1:x.den=1) (h2:y.den=1):Calls Tryz.prog 21 #[vx,vy] w fun e w'=>∃v,e=.returned v∧Nm w' v (x+y)∧Ext w w':=by
 have HD1:=ZZ h1;have HD2:=ZZ h2;clear h1 h2;obtain⟨A,k,ca,B,l,cb,rfl,hxn,hxd,hkx,hlx⟩:=hx.form;obtain⟨C,m,cc,D,n,cd,rfl,hyn,hyd,hky,hly⟩:=hy.form;obtain⟨s1,s2,s3,s4,s5,s6⟩:=Bq.sm2 bx by_ hM;obtain⟨s7,s8⟩:=bx.sm hM;obtain⟨s9,s10⟩:=by_.sm hM;have Hlb:=ZZ (show l≤1099511627776 by have h1:=hxd.len;have h2:=dn_len (q:=x) s8;omega);have Hnb:=ZZ (show n≤1099511627776 by have h1:=hyd.len;have h2:=dn_len (q:=y) s10;omega);have D0:=ZZ (Nat.mul_pos x.den_pos y.den_pos);have Hx:=ZZ hx;have Hy:=ZZ hy;have Hxn:=ZZ hxn;have Hyn:=ZZ hyn;have Hkx:=ZZ hkx;have Hlx:=ZZ hlx;have Hky:=ZZ hky;have Hly:=ZZ hly;have S1:=ZZ s1;have S2:=ZZ s2;have S3:=ZZ s3;have S4:=ZZ s4;have S5:=ZZ s5;have S6:=ZZ s6;have S7:=ZZ s7;have S8:=ZZ s8;have S9:=ZZ s9;have S10:=ZZ s10;clear hx hy hxn hxd hyn hyd hkx hlx hky hly s1 s2 s3 s4 s5 s6 s7 s8 s9 s10 bx by_ hM;generalize hbx:decide (x.num<0)=b1 at *;generalize hby:decide (y.num<0)=b2 at *;have Hbx:=ZZ hbx
 have Hby:=ZZ hby
 clear hbx hby
 obtain rfl:l=0:=Hlx.out.2 HD1.out;obtain rfl:n=0:=Hly.out.2 HD2.out;obtain⟨hS,hZ,hw1,hw2,hsz,hsz1⟩:=setup2 w (.bool b1) (.slice A k ca) (.slice B 0 cb) (.bool b2) (.slice C m cc) (.slice D 0 cd);have HS:=ZZ hS;have HZ:=ZZ hZ;have HW1:=ZZ hw1;have HW2:=ZZ hw2;have Hsz1:=ZZ hsz1;clear hS hZ hw1 hw2 hsz hsz1
 go_enter Tryz.func21,Tryz.ntmps21
 go_wp2_with fail;generalize World.alloc (World.alloc (World.alloc w (.cells #[.bool b1,.slice A k ca,.slice B 0 cb] _)) (.cells #[.bool b2,.slice C m cc,.slice D 0 cd] _)) _=W2 at *
 generalize World.alloc (World.alloc w (.cells #[.bool b1,.slice A k ca,.slice B 0 cb] _)) (.cells #[.bool b2,.slice C m cc,.slice D 0 cd] _)=W1 at *;generalize hg0:w.heap.size=g0 at *;have Hsz:=ZZ (show w.heap.size≤g0+1+1 by omega);clear hg0;have hww:=ZZ (al HW1.out HW2.out);have hx0:=ZZ (ae W2);have hS0:=HS.out _ (al HW2.out hx0.out);have e1:=ZZ (ac W2);have hx1:=ZZ (al hx0.out e1.out)
 go_region_held3 (fun W=>W.cell? ⟨g0,0,none⟩=some (.bool b1)∧W.cell? ⟨g0,1,none⟩=some (.slice A k ca)∧W.cell? ⟨g0,2,none⟩=some (.slice B 0 cb)∧W.cell? ⟨g0+1,0,none⟩=some (.bool b2)∧W.cell? ⟨g0+1,1,none⟩=some (.slice C m cc)∧W.cell? ⟨g0+1,2,none⟩=some (.slice D 0 cd))
  (first
   | exact HS.out _ (al HW2.out hx2.out)
   | exact HS.out _ (al HW2.out hx1.out))
  (first
   |(have _q:=hx1
     go_at_call 42
     refine(one_c _).mono ?_;clear _q;rintro e w1 ⟨vv,rfl,h2,k2⟩;obtain⟨P1,p1,c1,rfl⟩:=h2.form';have H2:=ZZ h2;clear h2;have e2:=ZZ k2;have hx2:=ZZ (al hx1.out k2);clear k2))
 have FA:=ZZ (show Wd w1 (.slice A k ca) (x.num.natAbs*y.den) by rw [HD2.out,Nat.mul_one];exact(Hxn.out.mono (al hww.out hx2.out)));have FB:=ZZ (show Wd w1 (.slice C m cc) (y.num.natAbs*x.den) by rw [HD1.out,Nat.mul_one];exact(Hyn.out.mono (al hww.out hx2.out)));have FD:=ZZ (show Wd w1 (.slice P1 p1 c1) (x.den*y.den) by rw [HD1.out,HD2.out];exact H2.out)
 by_cases hbb:b1=b2
 ·subst hbb
  obtain⟨o0,o1,o2,o3,o4,o5⟩:=HS.out _ (al HW2.out hx2.out);go_wp2_with fail;have hS2:=HS.out _ (al HW2.out hx2.out);have e3:=ZZ (ac w1);have hx3:=ZZ (al hx2.out e3.out)
  go_region_held3 (fun W=>W.cell? ⟨g0,0,none⟩=some (.bool b1)∧W.cell? ⟨g0,1,none⟩=some (.slice A k ca)∧W.cell? ⟨g0,2,none⟩=some (.slice B 0 cb)∧W.cell? ⟨g0+1,0,none⟩=some (.bool b1)∧W.cell? ⟨g0+1,1,none⟩=some (.slice C m cc)∧W.cell? ⟨g0+1,2,none⟩=some (.slice D 0 cd))
   (first
    | exact HS.out _ (am (al HW2.out hx5.out) Hsz1.out _ _ _)
    | exact HS.out _ (al HW2.out hx5.out)
    | exact HS.out _ (al HW2.out hx4.out)
    | exact HS.out _ (al HW2.out hx3.out))
   (first
    |(have _q:=hx4
      go_at_call 40
      refine(reduced_c _ _ _ _ _ _ H4.out (FD.out.mono (al e3.out e4.out)) S6.out S2.out D0.out).mono ?_;clear _q;rintro e w21 ⟨vv,rfl,h5,k5⟩;obtain⟨P21,p21,c21,Q21,q21,d21,he,-⟩:=h5.form;subst he;have H5:=ZZ h5;clear h5;have e5:=ZZ k5;have hx5:=ZZ (al hx4.out k5);clear k5;have hz:=HZ.out _ hx5.out;obtain⟨z0,z1,z2,f0,f1,f2⟩:=aj hz;have Hz:=ZZ hz;clear hz)
    |(have _q:=hx3
      go_at_call 64
      refine(add_c _ _ _ _ _ (FA.out.mono e3.out) (FB.out.mono e3.out) S3.out S4.out).mono ?_;clear _q;rintro e w20 ⟨vv,rfl,h4,k4⟩;obtain⟨P20,p20,c20,rfl⟩:=h4.form';have H4:=ZZ h4;clear h4;have e4:=ZZ k4;have hx4:=ZZ (al hx3.out k4);clear k4))
  go_wp2_with fail;refine bodyPost_ret (v:=.agg #[.bool (decide ((rat b1 (x.num.natAbs*y.den+y.num.natAbs*x.den) (x.den*y.den)).num<0)),.slice P21 p21 c21,.slice Q21 q21 d21]) (by simp [results,Tryz.f21];go_simp) rfl ?_
  refine⟨_,rfl,?_,am (al hww.out hx5.out) Hsz.out _ _ _⟩;have hr:=add_same x y (Hbx.out.trans Hby.out.symm);rw [Hbx.out] at hr;have h8:=H5.out.put3 Hz.out;rw [hr] at h8 ⊢;exact h8
 ·skip
  have hbf:(b1 == b2)=false:=by revert hbb;cases b1 <;> cases b2 <;> simp
  have Hne:=ZZ (show b1=!b2 by revert hbb;cases b1 <;> cases b2 <;> simp);clear hbb;obtain⟨o0,o1,o2,o3,o4,o5⟩:=HS.out _ (al HW2.out hx2.out);go_wp2_with fail;refine(cmp_c _ _ _ _ _ FA.out FB.out S3.out S4.out).mono ?_;rintro e w15 ⟨⟨cq,rfl,hq1,hq2⟩,kq,rfl⟩;have e3:=ZZ (av w1 kq);have hx3:=ZZ (al hx2.out e3.out);have Hq1:=ZZ hq1;clear hq1 hq2
  rcases(show cq<0∨0≤cq by omega) with hc|hc
  ·skip
   obtain⟨o6,o7,o8,o9,o10,o11⟩:=HS.out _ (al HW2.out hx3.out);have Hle:=ZZ (Nat.le_of_lt (Hq1.out.1 hc));go_wp2_with fail;have hS3:=HS.out _ (al HW2.out hx3.out);have e4:=ZZ (ac (w1.drewN kq));have hx4:=ZZ (al hx3.out e4.out)
   go_region_held3 (fun W=>W.cell? ⟨g0,0,none⟩=some (.bool b1)∧W.cell? ⟨g0,1,none⟩=some (.slice A k ca)∧W.cell? ⟨g0,2,none⟩=some (.slice B 0 cb)∧W.cell? ⟨g0+1,0,none⟩=some (.bool b2)∧W.cell? ⟨g0+1,1,none⟩=some (.slice C m cc)∧W.cell? ⟨g0+1,2,none⟩=some (.slice D 0 cd))
    (first
     | exact HS.out _ (am (al HW2.out hx6.out) Hsz1.out _ _ _)
     | exact HS.out _ (al HW2.out hx6.out)
     | exact HS.out _ (al HW2.out hx5.out)
     | exact HS.out _ (al HW2.out hx4.out))
    (first
     |(have _q:=hx5
       go_at_call 40
       refine(reduced_c _ _ _ _ _ _ H5.out (FD.out.mono (al e3.out (al e4.out e5.out))) (sm_lt (Nat.sub_le _ _) S4.out) S2.out D0.out).mono ?_;clear _q;rintro e w21 ⟨vv,rfl,h6,k6⟩;obtain⟨P21,p21,c21,Q21,q21,d21,he,-⟩:=h6.form;subst he;have H6:=ZZ h6;clear h6;have e6:=ZZ k6;have hx6:=ZZ (al hx5.out k6);clear k6;have hz:=HZ.out _ hx6.out;obtain⟨z0,z1,z2,f0,f1,f2⟩:=aj hz;have Hz:=ZZ hz;clear hz)
     |(have _q:=hx4
       go_at_call 66
       refine(sub_c _ _ _ _ _ (FB.out.mono (al e3.out e4.out)) (FA.out.mono (al e3.out e4.out)) S4.out Hle.out).mono ?_;clear _q;rintro e w20 ⟨vv,rfl,h5,k5⟩;obtain⟨P20,p20,c20,rfl⟩:=h5.form';have H5:=ZZ h5;clear h5;have e5:=ZZ k5;have hx5:=ZZ (al hx4.out k5);clear k5))
   go_wp2_with fail;refine bodyPost_ret (v:=.agg #[.bool (decide ((rat b2 (y.num.natAbs*x.den - x.num.natAbs*y.den) (x.den*y.den)).num<0)),.slice P21 p21 c21,.slice Q21 q21 d21]) (by simp [results,Tryz.f21];go_simp) rfl ?_
   refine⟨_,rfl,?_,am (al hww.out hx6.out) Hsz.out _ _ _⟩;have hr:=add_less x y (by rw [Hbx.out,Hby.out];exact Hne.out) Hle.out;rw [Hby.out] at hr;have h8:=H6.out.put3 Hz.out;rw [hr] at h8 ⊢;exact h8
  ·skip
   obtain⟨o6,o7,o8,o9,o10,o11⟩:=HS.out _ (al HW2.out hx3.out);have Hle:=ZZ (Nat.not_lt.1 (fun h=>by have:=Hq1.out.2 h;omega:¬ x.num.natAbs*y.den<y.num.natAbs*x.den));go_wp2_with fail;have hS3:=HS.out _ (al HW2.out hx3.out);have e4:=ZZ (ac (w1.drewN kq));have hx4:=ZZ (al hx3.out e4.out)
   go_region_held3 (fun W=>W.cell? ⟨g0,0,none⟩=some (.bool b1)∧W.cell? ⟨g0,1,none⟩=some (.slice A k ca)∧W.cell? ⟨g0,2,none⟩=some (.slice B 0 cb)∧W.cell? ⟨g0+1,0,none⟩=some (.bool b2)∧W.cell? ⟨g0+1,1,none⟩=some (.slice C m cc)∧W.cell? ⟨g0+1,2,none⟩=some (.slice D 0 cd))
    (first
     | exact HS.out _ (am (al HW2.out hx6.out) Hsz1.out _ _ _)
     | exact HS.out _ (al HW2.out hx6.out)
     | exact HS.out _ (al HW2.out hx5.out)
     | exact HS.out _ (al HW2.out hx4.out))
    (first
     |(have _q:=hx5
       go_at_call 40
       refine(reduced_c _ _ _ _ _ _ H5.out (FD.out.mono (al e3.out (al e4.out e5.out))) (sm_lt (Nat.sub_le _ _) S3.out) S2.out D0.out).mono ?_;clear _q;rintro e w21 ⟨vv,rfl,h6,k6⟩;obtain⟨P21,p21,c21,Q21,q21,d21,he,-⟩:=h6.form;subst he;have H6:=ZZ h6;clear h6;have e6:=ZZ k6;have hx6:=ZZ (al hx5.out k6);clear k6;have hz:=HZ.out _ hx6.out;obtain⟨z0,z1,z2,f0,f1,f2⟩:=aj hz;have Hz:=ZZ hz;clear hz)
     |(have _q:=hx4
       go_at_call 66
       refine(sub_c _ _ _ _ _ (FA.out.mono (al e3.out e4.out)) (FB.out.mono (al e3.out e4.out)) S3.out Hle.out).mono ?_;clear _q;rintro e w20 ⟨vv,rfl,h5,k5⟩;obtain⟨P20,p20,c20,rfl⟩:=h5.form';have H5:=ZZ h5;clear h5;have e5:=ZZ k5;have hx5:=ZZ (al hx4.out k5);clear k5))
   go_wp2_with fail;refine bodyPost_ret (v:=.agg #[.bool (decide ((rat b1 (x.num.natAbs*y.den - y.num.natAbs*x.den) (x.den*y.den)).num<0)),.slice P21 p21 c21,.slice Q21 q21 d21]) (by simp [results,Tryz.f21];go_simp) rfl ?_
   refine⟨_,rfl,?_,am (al hww.out hx6.out) Hsz.out _ _ _⟩;have hr:=add_more x y (by rw [Hbx.out,Hby.out];exact Hne.out) Hle.out;rw [Hbx.out] at hr;have h8:=H6.out.put3 Hz.out;rw [hr] at h8 ⊢;exact h8
theorem add_q_parts (M:Nat) (hM:M≤1099511627776) (vx vy:Value) (x y:Rat) (w:World) (hx:Nm w vx x) (hy:Nm w vy y) (bx:Bq M x) (by_:Bq M y) (h1:¬(x.den=1∧y.den=1)):Calls Tryz.prog 21 #[vx,vy] w fun e w'=>∃v,e=.returned v∧Nm w' v (x+y)∧Ext w w':=by
 have HD1:=ZZ h1;clear h1;obtain⟨A,k,ca,B,l,cb,rfl,hxn,hxd,hkx,hlx⟩:=hx.form;obtain⟨C,m,cc,D,n,cd,rfl,hyn,hyd,hky,hly⟩:=hy.form;obtain⟨s1,s2,s3,s4,s5,s6⟩:=Bq.sm2 bx by_ hM;obtain⟨s7,s8⟩:=bx.sm hM;obtain⟨s9,s10⟩:=by_.sm hM;have Hlb:=ZZ (show l≤1099511627776 by have h1:=hxd.len;have h2:=dn_len (q:=x) s8;omega);have Hnb:=ZZ (show n≤1099511627776 by have h1:=hyd.len;have h2:=dn_len (q:=y) s10;omega);have D0:=ZZ (Nat.mul_pos x.den_pos y.den_pos);have Hx:=ZZ hx;have Hy:=ZZ hy;have Hxn:=ZZ hxn;have Hyn:=ZZ hyn;have Hkx:=ZZ hkx;have Hlx:=ZZ hlx;have Hky:=ZZ hky;have Hly:=ZZ hly;have S1:=ZZ s1;have S2:=ZZ s2;have S3:=ZZ s3;have S4:=ZZ s4;have S5:=ZZ s5;have S6:=ZZ s6;have S7:=ZZ s7;have S8:=ZZ s8;have S9:=ZZ s9;have S10:=ZZ s10;clear hx hy hxn hxd hyn hyd hkx hlx hky hly s1 s2 s3 s4 s5 s6 s7 s8 s9 s10 bx by_ hM;generalize hbx:decide (x.num<0)=b1 at *;generalize hby:decide (y.num<0)=b2 at *;have Hbx:=ZZ hbx
 have Hby:=ZZ hby
 clear hbx hby
 have q1:(0:Int)≤l:=by omega
 have q2:(0:Int)≤n:=by omega
 have q5:(0:Int)<(l:Int)+(n:Int):=by
  rcases Nat.eq_zero_or_pos l with h|h
  ·rcases Nat.eq_zero_or_pos n with h'|h'
   ·exact absurd ⟨Hlx.out.1 h,Hly.out.1 h'⟩ HD1.out
   ·omega
  ·omega
 have q3:(l:Int)≤1099511627776:=by have:=Hlb.out;omega
 have q4:(n:Int)≤1099511627776:=by have:=Hnb.out;omega
 obtain⟨hS,hZ,hw1,hw2,hsz,hsz1⟩:=setup2 w (.bool b1) (.slice A k ca) (.slice B l cb) (.bool b2) (.slice C m cc) (.slice D n cd);have HS:=ZZ hS;have HZ:=ZZ hZ;have HW1:=ZZ hw1;have HW2:=ZZ hw2;have Hsz1:=ZZ hsz1;clear hS hZ hw1 hw2 hsz hsz1
 go_enter Tryz.func21,Tryz.ntmps21
 go_wp2_with fail;generalize World.alloc (World.alloc (World.alloc w (.cells #[.bool b1,.slice A k ca,.slice B l cb] _)) (.cells #[.bool b2,.slice C m cc,.slice D n cd] _)) _=W2 at *
 generalize World.alloc (World.alloc w (.cells #[.bool b1,.slice A k ca,.slice B l cb] _)) (.cells #[.bool b2,.slice C m cc,.slice D n cd] _)=W1 at *;generalize hg0:w.heap.size=g0 at *;have Hsz:=ZZ (show w.heap.size≤g0+1+1 by omega);clear hg0;have hww:=ZZ (al HW1.out HW2.out);have hx0:=ZZ (ae W2);have hS0:=HS.out _ (al HW2.out hx0.out);have e1:=ZZ (ac W2);have hx1:=ZZ (al hx0.out e1.out)
 go_region_held3 (fun W=>W.cell? ⟨g0,0,none⟩=some (.bool b1)∧W.cell? ⟨g0,1,none⟩=some (.slice A k ca)∧W.cell? ⟨g0,2,none⟩=some (.slice B l cb)∧W.cell? ⟨g0+1,0,none⟩=some (.bool b2)∧W.cell? ⟨g0+1,1,none⟩=some (.slice C m cc)∧W.cell? ⟨g0+1,2,none⟩=some (.slice D n cd))
  (first
   | exact HS.out _ (al HW2.out hx2.out)
   | exact HS.out _ (al HW2.out hx1.out))
  (first
   |(have _q:=hx1
     go_at_call 42
     refine(one_c _).mono ?_;clear _q;rintro e w1 ⟨vv,rfl,h2,k2⟩;obtain⟨P1,p1,c1,rfl⟩:=h2.form';have H2:=ZZ h2;clear h2;have e2:=ZZ k2;have hx2:=ZZ (al hx1.out k2);clear k2))
 obtain⟨r0,r1,r2,r3,r4,r5⟩:=HS.out _ (al HW2.out hx2.out);go_wp2_with fail;have hS2:=HS.out _ (al HW2.out hx2.out);have e3:=ZZ (ac w1);have hx3:=ZZ (al hx2.out e3.out)
 go_region_held3 (fun W=>W.cell? ⟨g0,0,none⟩=some (.bool b1)∧W.cell? ⟨g0,1,none⟩=some (.slice A k ca)∧W.cell? ⟨g0,2,none⟩=some (.slice B l cb)∧W.cell? ⟨g0+1,0,none⟩=some (.bool b2)∧W.cell? ⟨g0+1,1,none⟩=some (.slice C m cc)∧W.cell? ⟨g0+1,2,none⟩=some (.slice D n cd))
  (first
   | exact HS.out _ (al HW2.out hx10.out)
   | exact HS.out _ (al HW2.out hx9.out)
   | exact HS.out _ (al HW2.out hx8.out)
   | exact HS.out _ (al HW2.out hx7.out)
   | exact HS.out _ (al HW2.out hx6.out)
   | exact HS.out _ (al HW2.out hx5.out)
   | exact HS.out _ (al HW2.out hx4.out)
   | exact HS.out _ (al HW2.out hx3.out))
  (first
   |(have _q:=hx9
     go_at_call 62
     refine(mul_c _ _ _ _ _ (H8.out.mono e9.out) H9.out S8.out S10.out).mono ?_;clear _q;rintro e w8 ⟨vv,rfl,h10,k10⟩;obtain⟨P8,p8,c8,rfl⟩:=h10.form';have H10:=ZZ h10;clear h10;have e10:=ZZ k10;have hx10:=ZZ (al hx9.out k10);clear k10)
   |(have _q:=hx8
     go_at_call 63
     refine(under_c _ _ _ (Hy.out.mono (al hww.out hx8.out))).mono ?_;clear _q;rintro e w7 ⟨vv,rfl,h9,k9⟩;obtain⟨P7,p7,c7,rfl⟩:=h9.form';have H9:=ZZ h9;clear h9;have e9:=ZZ k9;have hx9:=ZZ (al hx8.out k9);clear k9)
   |(have _q:=hx7
     go_at_call 63
     refine(under_c _ _ _ (Hx.out.mono (al hww.out hx7.out))).mono ?_;clear _q;rintro e w6 ⟨vv,rfl,h8,k8⟩;obtain⟨P6,p6,c6,rfl⟩:=h8.form';have H8:=ZZ h8;clear h8;have e8:=ZZ k8;have hx8:=ZZ (al hx7.out k8);clear k8)
   |(have _q:=hx6
     go_at_call 62
     refine(mul_c _ _ _ _ _ (Hyn.out.mono (al hww.out hx6.out)) H6.out S9.out S8.out).mono ?_;clear _q;rintro e w5 ⟨vv,rfl,h7,k7⟩;obtain⟨P5,p5,c5,rfl⟩:=h7.form';have H7:=ZZ h7;clear h7;have e7:=ZZ k7;have hx7:=ZZ (al hx6.out k7);clear k7)
   |(have _q:=hx5
     go_at_call 63
     refine(under_c _ _ _ (Hx.out.mono (al hww.out hx5.out))).mono ?_;clear _q;rintro e w4 ⟨vv,rfl,h6,k6⟩;obtain⟨P4,p4,c4,rfl⟩:=h6.form';have H6:=ZZ h6;clear h6;have e6:=ZZ k6;have hx6:=ZZ (al hx5.out k6);clear k6)
   |(have _q:=hx4
     go_at_call 62
     refine(mul_c _ _ _ _ _ (Hxn.out.mono (al hww.out hx4.out)) H4.out S7.out S10.out).mono ?_;clear _q;rintro e w3 ⟨vv,rfl,h5,k5⟩;obtain⟨P3,p3,c3,rfl⟩:=h5.form';have H5:=ZZ h5;clear h5;have e5:=ZZ k5;have hx5:=ZZ (al hx4.out k5);clear k5)
   |(have _q:=hx3
     go_at_call 63
     refine(under_c _ _ _ (Hy.out.mono (al hww.out hx3.out))).mono ?_;clear _q;rintro e w2 ⟨vv,rfl,h4,k4⟩;obtain⟨P2,p2,c2,rfl⟩:=h4.form';have H4:=ZZ h4;clear h4;have e4:=ZZ k4;have hx4:=ZZ (al hx3.out k4);clear k4))
 by_cases hbb:b1=b2
 ·subst hbb
  obtain⟨o0,o1,o2,o3,o4,o5⟩:=HS.out _ (al HW2.out hx10.out);go_wp2_with fail;have hS10:=HS.out _ (al HW2.out hx10.out);have e11:=ZZ (ac w8);have hx11:=ZZ (al hx10.out e11.out)
  go_region_held3 (fun W=>W.cell? ⟨g0,0,none⟩=some (.bool b1)∧W.cell? ⟨g0,1,none⟩=some (.slice A k ca)∧W.cell? ⟨g0,2,none⟩=some (.slice B l cb)∧W.cell? ⟨g0+1,0,none⟩=some (.bool b1)∧W.cell? ⟨g0+1,1,none⟩=some (.slice C m cc)∧W.cell? ⟨g0+1,2,none⟩=some (.slice D n cd))
   (first
    | exact HS.out _ (am (al HW2.out hx13.out) Hsz1.out _ _ _)
    | exact HS.out _ (al HW2.out hx13.out)
    | exact HS.out _ (al HW2.out hx12.out)
    | exact HS.out _ (al HW2.out hx11.out))
   (first
    |(have _q:=hx12
      go_at_call 40
      refine(reduced_c _ _ _ _ _ _ H12.out (H10.out.mono (al e11.out e12.out)) S6.out S2.out D0.out).mono ?_;clear _q;rintro e w21 ⟨vv,rfl,h13,k13⟩;obtain⟨P21,p21,c21,Q21,q21,d21,he,-⟩:=h13.form;subst he;have H13:=ZZ h13;clear h13;have e13:=ZZ k13;have hx13:=ZZ (al hx12.out k13);clear k13;have hz:=HZ.out _ hx13.out;obtain⟨z0,z1,z2,f0,f1,f2⟩:=aj hz;have Hz:=ZZ hz;clear hz)
    |(have _q:=hx11
      go_at_call 64
      refine(add_c _ _ _ _ _ (H5.out.mono (al e6.out (al e7.out (al e8.out (al e9.out (al e10.out e11.out)))))) (H7.out.mono (al e8.out (al e9.out (al e10.out e11.out)))) S3.out S4.out).mono ?_;clear _q;rintro e w20 ⟨vv,rfl,h12,k12⟩;obtain⟨P20,p20,c20,rfl⟩:=h12.form';have H12:=ZZ h12;clear h12;have e12:=ZZ k12;have hx12:=ZZ (al hx11.out k12);clear k12))
  go_wp2_with fail;refine bodyPost_ret (v:=.agg #[.bool (decide ((rat b1 (x.num.natAbs*y.den+y.num.natAbs*x.den) (x.den*y.den)).num<0)),.slice P21 p21 c21,.slice Q21 q21 d21]) (by simp [results,Tryz.f21];go_simp) rfl ?_
  refine⟨_,rfl,?_,am (al hww.out hx13.out) Hsz.out _ _ _⟩;have hr:=add_same x y (Hbx.out.trans Hby.out.symm);rw [Hbx.out] at hr;have h8:=H13.out.put3 Hz.out;rw [hr] at h8 ⊢;exact h8
 ·skip
  have hbf:(b1 == b2)=false:=by revert hbb;cases b1 <;> cases b2 <;> simp
  have Hne:=ZZ (show b1=!b2 by revert hbb;cases b1 <;> cases b2 <;> simp);clear hbb;obtain⟨o0,o1,o2,o3,o4,o5⟩:=HS.out _ (al HW2.out hx10.out);go_wp2_with fail;refine(cmp_c _ _ _ _ _ (H5.out.mono (al e6.out (al e7.out (al e8.out (al e9.out e10.out))))) (H7.out.mono (al e8.out (al e9.out e10.out))) S3.out S4.out).mono ?_;rintro e w15 ⟨⟨cq,rfl,hq1,hq2⟩,kq,rfl⟩;have e11:=ZZ (av w8 kq);have hx11:=ZZ (al hx10.out e11.out);have Hq1:=ZZ hq1;clear hq1 hq2
  rcases(show cq<0∨0≤cq by omega) with hc|hc
  ·skip
   obtain⟨o6,o7,o8,o9,o10,o11⟩:=HS.out _ (al HW2.out hx11.out);have Hle:=ZZ (Nat.le_of_lt (Hq1.out.1 hc));go_wp2_with fail;have hS11:=HS.out _ (al HW2.out hx11.out);have e12:=ZZ (ac (w8.drewN kq));have hx12:=ZZ (al hx11.out e12.out)
   go_region_held3 (fun W=>W.cell? ⟨g0,0,none⟩=some (.bool b1)∧W.cell? ⟨g0,1,none⟩=some (.slice A k ca)∧W.cell? ⟨g0,2,none⟩=some (.slice B l cb)∧W.cell? ⟨g0+1,0,none⟩=some (.bool b2)∧W.cell? ⟨g0+1,1,none⟩=some (.slice C m cc)∧W.cell? ⟨g0+1,2,none⟩=some (.slice D n cd))
    (first
     | exact HS.out _ (am (al HW2.out hx14.out) Hsz1.out _ _ _)
     | exact HS.out _ (al HW2.out hx14.out)
     | exact HS.out _ (al HW2.out hx13.out)
     | exact HS.out _ (al HW2.out hx12.out))
    (first
     |(have _q:=hx13
       go_at_call 40
       refine(reduced_c _ _ _ _ _ _ H13.out (H10.out.mono (al e11.out (al e12.out e13.out))) (sm_lt (Nat.sub_le _ _) S4.out) S2.out D0.out).mono ?_;clear _q;rintro e w21 ⟨vv,rfl,h14,k14⟩;obtain⟨P21,p21,c21,Q21,q21,d21,he,-⟩:=h14.form;subst he;have H14:=ZZ h14;clear h14;have e14:=ZZ k14;have hx14:=ZZ (al hx13.out k14);clear k14;have hz:=HZ.out _ hx14.out;obtain⟨z0,z1,z2,f0,f1,f2⟩:=aj hz;have Hz:=ZZ hz;clear hz)
     |(have _q:=hx12
       go_at_call 66
       refine(sub_c _ _ _ _ _ (H7.out.mono (al e8.out (al e9.out (al e10.out (al e11.out e12.out))))) (H5.out.mono (al e6.out (al e7.out (al e8.out (al e9.out (al e10.out (al e11.out e12.out))))))) S4.out Hle.out).mono ?_;clear _q;rintro e w20 ⟨vv,rfl,h13,k13⟩;obtain⟨P20,p20,c20,rfl⟩:=h13.form';have H13:=ZZ h13;clear h13;have e13:=ZZ k13;have hx13:=ZZ (al hx12.out k13);clear k13))
   go_wp2_with fail;refine bodyPost_ret (v:=.agg #[.bool (decide ((rat b2 (y.num.natAbs*x.den - x.num.natAbs*y.den) (x.den*y.den)).num<0)),.slice P21 p21 c21,.slice Q21 q21 d21]) (by simp [results,Tryz.f21];go_simp) rfl ?_
   refine⟨_,rfl,?_,am (al hww.out hx14.out) Hsz.out _ _ _⟩;have hr:=add_less x y (by rw [Hbx.out,Hby.out];exact Hne.out) Hle.out;rw [Hby.out] at hr;have h8:=H14.out.put3 Hz.out;rw [hr] at h8 ⊢;exact h8
  ·skip
   obtain⟨o6,o7,o8,o9,o10,o11⟩:=HS.out _ (al HW2.out hx11.out);have Hle:=ZZ (Nat.not_lt.1 (fun h=>by have:=Hq1.out.2 h;omega:¬ x.num.natAbs*y.den<y.num.natAbs*x.den));go_wp2_with fail;have hS11:=HS.out _ (al HW2.out hx11.out);have e12:=ZZ (ac (w8.drewN kq));have hx12:=ZZ (al hx11.out e12.out)
   go_region_held3 (fun W=>W.cell? ⟨g0,0,none⟩=some (.bool b1)∧W.cell? ⟨g0,1,none⟩=some (.slice A k ca)∧W.cell? ⟨g0,2,none⟩=some (.slice B l cb)∧W.cell? ⟨g0+1,0,none⟩=some (.bool b2)∧W.cell? ⟨g0+1,1,none⟩=some (.slice C m cc)∧W.cell? ⟨g0+1,2,none⟩=some (.slice D n cd))
    (first
     | exact HS.out _ (am (al HW2.out hx14.out) Hsz1.out _ _ _)
     | exact HS.out _ (al HW2.out hx14.out)
     | exact HS.out _ (al HW2.out hx13.out)
     | exact HS.out _ (al HW2.out hx12.out))
    (first
     |(have _q:=hx13
       go_at_call 40
       refine(reduced_c _ _ _ _ _ _ H13.out (H10.out.mono (al e11.out (al e12.out e13.out))) (sm_lt (Nat.sub_le _ _) S3.out) S2.out D0.out).mono ?_;clear _q;rintro e w21 ⟨vv,rfl,h14,k14⟩;obtain⟨P21,p21,c21,Q21,q21,d21,he,-⟩:=h14.form;subst he;have H14:=ZZ h14;clear h14;have e14:=ZZ k14;have hx14:=ZZ (al hx13.out k14);clear k14;have hz:=HZ.out _ hx14.out;obtain⟨z0,z1,z2,f0,f1,f2⟩:=aj hz;have Hz:=ZZ hz;clear hz)
     |(have _q:=hx12
       go_at_call 66
       refine(sub_c _ _ _ _ _ (H5.out.mono (al e6.out (al e7.out (al e8.out (al e9.out (al e10.out (al e11.out e12.out))))))) (H7.out.mono (al e8.out (al e9.out (al e10.out (al e11.out e12.out))))) S3.out Hle.out).mono ?_;clear _q;rintro e w20 ⟨vv,rfl,h13,k13⟩;obtain⟨P20,p20,c20,rfl⟩:=h13.form';have H13:=ZZ h13;clear h13;have e13:=ZZ k13;have hx13:=ZZ (al hx12.out k13);clear k13))
   go_wp2_with fail;refine bodyPost_ret (v:=.agg #[.bool (decide ((rat b1 (x.num.natAbs*y.den - y.num.natAbs*x.den) (x.den*y.den)).num<0)),.slice P21 p21 c21,.slice Q21 q21 d21]) (by simp [results,Tryz.f21];go_simp) rfl ?_
   refine⟨_,rfl,?_,am (al hww.out hx14.out) Hsz.out _ _ _⟩;have hr:=add_more x y (by rw [Hbx.out,Hby.out];exact Hne.out) Hle.out;rw [Hbx.out] at hr;have h8:=H14.out.put3 Hz.out;rw [hr] at h8 ⊢;exact h8
theorem add_q (M:Nat) (hM:M≤1099511627776) (vx vy:Value) (x y:Rat) (w:World) (hx:Nm w vx x) (hy:Nm w vy y) (bx:Bq M x) (by_:Bq M y):Calls Tryz.prog 21 #[vx,vy] w fun e w'=>∃v,e=.returned v∧Nm w' v (x+y)∧Ext w w':=by
 by_cases h:x.den=1∧y.den=1
 ·exact add_q_whole M hM vx vy x y w hx hy bx by_ h.1 h.2
 ·exact add_q_parts M hM vx vy x y w hx hy bx by_ h
end Go.Proofs.YtkoaakefgacokaaGreatDoor
