/- Numbers: rounding. Printed by gen_nh.py. Numbers: powers. Printed by gen_nl.py. Numbers: powers of ten. Printed by gen_nk.py. -/
import Derived.Test.YtpgdefgdboijlaaGreatDoorNg
import Derived.Deep.LoopGhost
set_option linter.unusedVariables false
set_option maxRecDepth 100000
set_option maxHeartbeats 16000000
namespace Go.Proofs.YtpgdefgdboijlaaGreatDoor
open Go.RowKit
theorem up_c (va:Value) (n k:Nat) (w:World) (ha:Wd w va n) (sa:Sm n) (hk:k≤70368744177664):Calls Tryz.prog 171 #[va,.int .i64 k] w fun e w'=>∃v,e=.returned v∧Wd w' v (n*2 ^ k)∧Ext w w':=by
 refine(up_r va n k w ha sa hk).mono ?_;rintro e w' ⟨⟨r,rfl,h1,h2,h3,h4⟩,h5⟩;exact⟨_,rfl,by rw [←h4];exact cut_w h2 h3.cl (by omega),h5⟩
def shQ (x:Rat) (k:Int):Rat:=if k<0 then rat (decide (x.num<0)) x.num.natAbs (x.den*2 ^ k.natAbs) else rat (decide (x.num<0)) (x.num.natAbs*2 ^ k.natAbs) x.den
theorem lt_shift {n B k:Nat} (h:n<2 ^ B):n*2 ^ k<2 ^ (B+k):=by
 rw [Nat.pow_add];exact Nat.mul_lt_mul_of_pos_right h (Nat.pow_pos (by decide))
theorem Bq.sh {B:Nat} {x:Rat} {k:Int} (h:Bq B x):Bq (B+k.natAbs) (shQ x k):=by
 unfold shQ;have hp:0<x.den:=x.den_pos
 split
 ·exact bq_rat (lt_mono h.1 (by omega)) (lt_shift h.2) (Nat.ne_of_gt (Nat.mul_pos hp (Nat.pow_pos (by decide))))
 ·exact bq_rat (lt_shift h.1) (lt_mono h.2 (by omega)) (Nat.ne_of_gt hp)
theorem shifted_up (M:Nat) (hM:M≤1099511627776) (j:Nat) (hj:j≤1099511627776) (vx:Value) (x:Rat) (w:World) (hx:Nm w vx x) (bx:Bq M x):Calls Tryz.prog 136 #[vx,.int .i64 j] w fun e w'=>∃v,e=.returned v∧Nm w' v (shQ x j)∧Ext w w':=by
 have S1:=ZZ (sm_of_lt bx.1 (by omega));have S2:=ZZ (sm_of_lt bx.2 (by omega));have S3:=ZZ (sm_of_lt (lt_shift (k:=j) bx.1) (by omega));have D0:=ZZ x.den_pos;have HJ:=ZZ hj;have q1:(0:Int)≤(j:Int):=by omega
 have q2:¬(j:Int)<0:=by omega
 clear hj bx hM;obtain⟨A,k,ca,B,l,cb,rfl,hxn,hxd,hkx,hlx⟩:=hx.form;have Hx:=ZZ hx;have Hxn:=ZZ hxn;have Hkx:=ZZ hkx;have Hlx:=ZZ hlx;clear hx hxn hxd hkx hlx;generalize hbx:decide (x.num<0)=b1 at *;have Hbx:=ZZ hbx;clear hbx;obtain⟨hS,hZ,hw1,hw2,hsz,hsz1⟩:=setup1 w (.bool b1) (.slice A k ca) (.slice B l cb);have HS:=ZZ hS;have HZ:=ZZ hZ;have HW1:=ZZ hw1;have HW2:=ZZ hw2;have Hsz1:=ZZ hsz1;clear hS hZ hw1 hw2 hsz hsz1
 go_enter Tryz.func136,Tryz.ntmps136
 go_wp2_with fail;generalize World.alloc (World.alloc w (.cells #[.bool b1,.slice A k ca,.slice B l cb] _)) _=W2 at *
 generalize World.alloc w (.cells #[.bool b1,.slice A k ca,.slice B l cb] _)=W1 at *;generalize hg0:w.heap.size=g0 at *;have Hsz:=ZZ (show w.heap.size≤g0+1 by omega);clear hg0;have hww:=ZZ (al HW1.out HW2.out);have hx0:=ZZ (ad W2);have hS0:=HS.out _ (al HW2.out hx0.out);have e1:=ZZ (ac W2);have hx1:=ZZ (al hx0.out e1.out)
 go_region_held3 (fun W=>W.cell? ⟨g0,0,none⟩=some (.bool b1)∧W.cell? ⟨g0,1,none⟩=some (.slice A k ca)∧W.cell? ⟨g0,2,none⟩=some (.slice B l cb)) (first
   | exact HS.out _ (ao (al HW2.out hx4.out) Hsz1.out _ _ _)
   | exact HS.out _ (al HW2.out hx4.out)
   | exact HS.out _ (al HW2.out hx3.out)
   | exact HS.out _ (al HW2.out hx2.out)
   | exact HS.out _ (al HW2.out hx1.out))
  (first
   |(have _q:=hx3
     go_at_call 103
     refine(reduced_c _ _ _ _ _ _ (H2.out.mono e3.out) H3.out S3.out S2.out D0.out).mono ?_;clear _q;rintro e w3 ⟨vv,rfl,h4,k4⟩;obtain⟨b3,P3,p3,c3,Q3,q3,d3,rfl⟩:=h4.form2;have H4:=ZZ h4;clear h4;have e4:=ZZ k4;have hx4:=ZZ (al hx3.out k4);clear k4;have hz:=HZ.out _ hx4.out;obtain⟨z0,z1,z2,f0,f1,f2⟩:=ai hz;have Hz:=ZZ hz;clear hz)
   |(have _q:=hx2
     go_at_call 115
     refine(under_c _ _ _ (Hx.out.mono (al hww.out hx2.out))).mono ?_;clear _q;rintro e w2 ⟨vv,rfl,h3,k3⟩;obtain⟨P2,p2,c2,rfl⟩:=h3.form';have H3:=ZZ h3;clear h3;have e3:=ZZ k3;have hx3:=ZZ (al hx2.out k3);clear k3)
   |(have _q:=hx1
     go_at_call 171
     refine(up_c _ _ _ _ (Hxn.out.mono (al hww.out hx1.out)) S1.out (Nat.le_trans HJ.out (by decide))).mono ?_;clear _q;rintro e w1 ⟨vv,rfl,h2,k2⟩;obtain⟨P1,p1,c1,rfl⟩:=h2.form';have H2:=ZZ h2;clear h2;have e2:=ZZ k2;have hx2:=ZZ (al hx1.out k2);clear k2))
 go_wp2_with fail;refine bodyPost_ret (v:=.agg #[.bool b3,.slice P3 p3 c3,.slice Q3 q3 d3]) (by simp [results,Tryz.f136];go_simp) rfl ?_
 refine⟨_,rfl,?_,ao (al hww.out hx4.out) Hsz.out _ _ _⟩
 have hr:rat b1 (x.num.natAbs*2 ^ j) x.den=shQ x (j:Int):=by
  unfold shQ;rw [if_neg (by omega),Hbx.out];rfl
 rw [←hr];exact H4.out.put3 Hz.out
theorem shifted_down (M:Nat) (hM:M≤1099511627776) (j:Nat) (h0:0<j) (hj:j≤1099511627776) (vx:Value) (x:Rat) (w:World) (hx:Nm w vx x) (bx:Bq M x):Calls Tryz.prog 136 #[vx,.int .i64 (-(j:Int))] w fun e w'=>∃v,e=.returned v∧Nm w' v (shQ x (-(j:Int)))∧Ext w w':=by
 have S1:=ZZ (sm_of_lt bx.1 (by omega));have S2:=ZZ (sm_of_lt bx.2 (by omega));have S3:=ZZ (sm_of_lt (lt_shift (k:=j) bx.2) (by omega));have D0:=ZZ (Nat.mul_pos x.den_pos (Nat.pow_pos (n:=j) (show 0<2 by decide)));have HJ:=ZZ hj;have HP:=ZZ h0;have q2:-(j:Int)<0:=by omega
 have q3:decide (-(j:Int)<0)=true:=by rw [decide_eq_true_eq];omega
 have q4:IntKind.i64.wrap (j:Int)=(j:Int):=IntWalk.i64_in _ (by omega);have q5:IntKind.i64.wrap (- -(j:Int))=(j:Int):=IntWalk.i64_in _ (by omega) |>.trans (by omega)
 clear hj bx hM h0;obtain⟨A,k,ca,B,l,cb,rfl,hxn,hxd,hkx,hlx⟩:=hx.form;have Hx:=ZZ hx;have Hxn:=ZZ hxn;have Hkx:=ZZ hkx;have Hlx:=ZZ hlx;clear hx hxn hxd hkx hlx;generalize hbx:decide (x.num<0)=b1 at *;have Hbx:=ZZ hbx;clear hbx;obtain⟨hS,hZ,hw1,hw2,hsz,hsz1⟩:=setup1 w (.bool b1) (.slice A k ca) (.slice B l cb);have HS:=ZZ hS;have HZ:=ZZ hZ;have HW1:=ZZ hw1;have HW2:=ZZ hw2;have Hsz1:=ZZ hsz1;clear hS hZ hw1 hw2 hsz hsz1
 go_enter Tryz.func136,Tryz.ntmps136
 go_wp2_with fail;generalize World.alloc (World.alloc w (.cells #[.bool b1,.slice A k ca,.slice B l cb] _)) _=W2 at *
 generalize World.alloc w (.cells #[.bool b1,.slice A k ca,.slice B l cb] _)=W1 at *;generalize hg0:w.heap.size=g0 at *;have Hsz:=ZZ (show w.heap.size≤g0+1 by omega);clear hg0;have hww:=ZZ (al HW1.out HW2.out);have hx0:=ZZ (ad W2);have hS0:=HS.out _ (al HW2.out hx0.out);have e1:=ZZ (ac W2);have hx1:=ZZ (al hx0.out e1.out)
 go_region_held3 (fun W=>W.cell? ⟨g0,0,none⟩=some (.bool b1)∧W.cell? ⟨g0,1,none⟩=some (.slice A k ca)∧W.cell? ⟨g0,2,none⟩=some (.slice B l cb)) (first
   | exact HS.out _ (ao (al HW2.out hx4.out) Hsz1.out _ _ _)
   | exact HS.out _ (al HW2.out hx4.out)
   | exact HS.out _ (al HW2.out hx3.out)
   | exact HS.out _ (al HW2.out hx2.out)
   | exact HS.out _ (al HW2.out hx1.out))
  (first
   |(have _q:=hx3
     go_at_call 103
     refine(reduced_c _ _ _ _ _ _ (Hxn.out.mono (al hww.out hx3.out)) H3.out S1.out S3.out D0.out).mono ?_;clear _q;rintro e w3 ⟨vv,rfl,h4,k4⟩;obtain⟨b3,P3,p3,c3,Q3,q3,d3,rfl⟩:=h4.form2;have H4:=ZZ h4;clear h4;have e4:=ZZ k4;have hx4:=ZZ (al hx3.out k4);clear k4;have hz:=HZ.out _ hx4.out;obtain⟨z0,z1,z2,f0,f1,f2⟩:=ai hz;have Hz:=ZZ hz;clear hz)
   |(have _q:=hx2
     go_at_call 171
     refine(up_c _ _ _ _ H2.out S2.out (Nat.le_trans HJ.out (by decide))).mono ?_;clear _q;rintro e w2 ⟨vv,rfl,h3,k3⟩;obtain⟨P2,p2,c2,rfl⟩:=h3.form';have H3:=ZZ h3;clear h3;have e3:=ZZ k3;have hx3:=ZZ (al hx2.out k3);clear k3)
   |(have _q:=hx1
     go_at_call 115
     refine(under_c _ _ _ (Hx.out.mono (al hww.out hx1.out))).mono ?_;clear _q;rintro e w1 ⟨vv,rfl,h2,k2⟩;obtain⟨P1,p1,c1,rfl⟩:=h2.form';have H2:=ZZ h2;clear h2;have e2:=ZZ k2;have hx2:=ZZ (al hx1.out k2);clear k2))
 go_wp2_with fail;refine bodyPost_ret (v:=.agg #[.bool b3,.slice P3 p3 c3,.slice Q3 q3 d3]) (by simp [results,Tryz.f136];go_simp) rfl ?_
 refine⟨_,rfl,?_,ao (al hww.out hx4.out) Hsz.out _ _ _⟩
 have hr:rat b1 x.num.natAbs (x.den*2 ^ j)=shQ x (-(j:Int)):=by
  unfold shQ;rw [if_pos (by have:=HP.out;omega),Hbx.out,Int.natAbs_neg];rfl
 rw [←hr];exact H4.out.put3 Hz.out
theorem shifted_q (M:Nat) (hM:M≤1099511627776) (z:Int) (hz:z.natAbs≤1099511627776) (vx:Value) (x:Rat) (w:World) (hx:Nm w vx x) (bx:Bq M x):Calls Tryz.prog 136 #[vx,.int .i64 z] w fun e w'=>∃v,e=.returned v∧Nm w' v (shQ x z)∧Ext w w':=by
 rcases(show z<0∨0≤z by omega) with h|h
 ·obtain⟨k,rfl⟩:∃k:Nat,z = -(k:Int):=⟨z.natAbs,by omega⟩
  exact shifted_down M hM k (by omega) (by omega) vx x w hx bx
 ·obtain⟨k,rfl⟩:∃k:Nat,z=(k:Int):=⟨z.toNat,by omega⟩
  exact shifted_up M hM k (by omega) vx x w hx bx
end Go.Proofs.YtpgdefgdboijlaaGreatDoor
namespace Go.Proofs.YtpgdefgdboijlaaGreatDoor
open Go.RowKit
theorem rat_pow (a:Bool) (n d k:Nat):rat a n d ^ k=rat (a && (k % 2 == 1)) (n ^ k) (d ^ k):=by
 induction k with
 | zero=>
  rw [Rat.pow_zero,Nat.pow_zero,Nat.pow_zero]
  cases a <;> rfl
 | succ k ih=>
  rw [Rat.pow_succ,ih,rat_mul,Nat.pow_succ,Nat.pow_succ]
  congr 1
  rcases Nat.mod_two_eq_zero_or_one k with h|h
  ·have h':(k+1) % 2=1:=by omega
   rw [h,h'];cases a <;> rfl
  ·have h':(k+1) % 2=0:=by omega
   rw [h,h'];cases a <;> rfl
theorem pow_parts (x:Rat) (k:Nat):rat (decide (x.num<0) && (k % 2 == 1)) (x.num.natAbs ^ k) (x.den ^ k)=x ^ k:=by
 rw [←rat_pow,rat_self]
theorem lt_pow {n B:Nat} (h:n<2 ^ B) (k:Nat):n ^ k<2 ^ (B*k+1):=by
 have h1:n ^ k≤(2 ^ B) ^ k:=Nat.pow_le_pow_left (Nat.le_of_lt h) k;rw [←Nat.pow_mul] at h1;rw [Nat.pow_succ]
 have:=Nat.pow_pos (n:=B*k) (show 0<2 by decide)
 omega
theorem Bq.pow {B:Nat} {x:Rat} (h:Bq B x) (k:Nat):Bq (B*k+1) (x ^ k):=
 ⟨by rw [Rat.num_pow,Int.natAbs_pow];exact lt_pow h.1 k,by rw [Rat.den_pow];exact lt_pow h.2 k⟩
theorem pow_q (M:Nat) (hM:M≤17179869184) (j:Nat) (hj:j≤64) (vx:Value) (x:Rat) (w:World) (hx:Nm w vx x) (bx:Bq M x):Calls Tryz.prog 22 #[vx,.int .i64 (j:Int)] w fun e w'=>∃v,e=.returned (.tuple #[v,.int .i64 0])∧Nm w' v (x ^ j)∧Ext w w':=by
 have hMj:M*j≤17179869184*64:=Nat.mul_le_mul hM hj;have S1:=ZZ (sm_of_lt bx.1 (by omega));have S2:=ZZ (sm_of_lt bx.2 (by omega));have S3:=ZZ (fun c (hc:c≤j)=>sm_of_lt (lt_pow bx.1 c) (by have:=Nat.mul_le_mul_left M hc;omega));have S4:=ZZ (fun c (hc:c≤j)=>sm_of_lt (lt_pow bx.2 c) (by have:=Nat.mul_le_mul_left M hc;omega));have D0:=ZZ (Nat.pow_pos (n:=j) x.den_pos);have HJ:=ZZ hj;have q1:decide ((j:Int) < -64)=false:=by rw [decide_eq_false_iff_not];omega
 have q2:decide ((64:Int)<(j:Int))=false:=by rw [decide_eq_false_iff_not];omega
 have q3:decide ((j:Int)<0)=false:=by rw [decide_eq_false_iff_not];omega
 have q4:¬(j:Int) < -64:=by omega
 have q5:¬(64:Int)<(j:Int):=by omega
 have q6:¬(j:Int)<0:=by omega
 clear hj bx hM hMj;obtain⟨A,k,ca,B,l,cb,rfl,hxn,hxd,hkx,hlx⟩:=hx.form;have Hx:=ZZ hx;have Hxn:=ZZ hxn;have Hkx:=ZZ hkx;have Hlx:=ZZ hlx;clear hx hxn hxd hkx hlx;generalize hbx:decide (x.num<0)=b1 at *;have Hbx:=ZZ hbx;clear hbx;obtain⟨hS,hZ,hw1,hw2,hsz,hsz1⟩:=setup1 w (.bool b1) (.slice A k ca) (.slice B l cb);have HS:=ZZ hS;have HZ:=ZZ hZ;have HW1:=ZZ hw1;have HW2:=ZZ hw2;have Hsz1:=ZZ hsz1;clear hS hZ hw1 hw2 hsz hsz1
 go_enter Tryz.func22,Tryz.ntmps22
 go_wp2_with fail;generalize World.alloc (World.alloc w (.cells #[.bool b1,.slice A k ca,.slice B l cb] _)) _=W2 at *
 generalize World.alloc w (.cells #[.bool b1,.slice A k ca,.slice B l cb] _)=W1 at *;generalize hg0:w.heap.size=g0 at *;have Hsz:=ZZ (show w.heap.size≤g0+1 by omega);clear hg0;have hww:=ZZ (al HW1.out HW2.out);have hcs:=HS.out W2 HW2.out;refine(one_c _).mono ?_;rintro e w1 ⟨v1,rfl,h1,k1⟩;obtain⟨P1,p1,c1,rfl⟩:=h1.form';have G1:=ZZ h1;have K1:=ZZ k1;clear h1 k1;go_wp2_with fail;refine(one_c _).mono ?_;rintro e w2 ⟨v2,rfl,h2,k2⟩;obtain⟨P2,p2,c2,rfl⟩:=h2.form';have G2:=ZZ h2;have K2:=ZZ k2;clear h2 k2 hcs;go_wp2_with fail
 go_loopg [6,7,41] j (fun k p q i wr=>∃c:Nat,c+k=j∧i=.int .i64 (c:Int)∧Wd wr p (x.num.natAbs ^ c)∧Wd wr q (x.den ^ c)∧Ext W2 wr)
 case atStart=>exact⟨0,by omega,rfl,by rw [Nat.pow_zero];exact G1.out.mono K2.out,by rw [Nat.pow_zero];exact G2.out,al K1.out K2.out⟩
 case round=>
  obtain⟨c,hc,rfl,hp,hq,hext⟩:=hrel;obtain⟨P3,p3,c3,rfl⟩:=hp.form';obtain⟨P4,p4,c4,rfl⟩:=hq.form';have G3:=ZZ hp;have G4:=ZZ hq;have hx0:=ZZ hext;have HC:=ZZ hc;clear hp hq hext
  rcases Nat.eq_zero_or_pos gk with hz|hz
  ·subst hz
   obtain rfl:c=j:=by omega
   clear hc;have hz:=HZ.out _ hx0.out;have Hz:=ZZ hz;clear hz;have hpar:c % 2=0∨c % 2=1:=Nat.mod_two_eq_zero_or_one c
   have fin:∀bb:Bool,(b1 && (c % 2 == 1))=bb→Hid (rat bb (x.num.natAbs ^ c) (x.den ^ c)=x ^ c):=by
    intro bb hbb
    have:=pow_parts x c
    rw [Hbx.out,hbb] at this;exact this
   rcases hb:b1 with _|_
   ·subst hb
    have Hfin:=fin false rfl;clear fin hpar;obtain⟨r0,r1,r2⟩:=HS.out _ (al HW2.out hx0.out);go_wp2_with fail;refine(reduced_c false _ _ _ _ _ G3.out G4.out (S3.out _ (Nat.le_refl _)) (S4.out _ (Nat.le_refl _)) D0.out).mono ?_;rintro e w7 ⟨v7,rfl,h7,k7⟩;obtain⟨b7,P7,p7,c7,Q7,q7,d7,rfl⟩:=h7.form2;have G7:=ZZ h7;have K7:=ZZ (al hx0.out k7);have hz7:=HZ.out _ K7.out;obtain⟨z0,z1,z2,f0,f1,f2⟩:=ai hz7;have Hz7:=ZZ hz7;clear h7 k7 hz7;go_wp2_with fail;refine bodyPost_ret (v:=.tuple #[.agg #[.bool b7,.slice P7 p7 c7,.slice Q7 q7 d7],.int .i64 0]) (by simp [results,Tryz.f22];go_simp) rfl ?_;refine⟨_,rfl,?_,ao (al hww.out K7.out) Hsz.out _ _ _⟩;rw [←Hfin.out];exact G7.out.put3 Hz7.out
   ·subst hb
    rcases hpar with hp|hp
    ·have Hfin:=fin false (by rw [hp];rfl)
     have t5:((c:Int) % 2 == 1)=false:=by rw [beq_eq_false_iff_ne];omega
     have t6:((c:Int).tmod 2 == 1)=false:=by rw [Int.tmod_eq_emod_of_nonneg (by omega),beq_eq_false_iff_ne];omega
     clear fin hp;obtain⟨r0,r1,r2⟩:=HS.out _ (al HW2.out hx0.out);go_wp2_with fail;refine(reduced_c false _ _ _ _ _ G3.out G4.out (S3.out _ (Nat.le_refl _)) (S4.out _ (Nat.le_refl _)) D0.out).mono ?_;rintro e w7 ⟨v7,rfl,h7,k7⟩;obtain⟨b7,P7,p7,c7,Q7,q7,d7,rfl⟩:=h7.form2;have G7:=ZZ h7;have K7:=ZZ (al hx0.out k7);have hz7:=HZ.out _ K7.out;obtain⟨z0,z1,z2,f0,f1,f2⟩:=ai hz7;have Hz7:=ZZ hz7;clear h7 k7 hz7;go_wp2_with fail;refine bodyPost_ret (v:=.tuple #[.agg #[.bool b7,.slice P7 p7 c7,.slice Q7 q7 d7],.int .i64 0]) (by simp [results,Tryz.f22];go_simp) rfl ?_;refine⟨_,rfl,?_,ao (al hww.out K7.out) Hsz.out _ _ _⟩;rw [←Hfin.out];exact G7.out.put3 Hz7.out
    ·have Hfin:=fin true (by rw [hp];rfl)
     have t5:((c:Int) % 2 == 1)=true:=by rw [beq_iff_eq];omega
     have t6:((c:Int).tmod 2 == 1)=true:=by rw [Int.tmod_eq_emod_of_nonneg (by omega),beq_iff_eq];omega
     clear fin hp;obtain⟨r0,r1,r2⟩:=HS.out _ (al HW2.out hx0.out);go_wp2_with fail;refine(reduced_c true _ _ _ _ _ G3.out G4.out (S3.out _ (Nat.le_refl _)) (S4.out _ (Nat.le_refl _)) D0.out).mono ?_;rintro e w7 ⟨v7,rfl,h7,k7⟩;obtain⟨b7,P7,p7,c7,Q7,q7,d7,rfl⟩:=h7.form2;have G7:=ZZ h7;have K7:=ZZ (al hx0.out k7);have hz7:=HZ.out _ K7.out;obtain⟨z0,z1,z2,f0,f1,f2⟩:=ai hz7;have Hz7:=ZZ hz7;clear h7 k7 hz7;go_wp2_with fail;refine bodyPost_ret (v:=.tuple #[.agg #[.bool b7,.slice P7 p7 c7,.slice Q7 q7 d7],.int .i64 0]) (by simp [results,Tryz.f22];go_simp) rfl ?_;refine⟨_,rfl,?_,ao (al hww.out K7.out) Hsz.out _ _ _⟩;rw [←Hfin.out];exact G7.out.put3 Hz7.out
  ·have hlt:decide (c<j)=true:=by rw [decide_eq_true_eq];omega
   have hlt2:c<j:=by omega
   have q7:(c:Int)+1≤64:=by have:=HJ.out;omega
   have q8:IntKind.i64.wrap ((c:Int)+1)=(c:Int)+1:=IntWalk.i64_in _ (by omega);have Hlt:=ZZ hlt2;have HZ0:=ZZ hz;have Q8:=ZZ q8;clear hlt2 hz hc q8;go_wp2_with fail;have hS0:=HS.out _ (al HW2.out hx0.out);have e1:=ZZ (ac wr);have hx1:=ZZ (al hx0.out e1.out)
   go_region_held3 (fun W=>W.cell? ⟨g0,0,none⟩=some (.bool b1)∧W.cell? ⟨g0,1,none⟩=some (.slice A k ca)∧W.cell? ⟨g0,2,none⟩=some (.slice B l cb)) (first
     | exact HS.out _ (al HW2.out hx4.out)
     | exact HS.out _ (al HW2.out hx3.out)
     | exact HS.out _ (al HW2.out hx2.out)
     | exact HS.out _ (al HW2.out hx1.out))
    (first
     |(have _q:=hx3
       go_at_call 116
       refine(mul_c _ _ _ _ _ (G4.out.mono (al e1.out (al e2.out e3.out))) H3.out (S4.out _ (Nat.le_of_lt Hlt.out)) S2.out).mono ?_;clear _q;rintro e w8 ⟨vv,rfl,h4,k4⟩;obtain⟨P8,p8,c8,rfl⟩:=h4.form';have H4:=ZZ h4;clear h4;have e4:=ZZ k4;have hx4:=ZZ (al hx3.out k4);clear k4)
     |(have _q:=hx2
       go_at_call 115
       refine(under_c _ _ _ (Hx.out.mono (al hww.out hx2.out))).mono ?_;clear _q;rintro e w6 ⟨vv,rfl,h3,k3⟩;obtain⟨P6,p6,c6,rfl⟩:=h3.form';have H3:=ZZ h3;clear h3;have e3:=ZZ k3;have hx3:=ZZ (al hx2.out k3);clear k3)
     |(have _q:=hx1
       go_at_call 116
       refine(mul_c _ _ _ _ _ (G3.out.mono e1.out) (Hxn.out.mono (al hww.out hx1.out)) (S3.out _ (Nat.le_of_lt Hlt.out)) S1.out).mono ?_;clear _q;rintro e w5 ⟨vv,rfl,h2,k2⟩;obtain⟨P5,p5,c5,rfl⟩:=h2.form';have H2:=ZZ h2;clear h2;have e2:=ZZ k2;have hx2:=ZZ (al hx1.out k2);clear k2))
   have q8:=Q8.out;go_wp2_with fail
   go_roundg (gk - 1)
   case measure=>have:=HZ0.out;omega
   case rel=>exact⟨c+1,by have:=HC.out;have:=HZ0.out;omega,by go_num,by rw [Nat.pow_succ];exact(H2.out.mono (al e3.out e4.out)),by rw [Nat.pow_succ];exact H4.out,hx4.out⟩
end Go.Proofs.YtpgdefgdboijlaaGreatDoor
namespace Go.Proofs.YtpgdefgdboijlaaGreatDoor
open Go.RowKit
def tensQ (x:Rat) (k:Int):Rat:=if k<0 then rat (decide (x.num<0)) x.num.natAbs (x.den*10 ^ k.natAbs) else rat (decide (x.num<0)) (x.num.natAbs*10 ^ k.natAbs) x.den
theorem ten_lt (c:Nat):10 ^ c<2 ^ (4*c+1):=by
 have h:10 ^ c≤16 ^ c:=Nat.pow_le_pow_left (by decide) c;rw [Nat.pow_succ,Nat.pow_mul,show (2:Nat) ^ 4=16 from rfl]
 have:=Nat.pow_pos (n:=c) (show 0<16 by decide)
 omega
theorem Bq.tens {B:Nat} {x:Rat} {k:Int} (h:Bq B x):Bq (B+(4*k.natAbs+1)) (tensQ x k):=by
 unfold tensQ;have hp:0<x.den:=x.den_pos
 split
 ·exact bq_rat (lt_mono h.1 (by omega)) (lt_mul h.2 (ten_lt _)) (Nat.ne_of_gt (Nat.mul_pos hp (Nat.pow_pos (by decide))))
 ·exact bq_rat (lt_mul h.1 (ten_lt _)) (lt_mono h.2 (by omega)) (Nat.ne_of_gt hp)
theorem tens_up (M:Nat) (hM:M≤1099511627776) (j:Nat) (hj:j≤1073741824) (vx:Value) (x:Rat) (w:World) (hx:Nm w vx x) (bx:Bq M x):Calls Tryz.prog 106 #[vx,.int .i64 (j:Int)] w fun e w'=>∃v,e=.returned v∧Nm w' v (tensQ x (j:Int))∧Ext w w':=by
 have S1:=ZZ (sm_of_lt bx.1 (by omega));have S2:=ZZ (sm_of_lt bx.2 (by omega));have S3:=ZZ (sm_of_lt (lt_mul bx.1 (ten_lt j)) (by omega));have S4:=ZZ (sm_of_lt (ten_lt j) (by omega));have D0:=ZZ x.den_pos;have HJ:=ZZ hj;have u1:IntKind.i64.wrap (-(j:Int)) = -(j:Int):=IntWalk.i64_in _ (by omega);have u2:max (j:Int) (-(j:Int))=(j:Int):=by omega
 have q2:¬(j:Int)<0:=by omega
 have q3:decide ((j:Int)<0)=false:=by rw [decide_eq_false_iff_not];omega
 clear hj bx hM;obtain⟨A,k,ca,B,l,cb,rfl,hxn,hxd,hkx,hlx⟩:=hx.form;have Hx:=ZZ hx;have Hxn:=ZZ hxn;have Hkx:=ZZ hkx;have Hlx:=ZZ hlx;clear hx hxn hxd hkx hlx;generalize hbx:decide (x.num<0)=b1 at *;have Hbx:=ZZ hbx;clear hbx;obtain⟨hS,hZ,hw1,hw2,hsz,hsz1⟩:=setup1 w (.bool b1) (.slice A k ca) (.slice B l cb);have HS:=ZZ hS;have HZ:=ZZ hZ;have HW1:=ZZ hw1;have HW2:=ZZ hw2;have Hsz1:=ZZ hsz1;clear hS hZ hw1 hw2 hsz hsz1
 go_enter Tryz.func106,Tryz.ntmps106
 go_wp2_with fail;generalize World.alloc (World.alloc w (.cells #[.bool b1,.slice A k ca,.slice B l cb] _)) _=W2 at *
 generalize World.alloc w (.cells #[.bool b1,.slice A k ca,.slice B l cb] _)=W1 at *;generalize hg0:w.heap.size=g0 at *;have Hsz:=ZZ (show w.heap.size≤g0+1 by omega);clear hg0;have hww:=ZZ (al HW1.out HW2.out);have hcs:=HS.out W2 HW2.out;refine(one_c _).mono ?_;rintro e w1 ⟨v1,rfl,h1,k1⟩;obtain⟨P1,p1,c1,rfl⟩:=h1.form';have G1:=ZZ h1;have K1:=ZZ k1;clear h1 k1;go_wp2_with fail;refine(word_c 10 (by decide) _).mono ?_;rintro e w2 ⟨v2,rfl,h2,k2⟩;obtain⟨P2,p2,c2,rfl⟩:=h2.form';have G2:=ZZ h2;have K2:=ZZ k2;clear h2 k2 hcs;go_wp2_with fail
 go_loopg [5,13] j (fun k p i wr=>∃c:Nat,c+k=j∧i=.int .i64 (c:Int)∧Wd wr p (10 ^ c)∧Wd wr (.slice P2 p2 c2) 10∧Ext W2 wr)
 case atStart=>exact⟨0,by omega,rfl,G1.out.mono K2.out,G2.out,al K1.out K2.out⟩
 case round=>
  obtain⟨c,hc,rfl,hp,h10,hext⟩:=hrel;obtain⟨P3,p3,c3,rfl⟩:=hp.form';have G3:=ZZ hp;have G10:=ZZ h10;have hx0:=ZZ hext;have HC:=ZZ hc;clear hp h10 hext
  rcases Nat.eq_zero_or_pos gk with hz|hz
  ·subst hz
   obtain rfl:c=j:=by omega
   clear hc;obtain⟨r0,r1,r2⟩:=HS.out _ (al HW2.out hx0.out);go_wp2_with fail;have hS0:=HS.out _ (al HW2.out hx0.out);have e1:=ZZ (ac wr);have hx1:=ZZ (al hx0.out e1.out)
   go_region_held3 (fun W=>W.cell? ⟨g0,0,none⟩=some (.bool b1)∧W.cell? ⟨g0,1,none⟩=some (.slice A k ca)∧W.cell? ⟨g0,2,none⟩=some (.slice B l cb)) (first
     | exact HS.out _ (ao (al HW2.out hx4.out) Hsz1.out _ _ _)
     | exact HS.out _ (al HW2.out hx4.out)
     | exact HS.out _ (al HW2.out hx3.out)
     | exact HS.out _ (al HW2.out hx2.out)
     | exact HS.out _ (al HW2.out hx1.out))
    (first
     |(have _q:=hx3
       go_at_call 103
       refine(reduced_c _ _ _ _ _ _ (H2.out.mono e3.out) H3.out S3.out S2.out D0.out).mono ?_;clear _q;rintro e w6 ⟨vv,rfl,h4,k4⟩;obtain⟨b6,P6,p6,c6,Q6,q6,d6,rfl⟩:=h4.form2;have H4:=ZZ h4;clear h4;have e4:=ZZ k4;have hx4:=ZZ (al hx3.out k4);clear k4;have hz:=HZ.out _ hx4.out;obtain⟨z0,z1,z2,f0,f1,f2⟩:=ai hz;have Hz:=ZZ hz;clear hz)
     |(have _q:=hx2
       go_at_call 115
       refine(under_c _ _ _ (Hx.out.mono (al hww.out hx2.out))).mono ?_;clear _q;rintro e w5 ⟨vv,rfl,h3,k3⟩;obtain⟨P5,p5,c5,rfl⟩:=h3.form';have H3:=ZZ h3;clear h3;have e3:=ZZ k3;have hx3:=ZZ (al hx2.out k3);clear k3)
     |(have _q:=hx1
       go_at_call 116
       refine(mul_c _ _ _ _ _ (Hxn.out.mono (al hww.out hx1.out)) (G3.out.mono e1.out) S1.out S4.out).mono ?_;clear _q;rintro e w4 ⟨vv,rfl,h2,k2⟩;obtain⟨P4,p4,c4,rfl⟩:=h2.form';have H2:=ZZ h2;clear h2;have e2:=ZZ k2;have hx2:=ZZ (al hx1.out k2);clear k2))
   go_wp2_with fail;refine bodyPost_ret (v:=.agg #[.bool b6,.slice P6 p6 c6,.slice Q6 q6 d6]) (by simp [results,Tryz.f106];go_simp) rfl ?_
   refine⟨_,rfl,?_,ao (al hww.out hx4.out) Hsz.out _ _ _⟩
   have hr:rat b1 (x.num.natAbs*10 ^ c) x.den=tensQ x (c:Int):=by
    unfold tensQ;rw [if_neg (by omega),Hbx.out];rfl
   rw [←hr];exact H4.out.put3 Hz.out
  ·have hlt:decide (c<j)=true:=by rw [decide_eq_true_eq];omega
   have hlt2:c<j:=by omega
   have q7:(c:Int)+1≤1073741824:=by have:=HJ.out;omega
   have Sc:=ZZ (sm_lt (Nat.pow_le_pow_right (show 0<10 by decide) (Nat.le_of_lt hlt2)) S4.out);have Hlt:=ZZ hlt2;have HZ0:=ZZ hz;clear hlt2 hz hc;go_wp2_with fail;refine(mul_c _ _ _ _ _ G3.out G10.out Sc.out (sm_small 10 (by decide))).mono ?_;rintro e w4 ⟨v4,rfl,h4,k4⟩;have G4:=ZZ h4;have K4:=ZZ k4;clear h4 k4;go_wp2_with fail
   go_roundg (gk - 1)
   case measure=>have:=HZ0.out;omega
   case rel=>exact⟨c+1,by have:=HC.out;have:=HZ0.out;omega,by go_num,by rw [Nat.pow_succ];exact G4.out,G10.out.mono K4.out,al hx0.out K4.out⟩
theorem tens_down (M:Nat) (hM:M≤1099511627776) (j:Nat) (h0:0<j) (hj:j≤1073741824) (vx:Value) (x:Rat) (w:World) (hx:Nm w vx x) (bx:Bq M x):Calls Tryz.prog 106 #[vx,.int .i64 (-(j:Int))] w fun e w'=>∃v,e=.returned v∧Nm w' v (tensQ x (-(j:Int)))∧Ext w w':=by
 have S1:=ZZ (sm_of_lt bx.1 (by omega));have S2:=ZZ (sm_of_lt bx.2 (by omega));have S3:=ZZ (sm_of_lt (lt_mul bx.2 (ten_lt j)) (by omega));have S4:=ZZ (sm_of_lt (ten_lt j) (by omega));have D0:=ZZ (Nat.mul_pos x.den_pos (Nat.pow_pos (n:=j) (show 0<10 by decide)));have HJ:=ZZ hj;have HP:=ZZ h0;have u1:IntKind.i64.wrap (- -(j:Int))=(j:Int):=(IntWalk.i64_in _ (by omega)).trans (by omega);have u2:max (-(j:Int)) (j:Int)=(j:Int):=by omega
 have u4:IntKind.i64.wrap (j:Int)=(j:Int):=IntWalk.i64_in _ (by omega);have q2:-(j:Int)<0:=by omega
 have q3:decide (-(j:Int)<0)=true:=by rw [decide_eq_true_eq];omega
 clear hj bx hM h0;obtain⟨A,k,ca,B,l,cb,rfl,hxn,hxd,hkx,hlx⟩:=hx.form;have Hx:=ZZ hx;have Hxn:=ZZ hxn;have Hkx:=ZZ hkx;have Hlx:=ZZ hlx;clear hx hxn hxd hkx hlx;generalize hbx:decide (x.num<0)=b1 at *;have Hbx:=ZZ hbx;clear hbx;obtain⟨hS,hZ,hw1,hw2,hsz,hsz1⟩:=setup1 w (.bool b1) (.slice A k ca) (.slice B l cb);have HS:=ZZ hS;have HZ:=ZZ hZ;have HW1:=ZZ hw1;have HW2:=ZZ hw2;have Hsz1:=ZZ hsz1;clear hS hZ hw1 hw2 hsz hsz1
 go_enter Tryz.func106,Tryz.ntmps106
 go_wp2_with fail;generalize World.alloc (World.alloc w (.cells #[.bool b1,.slice A k ca,.slice B l cb] _)) _=W2 at *
 generalize World.alloc w (.cells #[.bool b1,.slice A k ca,.slice B l cb] _)=W1 at *;generalize hg0:w.heap.size=g0 at *;have Hsz:=ZZ (show w.heap.size≤g0+1 by omega);clear hg0;have hww:=ZZ (al HW1.out HW2.out);have hcs:=HS.out W2 HW2.out;refine(one_c _).mono ?_;rintro e w1 ⟨v1,rfl,h1,k1⟩;obtain⟨P1,p1,c1,rfl⟩:=h1.form';have G1:=ZZ h1;have K1:=ZZ k1;clear h1 k1;go_wp2_with fail;refine(word_c 10 (by decide) _).mono ?_;rintro e w2 ⟨v2,rfl,h2,k2⟩;obtain⟨P2,p2,c2,rfl⟩:=h2.form';have G2:=ZZ h2;have K2:=ZZ k2;clear h2 k2 hcs;go_wp2_with fail
 go_loopg [5,13] j (fun k p i wr=>∃c:Nat,c+k=j∧i=.int .i64 (c:Int)∧Wd wr p (10 ^ c)∧Wd wr (.slice P2 p2 c2) 10∧Ext W2 wr)
 case atStart=>exact⟨0,by omega,rfl,G1.out.mono K2.out,G2.out,al K1.out K2.out⟩
 case round=>
  obtain⟨c,hc,rfl,hp,h10,hext⟩:=hrel;obtain⟨P3,p3,c3,rfl⟩:=hp.form';have G3:=ZZ hp;have G10:=ZZ h10;have hx0:=ZZ hext;have HC:=ZZ hc;clear hp h10 hext
  rcases Nat.eq_zero_or_pos gk with hz|hz
  ·subst hz
   obtain rfl:c=j:=by omega
   clear hc;obtain⟨r0,r1,r2⟩:=HS.out _ (al HW2.out hx0.out);go_wp2_with fail;have hS0:=HS.out _ (al HW2.out hx0.out);have e1:=ZZ (ac wr);have hx1:=ZZ (al hx0.out e1.out)
   go_region_held3 (fun W=>W.cell? ⟨g0,0,none⟩=some (.bool b1)∧W.cell? ⟨g0,1,none⟩=some (.slice A k ca)∧W.cell? ⟨g0,2,none⟩=some (.slice B l cb)) (first
     | exact HS.out _ (ao (al HW2.out hx4.out) Hsz1.out _ _ _)
     | exact HS.out _ (al HW2.out hx4.out)
     | exact HS.out _ (al HW2.out hx3.out)
     | exact HS.out _ (al HW2.out hx2.out)
     | exact HS.out _ (al HW2.out hx1.out))
    (first
     |(have _q:=hx3
       go_at_call 103
       refine(reduced_c _ _ _ _ _ _ (Hxn.out.mono (al hww.out hx3.out)) H3.out S1.out S3.out D0.out).mono ?_;clear _q;rintro e w6 ⟨vv,rfl,h4,k4⟩;obtain⟨b6,P6,p6,c6,Q6,q6,d6,rfl⟩:=h4.form2;have H4:=ZZ h4;clear h4;have e4:=ZZ k4;have hx4:=ZZ (al hx3.out k4);clear k4;have hz:=HZ.out _ hx4.out;obtain⟨z0,z1,z2,f0,f1,f2⟩:=ai hz;have Hz:=ZZ hz;clear hz)
     |(have _q:=hx2
       go_at_call 116
       refine(mul_c _ _ _ _ _ H2.out (G3.out.mono (al e1.out e2.out)) S2.out S4.out).mono ?_;clear _q;rintro e w5 ⟨vv,rfl,h3,k3⟩;obtain⟨P5,p5,c5,rfl⟩:=h3.form';have H3:=ZZ h3;clear h3;have e3:=ZZ k3;have hx3:=ZZ (al hx2.out k3);clear k3)
     |(have _q:=hx1
       go_at_call 115
       refine(under_c _ _ _ (Hx.out.mono (al hww.out hx1.out))).mono ?_;clear _q;rintro e w4 ⟨vv,rfl,h2,k2⟩;obtain⟨P4,p4,c4,rfl⟩:=h2.form';have H2:=ZZ h2;clear h2;have e2:=ZZ k2;have hx2:=ZZ (al hx1.out k2);clear k2))
   go_wp2_with fail;refine bodyPost_ret (v:=.agg #[.bool b6,.slice P6 p6 c6,.slice Q6 q6 d6]) (by simp [results,Tryz.f106];go_simp) rfl ?_
   refine⟨_,rfl,?_,ao (al hww.out hx4.out) Hsz.out _ _ _⟩
   have hr:rat b1 x.num.natAbs (x.den*10 ^ c)=tensQ x (-(c:Int)):=by
    unfold tensQ;rw [if_pos (by have:=HP.out;omega),Hbx.out,Int.natAbs_neg];rfl
   rw [←hr];exact H4.out.put3 Hz.out
  ·have hlt:decide (c<j)=true:=by rw [decide_eq_true_eq];omega
   have hlt2:c<j:=by omega
   have q7:(c:Int)+1≤1073741824:=by have:=HJ.out;omega
   have Sc:=ZZ (sm_lt (Nat.pow_le_pow_right (show 0<10 by decide) (Nat.le_of_lt hlt2)) S4.out);have Hlt:=ZZ hlt2;have HZ0:=ZZ hz;clear hlt2 hz hc;go_wp2_with fail;refine(mul_c _ _ _ _ _ G3.out G10.out Sc.out (sm_small 10 (by decide))).mono ?_;rintro e w4 ⟨v4,rfl,h4,k4⟩;have G4:=ZZ h4;have K4:=ZZ k4;clear h4 k4;go_wp2_with fail
   go_roundg (gk - 1)
   case measure=>have:=HZ0.out;omega
   case rel=>exact⟨c+1,by have:=HC.out;have:=HZ0.out;omega,by go_num,by rw [Nat.pow_succ];exact G4.out,G10.out.mono K4.out,al hx0.out K4.out⟩
theorem tens_q (M:Nat) (hM:M≤1099511627776) (z:Int) (hz:z.natAbs≤1073741824) (vx:Value) (x:Rat) (w:World) (hx:Nm w vx x) (bx:Bq M x):Calls Tryz.prog 106 #[vx,.int .i64 z] w fun e w'=>∃v,e=.returned v∧Nm w' v (tensQ x z)∧Ext w w':=by
 rcases(show z<0∨0≤z by omega) with h|h
 ·obtain⟨k,rfl⟩:∃k:Nat,z = -(k:Int):=⟨z.natAbs,by omega⟩
  exact tens_down M hM k (by omega) (by omega) vx x w hx bx
 ·obtain⟨k,rfl⟩:∃k:Nat,z=(k:Int):=⟨z.toNat,by omega⟩
  exact tens_up M hM k (by omega) vx x w hx bx
end Go.Proofs.YtpgdefgdboijlaaGreatDoor
