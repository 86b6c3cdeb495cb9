/- Numbers: the product. Numbers: negative, size, sign. -/
import Derived.Test.YtjamgccgoapbeaaGreatDoorGRat
import Derived.Deep.RegionHeld3
set_option linter.unusedVariables false
set_option maxRecDepth 100000
set_option maxHeartbeats 64000000
namespace Go.Proofs.YtjamgccgoapbeaaGreatDoor
open Go.RowKit
theorem setup2 (w:World) (x0 x1 x2 y0 y1 y2:Value):(∀W,Ext ((w.alloc (.cells #[x0,x1,x2] 35)).alloc (.cells #[y0,y1,y2] 35)) W→W.cell? ⟨w.heap.size,0,none⟩=some x0∧W.cell? ⟨w.heap.size,1,none⟩=some x1∧W.cell? ⟨w.heap.size,2,none⟩=some x2∧W.cell? ⟨w.heap.size+1,0,none⟩=some y0∧W.cell? ⟨w.heap.size+1,1,none⟩=some y1∧W.cell? ⟨w.heap.size+1,2,none⟩=some y2)∧(∀W,Ext (((w.alloc (.cells #[x0,x1,x2] 35)).alloc (.cells #[y0,y1,y2] 35)).alloc (.cells #[.bool false,.slice none 0 0,.slice none 0 0] 35)) W→W.heap[w.heap.size+1+1]?=some (.cells #[.bool false,.slice none 0 0,.slice none 0 0] 35 (0,0)))∧Ext w ((w.alloc (.cells #[x0,x1,x2] 35)).alloc (.cells #[y0,y1,y2] 35))∧Ext ((w.alloc (.cells #[x0,x1,x2] 35)).alloc (.cells #[y0,y1,y2] 35)) (((w.alloc (.cells #[x0,x1,x2] 35)).alloc (.cells #[y0,y1,y2] 35)).alloc (.cells #[.bool false,.slice none 0 0,.slice none 0 0] 35))∧w.heap.size≤w.heap.size+1+1∧((w.alloc (.cells #[x0,x1,x2] 35)).alloc (.cells #[y0,y1,y2] 35)).heap.size≤w.heap.size+1+1:=by
 have z0:(w.alloc (.cells #[x0,x1,x2] 35)).heap.size=w.heap.size+1:=by simp
 have z1:((w.alloc (.cells #[x0,x1,x2] 35)).alloc (.cells #[y0,y1,y2] 35)).heap.size=w.heap.size+1+1:=by simp
 have e0:Ext w (w.alloc (.cells #[x0,x1,x2] 35)):=ab _ _;generalize hw0:w.alloc (.cells #[x0,x1,x2] 35)=w0 at *;have e1:Ext w0 (w0.alloc (.cells #[y0,y1,y2] 35)):=ab _ _;refine⟨fun W h=>?_,fun W h=>?_,ak e0 e1,ab _ _,by omega,Nat.le_of_eq z1⟩
 ·have r0:=row3 (hw0 ▸ (ak e1 h):Ext (w.alloc (.cells #[x0,x1,x2] 35)) W)
  have r1:=row3 h;rw [z0] at r1;obtain⟨a,b,c,-⟩:=aj r0;obtain⟨a',b',c',-⟩:=aj r1;exact⟨a,b,c,a',b',c'⟩
 ·have r2:=row3 h
  rw [z1] at r2;exact r2
theorem Nm.put3 {W:World} {s:Bool} {A B:Option Addr} {k c l d g:Nat} {q:Rat} (h:Nm W (.agg #[.bool s,.slice A k c,.slice B l d]) q) (hg:W.heap[g]?=some (.cells #[.bool false,.slice none 0 0,.slice none 0 0] 35 (0,0))):Nm (((W.setCell ⟨g,0,none⟩ (.bool s)).setCell ⟨g,1,none⟩ (.slice A k c)).setCell ⟨g,2,none⟩ (.slice B l d)) (.agg #[.bool s,.slice A k c,.slice B l d]) q:=by
 obtain⟨vn,vd,e,h1,h2⟩:=h;exact⟨vn,vd,e,h1.put3 hg _ _ _,h2.put3 hg _ _ _⟩
theorem mul_q (M:Nat) (hM:M≤1099511627776) (vx vy:Value) (x y:Rat) (w:World) (hx:Nm w vx x) (hy:Nm w vy y) (bx:Bq M x) (by_:Bq M y):Calls Tryz.prog 45 #[vx,vy] w fun e w'=>∃v,e=.returned v∧Nm w' v (x*y)∧Ext w w':=by
 obtain⟨A,k,ca,B,l,cb,rfl,hxn,hxd,-,-⟩:=hx.form;obtain⟨C,m,cc,D,n,cd,rfl,hyn,hyd,-,-⟩:=hy.form;obtain⟨s1,s2,-,-,-,-⟩:=Bq.sm2 bx by_ hM;obtain⟨s3,s4⟩:=bx.sm hM;obtain⟨s5,s6⟩:=by_.sm hM;have D0:=ZZ (Nat.mul_pos x.den_pos y.den_pos);have Hx:=ZZ hx;have Hy:=ZZ hy;have Hxn:=ZZ hxn;have Hyn:=ZZ hyn;have S1:=ZZ s1;have S2:=ZZ s2;have S3:=ZZ s3;have S4:=ZZ s4;have S5:=ZZ s5;have S6:=ZZ s6;obtain⟨hS,hZ,hw1,hw2,hsz,hsz1⟩:=setup2 w (.bool (decide (x.num<0))) (.slice A k ca) (.slice B l cb) (.bool (decide (y.num<0))) (.slice C m cc) (.slice D n cd);have HS:=ZZ hS;have HZ:=ZZ hZ;have HW1:=ZZ hw1;have HW2:=ZZ hw2;have Hsz:=ZZ hsz;have Hsz1:=ZZ hsz1;clear hx hy hxn hxd hyn hyd s1 s2 s3 s4 s5 s6 hS hZ hw1 hw2 hsz hsz1 bx by_ hM;generalize hbx:decide (x.num<0)=b1 at *;generalize hby:decide (y.num<0)=b2 at *;have Hbx:=ZZ hbx
 have Hby:=ZZ hby
 clear hbx hby
 go_enter Tryz.func45,Tryz.ntmps45
 go_wp2_with fail;generalize World.alloc (World.alloc (World.alloc w (.cells #[.bool b1,.slice A k ca,.slice B l cb] _)) (.cells #[.bool b2,.slice C m cc,.slice D n cd] _)) _=W2 at *
 generalize World.alloc (World.alloc w (.cells #[.bool b1,.slice A k ca,.slice B l cb] _)) (.cells #[.bool b2,.slice C m cc,.slice D n cd] _)=W1 at *;generalize hg0:w.heap.size=g0 at *;have Hsz:=ZZ (show w.heap.size≤g0+1+1 by omega);clear hg0;have hx0:=ZZ (ac W2);have hww:=ZZ (ak HW1.out HW2.out);have hS0:=HS.out W2 HW2.out
 go_region_held3 (fun W=>W.cell? ⟨g0,0,none⟩=some (.bool b1)∧W.cell? ⟨g0,1,none⟩=some (.slice A k ca)∧W.cell? ⟨g0,2,none⟩=some (.slice B l cb)∧W.cell? ⟨g0+1,0,none⟩=some (.bool b2)∧W.cell? ⟨g0+1,1,none⟩=some (.slice C m cc)∧W.cell? ⟨g0+1,2,none⟩=some (.slice D n cd))
  (first
   | exact HS.out _ (al (ak HW2.out hx5.out) Hsz1.out _ _ _)
   | exact HS.out _ (ak HW2.out hx5.out)
   | exact HS.out _ (ak HW2.out hx4.out)
   | exact HS.out _ (ak HW2.out hx3.out)
   | exact HS.out _ (ak HW2.out hx2.out)
   | exact HS.out _ (ak HW2.out hx1.out)
   | exact HS.out _ (ak HW2.out hx0.out))
  (first
   |(go_at_call_of 73 A
     refine(mul_c _ _ _ _ _ (Hxn.out.mono (ak hww.out hx0.out)) (Hyn.out.mono (ak hww.out hx0.out)) S3.out S5.out).mono ?_;rintro e w3 ⟨v3,rfl,h3,k3⟩;obtain⟨P1,p1,c1,rfl⟩:=h3.form';have hx1:=ZZ (ak hx0.out k3);have H3:=ZZ h3;clear h3 k3)
   |(go_at_call_of 74 B
     refine(under_c _ _ _ (Hx.out.mono (ak hww.out hx1.out))).mono ?_;rintro e w4 ⟨v4,rfl,h4,k4⟩;obtain⟨P2,p2,c2,rfl⟩:=h4.form';have hx2:=ZZ (ak hx1.out k4);have H3':=ZZ (H3.out.mono k4);have H4:=ZZ h4;clear h4 k4)
   |(go_at_call_of 74 D
     refine(under_c _ _ _ (Hy.out.mono (ak hww.out hx2.out))).mono ?_;rintro e w5 ⟨v5,rfl,h5,k5⟩;obtain⟨P3,p3,c3,rfl⟩:=h5.form';have hx3:=ZZ (ak hx2.out k5);have H3'':=ZZ (H3'.out.mono k5);have H4':=ZZ (H4.out.mono k5);have H5:=ZZ h5;clear h5 k5)
   |(go_at_call_of 73 P2
     refine(mul_c _ _ _ _ _ H4'.out H5.out S4.out S6.out).mono ?_;rintro e w6 ⟨v6,rfl,h6,k6⟩;obtain⟨P4,p4,c4,rfl⟩:=h6.form';have hx4:=ZZ (ak hx3.out k6);have H3t:=ZZ (H3''.out.mono k6);have H6:=ZZ h6;clear h6 k6)
   |(go_at_call 57
     refine(reduced_c _ _ _ _ _ _ H3t.out H6.out S1.out S2.out D0.out).mono ?_;rintro e w7 ⟨v7,rfl,h7,k7⟩;obtain⟨P5,p5,c5,P6,p6,c6,h7e,-⟩:=h7.form;subst h7e;have hx5:=ZZ (ak hx4.out k7);have H7:=ZZ h7;have hz:=HZ.out _ hx5.out;obtain⟨z0,z1,z2,f0,f1,f2⟩:=aj hz;have Hz:=ZZ hz;clear h7 k7 hz))
 go_wp2_with fail;refine bodyPost_ret (v:=.agg #[.bool (decide ((rat (!(b1 == b2)) (x.num.natAbs*y.num.natAbs) (x.den*y.den)).num<0)),.slice P5 p5 c5,.slice P6 p6 c6]) (by simp [results,Tryz.f45];go_simp) rfl ?_
 refine⟨_,rfl,?_,al (ak hww.out hx5.out) Hsz.out _ _ _⟩;have hr:=mul_parts x y;rw [Hbx.out,Hby.out] at hr;have hr':rat (!(b1 == b2)) (x.num.natAbs*y.num.natAbs) (x.den*y.den)=x*y:=hr;have h8:=H7.out.put3 Hz.out;rw [hr'] at h8 ⊢;exact h8
end Go.Proofs.YtjamgccgoapbeaaGreatDoor
set_option linter.unusedVariables false
set_option maxRecDepth 100000
set_option maxHeartbeats 64000000
namespace Go.Proofs.YtjamgccgoapbeaaGreatDoor
open Go.RowKit
theorem setup1 (w:World) (x0 x1 x2:Value):(∀W,Ext (w.alloc (.cells #[x0,x1,x2] 35)) W→W.cell? ⟨w.heap.size,0,none⟩=some x0∧W.cell? ⟨w.heap.size,1,none⟩=some x1∧W.cell? ⟨w.heap.size,2,none⟩=some x2)∧(∀W,Ext ((w.alloc (.cells #[x0,x1,x2] 35)).alloc (.cells #[.bool false,.slice none 0 0,.slice none 0 0] 35)) W→W.heap[w.heap.size+1]?=some (.cells #[.bool false,.slice none 0 0,.slice none 0 0] 35 (0,0)))∧Ext w (w.alloc (.cells #[x0,x1,x2] 35))∧Ext (w.alloc (.cells #[x0,x1,x2] 35)) ((w.alloc (.cells #[x0,x1,x2] 35)).alloc (.cells #[.bool false,.slice none 0 0,.slice none 0 0] 35))∧w.heap.size≤w.heap.size+1∧(w.alloc (.cells #[x0,x1,x2] 35)).heap.size≤w.heap.size+1:=by
 have z0:(w.alloc (.cells #[x0,x1,x2] 35)).heap.size=w.heap.size+1:=by simp
 refine⟨fun W h=>?_,fun W h=>?_,ab _ _,ab _ _,by omega,Nat.le_of_eq z0⟩
 ·obtain⟨a,b,c,-⟩:=aj (row3 h)
  exact⟨a,b,c⟩
 ·have r2:=row3 h
  rw [z0] at r2;exact r2
theorem setup2n (w:World) (x0 x1 x2 y0 y1 y2:Value):(∀W,Ext ((w.alloc (.cells #[x0,x1,x2] 35)).alloc (.cells #[y0,y1,y2] 35)) W→W.cell? ⟨w.heap.size,0,none⟩=some x0∧W.cell? ⟨w.heap.size,1,none⟩=some x1∧W.cell? ⟨w.heap.size,2,none⟩=some x2∧W.cell? ⟨w.heap.size+1,0,none⟩=some y0∧W.cell? ⟨w.heap.size+1,1,none⟩=some y1∧W.cell? ⟨w.heap.size+1,2,none⟩=some y2)∧Ext w ((w.alloc (.cells #[x0,x1,x2] 35)).alloc (.cells #[y0,y1,y2] 35)):=by
 have h:=setup2 w x0 x1 x2 y0 y1 y2;exact⟨h.1,h.2.2.1⟩
theorem dn_neg (x:Rat):dn (-x)=dn x:=by unfold dn;rw [Rat.neg_den]
theorem Nm.flip {W:World} {s:Bool} {vn vd:Value} {x:Rat} (h1:Wd W vn x.num.natAbs) (h2:Wd W vd (dn x)) (hs:s=decide ((-x).num<0)):Nm W (.agg #[.bool s,vn,vd]) (-x):=by
 subst hs;exact⟨_,_,rfl,by rw [Rat.neg_num,Int.natAbs_neg];exact h1,by rw [dn_neg];exact h2⟩
theorem Nm.same {W:World} {s:Bool} {vn vd:Value} {x:Rat} (h1:Wd W vn x.num.natAbs) (h2:Wd W vd (dn x)) (hs:s=decide (x.num<0)):Nm W (.agg #[.bool s,vn,vd]) x:=by
 subst hs;exact⟨_,_,rfl,h1,h2⟩
theorem ext2 (w:World) (a b:Obj):Ext w ((w.alloc a).alloc b):=ak (ab _ _) (ab _ _)
theorem ret_i {a b:Int} (h:a=b):Ending.returned (.int .i64 b)=.returned (.int .i64 a):=by rw [h]
def absQ (x:Rat):Rat:=if x.num<0 then -x else x
theorem neg_q (vx:Value) (x:Rat) (w:World) (hx:Nm w vx x):Calls Tryz.prog 64 #[vx] w fun e w'=>∃v,e=.returned v∧Nm w' v (-x)∧Ext w w':=by
 obtain⟨A,k,ca,B,l,cb,rfl,hxn,hxd,hk,-⟩:=hx.form;have Hxn:=ZZ hxn;have Hxd:=ZZ hxd;have Hk:=ZZ hk;clear hx hxn hxd hk
 rcases hb:decide (x.num<0) with _|_
 ·have Hb:=ZZ (show ¬ x.num<0 by simpa using hb)
  clear hb
  rcases Nat.eq_zero_or_pos k with h0|h0
  ·subst h0
   go_enter Tryz.func64,Tryz.ntmps64
   go_wp2_with fail;refine bodyPost_ret (v:=.agg #[.bool false,.slice A 0 ca,.slice B l cb]) (by simp [results,Tryz.f64];go_simp) rfl ?_
   have e:x=0:=Hk.out.1 (by first|rfl|trivial);refine⟨_,rfl,Nm.flip (Hxn.out.mono (ext2 _ _ _)) (Hxd.out.mono (ext2 _ _ _)) ?_,ext2 _ _ _⟩;rw [e];rfl
  ·have t1:((0:Int)<(k:Int)):=by omega
   have hk0:¬ k=0:=by omega
   have Hk0:=ZZ hk0;clear hk0
   go_enter Tryz.func64,Tryz.ntmps64
   go_wp2_with fail;refine bodyPost_ret (v:=.agg #[.bool true,.slice A k ca,.slice B l cb]) (by simp [results,Tryz.f64];go_simp) rfl ?_
   have e:x.num≠0:=fun e=>Hk0.out (Hk.out.2 (Rat.num_eq_zero.1 e));have hb:=Hb.out;refine⟨_,rfl,Nm.flip (Hxn.out.mono (ext2 _ _ _)) (Hxd.out.mono (ext2 _ _ _)) ?_,ext2 _ _ _⟩;rw [Rat.neg_num];symm;rw [decide_eq_true_eq];omega
 ·have Hb:=ZZ (show x.num<0 by simpa using hb)
  clear hb
  go_enter Tryz.func64,Tryz.ntmps64
  go_wp2_with fail;refine bodyPost_ret (v:=.agg #[.bool false,.slice A k ca,.slice B l cb]) (by simp [results,Tryz.f64];go_simp) rfl ?_
  have hb:=Hb.out;refine⟨_,rfl,Nm.flip (Hxn.out.mono (ext2 _ _ _)) (Hxd.out.mono (ext2 _ _ _)) ?_,ext2 _ _ _⟩;rw [Rat.neg_num];symm;rw [decide_eq_false_iff_not];omega
theorem abs_q (vx:Value) (x:Rat) (w:World) (hx:Nm w vx x):Calls Tryz.prog 116 #[vx] w fun e w'=>∃v,e=.returned v∧Nm w' v (absQ x)∧Ext w w':=by
 obtain⟨A,k,ca,B,l,cb,rfl,hxn,hxd,hk,-⟩:=hx.form;have Hxn:=ZZ hxn;have Hxd:=ZZ hxd;clear hx hxn hxd hk;generalize hb:decide (x.num<0)=b;have Hb:=ZZ hb;clear hb
 go_enter Tryz.func116,Tryz.ntmps116
 go_wp2_with fail;refine bodyPost_ret (v:=.agg #[.bool false,.slice A k ca,.slice B l cb]) (by simp [results,Tryz.f116];go_simp) rfl ?_
 refine⟨_,rfl,?_,ext2 _ _ _⟩;unfold absQ
 split
 ·rename_i h
  exact Nm.flip (Hxn.out.mono (ext2 _ _ _)) (Hxd.out.mono (ext2 _ _ _)) (by rw [Rat.neg_num];symm;rw [decide_eq_false_iff_not];omega)
 ·rename_i h
  exact Nm.same (Hxn.out.mono (ext2 _ _ _)) (Hxd.out.mono (ext2 _ _ _)) (by symm;rw [decide_eq_false_iff_not];exact h)
theorem sign_q (vx:Value) (x:Rat) (w:World) (hx:Nm w vx x):Calls Tryz.prog 67 #[vx] w fun e w'=>e=.returned (.int .i64 x.num.sign)∧Ext w w':=by
 obtain⟨A,k,ca,B,l,cb,rfl,hxn,hxd,hk,-⟩:=hx.form;have Hk:=ZZ hk;clear hx hxn hxd hk
 rcases Nat.eq_zero_or_pos k with h0|h0
 ·subst h0
  generalize hb:decide (x.num<0)=b;clear hb
  go_enter Tryz.func67,Tryz.ntmps67
  go_wp2_with fail;go_ret
  have e:x=0:=Hk.out.1 (by first|rfl|trivial);exact⟨ret_i (by rw [e];rfl),ab _ _⟩
 ·have t1:((k:Int) == 0)=false:=by simp;omega
  have Hk0:=ZZ (show ¬ k=0 by omega)
  rcases hb:decide (x.num<0) with _|_
  ·have Hb:=ZZ (show ¬ x.num<0 by simpa using hb)
   clear hb
   go_enter Tryz.func67,Tryz.ntmps67
   go_wp2_with fail;go_ret
   have e:x.num≠0:=fun e=>Hk0.out (Hk.out.2 (Rat.num_eq_zero.1 e));have hb:=Hb.out;exact⟨ret_i (Int.sign_eq_one_of_pos (by omega)),ab _ _⟩
  ·have Hb:=ZZ (show x.num<0 by simpa using hb)
   clear hb
   go_enter Tryz.func67,Tryz.ntmps67
   go_wp2_with fail;go_ret
   exact⟨ret_i (Int.sign_eq_neg_one_of_neg Hb.out),ab _ _⟩
end Go.Proofs.YtjamgccgoapbeaaGreatDoor
