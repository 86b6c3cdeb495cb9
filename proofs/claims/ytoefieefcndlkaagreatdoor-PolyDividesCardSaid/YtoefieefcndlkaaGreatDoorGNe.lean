/- Numbers: the product. Numbers: negative, size, sign. Numbers: sums. Printed by gen_ne.py. -/
import Derived.Test.YtoefieefcndlkaaGreatDoorGRat
import Derived.Deep.RegionHeld3
set_option linter.unusedVariables false
set_option maxRecDepth 100000
set_option maxHeartbeats 64000000
namespace Go.Proofs.YtoefieefcndlkaaGreatDoor
open Go.RowKit
theorem setup2 (w:World) (x0 x1 x2 y0 y1 y2:Value):(∀W,Ext ((w.alloc (.cells #[x0,x1,x2] 52)).alloc (.cells #[y0,y1,y2] 52)) W→W.cell? ⟨w.heap.size,0,none⟩=some x0∧W.cell? ⟨w.heap.size,1,none⟩=some x1∧W.cell? ⟨w.heap.size,2,none⟩=some x2∧W.cell? ⟨w.heap.size+1,0,none⟩=some y0∧W.cell? ⟨w.heap.size+1,1,none⟩=some y1∧W.cell? ⟨w.heap.size+1,2,none⟩=some y2)∧(∀W,Ext (((w.alloc (.cells #[x0,x1,x2] 52)).alloc (.cells #[y0,y1,y2] 52)).alloc (.cells #[.bool false,.slice none 0 0,.slice none 0 0] 52)) W→W.heap[w.heap.size+1+1]?=some (.cells #[.bool false,.slice none 0 0,.slice none 0 0] 52 (0,0)))∧Ext w ((w.alloc (.cells #[x0,x1,x2] 52)).alloc (.cells #[y0,y1,y2] 52))∧Ext ((w.alloc (.cells #[x0,x1,x2] 52)).alloc (.cells #[y0,y1,y2] 52)) (((w.alloc (.cells #[x0,x1,x2] 52)).alloc (.cells #[y0,y1,y2] 52)).alloc (.cells #[.bool false,.slice none 0 0,.slice none 0 0] 52))∧w.heap.size≤w.heap.size+1+1∧((w.alloc (.cells #[x0,x1,x2] 52)).alloc (.cells #[y0,y1,y2] 52)).heap.size≤w.heap.size+1+1:=by
 have z0:(w.alloc (.cells #[x0,x1,x2] 52)).heap.size=w.heap.size+1:=by simp
 have z1:((w.alloc (.cells #[x0,x1,x2] 52)).alloc (.cells #[y0,y1,y2] 52)).heap.size=w.heap.size+1+1:=by simp
 have e0:Ext w (w.alloc (.cells #[x0,x1,x2] 52)):=ab _ _;generalize hw0:w.alloc (.cells #[x0,x1,x2] 52)=w0 at *;have e1:Ext w0 (w0.alloc (.cells #[y0,y1,y2] 52)):=ab _ _;refine⟨fun W h=>?_,fun W h=>?_,ak e0 e1,ab _ _,by omega,Nat.le_of_eq z1⟩
 ·have r0:=row3 (hw0 ▸ (ak e1 h):Ext (w.alloc (.cells #[x0,x1,x2] 52)) W)
  have r1:=row3 h;rw [z0] at r1;obtain⟨a,b,c,-⟩:=ai r0;obtain⟨a',b',c',-⟩:=ai r1;exact⟨a,b,c,a',b',c'⟩
 ·have r2:=row3 h
  rw [z1] at r2;exact r2
theorem Nm.put3 {W:World} {s:Bool} {A B:Option Addr} {k c l d g:Nat} {q:Rat} (h:Nm W (.agg #[.bool s,.slice A k c,.slice B l d]) q) (hg:W.heap[g]?=some (.cells #[.bool false,.slice none 0 0,.slice none 0 0] 52 (0,0))):Nm (((W.setCell ⟨g,0,none⟩ (.bool s)).setCell ⟨g,1,none⟩ (.slice A k c)).setCell ⟨g,2,none⟩ (.slice B l d)) (.agg #[.bool s,.slice A k c,.slice B l d]) q:=by
 obtain⟨vn,vd,e,h1,h2⟩:=h;exact⟨vn,vd,e,h1.put3 hg _ _ _,h2.put3 hg _ _ _⟩
theorem mul_q (M:Nat) (hM:M≤1099511627776) (vx vy:Value) (x y:Rat) (w:World) (hx:Nm w vx x) (hy:Nm w vy y) (bx:Bq M x) (by_:Bq M y):Calls Tryz.prog 46 #[vx,vy] w fun e w'=>∃v,e=.returned v∧Nm w' v (x*y)∧Ext w w':=by
 obtain⟨A,k,ca,B,l,cb,rfl,hxn,hxd,-,-⟩:=hx.form;obtain⟨C,m,cc,D,n,cd,rfl,hyn,hyd,-,-⟩:=hy.form;obtain⟨s1,s2,-,-,-,-⟩:=Bq.sm2 bx by_ hM;obtain⟨s3,s4⟩:=bx.sm hM;obtain⟨s5,s6⟩:=by_.sm hM;have D0:=ZZ (Nat.mul_pos x.den_pos y.den_pos);have Hx:=ZZ hx;have Hy:=ZZ hy;have Hxn:=ZZ hxn;have Hyn:=ZZ hyn;have S1:=ZZ s1;have S2:=ZZ s2;have S3:=ZZ s3;have S4:=ZZ s4;have S5:=ZZ s5;have S6:=ZZ s6;obtain⟨hS,hZ,hw1,hw2,hsz,hsz1⟩:=setup2 w (.bool (decide (x.num<0))) (.slice A k ca) (.slice B l cb) (.bool (decide (y.num<0))) (.slice C m cc) (.slice D n cd);have HS:=ZZ hS;have HZ:=ZZ hZ;have HW1:=ZZ hw1;have HW2:=ZZ hw2;have Hsz:=ZZ hsz;have Hsz1:=ZZ hsz1;clear hx hy hxn hxd hyn hyd s1 s2 s3 s4 s5 s6 hS hZ hw1 hw2 hsz hsz1 bx by_ hM;generalize hbx:decide (x.num<0)=b1 at *;generalize hby:decide (y.num<0)=b2 at *;have Hbx:=ZZ hbx
 have Hby:=ZZ hby
 clear hbx hby
 go_enter Tryz.func46,Tryz.ntmps46
 go_wp2_with fail;generalize World.alloc (World.alloc (World.alloc w (.cells #[.bool b1,.slice A k ca,.slice B l cb] _)) (.cells #[.bool b2,.slice C m cc,.slice D n cd] _)) _=W2 at *
 generalize World.alloc (World.alloc w (.cells #[.bool b1,.slice A k ca,.slice B l cb] _)) (.cells #[.bool b2,.slice C m cc,.slice D n cd] _)=W1 at *;generalize hg0:w.heap.size=g0 at *;have Hsz:=ZZ (show w.heap.size≤g0+1+1 by omega);clear hg0;have hx0:=ZZ (ac W2);have hww:=ZZ (ak HW1.out HW2.out);have hS0:=HS.out W2 HW2.out
 go_region_held3 (fun W=>W.cell? ⟨g0,0,none⟩=some (.bool b1)∧W.cell? ⟨g0,1,none⟩=some (.slice A k ca)∧W.cell? ⟨g0,2,none⟩=some (.slice B l cb)∧W.cell? ⟨g0+1,0,none⟩=some (.bool b2)∧W.cell? ⟨g0+1,1,none⟩=some (.slice C m cc)∧W.cell? ⟨g0+1,2,none⟩=some (.slice D n cd))
  (first
   | exact HS.out _ (al (ak HW2.out hx5.out) Hsz1.out _ _ _)
   | exact HS.out _ (ak HW2.out hx5.out)
   | exact HS.out _ (ak HW2.out hx4.out)
   | exact HS.out _ (ak HW2.out hx3.out)
   | exact HS.out _ (ak HW2.out hx2.out)
   | exact HS.out _ (ak HW2.out hx1.out)
   | exact HS.out _ (ak HW2.out hx0.out))
  (first
   |(go_at_call_of 99 A
     refine(mul_c _ _ _ _ _ (Hxn.out.mono (ak hww.out hx0.out)) (Hyn.out.mono (ak hww.out hx0.out)) S3.out S5.out).mono ?_;rintro e w3 ⟨v3,rfl,h3,k3⟩;obtain⟨P1,p1,c1,rfl⟩:=h3.form';have hx1:=ZZ (ak hx0.out k3);have H3:=ZZ h3;clear h3 k3)
   |(go_at_call_of 100 B
     refine(under_c _ _ _ (Hx.out.mono (ak hww.out hx1.out))).mono ?_;rintro e w4 ⟨v4,rfl,h4,k4⟩;obtain⟨P2,p2,c2,rfl⟩:=h4.form';have hx2:=ZZ (ak hx1.out k4);have H3':=ZZ (H3.out.mono k4);have H4:=ZZ h4;clear h4 k4)
   |(go_at_call_of 100 D
     refine(under_c _ _ _ (Hy.out.mono (ak hww.out hx2.out))).mono ?_;rintro e w5 ⟨v5,rfl,h5,k5⟩;obtain⟨P3,p3,c3,rfl⟩:=h5.form';have hx3:=ZZ (ak hx2.out k5);have H3'':=ZZ (H3'.out.mono k5);have H4':=ZZ (H4.out.mono k5);have H5:=ZZ h5;clear h5 k5)
   |(go_at_call_of 99 P2
     refine(mul_c _ _ _ _ _ H4'.out H5.out S4.out S6.out).mono ?_;rintro e w6 ⟨v6,rfl,h6,k6⟩;obtain⟨P4,p4,c4,rfl⟩:=h6.form';have hx4:=ZZ (ak hx3.out k6);have H3t:=ZZ (H3''.out.mono k6);have H6:=ZZ h6;clear h6 k6)
   |(go_at_call 51
     refine(reduced_c _ _ _ _ _ _ H3t.out H6.out S1.out S2.out D0.out).mono ?_;rintro e w7 ⟨v7,rfl,h7,k7⟩;obtain⟨P5,p5,c5,P6,p6,c6,h7e,-⟩:=h7.form;subst h7e;have hx5:=ZZ (ak hx4.out k7);have H7:=ZZ h7;have hz:=HZ.out _ hx5.out;obtain⟨z0,z1,z2,f0,f1,f2⟩:=ai hz;have Hz:=ZZ hz;clear h7 k7 hz))
 go_wp2_with fail;refine bodyPost_ret (v:=.agg #[.bool (decide ((rat (!(b1 == b2)) (x.num.natAbs*y.num.natAbs) (x.den*y.den)).num<0)),.slice P5 p5 c5,.slice P6 p6 c6]) (by simp [results,Tryz.f46];go_simp) rfl ?_
 refine⟨_,rfl,?_,al (ak hww.out hx5.out) Hsz.out _ _ _⟩;have hr:=mul_parts x y;rw [Hbx.out,Hby.out] at hr;have hr':rat (!(b1 == b2)) (x.num.natAbs*y.num.natAbs) (x.den*y.den)=x*y:=hr;have h8:=H7.out.put3 Hz.out;rw [hr'] at h8 ⊢;exact h8
end Go.Proofs.YtoefieefcndlkaaGreatDoor
set_option linter.unusedVariables false
set_option maxRecDepth 100000
set_option maxHeartbeats 64000000
namespace Go.Proofs.YtoefieefcndlkaaGreatDoor
open Go.RowKit
theorem setup1 (w:World) (x0 x1 x2:Value):(∀W,Ext (w.alloc (.cells #[x0,x1,x2] 52)) W→W.cell? ⟨w.heap.size,0,none⟩=some x0∧W.cell? ⟨w.heap.size,1,none⟩=some x1∧W.cell? ⟨w.heap.size,2,none⟩=some x2)∧(∀W,Ext ((w.alloc (.cells #[x0,x1,x2] 52)).alloc (.cells #[.bool false,.slice none 0 0,.slice none 0 0] 52)) W→W.heap[w.heap.size+1]?=some (.cells #[.bool false,.slice none 0 0,.slice none 0 0] 52 (0,0)))∧Ext w (w.alloc (.cells #[x0,x1,x2] 52))∧Ext (w.alloc (.cells #[x0,x1,x2] 52)) ((w.alloc (.cells #[x0,x1,x2] 52)).alloc (.cells #[.bool false,.slice none 0 0,.slice none 0 0] 52))∧w.heap.size≤w.heap.size+1∧(w.alloc (.cells #[x0,x1,x2] 52)).heap.size≤w.heap.size+1:=by
 have z0:(w.alloc (.cells #[x0,x1,x2] 52)).heap.size=w.heap.size+1:=by simp
 refine⟨fun W h=>?_,fun W h=>?_,ab _ _,ab _ _,by omega,Nat.le_of_eq z0⟩
 ·obtain⟨a,b,c,-⟩:=ai (row3 h)
  exact⟨a,b,c⟩
 ·have r2:=row3 h
  rw [z0] at r2;exact r2
theorem setup2n (w:World) (x0 x1 x2 y0 y1 y2:Value):(∀W,Ext ((w.alloc (.cells #[x0,x1,x2] 52)).alloc (.cells #[y0,y1,y2] 52)) W→W.cell? ⟨w.heap.size,0,none⟩=some x0∧W.cell? ⟨w.heap.size,1,none⟩=some x1∧W.cell? ⟨w.heap.size,2,none⟩=some x2∧W.cell? ⟨w.heap.size+1,0,none⟩=some y0∧W.cell? ⟨w.heap.size+1,1,none⟩=some y1∧W.cell? ⟨w.heap.size+1,2,none⟩=some y2)∧Ext w ((w.alloc (.cells #[x0,x1,x2] 52)).alloc (.cells #[y0,y1,y2] 52)):=by
 have h:=setup2 w x0 x1 x2 y0 y1 y2;exact⟨h.1,h.2.2.1⟩
theorem dn_neg (x:Rat):dn (-x)=dn x:=by unfold dn;rw [Rat.neg_den]
theorem Nm.flip {W:World} {s:Bool} {vn vd:Value} {x:Rat} (h1:Wd W vn x.num.natAbs) (h2:Wd W vd (dn x)) (hs:s=decide ((-x).num<0)):Nm W (.agg #[.bool s,vn,vd]) (-x):=by
 subst hs;exact⟨_,_,rfl,by rw [Rat.neg_num,Int.natAbs_neg];exact h1,by rw [dn_neg];exact h2⟩
theorem Nm.same {W:World} {s:Bool} {vn vd:Value} {x:Rat} (h1:Wd W vn x.num.natAbs) (h2:Wd W vd (dn x)) (hs:s=decide (x.num<0)):Nm W (.agg #[.bool s,vn,vd]) x:=by
 subst hs;exact⟨_,_,rfl,h1,h2⟩
theorem ext2 (w:World) (a b:Obj):Ext w ((w.alloc a).alloc b):=ak (ab _ _) (ab _ _)
theorem ret_i {a b:Int} (h:a=b):Ending.returned (.int .i64 b)=.returned (.int .i64 a):=by rw [h]
def absQ (x:Rat):Rat:=if x.num<0 then -x else x
theorem neg_q (vx:Value) (x:Rat) (w:World) (hx:Nm w vx x):Calls Tryz.prog 62 #[vx] w fun e w'=>∃v,e=.returned v∧Nm w' v (-x)∧Ext w w':=by
 obtain⟨A,k,ca,B,l,cb,rfl,hxn,hxd,hk,-⟩:=hx.form;have Hxn:=ZZ hxn;have Hxd:=ZZ hxd;have Hk:=ZZ hk;clear hx hxn hxd hk
 rcases hb:decide (x.num<0) with _|_
 ·have Hb:=ZZ (show ¬ x.num<0 by simpa using hb)
  clear hb
  rcases Nat.eq_zero_or_pos k with h0|h0
  ·subst h0
   go_enter Tryz.func62,Tryz.ntmps62
   go_wp2_with fail;refine bodyPost_ret (v:=.agg #[.bool false,.slice A 0 ca,.slice B l cb]) (by simp [results,Tryz.f62];go_simp) rfl ?_
   have e:x=0:=Hk.out.1 (by first|rfl|trivial);refine⟨_,rfl,Nm.flip (Hxn.out.mono (ext2 _ _ _)) (Hxd.out.mono (ext2 _ _ _)) ?_,ext2 _ _ _⟩;rw [e];rfl
  ·have t1:((0:Int)<(k:Int)):=by omega
   have hk0:¬ k=0:=by omega
   have Hk0:=ZZ hk0;clear hk0
   go_enter Tryz.func62,Tryz.ntmps62
   go_wp2_with fail;refine bodyPost_ret (v:=.agg #[.bool true,.slice A k ca,.slice B l cb]) (by simp [results,Tryz.f62];go_simp) rfl ?_
   have e:x.num≠0:=fun e=>Hk0.out (Hk.out.2 (Rat.num_eq_zero.1 e));have hb:=Hb.out;refine⟨_,rfl,Nm.flip (Hxn.out.mono (ext2 _ _ _)) (Hxd.out.mono (ext2 _ _ _)) ?_,ext2 _ _ _⟩;rw [Rat.neg_num];symm;rw [decide_eq_true_eq];omega
 ·have Hb:=ZZ (show x.num<0 by simpa using hb)
  clear hb
  go_enter Tryz.func62,Tryz.ntmps62
  go_wp2_with fail;refine bodyPost_ret (v:=.agg #[.bool false,.slice A k ca,.slice B l cb]) (by simp [results,Tryz.f62];go_simp) rfl ?_
  have hb:=Hb.out;refine⟨_,rfl,Nm.flip (Hxn.out.mono (ext2 _ _ _)) (Hxd.out.mono (ext2 _ _ _)) ?_,ext2 _ _ _⟩;rw [Rat.neg_num];symm;rw [decide_eq_false_iff_not];omega
theorem abs_q (vx:Value) (x:Rat) (w:World) (hx:Nm w vx x):Calls Tryz.prog 112 #[vx] w fun e w'=>∃v,e=.returned v∧Nm w' v (absQ x)∧Ext w w':=by
 obtain⟨A,k,ca,B,l,cb,rfl,hxn,hxd,hk,-⟩:=hx.form;have Hxn:=ZZ hxn;have Hxd:=ZZ hxd;clear hx hxn hxd hk;generalize hb:decide (x.num<0)=b;have Hb:=ZZ hb;clear hb
 go_enter Tryz.func112,Tryz.ntmps112
 go_wp2_with fail;refine bodyPost_ret (v:=.agg #[.bool false,.slice A k ca,.slice B l cb]) (by simp [results,Tryz.f112];go_simp) rfl ?_
 refine⟨_,rfl,?_,ext2 _ _ _⟩;unfold absQ
 split
 ·rename_i h
  exact Nm.flip (Hxn.out.mono (ext2 _ _ _)) (Hxd.out.mono (ext2 _ _ _)) (by rw [Rat.neg_num];symm;rw [decide_eq_false_iff_not];omega)
 ·rename_i h
  exact Nm.same (Hxn.out.mono (ext2 _ _ _)) (Hxd.out.mono (ext2 _ _ _)) (by symm;rw [decide_eq_false_iff_not];exact h)
theorem sign_q (vx:Value) (x:Rat) (w:World) (hx:Nm w vx x):Calls Tryz.prog 44 #[vx] w fun e w'=>e=.returned (.int .i64 x.num.sign)∧Ext w w':=by
 obtain⟨A,k,ca,B,l,cb,rfl,hxn,hxd,hk,-⟩:=hx.form;have Hk:=ZZ hk;clear hx hxn hxd hk
 rcases Nat.eq_zero_or_pos k with h0|h0
 ·subst h0
  generalize hb:decide (x.num<0)=b;clear hb
  go_enter Tryz.func44,Tryz.ntmps44
  go_wp2_with fail;go_ret
  have e:x=0:=Hk.out.1 (by first|rfl|trivial);exact⟨ret_i (by rw [e];rfl),ab _ _⟩
 ·have t1:((k:Int) == 0)=false:=by simp;omega
  have Hk0:=ZZ (show ¬ k=0 by omega)
  rcases hb:decide (x.num<0) with _|_
  ·have Hb:=ZZ (show ¬ x.num<0 by simpa using hb)
   clear hb
   go_enter Tryz.func44,Tryz.ntmps44
   go_wp2_with fail;go_ret
   have e:x.num≠0:=fun e=>Hk0.out (Hk.out.2 (Rat.num_eq_zero.1 e));have hb:=Hb.out;exact⟨ret_i (Int.sign_eq_one_of_pos (by omega)),ab _ _⟩
  ·have Hb:=ZZ (show x.num<0 by simpa using hb)
   clear hb
   go_enter Tryz.func44,Tryz.ntmps44
   go_wp2_with fail;go_ret
   exact⟨ret_i (Int.sign_eq_neg_one_of_neg Hb.out),ab _ _⟩
end Go.Proofs.YtoefieefcndlkaaGreatDoor
set_option linter.unusedVariables false
set_option maxRecDepth 100000
set_option maxHeartbeats 64000000
namespace Go.Proofs.YtoefieefcndlkaaGreatDoor
open Go.RowKit
theorem Wd.len {w:World} {A:Option Addr} {k c n:Nat} (h:Wd w (.slice A k c) n):(dg n).length=k:=by
 obtain⟨A',c',e,-⟩:=h
 cases e;rfl
theorem dn_len {q:Rat} (h:Sm q.den):(dg (dn q)).length≤1099511627776:=by
 unfold dn
 split
 ·rw [dg_zero];simp
 ·exact h
theorem add_q_whole (M:Nat) (hM:M≤1099511627776) (vx vy:Value) (x y:Rat) (w:World) (hx:Nm w vx x) (hy:Nm w vy y) (bx:Bq M x) (by_:Bq M y) (h1:x.den=1) (h2:y.den=1):Calls Tryz.prog 45 #[vx,vy] w fun e w'=>∃v,e=.returned v∧Nm w' v (x+y)∧Ext w w':=by
 have HD1:=ZZ h1;have HD2:=ZZ h2;clear h1 h2;obtain⟨A,k,ca,B,l,cb,rfl,hxn,hxd,hkx,hlx⟩:=hx.form;obtain⟨C,m,cc,D,n,cd,rfl,hyn,hyd,hky,hly⟩:=hy.form;obtain⟨s1,s2,s3,s4,s5,s6⟩:=Bq.sm2 bx by_ hM;obtain⟨s7,s8⟩:=bx.sm hM;obtain⟨s9,s10⟩:=by_.sm hM;have Hlb:=ZZ (show l≤1099511627776 by have h1:=hxd.len;have h2:=dn_len (q:=x) s8;omega);have Hnb:=ZZ (show n≤1099511627776 by have h1:=hyd.len;have h2:=dn_len (q:=y) s10;omega);have D0:=ZZ (Nat.mul_pos x.den_pos y.den_pos);have Hx:=ZZ hx;have Hy:=ZZ hy;have Hxn:=ZZ hxn;have Hyn:=ZZ hyn;have Hkx:=ZZ hkx;have Hlx:=ZZ hlx;have Hky:=ZZ hky;have Hly:=ZZ hly;have S1:=ZZ s1;have S2:=ZZ s2;have S3:=ZZ s3;have S4:=ZZ s4;have S5:=ZZ s5;have S6:=ZZ s6;have S7:=ZZ s7;have S8:=ZZ s8;have S9:=ZZ s9;have S10:=ZZ s10;clear hx hy hxn hxd hyn hyd hkx hlx hky hly s1 s2 s3 s4 s5 s6 s7 s8 s9 s10 bx by_ hM;generalize hbx:decide (x.num<0)=b1 at *;generalize hby:decide (y.num<0)=b2 at *;have Hbx:=ZZ hbx
 have Hby:=ZZ hby
 clear hbx hby
 obtain rfl:l=0:=Hlx.out.2 HD1.out;obtain rfl:n=0:=Hly.out.2 HD2.out;obtain⟨hS,hZ,hw1,hw2,hsz,hsz1⟩:=setup2 w (.bool b1) (.slice A k ca) (.slice B 0 cb) (.bool b2) (.slice C m cc) (.slice D 0 cd);have HS:=ZZ hS;have HZ:=ZZ hZ;have HW1:=ZZ hw1;have HW2:=ZZ hw2;have Hsz1:=ZZ hsz1;clear hS hZ hw1 hw2 hsz hsz1
 go_enter Tryz.func45,Tryz.ntmps45
 go_wp2_with fail;generalize World.alloc (World.alloc (World.alloc w (.cells #[.bool b1,.slice A k ca,.slice B 0 cb] _)) (.cells #[.bool b2,.slice C m cc,.slice D 0 cd] _)) _=W2 at *
 generalize World.alloc (World.alloc w (.cells #[.bool b1,.slice A k ca,.slice B 0 cb] _)) (.cells #[.bool b2,.slice C m cc,.slice D 0 cd] _)=W1 at *;generalize hg0:w.heap.size=g0 at *;have Hsz:=ZZ (show w.heap.size≤g0+1+1 by omega);clear hg0;have hww:=ZZ (ak HW1.out HW2.out);have hx0:=ZZ (ae W2);have hS0:=HS.out _ (ak HW2.out hx0.out);have e1:=ZZ (ac W2);have hx1:=ZZ (ak hx0.out e1.out)
 go_region_held3 (fun W=>W.cell? ⟨g0,0,none⟩=some (.bool b1)∧W.cell? ⟨g0,1,none⟩=some (.slice A k ca)∧W.cell? ⟨g0,2,none⟩=some (.slice B 0 cb)∧W.cell? ⟨g0+1,0,none⟩=some (.bool b2)∧W.cell? ⟨g0+1,1,none⟩=some (.slice C m cc)∧W.cell? ⟨g0+1,2,none⟩=some (.slice D 0 cd))
  (first
   | exact HS.out _ (ak HW2.out hx2.out)
   | exact HS.out _ (ak HW2.out hx1.out))
  (first
   |(have _q:=hx1
     go_at_call 53
     refine(one_c _).mono ?_;clear _q;rintro e w1 ⟨vv,rfl,h2,k2⟩;obtain⟨P1,p1,c1,rfl⟩:=h2.form';have H2:=ZZ h2;clear h2;have e2:=ZZ k2;have hx2:=ZZ (ak hx1.out k2);clear k2))
 have FA:=ZZ (show Wd w1 (.slice A k ca) (x.num.natAbs*y.den) by rw [HD2.out,Nat.mul_one];exact(Hxn.out.mono (ak hww.out hx2.out)));have FB:=ZZ (show Wd w1 (.slice C m cc) (y.num.natAbs*x.den) by rw [HD1.out,Nat.mul_one];exact(Hyn.out.mono (ak hww.out hx2.out)));have FD:=ZZ (show Wd w1 (.slice P1 p1 c1) (x.den*y.den) by rw [HD1.out,HD2.out];exact H2.out)
 by_cases hbb:b1=b2
 ·subst hbb
  obtain⟨o0,o1,o2,o3,o4,o5⟩:=HS.out _ (ak HW2.out hx2.out);go_wp2_with fail;have hS2:=HS.out _ (ak HW2.out hx2.out);have e3:=ZZ (ac w1);have hx3:=ZZ (ak hx2.out e3.out)
  go_region_held3 (fun W=>W.cell? ⟨g0,0,none⟩=some (.bool b1)∧W.cell? ⟨g0,1,none⟩=some (.slice A k ca)∧W.cell? ⟨g0,2,none⟩=some (.slice B 0 cb)∧W.cell? ⟨g0+1,0,none⟩=some (.bool b1)∧W.cell? ⟨g0+1,1,none⟩=some (.slice C m cc)∧W.cell? ⟨g0+1,2,none⟩=some (.slice D 0 cd))
   (first
    | exact HS.out _ (al (ak HW2.out hx5.out) Hsz1.out _ _ _)
    | exact HS.out _ (ak HW2.out hx5.out)
    | exact HS.out _ (ak HW2.out hx4.out)
    | exact HS.out _ (ak HW2.out hx3.out))
   (first
    |(have _q:=hx4
      go_at_call 51
      refine(reduced_c _ _ _ _ _ _ H4.out (FD.out.mono (ak e3.out e4.out)) S6.out S2.out D0.out).mono ?_;clear _q;rintro e w21 ⟨vv,rfl,h5,k5⟩;obtain⟨P21,p21,c21,Q21,q21,d21,he,-⟩:=h5.form;subst he;have H5:=ZZ h5;clear h5;have e5:=ZZ k5;have hx5:=ZZ (ak hx4.out k5);clear k5;have hz:=HZ.out _ hx5.out;obtain⟨z0,z1,z2,f0,f1,f2⟩:=ai hz;have Hz:=ZZ hz;clear hz)
    |(have _q:=hx3
      go_at_call 101
      refine(add_c _ _ _ _ _ (FA.out.mono e3.out) (FB.out.mono e3.out) S3.out S4.out).mono ?_;clear _q;rintro e w20 ⟨vv,rfl,h4,k4⟩;obtain⟨P20,p20,c20,rfl⟩:=h4.form';have H4:=ZZ h4;clear h4;have e4:=ZZ k4;have hx4:=ZZ (ak hx3.out k4);clear k4))
  go_wp2_with fail;refine bodyPost_ret (v:=.agg #[.bool (decide ((rat b1 (x.num.natAbs*y.den+y.num.natAbs*x.den) (x.den*y.den)).num<0)),.slice P21 p21 c21,.slice Q21 q21 d21]) (by simp [results,Tryz.f45];go_simp) rfl ?_
  refine⟨_,rfl,?_,al (ak hww.out hx5.out) Hsz.out _ _ _⟩;have hr:=add_same x y (Hbx.out.trans Hby.out.symm);rw [Hbx.out] at hr;have h8:=H5.out.put3 Hz.out;rw [hr] at h8 ⊢;exact h8
 ·skip
  have hbf:(b1 == b2)=false:=by revert hbb;cases b1 <;> cases b2 <;> simp
  have Hne:=ZZ (show b1=!b2 by revert hbb;cases b1 <;> cases b2 <;> simp);clear hbb;obtain⟨o0,o1,o2,o3,o4,o5⟩:=HS.out _ (ak HW2.out hx2.out);go_wp2_with fail;refine(cmp_c _ _ _ _ _ FA.out FB.out S3.out S4.out).mono ?_;rintro e w15 ⟨⟨cq,rfl,hq1,hq2⟩,kq,rfl⟩;have e3:=ZZ (ar w1 kq);have hx3:=ZZ (ak hx2.out e3.out);have Hq1:=ZZ hq1;clear hq1 hq2
  rcases(show cq<0∨0≤cq by omega) with hc|hc
  ·skip
   obtain⟨o6,o7,o8,o9,o10,o11⟩:=HS.out _ (ak HW2.out hx3.out);have Hle:=ZZ (Nat.le_of_lt (Hq1.out.1 hc));go_wp2_with fail;have hS3:=HS.out _ (ak HW2.out hx3.out);have e4:=ZZ (ac (w1.drewN kq));have hx4:=ZZ (ak hx3.out e4.out)
   go_region_held3 (fun W=>W.cell? ⟨g0,0,none⟩=some (.bool b1)∧W.cell? ⟨g0,1,none⟩=some (.slice A k ca)∧W.cell? ⟨g0,2,none⟩=some (.slice B 0 cb)∧W.cell? ⟨g0+1,0,none⟩=some (.bool b2)∧W.cell? ⟨g0+1,1,none⟩=some (.slice C m cc)∧W.cell? ⟨g0+1,2,none⟩=some (.slice D 0 cd))
    (first
     | exact HS.out _ (al (ak HW2.out hx6.out) Hsz1.out _ _ _)
     | exact HS.out _ (ak HW2.out hx6.out)
     | exact HS.out _ (ak HW2.out hx5.out)
     | exact HS.out _ (ak HW2.out hx4.out))
    (first
     |(have _q:=hx5
       go_at_call 51
       refine(reduced_c _ _ _ _ _ _ H5.out (FD.out.mono (ak e3.out (ak e4.out e5.out))) (sm_lt (Nat.sub_le _ _) S4.out) S2.out D0.out).mono ?_;clear _q;rintro e w21 ⟨vv,rfl,h6,k6⟩;obtain⟨P21,p21,c21,Q21,q21,d21,he,-⟩:=h6.form;subst he;have H6:=ZZ h6;clear h6;have e6:=ZZ k6;have hx6:=ZZ (ak hx5.out k6);clear k6;have hz:=HZ.out _ hx6.out;obtain⟨z0,z1,z2,f0,f1,f2⟩:=ai hz;have Hz:=ZZ hz;clear hz)
     |(have _q:=hx4
       go_at_call 103
       refine(sub_c _ _ _ _ _ (FB.out.mono (ak e3.out e4.out)) (FA.out.mono (ak e3.out e4.out)) S4.out Hle.out).mono ?_;clear _q;rintro e w20 ⟨vv,rfl,h5,k5⟩;obtain⟨P20,p20,c20,rfl⟩:=h5.form';have H5:=ZZ h5;clear h5;have e5:=ZZ k5;have hx5:=ZZ (ak hx4.out k5);clear k5))
   go_wp2_with fail;refine bodyPost_ret (v:=.agg #[.bool (decide ((rat b2 (y.num.natAbs*x.den - x.num.natAbs*y.den) (x.den*y.den)).num<0)),.slice P21 p21 c21,.slice Q21 q21 d21]) (by simp [results,Tryz.f45];go_simp) rfl ?_
   refine⟨_,rfl,?_,al (ak hww.out hx6.out) Hsz.out _ _ _⟩;have hr:=add_less x y (by rw [Hbx.out,Hby.out];exact Hne.out) Hle.out;rw [Hby.out] at hr;have h8:=H6.out.put3 Hz.out;rw [hr] at h8 ⊢;exact h8
  ·skip
   obtain⟨o6,o7,o8,o9,o10,o11⟩:=HS.out _ (ak HW2.out hx3.out);have Hle:=ZZ (Nat.not_lt.1 (fun h=>by have:=Hq1.out.2 h;omega:¬ x.num.natAbs*y.den<y.num.natAbs*x.den));go_wp2_with fail;have hS3:=HS.out _ (ak HW2.out hx3.out);have e4:=ZZ (ac (w1.drewN kq));have hx4:=ZZ (ak hx3.out e4.out)
   go_region_held3 (fun W=>W.cell? ⟨g0,0,none⟩=some (.bool b1)∧W.cell? ⟨g0,1,none⟩=some (.slice A k ca)∧W.cell? ⟨g0,2,none⟩=some (.slice B 0 cb)∧W.cell? ⟨g0+1,0,none⟩=some (.bool b2)∧W.cell? ⟨g0+1,1,none⟩=some (.slice C m cc)∧W.cell? ⟨g0+1,2,none⟩=some (.slice D 0 cd))
    (first
     | exact HS.out _ (al (ak HW2.out hx6.out) Hsz1.out _ _ _)
     | exact HS.out _ (ak HW2.out hx6.out)
     | exact HS.out _ (ak HW2.out hx5.out)
     | exact HS.out _ (ak HW2.out hx4.out))
    (first
     |(have _q:=hx5
       go_at_call 51
       refine(reduced_c _ _ _ _ _ _ H5.out (FD.out.mono (ak e3.out (ak e4.out e5.out))) (sm_lt (Nat.sub_le _ _) S3.out) S2.out D0.out).mono ?_;clear _q;rintro e w21 ⟨vv,rfl,h6,k6⟩;obtain⟨P21,p21,c21,Q21,q21,d21,he,-⟩:=h6.form;subst he;have H6:=ZZ h6;clear h6;have e6:=ZZ k6;have hx6:=ZZ (ak hx5.out k6);clear k6;have hz:=HZ.out _ hx6.out;obtain⟨z0,z1,z2,f0,f1,f2⟩:=ai hz;have Hz:=ZZ hz;clear hz)
     |(have _q:=hx4
       go_at_call 103
       refine(sub_c _ _ _ _ _ (FA.out.mono (ak e3.out e4.out)) (FB.out.mono (ak e3.out e4.out)) S3.out Hle.out).mono ?_;clear _q;rintro e w20 ⟨vv,rfl,h5,k5⟩;obtain⟨P20,p20,c20,rfl⟩:=h5.form';have H5:=ZZ h5;clear h5;have e5:=ZZ k5;have hx5:=ZZ (ak hx4.out k5);clear k5))
   go_wp2_with fail;refine bodyPost_ret (v:=.agg #[.bool (decide ((rat b1 (x.num.natAbs*y.den - y.num.natAbs*x.den) (x.den*y.den)).num<0)),.slice P21 p21 c21,.slice Q21 q21 d21]) (by simp [results,Tryz.f45];go_simp) rfl ?_
   refine⟨_,rfl,?_,al (ak hww.out hx6.out) Hsz.out _ _ _⟩;have hr:=add_more x y (by rw [Hbx.out,Hby.out];exact Hne.out) Hle.out;rw [Hbx.out] at hr;have h8:=H6.out.put3 Hz.out;rw [hr] at h8 ⊢;exact h8
theorem add_q_parts (M:Nat) (hM:M≤1099511627776) (vx vy:Value) (x y:Rat) (w:World) (hx:Nm w vx x) (hy:Nm w vy y) (bx:Bq M x) (by_:Bq M y) (h1:¬(x.den=1∧y.den=1)):Calls Tryz.prog 45 #[vx,vy] w fun e w'=>∃v,e=.returned v∧Nm w' v (x+y)∧Ext w w':=by
 have HD1:=ZZ h1;clear h1;obtain⟨A,k,ca,B,l,cb,rfl,hxn,hxd,hkx,hlx⟩:=hx.form;obtain⟨C,m,cc,D,n,cd,rfl,hyn,hyd,hky,hly⟩:=hy.form;obtain⟨s1,s2,s3,s4,s5,s6⟩:=Bq.sm2 bx by_ hM;obtain⟨s7,s8⟩:=bx.sm hM;obtain⟨s9,s10⟩:=by_.sm hM;have Hlb:=ZZ (show l≤1099511627776 by have h1:=hxd.len;have h2:=dn_len (q:=x) s8;omega);have Hnb:=ZZ (show n≤1099511627776 by have h1:=hyd.len;have h2:=dn_len (q:=y) s10;omega);have D0:=ZZ (Nat.mul_pos x.den_pos y.den_pos);have Hx:=ZZ hx;have Hy:=ZZ hy;have Hxn:=ZZ hxn;have Hyn:=ZZ hyn;have Hkx:=ZZ hkx;have Hlx:=ZZ hlx;have Hky:=ZZ hky;have Hly:=ZZ hly;have S1:=ZZ s1;have S2:=ZZ s2;have S3:=ZZ s3;have S4:=ZZ s4;have S5:=ZZ s5;have S6:=ZZ s6;have S7:=ZZ s7;have S8:=ZZ s8;have S9:=ZZ s9;have S10:=ZZ s10;clear hx hy hxn hxd hyn hyd hkx hlx hky hly s1 s2 s3 s4 s5 s6 s7 s8 s9 s10 bx by_ hM;generalize hbx:decide (x.num<0)=b1 at *;generalize hby:decide (y.num<0)=b2 at *;have Hbx:=ZZ hbx
 have Hby:=ZZ hby
 clear hbx hby
 have q1:(0:Int)≤l:=by omega
 have q2:(0:Int)≤n:=by omega
 have q5:(0:Int)<(l:Int)+(n:Int):=by
  rcases Nat.eq_zero_or_pos l with h|h
  ·rcases Nat.eq_zero_or_pos n with h'|h'
   ·exact absurd ⟨Hlx.out.1 h,Hly.out.1 h'⟩ HD1.out
   ·omega
  ·omega
 have q3:(l:Int)≤1099511627776:=by have:=Hlb.out;omega
 have q4:(n:Int)≤1099511627776:=by have:=Hnb.out;omega
 obtain⟨hS,hZ,hw1,hw2,hsz,hsz1⟩:=setup2 w (.bool b1) (.slice A k ca) (.slice B l cb) (.bool b2) (.slice C m cc) (.slice D n cd);have HS:=ZZ hS;have HZ:=ZZ hZ;have HW1:=ZZ hw1;have HW2:=ZZ hw2;have Hsz1:=ZZ hsz1;clear hS hZ hw1 hw2 hsz hsz1
 go_enter Tryz.func45,Tryz.ntmps45
 go_wp2_with fail;generalize World.alloc (World.alloc (World.alloc w (.cells #[.bool b1,.slice A k ca,.slice B l cb] _)) (.cells #[.bool b2,.slice C m cc,.slice D n cd] _)) _=W2 at *
 generalize World.alloc (World.alloc w (.cells #[.bool b1,.slice A k ca,.slice B l cb] _)) (.cells #[.bool b2,.slice C m cc,.slice D n cd] _)=W1 at *;generalize hg0:w.heap.size=g0 at *;have Hsz:=ZZ (show w.heap.size≤g0+1+1 by omega);clear hg0;have hww:=ZZ (ak HW1.out HW2.out);have hx0:=ZZ (ae W2);have hS0:=HS.out _ (ak HW2.out hx0.out);have e1:=ZZ (ac W2);have hx1:=ZZ (ak hx0.out e1.out)
 go_region_held3 (fun W=>W.cell? ⟨g0,0,none⟩=some (.bool b1)∧W.cell? ⟨g0,1,none⟩=some (.slice A k ca)∧W.cell? ⟨g0,2,none⟩=some (.slice B l cb)∧W.cell? ⟨g0+1,0,none⟩=some (.bool b2)∧W.cell? ⟨g0+1,1,none⟩=some (.slice C m cc)∧W.cell? ⟨g0+1,2,none⟩=some (.slice D n cd))
  (first
   | exact HS.out _ (ak HW2.out hx2.out)
   | exact HS.out _ (ak HW2.out hx1.out))
  (first
   |(have _q:=hx1
     go_at_call 53
     refine(one_c _).mono ?_;clear _q;rintro e w1 ⟨vv,rfl,h2,k2⟩;obtain⟨P1,p1,c1,rfl⟩:=h2.form';have H2:=ZZ h2;clear h2;have e2:=ZZ k2;have hx2:=ZZ (ak hx1.out k2);clear k2))
 obtain⟨r0,r1,r2,r3,r4,r5⟩:=HS.out _ (ak HW2.out hx2.out);go_wp2_with fail;have hS2:=HS.out _ (ak HW2.out hx2.out);have e3:=ZZ (ac w1);have hx3:=ZZ (ak hx2.out e3.out)
 go_region_held3 (fun W=>W.cell? ⟨g0,0,none⟩=some (.bool b1)∧W.cell? ⟨g0,1,none⟩=some (.slice A k ca)∧W.cell? ⟨g0,2,none⟩=some (.slice B l cb)∧W.cell? ⟨g0+1,0,none⟩=some (.bool b2)∧W.cell? ⟨g0+1,1,none⟩=some (.slice C m cc)∧W.cell? ⟨g0+1,2,none⟩=some (.slice D n cd))
  (first
   | exact HS.out _ (ak HW2.out hx10.out)
   | exact HS.out _ (ak HW2.out hx9.out)
   | exact HS.out _ (ak HW2.out hx8.out)
   | exact HS.out _ (ak HW2.out hx7.out)
   | exact HS.out _ (ak HW2.out hx6.out)
   | exact HS.out _ (ak HW2.out hx5.out)
   | exact HS.out _ (ak HW2.out hx4.out)
   | exact HS.out _ (ak HW2.out hx3.out))
  (first
   |(have _q:=hx9
     go_at_call 99
     refine(mul_c _ _ _ _ _ (H8.out.mono e9.out) H9.out S8.out S10.out).mono ?_;clear _q;rintro e w8 ⟨vv,rfl,h10,k10⟩;obtain⟨P8,p8,c8,rfl⟩:=h10.form';have H10:=ZZ h10;clear h10;have e10:=ZZ k10;have hx10:=ZZ (ak hx9.out k10);clear k10)
   |(have _q:=hx8
     go_at_call 100
     refine(under_c _ _ _ (Hy.out.mono (ak hww.out hx8.out))).mono ?_;clear _q;rintro e w7 ⟨vv,rfl,h9,k9⟩;obtain⟨P7,p7,c7,rfl⟩:=h9.form';have H9:=ZZ h9;clear h9;have e9:=ZZ k9;have hx9:=ZZ (ak hx8.out k9);clear k9)
   |(have _q:=hx7
     go_at_call 100
     refine(under_c _ _ _ (Hx.out.mono (ak hww.out hx7.out))).mono ?_;clear _q;rintro e w6 ⟨vv,rfl,h8,k8⟩;obtain⟨P6,p6,c6,rfl⟩:=h8.form';have H8:=ZZ h8;clear h8;have e8:=ZZ k8;have hx8:=ZZ (ak hx7.out k8);clear k8)
   |(have _q:=hx6
     go_at_call 99
     refine(mul_c _ _ _ _ _ (Hyn.out.mono (ak hww.out hx6.out)) H6.out S9.out S8.out).mono ?_;clear _q;rintro e w5 ⟨vv,rfl,h7,k7⟩;obtain⟨P5,p5,c5,rfl⟩:=h7.form';have H7:=ZZ h7;clear h7;have e7:=ZZ k7;have hx7:=ZZ (ak hx6.out k7);clear k7)
   |(have _q:=hx5
     go_at_call 100
     refine(under_c _ _ _ (Hx.out.mono (ak hww.out hx5.out))).mono ?_;clear _q;rintro e w4 ⟨vv,rfl,h6,k6⟩;obtain⟨P4,p4,c4,rfl⟩:=h6.form';have H6:=ZZ h6;clear h6;have e6:=ZZ k6;have hx6:=ZZ (ak hx5.out k6);clear k6)
   |(have _q:=hx4
     go_at_call 99
     refine(mul_c _ _ _ _ _ (Hxn.out.mono (ak hww.out hx4.out)) H4.out S7.out S10.out).mono ?_;clear _q;rintro e w3 ⟨vv,rfl,h5,k5⟩;obtain⟨P3,p3,c3,rfl⟩:=h5.form';have H5:=ZZ h5;clear h5;have e5:=ZZ k5;have hx5:=ZZ (ak hx4.out k5);clear k5)
   |(have _q:=hx3
     go_at_call 100
     refine(under_c _ _ _ (Hy.out.mono (ak hww.out hx3.out))).mono ?_;clear _q;rintro e w2 ⟨vv,rfl,h4,k4⟩;obtain⟨P2,p2,c2,rfl⟩:=h4.form';have H4:=ZZ h4;clear h4;have e4:=ZZ k4;have hx4:=ZZ (ak hx3.out k4);clear k4))
 by_cases hbb:b1=b2
 ·subst hbb
  obtain⟨o0,o1,o2,o3,o4,o5⟩:=HS.out _ (ak HW2.out hx10.out);go_wp2_with fail;have hS10:=HS.out _ (ak HW2.out hx10.out);have e11:=ZZ (ac w8);have hx11:=ZZ (ak hx10.out e11.out)
  go_region_held3 (fun W=>W.cell? ⟨g0,0,none⟩=some (.bool b1)∧W.cell? ⟨g0,1,none⟩=some (.slice A k ca)∧W.cell? ⟨g0,2,none⟩=some (.slice B l cb)∧W.cell? ⟨g0+1,0,none⟩=some (.bool b1)∧W.cell? ⟨g0+1,1,none⟩=some (.slice C m cc)∧W.cell? ⟨g0+1,2,none⟩=some (.slice D n cd))
   (first
    | exact HS.out _ (al (ak HW2.out hx13.out) Hsz1.out _ _ _)
    | exact HS.out _ (ak HW2.out hx13.out)
    | exact HS.out _ (ak HW2.out hx12.out)
    | exact HS.out _ (ak HW2.out hx11.out))
   (first
    |(have _q:=hx12
      go_at_call 51
      refine(reduced_c _ _ _ _ _ _ H12.out (H10.out.mono (ak e11.out e12.out)) S6.out S2.out D0.out).mono ?_;clear _q;rintro e w21 ⟨vv,rfl,h13,k13⟩;obtain⟨P21,p21,c21,Q21,q21,d21,he,-⟩:=h13.form;subst he;have H13:=ZZ h13;clear h13;have e13:=ZZ k13;have hx13:=ZZ (ak hx12.out k13);clear k13;have hz:=HZ.out _ hx13.out;obtain⟨z0,z1,z2,f0,f1,f2⟩:=ai hz;have Hz:=ZZ hz;clear hz)
    |(have _q:=hx11
      go_at_call 101
      refine(add_c _ _ _ _ _ (H5.out.mono (ak e6.out (ak e7.out (ak e8.out (ak e9.out (ak e10.out e11.out)))))) (H7.out.mono (ak e8.out (ak e9.out (ak e10.out e11.out)))) S3.out S4.out).mono ?_;clear _q;rintro e w20 ⟨vv,rfl,h12,k12⟩;obtain⟨P20,p20,c20,rfl⟩:=h12.form';have H12:=ZZ h12;clear h12;have e12:=ZZ k12;have hx12:=ZZ (ak hx11.out k12);clear k12))
  go_wp2_with fail;refine bodyPost_ret (v:=.agg #[.bool (decide ((rat b1 (x.num.natAbs*y.den+y.num.natAbs*x.den) (x.den*y.den)).num<0)),.slice P21 p21 c21,.slice Q21 q21 d21]) (by simp [results,Tryz.f45];go_simp) rfl ?_
  refine⟨_,rfl,?_,al (ak hww.out hx13.out) Hsz.out _ _ _⟩;have hr:=add_same x y (Hbx.out.trans Hby.out.symm);rw [Hbx.out] at hr;have h8:=H13.out.put3 Hz.out;rw [hr] at h8 ⊢;exact h8
 ·skip
  have hbf:(b1 == b2)=false:=by revert hbb;cases b1 <;> cases b2 <;> simp
  have Hne:=ZZ (show b1=!b2 by revert hbb;cases b1 <;> cases b2 <;> simp);clear hbb;obtain⟨o0,o1,o2,o3,o4,o5⟩:=HS.out _ (ak HW2.out hx10.out);go_wp2_with fail;refine(cmp_c _ _ _ _ _ (H5.out.mono (ak e6.out (ak e7.out (ak e8.out (ak e9.out e10.out))))) (H7.out.mono (ak e8.out (ak e9.out e10.out))) S3.out S4.out).mono ?_;rintro e w15 ⟨⟨cq,rfl,hq1,hq2⟩,kq,rfl⟩;have e11:=ZZ (ar w8 kq);have hx11:=ZZ (ak hx10.out e11.out);have Hq1:=ZZ hq1;clear hq1 hq2
  rcases(show cq<0∨0≤cq by omega) with hc|hc
  ·skip
   obtain⟨o6,o7,o8,o9,o10,o11⟩:=HS.out _ (ak HW2.out hx11.out);have Hle:=ZZ (Nat.le_of_lt (Hq1.out.1 hc));go_wp2_with fail;have hS11:=HS.out _ (ak HW2.out hx11.out);have e12:=ZZ (ac (w8.drewN kq));have hx12:=ZZ (ak hx11.out e12.out)
   go_region_held3 (fun W=>W.cell? ⟨g0,0,none⟩=some (.bool b1)∧W.cell? ⟨g0,1,none⟩=some (.slice A k ca)∧W.cell? ⟨g0,2,none⟩=some (.slice B l cb)∧W.cell? ⟨g0+1,0,none⟩=some (.bool b2)∧W.cell? ⟨g0+1,1,none⟩=some (.slice C m cc)∧W.cell? ⟨g0+1,2,none⟩=some (.slice D n cd))
    (first
     | exact HS.out _ (al (ak HW2.out hx14.out) Hsz1.out _ _ _)
     | exact HS.out _ (ak HW2.out hx14.out)
     | exact HS.out _ (ak HW2.out hx13.out)
     | exact HS.out _ (ak HW2.out hx12.out))
    (first
     |(have _q:=hx13
       go_at_call 51
       refine(reduced_c _ _ _ _ _ _ H13.out (H10.out.mono (ak e11.out (ak e12.out e13.out))) (sm_lt (Nat.sub_le _ _) S4.out) S2.out D0.out).mono ?_;clear _q;rintro e w21 ⟨vv,rfl,h14,k14⟩;obtain⟨P21,p21,c21,Q21,q21,d21,he,-⟩:=h14.form;subst he;have H14:=ZZ h14;clear h14;have e14:=ZZ k14;have hx14:=ZZ (ak hx13.out k14);clear k14;have hz:=HZ.out _ hx14.out;obtain⟨z0,z1,z2,f0,f1,f2⟩:=ai hz;have Hz:=ZZ hz;clear hz)
     |(have _q:=hx12
       go_at_call 103
       refine(sub_c _ _ _ _ _ (H7.out.mono (ak e8.out (ak e9.out (ak e10.out (ak e11.out e12.out))))) (H5.out.mono (ak e6.out (ak e7.out (ak e8.out (ak e9.out (ak e10.out (ak e11.out e12.out))))))) S4.out Hle.out).mono ?_;clear _q;rintro e w20 ⟨vv,rfl,h13,k13⟩;obtain⟨P20,p20,c20,rfl⟩:=h13.form';have H13:=ZZ h13;clear h13;have e13:=ZZ k13;have hx13:=ZZ (ak hx12.out k13);clear k13))
   go_wp2_with fail;refine bodyPost_ret (v:=.agg #[.bool (decide ((rat b2 (y.num.natAbs*x.den - x.num.natAbs*y.den) (x.den*y.den)).num<0)),.slice P21 p21 c21,.slice Q21 q21 d21]) (by simp [results,Tryz.f45];go_simp) rfl ?_
   refine⟨_,rfl,?_,al (ak hww.out hx14.out) Hsz.out _ _ _⟩;have hr:=add_less x y (by rw [Hbx.out,Hby.out];exact Hne.out) Hle.out;rw [Hby.out] at hr;have h8:=H14.out.put3 Hz.out;rw [hr] at h8 ⊢;exact h8
  ·skip
   obtain⟨o6,o7,o8,o9,o10,o11⟩:=HS.out _ (ak HW2.out hx11.out);have Hle:=ZZ (Nat.not_lt.1 (fun h=>by have:=Hq1.out.2 h;omega:¬ x.num.natAbs*y.den<y.num.natAbs*x.den));go_wp2_with fail;have hS11:=HS.out _ (ak HW2.out hx11.out);have e12:=ZZ (ac (w8.drewN kq));have hx12:=ZZ (ak hx11.out e12.out)
   go_region_held3 (fun W=>W.cell? ⟨g0,0,none⟩=some (.bool b1)∧W.cell? ⟨g0,1,none⟩=some (.slice A k ca)∧W.cell? ⟨g0,2,none⟩=some (.slice B l cb)∧W.cell? ⟨g0+1,0,none⟩=some (.bool b2)∧W.cell? ⟨g0+1,1,none⟩=some (.slice C m cc)∧W.cell? ⟨g0+1,2,none⟩=some (.slice D n cd))
    (first
     | exact HS.out _ (al (ak HW2.out hx14.out) Hsz1.out _ _ _)
     | exact HS.out _ (ak HW2.out hx14.out)
     | exact HS.out _ (ak HW2.out hx13.out)
     | exact HS.out _ (ak HW2.out hx12.out))
    (first
     |(have _q:=hx13
       go_at_call 51
       refine(reduced_c _ _ _ _ _ _ H13.out (H10.out.mono (ak e11.out (ak e12.out e13.out))) (sm_lt (Nat.sub_le _ _) S3.out) S2.out D0.out).mono ?_;clear _q;rintro e w21 ⟨vv,rfl,h14,k14⟩;obtain⟨P21,p21,c21,Q21,q21,d21,he,-⟩:=h14.form;subst he;have H14:=ZZ h14;clear h14;have e14:=ZZ k14;have hx14:=ZZ (ak hx13.out k14);clear k14;have hz:=HZ.out _ hx14.out;obtain⟨z0,z1,z2,f0,f1,f2⟩:=ai hz;have Hz:=ZZ hz;clear hz)
     |(have _q:=hx12
       go_at_call 103
       refine(sub_c _ _ _ _ _ (H5.out.mono (ak e6.out (ak e7.out (ak e8.out (ak e9.out (ak e10.out (ak e11.out e12.out))))))) (H7.out.mono (ak e8.out (ak e9.out (ak e10.out (ak e11.out e12.out))))) S3.out Hle.out).mono ?_;clear _q;rintro e w20 ⟨vv,rfl,h13,k13⟩;obtain⟨P20,p20,c20,rfl⟩:=h13.form';have H13:=ZZ h13;clear h13;have e13:=ZZ k13;have hx13:=ZZ (ak hx12.out k13);clear k13))
   go_wp2_with fail;refine bodyPost_ret (v:=.agg #[.bool (decide ((rat b1 (x.num.natAbs*y.den - y.num.natAbs*x.den) (x.den*y.den)).num<0)),.slice P21 p21 c21,.slice Q21 q21 d21]) (by simp [results,Tryz.f45];go_simp) rfl ?_
   refine⟨_,rfl,?_,al (ak hww.out hx14.out) Hsz.out _ _ _⟩;have hr:=add_more x y (by rw [Hbx.out,Hby.out];exact Hne.out) Hle.out;rw [Hbx.out] at hr;have h8:=H14.out.put3 Hz.out;rw [hr] at h8 ⊢;exact h8
theorem add_q (M:Nat) (hM:M≤1099511627776) (vx vy:Value) (x y:Rat) (w:World) (hx:Nm w vx x) (hy:Nm w vy y) (bx:Bq M x) (by_:Bq M y):Calls Tryz.prog 45 #[vx,vy] w fun e w'=>∃v,e=.returned v∧Nm w' v (x+y)∧Ext w w':=by
 by_cases h:x.den=1∧y.den=1
 ·exact add_q_whole M hM vx vy x y w hx hy bx by_ h.1 h.2
 ·exact add_q_parts M hM vx vy x y w hx hy bx by_ h
end Go.Proofs.YtoefieefcndlkaaGreatDoor
