/- The reference's numbers: products. Printed by gen_rp.py. The reference's numbers: negative, size, sign, integers, quotients. Printed by gen_rq.py. The reference's numbers: comparison, sums, differences. Printed by gen_rs.py. -/
import Derived.Test.YtpgdefgdboijlaaGreatDoorR2
import Derived.Test.YtpgdefgdboijlaaGreatDoorNg
import Derived.Deep.DeepCutAuto
set_option linter.unusedVariables false
set_option maxRecDepth 100000
set_option maxHeartbeats 16000000
namespace Go.Proofs.YtpgdefgdboijlaaGreatDoor
open Go.RowKit
theorem setupR2 (w:World) (x0 x1 x2 y0 y1 y2:Value):(∀W,Ext ((w.alloc (.cells #[x0,x1,x2] 31)).alloc (.cells #[y0,y1,y2] 31)) W→W.cell? ⟨w.heap.size,0,none⟩=some x0∧W.cell? ⟨w.heap.size,1,none⟩=some x1∧W.cell? ⟨w.heap.size,2,none⟩=some x2∧W.cell? ⟨w.heap.size+1,0,none⟩=some y0∧W.cell? ⟨w.heap.size+1,1,none⟩=some y1∧W.cell? ⟨w.heap.size+1,2,none⟩=some y2)∧(∀W,Ext (((w.alloc (.cells #[x0,x1,x2] 31)).alloc (.cells #[y0,y1,y2] 31)).alloc (.cells #[.int .i64 0,.slice none 0 0,.slice none 0 0] 31)) W→W.heap[w.heap.size+1+1]?=some (.cells #[.int .i64 0,.slice none 0 0,.slice none 0 0] 31 (0,0)))∧Ext w ((w.alloc (.cells #[x0,x1,x2] 31)).alloc (.cells #[y0,y1,y2] 31))∧Ext ((w.alloc (.cells #[x0,x1,x2] 31)).alloc (.cells #[y0,y1,y2] 31)) (((w.alloc (.cells #[x0,x1,x2] 31)).alloc (.cells #[y0,y1,y2] 31)).alloc (.cells #[.int .i64 0,.slice none 0 0,.slice none 0 0] 31))∧w.heap.size≤w.heap.size+1+1∧((w.alloc (.cells #[x0,x1,x2] 31)).alloc (.cells #[y0,y1,y2] 31)).heap.size≤w.heap.size+1+1:=by
 have z0:(w.alloc (.cells #[x0,x1,x2] 31)).heap.size=w.heap.size+1:=by simp
 have z1:((w.alloc (.cells #[x0,x1,x2] 31)).alloc (.cells #[y0,y1,y2] 31)).heap.size=w.heap.size+1+1:=by simp
 have e0:Ext w (w.alloc (.cells #[x0,x1,x2] 31)):=ab _ _;generalize hw0:w.alloc (.cells #[x0,x1,x2] 31)=w0 at *;have e1:Ext w0 (w0.alloc (.cells #[y0,y1,y2] 31)):=ab _ _;refine⟨fun W h=>?_,fun W h=>?_,al e0 e1,ab _ _,by omega,Nat.le_of_eq z1⟩
 ·have r0:=rowR (hw0 ▸ (al e1 h):Ext (w.alloc (.cells #[x0,x1,x2] 31)) W)
  have r1:=rowR h;rw [z0] at r1;obtain⟨a,b,c,-⟩:=aj r0;obtain⟨a',b',c',-⟩:=aj r1;exact⟨a,b,c,a',b',c'⟩
 ·have r2:=rowR h
  rw [z1] at r2;exact r2
theorem sr_bits {n B:Nat} (h:n<2 ^ B) (hB:B≤1099511627776):Sr n:=by
 have:=dr_bits h
 unfold Sr;omega
theorem mul_n_zero (vx vy:Value) (x y:Rat) (w:World) (hx:Nr w vx x) (hy:Nr w vy y) (h0:x.num.sign*y.num.sign=0):Calls Tryz.prog 30 #[vx,vy] w fun e w'=>∃v,e=.returned v∧Nr w' v (x*y)∧Ext w w'∧FrN w.heap.size v:=by
 obtain⟨s1,A,k,ca,B,l,cb,rfl,hs1,hxt,hxb⟩:=hx.form;obtain⟨s2,C,m,cc,D,n,cd,rfl,hs2,hyt,hyb⟩:=hy.form;obtain⟨hS,hZ,hw1,hw2,hsz,hsz1⟩:=setupR2 w (.int .i64 s1) (.slice A k ca) (.slice B l cb) (.int .i64 s2) (.slice C m cc) (.slice D n cd);have HS:=ZZ hS;have HZ:=ZZ hZ;have HW1:=ZZ hw1;have HW2:=ZZ hw2;have Hsz1:=ZZ hsz1;have Hx:=ZZ hx;have Hy:=ZZ hy;have HXT:=ZZ hxt;have HYT:=ZZ hyt;have HS1:=ZZ hs1;have HS2:=ZZ hs2;have HE:=ZZ (mul_zero_iff h0);have h00:s1*s2=0:=by rw [←hs1,←hs2];exact h0
 have hwr:IntKind.i64.wrap (s1*s2)=0:=by rw [h00];exact IntWalk.i64_in _ (by omega)
 rw [HE.out];have hc0:=hS _ hw2;clear hx hy hxt hxb hyt hyb hS hZ hw1 hw2 hsz hsz1 hs1 hs2;clear h0 h00
 go_enter Tryz.func30,Tryz.ntmps30
 go_wp2_with fail;generalize World.alloc (World.alloc (World.alloc w (.cells #[.int .i64 s1,.slice A k ca,.slice B l cb] _)) (.cells #[.int .i64 s2,.slice C m cc,.slice D n cd] _)) _=W2 at *
 generalize World.alloc (World.alloc w (.cells #[.int .i64 s1,.slice A k ca,.slice B l cb] _)) (.cells #[.int .i64 s2,.slice C m cc,.slice D n cd] _)=W1 at *;generalize hg0:w.heap.size=g0 at *;have Hsz:=ZZ (show w.heap.size≤g0+1+1 by omega);clear hg0;have hZ2:=aj (HZ.out W2 (ad _));have hww:=ZZ (al HW1.out HW2.out);have HG0:=ZZ (show ∀W:World,Ext w W→w.heap.size≤W.heap.size from fun W h=>h.size);refine bodyPost_ret (v:=.agg #[.int .i64 0,.slice none 0 0,.slice none 0 0]) (by simp [results,Tryz.f30];go_simp) rfl ?_;exact⟨_,rfl,Nr.zero _,hww.out,frn_mk (fun b hb=>by cases hb) (fun b hb=>by cases hb)⟩
theorem mul_n_pos (M:Nat) (hM:M≤134217728) (vx vy:Value) (x y:Rat) (w:World) (hx:Nr w vx x) (hy:Nr w vy y) (bx:Bq M x) (by_:Bq M y) (hx0:x≠0) (hy0:y≠0):Calls Tryz.prog 30 #[vx,vy] w fun e w'=>∃v,e=.returned v∧Nr w' v (x*y)∧Ext w w'∧FrN w.heap.size v:=by
 obtain⟨s1,A,k,ca,B,l,cb,rfl,hs1,hxt,hxb⟩:=hx.form;obtain⟨s2,C,m,cc,D,n,cd,rfl,hs2,hyt,hyb⟩:=hy.form;obtain⟨hS,hZ,hw1,hw2,hsz,hsz1⟩:=setupR2 w (.int .i64 s1) (.slice A k ca) (.slice B l cb) (.int .i64 s2) (.slice C m cc) (.slice D n cd);have HS:=ZZ hS;have HZ:=ZZ hZ;have HW1:=ZZ hw1;have HW2:=ZZ hw2;have Hsz1:=ZZ hsz1;have Hx:=ZZ hx;have Hy:=ZZ hy;have HXT:=ZZ hxt;have HYT:=ZZ hyt;have HS1:=ZZ hs1;have HS2:=ZZ hs2;have HXB:=ZZ hxb;have HYB:=ZZ hyb;rw [bn_ne hx0] at HXB;rw [bn_ne hy0] at HYB;obtain⟨sp,hsp⟩:∃sp,s1*s2=sp:=⟨_,rfl⟩;have hq:sgnB (decide (x.num<0) != decide (y.num<0))=sp:=by rw [sgnB_xor,←sign_sgnB hx0,←sign_sgnB hy0,hs1,hs2,hsp]
 have hsb:sp=1∨sp = -1:=by rw [←hq];generalize (decide (x.num<0) != decide (y.num<0))=b;cases b <;> simp [sgnB]
 have hwr:IntKind.i64.wrap (s1*s2)=sp:=by rw [hsp];exact IntWalk.i64_in _ (by omega)
 have hz0:(sp == 0)=false:=by rw [beq_eq_false_iff_ne];omega
 have HQ:=ZZ hq;have HFIN:=ZZ (mul_parts x y);have S3:=ZZ (sr_bits bx.1 (by omega));have S4:=ZZ (sr_bits bx.2 (by omega));have S5:=ZZ (sr_bits by_.1 (by omega));have S6:=ZZ (sr_bits by_.2 (by omega));have D0:=ZZ (Nat.mul_pos x.den_pos y.den_pos);have L1:=ZZ (show (dr (x.num.natAbs*y.num.natAbs)).length≤1073741824 from Nat.le_trans (dr_bits (lt_mul bx.1 by_.1)) (by omega));have L2:=ZZ (show (dr (x.den*y.den)).length≤1073741824 from Nat.le_trans (dr_bits (lt_mul bx.2 by_.2)) (by omega));clear hx hy hxt hxb hyt hyb hS hZ hw1 hw2 hsz hsz1 hs1 hs2;clear hx0 hy0 bx by_ hM hsp hq hsb
 go_enter Tryz.func30,Tryz.ntmps30
 go_upto_region 3 with (fail)
 generalize World.alloc (World.alloc (World.alloc w (.cells #[.int .i64 s1,.slice A k ca,.slice B l cb] _)) (.cells #[.int .i64 s2,.slice C m cc,.slice D n cd] _)) _=W2 at *;generalize World.alloc (World.alloc w (.cells #[.int .i64 s1,.slice A k ca,.slice B l cb] _)) (.cells #[.int .i64 s2,.slice C m cc,.slice D n cd] _)=W1 at *;generalize hg0:w.heap.size=g0 at *;have Hsz:=ZZ (show w.heap.size≤g0+1+1 by omega);clear hg0;have hww:=ZZ (al HW1.out HW2.out);have HG0:=ZZ (show ∀W:World,Ext w W→w.heap.size≤W.heap.size from fun W h=>h.size);have hS0:=HS.out W2 HW2.out;have hx1:=ZZ (ac W2)
 go_region_held3 (fun W=>W.cell? ⟨g0,0,none⟩=some (.int .i64 s1)∧W.cell? ⟨g0,1,none⟩=some (.slice A k ca)∧W.cell? ⟨g0,2,none⟩=some (.slice B l cb)∧W.cell? ⟨g0+1,0,none⟩=some (.int .i64 s2)∧W.cell? ⟨g0+1,1,none⟩=some (.slice C m cc)∧W.cell? ⟨g0+1,2,none⟩=some (.slice D n cd))
  (first
   | exact HS.out _ (au (al HW2.out hx4.out) Hsz1.out _ _ _)
   | exact HS.out _ (al HW2.out hx4.out)
   | exact HS.out _ (al HW2.out hx3.out)
   | exact HS.out _ (al HW2.out hx2.out)
   | exact HS.out _ (al HW2.out hx1.out))
  (first
   |(have _q:=hx3
     go_at_call 110
     refine(made_f _ sp HQ.out _ _ (x.num.natAbs*y.num.natAbs) (x.den*y.den) D0.out _ H3'.out H4.out L1.out L2.out).mono ?_;clear _q;rintro e w3 ⟨v3,rfl,h7,k4,fr⟩;obtain⟨s7,A7,k7,c7,B7,l7,d7,h7e,-⟩:=h7.form;subst h7e;have H7:=ZZ h7;have F3:=ZZ (fr _ (HG0.out _ (al hww.out hx3.out)) F1.out F2.out);clear fr;have hx4:=ZZ (al hx3.out k4);have hz:=HZ.out _ hx4.out;obtain⟨z0,z1,z2,f0,f1,f2⟩:=aj hz;have Hz:=ZZ hz;clear h7 k4 hz)
   |(have _q:=hx2
     go_at_call 125
     refine(times_f _ _ x.den y.den _ (HXB.out.mono (al hww.out hx2.out)) (HYB.out.mono (al hww.out hx2.out)) S4.out S6.out).mono ?_;clear _q;rintro e w2 ⟨v2,rfl,h4,k3,fr⟩;obtain⟨P2,p2,c2,rfl⟩:=h4.form';have H4:=ZZ h4;have F2:=ZZ (fr.mono (HG0.out _ (al hww.out hx2.out)));clear fr;have H3':=ZZ (H3.out.mono k3);have hx3:=ZZ (al hx2.out k3);clear h4 k3)
   |(have _q:=hx1
     go_at_call 125
     refine(times_f _ _ x.num.natAbs y.num.natAbs _ (HXT.out.mono (al hww.out hx1.out)) (HYT.out.mono (al hww.out hx1.out)) S3.out S5.out).mono ?_;clear _q;rintro e w1 ⟨v1,rfl,h3,k2,fr⟩;obtain⟨P1,p1,c1,rfl⟩:=h3.form';have H3:=ZZ h3;have F1:=ZZ (fr.mono (HG0.out _ (al hww.out hx1.out)));clear fr;have hx2:=ZZ (al hx1.out k2);clear h3 k2))
 go_wp2_with fail;refine bodyPost_ret (v:=.agg #[.int .i64 s7,.slice A7 k7 c7,.slice B7 l7 d7]) (by simp [results,Tryz.f30];go_simp) rfl ?_
 refine⟨_,rfl,?_,au (al hww.out hx4.out) Hsz.out _ _ _,F3.out⟩;rw [←HFIN.out];exact Nr.put_z H7.out Hz.out _ _ _
theorem mul_f (M:Nat) (hM:M≤134217728) (vx vy:Value) (x y:Rat) (w:World) (hx:Nr w vx x) (hy:Nr w vy y) (bx:Bq M x) (by_:Bq M y):Calls Tryz.prog 30 #[vx,vy] w fun e w'=>∃v,e=.returned v∧Nr w' v (x*y)∧Ext w w'∧FrN w.heap.size v:=by
 by_cases hx0:x=0
 ·exact mul_n_zero vx vy x y w hx hy (by rw [hx0];simp)
 ·by_cases hy0:y=0
  ·exact mul_n_zero vx vy x y w hx hy (by rw [hy0];simp)
  ·exact mul_n_pos M hM vx vy x y w hx hy bx by_ hx0 hy0
end Go.Proofs.YtpgdefgdboijlaaGreatDoor
namespace Go.Proofs.YtpgdefgdboijlaaGreatDoor
open Go.RowKit
theorem sign_bnd {x:Rat} {s:Int} (h:x.num.sign=s):s = -1∨s=0∨s=1:=by
 rcases Int.lt_trichotomy x.num 0 with e|e|e
 ·rw [Int.sign_eq_neg_one_of_neg e] at h;omega
 ·rw [e] at h;simp at h;omega
 ·rw [Int.sign_eq_one_of_pos e] at h;omega
theorem bn_neg (x:Rat):bn (-x)=bn x:=by
 unfold bn;rw [Rat.neg_num,Rat.neg_den]
 by_cases h:x.num=0
 ·rw [if_pos h,if_pos (by omega)]
 ·rw [if_neg h,if_neg (by omega)]
theorem Nr.flip {W:World} {s:Int} {vt vb:Value} {x:Rat} (hs:x.num.sign=s) (h1:Wr W vt x.num.natAbs) (h2:Wr W vb (bn x)):Nr W (.agg #[.int .i64 (-s),vt,vb]) (-x):=
 ⟨-s,vt,vb,rfl,by rw [Rat.neg_num,Int.sign_neg,hs],by rw [Rat.neg_num,Int.natAbs_neg];exact h1,by rw [bn_neg];exact h2⟩
theorem Nr.siz {W:World} {s:Int} {vt vb:Value} {x:Rat} (hs:x.num.sign=s) (h1:Wr W vt x.num.natAbs) (h2:Wr W vb (bn x)):Nr W (.agg #[.int .i64 (s*s),vt,vb]) (absQ x):=by
 unfold absQ
 split
 ·rename_i h
  have e:s = -1:=by rw [←hs];exact Int.sign_eq_neg_one_of_neg h
  subst e;exact Nr.flip hs h1 h2
 ·rename_i h
  refine⟨s*s,vt,vb,rfl,?_,h1,h2⟩;rw [hs]
  rcases sign_bnd hs with e|e|e
  ·have:=Int.sign_eq_neg_one_iff_neg.1 (hs.trans e);omega
  ·rw [e];rfl
  ·rw [e];rfl
theorem ext2r (w:World) (a b:Obj):Ext w ((w.alloc a).alloc b):=al (ab _ _) (ab _ _)
theorem neg_n (vx:Value) (x:Rat) (w:World) (hx:Nr w vx x):Calls Tryz.prog 63 #[vx] w fun e w'=>∃v,e=.returned v∧Nr w' v (-x)∧Ext w w':=by
 obtain⟨s,A,k,ca,B,l,cb,rfl,hsg,hxt,hxb⟩:=hx.form;have hsb:=sign_bnd hsg;have Hx:=ZZ hx;have HXT:=ZZ hxt;have HXB:=ZZ hxb;have HSG:=ZZ hsg;obtain⟨hS,hw1⟩:=setupR1 w (.int .i64 s) (.slice A k ca) (.slice B l cb);have HS:=ZZ hS;have K0:=ZZ hw1;have R0:=ZZ (ad (w.alloc (.cells #[.int .i64 s,.slice A k ca,.slice B l cb] 31)));clear hx hxt hxb hS hw1 hsg;have hw:IntKind.i64.wrap (-s) = -s:=IntWalk.i64_in _ (by omega)
 go_enter Tryz.func63,Tryz.ntmps63
 go_wp2_with fail;refine bodyPost_ret (v:=.agg #[.int .i64 (-s),.slice A k ca,.slice B l cb]) (by simp [results,Tryz.f63];go_simp) rfl ?_
 exact⟨_,rfl,Nr.flip HSG.out (HXT.out.mono (ext2r _ _ _)) (HXB.out.mono (ext2r _ _ _)),ext2r _ _ _⟩
theorem abs_n (vx:Value) (x:Rat) (w:World) (hx:Nr w vx x):Calls Tryz.prog 65 #[vx] w fun e w'=>∃v,e=.returned v∧Nr w' v (absQ x)∧Ext w w':=by
 obtain⟨s,A,k,ca,B,l,cb,rfl,hsg,hxt,hxb⟩:=hx.form;have hsb:=sign_bnd hsg;have Hx:=ZZ hx;have HXT:=ZZ hxt;have HXB:=ZZ hxb;have HSG:=ZZ hsg;obtain⟨hS,hw1⟩:=setupR1 w (.int .i64 s) (.slice A k ca) (.slice B l cb);have HS:=ZZ hS;have K0:=ZZ hw1;have R0:=ZZ (ad (w.alloc (.cells #[.int .i64 s,.slice A k ca,.slice B l cb] 31)));clear hx hxt hxb hS hw1 hsg;obtain⟨s2,hs2⟩:∃s2,s*s=s2:=⟨_,rfl⟩;have hw:IntKind.i64.wrap (s*s)=s2:=by rw [hs2];apply IntWalk.i64_in;rcases hsb with e|e|e <;> subst e <;> omega
 have HS2:=ZZ hs2;clear hs2 hsb
 go_enter Tryz.func65,Tryz.ntmps65
 go_wp2_with fail;refine bodyPost_ret (v:=.agg #[.int .i64 s2,.slice A k ca,.slice B l cb]) (by simp [results,Tryz.f65];go_simp) rfl ?_
 exact⟨_,rfl,by rw [←HS2.out];exact Nr.siz HSG.out (HXT.out.mono (ext2r _ _ _)) (HXB.out.mono (ext2r _ _ _)),ext2r _ _ _⟩
theorem sr_small {n:Nat} (h:n<2 ^ 64):Sr n:=sr_bits h (by decide)
theorem int_n_neg (k:Nat) (h0:0<k) (hk:k≤9223372036854775808) (w:World):Calls Tryz.prog 25 #[.int .i64 (-(k:Int))] w fun e w'=>∃v,e=.returned v∧Nr w' v (((-(k:Int):Int)):Rat)∧Ext w w':=by
 have Hr:=ZZ (show rat true k 1=((-(k:Int):Int):Rat) by have:=rat_int (-(k:Int));rw [show decide (-(k:Int)<0)=true by simp;omega,Int.natAbs_neg,Int.natAbs_natCast] at this;exact this);obtain⟨h,hh⟩:∃h,h=k / 2:=⟨_,rfl⟩;obtain⟨r,hr⟩:∃r,r=k - 2*h:=⟨_,rfl⟩;have HK:=ZZ (show h+h+r=k by omega);have SH:=ZZ (sr_small (show h<2 ^ 64 by omega));have S2:=ZZ (sr_small (show h+h<2 ^ 64 by omega));have SR:=ZZ (sr_small (show r<2 ^ 64 by omega));have LK:=ZZ (show (dr k).length≤1073741824 from Nat.le_trans (dr_bits (show k<2 ^ 64 by omega)) (by decide));have HB:=ZZ (show h<9223372036854775808 by omega);have RB:=ZZ (show r<9223372036854775808 by omega);have t0:decide (-(k:Int)<0)=true:=by simp;omega
 have t0':decide (0<k)=true:=by simp;omega
 have q1:Int.tdiv (-(k:Int)) 2 = -(h:Int):=by rw [Int.neg_tdiv,Int.tdiv_eq_ediv_of_nonneg (by omega)];omega
 have w1:IntKind.i64.wrap (-(h:Int)) = -(h:Int):=IntWalk.i64_in _ (by omega);have w2:IntKind.i64.wrap (h:Int)=(h:Int):=IntWalk.i64_in _ (by omega);have w3:IntKind.i64.wrap (2*-(h:Int)) = -(2*(h:Int)):=(IntWalk.i64_in _ (by omega)).trans (by omega);have w4:IntKind.i64.wrap (-(k:Int)+2*(h:Int)) = -(r:Int):=(IntWalk.i64_in _ (by omega)).trans (by omega);have w5:IntKind.i64.wrap (r:Int)=(r:Int):=IntWalk.i64_in _ (by omega);have R0:=ZZ (ad (w.alloc (.cells #[.int .i64 0,.slice none 0 0,.slice none 0 0] 31)));have Z0:=ZZ (fun W (h:Ext (w.alloc (.cells #[.int .i64 0,.slice none 0 0,.slice none 0 0] 31)) W)=>rowR h);have K0:=ZZ (ab w (.cells #[.int .i64 0,.slice none 0 0,.slice none 0 0] 31));clear hh hr h0 hk
 go_enter Tryz.func25,Tryz.ntmps25
 go_wp2_with fail;refine(whole_r h HB.out _).mono ?_
 rintro e wa ⟨v1,rfl,h2,k2⟩;obtain⟨Pv1,pv1,cv1,rfl⟩:=h2.form';have G1:=ZZ h2;have K1:=ZZ (al R0.out k2);clear h2 k2;go_wp2_with fail;refine(whole_r h HB.out _).mono ?_;rintro e wb ⟨v2,rfl,h2,k2⟩;obtain⟨Pv2,pv2,cv2,rfl⟩:=h2.form';have G2:=ZZ h2;have G1':=ZZ (G1.out.mono k2);have K2:=ZZ (al K1.out k2);clear h2 k2;go_wp2_with fail;refine(plus_r _ _ h h _ G1'.out G2.out SH.out SH.out).mono ?_;rintro e wc ⟨v3,rfl,h2,k2⟩;obtain⟨Pv3,pv3,cv3,rfl⟩:=h2.form';have G3:=ZZ h2;have K3:=ZZ (al K2.out k2);clear h2 k2;go_wp2_with fail;refine(whole_r r RB.out _).mono ?_;rintro e wd ⟨v4,rfl,h2,k2⟩;obtain⟨Pv4,pv4,cv4,rfl⟩:=h2.form';have G4:=ZZ h2;have G3':=ZZ (G3.out.mono k2);have K4:=ZZ (al K3.out k2);clear h2 k2;go_wp2_with fail;refine(plus_r _ _ (h+h) r _ G3'.out G4.out S2.out SR.out).mono ?_;rintro e we ⟨v5,rfl,h2,k2⟩;obtain⟨Pv5,pv5,cv5,rfl⟩:=h2.form';have G5:=ZZ h2;have K5:=ZZ (al K4.out k2);clear h2 k2;rw [HK.out] at G5;go_wp2_with fail;refine(one_r _).mono ?_;rintro e wf ⟨v6,rfl,h2,k2⟩;obtain⟨Pv6,pv6,cv6,rfl⟩:=h2.form';have G6:=ZZ h2;have G5':=ZZ (G5.out.mono k2);have KP:=ZZ (al K5.out k2);clear h2 k2;go_wp2_with fail;refine(made_r true (-1) rfl _ _ k 1 (by omega) _ G5'.out G6.out LK.out (by rw [dr_one];simp)).mono ?_;rintro e w7 ⟨V7,rfl,h2,k2⟩;obtain⟨s7,A7,k7,c7,B7,l7,d7,rfl,-⟩:=h2.form;have H7:=ZZ h2;have K7:=ZZ (al KP.out k2);clear h2 k2;obtain⟨z0,z1,z2,f0,f1,f2⟩:=aj (Z0.out _ K7.out);go_wp2_with fail
 refine bodyPost_ret (v:=.agg #[.int .i64 s7,.slice A7 k7 c7,.slice B7 l7 d7]) (by simp [results,Tryz.f25];go_simp) rfl ?_;refine⟨_,rfl,?_,au (al K0.out K7.out) (Nat.le_refl _) _ _ _⟩;rw [←Hr.out];exact Nr.put_z H7.out (Z0.out _ K7.out) _ _ _
theorem int_n_pos (k:Nat) (hk:k<9223372036854775808) (w:World):Calls Tryz.prog 25 #[.int .i64 (k:Int)] w fun e w'=>∃v,e=.returned v∧Nr w' v ((k:Int):Rat)∧Ext w w':=by
 have Hr:=ZZ (show rat false k 1=((k:Int):Rat) by have:=rat_int (k:Int);rw [show decide ((k:Int)<0)=false by simp,Int.natAbs_natCast] at this;exact this);have LK:=ZZ (show (dr k).length≤1073741824 from Nat.le_trans (dr_bits (show k<2 ^ 64 by omega)) (by decide));have HK:=ZZ hk;have t0:decide ((k:Int)<0)=false:=by simp
 have R0:=ZZ (ad (w.alloc (.cells #[.int .i64 0,.slice none 0 0,.slice none 0 0] 31)));have Z0:=ZZ (fun W (h:Ext (w.alloc (.cells #[.int .i64 0,.slice none 0 0,.slice none 0 0] 31)) W)=>rowR h);have K0:=ZZ (ab w (.cells #[.int .i64 0,.slice none 0 0,.slice none 0 0] 31));clear hk
 go_enter Tryz.func25,Tryz.ntmps25
 go_wp2_with fail;refine(whole_r k HK.out _).mono ?_
 rintro e w1 ⟨v1,rfl,h2,k2⟩;obtain⟨Pv1,pv1,cv1,rfl⟩:=h2.form';have G1:=ZZ h2;have K1:=ZZ (al R0.out k2);clear h2 k2;go_wp2_with fail;refine(one_r _).mono ?_;rintro e w2 ⟨v2,rfl,h2,k2⟩;obtain⟨Pv2,pv2,cv2,rfl⟩:=h2.form';have G2:=ZZ h2;have G1':=ZZ (G1.out.mono k2);have KP:=ZZ (al K1.out k2);clear h2 k2;go_wp2_with fail;refine(made_r false 1 rfl _ _ k 1 (by omega) _ G1'.out G2.out LK.out (by rw [dr_one];simp)).mono ?_;rintro e w7 ⟨V7,rfl,h2,k2⟩;obtain⟨s7,A7,k7,c7,B7,l7,d7,rfl,-⟩:=h2.form;have H7:=ZZ h2;have K7:=ZZ (al KP.out k2);clear h2 k2;obtain⟨z0,z1,z2,f0,f1,f2⟩:=aj (Z0.out _ K7.out);go_wp2_with fail;refine bodyPost_ret (v:=.agg #[.int .i64 s7,.slice A7 k7 c7,.slice B7 l7 d7]) (by simp [results,Tryz.f25];go_simp) rfl ?_;refine⟨_,rfl,?_,au (al K0.out K7.out) (Nat.le_refl _) _ _ _⟩;rw [←Hr.out];exact Nr.put_z H7.out (Z0.out _ K7.out) _ _ _
theorem int_n (z:Int) (h1:-9223372036854775808≤z) (h2:z<9223372036854775808) (w:World):Calls Tryz.prog 25 #[.int .i64 z] w fun e w'=>∃v,e=.returned v∧Nr w' v (z:Rat)∧Ext w w':=by
 rcases(show z<0∨0≤z by omega) with h|h
 ·obtain⟨k,rfl⟩:∃k:Nat,z = -(k:Int):=⟨z.natAbs,by omega⟩
  exact int_n_neg k (by omega) (by omega) w
 ·obtain⟨k,rfl⟩:∃k:Nat,z=(k:Int):=⟨z.toNat,by omega⟩
  exact int_n_pos k (by omega) w
theorem bq_inv {M:Nat} {y:Rat} (h:Bq M y) (h0:y≠0):Bq M y⁻¹:=by
 obtain⟨i1,i2,i3⟩:=inv_parts h0
 have hi:y⁻¹≠0:=by
  intro e;rw [e] at i2
  have:=y.den_pos
  simp at i2;omega
 rw [bn_ne hi] at i3;exact⟨by rw [i2];exact h.2,by rw [i3];exact h.1⟩
theorem Nr.inv {W:World} {s:Int} {vt vb:Value} {y:Rat} (h0:y≠0) (hs:y.num.sign=s) (h1:Wr W vt y.num.natAbs) (h2:Wr W vb (bn y)):Nr W (.agg #[.int .i64 s,vb,vt]) y⁻¹:=by
 obtain⟨i1,i2,i3⟩:=inv_parts h0;exact⟨s,vb,vt,rfl,i1.trans hs,by rw [i2,←bn_ne h0];exact h2,by rw [i3];exact h1⟩
theorem div_f (M:Nat) (hM:M≤134217728) (vx vy:Value) (x y:Rat) (w:World) (hx:Nr w vx x) (hy:Nr w vy y) (bx:Bq M x) (by_:Bq M y) (h0:y≠0):Calls Tryz.prog 55 #[vx,vy] w fun e w'=>∃v,e=.returned (.tuple #[v,.int .i64 0])∧Nr w' v (x / y)∧Ext w w'∧FrN w.heap.size v:=by
 obtain⟨s1,A,k,ca,B,l,cb,rfl,hs1,hxt,hxb⟩:=hx.form;obtain⟨s2,C,m,cc,D,n,cd,rfl,hs2,hyt,hyb⟩:=hy.form;obtain⟨hS,hZ,hw1,hw2,hsz,hsz1⟩:=setupR2 w (.int .i64 s1) (.slice A k ca) (.slice B l cb) (.int .i64 s2) (.slice C m cc) (.slice D n cd);have HS:=ZZ hS;have HZ:=ZZ hZ;have HW1:=ZZ hw1;have HW2:=ZZ hw2;have Hsz1:=ZZ hsz1;have Hx:=ZZ hx;have Hy:=ZZ hy;have HXT:=ZZ hxt;have HYT:=ZZ hyt;have HS1:=ZZ hs1;have HS2:=ZZ hs2;have HIN:=ZZ (fun W (k:Ext w W)=>Nr.inv h0 hs2 (hyt.mono k) (hyb.mono k));have BI:=ZZ (bq_inv by_ h0);have BX:=ZZ bx;have HM:=ZZ hM;have HDV:=ZZ (Rat.div_def x y)
 have hz0:(s2 == 0)=false:=by
  rw [beq_eq_false_iff_ne,←hs2];intro e;exact h0 (Rat.num_eq_zero.1 (Int.sign_eq_zero_iff_zero.1 e))
 have hc0:=hS _ hw2;clear hx hy hxt hxb hyt hyb hS hZ hw1 hw2 hsz hsz1 hs1 hs2;clear h0 bx by_ hM
 go_enter Tryz.func55,Tryz.ntmps55
 go_wp2_with fail;generalize World.alloc (World.alloc (World.alloc w (.cells #[.int .i64 s1,.slice A k ca,.slice B l cb] _)) (.cells #[.int .i64 s2,.slice C m cc,.slice D n cd] _)) _=W2 at *
 generalize World.alloc (World.alloc w (.cells #[.int .i64 s1,.slice A k ca,.slice B l cb] _)) (.cells #[.int .i64 s2,.slice C m cc,.slice D n cd] _)=W1 at *;generalize hg0:w.heap.size=g0 at *;have Hsz:=ZZ (show w.heap.size≤g0+1+1 by omega);clear hg0;have hww:=ZZ (al HW1.out HW2.out);have HG0:=ZZ (show ∀W:World,Ext w W→w.heap.size≤W.heap.size from fun W h=>h.size);refine(mul_f M HM.out _ _ x y⁻¹ _ (Hx.out.mono hww.out) (HIN.out _ hww.out) BX.out BI.out).mono ?_;rintro e w3 ⟨v3,rfl,h7,k4,fr⟩;obtain⟨s7,A7,k7,c7,B7,l7,d7,h7e,-⟩:=h7.form;subst h7e;have H7:=ZZ h7;have F3:=ZZ (fr.mono (HG0.out _ hww.out));clear fr;have K7:=ZZ k4;have hz:=HZ.out _ k4;obtain⟨z0,z1,z2,f0,f1,f2⟩:=aj hz;have Hz:=ZZ hz;clear h7 k4 hz;go_wp2_with fail;refine bodyPost_ret (v:=.tuple #[.agg #[.int .i64 s7,.slice A7 k7 c7,.slice B7 l7 d7],.int .i64 0]) (by simp [results,Tryz.f55];go_simp) rfl ?_;refine⟨_,rfl,?_,au (al hww.out K7.out) Hsz.out _ _ _,F3.out⟩;rw [HDV.out];exact Nr.put_z H7.out Hz.out _ _ _
theorem div_n (M:Nat) (hM:M≤134217728) (vx vy:Value) (x y:Rat) (w:World) (hx:Nr w vx x) (hy:Nr w vy y) (bx:Bq M x) (by_:Bq M y) (h0:y≠0):Calls Tryz.prog 55 #[vx,vy] w fun e w'=>∃v,e=.returned (.tuple #[v,.int .i64 0])∧Nr w' v (x / y)∧Ext w w':=
 (div_f M hM vx vy x y w hx hy bx by_ h0).mono fun e w' ⟨v,h1,h2,h3,_⟩=>⟨v,h1,h2,h3⟩
end Go.Proofs.YtpgdefgdboijlaaGreatDoor
namespace Go.Proofs.YtpgdefgdboijlaaGreatDoor
open Go.RowKit
theorem ord_bnd (m n:Nat):ordN m n = -1∨ordN m n=0∨ordN m n=1:=by
 unfold ordN;split
 ·exact .inl rfl
 ·split
  ·exact .inr (.inr rfl)
  ·exact .inr (.inl rfl)
theorem ord_neg (m n:Nat):ordN m n<0↔m<n:=by
 unfold ordN;split
 ·simp;omega
 ·split <;> simp <;> omega
theorem ord_pos (m n:Nat):0<ordN m n↔n<m:=by
 unfold ordN;split
 ·simp;omega
 ·split <;> simp <;> omega
theorem order_e (va vb:Value) (m n:Nat) (c:Int) (hc:ordN m n=c) (w:World) (ha:Wr w va m) (hb:Wr w vb n) (sa:Sr m) (sb:Sr n):Calls Tryz.prog 139 #[va,vb] w fun e w'=>e=.returned (.int .i64 c)∧Ext w w':=by
 refine(order_r va vb m n w ha hb sa sb).mono ?_;rintro e w' ⟨rfl,k,rfl⟩;exact⟨by rw [hc],aA _ _⟩
theorem cmp_diff {x y:Rat} {s1 s2:Int} (h1:x.num.sign=s1) (h2:y.num.sign=s2):(s1<s2→cmpQ x y = -1)∧(s2<s1→cmpQ x y=1)∧(s1=s2→s1=0→cmpQ x y=0):=by
 have b1:=sign_bnd h1;have b2:=sign_bnd h2;refine⟨fun h=>?_,fun h=>?_,fun h h0=>?_⟩
 ·rw [cmpQ_sign x y (by omega),h1,h2];omega
 ·rw [cmpQ_sign x y (by omega),h1,h2];omega
 ·have e1:x=0:=Rat.num_eq_zero.1 (Int.sign_eq_zero_iff_zero.1 (h1.trans h0))
  have e2:y=0:=Rat.num_eq_zero.1 (Int.sign_eq_zero_iff_zero.1 (h2.trans (h.symm.trans h0)));rw [e1,e2];rfl
theorem cmp_prod {x y:Rat} {s:Int} (h1:x.num.sign=s) (h2:y.num.sign=s):cmpQ x y=s*ordN (x.num.natAbs*y.den) (y.num.natAbs*x.den):=by
 have h:=cmpQ_same x y (ordN (x.num.natAbs*y.den) (y.num.natAbs*x.den)) (h1.trans h2.symm) (ord_neg _ _) (ord_pos _ _);rw [h,h1]
 have:=ord_bnd (x.num.natAbs*y.den) (y.num.natAbs*x.den)
 congr 1;omega
theorem cmp_n_lt (vx vy:Value) (x y:Rat) (w:World) (hx:Nr w vx x) (hy:Nr w vy y) (h:x.num.sign<y.num.sign):Calls Tryz.prog 56 #[vx,vy] w fun e w'=>e=.returned (.int .i64 (cmpQ x y))∧Ext w w':=by
 obtain⟨s1,A,k,ca,B,l,cb,rfl,hs1,hxt,hxb⟩:=hx.form;obtain⟨s2,C,m,cc,D,n,cd,rfl,hs2,hyt,hyb⟩:=hy.form;obtain⟨hS,hZ,hw1,hw2,hsz,hsz1⟩:=setupR2 w (.int .i64 s1) (.slice A k ca) (.slice B l cb) (.int .i64 s2) (.slice C m cc) (.slice D n cd);have HS:=ZZ hS;have HZ:=ZZ hZ;have HW1:=ZZ hw1;have HW2:=ZZ hw2;have Hsz1:=ZZ hsz1;have Hx:=ZZ hx;have Hy:=ZZ hy;have HXT:=ZZ hxt;have HYT:=ZZ hyt;have HS1:=ZZ hs1;have HS2:=ZZ hs2
 have HC:=ZZ (show cmpQ x y = -1 by
  have hd:=cmp_diff hs1 hs2;rw [hs1,hs2] at h;exact hd.1 h)
 rw [hs1,hs2] at h;have hc0:=hS _ (ad _);have t1:decide (s1<s2)=true:=by simp;omega
 clear hx hy hxt hxb hyt hyb hS hZ hw1 hw2 hsz hsz1 hs1 hs2;clear h
 go_enter Tryz.func56,Tryz.ntmps56
 go_wp2_with fail;go_ret
 rw [HC.out];exact⟨rfl,HW1.out⟩
theorem cmp_n_gt (vx vy:Value) (x y:Rat) (w:World) (hx:Nr w vx x) (hy:Nr w vy y) (h:y.num.sign<x.num.sign):Calls Tryz.prog 56 #[vx,vy] w fun e w'=>e=.returned (.int .i64 (cmpQ x y))∧Ext w w':=by
 obtain⟨s1,A,k,ca,B,l,cb,rfl,hs1,hxt,hxb⟩:=hx.form;obtain⟨s2,C,m,cc,D,n,cd,rfl,hs2,hyt,hyb⟩:=hy.form;obtain⟨hS,hZ,hw1,hw2,hsz,hsz1⟩:=setupR2 w (.int .i64 s1) (.slice A k ca) (.slice B l cb) (.int .i64 s2) (.slice C m cc) (.slice D n cd);have HS:=ZZ hS;have HZ:=ZZ hZ;have HW1:=ZZ hw1;have HW2:=ZZ hw2;have Hsz1:=ZZ hsz1;have Hx:=ZZ hx;have Hy:=ZZ hy;have HXT:=ZZ hxt;have HYT:=ZZ hyt;have HS1:=ZZ hs1;have HS2:=ZZ hs2
 have HC:=ZZ (show cmpQ x y=1 by
  have hd:=cmp_diff hs1 hs2;rw [hs1,hs2] at h;exact hd.2.1 h)
 rw [hs1,hs2] at h;have hc0:=hS _ (ad _);have t1:decide (s1<s2)=false:=by simp;omega
 have t2:decide (s2<s1)=true:=by simp;omega
 clear hx hy hxt hxb hyt hyb hS hZ hw1 hw2 hsz hsz1 hs1 hs2;clear h
 go_enter Tryz.func56,Tryz.ntmps56
 go_wp2_with fail;go_ret
 rw [HC.out];exact⟨rfl,HW1.out⟩
theorem cmp_n_zero (vx vy:Value) (x y:Rat) (w:World) (hx:Nr w vx x) (hy:Nr w vy y) (h:x.num.sign=y.num.sign) (h0:x.num.sign=0):Calls Tryz.prog 56 #[vx,vy] w fun e w'=>e=.returned (.int .i64 (cmpQ x y))∧Ext w w':=by
 obtain⟨s1,A,k,ca,B,l,cb,rfl,hs1,hxt,hxb⟩:=hx.form;obtain⟨s2,C,m,cc,D,n,cd,rfl,hs2,hyt,hyb⟩:=hy.form;obtain⟨hS,hZ,hw1,hw2,hsz,hsz1⟩:=setupR2 w (.int .i64 s1) (.slice A k ca) (.slice B l cb) (.int .i64 s2) (.slice C m cc) (.slice D n cd);have HS:=ZZ hS;have HZ:=ZZ hZ;have HW1:=ZZ hw1;have HW2:=ZZ hw2;have Hsz1:=ZZ hsz1;have Hx:=ZZ hx;have Hy:=ZZ hy;have HXT:=ZZ hxt;have HYT:=ZZ hyt;have HS1:=ZZ hs1;have HS2:=ZZ hs2
 have HC:=ZZ (show cmpQ x y=0 by
  have hd:=cmp_diff hs1 hs2;rw [hs1,hs2] at h;exact hd.2.2 h (hs1.symm.trans h0))
 rw [hs1,hs2] at h;have hc0:=hS _ (ad _);rw [hs1] at h0;subst h;subst h0;clear hx hy hxt hxb hyt hyb hS hZ hw1 hw2 hsz hsz1 hs1 hs2
 go_enter Tryz.func56,Tryz.ntmps56
 go_wp2_with fail;go_ret
 rw [HC.out];exact⟨rfl,HW1.out⟩
theorem cmp_n_same (M:Nat) (hM:M≤134217728) (vx vy:Value) (x y:Rat) (w:World) (hx:Nr w vx x) (hy:Nr w vy y) (bx:Bq M x) (by_:Bq M y) (h:x.num.sign=y.num.sign) (h0:x.num.sign≠0):Calls Tryz.prog 56 #[vx,vy] w fun e w'=>e=.returned (.int .i64 (cmpQ x y))∧Ext w w':=by
 obtain⟨s1,A,k,ca,B,l,cb,rfl,hs1,hxt,hxb⟩:=hx.form;obtain⟨s2,C,m,cc,D,n,cd,rfl,hs2,hyt,hyb⟩:=hy.form;obtain⟨hS,hZ,hw1,hw2,hsz,hsz1⟩:=setupR2 w (.int .i64 s1) (.slice A k ca) (.slice B l cb) (.int .i64 s2) (.slice C m cc) (.slice D n cd);have HS:=ZZ hS;have HZ:=ZZ hZ;have HW1:=ZZ hw1;have HW2:=ZZ hw2;have Hsz1:=ZZ hsz1;have Hx:=ZZ hx;have Hy:=ZZ hy;have HXT:=ZZ hxt;have HYT:=ZZ hyt;have HS1:=ZZ hs1;have HS2:=ZZ hs2;have HXB:=ZZ hxb;have HYB:=ZZ hyb;have hx0:x≠0:=fun e=>h0 (by rw [e];rfl);have hy0:y≠0:=fun e=>h0 (by rw [h,e];rfl);rw [bn_ne hx0] at HXB;rw [bn_ne hy0] at HYB;rw [hs1,hs2] at h;rw [hs1] at h0;subst h;obtain⟨c,hc⟩:∃c,ordN (x.num.natAbs*y.den) (y.num.natAbs*x.den)=c:=⟨_,rfl⟩;have hcp:=cmp_prod hs1 hs2;rw [hc] at hcp;obtain⟨d,hd⟩:∃d,s1*c=d:=⟨_,rfl⟩
 have hwr:IntKind.i64.wrap (s1*c)=d:=by
  rw [hd];apply IntWalk.i64_in;have b1:=sign_bnd hs1;have b2:=ord_bnd (x.num.natAbs*y.den) (y.num.natAbs*x.den);rw [hc] at b2
  rcases b1 with e|e|e <;> subst e <;> omega
 have HC:=ZZ hc;have HD:=ZZ (hcp.trans hd);have hz0:(s1 == 0)=false:=by rw [beq_eq_false_iff_ne];exact h0
 have S3:=ZZ (sr_bits bx.1 (by omega));have S4:=ZZ (sr_bits bx.2 (by omega));have S5:=ZZ (sr_bits by_.1 (by omega));have S6:=ZZ (sr_bits by_.2 (by omega));have S7:=ZZ (sr_bits (lt_mul bx.1 by_.2) (by omega));have S8:=ZZ (sr_bits (lt_mul by_.1 bx.2) (by omega));clear hx hy hxt hxb hyt hyb hS hZ hw1 hw2 hsz hsz1 hs1 hs2;clear h0 bx by_ hM hx0 hy0 hc hcp hd
 go_enter Tryz.func56,Tryz.ntmps56
 go_upto_region 7 with (fail)
 generalize World.alloc (World.alloc w (.cells #[.int .i64 s1,.slice A k ca,.slice B l cb] _)) (.cells #[.int .i64 s1,.slice C m cc,.slice D n cd] _)=W2 at *;generalize hg0:w.heap.size=g0 at *;clear hg0;have hS0:=HS.out W2 (ad _);have hx1:=ZZ (ac W2)
 go_region_held3 (fun W=>W.cell? ⟨g0,0,none⟩=some (.int .i64 s1)∧W.cell? ⟨g0,1,none⟩=some (.slice A k ca)∧W.cell? ⟨g0,2,none⟩=some (.slice B l cb)∧W.cell? ⟨g0+1,0,none⟩=some (.int .i64 s1)∧W.cell? ⟨g0+1,1,none⟩=some (.slice C m cc)∧W.cell? ⟨g0+1,2,none⟩=some (.slice D n cd))
  (first
   | exact HS.out _ hx4.out
   | exact HS.out _ hx3.out
   | exact HS.out _ hx2.out
   | exact HS.out _ hx1.out)
  (first
   |(have _q:=hx3
     go_at_call 139
     refine(order_e _ _ _ _ c HC.out _ H3'.out H4.out S7.out S8.out).mono ?_;clear _q;rintro e w3 ⟨rfl,k4⟩;have hx4:=ZZ (al hx3.out k4);clear k4)
   |(have _q:=hx2
     go_at_call 125
     refine(times_r _ _ y.num.natAbs x.den _ (HYT.out.mono (al HW1.out hx2.out)) (HXB.out.mono (al HW1.out hx2.out)) S5.out S4.out).mono ?_;clear _q;rintro e w2 ⟨v2,rfl,h4,k3⟩;obtain⟨P2,p2,c2,rfl⟩:=h4.form';have H4:=ZZ h4;have H3':=ZZ (H3.out.mono k3);have hx3:=ZZ (al hx2.out k3);clear h4 k3)
   |(have _q:=hx1
     go_at_call 125
     refine(times_r _ _ x.num.natAbs y.den _ (HXT.out.mono (al HW1.out hx1.out)) (HYB.out.mono (al HW1.out hx1.out)) S3.out S6.out).mono ?_;clear _q;rintro e w1 ⟨v1,rfl,h3,k2⟩;obtain⟨P1,p1,c1,rfl⟩:=h3.form';have H3:=ZZ h3;have hx2:=ZZ (al hx1.out k2);clear h3 k2))
 all_goals
  go_wp2_with fail;go_ret
  rw [HD.out];exact⟨rfl,al HW1.out hx4.out⟩
theorem cmp_n (M:Nat) (hM:M≤134217728) (vx vy:Value) (x y:Rat) (w:World) (hx:Nr w vx x) (hy:Nr w vy y) (bx:Bq M x) (by_:Bq M y):Calls Tryz.prog 56 #[vx,vy] w fun e w'=>e=.returned (.int .i64 (cmpQ x y))∧Ext w w':=by
 rcases Int.lt_trichotomy x.num.sign y.num.sign with h|h|h
 ·exact cmp_n_lt vx vy x y w hx hy h
 ·by_cases h0:x.num.sign=0
  ·exact cmp_n_zero vx vy x y w hx hy h h0
  ·exact cmp_n_same M hM vx vy x y w hx hy bx by_ h h0
 ·exact cmp_n_gt vx vy x y w hx hy h
theorem cmp_e (M:Nat) (hM:M≤134217728) (vx vy:Value) (x y:Rat) (c:Int) (hc:cmpQ x y=c) (w:World) (hx:Nr w vx x) (hy:Nr w vy y) (bx:Bq M x) (by_:Bq M y):Calls Tryz.prog 56 #[vx,vy] w fun e w'=>e=.returned (.int .i64 c)∧Ext w w':=by
 subst hc;exact cmp_n M hM vx vy x y w hx hy bx by_
theorem min_n_first (M:Nat) (hM:M≤134217728) (vx vy:Value) (x y:Rat) (c:Int) (hc:cmpQ x y=c) (hcc:decide (c≤0)=true) (w:World) (hx:Nr w vx x) (hy:Nr w vy y) (bx:Bq M x) (by_:Bq M y):Calls Tryz.prog 60 #[vx,vy] w fun e w'=>e=.returned vx∧Ext w w':=by
 obtain⟨s1,A,k,ca,B,l,cb,rfl,hs1,hxt,hxb⟩:=hx.form;obtain⟨s2,C,m,cc,D,n,cd,rfl,hs2,hyt,hyb⟩:=hy.form;obtain⟨hS,hZ,hw1,hw2,hsz,hsz1⟩:=setupR2 w (.int .i64 s1) (.slice A k ca) (.slice B l cb) (.int .i64 s2) (.slice C m cc) (.slice D n cd);have HS:=ZZ hS;have HZ:=ZZ hZ;have HW1:=ZZ hw1;have HW2:=ZZ hw2;have Hsz1:=ZZ hsz1;have Hx:=ZZ hx;have Hy:=ZZ hy;have HXT:=ZZ hxt;have HYT:=ZZ hyt;have HS1:=ZZ hs1;have HS2:=ZZ hs2;have BX:=ZZ bx;have BY:=ZZ by_;have HM:=ZZ hM;have HC:=ZZ hc;have hc0:=hS _ hw2;clear hx hy hxt hxb hyt hyb hS hZ hw1 hw2 hsz hsz1 hs1 hs2;clear bx by_ hM hc
 go_enter Tryz.func60,Tryz.ntmps60
 go_wp2_with fail;generalize World.alloc (World.alloc (World.alloc w (.cells #[.int .i64 s1,.slice A k ca,.slice B l cb] _)) (.cells #[.int .i64 s2,.slice C m cc,.slice D n cd] _)) _=W2 at *
 generalize World.alloc (World.alloc w (.cells #[.int .i64 s1,.slice A k ca,.slice B l cb] _)) (.cells #[.int .i64 s2,.slice C m cc,.slice D n cd] _)=W1 at *;generalize hg0:w.heap.size=g0 at *;have Hsz:=ZZ (show w.heap.size≤g0+1+1 by omega);clear hg0;have hww:=ZZ (al HW1.out HW2.out);refine(cmp_e M HM.out _ _ x y c HC.out _ (Hx.out.mono hww.out) (Hy.out.mono hww.out) BX.out BY.out).mono ?_;rintro e w3 ⟨rfl,k4⟩;have K7:=ZZ k4;obtain⟨a0,a1,a2,a3,a4,a5⟩:=HS.out _ (al HW2.out k4);have hz:=HZ.out _ k4;obtain⟨z0,z1,z2,f0,f1,f2⟩:=aj hz;have Hz:=ZZ hz;clear k4 hz hc0;go_wp2_with fail;refine bodyPost_ret (v:=.agg #[.int .i64 s1,.slice A k ca,.slice B l cb]) (by simp [results,Tryz.f60];go_simp) rfl ?_;exact⟨rfl,au (al hww.out K7.out) Hsz.out _ _ _⟩
theorem min_n_second (M:Nat) (hM:M≤134217728) (vx vy:Value) (x y:Rat) (c:Int) (hc:cmpQ x y=c) (hcc:decide (c≤0)=false) (w:World) (hx:Nr w vx x) (hy:Nr w vy y) (bx:Bq M x) (by_:Bq M y):Calls Tryz.prog 60 #[vx,vy] w fun e w'=>e=.returned vy∧Ext w w':=by
 obtain⟨s1,A,k,ca,B,l,cb,rfl,hs1,hxt,hxb⟩:=hx.form;obtain⟨s2,C,m,cc,D,n,cd,rfl,hs2,hyt,hyb⟩:=hy.form;obtain⟨hS,hZ,hw1,hw2,hsz,hsz1⟩:=setupR2 w (.int .i64 s1) (.slice A k ca) (.slice B l cb) (.int .i64 s2) (.slice C m cc) (.slice D n cd);have HS:=ZZ hS;have HZ:=ZZ hZ;have HW1:=ZZ hw1;have HW2:=ZZ hw2;have Hsz1:=ZZ hsz1;have Hx:=ZZ hx;have Hy:=ZZ hy;have HXT:=ZZ hxt;have HYT:=ZZ hyt;have HS1:=ZZ hs1;have HS2:=ZZ hs2;have BX:=ZZ bx;have BY:=ZZ by_;have HM:=ZZ hM;have HC:=ZZ hc;have hc0:=hS _ hw2;clear hx hy hxt hxb hyt hyb hS hZ hw1 hw2 hsz hsz1 hs1 hs2;clear bx by_ hM hc
 go_enter Tryz.func60,Tryz.ntmps60
 go_wp2_with fail;generalize World.alloc (World.alloc (World.alloc w (.cells #[.int .i64 s1,.slice A k ca,.slice B l cb] _)) (.cells #[.int .i64 s2,.slice C m cc,.slice D n cd] _)) _=W2 at *
 generalize World.alloc (World.alloc w (.cells #[.int .i64 s1,.slice A k ca,.slice B l cb] _)) (.cells #[.int .i64 s2,.slice C m cc,.slice D n cd] _)=W1 at *;generalize hg0:w.heap.size=g0 at *;have Hsz:=ZZ (show w.heap.size≤g0+1+1 by omega);clear hg0;have hww:=ZZ (al HW1.out HW2.out);refine(cmp_e M HM.out _ _ x y c HC.out _ (Hx.out.mono hww.out) (Hy.out.mono hww.out) BX.out BY.out).mono ?_;rintro e w3 ⟨rfl,k4⟩;have K7:=ZZ k4;obtain⟨a0,a1,a2,a3,a4,a5⟩:=HS.out _ (al HW2.out k4);have hz:=HZ.out _ k4;obtain⟨z0,z1,z2,f0,f1,f2⟩:=aj hz;have Hz:=ZZ hz;clear k4 hz hc0;go_wp2_with fail;refine bodyPost_ret (v:=.agg #[.int .i64 s2,.slice C m cc,.slice D n cd]) (by simp [results,Tryz.f60];go_simp) rfl ?_;exact⟨rfl,au (al hww.out K7.out) Hsz.out _ _ _⟩
theorem min_v (M:Nat) (hM:M≤134217728) (vx vy:Value) (x y:Rat) (w:World) (hx:Nr w vx x) (hy:Nr w vy y) (bx:Bq M x) (by_:Bq M y):Calls Tryz.prog 60 #[vx,vy] w fun e w'=>∃v,e=.returned v∧(∀W,Nr W vx x→Nr W vy y→Nr W v (av x y))∧Ext w w':=by
 obtain⟨c,hc⟩:∃c,cmpQ x y=c:=⟨_,rfl⟩;unfold av
 split
 ·rename_i h
  have h1:=(cmpQ_pos x y).2 h;exact(min_n_second M hM vx vy x y c hc (by rw [←hc,h1];rfl) w hx hy bx by_).mono fun e w1 ⟨he,hw⟩=>⟨_,he,fun W _ h=>h,hw⟩
 ·rename_i h
  refine(min_n_first M hM vx vy x y c hc ?_ w hx hy bx by_).mono fun e w1 ⟨he,hw⟩=>⟨_,he,fun W h _=>h,hw⟩
  rcases rat_tri x y with h1|h1|h1
  ·rw [←hc,(cmpQ_neg x y).2 h1];rfl
  ·rw [←hc,(cmpQ_zero x y).2 h1];rfl
  ·exact absurd h1 h
theorem min_n (M:Nat) (hM:M≤134217728) (vx vy:Value) (x y:Rat) (w:World) (hx:Nr w vx x) (hy:Nr w vy y) (bx:Bq M x) (by_:Bq M y):Calls Tryz.prog 60 #[vx,vy] w fun e w'=>∃v,e=.returned v∧Nr w' v (av x y)∧Ext w w':=
 (min_v M hM vx vy x y w hx hy bx by_).mono fun e w1 ⟨v,he,hv,hw⟩=>⟨v,he,hv w1 (hx.mono hw) (hy.mono hw),hw⟩
theorem max_n_first (M:Nat) (hM:M≤134217728) (vx vy:Value) (x y:Rat) (c:Int) (hc:cmpQ x y=c) (hcc:decide (0≤c)=true) (w:World) (hx:Nr w vx x) (hy:Nr w vy y) (bx:Bq M x) (by_:Bq M y):Calls Tryz.prog 62 #[vx,vy] w fun e w'=>e=.returned vx∧Ext w w':=by
 obtain⟨s1,A,k,ca,B,l,cb,rfl,hs1,hxt,hxb⟩:=hx.form;obtain⟨s2,C,m,cc,D,n,cd,rfl,hs2,hyt,hyb⟩:=hy.form;obtain⟨hS,hZ,hw1,hw2,hsz,hsz1⟩:=setupR2 w (.int .i64 s1) (.slice A k ca) (.slice B l cb) (.int .i64 s2) (.slice C m cc) (.slice D n cd);have HS:=ZZ hS;have HZ:=ZZ hZ;have HW1:=ZZ hw1;have HW2:=ZZ hw2;have Hsz1:=ZZ hsz1;have Hx:=ZZ hx;have Hy:=ZZ hy;have HXT:=ZZ hxt;have HYT:=ZZ hyt;have HS1:=ZZ hs1;have HS2:=ZZ hs2;have BX:=ZZ bx;have BY:=ZZ by_;have HM:=ZZ hM;have HC:=ZZ hc;have hc0:=hS _ hw2;clear hx hy hxt hxb hyt hyb hS hZ hw1 hw2 hsz hsz1 hs1 hs2;clear bx by_ hM hc
 go_enter Tryz.func62,Tryz.ntmps62
 go_wp2_with fail;generalize World.alloc (World.alloc (World.alloc w (.cells #[.int .i64 s1,.slice A k ca,.slice B l cb] _)) (.cells #[.int .i64 s2,.slice C m cc,.slice D n cd] _)) _=W2 at *
 generalize World.alloc (World.alloc w (.cells #[.int .i64 s1,.slice A k ca,.slice B l cb] _)) (.cells #[.int .i64 s2,.slice C m cc,.slice D n cd] _)=W1 at *;generalize hg0:w.heap.size=g0 at *;have Hsz:=ZZ (show w.heap.size≤g0+1+1 by omega);clear hg0;have hww:=ZZ (al HW1.out HW2.out);refine(cmp_e M HM.out _ _ x y c HC.out _ (Hx.out.mono hww.out) (Hy.out.mono hww.out) BX.out BY.out).mono ?_;rintro e w3 ⟨rfl,k4⟩;have K7:=ZZ k4;obtain⟨a0,a1,a2,a3,a4,a5⟩:=HS.out _ (al HW2.out k4);have hz:=HZ.out _ k4;obtain⟨z0,z1,z2,f0,f1,f2⟩:=aj hz;have Hz:=ZZ hz;clear k4 hz hc0;go_wp2_with fail;refine bodyPost_ret (v:=.agg #[.int .i64 s1,.slice A k ca,.slice B l cb]) (by simp [results,Tryz.f62];go_simp) rfl ?_;exact⟨rfl,au (al hww.out K7.out) Hsz.out _ _ _⟩
theorem max_n_second (M:Nat) (hM:M≤134217728) (vx vy:Value) (x y:Rat) (c:Int) (hc:cmpQ x y=c) (hcc:decide (0≤c)=false) (w:World) (hx:Nr w vx x) (hy:Nr w vy y) (bx:Bq M x) (by_:Bq M y):Calls Tryz.prog 62 #[vx,vy] w fun e w'=>e=.returned vy∧Ext w w':=by
 obtain⟨s1,A,k,ca,B,l,cb,rfl,hs1,hxt,hxb⟩:=hx.form;obtain⟨s2,C,m,cc,D,n,cd,rfl,hs2,hyt,hyb⟩:=hy.form;obtain⟨hS,hZ,hw1,hw2,hsz,hsz1⟩:=setupR2 w (.int .i64 s1) (.slice A k ca) (.slice B l cb) (.int .i64 s2) (.slice C m cc) (.slice D n cd);have HS:=ZZ hS;have HZ:=ZZ hZ;have HW1:=ZZ hw1;have HW2:=ZZ hw2;have Hsz1:=ZZ hsz1;have Hx:=ZZ hx;have Hy:=ZZ hy;have HXT:=ZZ hxt;have HYT:=ZZ hyt;have HS1:=ZZ hs1;have HS2:=ZZ hs2;have BX:=ZZ bx;have BY:=ZZ by_;have HM:=ZZ hM;have HC:=ZZ hc;have hc0:=hS _ hw2;clear hx hy hxt hxb hyt hyb hS hZ hw1 hw2 hsz hsz1 hs1 hs2;clear bx by_ hM hc
 go_enter Tryz.func62,Tryz.ntmps62
 go_wp2_with fail;generalize World.alloc (World.alloc (World.alloc w (.cells #[.int .i64 s1,.slice A k ca,.slice B l cb] _)) (.cells #[.int .i64 s2,.slice C m cc,.slice D n cd] _)) _=W2 at *
 generalize World.alloc (World.alloc w (.cells #[.int .i64 s1,.slice A k ca,.slice B l cb] _)) (.cells #[.int .i64 s2,.slice C m cc,.slice D n cd] _)=W1 at *;generalize hg0:w.heap.size=g0 at *;have Hsz:=ZZ (show w.heap.size≤g0+1+1 by omega);clear hg0;have hww:=ZZ (al HW1.out HW2.out);refine(cmp_e M HM.out _ _ x y c HC.out _ (Hx.out.mono hww.out) (Hy.out.mono hww.out) BX.out BY.out).mono ?_;rintro e w3 ⟨rfl,k4⟩;have K7:=ZZ k4;obtain⟨a0,a1,a2,a3,a4,a5⟩:=HS.out _ (al HW2.out k4);have hz:=HZ.out _ k4;obtain⟨z0,z1,z2,f0,f1,f2⟩:=aj hz;have Hz:=ZZ hz;clear k4 hz hc0;go_wp2_with fail;refine bodyPost_ret (v:=.agg #[.int .i64 s2,.slice C m cc,.slice D n cd]) (by simp [results,Tryz.f62];go_simp) rfl ?_;exact⟨rfl,au (al hww.out K7.out) Hsz.out _ _ _⟩
theorem max_v (M:Nat) (hM:M≤134217728) (vx vy:Value) (x y:Rat) (w:World) (hx:Nr w vx x) (hy:Nr w vy y) (bx:Bq M x) (by_:Bq M y):Calls Tryz.prog 62 #[vx,vy] w fun e w'=>∃v,e=.returned v∧(∀W,Nr W vx x→Nr W vy y→Nr W v (aw x y))∧Ext w w':=by
 obtain⟨c,hc⟩:∃c,cmpQ x y=c:=⟨_,rfl⟩;unfold aw
 split
 ·rename_i h
  have h1:=(cmpQ_neg x y).2 h;exact(max_n_second M hM vx vy x y c hc (by rw [←hc,h1];rfl) w hx hy bx by_).mono fun e w1 ⟨he,hw⟩=>⟨_,he,fun W _ h=>h,hw⟩
 ·rename_i h
  refine(max_n_first M hM vx vy x y c hc ?_ w hx hy bx by_).mono fun e w1 ⟨he,hw⟩=>⟨_,he,fun W h _=>h,hw⟩
  rcases rat_tri x y with h1|h1|h1
  ·exact absurd h1 h
  ·rw [←hc,(cmpQ_zero x y).2 h1];rfl
  ·rw [←hc,(cmpQ_pos x y).2 h1];rfl
theorem max_n (M:Nat) (hM:M≤134217728) (vx vy:Value) (x y:Rat) (w:World) (hx:Nr w vx x) (hy:Nr w vy y) (bx:Bq M x) (by_:Bq M y):Calls Tryz.prog 62 #[vx,vy] w fun e w'=>∃v,e=.returned v∧Nr w' v (aw x y)∧Ext w w':=
 (max_v M hM vx vy x y w hx hy bx by_).mono fun e w1 ⟨v,he,hv,hw⟩=>⟨v,he,hv w1 (hx.mono hw) (hy.mono hw),hw⟩
end Go.Proofs.YtpgdefgdboijlaaGreatDoor
