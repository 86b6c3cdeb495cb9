/- Trim and Deg of the program. The highest coefficient, quotients by a number that is not 0. Numbers: rounding. Printed by gen_nh.py. -/
import Derived.Test.YtaaoleakkaloeaaGreatDoorGQp
import Derived.Deep.LoopGhost
import Derived.Deep.DeepCutAuto
import Derived.Test.YtaaoleakkaloeaaGreatDoorGNg
set_option linter.unusedVariables false
set_option maxRecDepth 100000
set_option maxHeartbeats 64000000
namespace Go.Proofs.YtaaoleakkaloeaaGreatDoor
open Go.RowKit
theorem num_zero_iff {q:Rat} {c:Int} (h:q.num.sign=c):c=0↔q=0:=by
 rw [←h,Int.sign_eq_zero_iff_zero];exact Rat.num_eq_zero
theorem trim_take_zero {l:List Rat} {k:Nat} (hq:l[k]?=some 0):trimF (l.take (k+1))=trimF (l.take k):=by
 rw [List.take_add_one,hq];exact trim_snoc_zero _
theorem trim_take_ne {l:List Rat} {k:Nat} {q:Rat} (hq:l[k]?=some q) (h:q≠0):trimF (l.take (k+1))=l.take (k+1):=by
 rw [List.take_add_one,hq];exact trim_snoc h
theorem trim_le (p:List Rat):(trimF p).length≤p.length:=by
 induction p with
 | nil=>exact Nat.le_refl _
 | cons a p ih=>
  show (if trimF p=[] then (if a=0 then [] else [a]) else a :: trimF p).length≤_
  split
  ·split <;> simp
  ·simpa using ih
theorem trim_q (v:Value) (l:List Rat) (hl:l.length≤1000000) (w:World) (h:Pl w v l):Calls Tryz.prog 9 #[v] w fun e w'=>∃v',e=.returned v'∧PlN w.heap.size w' v' (trimF l)∧Ext w w':=by
 obtain⟨A,cap,rfl,hc,hA⟩:=id h;have HP:=ZZ h;have HL:=ZZ hl;have HC:=ZZ hc;have HA:=ZZ hA;clear h hl hA hc
 go_enter Tryz.func9,Tryz.ntmps9
 go_wp2_with fail
 go_loopg [0] l.length (fun k p wr=>Hid (k≤l.length)∧p=.slice A k cap∧Hid (trimF (l.take k)=trimF l)∧Hid (Ext w wr))
 case atStart=>exact⟨ZZ (Nat.le_refl _),rfl,ZZ (by rw [List.take_length]),ZZ (ae _)⟩
 case round=>
  obtain⟨HK,rfl,HT,HE⟩:=hrel;rename World=>WR
  rcases Nat.eq_zero_or_pos gk with hz|hz
  ·subst hz
   have q1:decide ((0:Int)<((0:Nat):Int))=false:=rfl;go_wp2_with fail;refine(clone_q _ (l.take 0) (by simp) _ ((HP.out.mono HE.out).take (Nat.zero_le _))).mono ?_;rintro e w' ⟨v',rfl,hn,kk⟩;have e0:l.take 0=trimF l:=by rw [←HT.out];rfl
   rw [e0] at hn;have HN:=ZZ hn;have HK2:=ZZ kk;clear hn kk e0;go_wp2_with fail;go_ret;refine⟨_,rfl,?_,ak HE.out HK2.out⟩
   rcases HN.out with hn|⟨g,hg,hn⟩
   ·exact .inl hn
   ·exact .inr ⟨g,Nat.le_trans HE.out.size hg,hn⟩
  ·obtain⟨k,rfl⟩:∃k,gk=k+1:=⟨gk - 1,by omega⟩
   clear hz;have hk:=HK.out
   rcases HA.out with ⟨-,h5⟩|⟨b,o,rfl,ht⟩
   ·rw [h5] at hk;simp at hk
   obtain⟨q,hq⟩:∃q,l[k]?=some q:=⟨l[k]'(by omega),List.getElem?_eq_getElem _⟩;obtain⟨s,A1,k1,ca1,B1,l1,cb1,c0,c1,c2,hn⟩:=(ht k q hq).mono HE.out;obtain⟨c,hcs⟩:∃c,q.num.sign=c:=⟨_,rfl⟩;have HCS:=ZZ hcs;have HQ:=ZZ hq;have HN:=ZZ hn;have HT1:=ZZ ht;have q1:decide ((0:Int)<((k+1:Nat):Int))=true:=decide_eq_true (by omega);have q2:decide ((0:Int)<(k:Int)+1)=true:=decide_eq_true (by omega)
   have q3:IntKind.i64.wrap ((k:Int)+1 - 1)=(k:Int):=by
    have:=HL.out
    rw [show (k:Int)+1 - 1=k by omega];exact IntWalk.i64_in _ (by omega)
   have q3':IntKind.i64.wrap (k:Int)=(k:Int):=by
    have:=HL.out
    exact IntWalk.i64_in _ (by omega)
   have q4:(k:Int)<(k:Int)+1:=by omega
   have q5:(0:Int)≤(k:Int):=by omega
   have q6:(k:Int)≤(cap:Int):=by have:=HC.out;omega
   clear hcs hq hn ht hk;go_wp2_with fail;refine(sign_q' _ q _ c HCS.out HN.out).mono ?_;rintro e w5 ⟨rfl,k5⟩;have K5:=ZZ (ak HE.out k5);clear c0 c1 c2 k5
   by_cases hc0:c=0
   ·subst hc0
    have z0:((0:Int) == 0)=true:=rfl;have HZ:=ZZ ((num_zero_iff HCS.out).1 rfl);go_wp2_with fail
    go_roundg k
    case measure=>omega
    case rel=>exact⟨ZZ (by have:=HK.out;omega),rfl,ZZ (by have h1:=HQ.out;rw [HZ.out] at h1;rw [←trim_take_zero h1];exact HT.out),ZZ K5.out⟩
   ·have z0:(c == 0)=false:=beq_eq_false_iff_ne.2 hc0
    have HZ:=ZZ (fun e:q=0=>hc0 ((num_zero_iff HCS.out).2 e));clear hc0;go_wp2_with fail;refine(clone_q _ (l.take (k+1)) (by have:=HL.out;simp;omega) _ ((HP.out.mono K5.out).take HK.out)).mono ?_;rintro e w' ⟨v',rfl,hn,kk⟩;rw [show l.take (k+1)=trimF l by rw [←HT.out];exact(trim_take_ne HQ.out HZ.out).symm] at hn;have HN2:=ZZ hn;have HK2:=ZZ kk;clear hn kk;go_wp2_with fail;go_ret;refine⟨_,rfl,?_,ak K5.out HK2.out⟩
    rcases HN2.out with hn|⟨g,hg,hn⟩
    ·exact .inl hn
    ·exact .inr ⟨g,Nat.le_trans K5.out.size hg,hn⟩
theorem deg_q (v:Value) (l:List Rat) (hl:l.length≤1000000) (w:World) (h:Pl w v l):Calls Tryz.prog 13 #[v] w fun e w'=>e=.returned (.int .i64 (((trimF l).length:Int) - 1))∧Ext w w':=by
 have HP:=ZZ h;have HL:=ZZ hl;obtain⟨n,hn⟩:∃n,(trimF l).length=n:=⟨_,rfl⟩;rw [hn];have HN:=ZZ hn;have HT:=ZZ (show n≤l.length by rw [←hn];exact trim_le l);clear h hl hn
 go_enter Tryz.func13,Tryz.ntmps13
 go_wp2_with fail;refine(trim_q _ l HL.out _ HP.out).mono ?_
 rintro e w3 ⟨v3,rfl,h3,k3⟩;obtain⟨A,cap,e3,hc,-⟩:=h3.pl;rw [HN.out] at e3;subst e3;have K3:=ZZ k3
 have q3:IntKind.i64.wrap ((n:Int) - 1)=(n:Int) - 1:=by
  have:=HL.out
  have:=HT.out
  exact IntWalk.i64_in _ (by omega)
 clear h3 k3 hc;go_wp2_with fail;go_ret;exact⟨rfl,K3.out⟩
end Go.Proofs.YtaaoleakkaloeaaGreatDoor
set_option linter.unusedVariables false
set_option maxRecDepth 100000
set_option maxHeartbeats 64000000
namespace Go.Proofs.YtaaoleakkaloeaaGreatDoor
open Go.RowKit
theorem top_q (v:Value) (l:List Rat) (hl:l.length≤1000000) (n:Nat) (q:Rat) (hn:l.length=n+1) (hq:l[n]?=some q) (w:World) (h:Pl w v l):Calls Tryz.prog 83 #[v] w fun e w'=>∃v',e=.returned v'∧Nm w' v' q∧Ext w w':=by
 obtain⟨A,cap,rfl,hc,hA⟩:=h
 rcases hA with ⟨-,h5⟩|⟨b,o,rfl,ht⟩
 ·rw [h5] at hn;simp at hn
 rw [hn];obtain⟨s,A1,k1,ca1,B1,l1,cb1,d0,d1,d2,hx⟩:=ht n q hq;have HX:=ZZ hx;have e1:=ab w (.cells #[.bool false,.slice none 0 0,.slice none 0 0] 36);have c0:=am e1 d0;have c1:=am e1 d1;have c2:=am e1 d2
 have q3:IntKind.i64.wrap ((n:Int)+1 - 1)=(n:Int):=by
  rw [show (n:Int)+1 - 1=n by omega];exact IntWalk.i64_in _ (by omega)
 have q3':IntKind.i64.wrap (n:Int)=(n:Int):=IntWalk.i64_in _ (by omega);have q4:(n:Int)<(n:Int)+1:=by omega
 have q5:(0:Int)≤(n:Int):=by omega
 clear hl hn hq hc ht hx d0 d1 d2 e1
 go_enter Tryz.func83,Tryz.ntmps83
 go_wp2_with fail;refine bodyPost_ret (v:=.agg #[.bool s,.slice A1 k1 ca1,.slice B1 l1 cb1]) (by simp [results,Tryz.f83];go_simp) rfl ?_
 exact⟨_,rfl,HX.out.mono (ab _ _),ab _ _⟩
theorem over_q (M:Nat) (hM:M≤1099511627776) (vx vy:Value) (x y:Rat) (w:World) (hx:Nm w vx x) (hy:Nm w vy y) (bx:Bq M x) (by_:Bq M y) (h0:y≠0):Calls Tryz.prog 84 #[vx,vy] w fun e w'=>∃v,e=.returned v∧Nm w' v (x / y)∧Ext w w':=by
 obtain⟨s1,A1,k1,ca1,B1,l1,cb1,rfl⟩:=hx.form2;obtain⟨s2,A2,k2,ca2,B2,l2,cb2,rfl⟩:=hy.form2;have HX:=ZZ hx;have HY:=ZZ hy;have BX:=ZZ bx;have BY:=ZZ by_;have H0:=ZZ h0;have HM:=ZZ hM;have e1:=ab w (.cells #[.bool s1,.slice A1 k1 ca1,.slice B1 l1 cb1] 36);have e2:=ab (w.alloc (.cells #[.bool s1,.slice A1 k1 ca1,.slice B1 l1 cb1] 36)) (.cells #[.bool s2,.slice A2 k2 ca2,.slice B2 l2 cb2] 36);have e3:=ab ((w.alloc (.cells #[.bool s1,.slice A1 k1 ca1,.slice B1 l1 cb1] 36)).alloc (.cells #[.bool s2,.slice A2 k2 ca2,.slice B2 l2 cb2] 36)) (.cells #[.bool false,.slice none 0 0,.slice none 0 0] 36);have hz:=heap_alloc_new ((w.alloc (.cells #[.bool s1,.slice A1 k1 ca1,.slice B1 l1 cb1] 36)).alloc (.cells #[.bool s2,.slice A2 k2 ca2,.slice B2 l2 cb2] 36)) (.cells #[.bool false,.slice none 0 0,.slice none 0 0] 36);have hz:=show (((w.alloc (.cells #[.bool s1,.slice A1 k1 ca1,.slice B1 l1 cb1] 36)).alloc (.cells #[.bool s2,.slice A2 k2 ca2,.slice B2 l2 cb2] 36)).alloc (.cells #[.bool false,.slice none 0 0,.slice none 0 0] 36)).heap[w.heap.size+1+1]?=some (.cells #[.bool false,.slice none 0 0,.slice none 0 0] 36 (0,0)) by simpa using hz
 have HZ:=ZZ hz;have EW:=ZZ (ak e1 (ak e2 e3));have LE:=ZZ (show w.heap.size≤w.heap.size+1+1 from by omega);clear hx hy bx by_ h0 hM e1 e2 e3 hz
 go_enter Tryz.func84,Tryz.ntmps84
 go_wp2_with fail;refine(div_q M HM.out _ _ x y _ (HX.out.mono EW.out) (HY.out.mono EW.out) BX.out BY.out H0.out).mono ?_
 rintro e w4 ⟨v4,rfl,h4,k4⟩;obtain⟨s4,A4,k4',ca4,B4,l4,cb4,rfl⟩:=h4.form2;have E4:=ZZ (ak k4 (ab w4 (.cells #[.bool s4,.slice A4 k4' ca4,.slice B4 l4 cb4] 36)));have H4:=ZZ (h4.mono (ab w4 (.cells #[.bool s4,.slice A4 k4' ca4,.slice B4 l4 cb4] 36)));have hz4:=(E4.out.block _ (lt_of_block HZ.out)).trans HZ.out;have HZ4:=ZZ hz4;obtain⟨z0,z1,z2,zf0,zf1,zf2⟩:=ai hz4;clear h4 k4 hz4;go_wp2_with fail;refine bodyPost_ret (v:=.agg #[.bool s4,.slice A4 k4' ca4,.slice B4 l4 cb4]) (by simp [results,Tryz.f84];go_simp) rfl ?_;exact⟨_,rfl,H4.out.put3 HZ4.out,al (ak EW.out E4.out) LE.out _ _ _⟩
end Go.Proofs.YtaaoleakkaloeaaGreatDoor
set_option linter.unusedVariables false
set_option maxRecDepth 100000
set_option maxHeartbeats 64000000
namespace Go.Proofs.YtaaoleakkaloeaaGreatDoor
open Go.RowKit
theorem up_c (va:Value) (n k:Nat) (w:World) (ha:Wd w va n) (sa:Sm n) (hk:k≤70368744177664):Calls Tryz.prog 121 #[va,.int .i64 k] w fun e w'=>∃v,e=.returned v∧Wd w' v (n*2 ^ k)∧Ext w w':=by
 refine(up_r va n k w ha sa hk).mono ?_;rintro e w' ⟨⟨r,rfl,h1,h2,h3,h4⟩,h5⟩;exact⟨_,rfl,by rw [←h4];exact cut_w h2 h3.cl (by omega),h5⟩
def shQ (x:Rat) (k:Int):Rat:=if k<0 then rat (decide (x.num<0)) x.num.natAbs (x.den*2 ^ k.natAbs) else rat (decide (x.num<0)) (x.num.natAbs*2 ^ k.natAbs) x.den
theorem lt_shift {n B k:Nat} (h:n<2 ^ B):n*2 ^ k<2 ^ (B+k):=by
 rw [Nat.pow_add];exact Nat.mul_lt_mul_of_pos_right h (Nat.pow_pos (by decide))
theorem Bq.sh {B:Nat} {x:Rat} {k:Int} (h:Bq B x):Bq (B+k.natAbs) (shQ x k):=by
 unfold shQ;have hp:0<x.den:=x.den_pos
 split
 ·exact bq_rat (lt_mono h.1 (by omega)) (lt_shift h.2) (Nat.ne_of_gt (Nat.mul_pos hp (Nat.pow_pos (by decide))))
 ·exact bq_rat (lt_shift h.1) (lt_mono h.2 (by omega)) (Nat.ne_of_gt hp)
theorem shifted_up (M:Nat) (hM:M≤1099511627776) (j:Nat) (hj:j≤1099511627776) (vx:Value) (x:Rat) (w:World) (hx:Nm w vx x) (bx:Bq M x):Calls Tryz.prog 88 #[vx,.int .i64 j] w fun e w'=>∃v,e=.returned v∧Nm w' v (shQ x j)∧Ext w w':=by
 have S1:=ZZ (sm_of_lt bx.1 (by omega));have S2:=ZZ (sm_of_lt bx.2 (by omega));have S3:=ZZ (sm_of_lt (lt_shift (k:=j) bx.1) (by omega));have D0:=ZZ x.den_pos;have HJ:=ZZ hj;have q1:(0:Int)≤(j:Int):=by omega
 have q2:¬(j:Int)<0:=by omega
 clear hj bx hM;obtain⟨A,k,ca,B,l,cb,rfl,hxn,hxd,hkx,hlx⟩:=hx.form;have Hx:=ZZ hx;have Hxn:=ZZ hxn;have Hkx:=ZZ hkx;have Hlx:=ZZ hlx;clear hx hxn hxd hkx hlx;generalize hbx:decide (x.num<0)=b1 at *;have Hbx:=ZZ hbx;clear hbx;obtain⟨hS,hZ,hw1,hw2,hsz,hsz1⟩:=setup1 w (.bool b1) (.slice A k ca) (.slice B l cb);have HS:=ZZ hS;have HZ:=ZZ hZ;have HW1:=ZZ hw1;have HW2:=ZZ hw2;have Hsz1:=ZZ hsz1;clear hS hZ hw1 hw2 hsz hsz1
 go_enter Tryz.func88,Tryz.ntmps88
 go_wp2_with fail;generalize World.alloc (World.alloc w (.cells #[.bool b1,.slice A k ca,.slice B l cb] _)) _=W2 at *
 generalize World.alloc w (.cells #[.bool b1,.slice A k ca,.slice B l cb] _)=W1 at *;generalize hg0:w.heap.size=g0 at *;have Hsz:=ZZ (show w.heap.size≤g0+1 by omega);clear hg0;have hww:=ZZ (ak HW1.out HW2.out);have hx0:=ZZ (ae W2);have hS0:=HS.out _ (ak HW2.out hx0.out);have e1:=ZZ (ac W2);have hx1:=ZZ (ak hx0.out e1.out)
 go_region_held3 (fun W=>W.cell? ⟨g0,0,none⟩=some (.bool b1)∧W.cell? ⟨g0,1,none⟩=some (.slice A k ca)∧W.cell? ⟨g0,2,none⟩=some (.slice B l cb))
  (first
   | exact HS.out _ (al (ak HW2.out hx4.out) Hsz1.out _ _ _)
   | exact HS.out _ (ak HW2.out hx4.out)
   | exact HS.out _ (ak HW2.out hx3.out)
   | exact HS.out _ (ak HW2.out hx2.out)
   | exact HS.out _ (ak HW2.out hx1.out))
  (first
   |(have _q:=hx3
     go_at_call 58
     refine(reduced_c _ _ _ _ _ _ (H2.out.mono e3.out) H3.out S3.out S2.out D0.out).mono ?_;clear _q;rintro e w3 ⟨vv,rfl,h4,k4⟩;obtain⟨b3,P3,p3,c3,Q3,q3,d3,rfl⟩:=h4.form2;have H4:=ZZ h4;clear h4;have e4:=ZZ k4;have hx4:=ZZ (ak hx3.out k4);clear k4;have hz:=HZ.out _ hx4.out;obtain⟨z0,z1,z2,f0,f1,f2⟩:=ai hz;have Hz:=ZZ hz;clear hz)
   |(have _q:=hx2
     go_at_call 47
     refine(under_c _ _ _ (Hx.out.mono (ak hww.out hx2.out))).mono ?_;clear _q;rintro e w2 ⟨vv,rfl,h3,k3⟩;obtain⟨P2,p2,c2,rfl⟩:=h3.form';have H3:=ZZ h3;clear h3;have e3:=ZZ k3;have hx3:=ZZ (ak hx2.out k3);clear k3)
   |(have _q:=hx1
     go_at_call 121
     refine(up_c _ _ _ _ (Hxn.out.mono (ak hww.out hx1.out)) S1.out (Nat.le_trans HJ.out (by decide))).mono ?_;clear _q;rintro e w1 ⟨vv,rfl,h2,k2⟩;obtain⟨P1,p1,c1,rfl⟩:=h2.form';have H2:=ZZ h2;clear h2;have e2:=ZZ k2;have hx2:=ZZ (ak hx1.out k2);clear k2))
 go_wp2_with fail;refine bodyPost_ret (v:=.agg #[.bool b3,.slice P3 p3 c3,.slice Q3 q3 d3]) (by simp [results,Tryz.f88];go_simp) rfl ?_
 refine⟨_,rfl,?_,al (ak hww.out hx4.out) Hsz.out _ _ _⟩
 have hr:rat b1 (x.num.natAbs*2 ^ j) x.den=shQ x (j:Int):=by
  unfold shQ;rw [if_neg (by omega),Hbx.out];rfl
 rw [←hr];exact H4.out.put3 Hz.out
theorem shifted_down (M:Nat) (hM:M≤1099511627776) (j:Nat) (h0:0<j) (hj:j≤1099511627776) (vx:Value) (x:Rat) (w:World) (hx:Nm w vx x) (bx:Bq M x):Calls Tryz.prog 88 #[vx,.int .i64 (-(j:Int))] w fun e w'=>∃v,e=.returned v∧Nm w' v (shQ x (-(j:Int)))∧Ext w w':=by
 have S1:=ZZ (sm_of_lt bx.1 (by omega));have S2:=ZZ (sm_of_lt bx.2 (by omega));have S3:=ZZ (sm_of_lt (lt_shift (k:=j) bx.2) (by omega));have D0:=ZZ (Nat.mul_pos x.den_pos (Nat.pow_pos (n:=j) (show 0<2 by decide)));have HJ:=ZZ hj;have HP:=ZZ h0;have q2:-(j:Int)<0:=by omega
 have q3:decide (-(j:Int)<0)=true:=by rw [decide_eq_true_eq];omega
 have q4:IntKind.i64.wrap (j:Int)=(j:Int):=IntWalk.i64_in _ (by omega);have q5:IntKind.i64.wrap (- -(j:Int))=(j:Int):=IntWalk.i64_in _ (by omega) |>.trans (by omega)
 clear hj bx hM h0;obtain⟨A,k,ca,B,l,cb,rfl,hxn,hxd,hkx,hlx⟩:=hx.form;have Hx:=ZZ hx;have Hxn:=ZZ hxn;have Hkx:=ZZ hkx;have Hlx:=ZZ hlx;clear hx hxn hxd hkx hlx;generalize hbx:decide (x.num<0)=b1 at *;have Hbx:=ZZ hbx;clear hbx;obtain⟨hS,hZ,hw1,hw2,hsz,hsz1⟩:=setup1 w (.bool b1) (.slice A k ca) (.slice B l cb);have HS:=ZZ hS;have HZ:=ZZ hZ;have HW1:=ZZ hw1;have HW2:=ZZ hw2;have Hsz1:=ZZ hsz1;clear hS hZ hw1 hw2 hsz hsz1
 go_enter Tryz.func88,Tryz.ntmps88
 go_wp2_with fail;generalize World.alloc (World.alloc w (.cells #[.bool b1,.slice A k ca,.slice B l cb] _)) _=W2 at *
 generalize World.alloc w (.cells #[.bool b1,.slice A k ca,.slice B l cb] _)=W1 at *;generalize hg0:w.heap.size=g0 at *;have Hsz:=ZZ (show w.heap.size≤g0+1 by omega);clear hg0;have hww:=ZZ (ak HW1.out HW2.out);have hx0:=ZZ (ae W2);have hS0:=HS.out _ (ak HW2.out hx0.out);have e1:=ZZ (ac W2);have hx1:=ZZ (ak hx0.out e1.out)
 go_region_held3 (fun W=>W.cell? ⟨g0,0,none⟩=some (.bool b1)∧W.cell? ⟨g0,1,none⟩=some (.slice A k ca)∧W.cell? ⟨g0,2,none⟩=some (.slice B l cb))
  (first
   | exact HS.out _ (al (ak HW2.out hx4.out) Hsz1.out _ _ _)
   | exact HS.out _ (ak HW2.out hx4.out)
   | exact HS.out _ (ak HW2.out hx3.out)
   | exact HS.out _ (ak HW2.out hx2.out)
   | exact HS.out _ (ak HW2.out hx1.out))
  (first
   |(have _q:=hx3
     go_at_call 58
     refine(reduced_c _ _ _ _ _ _ (Hxn.out.mono (ak hww.out hx3.out)) H3.out S1.out S3.out D0.out).mono ?_;clear _q;rintro e w3 ⟨vv,rfl,h4,k4⟩;obtain⟨b3,P3,p3,c3,Q3,q3,d3,rfl⟩:=h4.form2;have H4:=ZZ h4;clear h4;have e4:=ZZ k4;have hx4:=ZZ (ak hx3.out k4);clear k4;have hz:=HZ.out _ hx4.out;obtain⟨z0,z1,z2,f0,f1,f2⟩:=ai hz;have Hz:=ZZ hz;clear hz)
   |(have _q:=hx2
     go_at_call 121
     refine(up_c _ _ _ _ H2.out S2.out (Nat.le_trans HJ.out (by decide))).mono ?_;clear _q;rintro e w2 ⟨vv,rfl,h3,k3⟩;obtain⟨P2,p2,c2,rfl⟩:=h3.form';have H3:=ZZ h3;clear h3;have e3:=ZZ k3;have hx3:=ZZ (ak hx2.out k3);clear k3)
   |(have _q:=hx1
     go_at_call 47
     refine(under_c _ _ _ (Hx.out.mono (ak hww.out hx1.out))).mono ?_;clear _q;rintro e w1 ⟨vv,rfl,h2,k2⟩;obtain⟨P1,p1,c1,rfl⟩:=h2.form';have H2:=ZZ h2;clear h2;have e2:=ZZ k2;have hx2:=ZZ (ak hx1.out k2);clear k2))
 go_wp2_with fail;refine bodyPost_ret (v:=.agg #[.bool b3,.slice P3 p3 c3,.slice Q3 q3 d3]) (by simp [results,Tryz.f88];go_simp) rfl ?_
 refine⟨_,rfl,?_,al (ak hww.out hx4.out) Hsz.out _ _ _⟩
 have hr:rat b1 x.num.natAbs (x.den*2 ^ j)=shQ x (-(j:Int)):=by
  unfold shQ;rw [if_pos (by have:=HP.out;omega),Hbx.out,Int.natAbs_neg];rfl
 rw [←hr];exact H4.out.put3 Hz.out
theorem shifted_q (M:Nat) (hM:M≤1099511627776) (z:Int) (hz:z.natAbs≤1099511627776) (vx:Value) (x:Rat) (w:World) (hx:Nm w vx x) (bx:Bq M x):Calls Tryz.prog 88 #[vx,.int .i64 z] w fun e w'=>∃v,e=.returned v∧Nm w' v (shQ x z)∧Ext w w':=by
 rcases(show z<0∨0≤z by omega) with h|h
 ·obtain⟨k,rfl⟩:∃k:Nat,z = -(k:Int):=⟨z.natAbs,by omega⟩
  exact shifted_down M hM k (by omega) (by omega) vx x w hx bx
 ·obtain⟨k,rfl⟩:∃k:Nat,z=(k:Int):=⟨z.toNat,by omega⟩
  exact shifted_up M hM k (by omega) vx x w hx bx
end Go.Proofs.YtaaoleakkaloeaaGreatDoor
