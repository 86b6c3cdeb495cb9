/- Texts of numbers. Printed by gen_te.py. The reference's natural numbers: the greatest common divisor. Printed by gen_rh.py. The reference's natural numbers: the number of a row of digits. -/
import Derived.Test.YtoefieefcndlkaaGreatDoorGTd
import Derived.Test.YtoefieefcndlkaaGreatDoorGNe
import Derived.Test.YtoefieefcndlkaaGreatDoorGTa
import Derived.Lib.Hide
import Derived.Test.YtoefieefcndlkaaGreatDoorGRg
set_option linter.unusedVariables false
set_option maxRecDepth 100000
set_option maxHeartbeats 64000000
namespace Go.Proofs.YtoefieefcndlkaaGreatDoor
open Go.RowKit
theorem dec_len {n M:Nat} (h:n<2 ^ M):(Lib.decDigits n).length≤M+1:=dec_length_le (M+1) n (by omega) (by
 have h7:2 ^ M≤10 ^ M:=Nat.pow_le_pow_left (by decide) _;have h8:10 ^ M≤10 ^ (M+1):=Nat.pow_le_pow_right (by decide) (by omega)
 omega)
theorem text_pos_one (M:Nat) (hM:M≤1099511627776) (vx:Value) (x:Rat) (w:World) (hx:Nm w vx x) (bx:Bq M x) (htab:Tens w) (hb:decide (x.num<0)=false) (hd:x.den=1):Calls Tryz.prog 27 #[vx] w fun e w'=>e=.returned (.string ⟨(txt x).toArray⟩)∧Ext w w':=by
 have HT:=ZZ htab;have HD:=ZZ hd;have HB:=ZZ hb;have N1:=ZZ bx.1;have N2:=ZZ bx.2;have l1:=dec_len bx.1;have l2:=dec_len bx.2;have HM:=ZZ hM;obtain⟨A,k,ca,B,l,cb,rfl,hxn,hxd,hkx,hlx⟩:=hx.form;rw [hb] at hx ⊢;have Hx:=ZZ hx;have Hxn:=ZZ hxn;obtain rfl:l=0:=hlx.2 hd;obtain⟨dn_,hdn⟩:∃q,q=Lib.decDigits x.num.natAbs:=⟨_,rfl⟩;obtain⟨dd_,hdd⟩:∃q,q=Lib.decDigits x.den:=⟨_,rfl⟩;have HDN:=ZZ hdn;have HDD:=ZZ hdd;rw [←hdn] at l1;rw [←hdd] at l2
 have HR:=ZZ (show (⟨dn_.toArray⟩:ByteArray)=⟨(txt x).toArray⟩ by
  unfold txt;have hb':¬ x.num<0:=by simpa using hb
  rw [if_neg hb',if_pos hd,←hdn]
  simp)
 clear hx hxn hxd hkx hlx htab hd hb bx hM hdn hdd l1 l2;obtain⟨hS,-,hw1,-⟩:=setup1 w (.bool false) (.slice A k ca) (.slice B 0 cb);have HS:=ZZ hS;have hww:=ZZ hw1;clear hS hw1
 go_enter Tryz.func27,Tryz.ntmps27
 go_wp2_with fail;generalize World.alloc w (.cells #[.bool false,.slice A k ca,.slice B 0 cb] _)=W2 at *
 generalize w.heap.size=g0 at *;refine(row_c M HM.out _ _ _ (Hxn.out.mono hww.out) N1.out (HT.out.mono hww.out)).mono ?_;rintro e w1 ⟨rfl,k1⟩;rw [←HDN.out];obtain⟨r0,r1,r2⟩:=HS.out _ k1;have K1:=ZZ k1;clear k1;go_wp2_with fail;go_ret;exact⟨by rw [←HR.out];rfl,ak hww.out K1.out⟩
theorem text_pos_more (M:Nat) (hM:M≤1099511627776) (vx:Value) (x:Rat) (w:World) (hx:Nm w vx x) (bx:Bq M x) (htab:Tens w) (hb:decide (x.num<0)=false) (hd:¬ x.den=1):Calls Tryz.prog 27 #[vx] w fun e w'=>e=.returned (.string ⟨(txt x).toArray⟩)∧Ext w w':=by
 have HT:=ZZ htab;have HD:=ZZ hd;have HB:=ZZ hb;have N1:=ZZ bx.1;have N2:=ZZ bx.2;have l1:=dec_len bx.1;have l2:=dec_len bx.2;have HM:=ZZ hM;obtain⟨A,k,ca,B,l,cb,rfl,hxn,hxd,hkx,hlx⟩:=hx.form;rw [hb] at hx ⊢;have Hx:=ZZ hx;have Hxn:=ZZ hxn
 have hxd':Wd w (.slice B l cb) x.den:=by
  unfold dn at hxd
  rwa [if_neg hd] at hxd
 have Hxd:=ZZ hxd';have hl0:¬ l=0:=fun h=>hd (hlx.1 h);have t5:(0:Int)<(l:Int):=by omega
 clear hxd' hl0;obtain⟨dn_,hdn⟩:∃q,q=Lib.decDigits x.num.natAbs:=⟨_,rfl⟩;obtain⟨dd_,hdd⟩:∃q,q=Lib.decDigits x.den:=⟨_,rfl⟩;have HDN:=ZZ hdn;have HDD:=ZZ hdd;rw [←hdn] at l1;rw [←hdd] at l2;have c2:1+dd_.length≤9223372036854775807:=by omega
 have e2:(⟨#[47]⟩:ByteArray) ++ ⟨dd_.toArray⟩=⟨(47 :: dd_).toArray⟩:=str_append [47] dd_;have c3:dn_.length+(47 :: dd_).length≤9223372036854775807:=by have q:(47 :: dd_).length=dd_.length+1:=rfl;have q2:(45 :: dn_).length=dn_.length+1:=rfl;omega
 have c4:dn_.length+(dd_.length+1)≤9223372036854775807:=by have q2:(45 :: dn_).length=dn_.length+1:=rfl;omega
 have c5:dn_.length+(dd_.length+1)≤9223372036854775807:=by omega
 have e3:(⟨dn_.toArray⟩:ByteArray) ++ ⟨(47 :: dd_).toArray⟩=⟨(dn_ ++ 47 :: dd_).toArray⟩:=str_append _ _
 have HR:=ZZ (show (⟨(dn_ ++ 47 :: dd_).toArray⟩:ByteArray)=⟨(txt x).toArray⟩ by
  unfold txt;have hb':¬ x.num<0:=by simpa using hb
  rw [if_neg hb',if_neg hd,←hdn,←hdd]
  simp)
 clear hx hxn hxd hkx hlx htab hd hb bx hM hdn hdd l1 l2;obtain⟨hS,-,hw1,-⟩:=setup1 w (.bool false) (.slice A k ca) (.slice B l cb);have HS:=ZZ hS;have hww:=ZZ hw1;clear hS hw1
 go_enter Tryz.func27,Tryz.ntmps27
 go_wp2_with fail;generalize World.alloc w (.cells #[.bool false,.slice A k ca,.slice B l cb] _)=W2 at *
 generalize w.heap.size=g0 at *;refine(row_c M HM.out _ _ _ (Hxn.out.mono hww.out) N1.out (HT.out.mono hww.out)).mono ?_;rintro e w1 ⟨rfl,k1⟩;rw [←HDN.out];obtain⟨r0,r1,r2⟩:=HS.out _ k1;have K1:=ZZ k1;clear k1;go_wp2_with fail;refine(row_c M HM.out _ _ _ (Hxd.out.mono (ak hww.out K1.out)) N2.out (HT.out.mono (ak hww.out K1.out))).mono ?_;rintro e w2 ⟨rfl,k2⟩;rw [←HDD.out];have K2:=ZZ (ak K1.out k2);clear k2;go_wp2_with fail;go_ret;exact⟨by rw [←HR.out];rfl,ak hww.out K2.out⟩
theorem text_neg_one (M:Nat) (hM:M≤1099511627776) (vx:Value) (x:Rat) (w:World) (hx:Nm w vx x) (bx:Bq M x) (htab:Tens w) (hb:decide (x.num<0)=true) (hd:x.den=1):Calls Tryz.prog 27 #[vx] w fun e w'=>e=.returned (.string ⟨(txt x).toArray⟩)∧Ext w w':=by
 have HT:=ZZ htab;have HD:=ZZ hd;have HB:=ZZ hb;have N1:=ZZ bx.1;have N2:=ZZ bx.2;have l1:=dec_len bx.1;have l2:=dec_len bx.2;have HM:=ZZ hM;obtain⟨A,k,ca,B,l,cb,rfl,hxn,hxd,hkx,hlx⟩:=hx.form;rw [hb] at hx ⊢;have Hx:=ZZ hx;have Hxn:=ZZ hxn;obtain rfl:l=0:=hlx.2 hd;obtain⟨dn_,hdn⟩:∃q,q=Lib.decDigits x.num.natAbs:=⟨_,rfl⟩;obtain⟨dd_,hdd⟩:∃q,q=Lib.decDigits x.den:=⟨_,rfl⟩;have HDN:=ZZ hdn;have HDD:=ZZ hdd;rw [←hdn] at l1;rw [←hdd] at l2;have c1:1+dn_.length≤9223372036854775807:=by omega
 have e1:(⟨#[45]⟩:ByteArray) ++ ⟨dn_.toArray⟩=⟨(45 :: dn_).toArray⟩:=str_append [45] dn_
 have HR:=ZZ (show (⟨(45 :: dn_).toArray⟩:ByteArray)=⟨(txt x).toArray⟩ by
  unfold txt;have hb':x.num<0:=by simpa using hb
  rw [if_pos hb',if_pos hd,←hdn]
  simp)
 clear hx hxn hxd hkx hlx htab hd hb bx hM hdn hdd l1 l2;obtain⟨hS,-,hw1,-⟩:=setup1 w (.bool true) (.slice A k ca) (.slice B 0 cb);have HS:=ZZ hS;have hww:=ZZ hw1;clear hS hw1
 go_enter Tryz.func27,Tryz.ntmps27
 go_wp2_with fail;generalize World.alloc w (.cells #[.bool true,.slice A k ca,.slice B 0 cb] _)=W2 at *
 generalize w.heap.size=g0 at *;refine(row_c M HM.out _ _ _ (Hxn.out.mono hww.out) N1.out (HT.out.mono hww.out)).mono ?_;rintro e w1 ⟨rfl,k1⟩;rw [←HDN.out];obtain⟨r0,r1,r2⟩:=HS.out _ k1;have K1:=ZZ k1;clear k1;go_wp2_with fail;go_ret;exact⟨by rw [←HR.out];rfl,ak hww.out K1.out⟩
theorem text_neg_more (M:Nat) (hM:M≤1099511627776) (vx:Value) (x:Rat) (w:World) (hx:Nm w vx x) (bx:Bq M x) (htab:Tens w) (hb:decide (x.num<0)=true) (hd:¬ x.den=1):Calls Tryz.prog 27 #[vx] w fun e w'=>e=.returned (.string ⟨(txt x).toArray⟩)∧Ext w w':=by
 have HT:=ZZ htab;have HD:=ZZ hd;have HB:=ZZ hb;have N1:=ZZ bx.1;have N2:=ZZ bx.2;have l1:=dec_len bx.1;have l2:=dec_len bx.2;have HM:=ZZ hM;obtain⟨A,k,ca,B,l,cb,rfl,hxn,hxd,hkx,hlx⟩:=hx.form;rw [hb] at hx ⊢;have Hx:=ZZ hx;have Hxn:=ZZ hxn
 have hxd':Wd w (.slice B l cb) x.den:=by
  unfold dn at hxd
  rwa [if_neg hd] at hxd
 have Hxd:=ZZ hxd';have hl0:¬ l=0:=fun h=>hd (hlx.1 h);have t5:(0:Int)<(l:Int):=by omega
 clear hxd' hl0;obtain⟨dn_,hdn⟩:∃q,q=Lib.decDigits x.num.natAbs:=⟨_,rfl⟩;obtain⟨dd_,hdd⟩:∃q,q=Lib.decDigits x.den:=⟨_,rfl⟩;have HDN:=ZZ hdn;have HDD:=ZZ hdd;rw [←hdn] at l1;rw [←hdd] at l2;have c1:1+dn_.length≤9223372036854775807:=by omega
 have e1:(⟨#[45]⟩:ByteArray) ++ ⟨dn_.toArray⟩=⟨(45 :: dn_).toArray⟩:=str_append [45] dn_;have c2:1+dd_.length≤9223372036854775807:=by omega
 have e2:(⟨#[47]⟩:ByteArray) ++ ⟨dd_.toArray⟩=⟨(47 :: dd_).toArray⟩:=str_append [47] dd_;have c3:(45 :: dn_).length+(47 :: dd_).length≤9223372036854775807:=by have q:(47 :: dd_).length=dd_.length+1:=rfl;have q2:(45 :: dn_).length=dn_.length+1:=rfl;omega
 have c4:(45 :: dn_).length+(dd_.length+1)≤9223372036854775807:=by have q2:(45 :: dn_).length=dn_.length+1:=rfl;omega
 have c5:dn_.length+1+(dd_.length+1)≤9223372036854775807:=by omega
 have e3:(⟨(45 :: dn_).toArray⟩:ByteArray) ++ ⟨(47 :: dd_).toArray⟩=⟨((45 :: dn_) ++ 47 :: dd_).toArray⟩:=str_append _ _
 have HR:=ZZ (show (⟨((45 :: dn_) ++ 47 :: dd_).toArray⟩:ByteArray)=⟨(txt x).toArray⟩ by
  unfold txt;have hb':x.num<0:=by simpa using hb
  rw [if_pos hb',if_neg hd,←hdn,←hdd]
  simp)
 clear hx hxn hxd hkx hlx htab hd hb bx hM hdn hdd l1 l2;obtain⟨hS,-,hw1,-⟩:=setup1 w (.bool true) (.slice A k ca) (.slice B l cb);have HS:=ZZ hS;have hww:=ZZ hw1;clear hS hw1
 go_enter Tryz.func27,Tryz.ntmps27
 go_wp2_with fail;generalize World.alloc w (.cells #[.bool true,.slice A k ca,.slice B l cb] _)=W2 at *
 generalize w.heap.size=g0 at *;refine(row_c M HM.out _ _ _ (Hxn.out.mono hww.out) N1.out (HT.out.mono hww.out)).mono ?_;rintro e w1 ⟨rfl,k1⟩;rw [←HDN.out];obtain⟨r0,r1,r2⟩:=HS.out _ k1;have K1:=ZZ k1;clear k1;go_wp2_with fail;refine(row_c M HM.out _ _ _ (Hxd.out.mono (ak hww.out K1.out)) N2.out (HT.out.mono (ak hww.out K1.out))).mono ?_;rintro e w2 ⟨rfl,k2⟩;rw [←HDD.out];have K2:=ZZ (ak K1.out k2);clear k2;go_wp2_with fail;go_ret;exact⟨by rw [←HR.out];rfl,ak hww.out K2.out⟩
theorem text_c (M:Nat) (hM:M≤1099511627776) (vx:Value) (x:Rat) (w:World) (hx:Nm w vx x) (bx:Bq M x) (htab:Tens w):Calls Tryz.prog 27 #[vx] w fun e w'=>e=.returned (.string ⟨(txt x).toArray⟩)∧Ext w w':=by
 rcases hb:decide (x.num<0) with _|_
 ·by_cases hd:x.den=1
  ·exact text_pos_one M hM vx x w hx bx htab hb hd
  ·exact text_pos_more M hM vx x w hx bx htab hb hd
 ·by_cases hd:x.den=1
  ·exact text_neg_one M hM vx x w hx bx htab hb hd
  ·exact text_neg_more M hM vx x w hx bx htab hb hd
end Go.Proofs.YtoefieefcndlkaaGreatDoor
set_option linter.unusedVariables false
set_option maxRecDepth 100000
set_option maxHeartbeats 64000000
namespace Go.Proofs.YtoefieefcndlkaaGreatDoor
open Go.RowKit
theorem odd_cop {u:Nat} (hu:u % 2=1) (j:Nat):Nat.Coprime (2 ^ j) u:=by
 apply Nat.Coprime.pow_left
 show Nat.gcd 2 u=1
 rw [Nat.gcd_rec,hu]
 rfl
theorem gcd_two {i k u v:Nat} (hu:u % 2=1) (hv:v % 2=1):Nat.gcd (2 ^ i*u) (2 ^ k*v)=Nat.gcd u v*2 ^ min i k:=by
 rcases Nat.le_total i k with h|h
 ·obtain⟨j,rfl⟩:∃j,k=i+j:=⟨k - i,by omega⟩
  rw [Nat.pow_add,Nat.mul_assoc,Nat.gcd_mul_left,Nat.Coprime.gcd_mul_left_cancel_right v (odd_cop hu j),Nat.min_eq_left h,Nat.mul_comm]
 ·obtain⟨j,rfl⟩:∃j,i=k+j:=⟨i - k,by omega⟩
  rw [Nat.pow_add,Nat.mul_assoc,Nat.gcd_mul_left,Nat.Coprime.gcd_mul_left_cancel u (odd_cop hv j),Nat.min_eq_right h,Nat.mul_comm]
theorem gcd_step {x y z u:Nat} (hy:y % 2=1) (hle:y≤x) (h:x - y=2 ^ z*u):Nat.gcd u y=Nat.gcd x y:=by
 rw [←Nat.gcd_sub_self_left hle,h,Nat.Coprime.gcd_mul_left_cancel u (odd_cop hy z)]
theorem zeros_small {n z u:Nat} (h0:0<n) (h:n=2 ^ z*u) (hl:(dr n).length≤34359738368):z≤1030792151040∧n / 2 ^ z=u:=by
 have hp:0<2 ^ z:=Nat.pow_pos (by omega)
 have hu:0<u:=by
  rcases Nat.eq_zero_or_pos u with h'|h'
  ·rw [h',Nat.mul_zero] at h;omega
  ·exact h'
 constructor
 ·have h1:2 ^ z*1≤2 ^ z*u:=Nat.mul_le_mul_left _ hu
  have h2:=lt_dig_length B30_two n
  have h3:2 ^ z<2 ^ (30*(dr n).length):=by
   have e:=B30_pow (dr n).length;unfold dr at e ⊢;rw [←e];omega
  have:=(Nat.pow_lt_pow_iff_right (by omega:1<2)).1 h3
  omega
 ·rw [h,Nat.mul_div_cancel_left _ hp]
theorem divisor_r (va vb:Value) (m n:Nat) (h0:0<n) (w:World) (ha:Wr w va m) (hb:Wr w vb n) (sa:(dr m).length≤34359738368) (sb:(dr n).length≤34359738368):Calls Tryz.prog 83 #[va,vb] w fun e w'=>∃v,e=.returned v∧Wr w' v (Nat.gcd m n)∧Ext w w':=by
 have HB:=ZZ hb;have HG:=ZZ (show Nat.gcd m n=Nat.gcd (m % n) n by rw [Nat.gcd_comm m n,Nat.gcd_rec]);have SB:=ZZ (show Sr n by unfold Sr;omega);have H0:=ZZ h0;have HD:=ZZ (divided_r va vb m n h0 w ha hb (by omega) (by omega));have hml:(dr (m % n)).length≤34359738368:=Nat.le_trans (dig_length_mono B30_two (Nat.le_of_lt (Nat.mod_lt m h0))) sb;have HNL:=ZZ sb;clear ha hb sa h0
 go_enter Tryz.func83,Tryz.ntmps83
 go_wp2_with fail;refine HD.out.mono ?_
 rintro e w1 ⟨vq,vr,rfl,-,hr,k1⟩;generalize m % n=r at *;obtain⟨A,c,rfl,hc,hcl⟩:=hr;have X1:=ZZ k1;have HR:=ZZ (show Wr w1 (.slice A (dr r).length c) r from ⟨A,c,rfl,hc,hcl⟩);have HRL:=ZZ hml;clear HD k1 hcl
 by_cases hz:r=0
 ·subst hz
  rw [dr_zero];go_wp2_with fail;go_ret;exact⟨_,rfl,by rw [HG.out,Nat.gcd_zero_left];exact HB.out.mono X1.out,X1.out⟩
 ·have hrp:0<r:=by omega
  have hlz:(((dr r).length:Int) == 0)=false:=by
   have h1:0<(dr r).length:=List.length_pos_iff.2 (dig_ne_nil B30_two hrp);rw [beq_eq_false_iff_ne];omega
  have hlz2:¬(dr r).length=0:=by
   have h1:0<(dr r).length:=List.length_pos_iff.2 (dig_ne_nil B30_two hrp);omega
  have SR:=ZZ (show Sr r by unfold Sr;omega);go_wp2_with fail;refine(zeros_r _ r hrp _ HR.out SR.out).mono ?_;rintro e w2 ⟨⟨zi,u,rfl,hu1,hu2⟩,rfl⟩;have HU1:=ZZ hu1;have HU2:=ZZ hu2;clear hu1 hu2;go_wp2_with fail;refine(zeros_r vb n H0.out _ (HB.out.mono X1.out) SB.out).mono ?_;rintro e w2 ⟨⟨zk,v,rfl,hv1,hv2⟩,rfl⟩;obtain⟨zib,hru⟩:=zeros_small hrp HU1.out HRL.out;obtain⟨zkb,hnv⟩:=zeros_small H0.out hv1 HNL.out;have HGG:=ZZ (show Nat.gcd m n=Nat.gcd u v*2 ^ min zi zk by rw [HG.out,HU1.out,hv1,gcd_two HU2.out hv2]);have HZI:=ZZ (show zi≤35184372088832 by omega);have HZK:=ZZ (show zk≤35184372088832 by omega);have HV2:=ZZ hv2;have HRU:=ZZ hru;have HNV:=ZZ hnv;have HUL:=ZZ (show (dr u).length≤34359738368 from Nat.le_trans (dig_length_mono B30_two (by rw [←hru];exact Nat.div_le_self _ _)) HRL.out);have HVL:=ZZ (show (dr v).length≤34359738368 from Nat.le_trans (dig_length_mono B30_two (by rw [←hnv];exact Nat.div_le_self _ _)) HNL.out);clear hv1 hv2 hru hnv hlz hlz2 hml;go_wp2_with fail;refine(right_r _ r zi HZI.out _ HR.out SR.out).mono ?_;rintro e w3 ⟨vx,rfl,h3,k3⟩;rw [HRU.out] at h3;have H3:=ZZ h3;have X3:=ZZ (ak X1.out k3);clear h3 k3;go_wp2_with fail;refine(right_r vb n zk HZK.out _ (HB.out.mono X3.out) SB.out).mono ?_;rintro e w4 ⟨vy,rfl,h4,k4⟩;rw [HNV.out] at h4;have H4:=ZZ h4;have H3':=ZZ (H3.out.mono k4);have X4:=ZZ (ak X3.out k4);clear h4 k4 H3 HR HB SR SB;obtain⟨mk,hmk⟩:∃mk:Nat,min (zi:Int) (zk:Int)=(mk:Int)∧mk=min zi zk∧mk≤1099511627776:=⟨min zi zk,by omega,rfl,by omega⟩
  obtain⟨hmn,hmk2,hmk3⟩:=hmk;rw [←hmk2] at HGG;clear hmk2;go_wp2_with fail
  go_loopg [0,1] (u+v) (fun gk p q wr=>∃X Y:Nat,gk=X+Y∧Hid (Wr wr p X)∧Hid (Wr wr q Y)∧X % 2=1∧Y % 2=1∧Nat.gcd X Y=Nat.gcd u v∧(dr X).length≤34359738368∧(dr Y).length≤34359738368∧Hid (Ext w wr))
  case atStart=>exact⟨u,v,rfl,H3',H4,HU2.out,HV2.out,rfl,HUL.out,HVL.out,X4⟩
  case round=>
   obtain⟨X,Y,hgk,HX,HY,hX2,hY2,hg,hXl,hYl,HE⟩:=hrel;have HX2:=ZZ hX2;have HY2:=ZZ hY2;have HGX:=ZZ hg;have SX:=ZZ (show Sr X by unfold Sr;omega);have SY:=ZZ (show Sr Y by unfold Sr;omega);have HGK:=ZZ hgk;have HXP:=ZZ (show 0<X by omega);have HYP:=ZZ (show 0<Y by omega);clear hX2 hY2 hg hgk;obtain⟨AX,cX,rfl,hcX,hclX⟩:=HX.out;obtain⟨AY,cY,rfl,hcY,hclY⟩:=HY.out;clear hclX hclY;have HXL:=ZZ hXl;have HYL:=ZZ hYl;generalize hlx:(dr X).length=lx at *;generalize hly:(dr Y).length=ly at *;have HLX:=ZZ hlx;have HLY:=ZZ hly;have HXD:=ZZ (show (dr X).length≤34359738368 by rw [HLX.out];exact HXL.out);have HYD:=ZZ (show (dr Y).length≤34359738368 by rw [HLY.out];exact HYL.out);clear hlx hly
   by_cases hA:2<lx
   ·go_wp2_with fail
    refine(order_r _ _ X Y _ HX.out HY.out SX.out SY.out).mono ?_;rintro e w5 ⟨rfl,q5,rfl⟩
    rcases Nat.lt_trichotomy X Y with hxy|hxy|hxy
    ·rw [ordN_lt hxy]
     have HLT:=ZZ hxy;clear hxy;go_wp2_with fail;refine(minus_r _ _ Y X _ (HY.out.mono (ar _ _)) (HX.out.mono (ar _ _)) SY.out (Nat.le_of_lt HLT.out)).mono ?_;rintro e w6 ⟨v6,rfl,h6,k6⟩;have HS6:=ZZ (show Sr (Y - X) from Nat.le_trans (dig_length_mono B30_two (Nat.sub_le _ _)) SY.out);have H6:=ZZ h6;have E6:=ZZ (ak HE.out (ak (ar _ _) k6));have HY6:=ZZ (HX.out.mono (ak (ar _ _) k6));clear h6 k6;go_wp2_with fail;refine(zeros_r v6 (Y - X) (by have:=HLT.out;omega) _ H6.out HS6.out).mono ?_;rintro e w7 ⟨⟨zz,uu,rfl,hz1,hz2⟩,rfl⟩;have HZ1:=ZZ hz1;have HZ2:=ZZ hz2;have HD7:=ZZ (show (dr (Y - X)).length≤34359738368 from Nat.le_trans (dig_length_mono B30_two (Nat.sub_le _ _)) HYD.out);obtain⟨zzb,hdv⟩:=zeros_small (by have:=HLT.out;omega) hz1 HD7.out;have HDV:=ZZ hdv;clear hz1 hz2 hdv;go_wp2_with fail;refine(right_r v6 (Y - X) zz (by omega) _ H6.out HS6.out).mono ?_;rintro e w8 ⟨v8,rfl,h8,k8⟩;rw [HDV.out] at h8;have H8:=ZZ h8;have E8:=ZZ (ak E6.out k8);have HY8:=ZZ (HY6.out.mono k8);clear h8 k8;go_wp2_with fail
     go_roundg (uu+X)
     case measure=>
      have h1:=HZ1.out;have h2:=HLT.out;have h3:1*uu≤2 ^ zz*uu:=Nat.mul_le_mul_right _ (Nat.pow_pos (by omega));have h4:=HGK.out;have h5:=HYP.out;have h6:=HXP.out;omega
     case rel=>
      refine⟨uu,X,rfl,H8,HY8,HZ2.out,HX2.out,?_,?_,HXD.out,E8⟩
      ·rw [gcd_step HX2.out (Nat.le_of_lt HLT.out) HZ1.out]
       first|exact HGX.out|(rw [Nat.gcd_comm];exact HGX.out)
      ·refine Nat.le_trans (dig_length_mono B30_two ?_) HD7.out
       rw [←HDV.out];exact Nat.div_le_self _ _
    ·rw [ordN_eq hxy]
     have HEQ:=ZZ hxy;clear hxy;go_wp2_with fail;refine(left_r _ X mk (by omega) _ (HX.out.mono (ar _ _)) SX.out).mono ?_;rintro e w6 ⟨v6,rfl,h6,k6⟩;have H6:=ZZ h6;have E6:=ZZ (ak HE.out (ak (ar _ _) k6));clear h6 k6;go_wp2_with fail;go_ret;refine⟨_,rfl,?_,E6.out⟩;rw [HGG.out,←HGX.out,←HEQ.out,Nat.gcd_self];exact H6.out
    ·rw [ordN_gt hxy]
     have HLT:=ZZ hxy;clear hxy;go_wp2_with fail;refine(minus_r _ _ X Y _ (HX.out.mono (ar _ _)) (HY.out.mono (ar _ _)) SX.out (Nat.le_of_lt HLT.out)).mono ?_;rintro e w6 ⟨v6,rfl,h6,k6⟩;have HS6:=ZZ (show Sr (X - Y) from Nat.le_trans (dig_length_mono B30_two (Nat.sub_le _ _)) SX.out);have H6:=ZZ h6;have E6:=ZZ (ak HE.out (ak (ar _ _) k6));have HY6:=ZZ (HY.out.mono (ak (ar _ _) k6));clear h6 k6;go_wp2_with fail;refine(zeros_r v6 (X - Y) (by have:=HLT.out;omega) _ H6.out HS6.out).mono ?_;rintro e w7 ⟨⟨zz,uu,rfl,hz1,hz2⟩,rfl⟩;have HZ1:=ZZ hz1;have HZ2:=ZZ hz2;have HD7:=ZZ (show (dr (X - Y)).length≤34359738368 from Nat.le_trans (dig_length_mono B30_two (Nat.sub_le _ _)) HXD.out);obtain⟨zzb,hdv⟩:=zeros_small (by have:=HLT.out;omega) hz1 HD7.out;have HDV:=ZZ hdv;clear hz1 hz2 hdv;go_wp2_with fail;refine(right_r v6 (X - Y) zz (by omega) _ H6.out HS6.out).mono ?_;rintro e w8 ⟨v8,rfl,h8,k8⟩;rw [HDV.out] at h8;have H8:=ZZ h8;have E8:=ZZ (ak E6.out k8);have HY8:=ZZ (HY6.out.mono k8);clear h8 k8;go_wp2_with fail
     go_roundg (uu+Y)
     case measure=>
      have h1:=HZ1.out;have h2:=HLT.out;have h3:1*uu≤2 ^ zz*uu:=Nat.mul_le_mul_right _ (Nat.pow_pos (by omega));have h4:=HGK.out;have h5:=HYP.out;have h6:=HXP.out;omega
     case rel=>
      refine⟨uu,Y,rfl,H8,HY8,HZ2.out,HY2.out,?_,?_,HYD.out,E8⟩
      ·rw [gcd_step HY2.out (Nat.le_of_lt HLT.out) HZ1.out]
       first|exact HGX.out|(rw [Nat.gcd_comm];exact HGX.out)
      ·refine Nat.le_trans (dig_length_mono B30_two ?_) HD7.out
       rw [←HDV.out];exact Nat.div_le_self _ _
   ·by_cases hB:2<ly
    ·go_wp2_with fail
     refine(order_r _ _ X Y _ HX.out HY.out SX.out SY.out).mono ?_;rintro e w5 ⟨rfl,q5,rfl⟩
     rcases Nat.lt_trichotomy X Y with hxy|hxy|hxy
     ·rw [ordN_lt hxy]
      have HLT:=ZZ hxy;clear hxy;go_wp2_with fail;refine(minus_r _ _ Y X _ (HY.out.mono (ar _ _)) (HX.out.mono (ar _ _)) SY.out (Nat.le_of_lt HLT.out)).mono ?_;rintro e w6 ⟨v6,rfl,h6,k6⟩;have HS6:=ZZ (show Sr (Y - X) from Nat.le_trans (dig_length_mono B30_two (Nat.sub_le _ _)) SY.out);have H6:=ZZ h6;have E6:=ZZ (ak HE.out (ak (ar _ _) k6));have HY6:=ZZ (HX.out.mono (ak (ar _ _) k6));clear h6 k6;go_wp2_with fail;refine(zeros_r v6 (Y - X) (by have:=HLT.out;omega) _ H6.out HS6.out).mono ?_;rintro e w7 ⟨⟨zz,uu,rfl,hz1,hz2⟩,rfl⟩;have HZ1:=ZZ hz1;have HZ2:=ZZ hz2;have HD7:=ZZ (show (dr (Y - X)).length≤34359738368 from Nat.le_trans (dig_length_mono B30_two (Nat.sub_le _ _)) HYD.out);obtain⟨zzb,hdv⟩:=zeros_small (by have:=HLT.out;omega) hz1 HD7.out;have HDV:=ZZ hdv;clear hz1 hz2 hdv;go_wp2_with fail;refine(right_r v6 (Y - X) zz (by omega) _ H6.out HS6.out).mono ?_;rintro e w8 ⟨v8,rfl,h8,k8⟩;rw [HDV.out] at h8;have H8:=ZZ h8;have E8:=ZZ (ak E6.out k8);have HY8:=ZZ (HY6.out.mono k8);clear h8 k8;go_wp2_with fail
      go_roundg (uu+X)
      case measure=>
       have h1:=HZ1.out;have h2:=HLT.out;have h3:1*uu≤2 ^ zz*uu:=Nat.mul_le_mul_right _ (Nat.pow_pos (by omega));have h4:=HGK.out;have h5:=HYP.out;have h6:=HXP.out;omega
      case rel=>
       refine⟨uu,X,rfl,H8,HY8,HZ2.out,HX2.out,?_,?_,HXD.out,E8⟩
       ·rw [gcd_step HX2.out (Nat.le_of_lt HLT.out) HZ1.out]
        first|exact HGX.out|(rw [Nat.gcd_comm];exact HGX.out)
       ·refine Nat.le_trans (dig_length_mono B30_two ?_) HD7.out
        rw [←HDV.out];exact Nat.div_le_self _ _
     ·rw [ordN_eq hxy]
      have HEQ:=ZZ hxy;clear hxy;go_wp2_with fail;refine(left_r _ X mk (by omega) _ (HX.out.mono (ar _ _)) SX.out).mono ?_;rintro e w6 ⟨v6,rfl,h6,k6⟩;have H6:=ZZ h6;have E6:=ZZ (ak HE.out (ak (ar _ _) k6));clear h6 k6;go_wp2_with fail;go_ret;refine⟨_,rfl,?_,E6.out⟩;rw [HGG.out,←HGX.out,←HEQ.out,Nat.gcd_self];exact H6.out
     ·rw [ordN_gt hxy]
      have HLT:=ZZ hxy;clear hxy;go_wp2_with fail;refine(minus_r _ _ X Y _ (HX.out.mono (ar _ _)) (HY.out.mono (ar _ _)) SX.out (Nat.le_of_lt HLT.out)).mono ?_;rintro e w6 ⟨v6,rfl,h6,k6⟩;have HS6:=ZZ (show Sr (X - Y) from Nat.le_trans (dig_length_mono B30_two (Nat.sub_le _ _)) SX.out);have H6:=ZZ h6;have E6:=ZZ (ak HE.out (ak (ar _ _) k6));have HY6:=ZZ (HY.out.mono (ak (ar _ _) k6));clear h6 k6;go_wp2_with fail;refine(zeros_r v6 (X - Y) (by have:=HLT.out;omega) _ H6.out HS6.out).mono ?_;rintro e w7 ⟨⟨zz,uu,rfl,hz1,hz2⟩,rfl⟩;have HZ1:=ZZ hz1;have HZ2:=ZZ hz2;have HD7:=ZZ (show (dr (X - Y)).length≤34359738368 from Nat.le_trans (dig_length_mono B30_two (Nat.sub_le _ _)) HXD.out);obtain⟨zzb,hdv⟩:=zeros_small (by have:=HLT.out;omega) hz1 HD7.out;have HDV:=ZZ hdv;clear hz1 hz2 hdv;go_wp2_with fail;refine(right_r v6 (X - Y) zz (by omega) _ H6.out HS6.out).mono ?_;rintro e w8 ⟨v8,rfl,h8,k8⟩;rw [HDV.out] at h8;have H8:=ZZ h8;have E8:=ZZ (ak E6.out k8);have HY8:=ZZ (HY6.out.mono k8);clear h8 k8;go_wp2_with fail
      go_roundg (uu+Y)
      case measure=>
       have h1:=HZ1.out;have h2:=HLT.out;have h3:1*uu≤2 ^ zz*uu:=Nat.mul_le_mul_right _ (Nat.pow_pos (by omega));have h4:=HGK.out;have h5:=HYP.out;have h6:=HXP.out;omega
      case rel=>
       refine⟨uu,Y,rfl,H8,HY8,HZ2.out,HY2.out,?_,?_,HYD.out,E8⟩
       ·rw [gcd_step HY2.out (Nat.le_of_lt HLT.out) HZ1.out]
        first|exact HGX.out|(rw [Nat.gcd_comm];exact HGX.out)
       ·refine Nat.le_trans (dig_length_mono B30_two ?_) HD7.out
        rw [←HDV.out];exact Nat.div_le_self _ _
    ·have hlx2:lx≤2:=by omega
     have hly2:ly≤2:=by omega
     have HL1:=ZZ (show (dr X).length≤2 by rw [HLX.out];exact hlx2);have HL2:=ZZ (show (dr Y).length≤2 by rw [HLY.out];exact hly2)
     have hXb:X<1152921504606846976:=by
      have h1:=lt_dig_length B30_two X;have h2:B30 ^ (dig B30 X).length≤B30 ^ 2:=Nat.pow_le_pow_right (by rw [B30_eq];omega) HL1.out;have h3:B30 ^ 2=1152921504606846976:=by rw [B30_eq]
      omega
     have hYb:Y<1152921504606846976:=by
      have h1:=lt_dig_length B30_two Y;have h2:B30 ^ (dig B30 Y).length≤B30 ^ 2:=Nat.pow_le_pow_right (by rw [B30_eq];omega) HL2.out;have h3:B30 ^ 2=1152921504606846976:=by rw [B30_eq]
      omega
     go_wp2_with fail;refine(short_r _ X _ HX.out HL1.out).mono ?_
     rintro e w5 ⟨rfl,rfl⟩;go_wp2_with fail;refine(short_r _ Y _ HY.out HL2.out).mono ?_;rintro e w5 ⟨rfl,rfl⟩;have HXB:=ZZ hXb;have HYB:=ZZ hYb;clear hXb hYb;go_wp2_with fail
     go_loopg [8,9] Y (fun gk x y wx=>∃P q:Nat,x=.int .i64 (P:Int)∧y=.int .i64 (gk:Int)∧Nat.gcd P gk=Nat.gcd u v∧P<1152921504606846976∧gk<1152921504606846976∧wx=wr.drewN q)
     case atStart=>exact⟨X,0,rfl,rfl,HGX.out,HXB.out,HYB.out,rfl⟩
     case round=>
      obtain⟨P,q,rfl,rfl,hg,hP,hgk,rfl⟩:=hrel;have HG2:=ZZ hg;clear hg
      rcases Nat.eq_zero_or_pos gk with hz|hz
      ·subst hz
       have HPG:=ZZ (show P=Nat.gcd u v by have:=HG2.out;rwa [Nat.gcd_zero_right] at this);go_wp2_with fail;refine(small_r P hP _).mono ?_;rintro e w8 ⟨v8,rfl,h8,k8⟩;have H8:=ZZ h8;have E8:=ZZ (ak HE.out (ak (ar _ _) k8))
       have SP:=ZZ (show Sr P by
        unfold Sr;exact Nat.le_trans (dig_length_le B30_two (k:=2) (by rw [B30_eq];omega)) (by omega))
       clear h8 k8;go_wp2_with fail;refine(left_r v8 P mk (by omega) _ H8.out SP.out).mono ?_;rintro e w9 ⟨v9,rfl,h9,k9⟩;have H9:=ZZ h9;have E9:=ZZ (ak E8.out k9);clear h9 k9;go_wp2_with fail;go_ret;refine⟨_,rfl,?_,E9.out⟩;rw [HGG.out,←HPG.out];exact H9.out
      ·have hne:((gk:Int) != 0)=true:=by simp;omega
       obtain⟨s,hs⟩:∃s,s=P % gk:=⟨_,rfl⟩;have hrem:(P:Int) % (gk:Int)=(s:Int):=by rw [hs];exact(Int.natCast_emod P gk).symm
       have hsg:s<gk:=by rw [hs];exact Nat.mod_lt _ hz
       have HS:=ZZ (show Nat.gcd gk s=Nat.gcd u v by rw [←HG2.out,hs,Nat.gcd_comm,←Nat.gcd_rec,Nat.gcd_comm]);have hws:IntKind.i64.wrap (s:Int)=(s:Int):=IntWalk.i64_in _ (by omega);clear hs;go_wp2_with fail
       go_quiet (fail)
       go_wp2_with fail
       go_roundg s
       case measure=>exact hsg
       case rel=>exact⟨gk,_,rfl,by first|rfl|rw [hrem],HS.out,by omega,by omega,drewN2 _ _ _⟩
end Go.Proofs.YtoefieefcndlkaaGreatDoor
set_option linter.unusedVariables false
set_option maxRecDepth 100000
set_option maxHeartbeats 64000000
namespace Go.Proofs.YtoefieefcndlkaaGreatDoor
open Go.RowKit
theorem natOf_split (l:List UInt8) (c n:Nat) (h:c+n≤l.length):natOf (l.take (c+n))=natOf (l.take c)*10 ^ n+natOf ((l.drop c).take n):=by
 rw [List.take_add,natOf_append];rw [List.length_take,List.length_drop,Nat.min_eq_left (by omega)]
theorem dr_ten {n k:Nat} (h:n<10 ^ k):(dr n).length≤k:=by
 apply dig_length_le B30_two
 have:10 ^ k≤B30 ^ k:=Nat.pow_le_pow_left (by rw [B30_eq];omega) k
 omega
theorem natural_f (l:List UInt8) (hd:∀c ∈ l,isDig c=true) (hl:l.length≤1000000) (w:World):Calls Tryz.prog 80 #[.string ⟨l.toArray⟩] w fun e w'=>∃v,e=.returned v∧Wr w' v (natOf l)∧Ext w w'∧Fr w.heap.size v:=by
 have HDG:=ZZ hd;clear hd
 go_enter Tryz.func80,Tryz.ntmps80
 go_wp2_with fail
 go_loopg [0,3] (l.length) (fun gk s out wr=>∃(c:Nat) (y:List UInt8),c+gk=l.length∧y.length=gk∧s=.string ⟨y.toArray⟩∧Hid (y=l.drop c)∧Hid (Wr wr out (natOf (l.take c))∧Fr w.heap.size out)∧Hid (Ext w wr))
 case atStart=>exact⟨0,l,by omega,rfl,rfl,ZZ (by simp),ZZ ⟨Wr.zero _,fun b hb=>by cases hb⟩,ZZ (ae _)⟩
 case round=>
  obtain⟨G,hG⟩:∃G,G=gk:=⟨_,rfl⟩;subst hG;obtain⟨c,y,hc,hy,rfl,HY,HW,HE⟩:=hrel;have hsz:(⟨y.toArray⟩:ByteArray).size=G:=by rw [←hy];simp [ByteArray.size]
  have HYL:=ZZ hy;have HCL:=ZZ hc
  rcases Nat.eq_zero_or_pos G with hz|hz
  ·subst hz
   have HF:=ZZ (show natOf (l.take c)=natOf l by rw [List.take_of_length_le (by omega)]);clear hy hc;go_wp2_with fail;go_ret;exact⟨_,rfl,by rw [←HF.out];exact HW.out.1,HE.out,HW.out.2⟩
  ·obtain⟨nn,hnn,hn1,hn9,hng⟩:∃nn:Nat,min (G:Int) 9=(nn:Int)∧1≤nn∧nn≤9∧nn≤G:=⟨min G 9,by omega,by omega,by omega,by omega⟩
   have hgl:G≤1000000:=by omega
   have HGP:=ZZ hz;clear hy hc;go_wp2_with fail
   go_loopg [5,6,7] nn (fun g p f i wx=>∃t P F:Nat,t+g=nn∧i=.int .i64 (t:Int)∧p=.int .i64 (P:Int)∧f=.int .i64 (F:Int)∧P=natOf (y.take t)∧F=10 ^ t∧P<1000000000∧F≤1000000000∧wx=wr)
   case atStart=>exact⟨0,0,1,by omega,rfl,rfl,rfl,by simp [natOf],rfl,by omega,by omega,rfl⟩
   case round=>
    obtain⟨t,P,F,ht,rfl,rfl,rfl,hP,hF,hPb,hFb,rfl⟩:=hrel;have HP:=ZZ hP;have HF:=ZZ hF;clear hP hF
    rcases Nat.eq_zero_or_pos gk with hz|hz
    ·subst hz
     obtain rfl:t=nn:=by omega
     have hx2:(⟨y.toArray⟩:ByteArray).extract t G=⟨(y.drop t).toArray⟩:=by
      apply ByteArray.ext;simp;exact List.take_of_length_le (by simp;have:=HYL.out;omega)
     have SO:=ZZ (show Sr (natOf (l.take c)) by
      have h1:=natOf_lt (l.take c) (fun z hz=>HDG.out z (List.mem_of_mem_take hz));have h2:=dr_ten h1;rw [List.length_take] at h2;unfold Sr;omega)
     have SF:=ZZ (show Sr F by
      have:=dr_ten (n:=F) (k:=10) (by omega)
      unfold Sr;omega)
     have SP:=ZZ (show Sr P by
      have:=dr_ten (n:=P) (k:=10) (by omega)
      unfold Sr;omega)
     have HSPL:=ZZ (show natOf (l.take (c+t))=natOf (l.take c)*F+P by
      rw [natOf_split l c t (by have:=HCL.out;omega),HF.out,HP.out,HY.out])
     have SOF:=ZZ (show Sr (natOf (l.take c)*F) by
      have h1:=natOf_lt (l.take c) (fun z hz=>HDG.out z (List.mem_of_mem_take hz));have h2:=dr_ten h1;have h3:=dr_ten (n:=F) (k:=10) (by omega);have h4:=dig_length_mul B30_two (natOf (l.take c)) F;rw [List.length_take] at h2;unfold Sr dr at *;omega)
     have hw1:(t:Int)≤(G:Int):=by omega
     go_wp2_with fail;refine(small_r F (by omega) _).mono ?_
     rintro e w2 ⟨v2,rfl,h2,k2⟩;have H2:=ZZ h2;have K2:=ZZ k2;clear h2 k2;go_wp2_with fail;refine(times_r _ v2 (natOf (l.take c)) F _ (HW.out.1.mono K2.out) H2.out SO.out SF.out).mono ?_;rintro e w3 ⟨v3,rfl,h3,k3⟩;have H3:=ZZ h3;have K3:=ZZ (ak K2.out k3);clear h3 k3;go_wp2_with fail;refine(small_r P (by omega) _).mono ?_;rintro e w4 ⟨v4,rfl,h4,k4⟩;have H4:=ZZ h4;have K4:=ZZ (ak K3.out k4);have H3':=ZZ (H3.out.mono k4);clear h4 k4;go_wp2_with fail;refine(plus_f v3 v4 (natOf (l.take c)*F) P _ H3'.out H4.out SOF.out SP.out).mono ?_;rintro e w5 ⟨v5,rfl,h5,k5,fr5⟩;have H5:=ZZ (And.intro h5 (show Fr w.heap.size v5 from fun b hb=>Nat.le_trans (ak HE.out K4.out).size (fr5 b hb)));have K5:=ZZ (ak HE.out (ak K4.out k5));clear h5 k5 fr5;go_wp2_with fail
     go_roundg (G - t)
     case measure=>have:=HGP.out;omega
     case rel=>
      refine⟨c+t,y.drop t,by have:=HCL.out;omega,by rw [List.length_drop,HYL.out],rfl,ZZ (by rw [HY.out,List.drop_drop]),?_,K5⟩;rw [HSPL.out];exact H5
    ·have htl:t<y.length:=by have:=HYL.out;omega
     have hz1:t<(⟨y.toArray⟩:ByteArray).size:=by rw [hsz];omega
     have hge:(⟨y.toArray⟩:ByteArray)[t]'hz1=y[t]:=by rfl
     have hsub:∀z ∈ y,z ∈ l:=fun z hz=>by rw [HY.out] at hz;exact List.mem_of_mem_drop hz
     have HSUB:=ZZ hsub;have hdig:=HDG.out y[t] (hsub _ (List.getElem_mem _));clear hsub;rw [isDig_iff] at hdig;obtain⟨dg,hdg⟩:∃dg:Nat,dg=(y[t]).toNat - 48:=⟨_,rfl⟩;have HNX:=ZZ (show natOf (y.take (t+1))=10*P+dg by rw [natOf_take_succ y t htl,←HP.out,hdg]);have hdb:dg≤9:=by omega
     have HTL:=ZZ htl
     have hw1:IntKind.u8.wrap ((((⟨y.toArray⟩:ByteArray)[t]'hz1).toNat:Int) - 48)=(dg:Int):=by
      rw [hge,IntWalk.u8_in _ (by omega)];omega
     obtain⟨P1,hP1⟩:∃P1:Nat,P1=10*P:=⟨_,rfl⟩;obtain⟨P2,hP2⟩:∃P2:Nat,P2=P1+dg:=⟨_,rfl⟩;obtain⟨F1,hF1⟩:∃F1:Nat,F1=10*F:=⟨_,rfl⟩;have hw2:IntKind.i64.wrap (10*(P:Int))=(P1:Int):=(IntWalk.i64_in _ (by omega)).trans (by omega);have hw3:IntKind.i64.wrap (dg:Int)=(dg:Int):=IntWalk.i64_in _ (by omega);have hw4:IntKind.i64.wrap ((P1:Int)+(dg:Int))=(P2:Int):=(IntWalk.i64_in _ (by omega)).trans (by omega);have hw5:IntKind.i64.wrap (10*(F:Int))=(F1:Int):=(IntWalk.i64_in _ (by omega)).trans (by omega);have HP2:=ZZ (show P2=natOf (y.take (t+1)) by rw [HNX.out,hP2,hP1]);have HF2:=ZZ (show F1=10 ^ (t+1) by rw [hF1,HF.out,Nat.pow_succ,Nat.mul_comm])
     have HB2:=ZZ (show P2<1000000000 by
      rw [HP2.out];have h1:=natOf_lt (y.take (t+1)) (fun z hz=>HDG.out z (HSUB.out z (List.mem_of_mem_take hz)));have h3:(y.take (t+1)).length≤9:=by rw [List.length_take];omega
      have h4:10 ^ (y.take (t+1)).length≤10 ^ 9:=Nat.pow_le_pow_right (by omega) h3
      omega)
     have HB3:=ZZ (show F1≤1000000000 by
      rw [HF2.out];have h4:10 ^ (t+1)≤10 ^ 9:=Nat.pow_le_pow_right (by omega) (by omega)
      omega)
     have HZ0:=ZZ hz;clear hge hdig hdg hP1 hP2 hF1;go_wp2_with fail
     go_roundg (gk - 1)
     case measure=>have:=HZ0.out;omega
     case rel=>exact⟨t+1,P2,F1,by omega,by first|rfl|simp,rfl,rfl,HP2.out,HF2.out,HB2.out,HB3.out,rfl⟩
theorem natural_r (l:List UInt8) (hd:∀c ∈ l,isDig c=true) (hl:l.length≤1000000) (w:World):Calls Tryz.prog 80 #[.string ⟨l.toArray⟩] w fun e w'=>∃v,e=.returned v∧Wr w' v (natOf l)∧Ext w w':=
 (natural_f l hd hl w).mono fun e w' ⟨v,h1,h2,h3,_⟩=>⟨v,h1,h2,h3⟩
end Go.Proofs.YtoefieefcndlkaaGreatDoor
