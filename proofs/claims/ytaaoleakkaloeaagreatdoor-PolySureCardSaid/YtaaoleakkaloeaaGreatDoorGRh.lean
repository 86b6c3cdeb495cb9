/- The reference's natural numbers: the greatest common divisor. Printed by gen_rh.py. -/
import Derived.Test.YtaaoleakkaloeaaGreatDoorGRg
set_option linter.unusedVariables false
set_option maxRecDepth 100000
set_option maxHeartbeats 64000000
namespace Go.Proofs.YtaaoleakkaloeaaGreatDoor
open Go.RowKit
theorem odd_cop {u:Nat} (hu:u % 2=1) (j:Nat):Nat.Coprime (2 ^ j) u:=by
 apply Nat.Coprime.pow_left
 show Nat.gcd 2 u=1
 rw [Nat.gcd_rec,hu]
 rfl
theorem gcd_two {i k u v:Nat} (hu:u % 2=1) (hv:v % 2=1):Nat.gcd (2 ^ i*u) (2 ^ k*v)=Nat.gcd u v*2 ^ min i k:=by
 rcases Nat.le_total i k with h|h
 ·obtain⟨j,rfl⟩:∃j,k=i+j:=⟨k - i,by omega⟩
  rw [Nat.pow_add,Nat.mul_assoc,Nat.gcd_mul_left,Nat.Coprime.gcd_mul_left_cancel_right v (odd_cop hu j),Nat.min_eq_left h,Nat.mul_comm]
 ·obtain⟨j,rfl⟩:∃j,i=k+j:=⟨i - k,by omega⟩
  rw [Nat.pow_add,Nat.mul_assoc,Nat.gcd_mul_left,Nat.Coprime.gcd_mul_left_cancel u (odd_cop hv j),Nat.min_eq_right h,Nat.mul_comm]
theorem gcd_step {x y z u:Nat} (hy:y % 2=1) (hle:y≤x) (h:x - y=2 ^ z*u):Nat.gcd u y=Nat.gcd x y:=by
 rw [←Nat.gcd_sub_self_left hle,h,Nat.Coprime.gcd_mul_left_cancel u (odd_cop hy z)]
theorem zeros_small {n z u:Nat} (h0:0<n) (h:n=2 ^ z*u) (hl:(dr n).length≤34359738368):z≤1030792151040∧n / 2 ^ z=u:=by
 have hp:0<2 ^ z:=Nat.pow_pos (by omega)
 have hu:0<u:=by
  rcases Nat.eq_zero_or_pos u with h'|h'
  ·rw [h',Nat.mul_zero] at h;omega
  ·exact h'
 constructor
 ·have h1:2 ^ z*1≤2 ^ z*u:=Nat.mul_le_mul_left _ hu
  have h2:=lt_dig_length B30_two n
  have h3:2 ^ z<2 ^ (30*(dr n).length):=by
   have e:=B30_pow (dr n).length;unfold dr at e ⊢;rw [←e];omega
  have:=(Nat.pow_lt_pow_iff_right (by omega:1<2)).1 h3
  omega
 ·rw [h,Nat.mul_div_cancel_left _ hp]
theorem divisor_r (va vb:Value) (m n:Nat) (h0:0<n) (w:World) (ha:Wr w va m) (hb:Wr w vb n) (sa:(dr m).length≤34359738368) (sb:(dr n).length≤34359738368):Calls Tryz.prog 76 #[va,vb] w fun e w'=>∃v,e=.returned v∧Wr w' v (Nat.gcd m n)∧Ext w w':=by
 have HB:=ZZ hb;have HG:=ZZ (show Nat.gcd m n=Nat.gcd (m % n) n by rw [Nat.gcd_comm m n,Nat.gcd_rec]);have SB:=ZZ (show Sr n by unfold Sr;omega);have H0:=ZZ h0;have HD:=ZZ (divided_r va vb m n h0 w ha hb (by omega) (by omega));have hml:(dr (m % n)).length≤34359738368:=Nat.le_trans (dig_length_mono B30_two (Nat.le_of_lt (Nat.mod_lt m h0))) sb;have HNL:=ZZ sb;clear ha hb sa h0
 go_enter Tryz.func76,Tryz.ntmps76
 go_wp2_with fail;refine HD.out.mono ?_
 rintro e w1 ⟨vq,vr,rfl,-,hr,k1⟩;generalize m % n=r at *;obtain⟨A,c,rfl,hc,hcl⟩:=hr;have X1:=ZZ k1;have HR:=ZZ (show Wr w1 (.slice A (dr r).length c) r from ⟨A,c,rfl,hc,hcl⟩);have HRL:=ZZ hml;clear HD k1 hcl
 by_cases hz:r=0
 ·subst hz
  rw [dr_zero];go_wp2_with fail;go_ret;exact⟨_,rfl,by rw [HG.out,Nat.gcd_zero_left];exact HB.out.mono X1.out,X1.out⟩
 ·have hrp:0<r:=by omega
  have hlz:(((dr r).length:Int) == 0)=false:=by
   have h1:0<(dr r).length:=List.length_pos_iff.2 (dig_ne_nil B30_two hrp);rw [beq_eq_false_iff_ne];omega
  have hlz2:¬(dr r).length=0:=by
   have h1:0<(dr r).length:=List.length_pos_iff.2 (dig_ne_nil B30_two hrp);omega
  have SR:=ZZ (show Sr r by unfold Sr;omega);go_wp2_with fail;refine(zeros_r _ r hrp _ HR.out SR.out).mono ?_;rintro e w2 ⟨⟨zi,u,rfl,hu1,hu2⟩,rfl⟩;have HU1:=ZZ hu1;have HU2:=ZZ hu2;clear hu1 hu2;go_wp2_with fail;refine(zeros_r vb n H0.out _ (HB.out.mono X1.out) SB.out).mono ?_;rintro e w2 ⟨⟨zk,v,rfl,hv1,hv2⟩,rfl⟩;obtain⟨zib,hru⟩:=zeros_small hrp HU1.out HRL.out;obtain⟨zkb,hnv⟩:=zeros_small H0.out hv1 HNL.out;have HGG:=ZZ (show Nat.gcd m n=Nat.gcd u v*2 ^ min zi zk by rw [HG.out,HU1.out,hv1,gcd_two HU2.out hv2]);have HZI:=ZZ (show zi≤35184372088832 by omega);have HZK:=ZZ (show zk≤35184372088832 by omega);have HV2:=ZZ hv2;have HRU:=ZZ hru;have HNV:=ZZ hnv;have HUL:=ZZ (show (dr u).length≤34359738368 from Nat.le_trans (dig_length_mono B30_two (by rw [←hru];exact Nat.div_le_self _ _)) HRL.out);have HVL:=ZZ (show (dr v).length≤34359738368 from Nat.le_trans (dig_length_mono B30_two (by rw [←hnv];exact Nat.div_le_self _ _)) HNL.out);clear hv1 hv2 hru hnv hlz hlz2 hml;go_wp2_with fail;refine(right_r _ r zi HZI.out _ HR.out SR.out).mono ?_;rintro e w3 ⟨vx,rfl,h3,k3⟩;rw [HRU.out] at h3;have H3:=ZZ h3;have X3:=ZZ (al X1.out k3);clear h3 k3;go_wp2_with fail;refine(right_r vb n zk HZK.out _ (HB.out.mono X3.out) SB.out).mono ?_;rintro e w4 ⟨vy,rfl,h4,k4⟩;rw [HNV.out] at h4;have H4:=ZZ h4;have H3':=ZZ (H3.out.mono k4);have X4:=ZZ (al X3.out k4);clear h4 k4 H3 HR HB SR SB;obtain⟨mk,hmk⟩:∃mk:Nat,min (zi:Int) (zk:Int)=(mk:Int)∧mk=min zi zk∧mk≤1099511627776:=⟨min zi zk,by omega,rfl,by omega⟩
  obtain⟨hmn,hmk2,hmk3⟩:=hmk;rw [←hmk2] at HGG;clear hmk2;go_wp2_with fail
  go_loopg [0,1] (u+v) (fun gk p q wr=>∃X Y:Nat,gk=X+Y∧Hid (Wr wr p X)∧Hid (Wr wr q Y)∧X % 2=1∧Y % 2=1∧Nat.gcd X Y=Nat.gcd u v∧(dr X).length≤34359738368∧(dr Y).length≤34359738368∧Hid (Ext w wr))
  case atStart=>exact⟨u,v,rfl,H3',H4,HU2.out,HV2.out,rfl,HUL.out,HVL.out,X4⟩
  case round=>
   obtain⟨X,Y,hgk,HX,HY,hX2,hY2,hg,hXl,hYl,HE⟩:=hrel;have HX2:=ZZ hX2;have HY2:=ZZ hY2;have HGX:=ZZ hg;have SX:=ZZ (show Sr X by unfold Sr;omega);have SY:=ZZ (show Sr Y by unfold Sr;omega);have HGK:=ZZ hgk;have HXP:=ZZ (show 0<X by omega);have HYP:=ZZ (show 0<Y by omega);clear hX2 hY2 hg hgk;obtain⟨AX,cX,rfl,hcX,hclX⟩:=HX.out;obtain⟨AY,cY,rfl,hcY,hclY⟩:=HY.out;clear hclX hclY;have HXL:=ZZ hXl;have HYL:=ZZ hYl;generalize hlx:(dr X).length=lx at *;generalize hly:(dr Y).length=ly at *;have HLX:=ZZ hlx;have HLY:=ZZ hly;have HXD:=ZZ (show (dr X).length≤34359738368 by rw [HLX.out];exact HXL.out);have HYD:=ZZ (show (dr Y).length≤34359738368 by rw [HLY.out];exact HYL.out);clear hlx hly
   by_cases hA:2<lx
   ·go_wp2_with fail
    refine(order_r _ _ X Y _ HX.out HY.out SX.out SY.out).mono ?_;rintro e w5 ⟨rfl,q5,rfl⟩
    rcases Nat.lt_trichotomy X Y with hxy|hxy|hxy
    ·rw [ordN_lt hxy]
     have HLT:=ZZ hxy;clear hxy;go_wp2_with fail;refine(minus_r _ _ Y X _ (HY.out.mono (av _ _)) (HX.out.mono (av _ _)) SY.out (Nat.le_of_lt HLT.out)).mono ?_;rintro e w6 ⟨v6,rfl,h6,k6⟩;have HS6:=ZZ (show Sr (Y - X) from Nat.le_trans (dig_length_mono B30_two (Nat.sub_le _ _)) SY.out);have H6:=ZZ h6;have E6:=ZZ (al HE.out (al (av _ _) k6));have HY6:=ZZ (HX.out.mono (al (av _ _) k6));clear h6 k6;go_wp2_with fail;refine(zeros_r v6 (Y - X) (by have:=HLT.out;omega) _ H6.out HS6.out).mono ?_;rintro e w7 ⟨⟨zz,uu,rfl,hz1,hz2⟩,rfl⟩;have HZ1:=ZZ hz1;have HZ2:=ZZ hz2;have HD7:=ZZ (show (dr (Y - X)).length≤34359738368 from Nat.le_trans (dig_length_mono B30_two (Nat.sub_le _ _)) HYD.out);obtain⟨zzb,hdv⟩:=zeros_small (by have:=HLT.out;omega) hz1 HD7.out;have HDV:=ZZ hdv;clear hz1 hz2 hdv;go_wp2_with fail;refine(right_r v6 (Y - X) zz (by omega) _ H6.out HS6.out).mono ?_;rintro e w8 ⟨v8,rfl,h8,k8⟩;rw [HDV.out] at h8;have H8:=ZZ h8;have E8:=ZZ (al E6.out k8);have HY8:=ZZ (HY6.out.mono k8);clear h8 k8;go_wp2_with fail
     go_roundg (uu+X)
     case measure=>
      have h1:=HZ1.out;have h2:=HLT.out;have h3:1*uu≤2 ^ zz*uu:=Nat.mul_le_mul_right _ (Nat.pow_pos (by omega));have h4:=HGK.out;have h5:=HYP.out;have h6:=HXP.out;omega
     case rel=>
      refine⟨uu,X,rfl,H8,HY8,HZ2.out,HX2.out,?_,?_,HXD.out,E8⟩
      ·rw [gcd_step HX2.out (Nat.le_of_lt HLT.out) HZ1.out]
       first|exact HGX.out|(rw [Nat.gcd_comm];exact HGX.out)
      ·refine Nat.le_trans (dig_length_mono B30_two ?_) HD7.out
       rw [←HDV.out];exact Nat.div_le_self _ _
    ·rw [ordN_eq hxy]
     have HEQ:=ZZ hxy;clear hxy;go_wp2_with fail;refine(left_r _ X mk (by omega) _ (HX.out.mono (av _ _)) SX.out).mono ?_;rintro e w6 ⟨v6,rfl,h6,k6⟩;have H6:=ZZ h6;have E6:=ZZ (al HE.out (al (av _ _) k6));clear h6 k6;go_wp2_with fail;go_ret;refine⟨_,rfl,?_,E6.out⟩;rw [HGG.out,←HGX.out,←HEQ.out,Nat.gcd_self];exact H6.out
    ·rw [ordN_gt hxy]
     have HLT:=ZZ hxy;clear hxy;go_wp2_with fail;refine(minus_r _ _ X Y _ (HX.out.mono (av _ _)) (HY.out.mono (av _ _)) SX.out (Nat.le_of_lt HLT.out)).mono ?_;rintro e w6 ⟨v6,rfl,h6,k6⟩;have HS6:=ZZ (show Sr (X - Y) from Nat.le_trans (dig_length_mono B30_two (Nat.sub_le _ _)) SX.out);have H6:=ZZ h6;have E6:=ZZ (al HE.out (al (av _ _) k6));have HY6:=ZZ (HY.out.mono (al (av _ _) k6));clear h6 k6;go_wp2_with fail;refine(zeros_r v6 (X - Y) (by have:=HLT.out;omega) _ H6.out HS6.out).mono ?_;rintro e w7 ⟨⟨zz,uu,rfl,hz1,hz2⟩,rfl⟩;have HZ1:=ZZ hz1;have HZ2:=ZZ hz2;have HD7:=ZZ (show (dr (X - Y)).length≤34359738368 from Nat.le_trans (dig_length_mono B30_two (Nat.sub_le _ _)) HXD.out);obtain⟨zzb,hdv⟩:=zeros_small (by have:=HLT.out;omega) hz1 HD7.out;have HDV:=ZZ hdv;clear hz1 hz2 hdv;go_wp2_with fail;refine(right_r v6 (X - Y) zz (by omega) _ H6.out HS6.out).mono ?_;rintro e w8 ⟨v8,rfl,h8,k8⟩;rw [HDV.out] at h8;have H8:=ZZ h8;have E8:=ZZ (al E6.out k8);have HY8:=ZZ (HY6.out.mono k8);clear h8 k8;go_wp2_with fail
     go_roundg (uu+Y)
     case measure=>
      have h1:=HZ1.out;have h2:=HLT.out;have h3:1*uu≤2 ^ zz*uu:=Nat.mul_le_mul_right _ (Nat.pow_pos (by omega));have h4:=HGK.out;have h5:=HYP.out;have h6:=HXP.out;omega
     case rel=>
      refine⟨uu,Y,rfl,H8,HY8,HZ2.out,HY2.out,?_,?_,HYD.out,E8⟩
      ·rw [gcd_step HY2.out (Nat.le_of_lt HLT.out) HZ1.out]
       first|exact HGX.out|(rw [Nat.gcd_comm];exact HGX.out)
      ·refine Nat.le_trans (dig_length_mono B30_two ?_) HD7.out
       rw [←HDV.out];exact Nat.div_le_self _ _
   ·by_cases hB:2<ly
    ·go_wp2_with fail
     refine(order_r _ _ X Y _ HX.out HY.out SX.out SY.out).mono ?_;rintro e w5 ⟨rfl,q5,rfl⟩
     rcases Nat.lt_trichotomy X Y with hxy|hxy|hxy
     ·rw [ordN_lt hxy]
      have HLT:=ZZ hxy;clear hxy;go_wp2_with fail;refine(minus_r _ _ Y X _ (HY.out.mono (av _ _)) (HX.out.mono (av _ _)) SY.out (Nat.le_of_lt HLT.out)).mono ?_;rintro e w6 ⟨v6,rfl,h6,k6⟩;have HS6:=ZZ (show Sr (Y - X) from Nat.le_trans (dig_length_mono B30_two (Nat.sub_le _ _)) SY.out);have H6:=ZZ h6;have E6:=ZZ (al HE.out (al (av _ _) k6));have HY6:=ZZ (HX.out.mono (al (av _ _) k6));clear h6 k6;go_wp2_with fail;refine(zeros_r v6 (Y - X) (by have:=HLT.out;omega) _ H6.out HS6.out).mono ?_;rintro e w7 ⟨⟨zz,uu,rfl,hz1,hz2⟩,rfl⟩;have HZ1:=ZZ hz1;have HZ2:=ZZ hz2;have HD7:=ZZ (show (dr (Y - X)).length≤34359738368 from Nat.le_trans (dig_length_mono B30_two (Nat.sub_le _ _)) HYD.out);obtain⟨zzb,hdv⟩:=zeros_small (by have:=HLT.out;omega) hz1 HD7.out;have HDV:=ZZ hdv;clear hz1 hz2 hdv;go_wp2_with fail;refine(right_r v6 (Y - X) zz (by omega) _ H6.out HS6.out).mono ?_;rintro e w8 ⟨v8,rfl,h8,k8⟩;rw [HDV.out] at h8;have H8:=ZZ h8;have E8:=ZZ (al E6.out k8);have HY8:=ZZ (HY6.out.mono k8);clear h8 k8;go_wp2_with fail
      go_roundg (uu+X)
      case measure=>
       have h1:=HZ1.out;have h2:=HLT.out;have h3:1*uu≤2 ^ zz*uu:=Nat.mul_le_mul_right _ (Nat.pow_pos (by omega));have h4:=HGK.out;have h5:=HYP.out;have h6:=HXP.out;omega
      case rel=>
       refine⟨uu,X,rfl,H8,HY8,HZ2.out,HX2.out,?_,?_,HXD.out,E8⟩
       ·rw [gcd_step HX2.out (Nat.le_of_lt HLT.out) HZ1.out]
        first|exact HGX.out|(rw [Nat.gcd_comm];exact HGX.out)
       ·refine Nat.le_trans (dig_length_mono B30_two ?_) HD7.out
        rw [←HDV.out];exact Nat.div_le_self _ _
     ·rw [ordN_eq hxy]
      have HEQ:=ZZ hxy;clear hxy;go_wp2_with fail;refine(left_r _ X mk (by omega) _ (HX.out.mono (av _ _)) SX.out).mono ?_;rintro e w6 ⟨v6,rfl,h6,k6⟩;have H6:=ZZ h6;have E6:=ZZ (al HE.out (al (av _ _) k6));clear h6 k6;go_wp2_with fail;go_ret;refine⟨_,rfl,?_,E6.out⟩;rw [HGG.out,←HGX.out,←HEQ.out,Nat.gcd_self];exact H6.out
     ·rw [ordN_gt hxy]
      have HLT:=ZZ hxy;clear hxy;go_wp2_with fail;refine(minus_r _ _ X Y _ (HX.out.mono (av _ _)) (HY.out.mono (av _ _)) SX.out (Nat.le_of_lt HLT.out)).mono ?_;rintro e w6 ⟨v6,rfl,h6,k6⟩;have HS6:=ZZ (show Sr (X - Y) from Nat.le_trans (dig_length_mono B30_two (Nat.sub_le _ _)) SX.out);have H6:=ZZ h6;have E6:=ZZ (al HE.out (al (av _ _) k6));have HY6:=ZZ (HY.out.mono (al (av _ _) k6));clear h6 k6;go_wp2_with fail;refine(zeros_r v6 (X - Y) (by have:=HLT.out;omega) _ H6.out HS6.out).mono ?_;rintro e w7 ⟨⟨zz,uu,rfl,hz1,hz2⟩,rfl⟩;have HZ1:=ZZ hz1;have HZ2:=ZZ hz2;have HD7:=ZZ (show (dr (X - Y)).length≤34359738368 from Nat.le_trans (dig_length_mono B30_two (Nat.sub_le _ _)) HXD.out);obtain⟨zzb,hdv⟩:=zeros_small (by have:=HLT.out;omega) hz1 HD7.out;have HDV:=ZZ hdv;clear hz1 hz2 hdv;go_wp2_with fail;refine(right_r v6 (X - Y) zz (by omega) _ H6.out HS6.out).mono ?_;rintro e w8 ⟨v8,rfl,h8,k8⟩;rw [HDV.out] at h8;have H8:=ZZ h8;have E8:=ZZ (al E6.out k8);have HY8:=ZZ (HY6.out.mono k8);clear h8 k8;go_wp2_with fail
      go_roundg (uu+Y)
      case measure=>
       have h1:=HZ1.out;have h2:=HLT.out;have h3:1*uu≤2 ^ zz*uu:=Nat.mul_le_mul_right _ (Nat.pow_pos (by omega));have h4:=HGK.out;have h5:=HYP.out;have h6:=HXP.out;omega
      case rel=>
       refine⟨uu,Y,rfl,H8,HY8,HZ2.out,HY2.out,?_,?_,HYD.out,E8⟩
       ·rw [gcd_step HY2.out (Nat.le_of_lt HLT.out) HZ1.out]
        first|exact HGX.out|(rw [Nat.gcd_comm];exact HGX.out)
       ·refine Nat.le_trans (dig_length_mono B30_two ?_) HD7.out
        rw [←HDV.out];exact Nat.div_le_self _ _
    ·have hlx2:lx≤2:=by omega
     have hly2:ly≤2:=by omega
     have HL1:=ZZ (show (dr X).length≤2 by rw [HLX.out];exact hlx2);have HL2:=ZZ (show (dr Y).length≤2 by rw [HLY.out];exact hly2)
     have hXb:X<1152921504606846976:=by
      have h1:=lt_dig_length B30_two X;have h2:B30 ^ (dig B30 X).length≤B30 ^ 2:=Nat.pow_le_pow_right (by rw [B30_eq];omega) HL1.out;have h3:B30 ^ 2=1152921504606846976:=by rw [B30_eq]
      omega
     have hYb:Y<1152921504606846976:=by
      have h1:=lt_dig_length B30_two Y;have h2:B30 ^ (dig B30 Y).length≤B30 ^ 2:=Nat.pow_le_pow_right (by rw [B30_eq];omega) HL2.out;have h3:B30 ^ 2=1152921504606846976:=by rw [B30_eq]
      omega
     go_wp2_with fail;refine(short_r _ X _ HX.out HL1.out).mono ?_
     rintro e w5 ⟨rfl,rfl⟩;go_wp2_with fail;refine(short_r _ Y _ HY.out HL2.out).mono ?_;rintro e w5 ⟨rfl,rfl⟩;have HXB:=ZZ hXb;have HYB:=ZZ hYb;clear hXb hYb;go_wp2_with fail
     go_loopg [8,9] Y (fun gk x y wx=>∃P q:Nat,x=.int .i64 (P:Int)∧y=.int .i64 (gk:Int)∧Nat.gcd P gk=Nat.gcd u v∧P<1152921504606846976∧gk<1152921504606846976∧wx=wr.drewN q)
     case atStart=>exact⟨X,0,rfl,rfl,HGX.out,HXB.out,HYB.out,rfl⟩
     case round=>
      obtain⟨P,q,rfl,rfl,hg,hP,hgk,rfl⟩:=hrel;have HG2:=ZZ hg;clear hg
      rcases Nat.eq_zero_or_pos gk with hz|hz
      ·subst hz
       have HPG:=ZZ (show P=Nat.gcd u v by have:=HG2.out;rwa [Nat.gcd_zero_right] at this);go_wp2_with fail;refine(small_r P hP _).mono ?_;rintro e w8 ⟨v8,rfl,h8,k8⟩;have H8:=ZZ h8;have E8:=ZZ (al HE.out (al (av _ _) k8))
       have SP:=ZZ (show Sr P by
        unfold Sr;exact Nat.le_trans (dig_length_le B30_two (k:=2) (by rw [B30_eq];omega)) (by omega))
       clear h8 k8;go_wp2_with fail;refine(left_r v8 P mk (by omega) _ H8.out SP.out).mono ?_;rintro e w9 ⟨v9,rfl,h9,k9⟩;have H9:=ZZ h9;have E9:=ZZ (al E8.out k9);clear h9 k9;go_wp2_with fail;go_ret;refine⟨_,rfl,?_,E9.out⟩;rw [HGG.out,←HPG.out];exact H9.out
      ·have hne:((gk:Int) != 0)=true:=by simp;omega
       obtain⟨s,hs⟩:∃s,s=P % gk:=⟨_,rfl⟩;have hrem:(P:Int) % (gk:Int)=(s:Int):=by rw [hs];exact(Int.natCast_emod P gk).symm
       have hsg:s<gk:=by rw [hs];exact Nat.mod_lt _ hz
       have HS:=ZZ (show Nat.gcd gk s=Nat.gcd u v by rw [←HG2.out,hs,Nat.gcd_comm,←Nat.gcd_rec,Nat.gcd_comm]);have hws:IntKind.i64.wrap (s:Int)=(s:Int):=IntWalk.i64_in _ (by omega);clear hs;go_wp2_with fail
       go_quiet (fail)
       go_wp2_with fail
       go_roundg s
       case measure=>exact hsg
       case rel=>exact⟨gk,_,rfl,by first|rfl|rw [hrem],HS.out,by omega,by omega,drewN2 _ _ _⟩
end Go.Proofs.YtaaoleakkaloeaaGreatDoor
