/- math/bits: Div64. -/
import Derived.Test.YtkoaakefgacokaaGreatDoorGWc
import Derived.Deep.DeepCutAuto
set_option linter.unusedVariables false
set_option maxRecDepth 100000
set_option maxHeartbeats 64000000
namespace Go.Proofs.YtkoaakefgacokaaGreatDoor
open Go.RowKit
theorem bitLenAux_spec:∀(f x:Nat),x<2 ^ f→x<2 ^ Lib.bitLenAux f x∧(0<x→2 ^ (Lib.bitLenAux f x - 1)≤x)∧Lib.bitLenAux f x≤f:=by
 intro f
 induction f with
 | zero=>intro x h;simp at h;subst h;simp [Lib.bitLenAux]
 | succ f ih=>
  intro x h;unfold Lib.bitLenAux
  by_cases h0:x=0
  ·subst h0;simp
  ·obtain⟨h1,h2,h3⟩:=ih (x / 2) (by rw [Nat.pow_succ] at h;omega)
   simp only [h0,if_false]
   refine⟨?_,fun _=>?_,by omega⟩
   ·rw [Nat.add_comm,Nat.pow_succ];omega
   ·rw [Nat.add_sub_cancel_left]
    by_cases h4:x / 2=0
    ·rw [h4]
     have:Lib.bitLenAux f 0=0:=by cases f <;> simp [Lib.bitLenAux]
     rw [this];simp;omega
    ·have h5:=h2 (by omega)
     have h6:Lib.bitLenAux f (x / 2)≠0:=by intro e;rw [e] at h1;simp at h1;omega
     obtain⟨z,hz⟩:∃z,Lib.bitLenAux f (x / 2)=z+1:=⟨_,(Nat.succ_pred h6).symm⟩;rw [hz] at h5 ⊢;rw [Nat.add_sub_cancel] at h5;rw [Nat.pow_succ];omega
theorem bitLen_spec (x:Nat) (h:x<B64):x<2 ^ Lib.bitLen x∧(0<x→2 ^ (Lib.bitLen x - 1)≤x)∧Lib.bitLen x≤64:=
 bitLenAux_spec 64 x (by rw [B64_eq] at h;exact h)
theorem lz_c (y:Nat) (hy:y<B64) (h0:0<y) (w:World):Calls Tryz.prog 116 #[.int .u64 y] w fun e w'=>(∃s:Nat,e=.returned (.int .i64 s)∧s≤63∧y*2 ^ s<B64∧B64≤2*(y*2 ^ s))∧w=w':=by
 obtain⟨h1,h2,h3⟩:=bitLen_spec y hy;have h2:=h2 h0;have h4:Lib.bitLen y≠0:=by intro e;rw [e] at h1;simp at h1;omega
 refine(Tryz.bits_LeadingZeros64 y w (by omega) (by rw [B64_eq] at hy;omega)).mono fun e w' ⟨he,hw⟩=>⟨⟨64 - Lib.bitLen y,?_,by omega,?_,?_⟩,hw.symm⟩
 ·rw [he];simp only [Int.toNat_natCast];congr 2;omega
 ·have:y*2 ^ (64 - Lib.bitLen y)<2 ^ Lib.bitLen y*2 ^ (64 - Lib.bitLen y):=Nat.mul_lt_mul_of_pos_right h1 (Nat.pow_pos (by omega))
  rw [←Nat.pow_add,show Lib.bitLen y+(64 - Lib.bitLen y)=64 from by omega] at this;exact this
 ·have:2 ^ (Lib.bitLen y - 1)*2 ^ (64 - Lib.bitLen y)≤y*2 ^ (64 - Lib.bitLen y):=Nat.mul_le_mul_right _ h2
  rw [←Nat.pow_add,show Lib.bitLen y - 1+(64 - Lib.bitLen y)=63 from by omega] at this;rw [B64_eq];omega
theorem div_shift {hi lo y s:Nat} (hh:hi<y) (hl:lo<B64) (hs:s≤63) (hY:y*2 ^ s<B64):∃H L U V:Nat,H=hi*2 ^ s∧L=lo / 2 ^ (64 - s)∧U=H+L∧V=lo*2 ^ s % B64∧H ||| L=U∧U*B64+V=(hi*B64+lo)*2 ^ s∧U<y*2 ^ s∧H<B64∧L<B64∧V<B64:=by
 have e64:B64=2 ^ (64 - s)*2 ^ s:=by rw [←Nat.pow_add,show 64 - s+s=64 from by omega];rfl
 have hp:0<2 ^ s:=Nat.pow_pos (by omega);have hq:0<2 ^ (64 - s):=Nat.pow_pos (by omega)
 have hL:lo / 2 ^ (64 - s)<2 ^ s:=by
  rw [Nat.div_lt_iff_lt_mul hq,Nat.mul_comm,←e64];exact hl
 have hV:lo*2 ^ s % B64=lo % 2 ^ (64 - s)*2 ^ s:=by rw [e64,Nat.mul_mod_mul_right]
 have hH:hi*2 ^ s+2 ^ s≤y*2 ^ s:=by
  have:=Nat.mul_le_mul_right (2 ^ s) (show hi+1≤y from hh)
  rw [Nat.add_mul] at this;omega
 refine⟨_,_,_,_,rfl,rfl,rfl,rfl,?_,?_,by omega,by omega,?_,Nat.mod_lt _ (by rw [B64_eq];omega)⟩
 ·rw [Nat.mul_comm hi,←Nat.two_pow_add_eq_or_of_lt hL]
 ·rw [hV]
  have:=Nat.div_add_mod lo (2 ^ (64 - s))
  rw [Nat.add_mul (hi*B64) lo,Nat.add_mul (hi*2 ^ s)]
  conv=>rhs;rw [←this]
  rw [Nat.add_mul (2 ^ (64 - s)*_)];rw [e64]
  grind
 ·exact Nat.lt_of_lt_of_le hL (Nat.le_trans (by omega:2 ^ s≤y*2 ^ s) (Nat.le_of_lt hY))
def T32:Nat:=4294967296
theorem dl_key {a1 a0 U v1 q r T:Nat} (h:q*a1+r=U):q*(a1*T+a0)+(r*T+v1)=(U*T+v1)+q*a0:=by subst h;grind
theorem dl_le {a1 a0 U v1 q r T:Nat} (h:q*a1+r=U) (hY:0<a1*T+a0) (hq:q*a0≤r*T+v1):q≤(U*T+v1) / (a1*T+a0):=by
 rw [Nat.le_div_iff_mul_le hY];have:=dl_key (a0:=a0) (v1:=v1) (T:=T) h;omega
theorem dl_gt {a1 a0 U v1 q r T:Nat} (h:q*a1+r=U) (hY:0<a1*T+a0) (hq:r*T+v1<q*a0):(U*T+v1) / (a1*T+a0)<q:=by
 rw [Nat.div_lt_iff_lt_mul hY];have:=dl_key (a0:=a0) (v1:=v1) (T:=T) h;omega
theorem dl_qle {a1 a0 U v1 q r T:Nat} (h:q*a1+r=U) (hY:0<a1*T+a0) (hr:r<a1) (hv:v1<T):(U*T+v1) / (a1*T+a0)≤q:=by
 have:(U*T+v1) / (a1*T+a0)<q+1:=by
  rw [Nat.div_lt_iff_lt_mul hY];have h1:=dl_key (a0:=a0) (v1:=v1) (T:=T) h;rw [Nat.add_mul,Nat.one_mul];have h2:(r+1)*T≤a1*T:=Nat.mul_le_mul_right _ hr;rw [Nat.add_mul] at h2;omega
 omega
theorem dl_lt {Y U v1 T:Nat} (hU:U<Y) (hv:v1<T):(U*T+v1) / Y<T:=by
 rw [Nat.div_lt_iff_lt_mul (by omega)]
 have:(U+1)*T≤Y*T:=Nat.mul_le_mul_right _ hU
 rw [Nat.add_mul] at this;rw [Nat.mul_comm T Y];omega
theorem dl_break {a1 a0 U v1 q r T:Nat} (h:q*a1+r=U) (hU:U<a1*T+a0) (ha:a0<T) (hr:T≤r):q*a0≤r*T+v1:=by
 have h1:q<T:=by
  rcases Nat.lt_or_ge q T with h2|h2
  ·exact h2
  ·have:T*a1≤q*a1:=Nat.mul_le_mul_right _ h2
   rw [Nat.mul_comm a1 T] at hU;omega
 have h2:q*a0≤T*a0:=Nat.mul_le_mul_right _ (by omega);have h3:T*a0≤T*T:=Nat.mul_le_mul_left _ (by omega);have h4:T*T≤r*T:=Nat.mul_le_mul_right _ hr;omega
theorem de1 {U V v1 v0 Y Q R Q0 R0 T:Nat} (hV:V=v1*T+v0) (h1:Q*Y+R=U*T+v1) (h2:Q0*Y+R0=R*T+v0):(Q*T+Q0)*Y+R0=U*(T*T)+V:=by
 have h3:T*(Q*Y+R)=T*(U*T+v1):=by rw [h1]
 clear h1;grind
theorem div_end {hi lo y s U V v1 v0 Y Q R Q0 R0 T:Nat} (hT:B64=T*T) (hN:U*B64+V=(hi*B64+lo)*2 ^ s) (hY:Y=y*2 ^ s) (hV:V=v1*T+v0) (h1:Q*Y+R=U*T+v1) (h2:Q0*Y+R0=R*T+v0) (hR:R0<Y):(Q*T+Q0)*y+R0 / 2 ^ s=hi*B64+lo∧R0 / 2 ^ s<y:=by
 have hp:0<2 ^ s:=Nat.pow_pos (by omega);have e1:(Q*T+Q0)*Y+R0=U*B64+V:=by rw [hT];exact de1 hV h1 h2
 have e2:(Q*T+Q0)*y*2 ^ s+R0=(hi*B64+lo)*2 ^ s:=by rw [←hN,←e1,hY,Nat.mul_assoc]
 generalize hi*B64+lo=N at *;generalize (Q*T+Q0)*y=z at *
 have hz:z≤N:=by
  rcases Nat.lt_or_ge N z with h|h
  ·have:(N+1)*2 ^ s≤z*2 ^ s:=Nat.mul_le_mul_right _ h
   rw [Nat.add_mul] at this;omega
  ·exact h
 obtain⟨d,rfl⟩:∃d,N=z+d:=⟨N - z,by omega⟩;rw [Nat.add_mul] at e2;have e3:R0=d*2 ^ s:=by omega
 rw [e3,Nat.mul_div_cancel _ hp];refine⟨rfl,?_⟩;rw [e3,hY] at hR;exact Nat.lt_of_mul_lt_mul_right hR
theorem div64_main (hi lo y:Nat) (hh:hi<y) (hl:lo<B64) (hy:y<B64) (h0:0<hi) (w:World):Calls Tryz.prog 118 #[.int .u64 hi,.int .u64 lo,.int .u64 y] w fun e w'=>(∃q r:Nat,e=.returned (.tuple #[.int .u64 q,.int .u64 r])∧q*y+r=hi*B64+lo∧r<y∧q<B64)∧Ext w w':=by
 have t1:((y:Int) == 0)=false:=by simp;omega
 have t2:((hi:Int) == 0)=false:=by simp;omega
 have Hl:=ZZ hl;have Hy:=ZZ hy;clear hl hy
 go_enter Tryz.func118,Tryz.ntmps118
 go_wp2_with fail;refine(lz_c y Hy.out (by omega) _).mono ?_
 rintro e w1 ⟨⟨s,rfl,hs,hY1,hY2⟩,rfl⟩;obtain⟨H,L,U,V,hH,hL,hU,hV,hor,hN,hUY,hH1,hL1,hV1⟩:=div_shift hh Hl.out hs hY1;obtain⟨Y,hYe⟩:∃Y,Y=y*2 ^ s:=⟨_,rfl⟩;rw [←hYe] at hY1 hY2 hUY;rw [B64_eq] at *
 have hw1:IntKind.u64.wrap ((y:Int)*2 ^ s)=(Y:Int):=by
  rw [show (y:Int)*2 ^ s=((y*2 ^ s:Nat):Int) from by simp,←hYe,IntWalk.u64_in _ (by omega)]
 have hw2:IntKind.u64.wrap ((hi:Int)*2 ^ s)=(H:Int):=by
  rw [show (hi:Int)*2 ^ s=((hi*2 ^ s:Nat):Int) from by simp,←hH,IntWalk.u64_in _ (by omega)]
 have hw3:IntKind.u64.wrap ((lo:Int)*2 ^ s)=(V:Int):=by
  rw [show (lo:Int)*2 ^ s=((lo*2 ^ s:Nat):Int) from by simp,Mul64.wrapM,hV]
 have hw4:(lo:Int) / 2 ^ (64 - s)=(L:Int):=by
  rw [hL];simp
 have hw5:bits .or .u64 (H:Int) (L:Int)=(U:Int):=by rw [bits_or_u64_nat H L hH1 hL1,hor]
 have HN:=ZZ hN;have HYe:=ZZ hYe;have HUY:=ZZ hUY;have HY1:=ZZ hY1;have HY2:=ZZ hY2;have HV1:=ZZ hV1;have HH1:=ZZ hH1;clear hH hL hU hV hor hN hYe hH1 hL1 hV1 hUY hY1 hY2;obtain⟨a1,ha1⟩:∃z,z=Y / 4294967296:=⟨_,rfl⟩;obtain⟨a0,ha0⟩:∃z,z=Y % 4294967296:=⟨_,rfl⟩;obtain⟨v1,hv1⟩:∃z,z=V / 4294967296:=⟨_,rfl⟩;obtain⟨v0,hv0⟩:∃z,z=V % 4294967296:=⟨_,rfl⟩;have hw6:(Y:Int) / 4294967296=(a1:Int):=by omega
 have hw7:bits .and .u64 (Y:Int) 4294967295=(a0:Int):=by rw [Mul64.maskN Y HY1.out,ha0]
 have hw8:(V:Int) / 4294967296=(v1:Int):=by omega
 have hw9:bits .and .u64 (V:Int) 4294967295=(v0:Int):=by rw [Mul64.maskN V HV1.out,hv0]
 have Ha1:=ZZ ha1;have Ha0:=ZZ ha0;have Hv1:=ZZ hv1;have Hv0:=ZZ hv0;have b1:2147483648≤a1:=by have:=HY2.out;omega
 have b2:a1<4294967296:=by have:=HY1.out;omega
 have b3:a0<4294967296:=by omega
 have b4:v1<4294967296:=by have:=HV1.out;omega
 have b5:v0<4294967296:=by omega
 clear ha1 ha0 hv1 hv0;have b6:U<18446744073709551616:=by have:=HUY.out;have:=HY1.out;omega
 have tq:((a1:Int) == 0)=false:=by simp;omega
 obtain⟨q1,hq1⟩:∃z,z=U / a1:=⟨_,rfl⟩;obtain⟨r1,hr1⟩:∃z,z=U % a1:=⟨_,rfl⟩;have hqr:q1*a1+r1=U:=by rw [hq1,hr1,Nat.mul_comm];exact Nat.div_add_mod U a1
 have hq2:(U:Int) / (a1:Int)=(q1:Int):=by rw [hq1];simp
 obtain⟨p1,hp1⟩:∃z,z=q1*a1:=⟨_,rfl⟩;have hq1':q1≤U:=by rw [hq1];exact Nat.div_le_self _ _
 have hq5:IntKind.u64.wrap (q1:Int)=(q1:Int):=IntWalk.u64_in _ (by omega)
 have hq3:IntKind.u64.wrap ((q1:Int)*(a1:Int))=(p1:Int):=by
  rw [←Int.natCast_mul,←hp1,IntWalk.u64_in _ (by omega)]
 have hq4:IntKind.u64.wrap ((U:Int) - (p1:Int))=(r1:Int):=by
  rw [IntWalk.u64_in _ (by omega)];omega
 have Hqr:=ZZ hqr;have Hr1:Hid (r1<a1):=by show _<_;rw [hr1];exact Nat.mod_lt _ (by omega)
 clear hq1 hr1 hqr hp1;have HYd:Hid (Y=a1*T32+a0):=by show _=_;have h1:=Ha1.out;have h2:=Ha0.out;unfold T32;omega
 have hYp:0<a1*T32+a0:=by unfold T32;omega
 obtain⟨Q,hQ⟩:∃z,z=(U*T32+v1) / (a1*T32+a0):=⟨_,rfl⟩;have HQ:=ZZ hQ;have hQlt:Q<4294967296:=by rw [hQ];exact dl_lt (by rw [←HYd.out];exact HUY.out) b4
 clear hQ;have HYp:=ZZ hYp;have HQl:=ZZ hQlt;have B1:=ZZ b1;have B2:=ZZ b2;have B3:=ZZ b3;have B4:=ZZ b4;have B5:=ZZ b5;have B6:=ZZ b6;clear hYp hQlt
 go_upto_block 0 with (fail)
 go_cut [15,16] (fun q r wx=>w=wx∧q=.int .u64 (Q:Nat)∧∃z:Nat,r=.int .u64 z)
 case first=>
  clear b1 b2 b3 b4 b5 b6;go_wp2_with fail
  go_loop [15,16] (fun q r=>∃x z:Nat,q=.int .u64 x∧r=.int .u64 z∧x*a1+z=U∧z<4294967296∧Q≤x) (fun q _=>(intOf q).toNat)
  case atStart=>exact⟨q1,r1,rfl,rfl,Hqr.out,by have:=Hr1.out;have:=B2.out;omega,by rw [HQ.out];exact dl_qle Hqr.out HYp.out Hr1.out (by have:=B4.out;unfold T32;omega)⟩
  case round=>
   obtain⟨x,z,rfl,rfl,hxz,hz,hQx⟩:=hrel;have hxu:x≤U:=by rw [←hxz];have:=Nat.mul_le_mul_left x (show 1≤a1 by have:=B1.out;omega);omega
   have hle:x*a0≤z*T32+v1→x≤Q:=fun h=>by rw [HQ.out];exact dl_le hxz HYp.out h
   obtain⟨x',hx'⟩:∃y,y=x - 1:=⟨_,rfl⟩;obtain⟨z',hz'⟩:∃y,y=z+a1:=⟨_,rfl⟩;obtain⟨p,hp⟩:∃p,p=x*a0:=⟨_,rfl⟩;obtain⟨m,hm⟩:∃m,m=4294967296*z:=⟨_,rfl⟩;obtain⟨t,ht⟩:∃t,t=m+v1:=⟨_,rfl⟩;have hml:t<18446744073709551616:=by have:=B4.out;omega
   have hb6:=B6.out;have hb2:=B2.out;have hb3:=B3.out;have htm:z*T32+v1=t:=by unfold T32;omega
   rw [htm,←hp] at hle;have hw2:IntKind.u64.wrap (4294967296*(z:Int))=(m:Int):=by rw [IntWalk.u64_in _ (by omega)];omega
   have hw3:IntKind.u64.wrap ((m:Int)+(v1:Int))=(t:Int):=by rw [IntWalk.u64_in _ (by omega)];omega
   have hwz:IntKind.u64.wrap ((z:Int)+(a1:Int))=(z':Int):=by rw [IntWalk.u64_in _ (by omega)];omega
   by_cases hA:Q<x
   ·have hws:IntKind.u64.wrap ((x:Int) - 1)=(x':Int):=by rw [IntWalk.u64_in _ (by omega)];omega
    have hnew:x'*a1+z'=U:=by
     have h1:=hxz;rw [show x=x'+1 by omega,Nat.add_mul] at h1;omega
    have hbrk:4294967296≤z'→x'=Q:=fun h=>by
     have:=dl_le (v1:=v1) hnew HYp.out (dl_break hnew (by rw [←HYd.out];exact HUY.out) (by unfold T32;omega) h)
     rw [←HQ.out] at this;omega
    have Hnew:Hid (x'*a1+z'=U∧Q≤x'∧x'<x):=⟨hnew,by omega,by omega⟩;have Hbrk:=ZZ hbrk
    by_cases hbig:4294967296≤x
    ·have tb:decide ((4294967296:Int)≤(x:Int))=true:=by simp;omega
     by_cases hbr:4294967296≤z'
     ·have tr:decide ((4294967296:Int)≤(z':Int))=true:=by simp;omega
      have Hx:Hid (x'=Q):=hbrk hbr;clear hw2 hw3 hbr hbig hnew hbrk hA htm hb2 hb3 hb6 hml ht hm hp hz' hx' hle hxu hxz hz hQx;go_wp2_with fail;go_meet;exact⟨rfl,by rw [Hx.out],_,rfl⟩
     ·have tr:decide ((4294967296:Int)≤(z':Int))=false:=by simp;omega
      have Hz:Hid (z'<4294967296):=by show _<_;omega
      clear hw2 hw3 hbr hbig hnew hbrk hA htm hb2 hb3 hb6 hml ht hm hp hz' hx' hle hxu hxz hz hQx;go_wp2_with fail
      go_round
      case rel=>exact⟨x',z',rfl,rfl,Hnew.out.1,Hz.out,Hnew.out.2.1⟩
      case measure=>simp [intOf];exact Hnew.out.2.2
    ·have tb:decide ((4294967296:Int)≤(x:Int))=false:=by simp;omega
     have hpl:p<18446744073709551616:=by
      have:x*a0≤4294967295*4294967295:=Nat.mul_le_mul (by omega) (by omega)
      omega
     have hw1:IntKind.u64.wrap ((x:Int)*(a0:Int))=(p:Int):=by rw [←Int.natCast_mul,←hp,IntWalk.u64_in _ (by omega)]
     have tc:decide (t<p)=true:=by
      simp
      rcases Nat.lt_or_ge t p with h|h
      ·exact h
      ·have:=hle h;omega
     by_cases hbr:4294967296≤z'
     ·have tr:decide ((4294967296:Int)≤(z':Int))=true:=by simp;omega
      have Hx:Hid (x'=Q):=hbrk hbr;clear hbr hbig hnew hbrk hA htm hb2 hb3 hb6 hml ht hm hp hz' hx' hle hxu hxz hz hQx hpl;go_wp2_with fail;go_meet;exact⟨rfl,by rw [Hx.out],_,rfl⟩
     ·have tr:decide ((4294967296:Int)≤(z':Int))=false:=by simp;omega
      have Hz:Hid (z'<4294967296):=by show _<_;omega
      clear hbr hbig hnew hbrk hA htm hb2 hb3 hb6 hml ht hm hp hz' hx' hle hxu hxz hz hQx hpl;go_wp2_with fail
      go_round
      case rel=>exact⟨x',z',rfl,rfl,Hnew.out.1,Hz.out,Hnew.out.2.1⟩
      case measure=>simp [intOf];exact Hnew.out.2.2
   ·have hxQ:x=Q:=by omega
    have hQ4:=HQl.out
    have hpl:p<18446744073709551616:=by
     have:x*a0≤4294967295*4294967295:=Nat.mul_le_mul (by omega) (by omega)
     omega
    have hw1:IntKind.u64.wrap ((x:Int)*(a0:Int))=(p:Int):=by rw [←Int.natCast_mul,←hp,IntWalk.u64_in _ (by omega)]
    have tb:decide ((4294967296:Int)≤(x:Int))=false:=by simp;omega
    have tc:decide (t<p)=false:=by
     simp
     rcases Nat.lt_or_ge t p with h|h
     ·rw [hp,←htm] at h
      have:=dl_gt hxz HYp.out h
      rw [←HQ.out] at this;omega
     ·exact h
    have HxQ:=ZZ hxQ;clear hxQ hA htm hb2 hb3 hb6 hml ht hm hp hz' hx' hle hxu hxz hz hQx hpl hQ4;go_wp2_with fail;go_meet;exact⟨rfl,by rw [HxQ.out],_,rfl⟩
 case rest=>
  obtain⟨rfl,rfl,z0,rfl⟩:=hcut;clear hw1 hw2 hw3 hw4 hw5 hw6 hw7 hw8 hw9 hq2 hq3 hq4 hq5 tq t1 t2 hq1';obtain⟨R,hR⟩:∃z,z=U*T32+v1 - Q*Y:=⟨_,rfl⟩
  have hQR:Q*Y+R=U*T32+v1∧R<Y:=by
   have h1:=Nat.div_add_mod (U*T32+v1) Y;have h2:=Nat.mod_lt (U*T32+v1) (show 0<Y by rw [HYd.out];exact HYp.out);rw [show (U*T32+v1) / Y=Q by rw [HQ.out,HYd.out],Nat.mul_comm] at h1;omega
  obtain⟨X1,hX1⟩:∃z,z=U*4294967296 % 18446744073709551616:=⟨_,rfl⟩;obtain⟨X2,hX2⟩:∃z,z=(X1+v1) % 18446744073709551616:=⟨_,rfl⟩;obtain⟨X3,hX3⟩:∃z,z=(Q*Y) % 18446744073709551616:=⟨_,rfl⟩;have hw1:IntKind.u64.wrap ((U:Int)*4294967296)=(X1:Int):=by rw [IntKind.wrap_u64];omega
  have hw2:IntKind.u64.wrap ((X1:Int)+(v1:Int))=(X2:Int):=by rw [IntKind.wrap_u64];omega
  have hw3:IntKind.u64.wrap ((Q:Int)*(Y:Int))=(X3:Int):=by rw [←Int.natCast_mul,IntKind.wrap_u64];omega
  have hw4:IntKind.u64.wrap ((X2:Int) - (X3:Int))=(R:Int):=by
   rw [IntKind.wrap_u64]
   have:=HY1.out
   unfold T32 at *;generalize Q*Y=qy at *;omega
  have HQR:=ZZ hQR;clear hX1 hX2 hX3 hR hQR;obtain⟨q2,hq1⟩:∃z,z=R / a1:=⟨_,rfl⟩;obtain⟨r2,hr1⟩:∃z,z=R % a1:=⟨_,rfl⟩;have hqr:q2*a1+r2=R:=by rw [hq1,hr1,Nat.mul_comm];exact Nat.div_add_mod R a1
  obtain⟨p1,hp1⟩:∃z,z=q2*a1:=⟨_,rfl⟩;have hRb:R<18446744073709551616:=by have:=HQR.out.2;have:=HY1.out;omega
  have hqU:q2≤R:=by rw [hq1];exact Nat.div_le_self _ _
  have hq2:(R:Int) / (a1:Int)=(q2:Int):=by rw [hq1];simp
  have hq6:IntKind.u64.wrap ((R:Int).tdiv (a1:Int))=(q2:Int):=by
   rw [IntWalk.u64_quo _ _ ⟨by omega,by omega,by have:=B1.out;omega⟩,hq2]
  have hq5:IntKind.u64.wrap (q2:Int)=(q2:Int):=IntWalk.u64_in _ (by omega)
  have hq3:IntKind.u64.wrap ((q2:Int)*(a1:Int))=(p1:Int):=by
   rw [←Int.natCast_mul,←hp1,IntWalk.u64_in _ (by omega)]
  have hq4:IntKind.u64.wrap ((R:Int) - (p1:Int))=(r2:Int):=by
   rw [IntWalk.u64_in _ (by omega)];omega
  have tq:((a1:Int) == 0)=false:=by simp;have:=B1.out;omega
  have HQr2:=ZZ hqr;have Hr2:Hid (r2<a1):=by show _<_;rw [hr1];exact Nat.mod_lt _ (by have:=B1.out;omega)
  have B62:=ZZ hRb;clear hq1 hr1 hqr hp1 hRb hqU b1 b2 b3 b4 b5 b6;obtain⟨Q2,hQ2⟩:∃z,z=(R*T32+v0) / (a1*T32+a0):=⟨_,rfl⟩;have HQ2:=ZZ hQ2;have HQl2:Hid (Q2<4294967296):=by show _<_;rw [hQ2];exact dl_lt (by rw [←HYd.out];exact HQR.out.2) B5.out
  clear hQ2;have hap:0<a1:=by have:=B1.out;omega
  go_upto_block 2 with (fail)
  go_cut [16,18] (fun r q wx=>w=wx∧q=.int .u64 (Q2:Nat)∧∃z:Nat,r=.int .u64 z)
  case first=>
   go_wp2_with fail
   go_loop [16,18] (fun r q=>∃x z:Nat,q=.int .u64 x∧r=.int .u64 z∧x*a1+z=R∧z<4294967296∧Q2≤x) (fun _ q=>(intOf q).toNat)
   case atStart=>exact⟨q2,r2,rfl,rfl,HQr2.out,by have:=Hr2.out;have:=B2.out;omega,by rw [HQ2.out];exact dl_qle HQr2.out HYp.out Hr2.out (by have:=B5.out;unfold T32;omega)⟩
   case round=>
    obtain⟨x,z,rfl,rfl,hxz,hz,hQx⟩:=hrel;have hxu:x≤R:=by rw [←hxz];have:=Nat.mul_le_mul_left x (show 1≤a1 by have:=B1.out;omega);omega
    have hle:x*a0≤z*T32+v0→x≤Q2:=fun h=>by rw [HQ2.out];exact dl_le hxz HYp.out h
    obtain⟨x',hx'⟩:∃y,y=x - 1:=⟨_,rfl⟩;obtain⟨z',hz'⟩:∃y,y=z+a1:=⟨_,rfl⟩;obtain⟨p,hp⟩:∃p,p=x*a0:=⟨_,rfl⟩;obtain⟨m,hm⟩:∃m,m=4294967296*z:=⟨_,rfl⟩;obtain⟨t,ht⟩:∃t,t=m+v0:=⟨_,rfl⟩;have hml:t<18446744073709551616:=by have:=B5.out;omega
    have hb6:=B62.out;have hb2:=B2.out;have hb3:=B3.out;have htm:z*T32+v0=t:=by unfold T32;omega
    rw [htm,←hp] at hle;have hw2:IntKind.u64.wrap (4294967296*(z:Int))=(m:Int):=by rw [IntWalk.u64_in _ (by omega)];omega
    have hw3:IntKind.u64.wrap ((m:Int)+(v0:Int))=(t:Int):=by rw [IntWalk.u64_in _ (by omega)];omega
    have hwz:IntKind.u64.wrap ((z:Int)+(a1:Int))=(z':Int):=by rw [IntWalk.u64_in _ (by omega)];omega
    by_cases hA:Q2<x
    ·have hws:IntKind.u64.wrap ((x:Int) - 1)=(x':Int):=by rw [IntWalk.u64_in _ (by omega)];omega
     have hnew:x'*a1+z'=R:=by
      have h1:=hxz;rw [show x=x'+1 by omega,Nat.add_mul] at h1;omega
     have hbrk:4294967296≤z'→x'=Q2:=fun h=>by
      have:=dl_le (v1:=v0) hnew HYp.out (dl_break hnew (by rw [←HYd.out];exact HQR.out.2) (by unfold T32;omega) h)
      rw [←HQ2.out] at this;omega
     have Hnew:Hid (x'*a1+z'=R∧Q2≤x'∧x'<x):=⟨hnew,by omega,by omega⟩;have Hbrk:=ZZ hbrk
     by_cases hbig:4294967296≤x
     ·have tb:decide ((4294967296:Int)≤(x:Int))=true:=by simp;omega
      by_cases hbr:4294967296≤z'
      ·have tr:decide ((4294967296:Int)≤(z':Int))=true:=by simp;omega
       have Hx:Hid (x'=Q2):=hbrk hbr;clear hw2 hw3 hbr hbig hnew hbrk hA htm hb2 hb3 hb6 hml ht hm hp hz' hx' hle hxu hxz hz hQx;go_wp2_with fail;go_meet;exact⟨rfl,by rw [Hx.out],_,rfl⟩
      ·have tr:decide ((4294967296:Int)≤(z':Int))=false:=by simp;omega
       have Hz:Hid (z'<4294967296):=by show _<_;omega
       clear hw2 hw3 hbr hbig hnew hbrk hA htm hb2 hb3 hb6 hml ht hm hp hz' hx' hle hxu hxz hz hQx;go_wp2_with fail
       go_round
       case rel=>exact⟨x',z',rfl,rfl,Hnew.out.1,Hz.out,Hnew.out.2.1⟩
       case measure=>simp [intOf];exact Hnew.out.2.2
     ·have tb:decide ((4294967296:Int)≤(x:Int))=false:=by simp;omega
      have hpl:p<18446744073709551616:=by
       have:x*a0≤4294967295*4294967295:=Nat.mul_le_mul (by omega) (by omega)
       omega
      have hw1:IntKind.u64.wrap ((x:Int)*(a0:Int))=(p:Int):=by rw [←Int.natCast_mul,←hp,IntWalk.u64_in _ (by omega)]
      have tc:decide (t<p)=true:=by
       simp
       rcases Nat.lt_or_ge t p with h|h
       ·exact h
       ·have:=hle h;omega
      by_cases hbr:4294967296≤z'
      ·have tr:decide ((4294967296:Int)≤(z':Int))=true:=by simp;omega
       have Hx:Hid (x'=Q2):=hbrk hbr;clear hbr hbig hnew hbrk hA htm hb2 hb3 hb6 hml ht hm hp hz' hx' hle hxu hxz hz hQx hpl;go_wp2_with fail;go_meet;exact⟨rfl,by rw [Hx.out],_,rfl⟩
      ·have tr:decide ((4294967296:Int)≤(z':Int))=false:=by simp;omega
       have Hz:Hid (z'<4294967296):=by show _<_;omega
       clear hbr hbig hnew hbrk hA htm hb2 hb3 hb6 hml ht hm hp hz' hx' hle hxu hxz hz hQx hpl;go_wp2_with fail
       go_round
       case rel=>exact⟨x',z',rfl,rfl,Hnew.out.1,Hz.out,Hnew.out.2.1⟩
       case measure=>simp [intOf];exact Hnew.out.2.2
    ·have hxQ:x=Q2:=by omega
     have hQ4:=HQl2.out
     have hpl:p<18446744073709551616:=by
      have:x*a0≤4294967295*4294967295:=Nat.mul_le_mul (by omega) (by omega)
      omega
     have hw1:IntKind.u64.wrap ((x:Int)*(a0:Int))=(p:Int):=by rw [←Int.natCast_mul,←hp,IntWalk.u64_in _ (by omega)]
     have tb:decide ((4294967296:Int)≤(x:Int))=false:=by simp;omega
     have tc:decide (t<p)=false:=by
      simp
      rcases Nat.lt_or_ge t p with h|h
      ·rw [hp,←htm] at h
       have:=dl_gt hxz HYp.out h
       rw [←HQ2.out] at this;omega
      ·exact h
     have HxQ:=ZZ hxQ;clear hxQ hA htm hb2 hb3 hb6 hml ht hm hp hz' hx' hle hxu hxz hz hQx hpl hQ4;go_wp2_with fail;go_meet;exact⟨rfl,by rw [HxQ.out],_,rfl⟩
  case rest=>
   obtain⟨rfl,rfl,z1,rfl⟩:=hcut;clear hw1 hw2 hw3 hw4 hq2 hq3 hq4 hq5 hq6 tq
   have hQR0:Q2*Y+(R*T32+v0 - Q2*Y)=R*T32+v0∧R*T32+v0 - Q2*Y<Y:=by
    have h1:=Nat.div_add_mod (R*T32+v0) Y;have h2:=Nat.mod_lt (R*T32+v0) (show 0<Y by rw [HYd.out];exact HYp.out);rw [show (R*T32+v0) / Y=Q2 by rw [HQ2.out,HYd.out],Nat.mul_comm] at h1;omega
   obtain⟨R0,hR0⟩:∃z,z=R*T32+v0 - Q2*Y:=⟨_,rfl⟩;rw [←hR0] at hQR0;have HQR0:=ZZ hQR0;obtain⟨X1,hX1⟩:∃z,z=R*4294967296 % 18446744073709551616:=⟨_,rfl⟩;obtain⟨X2,hX2⟩:∃z,z=(X1+v0) % 18446744073709551616:=⟨_,rfl⟩;obtain⟨X3,hX3⟩:∃z,z=(Q2*Y) % 18446744073709551616:=⟨_,rfl⟩;obtain⟨X4,hX4⟩:∃z,z=Q*T32:=⟨_,rfl⟩;obtain⟨X5,hX5⟩:∃z,z=X4+Q2:=⟨_,rfl⟩;have hql:=HQl.out;have hql2:=HQl2.out;have hw1:IntKind.u64.wrap ((R:Int)*4294967296)=(X1:Int):=by rw [IntKind.wrap_u64];omega
   have hw2:IntKind.u64.wrap ((X1:Int)+(v0:Int))=(X2:Int):=by rw [IntKind.wrap_u64];omega
   have hw3:IntKind.u64.wrap ((Q2:Int)*(Y:Int))=(X3:Int):=by rw [←Int.natCast_mul,IntKind.wrap_u64];omega
   have hw4:IntKind.u64.wrap ((X2:Int) - (X3:Int))=(R0:Int):=by
    rw [IntKind.wrap_u64]
    have:=HY1.out
    unfold T32 at *;generalize Q2*Y=qy at *;omega
   have hw5:IntKind.u64.wrap ((Q:Int)*4294967296)=(X4:Int):=by rw [IntKind.wrap_u64];unfold T32 at *;omega
   have hw6:IntKind.u64.wrap ((X4:Int)+(Q2:Int))=(X5:Int):=by rw [IntKind.wrap_u64];unfold T32 at *;omega
   have HX4:=ZZ hX4;have HX5:=ZZ hX5;clear hX1 hX2 hX3 hX4 hX5 hR0 hql hql2 hQR0;go_wp2_with fail
   go_ret2
   have hend:=div_end (T:=T32) (hi:=hi) (lo:=lo) (y:=y) (s:=s) rfl HN.out HYe.out (v1:=v1) (v0:=v0) (by rw [Hv1.out,Hv0.out];unfold T32;omega) HQR.out.1 HQR0.out.1 HQR0.out.2;refine⟨⟨X5,R0 / 2 ^ s,?_,?_,hend.2,?_⟩,ae _⟩
   ·simp
   ·rw [HX5.out,HX4.out];exact hend.1
   ·rw [HX5.out,HX4.out,B64_eq];have:=HQl.out;have:=HQl2.out;unfold T32;omega
theorem div64_low (lo y:Nat) (hh:0<y) (hl:lo<B64) (hy:y<B64) (w:World):Calls Tryz.prog 118 #[.int .u64 0,.int .u64 lo,.int .u64 y] w fun e w'=>(∃q r:Nat,e=.returned (.tuple #[.int .u64 q,.int .u64 r])∧q*y+r=0*B64+lo∧r<y∧q<B64)∧Ext w w':=by
 have t1:((y:Int) == 0)=false:=by simp;omega
 have hq:lo / y≤lo:=Nat.div_le_self _ _;have hm:lo % y<y:=Nat.mod_lt _ hh;have hdm:lo / y*y+lo % y=lo:=by rw [Nat.mul_comm];exact Nat.div_add_mod lo y
 have hq2:(lo:Int) / (y:Int)=((lo / y:Nat):Int):=by simp
 have hr2:(lo:Int) % (y:Int)=((lo % y:Nat):Int):=by simp
 generalize lo / y=q at *;generalize lo % y=r at *;rw [B64_eq] at hl hy
 have hw1:IntKind.u64.wrap ((lo:Int).tdiv (y:Int))=(q:Int):=by
  rw [IntWalk.u64_quo _ _ ⟨by omega,by omega,by omega⟩,hq2]
 have hw1':IntKind.u64.wrap ((lo:Int) / (y:Int))=(q:Int):=by rw [hq2,IntWalk.u64_in _ (by omega)]
 have hw2:IntKind.u64.wrap ((lo:Int).tmod (y:Int))=(r:Int):=by
  rw [IntWalk.rem_in _ _ (by omega),hr2,IntWalk.u64_in _ (by omega)]
 have hw3:IntKind.u64.wrap (q:Int)=(q:Int):=IntWalk.u64_in _ (by omega);have hw4:IntKind.u64.wrap (r:Int)=(r:Int):=IntWalk.u64_in _ (by omega);have Hdm:=ZZ hdm;have Hl:=ZZ hl;have Hq:=ZZ hq;have Hm:=ZZ hm;have hyp:1≤y:=hh;clear hdm hl hy hq hm
 go_enter Tryz.func118,Tryz.ntmps118
 go_wp2_with fail
 go_quiet (fail)
 go_wp2_with fail
 go_ret2
 refine⟨⟨q,r,by rw [←hr2];rfl,by rw [Hdm.out];omega,Hm.out,?_⟩,av _ _⟩
 have:=Hl.out;have:=Hq.out;rw [B64_eq];omega
theorem div64_c (hi lo y:Nat) (hh:hi<y) (hl:lo<B64) (hy:y<B64) (w:World):Calls Tryz.prog 118 #[.int .u64 hi,.int .u64 lo,.int .u64 y] w fun e w'=>(∃q r:Nat,e=.returned (.tuple #[.int .u64 q,.int .u64 r])∧q*y+r=hi*B64+lo∧r<y∧q<B64)∧Ext w w':=by
 rcases Nat.eq_zero_or_pos hi with rfl|h0
 ·exact div64_low lo y hh hl hy w
 ·exact div64_main hi lo y hh hl hy h0 w
end Go.Proofs.YtkoaakefgacokaaGreatDoor
