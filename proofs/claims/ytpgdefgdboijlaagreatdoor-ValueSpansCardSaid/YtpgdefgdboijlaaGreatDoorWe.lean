/- The program's natural numbers: dividing by one word, size, shifting. The program's natural numbers: shifting. The program's natural numbers: take and give (a multiple is subtracted, or added, in place). The program's natural numbers: division. -/
import Derived.Test.YtpgdefgdboijlaaGreatDoorWd
import Derived.Deep.RegionLawGrows
set_option linter.unusedVariables false
set_option maxRecDepth 100000
set_option maxHeartbeats 16000000
namespace Go.Proofs.YtpgdefgdboijlaaGreatDoor
open Go.RowKit
theorem drop_set_self (l:List Nat) (k v:Nat) (h:k<l.length):(l.set k v).drop k=v :: l.drop (k+1):=by
 rw [List.drop_eq_getElem_cons (by simpa using h)]
 simp [List.drop_set]
theorem drop_getD (l:List Nat) (k:Nat) (h:k<l.length):l.drop k=l.getD k 0 :: l.drop (k+1):=by
 rw [List.drop_eq_getElem_cons h];simp [List.getD_eq_getElem?_getD,h]
theorem by1_step {B N M q b r a r' c:Nat} (h:M*b+r=N) (hd:q*b+r'=r*B+a):(q+B*M)*b+r'=a+B*N:=by subst h;grind
theorem by1_c (va:Value) (n b:Nat) (w:World) (ha:Wd w va n) (sa:Sm n) (h0:0<b) (hb:b<B64):Calls Tryz.prog 155 #[va,.int .u64 b] w fun e w'=>(∃v r:_,e=.returned (.tuple #[v,.int .u64 ((r:Nat):Int)])∧r=n % b∧Wd w' v (n / b))∧Ext w w':=by
 obtain⟨A,ca,rfl,hca,hA⟩:=ha;have la:=dg_lt n;have en:=num_dg n;unfold Sm at sa;generalize dg n=xs at *;obtain⟨p,hp⟩:∃p,xs.length=p:=⟨_,rfl⟩;rw [hp] at hca sa ⊢;have Hp:=ZZ hp;have La:=ZZ la;have En:=ZZ en;have Hb:=ZZ hb;have hmk:=mk_words p (p:Int) rfl (by omega);clear hp la en hb
 go_enter Tryz.func155,Tryz.ntmps155
 go_wp2
 go_loopw [7,8] (fun c i wr=>∃(k rest:Nat) (r:List Nat),k≤p∧i=.int .i64 ((k:Int) - 1)∧c=.int .u64 rest∧rest<b∧r.length=p∧(∀d ∈ r,d<B64)∧BkU wr w.heap.size r∧Below w.heap.size w wr∧num B64 (r.drop k)*b+rest=num B64 (xs.drop k)) (fun _ i _=>(intOf i+1).toNat)
 case atStart=>exact⟨p,0,zs p,Nat.le_refl _,rfl,rfl,h0,zs_length _,zs_lt (by rw [B64_eq];omega) _,BkU.new _ _,ab _ _,by
  rw [List.drop_of_length_le (by rw [zs_length];omega),List.drop_of_length_le (by rw [Hp.out];omega)];simp⟩
 case round=>
  obtain⟨k,rest,r,hk,rfl,rfl,hrest,hr,hrl,hbk,hbel,hnum⟩:=hrel;have Hr:=ZZ hr;have Hrl:=ZZ hrl;have Hbk:Hid (BkU wr w.heap.size r):=hbk;have Hnum:=ZZ hnum;clear hr hrl hbk hnum
  by_cases hz:k=0
  ·subst hz
   have HC:=ZZ Hbk.out.cl;go_wp2_with fail;refine(cut_c _ r _ _ HC.out p Hr.out (by omega) (by omega)).mono ?_;rintro e w2 ⟨rfl,rfl⟩;go_wp2_with fail
   go_ret2
   have h1:=Hnum.out
   simp only [List.drop_zero] at h1
   rw [En.out] at h1
   have h2:n / b=num B64 r∧n % b=rest:=by
    rw [←h1,Nat.mul_comm]
    constructor
    ·rw [Nat.mul_add_div h0,Nat.div_eq_of_lt hrest,Nat.add_zero]
    ·rw [Nat.mul_add_mod,Nat.mod_eq_of_lt hrest]
   refine⟨⟨_,rest,rfl,h2.2.symm,?_⟩,hbel⟩;rw [h2.1];exact cut_w Hrl.out HC.out (by rw [Hr.out];omega)
  ·obtain⟨k,rfl⟩:∃j,k=j+1:=⟨k - 1,by omega⟩
   obtain⟨ba,oa,rfl,hca'⟩:=hA.u (by rw [Hp.out];omega);have ea:=aq hbel (hca' k (by rw [Hp.out];omega));have hxl:=getD_lt La.out (by rw [B64_eq];omega) k;have Hdx:Hid (xs.drop k=xs.getD k 0 :: xs.drop (k+1)):=drop_getD xs k (by rw [Hp.out];omega);clear hca' hA hz;generalize xs.getD k 0=x at *;have Hxl:=ZZ hxl;clear hxl;go_wp2_with fail;refine(div64_c rest x b hrest Hxl.out Hb.out _).mono ?_;rintro e w1 ⟨⟨q,s,rfl,hqs,hs,hq⟩,hext⟩;have hbel1:=hbel.trans (hext.mono hbel.size);have Hbk1:Hid (BkU w1 w.heap.size r):=Hbk.out.ext hext;have hci:=Hbk1.out.cell k (by rw [Hr.out];omega);have hfi:=Hbk1.out.frozen k;have Hset:=ZZ (Hbk1.out.set_ k q);have Hqs:=ZZ hqs;have Hq:=ZZ hq;clear hqs hq ea;go_wp2_with fail
   go_roundw
   case rel=>
    refine⟨k,s,r.set k q,by omega,by simp,rfl,hs,by rw [List.length_set,Hr.out],set_lt Hrl.out Hq.out k,Hset.out,hbel1.setCell (Nat.le_refl _) _,?_⟩;rw [drop_set_self r k q (by rw [Hr.out];omega),Hdx.out,num_cons,num_cons];exact by1_step (c:=0) Hnum.out Hqs.out
   case measure=>simp [intOf]
theorem dg_length_size {n:Nat} (h0:0<n):(dg n).getD ((dg n).length - 1) 0<B64∧0<(dg n).getD ((dg n).length - 1) 0∧0<(dg n).length∧n=num B64 ((dg n).take ((dg n).length - 1))+B64 ^ ((dg n).length - 1)*(dg n).getD ((dg n).length - 1) 0∧num B64 ((dg n).take ((dg n).length - 1))<B64 ^ ((dg n).length - 1):=by
 have h1:=dg_norm n;have h2:dg n≠[]:=dig_ne_nil B64_two h0;have h3:0<(dg n).length:=List.length_pos_iff.2 h2;have e:=num_dg n;generalize dg n=l at *;have h4:=num_take_succ B64 l (l.length - 1) (by omega);rw [show l.length - 1+1=l.length by omega,List.take_length,e] at h4;refine⟨getD_lt h1.lt (by rw [B64_eq];omega) _,?_,h3,h4,?_⟩
 ·rcases Nat.eq_zero_or_pos (l.getD (l.length - 1) 0) with h5|h5
  ·exfalso
   apply h1.last
   rw [List.getLast?_eq_getElem?];rw [List.getD_eq_getElem?_getD] at h5;rw [List.getElem?_eq_getElem (by omega)] at h5 ⊢
   simpa using h5
  ·exact h5
 ·have:=num_lt B64 (l.take (l.length - 1)) (fun d hd=>h1.lt d (List.mem_of_mem_take hd))
  rwa [List.length_take,Nat.min_eq_left (by omega)] at this
def bl (n:Nat):Nat:=if n=0 then 0 else Nat.log2 n+1
theorem bl_unique {n k:Nat} (h1:n<2 ^ k) (h2:k=0∨2 ^ (k - 1)≤n):bl n=k:=by
 unfold bl
 rcases h2 with rfl|h2
 ·simp at h1;simp [h1]
 ·have h0:n≠0:=by have:=Nat.pow_pos (n:=k - 1) (show 0<2 by omega);omega
  have h3:k≠0:=by rintro rfl;simp at h1;omega
  rw [if_neg h0];have h4:Nat.log2 n<k:=(Nat.log2_lt h0).2 h1;have h5:k - 1≤Nat.log2 n:=(Nat.le_log2 h0).2 h2;omega
theorem size_c (va:Value) (n:Nat) (w:World) (ha:Wd w va n) (sa:Sm n):Calls Tryz.prog 193 #[va] w fun e w'=>e=.returned (.int .i64 (bl n:Nat))∧w=w':=by
 obtain⟨A,ca,rfl,hca,hA⟩:=ha;unfold Sm at sa
 rcases Nat.eq_zero_or_pos n with rfl|h0
 ·have e0:(dg 0).length=0:=by rw [dg_zero];rfl
  rw [e0] at *;clear e0 hA
  go_enter Tryz.func193,Tryz.ntmps193
  go_wp2
  go_ret;exact⟨rfl,rfl⟩
 ·obtain⟨h1,h2,h3,h4,h5⟩:=dg_length_size h0
  obtain⟨p,hp⟩:∃p,(dg n).length=p+1:=⟨(dg n).length - 1,by omega⟩;rw [hp,Nat.add_sub_cancel] at h1 h2 h4 h5;obtain⟨ba,oa,rfl,hc⟩:=hA.u (by omega);have h0':=hc p (by omega);rw [hp] at hca sa ⊢;clear hc hA h3 hp;generalize (dg n).getD p 0=x at *;obtain⟨b1,b2,b3⟩:=bitLen_spec x h1;have b2:=b2 h2
  have HB:Hid (bl n=64*p+Lib.bitLen x):=by
   apply bl_unique
   ·rw [h4,Nat.pow_add,Nat.pow_mul,show 2 ^ 64=B64 from rfl]
    have:B64 ^ p*(x+1)≤B64 ^ p*2 ^ Lib.bitLen x:=Nat.mul_le_mul_left _ b1
    rw [Nat.mul_add] at this;omega
   ·right
    have hb0:Lib.bitLen x≠0:=by intro e;rw [e] at b1;simp at b1;omega
    rw [show 64*p+Lib.bitLen x - 1=64*p+(Lib.bitLen x - 1) by omega,Nat.pow_add,Nat.pow_mul,show 2 ^ 64=B64 from rfl,h4]
    have:=Nat.mul_le_mul_left (B64 ^ p) b2
    omega
  have Hx:=ZZ h1;clear h4 h5 h1 h2 b1 b2
  go_enter Tryz.func193,Tryz.ntmps193
  go_wp2_with fail;refine(Tryz.bits_Len64 (x:Int) _ (by omega) (by have:=Hx.out;rw [B64_eq] at this;omega)).mono ?_
  rintro e w1 ⟨rfl,hw⟩;subst hw;rw [Int.toNat_natCast];generalize Lib.bitLen x=y at *;go_wp2_with fail;go_ret;refine⟨?_,rfl⟩;rw [HB.out]
  simp
end Go.Proofs.YtpgdefgdboijlaaGreatDoor
namespace Go.Proofs.YtpgdefgdboijlaaGreatDoor
open Go.RowKit
theorem shift_parts {x s:Nat} (hx:x<B64) (hs:s<64):∃L H:Nat,L=x*2 ^ s % B64∧H=x / 2 ^ (64 - s)∧L+B64*H=x*2 ^ s∧L<B64∧H<2 ^ s∧∀o,o<2 ^ s→o ||| L=o+L∧o+L<B64:=by
 have e64:B64=2 ^ (64 - s)*2 ^ s:=by rw [←Nat.pow_add,show 64 - s+s=64 from by omega];rfl
 have hp:0<2 ^ s:=Nat.pow_pos (by omega);have hq:0<2 ^ (64 - s):=Nat.pow_pos (by omega);have hL:x*2 ^ s % B64=x % 2 ^ (64 - s)*2 ^ s:=by rw [e64,Nat.mul_mod_mul_right]
 have hm:x % 2 ^ (64 - s)<2 ^ (64 - s):=Nat.mod_lt _ hq;refine⟨_,_,rfl,rfl,?_,Nat.mod_lt _ (by rw [B64_eq];omega),?_,fun o ho=>⟨?_,?_⟩⟩
 ·rw [hL]
  have:=Nat.div_add_mod x (2 ^ (64 - s))
  conv=>rhs;rw [←this]
  rw [e64];grind
 ·rw [Nat.div_lt_iff_lt_mul hq,Nat.mul_comm,←e64];exact hx
 ·rw [hL,Nat.or_comm,Nat.mul_comm (x % _),←Nat.two_pow_add_eq_or_of_lt ho,Nat.add_comm]
 ·rw [hL,e64]
  have:=Nat.mul_le_mul_right (2 ^ s) (show x % 2 ^ (64 - s)+1≤2 ^ (64 - s) from hm)
  rw [Nat.add_mul] at this;omega
theorem up_step {N R' R B P D S x o L H R1:Nat} (h:R=N*(D*S)) (hx:L+B*H=x*S) (h1:R1+P*D*o=R+P*D*(o+L)) (h2:R'=R1+P*D*B*H):R'=(N+P*x)*(D*S):=by
 subst h2 h;have h3:P*D*(L+B*H)=P*D*(x*S):=by rw [hx]
 grind
theorem up_r (va:Value) (n k:Nat) (w:World) (ha:Wd w va n) (sa:Sm n) (hk:k≤70368744177664):Calls Tryz.prog 171 #[va,.int .i64 k] w fun e w'=>(∃r:List Nat,e=.returned (.slice (some ⟨w.heap.size,0,none⟩) (cut r).length ((dg n).length+k / 64+1))∧r.length=(dg n).length+k / 64+1∧(∀d ∈ r,d<B64)∧BkU w' w.heap.size r∧num B64 r=n*2 ^ k)∧Ext w w':=by
 obtain⟨A,ca,rfl,hca,hA⟩:=ha;have la:=dg_lt n;have en:=num_dg n;unfold Sm at sa;generalize dg n=xs at *;obtain⟨p,hp⟩:∃p,xs.length=p:=⟨_,rfl⟩;rw [hp] at hca sa ⊢;obtain⟨d,hd⟩:∃d,d=k / 64:=⟨_,rfl⟩;obtain⟨s,hs⟩:∃s,s=k % 64:=⟨_,rfl⟩;rw [←hd];have hs63:s<64:=by omega
 have hdb:d≤1099511627776:=by omega
 have hk1:(k:Int) / 64=(d:Int):=by omega
 have hk2:(k:Int) % 64=(s:Int):=by omega
 have hk1':IntKind.i64.wrap ((k:Int).tdiv 64)=(d:Int):=by rw [IntWalk.i64_quo _ _ ⟨by omega,by omega,by omega⟩,hk1]
 have hk2':IntKind.i64.wrap ((k:Int).tmod 64)=(s:Int):=by rw [IntWalk.rem_in _ _ (by omega),hk2,IntWalk.i64_in _ (by omega)]
 have Hk2:Hid (2 ^ k=B64 ^ d*2 ^ s):=by
  show _=_
  rw [show k=64*d+s by omega,Nat.pow_add,Nat.pow_mul];rfl
 have Hp:=ZZ hp;have La:=ZZ la;have En:=ZZ en;have hmk:=mk_words (p+d+1) ((p:Int)+(d:Int)+1) (by omega) (by omega);clear hp la en hd hs
 go_enter Tryz.func171,Tryz.ntmps171
 go_wp2
 go_loopw [17] (fun i wr=>∃(j:Nat) (r:List Nat),j≤p∧i=.int .i64 j∧r.length=p+d+1∧(∀d ∈ r,d<B64)∧BkU wr w.heap.size r∧Below w.heap.size w wr∧num B64 r=num B64 (xs.take j)*(B64 ^ d*2 ^ s)∧r.getD (j+d) 0<2 ^ s∧∀t,j+d<t→r.getD t 0=0) (fun i _=>p - (intOf i).toNat)
 case atStart=>
  refine⟨0,zs (p+d+1),Nat.zero_le _,rfl,zs_length _,zs_lt (by rw [B64_eq];omega) _,BkU.new _ _,ab _ _,by simp [zs,num_replicate_zero],?_,fun t _=>?_⟩
  ·have:(zs (p+d+1)).getD (0+d) 0=0:=by
    simp [zs,List.getD_eq_getElem?_getD,List.getElem?_replicate];split <;> rfl
   rw [this];exact Nat.pow_pos (by omega)
  ·simp [zs,List.getD_eq_getElem?_getD,List.getElem?_replicate];split <;> rfl
 case round=>
  obtain⟨j,r,hj,rfl,hr,hrl,hbk,hbel,hnum,hlo,hz⟩:=hrel;have Hr:=ZZ hr;have Hrl:=ZZ hrl;have Hbk:Hid (BkU wr w.heap.size r):=hbk;have Hnum:=ZZ hnum;have Hz:=ZZ hz;clear hr hrl hbk hnum hz
  by_cases hlt:j<p
  ·obtain⟨ba,oa,rfl,hca'⟩:=hA.u (by rw [Hp.out];omega)
   have ea:=aq hbel (hca' j (by rw [Hp.out];omega));have hxl:=getD_lt La.out (by rw [B64_eq];omega) j;have Htk:Hid (num B64 (xs.take (j+1))=num B64 (xs.take j)+B64 ^ j*xs.getD j 0):=num_take_le _ _ _;clear hca' hA;generalize xs.getD j 0=x at *;have hci:=Hbk.out.cell (j+d) (by rw [Hr.out];omega);have hfi:=Hbk.out.frozen (j+d);have ho:=getD_lt Hrl.out (by rw [B64_eq];omega) (j+d);have Hns:=ZZ (fun s=>num_set B64 r (j+d) s (by rw [Hr.out];omega));generalize r.getD (j+d) 0=o at *;obtain⟨L,H,hL,hH,hLH,hL1,hH1,hor⟩:=shift_parts hxl hs63;obtain⟨hor1,hor2⟩:=hor o hlo;obtain⟨v,hv⟩:∃v,v=o+L:=⟨_,rfl⟩
   have hw1:IntKind.u64.wrap ((x:Int)*2 ^ s)=(L:Int):=by
    rw [show (x:Int)*2 ^ s=((x*2 ^ s:Nat):Int) from by simp,Mul64.wrapM,hL];rfl
   have hw2:(x:Int) / 2 ^ (64 - s)=(H:Int):=by rw [hH];simp
   have hw3:bits .or .u64 (o:Int) (L:Int)=(v:Int):=by rw [bits_or_u64_nat o L ho hL1,hor1,hv]
   have Hset1:=ZZ (Hbk.out.set_ (j+d) v);have hset1:=Hset1.out;have hci2:=BkU.cell hset1 (j+d+1) (by rw [List.length_set,Hr.out];omega);have hfi2:=BkU.frozen hset1 (j+d+1);have Hset2:=ZZ (BkU.set_ hset1 (j+d+1) H);rw [getD_set_ne (by omega),Hz.out (j+d+1) (by omega)] at hci2;have Hv:=ZZ hv;have HLH:=ZZ hLH;have HH1:=ZZ hH1;have Hor2:Hid (v<B64):=by show _<_;rw [hv];exact hor2
   have HHB:Hid (H<B64):=by
    show _<_
    refine Nat.lt_of_lt_of_le hH1 ?_
    have:2 ^ s≤2 ^ 64:=Nat.pow_le_pow_right (by omega) (by omega)
    exact this
   clear hset1 hL hH hLH hL1 hH1 hor hor1 hor2 hv hxl ho hlo
   go_wp2
   go_region
   go_wp2
   go_roundw
   case rel=>
    refine⟨j+1,(r.set (j+d) v).set (j+d+1) H,by omega,by go_num,by rw [List.length_set,List.length_set,Hr.out],set_lt (set_lt Hrl.out Hor2.out _) HHB.out _,Hset2.out,?_,?_,?_,?_⟩
    ·exact((hbel.drew).setCell (Nat.le_refl _) _).setCell (Nat.le_refl _) _
    ·have h2:=num_set B64 (r.set (j+d) v) (j+d+1) H (by rw [List.length_set,Hr.out];omega)
     rw [getD_set_ne (by omega),Hz.out (j+d+1) (by omega),Nat.mul_zero,Nat.add_zero] at h2;have h1:=Hns.out v;rw [Nat.pow_add] at h1;rw [Nat.pow_succ,Nat.pow_add] at h2;rw [Htk.out];rw [Hv.out] at h1;rw [←Hv.out] at h1;exact up_step Hnum.out HLH.out (by rw [←Hv.out];exact h1) h2
    ·rw [show j+1+d=j+d+1 by omega]
     simp [List.getD_eq_getElem?_getD,List.getElem?_set,Hr.out]
     rw [if_pos (by omega)];exact HH1.out
    ·intro t ht
     rw [getD_set_ne (by omega),getD_set_ne (by omega)];exact Hz.out t (by omega)
   case measure=>simp [intOf];omega
  ·have hjp:j=p:=by omega
   subst hjp;have HC:=ZZ Hbk.out.cl;go_wp2_with fail;refine(cut_c _ r _ _ HC.out (j+d+1) Hr.out (by omega) (by omega)).mono ?_;rintro e w2 ⟨rfl,rfl⟩;go_wp2_with fail;go_ret;refine⟨⟨r,rfl,Hr.out,Hrl.out,Hbk.out,?_⟩,hbel⟩;rw [Hnum.out,num_take_all _ _ (by rw [Hp.out];omega),En.out,Hk2.out]
theorem down_parts {x y s:Nat} (hx:x<B64) (hy:y<B64) (hs:s<64):∃H L v:Nat,H=x / 2 ^ s∧L=y*2 ^ (64 - s) % B64∧H ||| L=v∧v<B64∧v=x / 2 ^ s+2 ^ (64 - s)*(y % 2 ^ s)∧H<B64∧L<B64:=by
 have e64:B64=2 ^ s*2 ^ (64 - s):=by rw [←Nat.pow_add,show s+(64 - s)=64 from by omega];rfl
 have hp:0<2 ^ s:=Nat.pow_pos (by omega);have hq:0<2 ^ (64 - s):=Nat.pow_pos (by omega);have hL:y*2 ^ (64 - s) % B64=y % 2 ^ s*2 ^ (64 - s):=by rw [e64,Nat.mul_mod_mul_right]
 have hm:y % 2 ^ s<2 ^ s:=Nat.mod_lt _ hp;have hH:x / 2 ^ s<2 ^ (64 - s):=by rw [Nat.div_lt_iff_lt_mul hp,Nat.mul_comm,←e64];exact hx
 have hB:0<B64:=by rw [B64_eq];omega
 refine⟨_,_,x / 2 ^ s+2 ^ (64 - s)*(y % 2 ^ s),rfl,rfl,?_,?_,rfl,?_,Nat.mod_lt _ hB⟩
 ·rw [hL,Nat.or_comm,Nat.mul_comm (y % _),←Nat.two_pow_add_eq_or_of_lt hH,Nat.add_comm]
 ·rw [e64]
  have:=Nat.mul_le_mul_left (2 ^ (64 - s)) (show y % 2 ^ s+1≤2 ^ s from hm)
  rw [Nat.mul_add,Nat.mul_comm _ (2 ^ s)] at this;omega
 ·exact Nat.lt_of_le_of_lt (Nat.div_le_self _ _) hx
theorem down_div {x N s:Nat} (hs:s<64):(x+B64*N) / 2 ^ s=(x / 2 ^ s+2 ^ (64 - s)*(N % 2 ^ s))+B64*(N / 2 ^ s):=by
 have e64:B64=2 ^ s*2 ^ (64 - s):=by rw [←Nat.pow_add,show s+(64 - s)=64 from by omega];rfl
 have hp:0<2 ^ s:=Nat.pow_pos (by omega)
 have h1:(x+B64*N) / 2 ^ s=x / 2 ^ s+2 ^ (64 - s)*N:=by
  rw [e64,Nat.mul_assoc,Nat.add_mul_div_left _ _ hp]
 rw [h1,e64]
 have:=Nat.div_add_mod N (2 ^ s)
 conv=>lhs;rw [←this]
 rw [Nat.mul_add];grind
theorem mod_pow_B {y N s:Nat} (hs:s<64):(y+B64*N) % 2 ^ s=y % 2 ^ s:=by
 have e64:B64=2 ^ s*2 ^ (64 - s):=by rw [←Nat.pow_add,show s+(64 - s)=64 from by omega];rfl
 rw [e64,Nat.mul_assoc,Nat.add_mul_mod_self_left]
theorem down_c (va:Value) (n k:Nat) (w:World) (ha:Wd w va n) (sa:Sm n) (hk:k≤70368744177664):Calls Tryz.prog 188 #[va,.int .i64 k] w fun e w'=>∃v,e=.returned v∧Wd w' v (n / 2 ^ k)∧Ext w w':=by
 obtain⟨A,ca,rfl,hca,hA⟩:=ha;have la:=dg_lt n;have en:=num_dg n;unfold Sm at sa;generalize dg n=xs at *;obtain⟨p,hp⟩:∃p,xs.length=p:=⟨_,rfl⟩;rw [hp] at hca sa ⊢;obtain⟨d,hd⟩:∃d,d=k / 64:=⟨_,rfl⟩;obtain⟨s,hs⟩:∃s,s=k % 64:=⟨_,rfl⟩;have hs63:s<64:=by omega
 have hdb:d≤1099511627776:=by omega
 have hk1:(k:Int) / 64=(d:Int):=by omega
 have hk2:(k:Int) % 64=(s:Int):=by omega
 have hk1':IntKind.i64.wrap ((k:Int).tdiv 64)=(d:Int):=by rw [IntWalk.i64_quo _ _ ⟨by omega,by omega,by omega⟩,hk1]
 have hk2':IntKind.i64.wrap ((k:Int).tmod 64)=(s:Int):=by rw [IntWalk.rem_in _ _ (by omega),hk2,IntWalk.i64_in _ (by omega)]
 have Hk2:Hid (2 ^ k=B64 ^ d*2 ^ s):=by
  show _=_
  rw [show k=64*d+s by omega,Nat.pow_add,Nat.pow_mul];rfl
 have Hp:=ZZ hp;have La:=ZZ la;have En:=ZZ en;clear hp la en hd hs
 by_cases hdp:d<p
 ·obtain⟨ba,oa,rfl,hca0⟩:=hA.u (by rw [Hp.out];omega)
  obtain⟨m,hm⟩:∃m,p=d+m:=⟨p - d,by omega⟩;subst hm;have hmk:=mk_words m (m:Int) rfl (by omega);have Hys:Hid ((xs.drop d).length=m):=by show _=_;rw [List.length_drop,Hp.out];omega
  have Hn:Hid (n / 2 ^ k=num B64 (xs.drop d) / 2 ^ s):=by
   show _=_
   rw [Hk2.out,←Nat.div_div_eq_div_mul,←En.out,num_drop B64 xs d (by rw [Hp.out];omega)];have h1:=num_lt B64 (xs.take d) (fun e he=>La.out e (List.mem_of_mem_take he));rw [List.length_take,Nat.min_eq_left (by rw [Hp.out];omega)] at h1;rw [Nat.add_mul_div_left _ _ (Nat.pow_pos (by rw [B64_eq];omega)),Nat.div_eq_of_lt h1,Nat.zero_add]
  have Hcy:Hid (∀j,j<m→w.cell? ⟨ba,oa+d+j,none⟩=some (.int .u64 (((xs.drop d).getD j 0:Nat):Int))):=fun j hj=>by
   have h:=hca0 (d+j) (by rw [Hp.out];omega);rw [←Nat.add_assoc] at h;rw [h];simp [List.getD_eq_getElem?_getD,List.getElem?_drop]
  have Ly:Hid (∀e ∈ xs.drop d,e<B64):=fun e he=>La.out e (List.mem_of_mem_drop he);clear hca0 hA;generalize xs.drop d=ys at *
  go_enter Tryz.func188,Tryz.ntmps188
  go_wp2
  go_loopw [22] (fun i wr=>∃(j:Nat) (r:List Nat),j≤m∧i=.int .i64 j∧r.length=m∧(∀d ∈ r,d<B64)∧BkU wr w.heap.size r∧Below w.heap.size w wr∧num B64 (r.take j)+B64 ^ j*(num B64 (ys.drop j) / 2 ^ s)=num B64 ys / 2 ^ s) (fun i _=>m - (intOf i).toNat)
  case atStart=>exact⟨0,zs m,Nat.zero_le _,rfl,zs_length _,zs_lt (by rw [B64_eq];omega) _,BkU.new _ _,ab _ _,by simp⟩
  case round=>
   obtain⟨j,r,hj,rfl,hr,hrl,hbk,hbel,hnum⟩:=hrel;have Hr:=ZZ hr;have Hrl:=ZZ hrl;have Hbk:Hid (BkU wr w.heap.size r):=hbk;have Hnum:=ZZ hnum;clear hr hrl hbk hnum
   by_cases hlt:j<m
   ·have ea:=aq hbel (Hcy.out j hlt)
    have hxl:=getD_lt Ly.out (by rw [B64_eq];omega) j;have Hdx:Hid (ys.drop j=ys.getD j 0 :: ys.drop (j+1)):=drop_getD ys j (by rw [Hys.out];omega);generalize ys.getD j 0=x at *;have hci:=Hbk.out.cell j (by rw [Hr.out];omega);have hfi:=Hbk.out.frozen j
    by_cases hl1:j+1<m
    ·have eb:=aq hbel (Hcy.out (j+1) hl1)
     have hyl:=getD_lt Ly.out (by rw [B64_eq];omega) (j+1);have Hdy:Hid (ys.drop (j+1)=ys.getD (j+1) 0 :: ys.drop (j+1+1)):=drop_getD ys (j+1) (by rw [Hys.out];omega);generalize ys.getD (j+1) 0=y at *;obtain⟨H,L,v,hH,hL,hor,hv,hve,hH1,hL1⟩:=down_parts hxl hyl hs63
     have hw1:IntKind.u64.wrap ((y:Int)*2 ^ (64 - s))=(L:Int):=by
      rw [show (y:Int)*2 ^ (64 - s)=((y*2 ^ (64 - s):Nat):Int) from by simp,Mul64.wrapM,hL];rfl
     have hw2:(x:Int) / 2 ^ s=(H:Int):=by rw [hH];simp
     have hw3:bits .or .u64 (H:Int) (L:Int)=(v:Int):=by rw [bits_or_u64_nat H L hH1 hL1,hor]
     have Hset1:=ZZ (Hbk.out.set_ j H);have hset1:=Hset1.out;have hci2:=BkU.cell hset1 j (by rw [List.length_set,Hr.out];omega);have hfi2:=BkU.frozen hset1 j;have Hset2:=ZZ (BkU.set_ hset1 j v);have hgs:(r.set j H).getD j 0=H:=by simp [List.getD_eq_getElem?_getD,Hr.out,hlt]
     rw [hgs] at hci2;have Hv:=ZZ hv;have Hve:=ZZ hve;clear hset1 hgs hH hL hor hv hve hH1 hL1 hxl hyl
     go_wp2
     go_region
     go_wp2
     go_roundw
     case rel=>
      refine⟨j+1,r.set j v,by omega,by go_num,by rw [List.length_set,Hr.out],set_lt Hrl.out Hv.out _,?_,?_,?_⟩
      ·have:=Hset2.out
       rw [List.set_set] at this;exact this
      ·exact((hbel.setCell (Nat.le_refl _) _).drew).setCell (Nat.le_refl _) _
      ·have h1:=Hnum.out
       rw [Hdx.out,num_cons,down_div hs63] at h1;rw [num_set_take _ _ _ _ (by rw [Hr.out];omega),Hve.out,Nat.pow_succ];have h2:num B64 (ys.drop (j+1)) % 2 ^ s=y % 2 ^ s:=by rw [Hdy.out,num_cons,mod_pow_B hs63]
       rw [h2] at h1;rw [←h1];grind
     case measure=>simp [intOf];omega
    ·obtain⟨H,L,v,hH,hL,hor,hv,hve,hH1,hL1⟩:=down_parts hxl (y:=0) (by rw [B64_eq];omega) hs63
     have hw2:(x:Int) / 2 ^ s=(H:Int):=by rw [hH];simp
     have Hset1:=ZZ (Hbk.out.set_ j H);have HH:=ZZ hH;have HH1:=ZZ hH1;have hjm:ys.drop (j+1)=[]:=List.drop_of_length_le (by rw [Hys.out];omega);have Hjm:=ZZ hjm;clear hH hL hor hv hve hH1 hL1 hxl hjm
     go_wp2
     go_roundw
     case rel=>
      refine⟨j+1,r.set j H,by omega,by go_num,by rw [List.length_set,Hr.out],set_lt Hrl.out HH1.out _,Hset1.out,hbel.setCell (Nat.le_refl _) _,?_⟩;have h1:=Hnum.out;rw [Hdx.out,Hjm.out,num_cons] at h1;rw [num_set_take _ _ _ _ (by rw [Hr.out];omega),HH.out,Hjm.out,←h1]
      simp
     case measure=>simp [intOf];omega
   ·have hjp:j=m:=by omega
    subst hjp;have HC:=ZZ Hbk.out.cl;go_wp2_with fail;refine(cut_c _ r _ _ HC.out j Hr.out (by omega) (by omega)).mono ?_;rintro e w2 ⟨rfl,rfl⟩;go_wp2_with fail;go_ret;refine⟨_,rfl,?_,hbel⟩;have h1:=Hnum.out;rw [List.drop_of_length_le (by rw [Hys.out];omega),num_take_all _ _ (by rw [Hr.out];omega),num_nil,Nat.zero_div,Nat.mul_zero,Nat.add_zero] at h1;rw [Hn.out,←h1];exact cut_w Hrl.out HC.out (by rw [Hr.out];omega)
 ·have hz:n / 2 ^ k=0:=by
   rw [Nat.div_eq_zero_iff]
   right
   rw [Hk2.out,←En.out];have h1:=num_lt B64 xs La.out;rw [Hp.out] at h1;have h2:B64 ^ p≤B64 ^ d:=Nat.pow_le_pow_right (by rw [B64_eq];omega) (by omega);have h3:B64 ^ d*1≤B64 ^ d*2 ^ s:=Nat.mul_le_mul_left _ (Nat.pow_pos (by omega));omega
  have Hz:=ZZ hz;clear hz hA
  go_enter Tryz.func188,Tryz.ntmps188
  go_wp2
  go_ret;refine⟨_,rfl,?_,ad _⟩
  rw [Hz.out];exact Wd.zero _
end Go.Proofs.YtpgdefgdboijlaaGreatDoor
namespace Go.Proofs.YtpgdefgdboijlaaGreatDoor
open Go.RowKit
def PkU (w:World) (g:Nat) (l:List Nat):Prop:=∃cs:Array Value,w.heap[g]?=some (.cells cs 135 (0,0))∧l.length≤cs.size∧∀i,i<l.length→cs[i]?=some (.int .u64 ((l.getD i 0:Nat):Int))
theorem BkU.pk {w:World} {g:Nat} {l:List Nat} (h:BkU w g l):PkU w g l:=
 ⟨_,h,by simp,fun i hi=>by simp [hi,u64,List.getD_eq_getElem?_getD]⟩
theorem PkU.lt {w:World} {g:Nat} {l:List Nat} (h:PkU w g l):g<w.heap.size:=by
 obtain⟨cs,h,_⟩:=h
 rcases Nat.lt_or_ge g w.heap.size with hlt|hge
 ·exact hlt
 ·rw [Array.getElem?_eq_none hge] at h;cases h
theorem PkU.cell {w:World} {g:Nat} {l:List Nat} (h:PkU w g l) (i:Nat) (hi:i<l.length):w.cell? ⟨g,i,none⟩=some (.int .u64 ((l.getD i 0:Nat):Int)):=by
 obtain⟨cs,h1,h2,h3⟩:=h;rw [cell_of_row w g i _ _ _ h1];exact h3 i hi
theorem PkU.frozen {w:World} {g:Nat} {l:List Nat} (h:PkU w g l) (i:Nat):w.frozen? ⟨g,i,none⟩=false:=by
 obtain⟨cs,h1,h2,h3⟩:=h;exact frozen_of_row w g i _ _ h1
theorem PkU.set_ {w:World} {g:Nat} {l:List Nat} (h:PkU w g l) (i v:Nat) (hi:i<l.length):PkU (w.setCell ⟨g,i,none⟩ (.int .u64 (v:Int))) g (l.set i v):=by
 obtain⟨cs,h1,h2,h3⟩:=h;refine⟨cs.setIfInBounds i (.int .u64 (v:Int)),?_,by simpa using h2,fun j hj=>?_⟩
 ·simp only [World.setCell,Array.getElem?_modify,h1];simp
 ·simp only [List.length_set] at hj
  rw [Array.getElem?_setIfInBounds]
  by_cases e:i=j
  ·subst e
   rw [if_pos rfl,if_pos (by omega)]
   simp [List.getD_eq_getElem?_getD,hi]
  ·rw [if_neg e,h3 j hj,getD_set_ne e]
theorem PkU.same {w w':World} {g:Nat} {l:List Nat} (h:PkU w g l) (e:w'.heap[g]?=w.heap[g]?):PkU w' g l:=by
 obtain⟨cs,h1,h2,h3⟩:=h;exact⟨cs,e.trans h1,h2,h3⟩
theorem PkU.ext {w w':World} {g:Nat} {l:List Nat} (h:PkU w g l) (k:Ext w w'):PkU w' g l:=h.same (k.block g h.lt)
theorem PkU.take_ {w:World} {g:Nat} {l:List Nat} (h:PkU w g l) (k:Nat):PkU w g (l.take k):=by
 obtain⟨cs,h1,h2,h3⟩:=h;refine⟨cs,h1,by simp;omega,fun i hi=>?_⟩;rw [List.length_take] at hi;have h4:i<k:=by omega
 rw [h3 i (by omega)]
 simp [List.getD_eq_getElem?_getD,h4]
theorem PkU.cl {w:World} {g:Nat} {l:List Nat} (h:PkU w g l):Cl w (some ⟨g,0,none⟩) (l.map u64):=by
 obtain⟨cs,h1,h2,h3⟩:=h
 exact cl_block h1 (fun j hj=>by
  simp only [List.length_map] at hj
  rw [Nat.zero_add,h3 j hj,getD_map_u64 l j hj])
theorem grown_setCell {w w':World} {g:Nat} (h:w.grownBy w' (some g)) (i:Nat) (v:Value):w.grownBy (w'.setCell ⟨g,i,none⟩ v) (some g):=
 ⟨h.os,h.tape,h.output,by simpa [World.setCell] using h.size,fun k hk hne=>(Below.heap_setCell w' _ v k (by rintro rfl;exact hne rfl)).trans (h.block k hk hne)⟩
theorem mul_bounds2 {B x y cy hi lo s1 c1:Nat} (hx:x<B) (hy:y<B) (hcy:cy<B) (h0:hi*B+lo=x*y) (h1:s1+B*c1=lo+cy+0):hi+c1<B∧s1+B*(hi+c1)=x*y+cy:=by
 have e:s1+B*(hi+c1)=x*y+cy:=by grind
 have hxy:x*y≤(B - 1)*(B - 1):=Nat.mul_le_mul (by omega) (by omega);refine⟨?_,e⟩
 rcases Nat.lt_or_ge (hi+c1) B with h|h
 ·exact h
 ·have h3:B*B≤B*(hi+c1):=Nat.mul_le_mul_left _ h
  obtain⟨b,rfl⟩:∃b,B=b+1:=⟨B - 1,by omega⟩
  simp only [Nat.add_sub_cancel] at hxy
  have h4:(b+1)*(b+1)=b*b+2*b+1:=by grind
  omega
theorem take_step {R R' N P Q B t x old new cy bw cy' bw' s:Nat} {V:Nat} (h:R+P*(t*V)=N+P*Q*(cy+bw)) (h1:s+B*cy'=x*t+cy) (h2:new+s+bw=old+B*bw') (h3:R'+P*Q*old=R+P*Q*new):R'+P*(t*(V+Q*x))=N+P*(Q*B)*(cy'+bw'):=by
 have h4:P*Q*(new+s+bw)=P*Q*(old+B*bw'):=by rw [h2]
 have h5:P*Q*(s+B*cy')=P*Q*(x*t+cy):=by rw [h1]
 clear h1 h2;grind
theorem give_step {R R' N P Q B t x old new cy mr cy' mr' s:Nat} {V:Nat} (h:R+P*Q*(cy+mr)=N+P*(t*V)) (h1:s+B*cy'=x*t+cy) (h2:new+B*mr'=old+s+mr) (h3:R'+P*Q*old=R+P*Q*new):R'+P*(Q*B)*(cy'+mr')=N+P*(t*(V+Q*x)):=by
 have h4:P*Q*(new+B*mr')=P*Q*(old+s+mr):=by rw [h2]
 have h5:P*Q*(s+B*cy')=P*Q*(x*t+cy):=by rw [h1]
 clear h1 h2;grind
theorem take_last {R R' N P Q B V t old new cy bw bw':Nat} (h:R+P*(t*V)=N+P*Q*(cy+bw)) (h2:new+cy+bw=old+B*bw') (h3:R'+P*Q*old=R+P*Q*new):R'+P*(t*V)=N+P*(Q*B)*bw':=by
 have h4:P*Q*(new+cy+bw)=P*Q*(old+B*bw'):=by rw [h2]
 clear h2;grind
theorem give_last {R R' N P Q B V t old new cy bw bw':Nat} (h:R+P*Q*(cy+bw)=N+P*(t*V)) (h2:new+B*bw'=old+cy+bw) (h3:R'+P*Q*old=R+P*Q*new):R'+P*(Q*B)*bw'=N+P*(t*V):=by
 have h4:P*Q*(new+B*bw')=P*Q*(old+cy+bw):=by rw [h2]
 clear h2;grind
theorem take_c (g o nu cu gv cv n t:Nat) (us vs:List Nat) (w:World) (hU:PkU w g us) (hus:∀d ∈ us,d<B64) (ho:o+n+1≤us.length) (hnu:n+1≤nu) (hou:us.length≤35184372088832) (hV:Cl w (some ⟨gv,0,none⟩) (vs.map u64)) (hvs:∀d ∈ vs,d<B64) (hn:vs.length=n) (hne:gv≠g) (ht:t<B64):Calls Tryz.prog 186 #[.slice (some ⟨g,o,none⟩) nu cu,.slice (some ⟨gv,0,none⟩) n cv,.int .u64 t] w fun e w'=>∃(us':List Nat) (b:Bool),e=.returned (.bool b)∧us'.length=us.length∧(∀d ∈ us',d<B64)∧PkU w' g us'∧w.grownBy w' (some g)∧(∀i,i<o∨o+n<i→us'.getD i 0=us.getD i 0)∧num B64 us'+B64 ^ o*(t*num B64 vs)=num B64 us+B64 ^ (o+n+1)*(if b then 1 else 0):=by
 have HV:Hid (∀j,j<n→w.cell? ⟨gv,j,none⟩=some (.int .u64 ((vs.getD j 0:Nat):Int))):=fun j hj=>by
  obtain⟨b,o',e,hc⟩:=hV.u (by rw [hn];omega)
  simp only [Option.some.injEq,Addr.mk.injEq,and_true] at e
  obtain⟨rfl,rfl⟩:=e
  have:=hc j (by rw [hn];exact hj)
  simpa using this
 have Hn:=ZZ hn;have Hus:=ZZ hus;have Hvs:=ZZ hvs;have Ht:=ZZ ht;have HU:=ZZ hU;have hgl:=hU.lt;clear hn hus hvs ht hU hV
 go_enter Tryz.func186,Tryz.ntmps186
 go_wp2
 go_loopw [7,8,16] (fun c b i wr=>∃(k cy bw:Nat) (r:List Nat),k≤n∧i=.int .i64 k∧c=.int .u64 cy∧b=.int .u64 bw∧cy<B64∧bw≤1∧r.length=us.length∧(∀d ∈ r,d<B64)∧PkU wr g r∧w.grownBy wr (some g)∧(∀i,i<o∨o+n<i→r.getD i 0=us.getD i 0)∧num B64 r+B64 ^ o*(t*num B64 (vs.take k))=num B64 us+B64 ^ o*B64 ^ k*(cy+bw)) (fun _ _ i _=>n - (intOf i).toNat)
 case atStart=>exact⟨0,0,0,us,Nat.zero_le _,rfl,rfl,rfl,by rw [B64_eq];omega,by omega,rfl,Hus.out,HU.out,World.grownBy.refl _ _,fun _ _=>rfl,by simp⟩
 case round=>
  obtain⟨k,cy,bw,r,hk,rfl,rfl,rfl,hcy,hbw,hr,hrl,hpk,hgr,hout,hnum⟩:=hrel;have Hr:=ZZ hr;have Hrl:=ZZ hrl;have Hpk:=ZZ hpk;have Hnum:=ZZ hnum;have Hout:=ZZ hout;have Hcy:=ZZ hcy;clear hr hrl hpk hnum hout hcy
  by_cases hlt:k<n
  ·have ea:wr.cell? ⟨gv,k,none⟩=some (.int .u64 ((vs.getD k 0:Nat):Int)):=hgr.cell (HV.out k hlt) (by simpa using hne)
   have hxl:=getD_lt Hvs.out (by rw [B64_eq];omega) k;have Htk:Hid (num B64 (vs.take (k+1))=num B64 (vs.take k)+B64 ^ k*vs.getD k 0):=num_take_le _ _ _;generalize vs.getD k 0=x at *;have hci:=Hpk.out.cell (o+k) (by rw [Hr.out];omega);have hfi:=Hpk.out.frozen (o+k);have hol:=getD_lt Hrl.out (by rw [B64_eq];omega) (o+k);have Hns:=ZZ (fun s=>num_set B64 r (o+k) s (by rw [Hr.out];omega));generalize r.getD (o+k) 0=old at *;have Hxl:=ZZ hxl;have Hol:=ZZ hol;clear hxl hol;go_wp2_with fail;refine(mul64_c x t Hxl.out Ht.out _).mono ?_;rintro e w1 ⟨⟨hi,lo,rfl,hhl,hhi,hlo⟩,rfl⟩;obtain⟨s1,c1,hs1,hc1,hsc1,hrun1⟩:=run_add lo cy 0 (by omega) hlo Hcy.out;obtain⟨s2,c2,hs2,hc2,hsc2,hrun2⟩:=run_sub old s1 bw hbw Hol.out hs1;have hrun1':∀w,(callFunc 152 #[.int .u64 lo,.int .u64 cy,.int .u64 0]).run Tryz.prog w=.ok (.value (.tuple #[.int .u64 s1,.int .u64 c1])) w:=hrun1;obtain⟨b1,b2⟩:=mul_bounds2 Hxl.out Ht.out Hcy.out hhl hsc1;obtain⟨h2,hh2⟩:∃z,z=hi+c1:=⟨_,rfl⟩;rw [←hh2] at b1 b2
   have hw1:IntKind.u64.wrap ((hi:Int)+(c1:Int))=((h2:Nat):Int):=by
    rw [IntWalk.u64_in _ (by rw [B64_eq] at b1;omega)];omega
   have B1:=ZZ b1;have B2:=ZZ b2;have Hs2:=ZZ hs2;have Hsc2:=ZZ hsc2;have Hset:=ZZ (Hpk.out.set_ (o+k) s2 (by rw [Hr.out];omega));clear hrun1 hsc1 hsc2 b1 b2 hh2 hs1 hs2 hhl hhi hlo hc1
   go_wp2
   go_roundw
   case rel=>
    refine⟨k+1,h2,c2,r.set (o+k) s2,by omega,by go_num,rfl,rfl,B1.out,hc2,by rw [List.length_set,Hr.out],set_lt Hrl.out Hs2.out _,Hset.out,grown_setCell hgr _ _,fun i hi=>by rw [getD_set_ne (by omega)];exact Hout.out i hi,?_⟩;have h5:=Hns.out s2;rw [Nat.pow_add] at h5;rw [Htk.out,Nat.pow_succ];exact take_step Hnum.out B2.out Hsc2.out h5
   case measure=>simp [intOf];omega
  ·have hkn:k=n:=by omega
   subst hkn;have hci:=Hpk.out.cell (o+k) (by rw [Hr.out];omega);have hfi:=Hpk.out.frozen (o+k);have hol:=getD_lt Hrl.out (by rw [B64_eq];omega) (o+k);have Hns:=ZZ (fun s=>num_set B64 r (o+k) s (by rw [Hr.out];omega));generalize r.getD (o+k) 0=old at *;obtain⟨s2,c2,hs2,hc2,hsc2,hrun2⟩:=run_sub old cy bw hbw hol Hcy.out;have Hs2:=ZZ hs2;have Hsc2:=ZZ hsc2;have Hset:=ZZ (Hpk.out.set_ (o+k) s2 (by rw [Hr.out];omega))
   have hfin:num B64 (r.set (o+k) s2)+B64 ^ o*(t*num B64 vs)=num B64 us+B64 ^ (o+k+1)*c2:=by
    have h5:=num_set B64 r (o+k) s2 (by rw [Hr.out];omega);have h5:=Hns.out s2;rw [Nat.pow_add] at h5;have h6:=Hnum.out;rw [num_take_all B64 vs (by rw [Hn.out];omega)] at h6;rw [show o+k+1=o+(k+1) by omega,Nat.pow_add,Nat.pow_succ];exact take_last h6 hsc2 h5
   have Hfin:=ZZ hfin;have hbit:c2=0∨c2=1:=by omega
   clear hsc2 hs2 hol hfin
   rcases hbit with rfl|rfl
   ·go_wp2
    go_ret;refine⟨r.set (o+k) s2,false,by first|rfl|simp,by rw [List.length_set,Hr.out],set_lt Hrl.out Hs2.out _,Hset.out,grown_setCell hgr _ _,fun i hi=>by rw [getD_set_ne (by omega)];exact Hout.out i hi,?_⟩
    rw [if_neg (by decide)];exact Hfin.out
   ·go_wp2
    go_ret;refine⟨r.set (o+k) s2,true,by first|rfl|simp,by rw [List.length_set,Hr.out],set_lt Hrl.out Hs2.out _,Hset.out,grown_setCell hgr _ _,fun i hi=>by rw [getD_set_ne (by omega)];exact Hout.out i hi,?_⟩
    rw [if_pos rfl];exact Hfin.out
theorem give_c (g o nu cu gv cv n t:Nat) (us vs:List Nat) (w:World) (hU:PkU w g us) (hus:∀d ∈ us,d<B64) (ho:o+n+1≤us.length) (hnu:n+1≤nu) (hou:us.length≤35184372088832) (hV:Cl w (some ⟨gv,0,none⟩) (vs.map u64)) (hvs:∀d ∈ vs,d<B64) (hn:vs.length=n) (hne:gv≠g) (ht:t<B64):Calls Tryz.prog 187 #[.slice (some ⟨g,o,none⟩) nu cu,.slice (some ⟨gv,0,none⟩) n cv,.int .u64 t] w fun e w'=>∃(us':List Nat) (b:Bool),e=.returned (.tuple #[])∧us'.length=us.length∧(∀d ∈ us',d<B64)∧PkU w' g us'∧w.grownBy w' (some g)∧(∀i,i<o∨o+n<i→us'.getD i 0=us.getD i 0)∧num B64 us'+B64 ^ (o+n+1)*(if b then 1 else 0)=num B64 us+B64 ^ o*(t*num B64 vs):=by
 have HV:Hid (∀j,j<n→w.cell? ⟨gv,j,none⟩=some (.int .u64 ((vs.getD j 0:Nat):Int))):=fun j hj=>by
  obtain⟨b,o',e,hc⟩:=hV.u (by rw [hn];omega)
  simp only [Option.some.injEq,Addr.mk.injEq,and_true] at e
  obtain⟨rfl,rfl⟩:=e
  have:=hc j (by rw [hn];exact hj)
  simpa using this
 have Hn:=ZZ hn;have Hus:=ZZ hus;have Hvs:=ZZ hvs;have Ht:=ZZ ht;have HU:=ZZ hU;have hgl:=hU.lt;clear hn hus hvs ht hU hV
 go_enter Tryz.func187,Tryz.ntmps187
 go_wp2
 go_loopw [6,7,15] (fun c b i wr=>∃(k cy bw:Nat) (r:List Nat),k≤n∧i=.int .i64 k∧c=.int .u64 cy∧b=.int .u64 bw∧cy<B64∧bw≤1∧r.length=us.length∧(∀d ∈ r,d<B64)∧PkU wr g r∧w.grownBy wr (some g)∧(∀i,i<o∨o+n<i→r.getD i 0=us.getD i 0)∧num B64 r+B64 ^ o*B64 ^ k*(cy+bw)=num B64 us+B64 ^ o*(t*num B64 (vs.take k))) (fun _ _ i _=>n - (intOf i).toNat)
 case atStart=>exact⟨0,0,0,us,Nat.zero_le _,rfl,rfl,rfl,by rw [B64_eq];omega,by omega,rfl,Hus.out,HU.out,World.grownBy.refl _ _,fun _ _=>rfl,by simp⟩
 case round=>
  obtain⟨k,cy,bw,r,hk,rfl,rfl,rfl,hcy,hbw,hr,hrl,hpk,hgr,hout,hnum⟩:=hrel;have Hr:=ZZ hr;have Hrl:=ZZ hrl;have Hpk:=ZZ hpk;have Hnum:=ZZ hnum;have Hout:=ZZ hout;have Hcy:=ZZ hcy;clear hr hrl hpk hnum hout hcy
  by_cases hlt:k<n
  ·have ea:wr.cell? ⟨gv,k,none⟩=some (.int .u64 ((vs.getD k 0:Nat):Int)):=hgr.cell (HV.out k hlt) (by simpa using hne)
   have hxl:=getD_lt Hvs.out (by rw [B64_eq];omega) k;have Htk:Hid (num B64 (vs.take (k+1))=num B64 (vs.take k)+B64 ^ k*vs.getD k 0):=num_take_le _ _ _;generalize vs.getD k 0=x at *;have hci:=Hpk.out.cell (o+k) (by rw [Hr.out];omega);have hfi:=Hpk.out.frozen (o+k);have hol:=getD_lt Hrl.out (by rw [B64_eq];omega) (o+k);have Hns:=ZZ (fun s=>num_set B64 r (o+k) s (by rw [Hr.out];omega));generalize r.getD (o+k) 0=old at *;have Hxl:=ZZ hxl;have Hol:=ZZ hol;clear hxl hol;go_wp2_with fail;refine(mul64_c x t Hxl.out Ht.out _).mono ?_;rintro e w1 ⟨⟨hi,lo,rfl,hhl,hhi,hlo⟩,rfl⟩;obtain⟨s1,c1,hs1,hc1,hsc1,hrun1⟩:=run_add lo cy 0 (by omega) hlo Hcy.out;obtain⟨s2,c2,hs2,hc2,hsc2,hrun2⟩:=run_add old s1 bw hbw Hol.out hs1;have hrun1':∀w,(callFunc 152 #[.int .u64 lo,.int .u64 cy,.int .u64 0]).run Tryz.prog w=.ok (.value (.tuple #[.int .u64 s1,.int .u64 c1])) w:=hrun1;obtain⟨b1,b2⟩:=mul_bounds2 Hxl.out Ht.out Hcy.out hhl hsc1;obtain⟨h2,hh2⟩:∃z,z=hi+c1:=⟨_,rfl⟩;rw [←hh2] at b1 b2
   have hw1:IntKind.u64.wrap ((hi:Int)+(c1:Int))=((h2:Nat):Int):=by
    rw [IntWalk.u64_in _ (by rw [B64_eq] at b1;omega)];omega
   have B1:=ZZ b1;have B2:=ZZ b2;have Hs2:=ZZ hs2;have Hsc2:=ZZ hsc2;have Hset:=ZZ (Hpk.out.set_ (o+k) s2 (by rw [Hr.out];omega));clear hrun1 hsc1 hsc2 b1 b2 hh2 hs1 hs2 hhl hhi hlo hc1
   go_wp2
   go_roundw
   case rel=>
    refine⟨k+1,h2,c2,r.set (o+k) s2,by omega,by go_num,rfl,rfl,B1.out,hc2,by rw [List.length_set,Hr.out],set_lt Hrl.out Hs2.out _,Hset.out,grown_setCell hgr _ _,fun i hi=>by rw [getD_set_ne (by omega)];exact Hout.out i hi,?_⟩;have h5:=Hns.out s2;rw [Nat.pow_add] at h5;rw [Htk.out,Nat.pow_succ];exact give_step Hnum.out B2.out Hsc2.out h5
   case measure=>simp [intOf];omega
  ·have hkn:k=n:=by omega
   subst hkn;have hci:=Hpk.out.cell (o+k) (by rw [Hr.out];omega);have hfi:=Hpk.out.frozen (o+k);have hol:=getD_lt Hrl.out (by rw [B64_eq];omega) (o+k);have Hns:=ZZ (fun s=>num_set B64 r (o+k) s (by rw [Hr.out];omega));generalize r.getD (o+k) 0=old at *;obtain⟨s2,c2,hs2,hc2,hsc2,hrun2⟩:=run_add old cy bw hbw hol Hcy.out;have Hs2:=ZZ hs2;have Hsc2:=ZZ hsc2;have Hset:=ZZ (Hpk.out.set_ (o+k) s2 (by rw [Hr.out];omega))
   have hfin:num B64 (r.set (o+k) s2)+B64 ^ (o+k+1)*c2=num B64 us+B64 ^ o*(t*num B64 vs):=by
    have h5:=num_set B64 r (o+k) s2 (by rw [Hr.out];omega);have h5:=Hns.out s2;rw [Nat.pow_add] at h5;have h6:=Hnum.out;rw [num_take_all B64 vs (by rw [Hn.out];omega)] at h6;rw [show o+k+1=o+(k+1) by omega,Nat.pow_add,Nat.pow_succ];exact give_last h6 hsc2 h5
   have Hfin:=ZZ hfin;have hbit:c2=0∨c2=1:=by omega
   clear hsc2 hs2 hol hfin
   rcases hbit with rfl|rfl
   ·go_wp2
    go_end0
    refine⟨r.set (o+k) s2,false,by first|rfl|simp,by rw [List.length_set,Hr.out],set_lt Hrl.out Hs2.out _,Hset.out,grown_setCell hgr _ _,fun i hi=>by rw [getD_set_ne (by omega)];exact Hout.out i hi,?_⟩;rw [if_neg (by decide)];exact Hfin.out
   ·go_wp2
    go_end0
    refine⟨r.set (o+k) s2,true,by first|rfl|simp,by rw [List.length_set,Hr.out],set_lt Hrl.out Hs2.out _,Hset.out,grown_setCell hgr _ _,fun i hi=>by rw [getD_set_ne (by omega)];exact Hout.out i hi,?_⟩;rw [if_pos rfl];exact Hfin.out
end Go.Proofs.YtpgdefgdboijlaaGreatDoor
namespace Go.Proofs.YtpgdefgdboijlaaGreatDoor
open Go.RowKit
def DivR (m n:Nat) (w w':World) (e:Ending):Prop:=∃q r:Value,e=.returned (.tuple #[q,r])∧Wd w' q (m / n)∧Wd w' r (m % n)∧Ext w w'
theorem div_less (va vb:Value) (m n:Nat) (w:World) (ha:Wd w va m) (hb:Wd w vb n) (sa:Sm m) (sb:Sm n) (hlt:m<n):Calls Tryz.prog 149 #[va,vb] w fun e w'=>DivR m n w w' e:=by
 have Ha:=ZZ ha;have hc:=cmp_c va vb m n w ha hb sa sb;obtain⟨A,ca,rfl,hca,hA⟩:=ha;obtain⟨B,cb,rfl,hcb,hB⟩:=hb;unfold Sm at sa sb;generalize (dg m).length=p at *;generalize (dg n).length=q at *;have Hc:=ZZ hc;clear hA hB hc
 go_enter Tryz.func149,Tryz.ntmps149
 go_wp2_with fail;refine Hc.out.mono ?_
 rintro e w1 ⟨⟨c,rfl,h1,h2⟩,z,rfl⟩;have h3:c<0:=h1.2 hlt;clear h1 h2;go_wp2_with fail
 go_ret2
 refine⟨_,_,rfl,?_,?_,aA _ _⟩
 ·rw [Nat.div_eq_of_lt hlt];exact Wd.zero _
 ·rw [Nat.mod_eq_of_lt hlt];exact Ha.out.mono (aA _ _)
theorem div_one (va vb:Value) (m n:Nat) (w:World) (ha:Wd w va m) (hb:Wd w vb n) (sa:Sm m) (hle:n≤m) (h1:(dg n).length=1) (h0:0<n):Calls Tryz.prog 149 #[va,vb] w fun e w'=>DivR m n w w' e:=by
 have Ha:=ZZ ha;have hc:=cmp_c va vb m n w ha hb sa (by unfold Sm;omega)
 have e1:(dg n).getD 0 0=n:=by
  have e:=num_dg n
  match h:dg n,h1 with
  | [d],_=>rw [h] at e;simpa using e
 have hnB:n<B64:=by rw [←e1];exact getD_lt (dg_lt n) (by rw [B64_eq];omega) 0
 have Sa:=ZZ sa;obtain⟨A,ca,rfl,hca,hA⟩:=ha;obtain⟨B,cb,rfl,hcb,hB⟩:=hb;obtain⟨bb,ob,rfl,hcb'⟩:=hB.u (by omega)
 have hcell:w.cell? ⟨bb,ob,none⟩=some (.int .u64 (n:Int)):=by
  have:=hcb' 0 (by omega)
  rw [e1] at this;simpa using this
 unfold Sm at sa;rw [h1] at hcb hc ⊢;generalize (dg m).length=p at *;have Hc:=ZZ hc;have HnB:=ZZ hnB;clear hA hB hc hcb' e1 h1 hnB
 go_enter Tryz.func149,Tryz.ntmps149
 go_wp2_with fail;refine Hc.out.mono ?_
 rintro e w1 ⟨⟨c,rfl,h1,h2⟩,z,rfl⟩;have h3:¬ c<0:=fun h=>by have:=h1.1 h;omega
 clear h1 h2;go_wp2_with fail;refine(by1_c _ m n _ (Ha.out.mono (aA _ _)) Sa.out h0 HnB.out).mono ?_;rintro e w2 ⟨⟨v,r,rfl,hr,hv⟩,hext⟩;have hext':=al (aA w z) hext;have Hv:=ZZ hv;have Hr:=ZZ hr;clear hv hr hext;go_wp2_with fail;refine(word_c r (by rw [Hr.out];exact Nat.lt_trans (Nat.mod_lt _ h0) HnB.out) _).mono ?_;rintro e w3 ⟨v3,rfl,hv3,hext3⟩;have hext'':=al hext' hext3;go_wp2_with fail
 go_ret2
 refine⟨_,_,rfl,Hv.out.mono hext3,?_,hext''⟩;rw [←Hr.out];exact hv3
end Go.Proofs.YtpgdefgdboijlaaGreatDoor
