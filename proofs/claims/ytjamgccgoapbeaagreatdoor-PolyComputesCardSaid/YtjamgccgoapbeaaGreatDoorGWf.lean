/- The program's natural numbers: dividing by one word, size, shifting. The program's natural numbers: shifting. A region that draws its order and whose last operation stores over cells that it has loaded. -/
import Derived.Test.YtjamgccgoapbeaaGreatDoorGWd
import Derived.Test.YtjamgccgoapbeaaGreatDoorGWa
import Derived.Deep.RegionHeld3
set_option linter.unusedVariables false
set_option maxRecDepth 100000
set_option maxHeartbeats 64000000
namespace Go.Proofs.YtjamgccgoapbeaaGreatDoor
open Go.RowKit
theorem drop_set_self (l:List Nat) (k v:Nat) (h:k<l.length):(l.set k v).drop k=v :: l.drop (k+1):=by
 rw [List.drop_eq_getElem_cons (by simpa using h)]
 simp [List.drop_set]
theorem drop_getD (l:List Nat) (k:Nat) (h:k<l.length):l.drop k=l.getD k 0 :: l.drop (k+1):=by
 rw [List.drop_eq_getElem_cons h];simp [List.getD_eq_getElem?_getD,h]
theorem by1_step {B N M q b r a r' c:Nat} (h:M*b+r=N) (hd:q*b+r'=r*B+a):(q+B*M)*b+r'=a+B*N:=by subst h;grind
theorem by1_c (va:Value) (n b:Nat) (w:World) (ha:Wd w va n) (sa:Sm n) (h0:0<b) (hb:b<B64):Calls Tryz.prog 110 #[va,.int .u64 b] w fun e w'=>(∃v r:_,e=.returned (.tuple #[v,.int .u64 ((r:Nat):Int)])∧r=n % b∧Wd w' v (n / b))∧Ext w w':=by
 obtain⟨A,ca,rfl,hca,hA⟩:=ha;have la:=dg_lt n;have en:=num_dg n;unfold Sm at sa;generalize dg n=xs at *;obtain⟨p,hp⟩:∃p,xs.length=p:=⟨_,rfl⟩;rw [hp] at hca sa ⊢;have Hp:=ZZ hp;have La:=ZZ la;have En:=ZZ en;have Hb:=ZZ hb;have hmk:=mk_words p (p:Int) rfl (by omega);clear hp la en hb
 go_enter Tryz.func110,Tryz.ntmps110
 go_wp2
 go_loopw [7,8] (fun c i wr=>∃(k rest:Nat) (r:List Nat),k≤p∧i=.int .i64 ((k:Int) - 1)∧c=.int .u64 rest∧rest<b∧r.length=p∧(∀d ∈ r,d<B64)∧BkU wr w.heap.size r∧Below w.heap.size w wr∧num B64 (r.drop k)*b+rest=num B64 (xs.drop k)) (fun _ i _=>(intOf i+1).toNat)
 case atStart=>exact⟨p,0,zs p,Nat.le_refl _,rfl,rfl,h0,zs_length _,zs_lt (by rw [B64_eq];omega) _,BkU.new _ _,ab _ _,by
  rw [List.drop_of_length_le (by rw [zs_length];omega),List.drop_of_length_le (by rw [Hp.out];omega)];simp⟩
 case round=>
  obtain⟨k,rest,r,hk,rfl,rfl,hrest,hr,hrl,hbk,hbel,hnum⟩:=hrel;have Hr:=ZZ hr;have Hrl:=ZZ hrl;have Hbk:Hid (BkU wr w.heap.size r):=hbk;have Hnum:=ZZ hnum;clear hr hrl hbk hnum
  by_cases hz:k=0
  ·subst hz
   have HC:=ZZ Hbk.out.cl;go_wp2_with fail;refine(cut_c _ r _ _ HC.out p Hr.out (by omega) (by omega)).mono ?_;rintro e w2 ⟨rfl,rfl⟩;go_wp2_with fail
   go_ret2
   have h1:=Hnum.out
   simp only [List.drop_zero] at h1
   rw [En.out] at h1
   have h2:n / b=num B64 r∧n % b=rest:=by
    rw [←h1,Nat.mul_comm]
    constructor
    ·rw [Nat.mul_add_div h0,Nat.div_eq_of_lt hrest,Nat.add_zero]
    ·rw [Nat.mul_add_mod,Nat.mod_eq_of_lt hrest]
   refine⟨⟨_,rest,rfl,h2.2.symm,?_⟩,hbel⟩;rw [h2.1];exact cut_w Hrl.out HC.out (by rw [Hr.out];omega)
  ·obtain⟨k,rfl⟩:∃j,k=j+1:=⟨k - 1,by omega⟩
   obtain⟨ba,oa,rfl,hca'⟩:=hA.u (by rw [Hp.out];omega);have ea:=ar hbel (hca' k (by rw [Hp.out];omega));have hxl:=getD_lt La.out (by rw [B64_eq];omega) k;have Hdx:Hid (xs.drop k=xs.getD k 0 :: xs.drop (k+1)):=drop_getD xs k (by rw [Hp.out];omega);clear hca' hA hz;generalize xs.getD k 0=x at *;have Hxl:=ZZ hxl;clear hxl;go_wp2_with fail;refine(div64_c rest x b hrest Hxl.out Hb.out _).mono ?_;rintro e w1 ⟨⟨q,s,rfl,hqs,hs,hq⟩,hext⟩;have hbel1:=hbel.trans (hext.mono hbel.size);have Hbk1:Hid (BkU w1 w.heap.size r):=Hbk.out.ext hext;have hci:=Hbk1.out.cell k (by rw [Hr.out];omega);have hfi:=Hbk1.out.frozen k;have Hset:=ZZ (Hbk1.out.set_ k q);have Hqs:=ZZ hqs;have Hq:=ZZ hq;clear hqs hq ea;go_wp2_with fail
   go_roundw
   case rel=>
    refine⟨k,s,r.set k q,by omega,by simp,rfl,hs,by rw [List.length_set,Hr.out],set_lt Hrl.out Hq.out k,Hset.out,hbel1.setCell (Nat.le_refl _) _,?_⟩;rw [drop_set_self r k q (by rw [Hr.out];omega),Hdx.out,num_cons,num_cons];exact by1_step (c:=0) Hnum.out Hqs.out
   case measure=>simp [intOf]
theorem dg_length_size {n:Nat} (h0:0<n):(dg n).getD ((dg n).length - 1) 0<B64∧0<(dg n).getD ((dg n).length - 1) 0∧0<(dg n).length∧n=num B64 ((dg n).take ((dg n).length - 1))+B64 ^ ((dg n).length - 1)*(dg n).getD ((dg n).length - 1) 0∧num B64 ((dg n).take ((dg n).length - 1))<B64 ^ ((dg n).length - 1):=by
 have h1:=dg_norm n;have h2:dg n≠[]:=dig_ne_nil B64_two h0;have h3:0<(dg n).length:=List.length_pos_iff.2 h2;have e:=num_dg n;generalize dg n=l at *;have h4:=num_take_succ B64 l (l.length - 1) (by omega);rw [show l.length - 1+1=l.length by omega,List.take_length,e] at h4;refine⟨getD_lt h1.lt (by rw [B64_eq];omega) _,?_,h3,h4,?_⟩
 ·rcases Nat.eq_zero_or_pos (l.getD (l.length - 1) 0) with h5|h5
  ·exfalso
   apply h1.last
   rw [List.getLast?_eq_getElem?];rw [List.getD_eq_getElem?_getD] at h5;rw [List.getElem?_eq_getElem (by omega)] at h5 ⊢
   simpa using h5
  ·exact h5
 ·have:=num_lt B64 (l.take (l.length - 1)) (fun d hd=>h1.lt d (List.mem_of_mem_take hd))
  rwa [List.length_take,Nat.min_eq_left (by omega)] at this
def bl (n:Nat):Nat:=if n=0 then 0 else Nat.log2 n+1
theorem bl_unique {n k:Nat} (h1:n<2 ^ k) (h2:k=0∨2 ^ (k - 1)≤n):bl n=k:=by
 unfold bl
 rcases h2 with rfl|h2
 ·simp at h1;simp [h1]
 ·have h0:n≠0:=by have:=Nat.pow_pos (n:=k - 1) (show 0<2 by omega);omega
  have h3:k≠0:=by rintro rfl;simp at h1;omega
  rw [if_neg h0];have h4:Nat.log2 n<k:=(Nat.log2_lt h0).2 h1;have h5:k - 1≤Nat.log2 n:=(Nat.le_log2 h0).2 h2;omega
end Go.Proofs.YtjamgccgoapbeaaGreatDoor
set_option linter.unusedVariables false
set_option maxRecDepth 100000
set_option maxHeartbeats 64000000
namespace Go.Proofs.YtjamgccgoapbeaaGreatDoor
open Go.RowKit
theorem shift_parts {x s:Nat} (hx:x<B64) (hs:s<64):∃L H:Nat,L=x*2 ^ s % B64∧H=x / 2 ^ (64 - s)∧L+B64*H=x*2 ^ s∧L<B64∧H<2 ^ s∧∀o,o<2 ^ s→o ||| L=o+L∧o+L<B64:=by
 have e64:B64=2 ^ (64 - s)*2 ^ s:=by rw [←Nat.pow_add,show 64 - s+s=64 from by omega];rfl
 have hp:0<2 ^ s:=Nat.pow_pos (by omega);have hq:0<2 ^ (64 - s):=Nat.pow_pos (by omega);have hL:x*2 ^ s % B64=x % 2 ^ (64 - s)*2 ^ s:=by rw [e64,Nat.mul_mod_mul_right]
 have hm:x % 2 ^ (64 - s)<2 ^ (64 - s):=Nat.mod_lt _ hq;refine⟨_,_,rfl,rfl,?_,Nat.mod_lt _ (by rw [B64_eq];omega),?_,fun o ho=>⟨?_,?_⟩⟩
 ·rw [hL]
  have:=Nat.div_add_mod x (2 ^ (64 - s))
  conv=>rhs;rw [←this]
  rw [e64];grind
 ·rw [Nat.div_lt_iff_lt_mul hq,Nat.mul_comm,←e64];exact hx
 ·rw [hL,Nat.or_comm,Nat.mul_comm (x % _),←Nat.two_pow_add_eq_or_of_lt ho,Nat.add_comm]
 ·rw [hL,e64]
  have:=Nat.mul_le_mul_right (2 ^ s) (show x % 2 ^ (64 - s)+1≤2 ^ (64 - s) from hm)
  rw [Nat.add_mul] at this;omega
theorem up_step {N R' R B P D S x o L H R1:Nat} (h:R=N*(D*S)) (hx:L+B*H=x*S) (h1:R1+P*D*o=R+P*D*(o+L)) (h2:R'=R1+P*D*B*H):R'=(N+P*x)*(D*S):=by
 subst h2 h;have h3:P*D*(L+B*H)=P*D*(x*S):=by rw [hx]
 grind
theorem up_r (va:Value) (n k:Nat) (w:World) (ha:Wd w va n) (sa:Sm n) (hk:k≤70368744177664):Calls Tryz.prog 148 #[va,.int .i64 k] w fun e w'=>(∃r:List Nat,e=.returned (.slice (some ⟨w.heap.size,0,none⟩) (cut r).length ((dg n).length+k / 64+1))∧r.length=(dg n).length+k / 64+1∧(∀d ∈ r,d<B64)∧BkU w' w.heap.size r∧num B64 r=n*2 ^ k)∧Ext w w':=by
 obtain⟨A,ca,rfl,hca,hA⟩:=ha;have la:=dg_lt n;have en:=num_dg n;unfold Sm at sa;generalize dg n=xs at *;obtain⟨p,hp⟩:∃p,xs.length=p:=⟨_,rfl⟩;rw [hp] at hca sa ⊢;obtain⟨d,hd⟩:∃d,d=k / 64:=⟨_,rfl⟩;obtain⟨s,hs⟩:∃s,s=k % 64:=⟨_,rfl⟩;rw [←hd];have hs63:s<64:=by omega
 have hdb:d≤1099511627776:=by omega
 have hk1:(k:Int) / 64=(d:Int):=by omega
 have hk2:(k:Int) % 64=(s:Int):=by omega
 have hk1':IntKind.i64.wrap ((k:Int).tdiv 64)=(d:Int):=by rw [IntWalk.i64_quo _ _ ⟨by omega,by omega,by omega⟩,hk1]
 have hk2':IntKind.i64.wrap ((k:Int).tmod 64)=(s:Int):=by rw [IntWalk.rem_in _ _ (by omega),hk2,IntWalk.i64_in _ (by omega)]
 have Hk2:Hid (2 ^ k=B64 ^ d*2 ^ s):=by
  show _=_
  rw [show k=64*d+s by omega,Nat.pow_add,Nat.pow_mul];rfl
 have Hp:=ZZ hp;have La:=ZZ la;have En:=ZZ en;have hmk:=mk_words (p+d+1) ((p:Int)+(d:Int)+1) (by omega) (by omega);clear hp la en hd hs
 go_enter Tryz.func148,Tryz.ntmps148
 go_wp2
 go_loopw [17] (fun i wr=>∃(j:Nat) (r:List Nat),j≤p∧i=.int .i64 j∧r.length=p+d+1∧(∀d ∈ r,d<B64)∧BkU wr w.heap.size r∧Below w.heap.size w wr∧num B64 r=num B64 (xs.take j)*(B64 ^ d*2 ^ s)∧r.getD (j+d) 0<2 ^ s∧∀t,j+d<t→r.getD t 0=0) (fun i _=>p - (intOf i).toNat)
 case atStart=>
  refine⟨0,zs (p+d+1),Nat.zero_le _,rfl,zs_length _,zs_lt (by rw [B64_eq];omega) _,BkU.new _ _,ab _ _,by simp [zs,num_replicate_zero],?_,fun t _=>?_⟩
  ·have:(zs (p+d+1)).getD (0+d) 0=0:=by
    simp [zs,List.getD_eq_getElem?_getD,List.getElem?_replicate];split <;> rfl
   rw [this];exact Nat.pow_pos (by omega)
  ·simp [zs,List.getD_eq_getElem?_getD,List.getElem?_replicate];split <;> rfl
 case round=>
  obtain⟨j,r,hj,rfl,hr,hrl,hbk,hbel,hnum,hlo,hz⟩:=hrel;have Hr:=ZZ hr;have Hrl:=ZZ hrl;have Hbk:Hid (BkU wr w.heap.size r):=hbk;have Hnum:=ZZ hnum;have Hz:=ZZ hz;clear hr hrl hbk hnum hz
  by_cases hlt:j<p
  ·obtain⟨ba,oa,rfl,hca'⟩:=hA.u (by rw [Hp.out];omega)
   have ea:=ar hbel (hca' j (by rw [Hp.out];omega));have hxl:=getD_lt La.out (by rw [B64_eq];omega) j;have Htk:Hid (num B64 (xs.take (j+1))=num B64 (xs.take j)+B64 ^ j*xs.getD j 0):=num_take_le _ _ _;clear hca' hA;generalize xs.getD j 0=x at *;have hci:=Hbk.out.cell (j+d) (by rw [Hr.out];omega);have hfi:=Hbk.out.frozen (j+d);have ho:=getD_lt Hrl.out (by rw [B64_eq];omega) (j+d);have Hns:=ZZ (fun s=>num_set B64 r (j+d) s (by rw [Hr.out];omega));generalize r.getD (j+d) 0=o at *;obtain⟨L,H,hL,hH,hLH,hL1,hH1,hor⟩:=shift_parts hxl hs63;obtain⟨hor1,hor2⟩:=hor o hlo;obtain⟨v,hv⟩:∃v,v=o+L:=⟨_,rfl⟩
   have hw1:IntKind.u64.wrap ((x:Int)*2 ^ s)=(L:Int):=by
    rw [show (x:Int)*2 ^ s=((x*2 ^ s:Nat):Int) from by simp,Mul64.wrapM,hL];rfl
   have hw2:(x:Int) / 2 ^ (64 - s)=(H:Int):=by rw [hH];simp
   have hw3:bits .or .u64 (o:Int) (L:Int)=(v:Int):=by rw [bits_or_u64_nat o L ho hL1,hor1,hv]
   have Hset1:=ZZ (Hbk.out.set_ (j+d) v);have hset1:=Hset1.out;have hci2:=BkU.cell hset1 (j+d+1) (by rw [List.length_set,Hr.out];omega);have hfi2:=BkU.frozen hset1 (j+d+1);have Hset2:=ZZ (BkU.set_ hset1 (j+d+1) H);rw [getD_set_ne (by omega),Hz.out (j+d+1) (by omega)] at hci2;have Hv:=ZZ hv;have HLH:=ZZ hLH;have HH1:=ZZ hH1;have Hor2:Hid (v<B64):=by show _<_;rw [hv];exact hor2
   have HHB:Hid (H<B64):=by
    show _<_
    refine Nat.lt_of_lt_of_le hH1 ?_
    have:2 ^ s≤2 ^ 64:=Nat.pow_le_pow_right (by omega) (by omega)
    exact this
   clear hset1 hL hH hLH hL1 hH1 hor hor1 hor2 hv hxl ho hlo
   go_wp2
   go_region
   go_wp2
   go_roundw
   case rel=>
    refine⟨j+1,(r.set (j+d) v).set (j+d+1) H,by omega,by go_num,by rw [List.length_set,List.length_set,Hr.out],set_lt (set_lt Hrl.out Hor2.out _) HHB.out _,Hset2.out,?_,?_,?_,?_⟩
    ·exact((hbel.drew).setCell (Nat.le_refl _) _).setCell (Nat.le_refl _) _
    ·have h2:=num_set B64 (r.set (j+d) v) (j+d+1) H (by rw [List.length_set,Hr.out];omega)
     rw [getD_set_ne (by omega),Hz.out (j+d+1) (by omega),Nat.mul_zero,Nat.add_zero] at h2;have h1:=Hns.out v;rw [Nat.pow_add] at h1;rw [Nat.pow_succ,Nat.pow_add] at h2;rw [Htk.out];rw [Hv.out] at h1;rw [←Hv.out] at h1;exact up_step Hnum.out HLH.out (by rw [←Hv.out];exact h1) h2
    ·rw [show j+1+d=j+d+1 by omega]
     simp [List.getD_eq_getElem?_getD,List.getElem?_set,Hr.out]
     rw [if_pos (by omega)];exact HH1.out
    ·intro t ht
     rw [getD_set_ne (by omega),getD_set_ne (by omega)];exact Hz.out t (by omega)
   case measure=>simp [intOf];omega
  ·have hjp:j=p:=by omega
   subst hjp;have HC:=ZZ Hbk.out.cl;go_wp2_with fail;refine(cut_c _ r _ _ HC.out (j+d+1) Hr.out (by omega) (by omega)).mono ?_;rintro e w2 ⟨rfl,rfl⟩;go_wp2_with fail;go_ret;refine⟨⟨r,rfl,Hr.out,Hrl.out,Hbk.out,?_⟩,hbel⟩;rw [Hnum.out,num_take_all _ _ (by rw [Hp.out];omega),En.out,Hk2.out]
theorem down_parts {x y s:Nat} (hx:x<B64) (hy:y<B64) (hs:s<64):∃H L v:Nat,H=x / 2 ^ s∧L=y*2 ^ (64 - s) % B64∧H ||| L=v∧v<B64∧v=x / 2 ^ s+2 ^ (64 - s)*(y % 2 ^ s)∧H<B64∧L<B64:=by
 have e64:B64=2 ^ s*2 ^ (64 - s):=by rw [←Nat.pow_add,show s+(64 - s)=64 from by omega];rfl
 have hp:0<2 ^ s:=Nat.pow_pos (by omega);have hq:0<2 ^ (64 - s):=Nat.pow_pos (by omega);have hL:y*2 ^ (64 - s) % B64=y % 2 ^ s*2 ^ (64 - s):=by rw [e64,Nat.mul_mod_mul_right]
 have hm:y % 2 ^ s<2 ^ s:=Nat.mod_lt _ hp;have hH:x / 2 ^ s<2 ^ (64 - s):=by rw [Nat.div_lt_iff_lt_mul hp,Nat.mul_comm,←e64];exact hx
 have hB:0<B64:=by rw [B64_eq];omega
 refine⟨_,_,x / 2 ^ s+2 ^ (64 - s)*(y % 2 ^ s),rfl,rfl,?_,?_,rfl,?_,Nat.mod_lt _ hB⟩
 ·rw [hL,Nat.or_comm,Nat.mul_comm (y % _),←Nat.two_pow_add_eq_or_of_lt hH,Nat.add_comm]
 ·rw [e64]
  have:=Nat.mul_le_mul_left (2 ^ (64 - s)) (show y % 2 ^ s+1≤2 ^ s from hm)
  rw [Nat.mul_add,Nat.mul_comm _ (2 ^ s)] at this;omega
 ·exact Nat.lt_of_le_of_lt (Nat.div_le_self _ _) hx
theorem down_div {x N s:Nat} (hs:s<64):(x+B64*N) / 2 ^ s=(x / 2 ^ s+2 ^ (64 - s)*(N % 2 ^ s))+B64*(N / 2 ^ s):=by
 have e64:B64=2 ^ s*2 ^ (64 - s):=by rw [←Nat.pow_add,show s+(64 - s)=64 from by omega];rfl
 have hp:0<2 ^ s:=Nat.pow_pos (by omega)
 have h1:(x+B64*N) / 2 ^ s=x / 2 ^ s+2 ^ (64 - s)*N:=by
  rw [e64,Nat.mul_assoc,Nat.add_mul_div_left _ _ hp]
 rw [h1,e64]
 have:=Nat.div_add_mod N (2 ^ s)
 conv=>lhs;rw [←this]
 rw [Nat.mul_add];grind
theorem mod_pow_B {y N s:Nat} (hs:s<64):(y+B64*N) % 2 ^ s=y % 2 ^ s:=by
 have e64:B64=2 ^ s*2 ^ (64 - s):=by rw [←Nat.pow_add,show s+(64 - s)=64 from by omega];rfl
 rw [e64,Nat.mul_assoc,Nat.add_mul_mod_self_left]
theorem down_c (va:Value) (n k:Nat) (w:World) (ha:Wd w va n) (sa:Sm n) (hk:k≤70368744177664):Calls Tryz.prog 152 #[va,.int .i64 k] w fun e w'=>∃v,e=.returned v∧Wd w' v (n / 2 ^ k)∧Ext w w':=by
 obtain⟨A,ca,rfl,hca,hA⟩:=ha;have la:=dg_lt n;have en:=num_dg n;unfold Sm at sa;generalize dg n=xs at *;obtain⟨p,hp⟩:∃p,xs.length=p:=⟨_,rfl⟩;rw [hp] at hca sa ⊢;obtain⟨d,hd⟩:∃d,d=k / 64:=⟨_,rfl⟩;obtain⟨s,hs⟩:∃s,s=k % 64:=⟨_,rfl⟩;have hs63:s<64:=by omega
 have hdb:d≤1099511627776:=by omega
 have hk1:(k:Int) / 64=(d:Int):=by omega
 have hk2:(k:Int) % 64=(s:Int):=by omega
 have hk1':IntKind.i64.wrap ((k:Int).tdiv 64)=(d:Int):=by rw [IntWalk.i64_quo _ _ ⟨by omega,by omega,by omega⟩,hk1]
 have hk2':IntKind.i64.wrap ((k:Int).tmod 64)=(s:Int):=by rw [IntWalk.rem_in _ _ (by omega),hk2,IntWalk.i64_in _ (by omega)]
 have Hk2:Hid (2 ^ k=B64 ^ d*2 ^ s):=by
  show _=_
  rw [show k=64*d+s by omega,Nat.pow_add,Nat.pow_mul];rfl
 have Hp:=ZZ hp;have La:=ZZ la;have En:=ZZ en;clear hp la en hd hs
 by_cases hdp:d<p
 ·obtain⟨ba,oa,rfl,hca0⟩:=hA.u (by rw [Hp.out];omega)
  obtain⟨m,hm⟩:∃m,p=d+m:=⟨p - d,by omega⟩;subst hm;have hmk:=mk_words m (m:Int) rfl (by omega);have Hys:Hid ((xs.drop d).length=m):=by show _=_;rw [List.length_drop,Hp.out];omega
  have Hn:Hid (n / 2 ^ k=num B64 (xs.drop d) / 2 ^ s):=by
   show _=_
   rw [Hk2.out,←Nat.div_div_eq_div_mul,←En.out,num_drop B64 xs d (by rw [Hp.out];omega)];have h1:=num_lt B64 (xs.take d) (fun e he=>La.out e (List.mem_of_mem_take he));rw [List.length_take,Nat.min_eq_left (by rw [Hp.out];omega)] at h1;rw [Nat.add_mul_div_left _ _ (Nat.pow_pos (by rw [B64_eq];omega)),Nat.div_eq_of_lt h1,Nat.zero_add]
  have Hcy:Hid (∀j,j<m→w.cell? ⟨ba,oa+d+j,none⟩=some (.int .u64 (((xs.drop d).getD j 0:Nat):Int))):=fun j hj=>by
   have h:=hca0 (d+j) (by rw [Hp.out];omega);rw [←Nat.add_assoc] at h;rw [h];simp [List.getD_eq_getElem?_getD,List.getElem?_drop]
  have Ly:Hid (∀e ∈ xs.drop d,e<B64):=fun e he=>La.out e (List.mem_of_mem_drop he);clear hca0 hA;generalize xs.drop d=ys at *
  go_enter Tryz.func152,Tryz.ntmps152
  go_wp2
  go_loopw [22] (fun i wr=>∃(j:Nat) (r:List Nat),j≤m∧i=.int .i64 j∧r.length=m∧(∀d ∈ r,d<B64)∧BkU wr w.heap.size r∧Below w.heap.size w wr∧num B64 (r.take j)+B64 ^ j*(num B64 (ys.drop j) / 2 ^ s)=num B64 ys / 2 ^ s) (fun i _=>m - (intOf i).toNat)
  case atStart=>exact⟨0,zs m,Nat.zero_le _,rfl,zs_length _,zs_lt (by rw [B64_eq];omega) _,BkU.new _ _,ab _ _,by simp⟩
  case round=>
   obtain⟨j,r,hj,rfl,hr,hrl,hbk,hbel,hnum⟩:=hrel;have Hr:=ZZ hr;have Hrl:=ZZ hrl;have Hbk:Hid (BkU wr w.heap.size r):=hbk;have Hnum:=ZZ hnum;clear hr hrl hbk hnum
   by_cases hlt:j<m
   ·have ea:=ar hbel (Hcy.out j hlt)
    have hxl:=getD_lt Ly.out (by rw [B64_eq];omega) j;have Hdx:Hid (ys.drop j=ys.getD j 0 :: ys.drop (j+1)):=drop_getD ys j (by rw [Hys.out];omega);generalize ys.getD j 0=x at *;have hci:=Hbk.out.cell j (by rw [Hr.out];omega);have hfi:=Hbk.out.frozen j
    by_cases hl1:j+1<m
    ·have eb:=ar hbel (Hcy.out (j+1) hl1)
     have hyl:=getD_lt Ly.out (by rw [B64_eq];omega) (j+1);have Hdy:Hid (ys.drop (j+1)=ys.getD (j+1) 0 :: ys.drop (j+1+1)):=drop_getD ys (j+1) (by rw [Hys.out];omega);generalize ys.getD (j+1) 0=y at *;obtain⟨H,L,v,hH,hL,hor,hv,hve,hH1,hL1⟩:=down_parts hxl hyl hs63
     have hw1:IntKind.u64.wrap ((y:Int)*2 ^ (64 - s))=(L:Int):=by
      rw [show (y:Int)*2 ^ (64 - s)=((y*2 ^ (64 - s):Nat):Int) from by simp,Mul64.wrapM,hL];rfl
     have hw2:(x:Int) / 2 ^ s=(H:Int):=by rw [hH];simp
     have hw3:bits .or .u64 (H:Int) (L:Int)=(v:Int):=by rw [bits_or_u64_nat H L hH1 hL1,hor]
     have Hset1:=ZZ (Hbk.out.set_ j H);have hset1:=Hset1.out;have hci2:=BkU.cell hset1 j (by rw [List.length_set,Hr.out];omega);have hfi2:=BkU.frozen hset1 j;have Hset2:=ZZ (BkU.set_ hset1 j v);have hgs:(r.set j H).getD j 0=H:=by simp [List.getD_eq_getElem?_getD,Hr.out,hlt]
     rw [hgs] at hci2;have Hv:=ZZ hv;have Hve:=ZZ hve;clear hset1 hgs hH hL hor hv hve hH1 hL1 hxl hyl
     go_wp2
     go_region
     go_wp2
     go_roundw
     case rel=>
      refine⟨j+1,r.set j v,by omega,by go_num,by rw [List.length_set,Hr.out],set_lt Hrl.out Hv.out _,?_,?_,?_⟩
      ·have:=Hset2.out
       rw [List.set_set] at this;exact this
      ·exact((hbel.setCell (Nat.le_refl _) _).drew).setCell (Nat.le_refl _) _
      ·have h1:=Hnum.out
       rw [Hdx.out,num_cons,down_div hs63] at h1;rw [num_set_take _ _ _ _ (by rw [Hr.out];omega),Hve.out,Nat.pow_succ];have h2:num B64 (ys.drop (j+1)) % 2 ^ s=y % 2 ^ s:=by rw [Hdy.out,num_cons,mod_pow_B hs63]
       rw [h2] at h1;rw [←h1];grind
     case measure=>simp [intOf];omega
    ·obtain⟨H,L,v,hH,hL,hor,hv,hve,hH1,hL1⟩:=down_parts hxl (y:=0) (by rw [B64_eq];omega) hs63
     have hw2:(x:Int) / 2 ^ s=(H:Int):=by rw [hH];simp
     have Hset1:=ZZ (Hbk.out.set_ j H);have HH:=ZZ hH;have HH1:=ZZ hH1;have hjm:ys.drop (j+1)=[]:=List.drop_of_length_le (by rw [Hys.out];omega);have Hjm:=ZZ hjm;clear hH hL hor hv hve hH1 hL1 hxl hjm
     go_wp2
     go_roundw
     case rel=>
      refine⟨j+1,r.set j H,by omega,by go_num,by rw [List.length_set,Hr.out],set_lt Hrl.out HH1.out _,Hset1.out,hbel.setCell (Nat.le_refl _) _,?_⟩;have h1:=Hnum.out;rw [Hdx.out,Hjm.out,num_cons] at h1;rw [num_set_take _ _ _ _ (by rw [Hr.out];omega),HH.out,Hjm.out,←h1]
      simp
     case measure=>simp [intOf];omega
   ·have hjp:j=m:=by omega
    subst hjp;have HC:=ZZ Hbk.out.cl;go_wp2_with fail;refine(cut_c _ r _ _ HC.out j Hr.out (by omega) (by omega)).mono ?_;rintro e w2 ⟨rfl,rfl⟩;go_wp2_with fail;go_ret;refine⟨_,rfl,?_,hbel⟩;have h1:=Hnum.out;rw [List.drop_of_length_le (by rw [Hys.out];omega),num_take_all _ _ (by rw [Hr.out];omega),num_nil,Nat.zero_div,Nat.mul_zero,Nat.add_zero] at h1;rw [Hn.out,←h1];exact cut_w Hrl.out HC.out (by rw [Hr.out];omega)
 ·have hz:n / 2 ^ k=0:=by
   rw [Nat.div_eq_zero_iff]
   right
   rw [Hk2.out,←En.out];have h1:=num_lt B64 xs La.out;rw [Hp.out] at h1;have h2:B64 ^ p≤B64 ^ d:=Nat.pow_le_pow_right (by rw [B64_eq];omega) (by omega);have h3:B64 ^ d*1≤B64 ^ d*2 ^ s:=Nat.mul_le_mul_left _ (Nat.pow_pos (by omega));omega
  have Hz:=ZZ hz;clear hz hA
  go_enter Tryz.func152,Tryz.ntmps152
  go_wp2
  go_ret;refine⟨_,rfl,?_,ae _⟩
  rw [Hz.out];exact Wd.zero _
end Go.Proofs.YtjamgccgoapbeaaGreatDoor
set_option linter.unusedVariables false
set_option maxRecDepth 100000
set_option maxHeartbeats 64000000
namespace Go.Proofs.YtjamgccgoapbeaaGreatDoor
open Go
section
variable {P:Program} {md:Region.Mode} {ops:Array Oper} {Q:Exit→Act→World→Prop} {S:World→Prop} {z:Nat}
def AnyL (P:Program) (md:Region.Mode) (ops:Array Oper) (Q:Exit→Act→World→Prop) (S:World→Prop) (z:Nat):Nat→Array Bool→Act→World→Prop
 | 0,listed,a,w=>Region.ready md ops listed=[]∧Q .normal a w
 | fuel+1,listed,a,w=>(Region.ready md ops listed=[]→Q .normal a w) ∧
  ∀i ∈ Region.ready md ops listed,wpOp P ops Q i (fun a' w'=>(i≠z→S w')∧AnyL P md ops Q S z fuel (listed.setIfInBounds i true) a' w') a w
theorem any_of_L:∀(fuel:Nat) (listed:Array Bool) (a:Act) (w:World),AnyL P md ops Q S z fuel listed a w→wpAny P md ops Q fuel listed a w
 | 0,_,_,_,h=>h
 | fuel+1,_,_,_,h=>⟨h.1,fun i hi=>wpOp_mono (fun a' w' h'=>any_of_L fuel _ a' w' h'.2) (h.2 i hi)⟩
def Clo (md:Region.Mode) (ops:Array Oper) (listed:Array Bool):Prop:=∀(k:Nat) (o:Oper),ops[k]?=some o→listed.getD k true=true→∀e ∈ o.after,Region.binds md e=true→listed.getD e.on false=true
def cloB (md:Region.Mode) (ops:Array Oper) (listed:Array Bool):Bool:=
 (List.range ops.size).all fun k=>!(listed.getD k true) || match ops[k]? with|some o=>o.after.all (fun e=>!(Region.binds md e) || listed.getD e.on false)|none=>true
theorem clo_of {listed:Array Bool} (h:cloB md ops listed=true):Clo md ops listed:=by
 intro k o ho hl e he hb;have hk:k<ops.size:=(Array.getElem?_eq_some_iff.1 ho).1;have h1:=List.all_eq_true.1 h k (List.mem_range.2 hk);rw [hl,ho] at h1
 simp only [Bool.not_true,Bool.false_or,Array.all_eq_true_iff_forall_mem,Bool.or_eq_true,Bool.not_eq_true'] at h1
 exact(h1 e he).resolve_left (by simp [hb])
theorem clo_set {listed:Array Bool} {j:Nat} (h:Clo md ops listed) (hj:j ∈ Region.ready md ops listed):Clo md ops (listed.setIfInBounds j true):=by
 intro k o ho hl e he hb
 by_cases hjk:j=k
 ·subst hjk
  obtain⟨-,o',ho',hall⟩:=mem_ready.1 hj;rw [ho] at ho';cases ho';exact getD_set_true (hall e he hb)
 ·rw [Go.getD_set_ne true hjk] at hl
  exact getD_set_true (h k o ho hl e he hb)
def chainB (md:Region.Mode) (ops:Array Oper) (z:Nat):Bool:=
 (List.range ops.size).all fun i=>decide (i=z) || (List.range ops.size).any fun k=>decide (i<k) && match ops[k]? with|some o=>o.after.any (fun e=>Region.binds md e && decide (e.on=i))|none=>false
theorem last_z (h:chainB md ops z=true) {listed:Array Bool} (hc:Clo md ops listed) (hs:listed.size=ops.size):∀(n i:Nat),ops.size - i=n→listed.getD i true=false→i≠z→z ∉ Region.ready md ops listed:=by
 intro n
 induction n using Nat.strongRecOn with
 | _ n ih=>
  intro i hn hi hne
  have hk:i<ops.size:=by
   rcases Nat.lt_or_ge i ops.size with h'|h'
   ·exact h'
   ·rw [←hs] at h';simp [Nat.not_lt.2 h'] at hi
  have h1:=List.all_eq_true.1 h i (List.mem_range.2 hk);rw [Bool.or_eq_true] at h1;have h2:=h1.resolve_left (by simpa using hne);obtain⟨k,hkm,h3⟩:=List.any_eq_true.1 h2;rw [Bool.and_eq_true] at h3;obtain⟨h4,h5⟩:=h3;have hik:i<k:=of_decide_eq_true h4;have hkn:k<ops.size:=List.mem_range.1 hkm
  cases ho:ops[k]? with
  | none=>rw [ho] at h5;cases h5
  | some o=>
   rw [ho] at h5;obtain⟨e,he,h6⟩:=Array.any_eq_true'.1 h5;rw [Bool.and_eq_true] at h6;have hon:e.on=i:=of_decide_eq_true h6.2
   have nof:listed.getD e.on false≠true:=by
    rw [hon];have hlt:i<listed.size:=by rw [hs];exact hk
    simp [hlt] at hi ⊢
    exact hi
   by_cases hkz:k=z
   ·subst hkz
    intro hr;obtain⟨-,o',ho',hall⟩:=mem_ready.1 hr;rw [ho] at ho';cases ho';exact nof (hall e he h6.1)
   ·have hku:listed.getD k true=false:=by
     rcases Bool.eq_false_or_eq_true (listed.getD k true) with h7|h7
     ·exact absurd (hc k o ho h7 e he h6.1) nof
     ·exact h7
    exact ih (ops.size - k) (by omega) k rfl hku hkz
theorem first_L (hch:chainB md ops z=true) {i:Nat} {oi:Oper} {v:Value} (hi:ops[i]?=some oi) (hsel:∀(j:Nat) (o:Oper) cs b,ops[j]?=some o→o.op≠.select cs b) (hQ:∀c a w,Q (.panic c) (a.put oi.dst v) w→Q (.panic c) a w) (hiz:i≠z):∀(fuel:Nat) (listed:Array Bool) (a:Act) (w:World),Clo md ops listed→listed.size=ops.size→(∀j oj,ops[j]?=some oj→j≠i→listed.getD j true=false→(∀e ∈ oj.after,Region.binds md e=true→e.on≠i)→oi.apart ops oj=true)→i ∈ Region.ready md ops listed→YieldsIf P ops S oi v a→S w→AnyL P md ops Q S z fuel (listed.setIfInBounds i true) (a.put oi.dst v) w→AnyL P md ops Q S z (fuel+1) listed a w:=by
 intro fuel
 induction fuel with
 | zero=>
  intro listed a w hcl hsz _ hr hy hS H;refine⟨fun h=>(by rw [h] at hr;cases hr),fun j hj=>?_⟩
  by_cases hji:j=i
  ·subst hji;exact hy.wpOp hi hS ⟨fun _=>hS,H⟩
  ·have:=ready_mono hj hji
   rw [H.1] at this
   cases this
 | succ fuel ih=>
  intro listed a w hcl hsz hfree hr hy hS H;refine⟨fun h=>(by rw [h] at hr;cases hr),fun j hj=>?_⟩
  by_cases hji:j=i
  ·subst hji;exact hy.wpOp hi hS ⟨fun _=>hS,H⟩
  ·have hjz:j≠z:=fun e=>last_z hch hcl hsz _ i rfl (mem_ready.1 hr).1 hiz (e ▸ hj)
   have h1:=H.2 j (ready_mono hj hji);obtain⟨hjun,oj,hoj,hall⟩:=mem_ready.1 hj
   have hnot:∀e ∈ oj.after,Region.binds md e=true→e.on≠i:=fun e he hb heq=>by
    have h1:=hall e he hb;have h0:=(mem_ready.1 hr).1;rw [heq] at h1
    rcases Nat.lt_or_ge i listed.size with h'|h'
    ·simp [h'] at h0 h1;rw [h0] at h1;cases h1
    ·simp [Array.getElem?_eq_none h'] at h1
   have h2:=wpOp_putIf hoj (hfree j oj hoj hji hjun hnot) (fun cs b=>hsel i oi cs b hi) (fun cs b=>hsel j oj cs b hoj) hQ hy h1
   have hfree':∀k ok,ops[k]?=some ok→k≠i→(listed.setIfInBounds j true).getD k true=false→(∀e ∈ ok.after,Region.binds md e=true→e.on≠i)→oi.apart ops ok=true:=fun k ok hk hki hun hno=>by
    refine hfree k ok hk hki ?_ hno
    by_cases hjk:j=k
    ·subst hjk;exact hjun
    ·rw [Go.getD_set_ne true hjk] at hun;exact hun
   refine wpOp_mono (fun a' w' h3=>⟨fun _=>h3.2.1 hjz,ih (listed.setIfInBounds j true) a' w' (clo_set hcl hj) (by simpa using hsz) hfree' (ready_mono hr (Ne.symm hji)) h3.1 (h3.2.1 hjz) ?_⟩) h2;rw [Array.setIfInBounds_comm _ _ hji];exact h3.2.2
theorem take_L {i:Nat} (d:Tmp) {oi:Oper} {v:Value} {fuel:Nat} {listed:Array Bool} {a:Act} {w:World} (hi:ops[i]?=some oi) (hd:oi.dst=some d) (hs:Region.noSelect ops=true) (hf:Region.free md ops listed i=true) (hr:(Region.ready md ops listed).contains i=true) (hch:(chainB md ops z && cloB md ops listed && decide (listed.size=ops.size) && decide (i≠z))=true) (hQ:∀c a w,Q (.panic c) (a.put (some d) v) w→Q (.panic c) a w) (hy:YieldsIf P ops S oi v a) (hS:S w) (h:AnyL P md ops Q S z fuel (listed.setIfInBounds i true) (a.put (some d) v) w):AnyL P md ops Q S z (fuel+1) listed a w:=by
 rw [←hd] at hQ h
 simp only [Bool.and_eq_true,decide_eq_true_eq] at hch
 exact first_L hch.1.1.1 hi (Region.noSelect_spec hs) hQ hch.2 fuel listed a w (clo_of hch.1.1.2) hch.1.2 (Region.free_spec hi hf) (by simpa using hr) hy hS h
theorem take_b (i:Nat) (d:Tmp) {oi:Oper} {v:Value} {fuel:Nat} {listed:Array Bool} {a a':Act} {w:World} (h:AnyL P md ops Q S z fuel (listed.setIfInBounds i true) a' w) (hi:ops[i]?=some oi:=by exact rfl) (hd:oi.dst=some d:=by exact rfl) (hs:Region.noSelect ops=true:=by kernel_rfl) (hf:Region.free md ops listed i=true:=by kernel_rfl) (hr:(Region.ready md ops listed).contains i=true:=by kernel_rfl) (hch:(chainB md ops z && cloB md ops listed && decide (listed.size=ops.size) && decide (i≠z))=true:=by kernel_rfl) (hQ:∀c a w,Q (.panic c) (a.put (some d) v) w→Q (.panic c) a w:=by exact fun _ _ _ h=>h) (hy:YieldsIf P ops S oi v a:=by refine Or.inl ⟨rfl,?_⟩;intro w hSw;(try dsimp only at hSw);go_simp;try with_reducible rfl) (hS:S w:=by assumption) (ha:a.put (some d) v=a':=by simp only [Act.put,List.setIfInBounds_toArray,List.set_cons_zero,List.set_cons_succ] <;> rfl):AnyL P md ops Q S z (fuel+1) listed a w:=by
 subst ha;exact take_L (i:=i) d hi hd hs hf hr hch hQ hy hS h
theorem call_L {fuel:Nat} {listed:Array Bool} {a:Act} {w:World} {i:Nat} (d:Tmp) {o:Oper} (ho:ops[i]?=some o) (hd:o.dst=some d) (hr:Region.ready md ops listed=[i]) (h:∀K':Act→World→Prop,Shut (∀a w,S w→(S w→AnyL P md ops Q S z fuel (listed.setIfInBounds i true) a w)→K' a w)→if Region.wanted o (yielded ops a.tmps)=true then Oper.wp P o a w K' Q else K' (a.put (some d) undef) w):AnyL P md ops Q S z (fuel+1) listed a w:=by
 rw [←hd] at h;refine⟨fun h0=>by (rw [hr] at h0;cases h0),fun j hj=>?_⟩;rw [hr] at hj;obtain rfl:=List.mem_singleton.1 hj;exact wpOp_step ho (fun K' hK=>h K' (fun a w hS hW=>hK a w ⟨fun _=>hS,hW hS⟩))
theorem last_L {fuel:Nat} {listed:Array Bool} {a:Act} {w:World} {o:Oper} (ho:ops[z]?=some o) (hr:Region.ready md ops listed=[z]) (hr2:Region.ready md ops (listed.setIfInBounds z true)=[]) (h:∀K':Act→World→Prop,Shut (∀a w,Q .normal a w→K' a w)→if Region.wanted o (yielded ops a.tmps)=true then Oper.wp P o a w K' Q else K' (a.put o.dst undef) w):AnyL P md ops Q S z (fuel+1) listed a w:=by
 refine⟨fun h0=>by (rw [hr] at h0;cases h0),fun j hj=>?_⟩;rw [hr] at hj;obtain rfl:=List.mem_singleton.1 hj;refine wpOp_step ho (fun K' hK=>h K' (fun a w hq=>hK a w ⟨fun hne=>absurd rfl hne,?_⟩))
 cases fuel with
 | zero=>exact⟨hr2,hq⟩
 | succ n=>exact⟨fun _=>hq,by rw [hr2];simp⟩
theorem region_L {id:Nat} {a:Act} {w:World} (z:Nat) (hm:P.follows .mixedOrders=true) (hS:S w.drew) (h:S w.drew→AnyL P .any ops Q S z ops.size (Array.replicate ops.size false) a w.drew):(Code.region id ops true).wp P Q a w:=
 wp_region_any hm (any_of_L _ _ _ _ (h hS))
end
end Go.Proofs.YtjamgccgoapbeaaGreatDoor
