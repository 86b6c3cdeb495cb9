/- The program's natural numbers: dividing by one word, size, shifting. The program's natural numbers: shifting. Long division, in plain digits. -/
import Derived.Test.YtjamgccgoapbeaaGreatDoorGWd
import Derived.Test.YtjamgccgoapbeaaGreatDoorGOl
set_option linter.unusedVariables false
set_option maxRecDepth 100000
set_option maxHeartbeats 64000000
namespace Go.Proofs.YtjamgccgoapbeaaGreatDoor
open Go.RowKit
theorem drop_set_self (l:List Nat) (k v:Nat) (h:k<l.length):(l.set k v).drop k=v :: l.drop (k+1):=by
 rw [List.drop_eq_getElem_cons (by simpa using h)]
 simp [List.drop_set]
theorem drop_getD (l:List Nat) (k:Nat) (h:k<l.length):l.drop k=l.getD k 0 :: l.drop (k+1):=by
 rw [List.drop_eq_getElem_cons h];simp [List.getD_eq_getElem?_getD,h]
theorem by1_step {B N M q b r a r' c:Nat} (h:M*b+r=N) (hd:q*b+r'=r*B+a):(q+B*M)*b+r'=a+B*N:=by subst h;grind
theorem by1_c (va:Value) (n b:Nat) (w:World) (ha:Wd w va n) (sa:Sm n) (h0:0<b) (hb:b<B64):Calls Tryz.prog 110 #[va,.int .u64 b] w fun e w'=>(∃v r:_,e=.returned (.tuple #[v,.int .u64 ((r:Nat):Int)])∧r=n % b∧Wd w' v (n / b))∧Ext w w':=by
 obtain⟨A,ca,rfl,hca,hA⟩:=ha;have la:=dg_lt n;have en:=num_dg n;unfold Sm at sa;generalize dg n=xs at *;obtain⟨p,hp⟩:∃p,xs.length=p:=⟨_,rfl⟩;rw [hp] at hca sa ⊢;have Hp:=ZZ hp;have La:=ZZ la;have En:=ZZ en;have Hb:=ZZ hb;have hmk:=mk_words p (p:Int) rfl (by omega);clear hp la en hb
 go_enter Tryz.func110,Tryz.ntmps110
 go_wp2
 go_loopw [7,8] (fun c i wr=>∃(k rest:Nat) (r:List Nat),k≤p∧i=.int .i64 ((k:Int) - 1)∧c=.int .u64 rest∧rest<b∧r.length=p∧(∀d ∈ r,d<B64)∧BkU wr w.heap.size r∧Below w.heap.size w wr∧num B64 (r.drop k)*b+rest=num B64 (xs.drop k)) (fun _ i _=>(intOf i+1).toNat)
 case atStart=>exact⟨p,0,zs p,Nat.le_refl _,rfl,rfl,h0,zs_length _,zs_lt (by rw [B64_eq];omega) _,BkU.new _ _,ab _ _,by
  rw [List.drop_of_length_le (by rw [zs_length];omega),List.drop_of_length_le (by rw [Hp.out];omega)];simp⟩
 case round=>
  obtain⟨k,rest,r,hk,rfl,rfl,hrest,hr,hrl,hbk,hbel,hnum⟩:=hrel;have Hr:=ZZ hr;have Hrl:=ZZ hrl;have Hbk:Hid (BkU wr w.heap.size r):=hbk;have Hnum:=ZZ hnum;clear hr hrl hbk hnum
  by_cases hz:k=0
  ·subst hz
   have HC:=ZZ Hbk.out.cl;go_wp2_with fail;refine(cut_c _ r _ _ HC.out p Hr.out (by omega) (by omega)).mono ?_;rintro e w2 ⟨rfl,rfl⟩;go_wp2_with fail
   go_ret2
   have h1:=Hnum.out
   simp only [List.drop_zero] at h1
   rw [En.out] at h1
   have h2:n / b=num B64 r∧n % b=rest:=by
    rw [←h1,Nat.mul_comm]
    constructor
    ·rw [Nat.mul_add_div h0,Nat.div_eq_of_lt hrest,Nat.add_zero]
    ·rw [Nat.mul_add_mod,Nat.mod_eq_of_lt hrest]
   refine⟨⟨_,rest,rfl,h2.2.symm,?_⟩,hbel⟩;rw [h2.1];exact cut_w Hrl.out HC.out (by rw [Hr.out];omega)
  ·obtain⟨k,rfl⟩:∃j,k=j+1:=⟨k - 1,by omega⟩
   obtain⟨ba,oa,rfl,hca'⟩:=hA.u (by rw [Hp.out];omega);have ea:=ap hbel (hca' k (by rw [Hp.out];omega));have hxl:=getD_lt La.out (by rw [B64_eq];omega) k;have Hdx:Hid (xs.drop k=xs.getD k 0 :: xs.drop (k+1)):=drop_getD xs k (by rw [Hp.out];omega);clear hca' hA hz;generalize xs.getD k 0=x at *;have Hxl:=ZZ hxl;clear hxl;go_wp2_with fail;refine(div64_c rest x b hrest Hxl.out Hb.out _).mono ?_;rintro e w1 ⟨⟨q,s,rfl,hqs,hs,hq⟩,hext⟩;have hbel1:=hbel.trans (hext.mono hbel.size);have Hbk1:Hid (BkU w1 w.heap.size r):=Hbk.out.ext hext;have hci:=Hbk1.out.cell k (by rw [Hr.out];omega);have hfi:=Hbk1.out.frozen k;have Hset:=ZZ (Hbk1.out.set_ k q);have Hqs:=ZZ hqs;have Hq:=ZZ hq;clear hqs hq ea;go_wp2_with fail
   go_roundw
   case rel=>
    refine⟨k,s,r.set k q,by omega,by simp,rfl,hs,by rw [List.length_set,Hr.out],set_lt Hrl.out Hq.out k,Hset.out,hbel1.setCell (Nat.le_refl _) _,?_⟩;rw [drop_set_self r k q (by rw [Hr.out];omega),Hdx.out,num_cons,num_cons];exact by1_step (c:=0) Hnum.out Hqs.out
   case measure=>simp [intOf]
theorem dg_length_size {n:Nat} (h0:0<n):(dg n).getD ((dg n).length - 1) 0<B64∧0<(dg n).getD ((dg n).length - 1) 0∧0<(dg n).length∧n=num B64 ((dg n).take ((dg n).length - 1))+B64 ^ ((dg n).length - 1)*(dg n).getD ((dg n).length - 1) 0∧num B64 ((dg n).take ((dg n).length - 1))<B64 ^ ((dg n).length - 1):=by
 have h1:=dg_norm n;have h2:dg n≠[]:=dig_ne_nil B64_two h0;have h3:0<(dg n).length:=List.length_pos_iff.2 h2;have e:=num_dg n;generalize dg n=l at *;have h4:=num_take_succ B64 l (l.length - 1) (by omega);rw [show l.length - 1+1=l.length by omega,List.take_length,e] at h4;refine⟨getD_lt h1.lt (by rw [B64_eq];omega) _,?_,h3,h4,?_⟩
 ·rcases Nat.eq_zero_or_pos (l.getD (l.length - 1) 0) with h5|h5
  ·exfalso
   apply h1.last
   rw [List.getLast?_eq_getElem?];rw [List.getD_eq_getElem?_getD] at h5;rw [List.getElem?_eq_getElem (by omega)] at h5 ⊢
   simpa using h5
  ·exact h5
 ·have:=num_lt B64 (l.take (l.length - 1)) (fun d hd=>h1.lt d (List.mem_of_mem_take hd))
  rwa [List.length_take,Nat.min_eq_left (by omega)] at this
def bl (n:Nat):Nat:=if n=0 then 0 else Nat.log2 n+1
theorem bl_unique {n k:Nat} (h1:n<2 ^ k) (h2:k=0∨2 ^ (k - 1)≤n):bl n=k:=by
 unfold bl
 rcases h2 with rfl|h2
 ·simp at h1;simp [h1]
 ·have h0:n≠0:=by have:=Nat.pow_pos (n:=k - 1) (show 0<2 by omega);omega
  have h3:k≠0:=by rintro rfl;simp at h1;omega
  rw [if_neg h0];have h4:Nat.log2 n<k:=(Nat.log2_lt h0).2 h1;have h5:k - 1≤Nat.log2 n:=(Nat.le_log2 h0).2 h2;omega
end Go.Proofs.YtjamgccgoapbeaaGreatDoor
set_option linter.unusedVariables false
set_option maxRecDepth 100000
set_option maxHeartbeats 64000000
namespace Go.Proofs.YtjamgccgoapbeaaGreatDoor
open Go.RowKit
theorem shift_parts {x s:Nat} (hx:x<B64) (hs:s<64):∃L H:Nat,L=x*2 ^ s % B64∧H=x / 2 ^ (64 - s)∧L+B64*H=x*2 ^ s∧L<B64∧H<2 ^ s∧∀o,o<2 ^ s→o ||| L=o+L∧o+L<B64:=by
 have e64:B64=2 ^ (64 - s)*2 ^ s:=by rw [←Nat.pow_add,show 64 - s+s=64 from by omega];rfl
 have hp:0<2 ^ s:=Nat.pow_pos (by omega);have hq:0<2 ^ (64 - s):=Nat.pow_pos (by omega);have hL:x*2 ^ s % B64=x % 2 ^ (64 - s)*2 ^ s:=by rw [e64,Nat.mul_mod_mul_right]
 have hm:x % 2 ^ (64 - s)<2 ^ (64 - s):=Nat.mod_lt _ hq;refine⟨_,_,rfl,rfl,?_,Nat.mod_lt _ (by rw [B64_eq];omega),?_,fun o ho=>⟨?_,?_⟩⟩
 ·rw [hL]
  have:=Nat.div_add_mod x (2 ^ (64 - s))
  conv=>rhs;rw [←this]
  rw [e64];grind
 ·rw [Nat.div_lt_iff_lt_mul hq,Nat.mul_comm,←e64];exact hx
 ·rw [hL,Nat.or_comm,Nat.mul_comm (x % _),←Nat.two_pow_add_eq_or_of_lt ho,Nat.add_comm]
 ·rw [hL,e64]
  have:=Nat.mul_le_mul_right (2 ^ s) (show x % 2 ^ (64 - s)+1≤2 ^ (64 - s) from hm)
  rw [Nat.add_mul] at this;omega
theorem up_step {N R' R B P D S x o L H R1:Nat} (h:R=N*(D*S)) (hx:L+B*H=x*S) (h1:R1+P*D*o=R+P*D*(o+L)) (h2:R'=R1+P*D*B*H):R'=(N+P*x)*(D*S):=by
 subst h2 h;have h3:P*D*(L+B*H)=P*D*(x*S):=by rw [hx]
 grind
theorem up_r (va:Value) (n k:Nat) (w:World) (ha:Wd w va n) (sa:Sm n) (hk:k≤70368744177664):Calls Tryz.prog 148 #[va,.int .i64 k] w fun e w'=>(∃r:List Nat,e=.returned (.slice (some ⟨w.heap.size,0,none⟩) (cut r).length ((dg n).length+k / 64+1))∧r.length=(dg n).length+k / 64+1∧(∀d ∈ r,d<B64)∧BkU w' w.heap.size r∧num B64 r=n*2 ^ k)∧Ext w w':=by
 obtain⟨A,ca,rfl,hca,hA⟩:=ha;have la:=dg_lt n;have en:=num_dg n;unfold Sm at sa;generalize dg n=xs at *;obtain⟨p,hp⟩:∃p,xs.length=p:=⟨_,rfl⟩;rw [hp] at hca sa ⊢;obtain⟨d,hd⟩:∃d,d=k / 64:=⟨_,rfl⟩;obtain⟨s,hs⟩:∃s,s=k % 64:=⟨_,rfl⟩;rw [←hd];have hs63:s<64:=by omega
 have hdb:d≤1099511627776:=by omega
 have hk1:(k:Int) / 64=(d:Int):=by omega
 have hk2:(k:Int) % 64=(s:Int):=by omega
 have hk1':IntKind.i64.wrap ((k:Int).tdiv 64)=(d:Int):=by rw [IntWalk.i64_quo _ _ ⟨by omega,by omega,by omega⟩,hk1]
 have hk2':IntKind.i64.wrap ((k:Int).tmod 64)=(s:Int):=by rw [IntWalk.rem_in _ _ (by omega),hk2,IntWalk.i64_in _ (by omega)]
 have Hk2:Hid (2 ^ k=B64 ^ d*2 ^ s):=by
  show _=_
  rw [show k=64*d+s by omega,Nat.pow_add,Nat.pow_mul];rfl
 have Hp:=ZZ hp;have La:=ZZ la;have En:=ZZ en;have hmk:=mk_words (p+d+1) ((p:Int)+(d:Int)+1) (by omega) (by omega);clear hp la en hd hs
 go_enter Tryz.func148,Tryz.ntmps148
 go_wp2
 go_loopw [17] (fun i wr=>∃(j:Nat) (r:List Nat),j≤p∧i=.int .i64 j∧r.length=p+d+1∧(∀d ∈ r,d<B64)∧BkU wr w.heap.size r∧Below w.heap.size w wr∧num B64 r=num B64 (xs.take j)*(B64 ^ d*2 ^ s)∧r.getD (j+d) 0<2 ^ s∧∀t,j+d<t→r.getD t 0=0) (fun i _=>p - (intOf i).toNat)
 case atStart=>
  refine⟨0,zs (p+d+1),Nat.zero_le _,rfl,zs_length _,zs_lt (by rw [B64_eq];omega) _,BkU.new _ _,ab _ _,by simp [zs,num_replicate_zero],?_,fun t _=>?_⟩
  ·have:(zs (p+d+1)).getD (0+d) 0=0:=by
    simp [zs,List.getD_eq_getElem?_getD,List.getElem?_replicate];split <;> rfl
   rw [this];exact Nat.pow_pos (by omega)
  ·simp [zs,List.getD_eq_getElem?_getD,List.getElem?_replicate];split <;> rfl
 case round=>
  obtain⟨j,r,hj,rfl,hr,hrl,hbk,hbel,hnum,hlo,hz⟩:=hrel;have Hr:=ZZ hr;have Hrl:=ZZ hrl;have Hbk:Hid (BkU wr w.heap.size r):=hbk;have Hnum:=ZZ hnum;have Hz:=ZZ hz;clear hr hrl hbk hnum hz
  by_cases hlt:j<p
  ·obtain⟨ba,oa,rfl,hca'⟩:=hA.u (by rw [Hp.out];omega)
   have ea:=ap hbel (hca' j (by rw [Hp.out];omega));have hxl:=getD_lt La.out (by rw [B64_eq];omega) j;have Htk:Hid (num B64 (xs.take (j+1))=num B64 (xs.take j)+B64 ^ j*xs.getD j 0):=num_take_le _ _ _;clear hca' hA;generalize xs.getD j 0=x at *;have hci:=Hbk.out.cell (j+d) (by rw [Hr.out];omega);have hfi:=Hbk.out.frozen (j+d);have ho:=getD_lt Hrl.out (by rw [B64_eq];omega) (j+d);have Hns:=ZZ (fun s=>num_set B64 r (j+d) s (by rw [Hr.out];omega));generalize r.getD (j+d) 0=o at *;obtain⟨L,H,hL,hH,hLH,hL1,hH1,hor⟩:=shift_parts hxl hs63;obtain⟨hor1,hor2⟩:=hor o hlo;obtain⟨v,hv⟩:∃v,v=o+L:=⟨_,rfl⟩
   have hw1:IntKind.u64.wrap ((x:Int)*2 ^ s)=(L:Int):=by
    rw [show (x:Int)*2 ^ s=((x*2 ^ s:Nat):Int) from by simp,Mul64.wrapM,hL];rfl
   have hw2:(x:Int) / 2 ^ (64 - s)=(H:Int):=by rw [hH];simp
   have hw3:bits .or .u64 (o:Int) (L:Int)=(v:Int):=by rw [bits_or_u64_nat o L ho hL1,hor1,hv]
   have Hset1:=ZZ (Hbk.out.set_ (j+d) v);have hset1:=Hset1.out;have hci2:=BkU.cell hset1 (j+d+1) (by rw [List.length_set,Hr.out];omega);have hfi2:=BkU.frozen hset1 (j+d+1);have Hset2:=ZZ (BkU.set_ hset1 (j+d+1) H);rw [getD_set_ne (by omega),Hz.out (j+d+1) (by omega)] at hci2;have Hv:=ZZ hv;have HLH:=ZZ hLH;have HH1:=ZZ hH1;have Hor2:Hid (v<B64):=by show _<_;rw [hv];exact hor2
   have HHB:Hid (H<B64):=by
    show _<_
    refine Nat.lt_of_lt_of_le hH1 ?_
    have:2 ^ s≤2 ^ 64:=Nat.pow_le_pow_right (by omega) (by omega)
    exact this
   clear hset1 hL hH hLH hL1 hH1 hor hor1 hor2 hv hxl ho hlo
   go_wp2
   go_region
   go_wp2
   go_roundw
   case rel=>
    refine⟨j+1,(r.set (j+d) v).set (j+d+1) H,by omega,by go_num,by rw [List.length_set,List.length_set,Hr.out],set_lt (set_lt Hrl.out Hor2.out _) HHB.out _,Hset2.out,?_,?_,?_,?_⟩
    ·exact((hbel.drew).setCell (Nat.le_refl _) _).setCell (Nat.le_refl _) _
    ·have h2:=num_set B64 (r.set (j+d) v) (j+d+1) H (by rw [List.length_set,Hr.out];omega)
     rw [getD_set_ne (by omega),Hz.out (j+d+1) (by omega),Nat.mul_zero,Nat.add_zero] at h2;have h1:=Hns.out v;rw [Nat.pow_add] at h1;rw [Nat.pow_succ,Nat.pow_add] at h2;rw [Htk.out];rw [Hv.out] at h1;rw [←Hv.out] at h1;exact up_step Hnum.out HLH.out (by rw [←Hv.out];exact h1) h2
    ·rw [show j+1+d=j+d+1 by omega]
     simp [List.getD_eq_getElem?_getD,List.getElem?_set,Hr.out]
     rw [if_pos (by omega)];exact HH1.out
    ·intro t ht
     rw [getD_set_ne (by omega),getD_set_ne (by omega)];exact Hz.out t (by omega)
   case measure=>simp [intOf];omega
  ·have hjp:j=p:=by omega
   subst hjp;have HC:=ZZ Hbk.out.cl;go_wp2_with fail;refine(cut_c _ r _ _ HC.out (j+d+1) Hr.out (by omega) (by omega)).mono ?_;rintro e w2 ⟨rfl,rfl⟩;go_wp2_with fail;go_ret;refine⟨⟨r,rfl,Hr.out,Hrl.out,Hbk.out,?_⟩,hbel⟩;rw [Hnum.out,num_take_all _ _ (by rw [Hp.out];omega),En.out,Hk2.out]
theorem down_parts {x y s:Nat} (hx:x<B64) (hy:y<B64) (hs:s<64):∃H L v:Nat,H=x / 2 ^ s∧L=y*2 ^ (64 - s) % B64∧H ||| L=v∧v<B64∧v=x / 2 ^ s+2 ^ (64 - s)*(y % 2 ^ s)∧H<B64∧L<B64:=by
 have e64:B64=2 ^ s*2 ^ (64 - s):=by rw [←Nat.pow_add,show s+(64 - s)=64 from by omega];rfl
 have hp:0<2 ^ s:=Nat.pow_pos (by omega);have hq:0<2 ^ (64 - s):=Nat.pow_pos (by omega);have hL:y*2 ^ (64 - s) % B64=y % 2 ^ s*2 ^ (64 - s):=by rw [e64,Nat.mul_mod_mul_right]
 have hm:y % 2 ^ s<2 ^ s:=Nat.mod_lt _ hp;have hH:x / 2 ^ s<2 ^ (64 - s):=by rw [Nat.div_lt_iff_lt_mul hp,Nat.mul_comm,←e64];exact hx
 have hB:0<B64:=by rw [B64_eq];omega
 refine⟨_,_,x / 2 ^ s+2 ^ (64 - s)*(y % 2 ^ s),rfl,rfl,?_,?_,rfl,?_,Nat.mod_lt _ hB⟩
 ·rw [hL,Nat.or_comm,Nat.mul_comm (y % _),←Nat.two_pow_add_eq_or_of_lt hH,Nat.add_comm]
 ·rw [e64]
  have:=Nat.mul_le_mul_left (2 ^ (64 - s)) (show y % 2 ^ s+1≤2 ^ s from hm)
  rw [Nat.mul_add,Nat.mul_comm _ (2 ^ s)] at this;omega
 ·exact Nat.lt_of_le_of_lt (Nat.div_le_self _ _) hx
theorem down_div {x N s:Nat} (hs:s<64):(x+B64*N) / 2 ^ s=(x / 2 ^ s+2 ^ (64 - s)*(N % 2 ^ s))+B64*(N / 2 ^ s):=by
 have e64:B64=2 ^ s*2 ^ (64 - s):=by rw [←Nat.pow_add,show s+(64 - s)=64 from by omega];rfl
 have hp:0<2 ^ s:=Nat.pow_pos (by omega)
 have h1:(x+B64*N) / 2 ^ s=x / 2 ^ s+2 ^ (64 - s)*N:=by
  rw [e64,Nat.mul_assoc,Nat.add_mul_div_left _ _ hp]
 rw [h1,e64]
 have:=Nat.div_add_mod N (2 ^ s)
 conv=>lhs;rw [←this]
 rw [Nat.mul_add];grind
theorem mod_pow_B {y N s:Nat} (hs:s<64):(y+B64*N) % 2 ^ s=y % 2 ^ s:=by
 have e64:B64=2 ^ s*2 ^ (64 - s):=by rw [←Nat.pow_add,show s+(64 - s)=64 from by omega];rfl
 rw [e64,Nat.mul_assoc,Nat.add_mul_mod_self_left]
theorem down_c (va:Value) (n k:Nat) (w:World) (ha:Wd w va n) (sa:Sm n) (hk:k≤70368744177664):Calls Tryz.prog 152 #[va,.int .i64 k] w fun e w'=>∃v,e=.returned v∧Wd w' v (n / 2 ^ k)∧Ext w w':=by
 obtain⟨A,ca,rfl,hca,hA⟩:=ha;have la:=dg_lt n;have en:=num_dg n;unfold Sm at sa;generalize dg n=xs at *;obtain⟨p,hp⟩:∃p,xs.length=p:=⟨_,rfl⟩;rw [hp] at hca sa ⊢;obtain⟨d,hd⟩:∃d,d=k / 64:=⟨_,rfl⟩;obtain⟨s,hs⟩:∃s,s=k % 64:=⟨_,rfl⟩;have hs63:s<64:=by omega
 have hdb:d≤1099511627776:=by omega
 have hk1:(k:Int) / 64=(d:Int):=by omega
 have hk2:(k:Int) % 64=(s:Int):=by omega
 have hk1':IntKind.i64.wrap ((k:Int).tdiv 64)=(d:Int):=by rw [IntWalk.i64_quo _ _ ⟨by omega,by omega,by omega⟩,hk1]
 have hk2':IntKind.i64.wrap ((k:Int).tmod 64)=(s:Int):=by rw [IntWalk.rem_in _ _ (by omega),hk2,IntWalk.i64_in _ (by omega)]
 have Hk2:Hid (2 ^ k=B64 ^ d*2 ^ s):=by
  show _=_
  rw [show k=64*d+s by omega,Nat.pow_add,Nat.pow_mul];rfl
 have Hp:=ZZ hp;have La:=ZZ la;have En:=ZZ en;clear hp la en hd hs
 by_cases hdp:d<p
 ·obtain⟨ba,oa,rfl,hca0⟩:=hA.u (by rw [Hp.out];omega)
  obtain⟨m,hm⟩:∃m,p=d+m:=⟨p - d,by omega⟩;subst hm;have hmk:=mk_words m (m:Int) rfl (by omega);have Hys:Hid ((xs.drop d).length=m):=by show _=_;rw [List.length_drop,Hp.out];omega
  have Hn:Hid (n / 2 ^ k=num B64 (xs.drop d) / 2 ^ s):=by
   show _=_
   rw [Hk2.out,←Nat.div_div_eq_div_mul,←En.out,num_drop B64 xs d (by rw [Hp.out];omega)];have h1:=num_lt B64 (xs.take d) (fun e he=>La.out e (List.mem_of_mem_take he));rw [List.length_take,Nat.min_eq_left (by rw [Hp.out];omega)] at h1;rw [Nat.add_mul_div_left _ _ (Nat.pow_pos (by rw [B64_eq];omega)),Nat.div_eq_of_lt h1,Nat.zero_add]
  have Hcy:Hid (∀j,j<m→w.cell? ⟨ba,oa+d+j,none⟩=some (.int .u64 (((xs.drop d).getD j 0:Nat):Int))):=fun j hj=>by
   have h:=hca0 (d+j) (by rw [Hp.out];omega);rw [←Nat.add_assoc] at h;rw [h];simp [List.getD_eq_getElem?_getD,List.getElem?_drop]
  have Ly:Hid (∀e ∈ xs.drop d,e<B64):=fun e he=>La.out e (List.mem_of_mem_drop he);clear hca0 hA;generalize xs.drop d=ys at *
  go_enter Tryz.func152,Tryz.ntmps152
  go_wp2
  go_loopw [22] (fun i wr=>∃(j:Nat) (r:List Nat),j≤m∧i=.int .i64 j∧r.length=m∧(∀d ∈ r,d<B64)∧BkU wr w.heap.size r∧Below w.heap.size w wr∧num B64 (r.take j)+B64 ^ j*(num B64 (ys.drop j) / 2 ^ s)=num B64 ys / 2 ^ s) (fun i _=>m - (intOf i).toNat)
  case atStart=>exact⟨0,zs m,Nat.zero_le _,rfl,zs_length _,zs_lt (by rw [B64_eq];omega) _,BkU.new _ _,ab _ _,by simp⟩
  case round=>
   obtain⟨j,r,hj,rfl,hr,hrl,hbk,hbel,hnum⟩:=hrel;have Hr:=ZZ hr;have Hrl:=ZZ hrl;have Hbk:Hid (BkU wr w.heap.size r):=hbk;have Hnum:=ZZ hnum;clear hr hrl hbk hnum
   by_cases hlt:j<m
   ·have ea:=ap hbel (Hcy.out j hlt)
    have hxl:=getD_lt Ly.out (by rw [B64_eq];omega) j;have Hdx:Hid (ys.drop j=ys.getD j 0 :: ys.drop (j+1)):=drop_getD ys j (by rw [Hys.out];omega);generalize ys.getD j 0=x at *;have hci:=Hbk.out.cell j (by rw [Hr.out];omega);have hfi:=Hbk.out.frozen j
    by_cases hl1:j+1<m
    ·have eb:=ap hbel (Hcy.out (j+1) hl1)
     have hyl:=getD_lt Ly.out (by rw [B64_eq];omega) (j+1);have Hdy:Hid (ys.drop (j+1)=ys.getD (j+1) 0 :: ys.drop (j+1+1)):=drop_getD ys (j+1) (by rw [Hys.out];omega);generalize ys.getD (j+1) 0=y at *;obtain⟨H,L,v,hH,hL,hor,hv,hve,hH1,hL1⟩:=down_parts hxl hyl hs63
     have hw1:IntKind.u64.wrap ((y:Int)*2 ^ (64 - s))=(L:Int):=by
      rw [show (y:Int)*2 ^ (64 - s)=((y*2 ^ (64 - s):Nat):Int) from by simp,Mul64.wrapM,hL];rfl
     have hw2:(x:Int) / 2 ^ s=(H:Int):=by rw [hH];simp
     have hw3:bits .or .u64 (H:Int) (L:Int)=(v:Int):=by rw [bits_or_u64_nat H L hH1 hL1,hor]
     have Hset1:=ZZ (Hbk.out.set_ j H);have hset1:=Hset1.out;have hci2:=BkU.cell hset1 j (by rw [List.length_set,Hr.out];omega);have hfi2:=BkU.frozen hset1 j;have Hset2:=ZZ (BkU.set_ hset1 j v);have hgs:(r.set j H).getD j 0=H:=by simp [List.getD_eq_getElem?_getD,Hr.out,hlt]
     rw [hgs] at hci2;have Hv:=ZZ hv;have Hve:=ZZ hve;clear hset1 hgs hH hL hor hv hve hH1 hL1 hxl hyl
     go_wp2
     go_region
     go_wp2
     go_roundw
     case rel=>
      refine⟨j+1,r.set j v,by omega,by go_num,by rw [List.length_set,Hr.out],set_lt Hrl.out Hv.out _,?_,?_,?_⟩
      ·have:=Hset2.out
       rw [List.set_set] at this;exact this
      ·exact((hbel.setCell (Nat.le_refl _) _).drew).setCell (Nat.le_refl _) _
      ·have h1:=Hnum.out
       rw [Hdx.out,num_cons,down_div hs63] at h1;rw [num_set_take _ _ _ _ (by rw [Hr.out];omega),Hve.out,Nat.pow_succ];have h2:num B64 (ys.drop (j+1)) % 2 ^ s=y % 2 ^ s:=by rw [Hdy.out,num_cons,mod_pow_B hs63]
       rw [h2] at h1;rw [←h1];grind
     case measure=>simp [intOf];omega
    ·obtain⟨H,L,v,hH,hL,hor,hv,hve,hH1,hL1⟩:=down_parts hxl (y:=0) (by rw [B64_eq];omega) hs63
     have hw2:(x:Int) / 2 ^ s=(H:Int):=by rw [hH];simp
     have Hset1:=ZZ (Hbk.out.set_ j H);have HH:=ZZ hH;have HH1:=ZZ hH1;have hjm:ys.drop (j+1)=[]:=List.drop_of_length_le (by rw [Hys.out];omega);have Hjm:=ZZ hjm;clear hH hL hor hv hve hH1 hL1 hxl hjm
     go_wp2
     go_roundw
     case rel=>
      refine⟨j+1,r.set j H,by omega,by go_num,by rw [List.length_set,Hr.out],set_lt Hrl.out HH1.out _,Hset1.out,hbel.setCell (Nat.le_refl _) _,?_⟩;have h1:=Hnum.out;rw [Hdx.out,Hjm.out,num_cons] at h1;rw [num_set_take _ _ _ _ (by rw [Hr.out];omega),HH.out,Hjm.out,←h1]
      simp
     case measure=>simp [intOf];omega
   ·have hjp:j=m:=by omega
    subst hjp;have HC:=ZZ Hbk.out.cl;go_wp2_with fail;refine(cut_c _ r _ _ HC.out j Hr.out (by omega) (by omega)).mono ?_;rintro e w2 ⟨rfl,rfl⟩;go_wp2_with fail;go_ret;refine⟨_,rfl,?_,hbel⟩;have h1:=Hnum.out;rw [List.drop_of_length_le (by rw [Hys.out];omega),num_take_all _ _ (by rw [Hr.out];omega),num_nil,Nat.zero_div,Nat.mul_zero,Nat.add_zero] at h1;rw [Hn.out,←h1];exact cut_w Hrl.out HC.out (by rw [Hr.out];omega)
 ·have hz:n / 2 ^ k=0:=by
   rw [Nat.div_eq_zero_iff]
   right
   rw [Hk2.out,←En.out];have h1:=num_lt B64 xs La.out;rw [Hp.out] at h1;have h2:B64 ^ p≤B64 ^ d:=Nat.pow_le_pow_right (by rw [B64_eq];omega) (by omega);have h3:B64 ^ d*1≤B64 ^ d*2 ^ s:=Nat.mul_le_mul_left _ (Nat.pow_pos (by omega));omega
  have Hz:=ZZ hz;clear hz hA
  go_enter Tryz.func152,Tryz.ntmps152
  go_wp2
  go_ret;refine⟨_,rfl,?_,ae _⟩
  rw [Hz.out];exact Wd.zero _
end Go.Proofs.YtjamgccgoapbeaaGreatDoor
set_option linter.unusedVariables false
set_option maxRecDepth 100000
set_option maxHeartbeats 64000000
namespace Go.Proofs.YtjamgccgoapbeaaGreatDoor
theorem num_inj {B:Nat}:∀ {a b:List Nat},a.length=b.length→(∀d ∈ a,d<B)→(∀d ∈ b,d<B)→num B a=num B b→a=b
 | [],[],_,_,_,_=>rfl
 | x :: a,y :: b,hl,ha,hb,h=>by
  have hx:=ha x (by simp);have hy:=hb y (by simp)
  simp only [num_cons] at h
  have h1:x=y:=by
   have:=congrArg (· % B) h
   simpa [Nat.add_mul_mod_self_left,Nat.mod_eq_of_lt hx,Nat.mod_eq_of_lt hy] using this
  subst h1;have h2:num B a=num B b:=Nat.eq_of_mul_eq_mul_left (show 0<B by omega) (by omega);rw [num_inj (by simpa using hl) (fun d hd=>ha d (by simp [hd])) (fun d hd=>hb d (by simp [hd])) h2]
theorem num_eq_zero {B:Nat} (hB:0<B):∀ {l:List Nat},num B l=0→∀d ∈ l,d=0
 | [],_,d,hd=>by simp at hd
 | x :: l,h,d,hd=>by
  simp only [num_cons] at h
  have hx:x=0:=by omega
  have hn:num B l=0:=by
   have:B*num B l=0:=by omega
   rcases Nat.mul_eq_zero.1 this with h|h
   ·omega
   ·exact h
  rcases List.mem_cons.1 hd with rfl|hd
  ·exact hx
  ·exact num_eq_zero hB hn d hd
theorem num_take_of_lt {B:Nat} (hB:0<B) {l:List Nat} {k:Nat} (hk:k≤l.length) (h:num B l<B ^ k):num B (l.take k)=num B l∧num B (l.drop k)=0:=by
 have e:=num_drop B l k hk;have hp:0<B ^ k:=Nat.pow_pos hB
 have h0:num B (l.drop k)=0:=by
  rcases Nat.eq_zero_or_pos (num B (l.drop k)) with h0|h0
  ·exact h0
  ·have:=Nat.mul_le_mul_left (B ^ k) h0
   omega
 rw [h0] at e;exact⟨by omega,h0⟩
theorem num_lt_of_same {B:Nat} (hB:0<B) {us us':List Nat} {k:Nat} (hk:k≤us.length) (hl:us'.length=us.length) (hd:∀d ∈ us',d<B) (h:num B us<B ^ k) (hs:∀i,k≤i→us'.getD i 0=us.getD i 0):num B us'<B ^ k:=by
 obtain⟨-,h0⟩:=num_take_of_lt hB hk h
 have he:us'.drop k=us.drop k:=by
  apply List.ext_getElem
  ·simp [hl]
  ·intro i h1 h2
   simp only [List.length_drop] at h1 h2
   have:=hs (k+i) (by omega)
   rw [List.getD_eq_getElem?_getD,List.getD_eq_getElem?_getD,List.getElem?_eq_getElem (by omega),List.getElem?_eq_getElem (by omega)] at this
   simpa using this
 have e:=num_drop B us' k (by omega);rw [he,h0] at e
 have:=num_lt B (us'.take k) (fun d hd'=>hd d (List.mem_of_mem_take hd'))
 rw [List.length_take,Nat.min_eq_left (by omega)] at this;omega
theorem round_take {B:Nat} (hB:0<B) {us us':List Nat} {j r t V:Nat} {b:Bool} (hk:j+r+1≤us.length) (hl:us'.length=us.length) (hd:∀d ∈ us',d<B) (hV:0<V) (hlt:num B us<B ^ (j+r+1)) (hs:∀i,i<j∨j+r<i→us'.getD i 0=us.getD i 0) (h:num B us'+B ^ j*(t*V)=num B us+B ^ (j+r+1)*(if b then 1 else 0)) (ht:num B us / (B ^ j*V)≤t):(b=true→num B us / (B ^ j*V)<t)∧(b=false→t=num B us / (B ^ j*V)∧num B us'=num B us % (B ^ j*V))∧num B us'<B ^ (j+r+1):=by
 have hlt':=num_lt_of_same hB hk hl hd hlt (fun i hi=>hs i (by omega));have hP:0<B ^ j*V:=Nat.mul_pos (Nat.pow_pos hB) hV;rw [show B ^ j*(t*V)=t*(B ^ j*V) by rw [Nat.mul_left_comm]] at h;generalize B ^ j*V=P at *;refine⟨fun hb=>?_,fun hb=>?_,hlt'⟩
 ·subst hb
  rw [if_pos rfl] at h
  apply Nat.lt_of_not_le
  intro hle
  have:t*P≤num B us:=by rw [←Nat.le_div_iff_mul_le hP];exact hle
  omega
 ·subst hb
  rw [if_neg (by decide)] at h;have h1:t≤num B us / P:=by rw [Nat.le_div_iff_mul_le hP];omega
  have h2:t=num B us / P:=Nat.le_antisymm h1 ht;refine⟨h2,?_⟩
  have:=Nat.div_add_mod (num B us) P
  rw [←h2,Nat.mul_comm] at this;omega
theorem round_give {B:Nat} (hB:0<B) {us us' us'':List Nat} {j r t V:Nat} {b:Bool} (hk:j+r+1≤us.length) (hl:us'.length=us.length) (hl':us''.length=us'.length) (hd0:∀d ∈ us,d<B) (hd:∀d ∈ us'',d<B) (hlt:num B us<B ^ (j+r+1)) (hlt':num B us'<B ^ (j+r+1)) (hs:∀i,i<j∨j+r<i→us''.getD i 0=us'.getD i 0) (h1:num B us'+B ^ j*(t*V)=num B us+B ^ (j+r+1)*(if true then 1 else 0)) (h:num B us''+B ^ (j+r+1)*(if b then 1 else 0)=num B us'+B ^ j*(t*V)):us''=us:=by
 have hlt'':=num_lt_of_same hB (by omega) hl' hd hlt' (fun i hi=>hs i (by omega));rw [if_pos rfl] at h1
 apply num_inj (by omega) hd hd0
 cases b
 ·rw [if_neg (by decide)] at h;omega
 ·rw [if_pos rfl] at h;omega
theorem guess_ge {B:Nat} (hB:0<B) {us vs:List Nat} {j q:Nat} (hu:j+q+2≤us.length) (hv:vs.length=q+1) (hd:∀d ∈ us,d<B) (hlt:num B us<B ^ (j+q+2)) (hp:0<vs.getD q 0):num B us / (B ^ j*num B vs)≤(us.getD (j+q+1) 0*B+us.getD (j+q) 0) / vs.getD q 0:=by
 obtain⟨e,-⟩:=num_take_of_lt hB hu hlt;rw [num_take_succ B us (j+q+1) (by omega),num_take_succ B us (j+q) (by omega)] at e
 have h1:num B vs=num B (vs.take q)+B ^ q*vs.getD q 0:=by
  have:=num_take_succ B vs q (by omega)
  rwa [num_take_all B vs (by omega)] at this
 have h2:=num_lt B (us.take (j+q)) (fun d hd'=>hd d (List.mem_of_mem_take hd'));rw [List.length_take,Nat.min_eq_left (by omega)] at h2;generalize us.getD (j+q+1) 0=a at *;generalize us.getD (j+q) 0=c at *;generalize vs.getD q 0=v at *;rw [Nat.le_div_iff_mul_le hp];have h3:=Nat.div_mul_le_self (num B us) (B ^ j*num B vs);generalize num B us / (B ^ j*num B vs)=D at *
 have h4:D*v*B ^ (j+q)≤num B us:=by
  refine Nat.le_trans ?_ h3;rw [h1,Nat.mul_add,Nat.mul_add,Nat.pow_add];refine Nat.le_trans (Nat.le_of_eq ?_) (Nat.le_add_left _ _)
  simp only [Nat.mul_assoc,Nat.mul_left_comm,Nat.mul_comm]
 have h5:num B us<(a*B+c+1)*B ^ (j+q):=by
  rw [←e,Nat.pow_succ]
  have:(a*B+c+1)*B ^ (j+q)=B ^ (j+q)*c+B ^ (j+q)*B*a+B ^ (j+q):=by
   grind
  omega
 have h6:D*v*B ^ (j+q)<(a*B+c+1)*B ^ (j+q):=Nat.lt_of_le_of_lt h4 h5
 have:=Nat.lt_of_mul_lt_mul_right h6
 omega
theorem scaled {B n q y R:Nat} {S S':Nat} (hS:B=S*S') (hn:n=R+B ^ q*y) (hR:R<B ^ q) (h1:y*S<B) (h2:B≤2*(y*S)) (hS0:0<S):n*S<B ^ (q+1)∧B ^ (q+1)≤2*(n*S):=by
 constructor
 ·have hy:y+1≤S':=by
   rw [hS,Nat.mul_comm S S'] at h1;exact Nat.lt_of_mul_lt_mul_right h1
  have h3:n<B ^ q*(y+1):=by rw [Nat.mul_add];omega
  have h4:n*S<B ^ q*(y+1)*S:=Nat.mul_lt_mul_of_pos_right h3 hS0;refine Nat.lt_of_lt_of_le h4 ?_;rw [Nat.pow_succ,Nat.mul_assoc,hS];refine Nat.mul_le_mul_left _ ?_;rw [Nat.mul_comm S S'];exact Nat.mul_le_mul_right _ hy
 ·rw [Nat.pow_succ]
  refine Nat.le_trans (Nat.mul_le_mul_left _ h2) ?_;rw [hn,Nat.add_mul,Nat.mul_add,Nat.mul_left_comm (B ^ q) 2,Nat.mul_assoc (B ^ q) y S];exact Nat.le_add_left _ _
theorem start_lt {B m M V p q S:Nat} (hq:q≤p) (hS:2*S≤B) (hm:m<B ^ p) (hM:M=m*S) (hS0:0<S) (hV:B ^ (q+1)≤2*V):M<B ^ (p - q)*V:=by
 have h1:M<B ^ p*S:=by rw [hM];exact Nat.mul_lt_mul_of_pos_right hm hS0
 have h2:B ^ (p - q)*B ^ (q+1)≤B ^ (p - q)*(2*V):=Nat.mul_le_mul_left _ hV;rw [←Nat.pow_add,show p - q+(q+1)=p+1 by omega,Nat.pow_succ,Nat.mul_left_comm] at h2;have h3:B ^ p*(2*S)≤B ^ p*B:=Nat.mul_le_mul_left _ hS;rw [Nat.mul_left_comm] at h3;omega
theorem outer_step {B V M N j D:Nat} {qs:List Nat} (hj:j<qs.length) (hinv:num B (qs.drop (j+1))*(B ^ (j+1)*V)+N=M) (hD:D=N / (B ^ j*V)):num B ((qs.set j D).drop j)*(B ^ j*V)+N % (B ^ j*V)=M:=by
 have h1:(qs.set j D).drop j=D :: qs.drop (j+1):=by
  rw [List.drop_eq_getElem_cons (by simpa using hj)]
  simp [List.drop_set]
 have h2:=Nat.div_add_mod N (B ^ j*V);rw [←hD] at h2;rw [h1,num_cons,Nat.add_mul,←hinv]
 have h3:B*num B (qs.drop (j+1))*(B ^ j*V)=num B (qs.drop (j+1))*(B ^ (j+1)*V):=by
  rw [Nat.pow_succ];simp only [Nat.mul_assoc,Nat.mul_left_comm,Nat.mul_comm]
 rw [h3,Nat.mul_comm D];omega
theorem long_end {m n S Q N:Nat} (hS:0<S) (hn:0<n) (h:Q*(n*S)+N=m*S) (hN:N<n*S):Q=m / n∧N / S=m % n:=by
 have h1:m*S / (n*S)=Q:=by
  rw [←h,Nat.add_comm,Nat.add_mul_div_right _ _ (Nat.mul_pos hn hS),Nat.div_eq_of_lt hN,Nat.zero_add]
 have h2:m*S % (n*S)=N:=by
  rw [←h,Nat.add_comm,Nat.add_mul_mod_self_right,Nat.mod_eq_of_lt hN]
 rw [Nat.mul_div_mul_right _ _ hS] at h1;rw [Nat.mul_mod_mul_right] at h2;exact⟨h1.symm,by rw [←h2,Nat.mul_div_cancel _ hS]⟩
theorem room {B:Nat} {l:List Nat} {p:Nat} (hB:0<B) (h1:p≤l.length) (h2:l.length≤p+1) (hd:∀d ∈ l,d<B):((l ++ [0,0]).take (p+1)).length=p+1∧num B ((l ++ [0,0]).take (p+1))=num B l∧∀d ∈ (l ++ [0,0]).take (p+1),d<B:=by
 refine⟨by simp;omega,?_,?_⟩
 ·rcases Nat.lt_or_ge p l.length with h|h
  ·rw [List.take_append_of_le_length (by omega),num_take_all B l (by omega)]
  ·have e:l.length=p:=by omega
   subst e;rw [List.take_append,List.take_of_length_le (by omega),show l.length+1 - l.length=1 by omega]
   show num B (l ++ [0])=_
   rw [num_snoc];simp
 ·intro d hd'
  have:=List.mem_of_mem_take hd'
  simp only [List.mem_append,List.mem_cons,List.not_mem_nil,or_false] at this
  rcases this with h|rfl|rfl
  ·exact hd d h
  ·exact hB
  ·exact hB
theorem cut_length (l:List Nat):(cut l).length≤l.length:=by
 induction l with
 | nil=>simp [cut]
 | cons d l ih=>unfold cut;split <;> simp;omega
theorem cut_take (l:List Nat):l.take (cut l).length=cut l:=by
 induction l with
 | nil=>simp [cut]
 | cons d l ih=>
  unfold cut
  split
  ·simp
  ·simp [ih]
end Go.Proofs.YtjamgccgoapbeaaGreatDoor
