/- The program's natural numbers: dividing by one word, size, shifting. -/
import Derived.Test.YtkoaakefgacokaaGreatDoorGWd
import Derived.Test.YtkoaakefgacokaaGreatDoorGWc
set_option linter.unusedVariables false
set_option maxRecDepth 100000
set_option maxHeartbeats 64000000
namespace Go.Proofs.YtkoaakefgacokaaGreatDoor
open Go.RowKit
theorem drop_set_self (l:List Nat) (k v:Nat) (h:k<l.length):(l.set k v).drop k=v :: l.drop (k+1):=by
 rw [List.drop_eq_getElem_cons (by simpa using h)]
 simp [List.drop_set]
theorem drop_getD (l:List Nat) (k:Nat) (h:k<l.length):l.drop k=l.getD k 0 :: l.drop (k+1):=by
 rw [List.drop_eq_getElem_cons h];simp [List.getD_eq_getElem?_getD,h]
theorem by1_step {B N M q b r a r' c:Nat} (h:M*b+r=N) (hd:q*b+r'=r*B+a):(q+B*M)*b+r'=a+B*N:=by subst h;grind
theorem by1_c (va:Value) (n b:Nat) (w:World) (ha:Wd w va n) (sa:Sm n) (h0:0<b) (hb:b<B64):Calls Tryz.prog 88 #[va,.int .u64 b] w fun e w'=>(∃v r:_,e=.returned (.tuple #[v,.int .u64 ((r:Nat):Int)])∧r=n % b∧Wd w' v (n / b))∧Ext w w':=by
 obtain⟨A,ca,rfl,hca,hA⟩:=ha;have la:=dg_lt n;have en:=num_dg n;unfold Sm at sa;generalize dg n=xs at *;obtain⟨p,hp⟩:∃p,xs.length=p:=⟨_,rfl⟩;rw [hp] at hca sa ⊢;have Hp:=ZZ hp;have La:=ZZ la;have En:=ZZ en;have Hb:=ZZ hb;have hmk:=mk_words p (p:Int) rfl (by omega);clear hp la en hb
 go_enter Tryz.func88,Tryz.ntmps88
 go_wp2
 go_loopw [7,8] (fun c i wr=>∃(k rest:Nat) (r:List Nat),k≤p∧i=.int .i64 ((k:Int) - 1)∧c=.int .u64 rest∧rest<b∧r.length=p∧(∀d ∈ r,d<B64)∧BkU wr w.heap.size r∧Below w.heap.size w wr∧num B64 (r.drop k)*b+rest=num B64 (xs.drop k)) (fun _ i _=>(intOf i+1).toNat)
 case atStart=>exact⟨p,0,zs p,Nat.le_refl _,rfl,rfl,h0,zs_length _,zs_lt (by rw [B64_eq];omega) _,BkU.new _ _,ab _ _,by
  rw [List.drop_of_length_le (by rw [zs_length];omega),List.drop_of_length_le (by rw [Hp.out];omega)];simp⟩
 case round=>
  obtain⟨k,rest,r,hk,rfl,rfl,hrest,hr,hrl,hbk,hbel,hnum⟩:=hrel;have Hr:=ZZ hr;have Hrl:=ZZ hrl;have Hbk:Hid (BkU wr w.heap.size r):=hbk;have Hnum:=ZZ hnum;clear hr hrl hbk hnum
  by_cases hz:k=0
  ·subst hz
   have HC:=ZZ Hbk.out.cl;go_wp2_with fail;refine(cut_c _ r _ _ HC.out p Hr.out (by omega) (by omega)).mono ?_;rintro e w2 ⟨rfl,rfl⟩;go_wp2_with fail
   go_ret2
   have h1:=Hnum.out
   simp only [List.drop_zero] at h1
   rw [En.out] at h1
   have h2:n / b=num B64 r∧n % b=rest:=by
    rw [←h1,Nat.mul_comm]
    constructor
    ·rw [Nat.mul_add_div h0,Nat.div_eq_of_lt hrest,Nat.add_zero]
    ·rw [Nat.mul_add_mod,Nat.mod_eq_of_lt hrest]
   refine⟨⟨_,rest,rfl,h2.2.symm,?_⟩,hbel⟩;rw [h2.1];exact cut_w Hrl.out HC.out (by rw [Hr.out];omega)
  ·obtain⟨k,rfl⟩:∃j,k=j+1:=⟨k - 1,by omega⟩
   obtain⟨ba,oa,rfl,hca'⟩:=hA.u (by rw [Hp.out];omega);have ea:=ao hbel (hca' k (by rw [Hp.out];omega));have hxl:=getD_lt La.out (by rw [B64_eq];omega) k;have Hdx:Hid (xs.drop k=xs.getD k 0 :: xs.drop (k+1)):=drop_getD xs k (by rw [Hp.out];omega);clear hca' hA hz;generalize xs.getD k 0=x at *;have Hxl:=ZZ hxl;clear hxl;go_wp2_with fail;refine(div64_c rest x b hrest Hxl.out Hb.out _).mono ?_;rintro e w1 ⟨⟨q,s,rfl,hqs,hs,hq⟩,hext⟩;have hbel1:=hbel.trans (hext.mono hbel.size);have Hbk1:Hid (BkU w1 w.heap.size r):=Hbk.out.ext hext;have hci:=Hbk1.out.cell k (by rw [Hr.out];omega);have hfi:=Hbk1.out.frozen k;have Hset:=ZZ (Hbk1.out.set_ k q);have Hqs:=ZZ hqs;have Hq:=ZZ hq;clear hqs hq ea;go_wp2_with fail
   go_roundw
   case rel=>
    refine⟨k,s,r.set k q,by omega,by simp,rfl,hs,by rw [List.length_set,Hr.out],set_lt Hrl.out Hq.out k,Hset.out,hbel1.setCell (Nat.le_refl _) _,?_⟩;rw [drop_set_self r k q (by rw [Hr.out];omega),Hdx.out,num_cons,num_cons];exact by1_step (c:=0) Hnum.out Hqs.out
   case measure=>simp [intOf]
theorem dg_length_size {n:Nat} (h0:0<n):(dg n).getD ((dg n).length - 1) 0<B64∧0<(dg n).getD ((dg n).length - 1) 0∧0<(dg n).length∧n=num B64 ((dg n).take ((dg n).length - 1))+B64 ^ ((dg n).length - 1)*(dg n).getD ((dg n).length - 1) 0∧num B64 ((dg n).take ((dg n).length - 1))<B64 ^ ((dg n).length - 1):=by
 have h1:=dg_norm n;have h2:dg n≠[]:=dig_ne_nil B64_two h0;have h3:0<(dg n).length:=List.length_pos_iff.2 h2;have e:=num_dg n;generalize dg n=l at *;have h4:=num_take_succ B64 l (l.length - 1) (by omega);rw [show l.length - 1+1=l.length by omega,List.take_length,e] at h4;refine⟨getD_lt h1.lt (by rw [B64_eq];omega) _,?_,h3,h4,?_⟩
 ·rcases Nat.eq_zero_or_pos (l.getD (l.length - 1) 0) with h5|h5
  ·exfalso
   apply h1.last
   rw [List.getLast?_eq_getElem?];rw [List.getD_eq_getElem?_getD] at h5;rw [List.getElem?_eq_getElem (by omega)] at h5 ⊢
   simpa using h5
  ·exact h5
 ·have:=num_lt B64 (l.take (l.length - 1)) (fun d hd=>h1.lt d (List.mem_of_mem_take hd))
  rwa [List.length_take,Nat.min_eq_left (by omega)] at this
def bl (n:Nat):Nat:=if n=0 then 0 else Nat.log2 n+1
theorem bl_unique {n k:Nat} (h1:n<2 ^ k) (h2:k=0∨2 ^ (k - 1)≤n):bl n=k:=by
 unfold bl
 rcases h2 with rfl|h2
 ·simp at h1;simp [h1]
 ·have h0:n≠0:=by have:=Nat.pow_pos (n:=k - 1) (show 0<2 by omega);omega
  have h3:k≠0:=by rintro rfl;simp at h1;omega
  rw [if_neg h0];have h4:Nat.log2 n<k:=(Nat.log2_lt h0).2 h1;have h5:k - 1≤Nat.log2 n:=(Nat.le_log2 h0).2 h2;omega
theorem shift_parts {x s:Nat} (hx:x<B64) (hs:s<64):∃L H:Nat,L=x*2 ^ s % B64∧H=x / 2 ^ (64 - s)∧L+B64*H=x*2 ^ s∧L<B64∧H<2 ^ s∧∀o,o<2 ^ s→o ||| L=o+L∧o+L<B64:=by
 have e64:B64=2 ^ (64 - s)*2 ^ s:=by rw [←Nat.pow_add,show 64 - s+s=64 from by omega];rfl
 have hp:0<2 ^ s:=Nat.pow_pos (by omega);have hq:0<2 ^ (64 - s):=Nat.pow_pos (by omega);have hL:x*2 ^ s % B64=x % 2 ^ (64 - s)*2 ^ s:=by rw [e64,Nat.mul_mod_mul_right]
 have hm:x % 2 ^ (64 - s)<2 ^ (64 - s):=Nat.mod_lt _ hq;refine⟨_,_,rfl,rfl,?_,Nat.mod_lt _ (by rw [B64_eq];omega),?_,fun o ho=>⟨?_,?_⟩⟩
 ·rw [hL]
  have:=Nat.div_add_mod x (2 ^ (64 - s))
  conv=>rhs;rw [←this]
  rw [e64];grind
 ·rw [Nat.div_lt_iff_lt_mul hq,Nat.mul_comm,←e64];exact hx
 ·rw [hL,Nat.or_comm,Nat.mul_comm (x % _),←Nat.two_pow_add_eq_or_of_lt ho,Nat.add_comm]
 ·rw [hL,e64]
  have:=Nat.mul_le_mul_right (2 ^ s) (show x % 2 ^ (64 - s)+1≤2 ^ (64 - s) from hm)
  rw [Nat.add_mul] at this;omega
theorem up_step {N R' R B P D S x o L H R1:Nat} (h:R=N*(D*S)) (hx:L+B*H=x*S) (h1:R1+P*D*o=R+P*D*(o+L)) (h2:R'=R1+P*D*B*H):R'=(N+P*x)*(D*S):=by
 subst h2 h;have h3:P*D*(L+B*H)=P*D*(x*S):=by rw [hx]
 grind
theorem up_r (va:Value) (n k:Nat) (w:World) (ha:Wd w va n) (sa:Sm n) (hk:k≤70368744177664):Calls Tryz.prog 117 #[va,.int .i64 k] w fun e w'=>(∃r:List Nat,e=.returned (.slice (some ⟨w.heap.size,0,none⟩) (cut r).length ((dg n).length+k / 64+1))∧r.length=(dg n).length+k / 64+1∧(∀d ∈ r,d<B64)∧BkU w' w.heap.size r∧num B64 r=n*2 ^ k)∧Ext w w':=by
 obtain⟨A,ca,rfl,hca,hA⟩:=ha;have la:=dg_lt n;have en:=num_dg n;unfold Sm at sa;generalize dg n=xs at *;obtain⟨p,hp⟩:∃p,xs.length=p:=⟨_,rfl⟩;rw [hp] at hca sa ⊢;obtain⟨d,hd⟩:∃d,d=k / 64:=⟨_,rfl⟩;obtain⟨s,hs⟩:∃s,s=k % 64:=⟨_,rfl⟩;rw [←hd];have hs63:s<64:=by omega
 have hdb:d≤1099511627776:=by omega
 have hk1:(k:Int) / 64=(d:Int):=by omega
 have hk2:(k:Int) % 64=(s:Int):=by omega
 have hk1':IntKind.i64.wrap ((k:Int).tdiv 64)=(d:Int):=by rw [IntWalk.i64_quo _ _ ⟨by omega,by omega,by omega⟩,hk1]
 have hk2':IntKind.i64.wrap ((k:Int).tmod 64)=(s:Int):=by rw [IntWalk.rem_in _ _ (by omega),hk2,IntWalk.i64_in _ (by omega)]
 have Hk2:Hid (2 ^ k=B64 ^ d*2 ^ s):=by
  show _=_
  rw [show k=64*d+s by omega,Nat.pow_add,Nat.pow_mul];rfl
 have Hp:=ZZ hp;have La:=ZZ la;have En:=ZZ en;have hmk:=mk_words (p+d+1) ((p:Int)+(d:Int)+1) (by omega) (by omega);clear hp la en hd hs
 go_enter Tryz.func117,Tryz.ntmps117
 go_wp2
 go_loopw [17] (fun i wr=>∃(j:Nat) (r:List Nat),j≤p∧i=.int .i64 j∧r.length=p+d+1∧(∀d ∈ r,d<B64)∧BkU wr w.heap.size r∧Below w.heap.size w wr∧num B64 r=num B64 (xs.take j)*(B64 ^ d*2 ^ s)∧r.getD (j+d) 0<2 ^ s∧∀t,j+d<t→r.getD t 0=0) (fun i _=>p - (intOf i).toNat)
 case atStart=>
  refine⟨0,zs (p+d+1),Nat.zero_le _,rfl,zs_length _,zs_lt (by rw [B64_eq];omega) _,BkU.new _ _,ab _ _,by simp [zs,num_replicate_zero],?_,fun t _=>?_⟩
  ·have:(zs (p+d+1)).getD (0+d) 0=0:=by
    simp [zs,List.getD_eq_getElem?_getD,List.getElem?_replicate];split <;> rfl
   rw [this];exact Nat.pow_pos (by omega)
  ·simp [zs,List.getD_eq_getElem?_getD,List.getElem?_replicate];split <;> rfl
 case round=>
  obtain⟨j,r,hj,rfl,hr,hrl,hbk,hbel,hnum,hlo,hz⟩:=hrel;have Hr:=ZZ hr;have Hrl:=ZZ hrl;have Hbk:Hid (BkU wr w.heap.size r):=hbk;have Hnum:=ZZ hnum;have Hz:=ZZ hz;clear hr hrl hbk hnum hz
  by_cases hlt:j<p
  ·obtain⟨ba,oa,rfl,hca'⟩:=hA.u (by rw [Hp.out];omega)
   have ea:=ao hbel (hca' j (by rw [Hp.out];omega));have hxl:=getD_lt La.out (by rw [B64_eq];omega) j;have Htk:Hid (num B64 (xs.take (j+1))=num B64 (xs.take j)+B64 ^ j*xs.getD j 0):=num_take_le _ _ _;clear hca' hA;generalize xs.getD j 0=x at *;have hci:=Hbk.out.cell (j+d) (by rw [Hr.out];omega);have hfi:=Hbk.out.frozen (j+d);have ho:=getD_lt Hrl.out (by rw [B64_eq];omega) (j+d);have Hns:=ZZ (fun s=>num_set B64 r (j+d) s (by rw [Hr.out];omega));generalize r.getD (j+d) 0=o at *;obtain⟨L,H,hL,hH,hLH,hL1,hH1,hor⟩:=shift_parts hxl hs63;obtain⟨hor1,hor2⟩:=hor o hlo;obtain⟨v,hv⟩:∃v,v=o+L:=⟨_,rfl⟩
   have hw1:IntKind.u64.wrap ((x:Int)*2 ^ s)=(L:Int):=by
    rw [show (x:Int)*2 ^ s=((x*2 ^ s:Nat):Int) from by simp,Mul64.wrapM,hL];rfl
   have hw2:(x:Int) / 2 ^ (64 - s)=(H:Int):=by rw [hH];simp
   have hw3:bits .or .u64 (o:Int) (L:Int)=(v:Int):=by rw [bits_or_u64_nat o L ho hL1,hor1,hv]
   have Hset1:=ZZ (Hbk.out.set_ (j+d) v);have hset1:=Hset1.out;have hci2:=BkU.cell hset1 (j+d+1) (by rw [List.length_set,Hr.out];omega);have hfi2:=BkU.frozen hset1 (j+d+1);have Hset2:=ZZ (BkU.set_ hset1 (j+d+1) H);rw [getD_set_ne (by omega),Hz.out (j+d+1) (by omega)] at hci2;have Hv:=ZZ hv;have HLH:=ZZ hLH;have HH1:=ZZ hH1;have Hor2:Hid (v<B64):=by show _<_;rw [hv];exact hor2
   have HHB:Hid (H<B64):=by
    show _<_
    refine Nat.lt_of_lt_of_le hH1 ?_
    have:2 ^ s≤2 ^ 64:=Nat.pow_le_pow_right (by omega) (by omega)
    exact this
   clear hset1 hL hH hLH hL1 hH1 hor hor1 hor2 hv hxl ho hlo
   go_wp2
   go_region
   go_wp2
   go_roundw
   case rel=>
    refine⟨j+1,(r.set (j+d) v).set (j+d+1) H,by omega,by go_num,by rw [List.length_set,List.length_set,Hr.out],set_lt (set_lt Hrl.out Hor2.out _) HHB.out _,Hset2.out,?_,?_,?_,?_⟩
    ·exact((hbel.drew).setCell (Nat.le_refl _) _).setCell (Nat.le_refl _) _
    ·have h2:=num_set B64 (r.set (j+d) v) (j+d+1) H (by rw [List.length_set,Hr.out];omega)
     rw [getD_set_ne (by omega),Hz.out (j+d+1) (by omega),Nat.mul_zero,Nat.add_zero] at h2;have h1:=Hns.out v;rw [Nat.pow_add] at h1;rw [Nat.pow_succ,Nat.pow_add] at h2;rw [Htk.out];rw [Hv.out] at h1;rw [←Hv.out] at h1;exact up_step Hnum.out HLH.out (by rw [←Hv.out];exact h1) h2
    ·rw [show j+1+d=j+d+1 by omega]
     simp [List.getD_eq_getElem?_getD,List.getElem?_set,Hr.out]
     rw [if_pos (by omega)];exact HH1.out
    ·intro t ht
     rw [getD_set_ne (by omega),getD_set_ne (by omega)];exact Hz.out t (by omega)
   case measure=>simp [intOf];omega
  ·have hjp:j=p:=by omega
   subst hjp;have HC:=ZZ Hbk.out.cl;go_wp2_with fail;refine(cut_c _ r _ _ HC.out (j+d+1) Hr.out (by omega) (by omega)).mono ?_;rintro e w2 ⟨rfl,rfl⟩;go_wp2_with fail;go_ret;refine⟨⟨r,rfl,Hr.out,Hrl.out,Hbk.out,?_⟩,hbel⟩;rw [Hnum.out,num_take_all _ _ (by rw [Hp.out];omega),En.out,Hk2.out]
theorem down_parts {x y s:Nat} (hx:x<B64) (hy:y<B64) (hs:s<64):∃H L v:Nat,H=x / 2 ^ s∧L=y*2 ^ (64 - s) % B64∧H ||| L=v∧v<B64∧v=x / 2 ^ s+2 ^ (64 - s)*(y % 2 ^ s)∧H<B64∧L<B64:=by
 have e64:B64=2 ^ s*2 ^ (64 - s):=by rw [←Nat.pow_add,show s+(64 - s)=64 from by omega];rfl
 have hp:0<2 ^ s:=Nat.pow_pos (by omega);have hq:0<2 ^ (64 - s):=Nat.pow_pos (by omega);have hL:y*2 ^ (64 - s) % B64=y % 2 ^ s*2 ^ (64 - s):=by rw [e64,Nat.mul_mod_mul_right]
 have hm:y % 2 ^ s<2 ^ s:=Nat.mod_lt _ hp;have hH:x / 2 ^ s<2 ^ (64 - s):=by rw [Nat.div_lt_iff_lt_mul hp,Nat.mul_comm,←e64];exact hx
 have hB:0<B64:=by rw [B64_eq];omega
 refine⟨_,_,x / 2 ^ s+2 ^ (64 - s)*(y % 2 ^ s),rfl,rfl,?_,?_,rfl,?_,Nat.mod_lt _ hB⟩
 ·rw [hL,Nat.or_comm,Nat.mul_comm (y % _),←Nat.two_pow_add_eq_or_of_lt hH,Nat.add_comm]
 ·rw [e64]
  have:=Nat.mul_le_mul_left (2 ^ (64 - s)) (show y % 2 ^ s+1≤2 ^ s from hm)
  rw [Nat.mul_add,Nat.mul_comm _ (2 ^ s)] at this;omega
 ·exact Nat.lt_of_le_of_lt (Nat.div_le_self _ _) hx
theorem down_div {x N s:Nat} (hs:s<64):(x+B64*N) / 2 ^ s=(x / 2 ^ s+2 ^ (64 - s)*(N % 2 ^ s))+B64*(N / 2 ^ s):=by
 have e64:B64=2 ^ s*2 ^ (64 - s):=by rw [←Nat.pow_add,show s+(64 - s)=64 from by omega];rfl
 have hp:0<2 ^ s:=Nat.pow_pos (by omega)
 have h1:(x+B64*N) / 2 ^ s=x / 2 ^ s+2 ^ (64 - s)*N:=by
  rw [e64,Nat.mul_assoc,Nat.add_mul_div_left _ _ hp]
 rw [h1,e64]
 have:=Nat.div_add_mod N (2 ^ s)
 conv=>lhs;rw [←this]
 rw [Nat.mul_add];grind
theorem mod_pow_B {y N s:Nat} (hs:s<64):(y+B64*N) % 2 ^ s=y % 2 ^ s:=by
 have e64:B64=2 ^ s*2 ^ (64 - s):=by rw [←Nat.pow_add,show s+(64 - s)=64 from by omega];rfl
 rw [e64,Nat.mul_assoc,Nat.add_mul_mod_self_left]
theorem down_c (va:Value) (n k:Nat) (w:World) (ha:Wd w va n) (sa:Sm n) (hk:k≤70368744177664):Calls Tryz.prog 121 #[va,.int .i64 k] w fun e w'=>∃v,e=.returned v∧Wd w' v (n / 2 ^ k)∧Ext w w':=by
 obtain⟨A,ca,rfl,hca,hA⟩:=ha;have la:=dg_lt n;have en:=num_dg n;unfold Sm at sa;generalize dg n=xs at *;obtain⟨p,hp⟩:∃p,xs.length=p:=⟨_,rfl⟩;rw [hp] at hca sa ⊢;obtain⟨d,hd⟩:∃d,d=k / 64:=⟨_,rfl⟩;obtain⟨s,hs⟩:∃s,s=k % 64:=⟨_,rfl⟩;have hs63:s<64:=by omega
 have hdb:d≤1099511627776:=by omega
 have hk1:(k:Int) / 64=(d:Int):=by omega
 have hk2:(k:Int) % 64=(s:Int):=by omega
 have hk1':IntKind.i64.wrap ((k:Int).tdiv 64)=(d:Int):=by rw [IntWalk.i64_quo _ _ ⟨by omega,by omega,by omega⟩,hk1]
 have hk2':IntKind.i64.wrap ((k:Int).tmod 64)=(s:Int):=by rw [IntWalk.rem_in _ _ (by omega),hk2,IntWalk.i64_in _ (by omega)]
 have Hk2:Hid (2 ^ k=B64 ^ d*2 ^ s):=by
  show _=_
  rw [show k=64*d+s by omega,Nat.pow_add,Nat.pow_mul];rfl
 have Hp:=ZZ hp;have La:=ZZ la;have En:=ZZ en;clear hp la en hd hs
 by_cases hdp:d<p
 ·obtain⟨ba,oa,rfl,hca0⟩:=hA.u (by rw [Hp.out];omega)
  obtain⟨m,hm⟩:∃m,p=d+m:=⟨p - d,by omega⟩;subst hm;have hmk:=mk_words m (m:Int) rfl (by omega);have Hys:Hid ((xs.drop d).length=m):=by show _=_;rw [List.length_drop,Hp.out];omega
  have Hn:Hid (n / 2 ^ k=num B64 (xs.drop d) / 2 ^ s):=by
   show _=_
   rw [Hk2.out,←Nat.div_div_eq_div_mul,←En.out,num_drop B64 xs d (by rw [Hp.out];omega)];have h1:=num_lt B64 (xs.take d) (fun e he=>La.out e (List.mem_of_mem_take he));rw [List.length_take,Nat.min_eq_left (by rw [Hp.out];omega)] at h1;rw [Nat.add_mul_div_left _ _ (Nat.pow_pos (by rw [B64_eq];omega)),Nat.div_eq_of_lt h1,Nat.zero_add]
  have Hcy:Hid (∀j,j<m→w.cell? ⟨ba,oa+d+j,none⟩=some (.int .u64 (((xs.drop d).getD j 0:Nat):Int))):=fun j hj=>by
   have h:=hca0 (d+j) (by rw [Hp.out];omega);rw [←Nat.add_assoc] at h;rw [h];simp [List.getD_eq_getElem?_getD,List.getElem?_drop]
  have Ly:Hid (∀e ∈ xs.drop d,e<B64):=fun e he=>La.out e (List.mem_of_mem_drop he);clear hca0 hA;generalize xs.drop d=ys at *
  go_enter Tryz.func121,Tryz.ntmps121
  go_wp2
  go_loopw [22] (fun i wr=>∃(j:Nat) (r:List Nat),j≤m∧i=.int .i64 j∧r.length=m∧(∀d ∈ r,d<B64)∧BkU wr w.heap.size r∧Below w.heap.size w wr∧num B64 (r.take j)+B64 ^ j*(num B64 (ys.drop j) / 2 ^ s)=num B64 ys / 2 ^ s) (fun i _=>m - (intOf i).toNat)
  case atStart=>exact⟨0,zs m,Nat.zero_le _,rfl,zs_length _,zs_lt (by rw [B64_eq];omega) _,BkU.new _ _,ab _ _,by simp⟩
  case round=>
   obtain⟨j,r,hj,rfl,hr,hrl,hbk,hbel,hnum⟩:=hrel;have Hr:=ZZ hr;have Hrl:=ZZ hrl;have Hbk:Hid (BkU wr w.heap.size r):=hbk;have Hnum:=ZZ hnum;clear hr hrl hbk hnum
   by_cases hlt:j<m
   ·have ea:=ao hbel (Hcy.out j hlt)
    have hxl:=getD_lt Ly.out (by rw [B64_eq];omega) j;have Hdx:Hid (ys.drop j=ys.getD j 0 :: ys.drop (j+1)):=drop_getD ys j (by rw [Hys.out];omega);generalize ys.getD j 0=x at *;have hci:=Hbk.out.cell j (by rw [Hr.out];omega);have hfi:=Hbk.out.frozen j
    by_cases hl1:j+1<m
    ·have eb:=ao hbel (Hcy.out (j+1) hl1)
     have hyl:=getD_lt Ly.out (by rw [B64_eq];omega) (j+1);have Hdy:Hid (ys.drop (j+1)=ys.getD (j+1) 0 :: ys.drop (j+1+1)):=drop_getD ys (j+1) (by rw [Hys.out];omega);generalize ys.getD (j+1) 0=y at *;obtain⟨H,L,v,hH,hL,hor,hv,hve,hH1,hL1⟩:=down_parts hxl hyl hs63
     have hw1:IntKind.u64.wrap ((y:Int)*2 ^ (64 - s))=(L:Int):=by
      rw [show (y:Int)*2 ^ (64 - s)=((y*2 ^ (64 - s):Nat):Int) from by simp,Mul64.wrapM,hL];rfl
     have hw2:(x:Int) / 2 ^ s=(H:Int):=by rw [hH];simp
     have hw3:bits .or .u64 (H:Int) (L:Int)=(v:Int):=by rw [bits_or_u64_nat H L hH1 hL1,hor]
     have Hset1:=ZZ (Hbk.out.set_ j H);have hset1:=Hset1.out;have hci2:=BkU.cell hset1 j (by rw [List.length_set,Hr.out];omega);have hfi2:=BkU.frozen hset1 j;have Hset2:=ZZ (BkU.set_ hset1 j v);have hgs:(r.set j H).getD j 0=H:=by simp [List.getD_eq_getElem?_getD,Hr.out,hlt]
     rw [hgs] at hci2;have Hv:=ZZ hv;have Hve:=ZZ hve;clear hset1 hgs hH hL hor hv hve hH1 hL1 hxl hyl
     go_wp2
     go_region
     go_wp2
     go_roundw
     case rel=>
      refine⟨j+1,r.set j v,by omega,by go_num,by rw [List.length_set,Hr.out],set_lt Hrl.out Hv.out _,?_,?_,?_⟩
      ·have:=Hset2.out
       rw [List.set_set] at this;exact this
      ·exact((hbel.setCell (Nat.le_refl _) _).drew).setCell (Nat.le_refl _) _
      ·have h1:=Hnum.out
       rw [Hdx.out,num_cons,down_div hs63] at h1;rw [num_set_take _ _ _ _ (by rw [Hr.out];omega),Hve.out,Nat.pow_succ];have h2:num B64 (ys.drop (j+1)) % 2 ^ s=y % 2 ^ s:=by rw [Hdy.out,num_cons,mod_pow_B hs63]
       rw [h2] at h1;rw [←h1];grind
     case measure=>simp [intOf];omega
    ·obtain⟨H,L,v,hH,hL,hor,hv,hve,hH1,hL1⟩:=down_parts hxl (y:=0) (by rw [B64_eq];omega) hs63
     have hw2:(x:Int) / 2 ^ s=(H:Int):=by rw [hH];simp
     have Hset1:=ZZ (Hbk.out.set_ j H);have HH:=ZZ hH;have HH1:=ZZ hH1;have hjm:ys.drop (j+1)=[]:=List.drop_of_length_le (by rw [Hys.out];omega);have Hjm:=ZZ hjm;clear hH hL hor hv hve hH1 hL1 hxl hjm
     go_wp2
     go_roundw
     case rel=>
      refine⟨j+1,r.set j H,by omega,by go_num,by rw [List.length_set,Hr.out],set_lt Hrl.out HH1.out _,Hset1.out,hbel.setCell (Nat.le_refl _) _,?_⟩;have h1:=Hnum.out;rw [Hdx.out,Hjm.out,num_cons] at h1;rw [num_set_take _ _ _ _ (by rw [Hr.out];omega),HH.out,Hjm.out,←h1]
      simp
     case measure=>simp [intOf];omega
   ·have hjp:j=m:=by omega
    subst hjp;have HC:=ZZ Hbk.out.cl;go_wp2_with fail;refine(cut_c _ r _ _ HC.out j Hr.out (by omega) (by omega)).mono ?_;rintro e w2 ⟨rfl,rfl⟩;go_wp2_with fail;go_ret;refine⟨_,rfl,?_,hbel⟩;have h1:=Hnum.out;rw [List.drop_of_length_le (by rw [Hys.out];omega),num_take_all _ _ (by rw [Hr.out];omega),num_nil,Nat.zero_div,Nat.mul_zero,Nat.add_zero] at h1;rw [Hn.out,←h1];exact cut_w Hrl.out HC.out (by rw [Hr.out];omega)
 ·have hz:n / 2 ^ k=0:=by
   rw [Nat.div_eq_zero_iff]
   right
   rw [Hk2.out,←En.out];have h1:=num_lt B64 xs La.out;rw [Hp.out] at h1;have h2:B64 ^ p≤B64 ^ d:=Nat.pow_le_pow_right (by rw [B64_eq];omega) (by omega);have h3:B64 ^ d*1≤B64 ^ d*2 ^ s:=Nat.mul_le_mul_left _ (Nat.pow_pos (by omega));omega
  have Hz:=ZZ hz;clear hz hA
  go_enter Tryz.func121,Tryz.ntmps121
  go_wp2
  go_ret;refine⟨_,rfl,?_,ae _⟩
  rw [Hz.out];exact Wd.zero _
def Sr (n:Nat):Prop:=(dr n).length≤1099511627776
theorem dr_lt (n:Nat):∀d ∈ dr n,d<B30:=(dr_norm n).lt
def ordN (m n:Nat):Int:=if m<n then -1 else if n<m then 1 else 0
theorem ordN_lt {m n:Nat} (h:m<n):ordN m n = -1:=if_pos h
theorem ordN_gt {m n:Nat} (h:n<m):ordN m n=1:=by unfold ordN;rw [if_neg (by omega),if_pos h]
theorem ordN_eq {m n:Nat} (h:m=n):ordN m n=0:=by unfold ordN;rw [if_neg (by omega),if_neg (by omega)]
theorem rcut_w {A:Option Addr} {l:List Nat} {c:Nat} {w:World} (hl:∀d ∈ l,d<B30) (hA:Cl w A (l.map i64n)) (hc:l.length≤c):Wr w (.slice A (cut l).length c) (num B30 l):=by
 have e:=cut_dig B30_two hl
 have hle:(cut l).length≤l.length:=by
  clear e hA hc hl
  induction l with
  | nil=>simp [cut]
  | cons d l ih=>unfold cut;split <;> simp;omega
 have hpre:∃t,l=cut l ++ t:=by
  clear e hA hc hl hle
  induction l with
  | nil=>exact⟨[],by simp [cut]⟩
  | cons d l ih=>
   obtain⟨t,ht⟩:=ih;unfold cut
   split
   ·exact⟨d :: l,rfl⟩
   ·exact⟨t,by rw [List.cons_append,←ht]⟩
 refine⟨A,c,by unfold dr;rw [←e],by unfold dr;rw [←e];omega,?_⟩;unfold dr;rw [←e]
 rcases hA with h|⟨b,o,h1,h2⟩
 ·left
  have:l=[]:=by simpa using h
  rw [this];rfl
 ·right
  refine⟨b,o,h1,fun j hj=>?_⟩;rw [h2 j (by simp at hj ⊢;omega)];obtain⟨t,ht⟩:=hpre
  conv=>lhs;rw [ht]
  simp at hj
  simp [List.getD_eq_getElem?_getD,List.getElem?_append,hj]
theorem rcut_c (A:Option Addr) (l:List Nat) (c:Nat) (w:World) (hA:Cl w A (l.map i64n)) (n:Nat) (hn:l.length=n) (hc:n≤c) (hs:n≤35184372088832):Calls Tryz.prog 135 #[.slice A n c] w fun e w'=>e=.returned (.slice A (cut l).length c)∧w=w':=by
 subst hn
 go_enter Tryz.func135,Tryz.ntmps135
 go_wp2
 go_loop [3] (fun v=>∃k:Nat,k≤l.length∧v=.int .i64 (k:Int)∧cut (l.take k)=cut l) (fun v=>(intOf v).toNat)
 case atStart=>exact⟨l.length,Nat.le_refl _,rfl,by rw [List.take_length]⟩
 case round=>
  obtain⟨k,hk,rfl,hcut⟩:=hrel;have Hcut:Hid (cut (l.take k)=cut l):=hcut;clear hcut
  rcases k with _|k
  ·have h0:(0:Int)≤(c:Int):=by omega
   go_wp2
   go_ret;refine⟨?_,rfl⟩
   have e:cut l=[]:=by simpa [cut] using Hcut.out.symm
   show Ending.returned (Value.slice A 0 c)=_
   rw [e];rfl
  ·obtain⟨b,o,rfl,hcell⟩:=hA.i (by omega)
   have h0:=hcell k (by omega);have hts:=take_snoc_getD l k (by omega);have Hz:Hid (l.getD k 0=0→cut (l.take k)=cut l):=fun h=>by rw [←Hcut.out,hts,h,cut_snoc_zero]
   have Hn:Hid (l.getD k 0≠0→cut l=l.take (k+1)):=fun h=>by
    rw [←Hcut.out];exact cut_of_last (by rw [hts];simpa using h)
   have hp:(0:Int)<((k+1:Nat):Int):=by omega
   have hkc:((k+1:Nat):Int)≤(c:Int):=by omega
   have hw:IntKind.i64.wrap (((k+1:Nat):Int) - 1)=(k:Int):=(IntWalk.i64_in _ (by omega)).trans (by omega);clear hts hcell hA;generalize l.getD k 0=x at *
   by_cases hx:x=0
   ·have ht:((x:Int) == 0)=true:=by simp;omega
    clear hx;go_wp2_with fail
    go_round
    case rel=>exact⟨k,by omega,by first|rfl|(congr 1;omega),Hz.out (by simpa using ht)⟩
    case measure=>simp [intOf];try omega
   ·have ht:((x:Int) == 0)=false:=by simp;omega
    go_wp2_with fail;go_ret
    refine⟨?_,rfl⟩;rw [Hn.out hx,List.length_take,Nat.min_eq_left (by omega)]
    first|rfl|(congr 3 <;> omega)
theorem order_r (va vb:Value) (m n:Nat) (w:World) (ha:Wr w va m) (hb:Wr w vb n) (sa:Sr m) (sb:Sr n):Calls Tryz.prog 102 #[va,vb] w fun e w'=>e=.returned (.int .i64 (ordN m n))∧∃k,w'=w.drewN k:=by
 obtain⟨A,ca,rfl,hca,hA⟩:=ha;obtain⟨B,cb,rfl,hcb,hB⟩:=hb;have em:=num_dr m;have en:=num_dr n;have nm:=dr_norm m;have nn:=dr_norm n;unfold Sr at sa sb;generalize dr m=xs at *;generalize dr n=ys at *
 rcases Nat.lt_trichotomy xs.length ys.length with hl|hl|hl
 ·have hlt:m<n:=by rw [←em,←en];exact num_lt_of_length B30_two nm.lt nn hl
  have h1:decide ((xs.length:Int)<(ys.length:Int))=true:=by simp;omega
  rw [ordN_lt hlt]
  go_enter Tryz.func102,Tryz.ntmps102
  go_wp2_with fail;go_ret
  exact⟨rfl,0,rfl⟩
 ·have Hl:Hid (xs.length=ys.length):=hl
  have hne:decide ((xs.length:Int)<(ys.length:Int))=false:=by simp;omega
  have hne3:decide (xs.length<ys.length)=false:=by simp;omega
  have hne4:decide (ys.length<xs.length)=false:=by simp;omega
  have hne2:decide ((ys.length:Int)<(xs.length:Int))=false:=by simp;omega
  have hle:xs.length≤ys.length:=by omega
  have hge:ys.length≤xs.length:=by omega
  have Em:Hid (num B30 xs=m):=em;have En:Hid (num B30 ys=n):=en;clear hl em en;have hw0:IntKind.i64.wrap ((xs.length:Int) - 1)=(xs.length:Int) - 1:=IntWalk.i64_in _ (by omega)
  go_enter Tryz.func102,Tryz.ntmps102
  go_wp2_with fail
  go_loopw [5] (fun i wr=>∃k q:Nat,k≤xs.length∧i=.int .i64 ((k:Int) - 1)∧wr=w.drewN q∧xs.drop k=ys.drop k) (fun i _=>(intOf i+1).toNat)
  case atStart=>exact⟨xs.length,0,Nat.le_refl _,rfl,rfl,by rw [List.drop_of_length_le (Nat.le_refl _),List.drop_of_length_le (by omega)]⟩
  case round=>
   obtain⟨k,q,hk,rfl,rfl,hdr⟩:=hrel;have Hdr:Hid (xs.drop k=ys.drop k):=hdr;clear hdr hw0
   by_cases h0:k=0
   ·subst h0
    go_wp2_with fail;go_ret
    have e:xs=ys:=by simpa using Hdr.out
    have e1:m=n:=by rw [←Em.out,←En.out,e]
    rw [ordN_eq e1];exact⟨rfl,_,rfl⟩
   ·obtain⟨k,rfl⟩:∃j,k=j+1:=⟨k - 1,by omega⟩
    obtain⟨ba,oa,rfl,hca'⟩:=hA.i (by omega);obtain⟨bb,ob,rfl,hcb'⟩:=hB.i (by omega);have ea:=hca' k (by omega);have eb:=hcb' k (by omega);clear h0 hca' hcb' hA hB;have h1:=fun h=>num_lt_of_top nm.lt Hl.out k (by omega) Hdr.out h;have h2:=fun h=>num_lt_of_top nn.lt Hl.out.symm k (by omega) Hdr.out.symm h;have H1:Hid (xs.getD k 0<ys.getD k 0→m<n):=fun h=>by have:=h1 h;rw [Em.out,En.out] at this;exact this
    have H2:Hid (ys.getD k 0<xs.getD k 0→n<m):=fun h=>by have:=h2 h;rw [Em.out,En.out] at this;exact this
    have H3:Hid (xs.getD k 0=ys.getD k 0→xs.drop k=ys.drop k):=fun h=>drop_eq_of (by omega) (by omega) Hdr.out h;clear h1 h2;generalize xs.getD k 0=x at *;generalize ys.getD k 0=y at *
    rcases Nat.lt_trichotomy x y with hxy|hxy|hxy
    ·have t2:decide ((x:Int)<(y:Int))=true:=by simp;omega
     go_wp2_with fail
     go_quiet (fail)
     go_wp2_with fail;go_ret
     rw [ordN_lt (H1.out hxy)];exact⟨rfl,_,by first|exact drewN2 _ _ _|exact drewN3 _ _ _ _⟩
    ·subst hxy
     have t1:decide ((x:Int)<(x:Int))=false:=by simp
     go_wp2_with fail
     go_quiet (fail)
     go_wp2_with fail
     go_quiet (fail)
     go_wp2_with fail
     go_roundw
     case rel=>exact⟨k,_,by omega,by simp,by first|rfl|exact drewN2 _ _ _|exact drewN3 _ _ _ _,H3.out (by first|rfl|trivial)⟩
     case measure=>simp [intOf]
    ·have t2:decide ((x:Int)<(y:Int))=false:=by simp;omega
     have t3:decide ((y:Int)<(x:Int))=true:=by simp;omega
     go_wp2_with fail
     go_quiet (fail)
     go_wp2_with fail
     go_quiet (fail)
     go_wp2_with fail;go_ret
     rw [ordN_gt (H2.out hxy)];exact⟨rfl,_,by first|exact drewN2 _ _ _|exact drewN3 _ _ _ _⟩
 ·have hlt:n<m:=by rw [←em,←en];exact num_lt_of_length B30_two nn.lt nm hl
  have h1:decide ((xs.length:Int)<(ys.length:Int))=false:=by simp;omega
  have h2:decide ((ys.length:Int)<(xs.length:Int))=true:=by simp;omega
  rw [ordN_gt hlt]
  go_enter Tryz.func102,Tryz.ntmps102
  go_wp2_with fail;go_ret
  exact⟨rfl,0,rfl⟩
end Go.Proofs.YtkoaakefgacokaaGreatDoor
