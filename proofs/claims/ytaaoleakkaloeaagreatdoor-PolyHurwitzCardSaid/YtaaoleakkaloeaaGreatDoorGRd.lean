/- The reference's natural numbers: binary digits, trailing zeros, short numbers. Common divisors, exact quotients, square-free parts. -/
import Derived.Test.YtaaoleakkaloeaaGreatDoorGRc
import Derived.Test.YtaaoleakkaloeaaGreatDoorGWf
import Derived.Test.YtaaoleakkaloeaaGreatDoorGQv
set_option linter.unusedVariables false
set_option maxRecDepth 100000
set_option maxHeartbeats 64000000
namespace Go.Proofs.YtaaoleakkaloeaaGreatDoor
open Go.RowKit
theorem B30_pow (k:Nat):B30 ^ k=2 ^ (30*k):=by rw [B30_eq,Nat.pow_mul]
theorem dr_top {n:Nat} (h0:0<n):(dr n).getD ((dr n).length - 1) 0<B30∧0<(dr n).getD ((dr n).length - 1) 0∧0<(dr n).length∧n=num B30 ((dr n).take ((dr n).length - 1))+B30 ^ ((dr n).length - 1)*(dr n).getD ((dr n).length - 1) 0∧num B30 ((dr n).take ((dr n).length - 1))<B30 ^ ((dr n).length - 1):=by
 have h1:=dr_norm n;have h2:dr n≠[]:=dig_ne_nil B30_two h0;have h3:0<(dr n).length:=List.length_pos_iff.2 h2;have e:=num_dr n;generalize dr n=l at *;have h4:=num_take_succ B30 l (l.length - 1) (by omega);rw [show l.length - 1+1=l.length by omega,List.take_length,e] at h4;refine⟨getD_lt h1.lt (by rw [B30_eq];omega) _,?_,h3,h4,?_⟩
 ·rcases Nat.eq_zero_or_pos (l.getD (l.length - 1) 0) with h5|h5
  ·exfalso
   apply h1.last
   rw [List.getLast?_eq_getElem?];rw [List.getD_eq_getElem?_getD] at h5;rw [List.getElem?_eq_getElem (by omega)] at h5 ⊢
   simpa using h5
  ·exact h5
 ·have:=num_lt B30 (l.take (l.length - 1)) (fun d hd=>h1.lt d (List.mem_of_mem_take hd))
  rwa [List.length_take,Nat.min_eq_left (by omega)] at this
theorem bl_top {n lo d q j:Nat} (hn:n=lo+B30 ^ q*d) (hlo:lo<B30 ^ q) (h1:d<2 ^ j) (h2:j=0∨2 ^ (j - 1)≤d) (hd:0<d):bl n=30*q+j:=by
 have hj:0<j:=by
  rcases Nat.eq_zero_or_pos j with h|h
  ·subst h;simp at h1;omega
  ·exact h
 have h2':2 ^ (j - 1)≤d:=by
  rcases h2 with h|h
  ·omega
  ·exact h
 apply bl_unique
 ·rw [Nat.pow_add,←B30_pow,hn]
  have:B30 ^ q*(d+1)≤B30 ^ q*2 ^ j:=Nat.mul_le_mul_left _ h1
  rw [Nat.mul_add,Nat.mul_one] at this;omega
 ·right
  rw [show 30*q+j - 1=30*q+(j - 1) by omega,Nat.pow_add,←B30_pow,hn]
  have:B30 ^ q*2 ^ (j - 1)≤B30 ^ q*d:=Nat.mul_le_mul_left _ h2'
  omega
theorem half_pow (d j:Nat):d / 2 ^ j / 2=d / 2 ^ (j+1):=by rw [Nat.div_div_eq_div_mul,Nat.pow_succ]
theorem length_r (va:Value) (n:Nat) (w:World) (ha:Wr w va n) (sa:Sr n):Calls Tryz.prog 140 #[va] w fun e w'=>e=.returned (.int .i64 (bl n:Nat))∧w=w':=by
 obtain⟨A,ca,rfl,hca,hA⟩:=ha;unfold Sr at sa
 rcases Nat.eq_zero_or_pos n with h0|h0
 ·subst h0
  rw [dr_zero]
  go_enter Tryz.func140,Tryz.ntmps140
  go_wp2_with fail;go_ret
  exact⟨rfl,rfl⟩
 ·obtain⟨t1,t2,t3,t4,t5⟩:=dr_top h0
  obtain⟨ba,oa,rfl,hc⟩:=hA.i t3;have ea:=hc ((dr n).length - 1) (by omega);clear hc hA;obtain⟨q,hq⟩:∃q,(dr n).length=q+1:=⟨(dr n).length - 1,by omega⟩;have hq1:(dr n).length - 1=q:=by omega
  rw [hq1] at t1 t2 t4 t5 ea;rw [hq] at sa hca ⊢;generalize (dr n).getD q 0=d at *;generalize num B30 ((dr n).take q)=lo at *;have HN:=ZZ t4;have HLO:=ZZ t5;have HD0:=ZZ t2;have HD:=ZZ t1;have hdb:d<1073741824:=by rw [←B30_eq];exact t1
  clear t1 t2 t3 t4 t5 hq hq1;have hne:(((q+1:Nat):Int) == 0)=false:=by simp;omega
  have hw0:IntKind.i64.wrap (((q+1:Nat):Int) - 1)=(q:Int):=(IntWalk.i64_in _ (by omega)).trans (by omega);have hw1:IntKind.i64.wrap (30*(q:Int))=((30*q:Nat):Int):=(IntWalk.i64_in _ (by omega)).trans (by omega)
  go_enter Tryz.func140,Tryz.ntmps140
  go_wp2_with fail
  go_loop [3,4] (fun a b=>∃j N t:Nat,j≤30∧N=30*q+j∧t=d / 2 ^ j∧a=.int .i64 (N:Int)∧b=.int .i64 (t:Int)∧(j=0∨2 ^ (j - 1)≤d)) (fun _ b=>(intOf b).toNat)
  case atStart=>exact⟨0,30*q,d,by omega,rfl,by simp,by first|rfl|simp,rfl,.inl rfl⟩
  case round=>
   obtain⟨j,N,t,hj,hN,ht,rfl,rfl,hjd⟩:=hrel;have hNb:N≤9223372036854775806:=by omega
   have HNN:=ZZ hN;clear hN hw0 hw1;have HT:=ZZ ht;have HJ:=ZZ hjd;have htb:t≤d:=by rw [ht];exact Nat.div_le_self _ _
   clear ht hjd
   by_cases h:t=0
   ·subst h
    go_wp2_with fail;go_ret
    refine⟨?_,rfl⟩
    rw [bl_top HN.out HLO.out (by
     have:=HT.out
     rcases Nat.lt_or_ge d (2 ^ j) with h|h
     ·exact h
     ·have:=Nat.div_pos h (Nat.pow_pos (show 0<2 by omega));omega) HJ.out HD0.out,←HNN.out]
    rfl
   ·have hp:decide ((0:Int)<(t:Int))=true:=by simp;omega
    obtain⟨t2,ht2⟩:∃t2,t2=t / 2:=⟨_,rfl⟩;have hq2:(t:Int) / 2=(t2:Int):=by omega
    have ht2b:t2≤1073741824:=by omega
    have HT2:=ZZ ht2;have hlt2:t2<t:=by omega
    have H2:=ZZ (show 2 ^ j≤d by
     rcases Nat.lt_or_ge d (2 ^ j) with h'|h'
     ·exact absurd (HT.out.trans (Nat.div_eq_of_lt h')) h
     ·exact h')
    have hj30:j<30:=by
     rcases Nat.lt_or_ge j 30 with h'|h'
     ·exact h'
     ·have:2 ^ 30≤2 ^ j:=Nat.pow_le_pow_right (by omega) h'
      have:=H2.out
      omega
    have hw2:IntKind.i64.wrap ((N:Int)+1)=((N+1:Nat):Int):=(IntWalk.i64_in _ (by omega)).trans (by omega);have hw3:IntKind.i64.wrap (t2:Int)=(t2:Int):=IntWalk.i64_in _ (by omega);clear ht2;go_wp2_with fail
    go_round
    case rel=>exact⟨j+1,N+1,t2,by omega,by have:=HNN.out;omega,by rw [←half_pow,←HT.out];exact HT2.out,by first|rfl|(congr 1;omega),rfl,.inr H2.out⟩
    case measure=>simp [intOf];omega
theorem short_r (va:Value) (n:Nat) (w:World) (ha:Wr w va n) (hl:(dr n).length≤2):Calls Tryz.prog 115 #[va] w fun e w'=>e=.returned (.int .i64 n)∧w=w':=by
 obtain⟨A,ca,rfl,hca,hA⟩:=ha;have en:=num_dr n;have nl:=dr_lt n;generalize dr n=l at *;have En:=ZZ en;have Nl:=ZZ nl;clear en nl;have hw0:IntKind.i64.wrap ((l.length:Int) - 1)=(l.length:Int) - 1:=IntWalk.i64_in _ (by omega)
 go_enter Tryz.func115,Tryz.ntmps115
 go_wp2_with fail
 go_loop [3,4] (fun s i=>∃k:Nat,k≤l.length∧i=.int .i64 ((k:Int) - 1)∧s=.int .i64 ((num B30 (l.drop k):Nat):Int)) (fun _ i=>(intOf i+1).toNat)
 case atStart=>exact⟨l.length,Nat.le_refl _,rfl,by rw [List.drop_of_length_le (Nat.le_refl _)];rfl⟩
 case round=>
  clear hw0;obtain⟨k,hk,rfl,rfl⟩:=hrel
  rcases k with _|k
  ·go_wp2_with fail
   go_ret;refine⟨?_,rfl⟩
   have:=En.out
   show Ending.returned (Value.int .i64 ((num B30 l:Nat):Int))=_
   rw [this]
  ·obtain⟨b,o,rfl,hc⟩:=hA.i (by omega)
   have ea:=hc k (by omega);have hx:=getD_lt Nl.out (by rw [B30_eq];omega) k
   have hdk:num B30 (l.drop k)=l.getD k 0+B30*num B30 (l.drop (k+1)):=by
    rw [List.drop_eq_getElem_cons (by omega),num_cons]
    simp [List.getD_eq_getElem?_getD,show k<l.length by omega]
   have HK:=ZZ hdk
   have hyb:num B30 (l.drop (k+1))<1073741824:=by
    have h1:=num_lt B30 (l.drop (k+1)) (fun d hd=>Nl.out d (List.mem_of_mem_drop hd));have h2:(l.drop (k+1)).length≤1:=by simp;omega
    rcases(show (l.drop (k+1)).length=0∨(l.drop (k+1)).length=1 by omega) with h3|h3
    ·rw [h3] at h1;simp at h1;omega
    ·rw [h3,Nat.pow_one] at h1;rw [←B30_eq];exact h1
   rw [B30_eq] at hx;clear hc hA hdk;generalize l.getD k 0=x at *;generalize num B30 (l.drop (k+1))=y at *;obtain⟨s,hs⟩:∃s:Nat,s=y*1073741824+x:=⟨_,rfl⟩;have hw1:IntKind.i64.wrap ((y:Int)*1073741824)=((y*1073741824:Nat):Int):=(IntWalk.i64_in _ (by omega)).trans (by omega);have hw2:IntKind.i64.wrap ((y:Int)*1073741824+(x:Int))=(s:Int):=(IntWalk.i64_in _ (by omega)).trans (by omega);have hw3:IntKind.i64.wrap (((k+1:Nat):Int) - 1 - 1)=(k:Int) - 1:=(IntWalk.i64_in _ (by omega)).trans (by omega);have Hs:=ZZ (show s=num B30 (l.drop k) by rw [HK.out,B30_eq];omega);clear hs;go_wp2_with fail
   go_round
   case rel=>exact⟨k,by omega,by first|rfl|simp,by rw [←Hs.out]⟩
   case measure=>simp [intOf]
theorem zeros_end {n i j t x R:Nat} (hn:n=B30 ^ i*(x+B30*R)) (hx:x=2 ^ j*t) (hxb:x<B30) (h0:0<t) (ht:t % 2=1):∃u,n=2 ^ (30*i+j)*u∧u % 2=1:=by
 have hj:j<30:=by
  rcases Nat.lt_or_ge j 30 with h|h
  ·exact h
  ·have h1:2 ^ 30≤2 ^ j:=Nat.pow_le_pow_right (by omega) h
   have h2:2 ^ j*1≤2 ^ j*t:=Nat.mul_le_mul_left _ h0;rw [B30_eq] at hxb;omega
 refine⟨t+2 ^ (30 - j)*R,?_,?_⟩
 ·rw [hn,Nat.pow_add,←B30_pow,Nat.mul_assoc,hx]
  congr 1
  rw [Nat.mul_add,←Nat.mul_assoc,←Nat.pow_add,show j+(30 - j)=30 by omega]
  rfl
 ·rw [show 30 - j=(29 - j)+1 by omega,Nat.pow_succ,Nat.mul_assoc,Nat.mul_comm,Nat.mul_assoc]
  omega
theorem num_drop_cons {B:Nat} {l:List Nat} {k:Nat} (hk:k<l.length):num B (l.drop k)=l.getD k 0+B*num B (l.drop (k+1)):=by
 rw [List.drop_eq_getElem_cons hk,num_cons]
 simp [List.getD_eq_getElem?_getD,hk]
theorem zeros_r (va:Value) (n:Nat) (h0:0<n) (w:World) (ha:Wr w va n) (sa:Sr n):Calls Tryz.prog 110 #[va] w fun e w'=>(∃z u:Nat,e=.returned (.int .i64 z)∧n=2 ^ z*u∧u % 2=1)∧w=w':=by
 obtain⟨A,ca,rfl,hca,hA⟩:=ha;unfold Sr at sa;have en:=num_dr n;have nl:=dr_lt n;generalize dr n=l at *
 have hl0:0<l.length:=by
  rcases Nat.eq_zero_or_pos l.length with h|h
  ·rw [List.length_eq_zero_iff.1 h] at en;simp at en;omega
  ·exact h
 obtain⟨b,o,rfl,hc⟩:=hA.i hl0;have En:=ZZ en;have Nl:=ZZ nl;have HC:=ZZ hc;have H0:=ZZ h0;clear en nl hA hc h0
 go_enter Tryz.func110,Tryz.ntmps110
 go_wp2_with fail
 go_loop [3] (fun v=>∃i N:Nat,i<l.length∧N=30*i∧v=.int .i64 (N:Int)∧num B30 (l.take i)=0) (fun v=>30*l.length - (intOf v).toNat)
 case atStart=>exact⟨0,0,hl0,rfl,rfl,by simp⟩
 case round=>
  obtain⟨i,N,hi,hN,rfl,hz⟩:=hrel;have ea:=HC.out i hi;have hxb:=getD_lt Nl.out (by rw [B30_eq];omega) i;have HX:=ZZ hxb;have HT:=ZZ (num_take_succ B30 l i hi);have HZ:=ZZ hz;have HND:=ZZ (num_drop B30 l i (by omega));have HNC:=ZZ (num_drop_cons (B:=B30) hi);have hq:(N:Int) / 30=(i:Int):=by omega
  have hwq:IntKind.i64.wrap (i:Int)=(i:Int):=IntWalk.i64_in _ (by omega);have hw2:IntKind.i64.wrap ((N:Int)+30)=((N+30:Nat):Int):=(IntWalk.i64_in _ (by omega)).trans (by omega);have hNb:N≤9223372036854775:=by omega
  have HN:=ZZ hN;rw [B30_eq] at hxb;clear hz hl0;generalize l.getD i 0=x at *
  by_cases hx:x=0
  ·have ht:((x:Int) == 0)=true:=by simp;omega
   have hi1:i+1<l.length:=by
    rcases Nat.lt_or_ge (i+1) l.length with h|h
    ·exact h
    ·exfalso
     have h1:=HT.out;rw [num_take_all B30 l h,En.out,HZ.out,hx] at h1
     have:=H0.out
     omega
   have HT':=ZZ (show num B30 (l.take (i+1))=0 by rw [HT.out,HZ.out,hx];rfl);clear hx hN;go_wp2_with fail
   go_round
   case rel=>exact⟨i+1,N+30,hi1,by have:=HN.out;omega,by first|rfl|(congr 1;omega),HT'.out⟩
   case measure=>have:=HN.out;simp [intOf];omega
  ·have ht:((x:Int) == 0)=false:=by simp;omega
   have HX0:=ZZ hx;clear hx hN;go_wp2_with fail
   go_loop [3,4] (fun a c=>∃j t N2:Nat,N2=N+j∧a=.int .i64 (N2:Int)∧c=.int .i64 (t:Int)∧x=2 ^ j*t∧0<t∧j≤30) (fun _ c=>(intOf c).toNat)
   case atStart=>exact⟨0,x,N,rfl,rfl,rfl,by simp,by have:=HX0.out;omega,by omega⟩
   case round=>
    obtain⟨j,t,N2,hN2,rfl,rfl,hxt,ht0,hj⟩:=hrel;have HXT:=ZZ hxt;have HN2:=ZZ hN2
    have htb:t≤1073741824:=by
     have:1*t≤2 ^ j*t:=Nat.mul_le_mul_right _ (Nat.pow_pos (by omega))
     omega
    have hN2b:N2≤9223372036854776:=by omega
    clear hxt hN2
    rcases Nat.mod_two_eq_zero_or_one t with he|he
    ·obtain⟨t2,ht2⟩:∃t2,t=2*t2:=⟨t / 2,by omega⟩
     subst ht2;have hrem:(((2*t2:Nat):Int) % 2 == 0)=true:=by simp
     have hquo:((2*t2:Nat):Int) / 2=(t2:Int):=by omega
     have hw3:IntKind.i64.wrap (t2:Int)=(t2:Int):=IntWalk.i64_in _ (by omega);have hw4:IntKind.i64.wrap ((N2:Int)+1)=((N2+1:Nat):Int):=(IntWalk.i64_in _ (by omega)).trans (by omega);have HXT':=ZZ (show x=2 ^ (j+1)*t2 by rw [HXT.out,Nat.pow_succ,Nat.mul_assoc])
     have hj1:j+1≤30:=by
      rcases Nat.lt_or_ge j 30 with h'|h'
      ·exact h'
      ·have h1:2 ^ 30≤2 ^ j:=Nat.pow_le_pow_right (by omega) h'
       have h2:2 ^ j*1≤2 ^ j*(2*t2):=Nat.mul_le_mul_left _ ht0
       have:=HXT.out
       omega
     clear he;go_wp2_with fail
     go_round
     case rel=>exact⟨j+1,t2,N2+1,by have:=HN2.out;omega,by first|rfl|(congr 1;omega),by first|rfl|(congr 1;omega),HXT'.out,by omega,hj1⟩
     case measure=>simp [intOf];omega
    ·have hrem:((t:Int) % 2 == 0)=false:=by rw [beq_eq_false_iff_ne];omega
     have HE:=ZZ he;clear he;go_wp2_with fail;go_ret;have h1:=HND.out;rw [HZ.out,Nat.zero_add,HNC.out,En.out] at h1;obtain⟨u,hu1,hu2⟩:=zeros_end h1 HXT.out HX.out ht0 HE.out;have hu3:n=2 ^ N2*u:=by rw [HN2.out,HN.out];exact hu1
     first
      | exact⟨⟨N2,u,rfl,hu3,hu2⟩,rfl⟩
      | exact⟨⟨N2,rfl,u,hu3,hu2⟩,rfl⟩
end Go.Proofs.YtaaoleakkaloeaaGreatDoor
set_option linter.unusedVariables false
set_option maxRecDepth 100000
set_option maxHeartbeats 64000000
namespace Go.Proofs.YtaaoleakkaloeaaGreatDoor
open Go.RowKit
set_option linter.unusedSimpArgs false
theorem divU_len (n:Nat) (quo rest q:List Rat):(divU n quo rest q).1.length=quo.length∧(divU n quo rest q).2.length≤rest.length:=by
 induction n generalizing quo rest with
 | zero=>exact⟨rfl,Nat.le_refl _⟩
 | succ n ih=>
  unfold divU
  split
  ·exact⟨rfl,Nat.le_refl _⟩
  ·obtain⟨h1,h2⟩:=ih (quo.set (rest.length - q.length) (topF rest / topF q)) (nextR rest q)
   refine⟨by rw [h1,List.length_set],Nat.le_trans h2 ?_⟩;unfold nextR
   have:=trim_le (lesL rest q (rest.length - q.length) (topF rest / topF q) q.length)
   rwa [les_len] at this
theorem div_len (p q:List Rat):(divF p q).1.length≤p.length+1∧(divF p q).2.length≤p.length:=by
 obtain⟨h1,h2⟩:=divU_len ((trimF p).length+1) (List.replicate ((trimF p).length+1 - (trimF q).length) 0) (trimF p) (trimF q);have h3:=trim_le p;refine⟨?_,Nat.le_trans h2 h3⟩;have h4:=trim_le (divU ((trimF p).length+1) (List.replicate ((trimF p).length+1 - (trimF q).length) 0) (trimF p) (trimF q)).1;rw [h1,List.length_replicate] at h4;have h5:(divF p q).1.length≤(trimF p).length+1 - (trimF q).length:=h4;omega
theorem scale_len (p:List Rat) (x:Rat):(scaleF p x).length≤p.length:=by
 have:=trim_le (p.map (·*x));rwa [List.length_map] at this
theorem monic_len (p:List Rat):(monicF p).length≤p.length:=by
 unfold monicF
 split
 ·exact Nat.zero_le _
 ·exact Nat.le_trans (scale_len _ _) (trim_le p)
theorem trim_monic (p:List Rat):trimF (monicF p)=monicF p:=by
 unfold monicF
 split
 ·rfl
 ·exact trim_trim _
def comU:Nat→List Rat→List Rat→List Rat
 | 0,p,_=>p
 | n+1,p,q=>if q=[] then p else comU n q (monicF (divF p q).2)
def commonF (p q:List Rat):List Rat:=comU (q.length+1) (monicF p) (monicF q)
def comB (M:Nat):Nat→List Rat→List Rat→Bool
 | 0,_,q=>q.isEmpty
 | n+1,p,q=>q.isEmpty || (divOk M p q && smB M (divF p q).2 && comB M n q (monicF (divF p q).2))
def comOk (M:Nat) (p q:List Rat):Bool:=smB M p && smB M q && comB M (q.length+1) (monicF p) (monicF q)
theorem comU_len (n:Nat) (p q:List Rat) (N:Nat) (hp:p.length≤N) (hq:q.length≤N):(comU n p q).length≤N:=by
 induction n generalizing p q with
 | zero=>exact hp
 | succ n ih=>
  unfold comU
  split
  ·exact hp
  ·exact ih _ _ hq (Nat.le_trans (monic_len _) (Nat.le_trans (div_len p q).2 hp))
theorem common_len (p q:List Rat) (N:Nat) (hp:p.length≤N) (hq:q.length≤N):(commonF p q).length≤N:=comU_len _ _ _ N (Nat.le_trans (monic_len p) hp) (Nat.le_trans (monic_len q) hq)
theorem common_p (M:Nat) (hM0:0<M) (hM:M≤137438953472) (vp vq:Value) (p q:List Rat) (hlp:p.length≤100000) (hlq:q.length≤100000) (w:World) (hp:Pl w vp p) (hq:Pl w vq q) (hok:comOk M p q=true):Calls Tryz.prog 34 #[vp,vq] w fun e w'=>∃v,e=.returned v∧Pl w' v (commonF p q)∧Ext w w':=by
 unfold comOk at hok;rw [Bool.and_eq_true,Bool.and_eq_true] at hok;obtain⟨⟨hsp,hsq⟩,hcb⟩:=hok;obtain⟨D,hD⟩:∃D,commonF p q=D:=⟨_,rfl⟩;have HD:=ZZ hD;have HP:=ZZ hp;have HQ:=ZZ hq;have HLP:=ZZ hlp;have HLQ:=ZZ hlq;have HSP:=ZZ (sm_of hsp);have HSQ:=ZZ (sm_of hsq);have HCB:=ZZ hcb;have HM0:=ZZ hM0;have HM:=ZZ hM;clear hp hq hlp hlq hsp hsq hcb hM0 hM;rw [hD];clear hD
 go_enter Tryz.func34,Tryz.ntmps34
 go_wp2_with fail;refine(monic_p M (by have:=HM.out;omega) _ p (by have:=HLP.out;omega) _ HP.out HSP.out).mono ?_
 rintro e w1 ⟨v1,rfl,h1,k1⟩;have H1:=ZZ h1.pl;have K1:=ZZ k1;clear h1 k1;go_wp2_with fail;refine(monic_p M (by have:=HM.out;omega) _ q (by have:=HLQ.out;omega) _ (HQ.out.mono K1.out) HSQ.out).mono ?_;rintro e w2 ⟨v2,rfl,h2,k2⟩;have H2:=ZZ h2.pl;have H1':=ZZ (H1.out.mono k2);have K2:=ZZ (ak K1.out k2);clear h2 k2;go_wp2_with fail
 go_loopg [0,1] (q.length+1) (fun k a b wr=>∃(P Q:List Rat),Hid (trimF Q=Q)∧Hid (P.length≤100000)∧Hid (Q.length≤100000)∧Hid (comB M k P Q=true)∧Hid (comU k P Q=D)∧Hid (Pl wr a P)∧Hid (Pl wr b Q)∧Hid (Ext w wr))
 case atStart=>exact⟨monicF p,monicF q,ZZ (trim_monic q),ZZ (Nat.le_trans (monic_len p) HLP.out),ZZ (Nat.le_trans (monic_len q) HLQ.out),HCB,HD,H1',H2,K2⟩
 case round=>
  obtain⟨P,Q,HTQ,HPL,HQL,HB,HU,HPP,HPQ,HE⟩:=hrel;rename World=>WR;obtain⟨Aq,cq,eq,-,-⟩:=HPQ.out;subst eq;obtain⟨lq,hlq⟩:∃l,Q.length=l:=⟨_,rfl⟩;rw [hlq] at HPQ ⊢;have HLQ1:=ZZ hlq;clear hlq
  rcases Nat.eq_zero_or_pos lq with hz|hz
  ·subst hz
   have HQ0:=ZZ (List.length_eq_zero_iff.1 HLQ1.out)
   have HDP:=ZZ (show P=D from by
    rw [←HU.out]
    cases gk with
    | zero=>rfl
    | succ k=>exact(if_pos HQ0.out).symm)
   go_wp2_with fail;go_ret
   exact⟨_,rfl,by rw [←HDP.out];exact HPP.out,HE.out⟩
  ·have hne:Q≠[]:=fun e=>by have:=HLQ1.out;rw [e] at this;simp at this;omega
   have hie:Q.isEmpty=false:=by cases Q with|nil=>exact absurd rfl hne|cons a l=>rfl
   obtain⟨ko,rfl⟩:∃k,gk=k+1:=⟨gk - 1,by
    rcases Nat.eq_zero_or_pos gk with h|h
    ·subst h
     have h1:Q.isEmpty=true:=HB.out;rw [hie] at h1;cases h1
    ·omega⟩
   have hb2:(Q.isEmpty || (divOk M P Q && smB M (divF P Q).2 && comB M ko Q (monicF (divF P Q).2)))=true:=HB.out;rw [hie,Bool.false_or,Bool.and_eq_true,Bool.and_eq_true] at hb2;have HB2:=ZZ hb2
   have HU2:=ZZ (show comU ko Q (monicF (divF P Q).2)=D from by
    have h:(if Q=[] then P else comU ko Q (monicF (divF P Q).2))=D:=HU.out;rw [if_neg hne] at h;exact h)
   have HNE:=ZZ hne;have q1:decide ((0:Int)<(lq:Int))=true:=decide_eq_true (by omega);have q1':decide (0<lq)=true:=decide_eq_true hz;clear hne hie hb2 hz;go_wp2_with fail;refine(divided_p M HM0.out (by have:=HM.out;omega) _ _ P Q HPL.out HQL.out _ HPP.out HPQ.out (by rw [HTQ.out];exact HNE.out) HB2.out.1.1).mono ?_;rintro e w3 ⟨v3,v4,rfl,h3,h4,k3⟩;have H4:=ZZ h4.pl;have K3:=ZZ k3;clear h3 h4 k3;go_wp2_with fail;refine(monic_p M (by have:=HM.out;omega) _ (divF P Q).2 (by have h1:=(div_len P Q).2;have h2:=HPL.out;omega) _ H4.out (sm_of HB2.out.1.2)).mono ?_;rintro e w5 ⟨v5,rfl,h5,k5⟩;have H5:=ZZ h5.pl;have K5:=ZZ (ak K3.out k5);clear h5 k5;go_wp2_with fail
   go_roundg ko
   case measure=>omega
   case rel=>exact⟨Q,monicF (divF P Q).2,ZZ (trim_monic _),HQL,ZZ (Nat.le_trans (monic_len _) (Nat.le_trans (div_len P Q).2 HPL.out)),ZZ HB2.out.2,HU2,ZZ (HPQ.out.mono K5.out),H5,ZZ (ak HE.out K5.out)⟩
theorem exact_p (M:Nat) (hM0:0<M) (hM:M≤137438953472) (vp vq:Value) (p q:List Rat) (hlp:p.length≤100000) (hlq:q.length≤100000) (w:World) (hp:Pl w vp p) (hq:Pl w vq q) (hq0:trimF q≠[]) (hok:divOk M p q=true):Calls Tryz.prog 36 #[vp,vq] w fun e w'=>∃v,e=.returned v∧Pl w' v (divF p q).1∧Ext w w':=by
 have HP:=ZZ hp;have HQ:=ZZ hq;have HLP:=ZZ hlp;have HLQ:=ZZ hlq;have HQ0:=ZZ hq0;have HOK:=ZZ hok;have HM0:=ZZ hM0;have HM:=ZZ hM;clear hp hq hlp hlq hq0 hok hM0 hM
 go_enter Tryz.func36,Tryz.ntmps36
 go_wp2_with fail;refine(divided_p M HM0.out (by have:=HM.out;omega) _ _ p q HLP.out HLQ.out _ HP.out HQ.out HQ0.out HOK.out).mono ?_
 rintro e w3 ⟨v3,v4,rfl,h3,h4,k3⟩;have H3:=ZZ h3.pl;have K3:=ZZ k3;clear h3 h4 k3;go_wp2_with fail;go_ret;exact⟨_,rfl,H3.out,K3.out⟩
def simpleF (p:List Rat):List Rat:=(divF p (commonF p (derivF p))).1
def simpleOk (M:Nat) (p:List Rat):Bool:=smB M p && comOk M p (derivF p) && !(trimF (commonF p (derivF p))).isEmpty && divOk M p (commonF p (derivF p))
theorem deriv_len (p:List Rat):(derivF p).length≤p.length:=by
 have:=trim_le (derU p p.length)
 rw [derU_len] at this;exact Nat.le_trans this (Nat.sub_le _ _)
theorem ne_of_emp {l:List Rat} (h:(!l.isEmpty)=true):l≠[]:=fun e=>by rw [e] at h;cases h
theorem simple_p (M:Nat) (hM0:0<M) (hM:M≤137438953472) (vp:Value) (p:List Rat) (hlp:p.length≤100000) (w:World) (hp:Pl w vp p) (hok:simpleOk M p=true):Calls Tryz.prog 55 #[vp] w fun e w'=>∃v,e=.returned v∧Pl w' v (simpleF p)∧Ext w w':=by
 unfold simpleOk at hok;rw [Bool.and_eq_true,Bool.and_eq_true,Bool.and_eq_true] at hok;obtain⟨⟨⟨h1,h2⟩,h3⟩,h4⟩:=hok;have HP:=ZZ hp;have HLP:=ZZ hlp;have HS:=ZZ (sm_of h1);have HC:=ZZ h2;have HNE:=ZZ (ne_of_emp h3);have HDV:=ZZ h4;have HM0:=ZZ hM0;have HM:=ZZ hM;clear hp hlp h1 h2 h3 h4 hM0 hM
 go_enter Tryz.func55,Tryz.ntmps55
 go_wp2_with fail;refine(deriv_p M HM0.out (by have:=HM.out;omega) _ p (by have:=HLP.out;omega) _ HP.out HS.out).mono ?_
 rintro e w3 ⟨v3,rfl,h3,k3⟩;have H3:=ZZ h3.pl;have K3:=ZZ k3;clear h3 k3;go_wp2_with fail;refine(common_p M HM0.out HM.out _ _ p (derivF p) HLP.out (Nat.le_trans (deriv_len p) HLP.out) _ (HP.out.mono K3.out) H3.out HC.out).mono ?_;rintro e w4 ⟨v4,rfl,h4,k4⟩;have H4:=ZZ h4;have K4:=ZZ (ak K3.out k4);clear h4 k4;go_wp2_with fail;refine(exact_p M HM0.out HM.out _ _ p (commonF p (derivF p)) HLP.out (common_len _ _ _ HLP.out (Nat.le_trans (deriv_len p) HLP.out)) _ (HP.out.mono K4.out) H4.out HNE.out HDV.out).mono ?_;rintro e w5 ⟨v5,rfl,h5,k5⟩;have H5:=ZZ h5;have K5:=ZZ (ak K4.out k5);clear h5 k5;go_wp2_with fail;go_ret;exact⟨_,rfl,H5.out,K5.out⟩
end Go.Proofs.YtaaoleakkaloeaaGreatDoor
