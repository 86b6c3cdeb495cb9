/- The reference's natural numbers: binary digits, trailing zeros, short numbers. Plain: the laws of a ring for polynomials as lists of numbers, by their coefficients. Numbers: the denominator; sums, products. Sizes of numbers. Numbers: the product. Numbers: negative, size, sign. -/
import Derived.Test.YtjamgccgoapbeaaGreatDoorGRc
import Derived.Test.YtjamgccgoapbeaaGreatDoorGWf
import Derived.Test.YtjamgccgoapbeaaGreatDoorGRb
import Derived.Test.YtjamgccgoapbeaaGreatDoorGWj
import Derived.Deep.RegionHeld3
set_option linter.unusedVariables false
set_option maxRecDepth 100000
set_option maxHeartbeats 64000000
namespace Go.Proofs.YtjamgccgoapbeaaGreatDoor
open Go.RowKit
theorem B30_pow (k:Nat):B30 ^ k=2 ^ (30*k):=by rw [B30_eq,Nat.pow_mul]
theorem dr_top {n:Nat} (h0:0<n):(dr n).getD ((dr n).length - 1) 0<B30∧0<(dr n).getD ((dr n).length - 1) 0∧0<(dr n).length∧n=num B30 ((dr n).take ((dr n).length - 1))+B30 ^ ((dr n).length - 1)*(dr n).getD ((dr n).length - 1) 0∧num B30 ((dr n).take ((dr n).length - 1))<B30 ^ ((dr n).length - 1):=by
 have h1:=dr_norm n;have h2:dr n≠[]:=dig_ne_nil B30_two h0;have h3:0<(dr n).length:=List.length_pos_iff.2 h2;have e:=num_dr n;generalize dr n=l at *;have h4:=num_take_succ B30 l (l.length - 1) (by omega);rw [show l.length - 1+1=l.length by omega,List.take_length,e] at h4;refine⟨getD_lt h1.lt (by rw [B30_eq];omega) _,?_,h3,h4,?_⟩
 ·rcases Nat.eq_zero_or_pos (l.getD (l.length - 1) 0) with h5|h5
  ·exfalso
   apply h1.last
   rw [List.getLast?_eq_getElem?];rw [List.getD_eq_getElem?_getD] at h5;rw [List.getElem?_eq_getElem (by omega)] at h5 ⊢
   simpa using h5
  ·exact h5
 ·have:=num_lt B30 (l.take (l.length - 1)) (fun d hd=>h1.lt d (List.mem_of_mem_take hd))
  rwa [List.length_take,Nat.min_eq_left (by omega)] at this
theorem bl_top {n lo d q j:Nat} (hn:n=lo+B30 ^ q*d) (hlo:lo<B30 ^ q) (h1:d<2 ^ j) (h2:j=0∨2 ^ (j - 1)≤d) (hd:0<d):bl n=30*q+j:=by
 have hj:0<j:=by
  rcases Nat.eq_zero_or_pos j with h|h
  ·subst h;simp at h1;omega
  ·exact h
 have h2':2 ^ (j - 1)≤d:=by
  rcases h2 with h|h
  ·omega
  ·exact h
 apply bl_unique
 ·rw [Nat.pow_add,←B30_pow,hn]
  have:B30 ^ q*(d+1)≤B30 ^ q*2 ^ j:=Nat.mul_le_mul_left _ h1
  rw [Nat.mul_add,Nat.mul_one] at this;omega
 ·right
  rw [show 30*q+j - 1=30*q+(j - 1) by omega,Nat.pow_add,←B30_pow,hn]
  have:B30 ^ q*2 ^ (j - 1)≤B30 ^ q*d:=Nat.mul_le_mul_left _ h2'
  omega
theorem half_pow (d j:Nat):d / 2 ^ j / 2=d / 2 ^ (j+1):=by rw [Nat.div_div_eq_div_mul,Nat.pow_succ]
theorem length_r (va:Value) (n:Nat) (w:World) (ha:Wr w va n) (sa:Sr n):Calls Tryz.prog 186 #[va] w fun e w'=>e=.returned (.int .i64 (bl n:Nat))∧w=w':=by
 obtain⟨A,ca,rfl,hca,hA⟩:=ha;unfold Sr at sa
 rcases Nat.eq_zero_or_pos n with h0|h0
 ·subst h0
  rw [dr_zero]
  go_enter Tryz.func186,Tryz.ntmps186
  go_wp2_with fail;go_ret
  exact⟨rfl,rfl⟩
 ·obtain⟨t1,t2,t3,t4,t5⟩:=dr_top h0
  obtain⟨ba,oa,rfl,hc⟩:=hA.i t3;have ea:=hc ((dr n).length - 1) (by omega);clear hc hA;obtain⟨q,hq⟩:∃q,(dr n).length=q+1:=⟨(dr n).length - 1,by omega⟩;have hq1:(dr n).length - 1=q:=by omega
  rw [hq1] at t1 t2 t4 t5 ea;rw [hq] at sa hca ⊢;generalize (dr n).getD q 0=d at *;generalize num B30 ((dr n).take q)=lo at *;have HN:=ZZ t4;have HLO:=ZZ t5;have HD0:=ZZ t2;have HD:=ZZ t1;have hdb:d<1073741824:=by rw [←B30_eq];exact t1
  clear t1 t2 t3 t4 t5 hq hq1;have hne:(((q+1:Nat):Int) == 0)=false:=by simp;omega
  have hw0:IntKind.i64.wrap (((q+1:Nat):Int) - 1)=(q:Int):=(IntWalk.i64_in _ (by omega)).trans (by omega);have hw1:IntKind.i64.wrap (30*(q:Int))=((30*q:Nat):Int):=(IntWalk.i64_in _ (by omega)).trans (by omega)
  go_enter Tryz.func186,Tryz.ntmps186
  go_wp2_with fail
  go_loop [3,4] (fun a b=>∃j N t:Nat,j≤30∧N=30*q+j∧t=d / 2 ^ j∧a=.int .i64 (N:Int)∧b=.int .i64 (t:Int)∧(j=0∨2 ^ (j - 1)≤d)) (fun _ b=>(intOf b).toNat)
  case atStart=>exact⟨0,30*q,d,by omega,rfl,by simp,by first|rfl|simp,rfl,.inl rfl⟩
  case round=>
   obtain⟨j,N,t,hj,hN,ht,rfl,rfl,hjd⟩:=hrel;have hNb:N≤9223372036854775806:=by omega
   have HNN:=ZZ hN;clear hN hw0 hw1;have HT:=ZZ ht;have HJ:=ZZ hjd;have htb:t≤d:=by rw [ht];exact Nat.div_le_self _ _
   clear ht hjd
   by_cases h:t=0
   ·subst h
    go_wp2_with fail;go_ret
    refine⟨?_,rfl⟩
    rw [bl_top HN.out HLO.out (by
     have:=HT.out
     rcases Nat.lt_or_ge d (2 ^ j) with h|h
     ·exact h
     ·have:=Nat.div_pos h (Nat.pow_pos (show 0<2 by omega));omega) HJ.out HD0.out,←HNN.out]
    rfl
   ·have hp:decide ((0:Int)<(t:Int))=true:=by simp;omega
    obtain⟨t2,ht2⟩:∃t2,t2=t / 2:=⟨_,rfl⟩;have hq2:(t:Int) / 2=(t2:Int):=by omega
    have ht2b:t2≤1073741824:=by omega
    have HT2:=ZZ ht2;have hlt2:t2<t:=by omega
    have H2:=ZZ (show 2 ^ j≤d by
     rcases Nat.lt_or_ge d (2 ^ j) with h'|h'
     ·exact absurd (HT.out.trans (Nat.div_eq_of_lt h')) h
     ·exact h')
    have hj30:j<30:=by
     rcases Nat.lt_or_ge j 30 with h'|h'
     ·exact h'
     ·have:2 ^ 30≤2 ^ j:=Nat.pow_le_pow_right (by omega) h'
      have:=H2.out
      omega
    have hw2:IntKind.i64.wrap ((N:Int)+1)=((N+1:Nat):Int):=(IntWalk.i64_in _ (by omega)).trans (by omega);have hw3:IntKind.i64.wrap (t2:Int)=(t2:Int):=IntWalk.i64_in _ (by omega);clear ht2;go_wp2_with fail
    go_round
    case rel=>exact⟨j+1,N+1,t2,by omega,by have:=HNN.out;omega,by rw [←half_pow,←HT.out];exact HT2.out,by first|rfl|(congr 1;omega),rfl,.inr H2.out⟩
    case measure=>simp [intOf];omega
theorem short_r (va:Value) (n:Nat) (w:World) (ha:Wr w va n) (hl:(dr n).length≤2):Calls Tryz.prog 171 #[va] w fun e w'=>e=.returned (.int .i64 n)∧w=w':=by
 obtain⟨A,ca,rfl,hca,hA⟩:=ha;have en:=num_dr n;have nl:=dr_lt n;generalize dr n=l at *;have En:=ZZ en;have Nl:=ZZ nl;clear en nl;have hw0:IntKind.i64.wrap ((l.length:Int) - 1)=(l.length:Int) - 1:=IntWalk.i64_in _ (by omega)
 go_enter Tryz.func171,Tryz.ntmps171
 go_wp2_with fail
 go_loop [3,4] (fun s i=>∃k:Nat,k≤l.length∧i=.int .i64 ((k:Int) - 1)∧s=.int .i64 ((num B30 (l.drop k):Nat):Int)) (fun _ i=>(intOf i+1).toNat)
 case atStart=>exact⟨l.length,Nat.le_refl _,rfl,by rw [List.drop_of_length_le (Nat.le_refl _)];rfl⟩
 case round=>
  clear hw0;obtain⟨k,hk,rfl,rfl⟩:=hrel
  rcases k with _|k
  ·go_wp2_with fail
   go_ret;refine⟨?_,rfl⟩
   have:=En.out
   show Ending.returned (Value.int .i64 ((num B30 l:Nat):Int))=_
   rw [this]
  ·obtain⟨b,o,rfl,hc⟩:=hA.i (by omega)
   have ea:=hc k (by omega);have hx:=getD_lt Nl.out (by rw [B30_eq];omega) k
   have hdk:num B30 (l.drop k)=l.getD k 0+B30*num B30 (l.drop (k+1)):=by
    rw [List.drop_eq_getElem_cons (by omega),num_cons]
    simp [List.getD_eq_getElem?_getD,show k<l.length by omega]
   have HK:=ZZ hdk
   have hyb:num B30 (l.drop (k+1))<1073741824:=by
    have h1:=num_lt B30 (l.drop (k+1)) (fun d hd=>Nl.out d (List.mem_of_mem_drop hd));have h2:(l.drop (k+1)).length≤1:=by simp;omega
    rcases(show (l.drop (k+1)).length=0∨(l.drop (k+1)).length=1 by omega) with h3|h3
    ·rw [h3] at h1;simp at h1;omega
    ·rw [h3,Nat.pow_one] at h1;rw [←B30_eq];exact h1
   rw [B30_eq] at hx;clear hc hA hdk;generalize l.getD k 0=x at *;generalize num B30 (l.drop (k+1))=y at *;obtain⟨s,hs⟩:∃s:Nat,s=y*1073741824+x:=⟨_,rfl⟩;have hw1:IntKind.i64.wrap ((y:Int)*1073741824)=((y*1073741824:Nat):Int):=(IntWalk.i64_in _ (by omega)).trans (by omega);have hw2:IntKind.i64.wrap ((y:Int)*1073741824+(x:Int))=(s:Int):=(IntWalk.i64_in _ (by omega)).trans (by omega);have hw3:IntKind.i64.wrap (((k+1:Nat):Int) - 1 - 1)=(k:Int) - 1:=(IntWalk.i64_in _ (by omega)).trans (by omega);have Hs:=ZZ (show s=num B30 (l.drop k) by rw [HK.out,B30_eq];omega);clear hs;go_wp2_with fail
   go_round
   case rel=>exact⟨k,by omega,by first|rfl|simp,by rw [←Hs.out]⟩
   case measure=>simp [intOf]
theorem zeros_end {n i j t x R:Nat} (hn:n=B30 ^ i*(x+B30*R)) (hx:x=2 ^ j*t) (hxb:x<B30) (h0:0<t) (ht:t % 2=1):∃u,n=2 ^ (30*i+j)*u∧u % 2=1:=by
 have hj:j<30:=by
  rcases Nat.lt_or_ge j 30 with h|h
  ·exact h
  ·have h1:2 ^ 30≤2 ^ j:=Nat.pow_le_pow_right (by omega) h
   have h2:2 ^ j*1≤2 ^ j*t:=Nat.mul_le_mul_left _ h0;rw [B30_eq] at hxb;omega
 refine⟨t+2 ^ (30 - j)*R,?_,?_⟩
 ·rw [hn,Nat.pow_add,←B30_pow,Nat.mul_assoc,hx]
  congr 1
  rw [Nat.mul_add,←Nat.mul_assoc,←Nat.pow_add,show j+(30 - j)=30 by omega]
  rfl
 ·rw [show 30 - j=(29 - j)+1 by omega,Nat.pow_succ,Nat.mul_assoc,Nat.mul_comm,Nat.mul_assoc]
  omega
theorem num_drop_cons {B:Nat} {l:List Nat} {k:Nat} (hk:k<l.length):num B (l.drop k)=l.getD k 0+B*num B (l.drop (k+1)):=by
 rw [List.drop_eq_getElem_cons hk,num_cons]
 simp [List.getD_eq_getElem?_getD,hk]
theorem zeros_r (va:Value) (n:Nat) (h0:0<n) (w:World) (ha:Wr w va n) (sa:Sr n):Calls Tryz.prog 168 #[va] w fun e w'=>(∃z u:Nat,e=.returned (.int .i64 z)∧n=2 ^ z*u∧u % 2=1)∧w=w':=by
 obtain⟨A,ca,rfl,hca,hA⟩:=ha;unfold Sr at sa;have en:=num_dr n;have nl:=dr_lt n;generalize dr n=l at *
 have hl0:0<l.length:=by
  rcases Nat.eq_zero_or_pos l.length with h|h
  ·rw [List.length_eq_zero_iff.1 h] at en;simp at en;omega
  ·exact h
 obtain⟨b,o,rfl,hc⟩:=hA.i hl0;have En:=ZZ en;have Nl:=ZZ nl;have HC:=ZZ hc;have H0:=ZZ h0;clear en nl hA hc h0
 go_enter Tryz.func168,Tryz.ntmps168
 go_wp2_with fail
 go_loop [3] (fun v=>∃i N:Nat,i<l.length∧N=30*i∧v=.int .i64 (N:Int)∧num B30 (l.take i)=0) (fun v=>30*l.length - (intOf v).toNat)
 case atStart=>exact⟨0,0,hl0,rfl,rfl,by simp⟩
 case round=>
  obtain⟨i,N,hi,hN,rfl,hz⟩:=hrel;have ea:=HC.out i hi;have hxb:=getD_lt Nl.out (by rw [B30_eq];omega) i;have HX:=ZZ hxb;have HT:=ZZ (num_take_succ B30 l i hi);have HZ:=ZZ hz;have HND:=ZZ (num_drop B30 l i (by omega));have HNC:=ZZ (num_drop_cons (B:=B30) hi);have hq:(N:Int) / 30=(i:Int):=by omega
  have hwq:IntKind.i64.wrap (i:Int)=(i:Int):=IntWalk.i64_in _ (by omega);have hw2:IntKind.i64.wrap ((N:Int)+30)=((N+30:Nat):Int):=(IntWalk.i64_in _ (by omega)).trans (by omega);have hNb:N≤9223372036854775:=by omega
  have HN:=ZZ hN;rw [B30_eq] at hxb;clear hz hl0;generalize l.getD i 0=x at *
  by_cases hx:x=0
  ·have ht:((x:Int) == 0)=true:=by simp;omega
   have hi1:i+1<l.length:=by
    rcases Nat.lt_or_ge (i+1) l.length with h|h
    ·exact h
    ·exfalso
     have h1:=HT.out;rw [num_take_all B30 l h,En.out,HZ.out,hx] at h1
     have:=H0.out
     omega
   have HT':=ZZ (show num B30 (l.take (i+1))=0 by rw [HT.out,HZ.out,hx];rfl);clear hx hN;go_wp2_with fail
   go_round
   case rel=>exact⟨i+1,N+30,hi1,by have:=HN.out;omega,by first|rfl|(congr 1;omega),HT'.out⟩
   case measure=>have:=HN.out;simp [intOf];omega
  ·have ht:((x:Int) == 0)=false:=by simp;omega
   have HX0:=ZZ hx;clear hx hN;go_wp2_with fail
   go_loop [3,4] (fun a c=>∃j t N2:Nat,N2=N+j∧a=.int .i64 (N2:Int)∧c=.int .i64 (t:Int)∧x=2 ^ j*t∧0<t∧j≤30) (fun _ c=>(intOf c).toNat)
   case atStart=>exact⟨0,x,N,rfl,rfl,rfl,by simp,by have:=HX0.out;omega,by omega⟩
   case round=>
    obtain⟨j,t,N2,hN2,rfl,rfl,hxt,ht0,hj⟩:=hrel;have HXT:=ZZ hxt;have HN2:=ZZ hN2
    have htb:t≤1073741824:=by
     have:1*t≤2 ^ j*t:=Nat.mul_le_mul_right _ (Nat.pow_pos (by omega))
     omega
    have hN2b:N2≤9223372036854776:=by omega
    clear hxt hN2
    rcases Nat.mod_two_eq_zero_or_one t with he|he
    ·obtain⟨t2,ht2⟩:∃t2,t=2*t2:=⟨t / 2,by omega⟩
     subst ht2;have hrem:(((2*t2:Nat):Int) % 2 == 0)=true:=by simp
     have hquo:((2*t2:Nat):Int) / 2=(t2:Int):=by omega
     have hw3:IntKind.i64.wrap (t2:Int)=(t2:Int):=IntWalk.i64_in _ (by omega);have hw4:IntKind.i64.wrap ((N2:Int)+1)=((N2+1:Nat):Int):=(IntWalk.i64_in _ (by omega)).trans (by omega);have HXT':=ZZ (show x=2 ^ (j+1)*t2 by rw [HXT.out,Nat.pow_succ,Nat.mul_assoc])
     have hj1:j+1≤30:=by
      rcases Nat.lt_or_ge j 30 with h'|h'
      ·exact h'
      ·have h1:2 ^ 30≤2 ^ j:=Nat.pow_le_pow_right (by omega) h'
       have h2:2 ^ j*1≤2 ^ j*(2*t2):=Nat.mul_le_mul_left _ ht0
       have:=HXT.out
       omega
     clear he;go_wp2_with fail
     go_round
     case rel=>exact⟨j+1,t2,N2+1,by have:=HN2.out;omega,by first|rfl|(congr 1;omega),by first|rfl|(congr 1;omega),HXT'.out,by omega,hj1⟩
     case measure=>simp [intOf];omega
    ·have hrem:((t:Int) % 2 == 0)=false:=by rw [beq_eq_false_iff_ne];omega
     have HE:=ZZ he;clear he;go_wp2_with fail;go_ret;have h1:=HND.out;rw [HZ.out,Nat.zero_add,HNC.out,En.out] at h1;obtain⟨u,hu1,hu2⟩:=zeros_end h1 HXT.out HX.out ht0 HE.out;have hu3:n=2 ^ N2*u:=by rw [HN2.out,HN.out];exact hu1
     first
      | exact⟨⟨N2,u,rfl,hu3,hu2⟩,rfl⟩
      | exact⟨⟨N2,rfl,u,hu3,hu2⟩,rfl⟩
end Go.Proofs.YtjamgccgoapbeaaGreatDoor
set_option linter.unusedVariables false
set_option maxRecDepth 100000
set_option maxHeartbeats 64000000
namespace Go.Proofs.YtjamgccgoapbeaaGreatDoor
def cnv:(Nat→Rat)→(Nat→Rat)→Nat→Rat
 | f,g,0=>f 0*g 0
 | f,g,i+1=>f 0*g (i+1)+cnv (fun k=>f (k+1)) g i
theorem cnv_succ (f g:Nat→Rat) (i:Nat):cnv f g (i+1)=f 0*g (i+1)+cnv (fun k=>f (k+1)) g i:=rfl
def co (p:List Rat) (i:Nat):Rat:=p[i]?.getD 0
theorem co_succ (a:Rat) (p:List Rat) (i:Nat):co (a :: p) (i+1)=co p i:=rfl
theorem co_ge {p:List Rat} {i:Nat} (h:p.length≤i):co p i=0:=by unfold co;rw [List.getElem?_eq_none h];rfl
def trimF:List Rat→List Rat
 | []=>[]
 | a :: p=>if trimF p=[] then (if a=0 then [] else [a]) else a :: trimF p
theorem trim_zero {p:List Rat} (h:∀i,co p i=0):trimF p=[]:=by
 induction p with
 | nil=>rfl
 | cons a p ih=>
  have h0:a=0:=h 0
  show (if trimF p=[] then (if a=0 then [] else [a]) else a :: trimF p)=[]
  rw [ih (fun i=>h (i+1)),if_pos rfl,if_pos h0]
theorem co_trim (p:List Rat):∀i,co (trimF p) i=co p i:=by
 induction p with
 | nil=>exact fun _=>rfl
 | cons a p ih=>
  intro i
  show co (if trimF p=[] then (if a=0 then [] else [a]) else a :: trimF p) i=_
  by_cases h:trimF p=[]
  ·rw [if_pos h]
   have hz:∀j,co p j=0:=fun j=>by rw [←ih j,h];rfl
   by_cases ha:a=0
   ·rw [if_pos ha,ha]
    cases i with
    | zero=>rfl
    | succ i=>rw [co_succ,hz];rfl
   ·rw [if_neg ha]
    cases i with
    | zero=>rfl
    | succ i=>rw [co_succ,co_succ,hz];rfl
  ·rw [if_neg h]
   cases i with
   | zero=>rfl
   | succ i=>rw [co_succ,co_succ,ih]
theorem trim_co {p q:List Rat} (h:∀i,co p i=co q i):trimF p=trimF q:=by
 induction p generalizing q with
 | nil=>exact(trim_zero fun i=>(h i).symm).symm
 | cons a p ih=>
  cases q with
  | nil=>exact trim_zero h
  | cons b q=>
   have h0:a=b:=h 0;have h1:=ih (q:=q) (fun i=>h (i+1))
   show (if trimF p=[] then (if a=0 then [] else [a]) else a :: trimF p)=(if trimF q=[] then (if b=0 then [] else [b]) else b :: trimF q)
   rw [h0,h1]
theorem trim_trim (p:List Rat):trimF (trimF p)=trimF p:=trim_co (co_trim p)
theorem trim_snoc_zero (p:List Rat):trimF (p ++ [0])=trimF p:=by
 induction p with
 | nil=>simp [trimF]
 | cons a p ih=>show (if trimF (p ++ [0])=[] then (if a=0 then [] else [a]) else a :: trimF (p ++ [0]))=_;rw [ih];rfl
theorem trim_snoc {p:List Rat} {q:Rat} (h:q≠0):trimF (p ++ [q])=p ++ [q]:=by
 induction p with
 | nil=>simp [trimF,h]
 | cons a p ih=>
  show (if trimF (p ++ [q])=[] then (if a=0 then [] else [a]) else a :: trimF (p ++ [q]))=_
  rw [ih,if_neg (by simp)]
  rfl
theorem trim_last {p:List Rat} (h:trimF p≠[]):co p ((trimF p).length - 1)≠0:=by
 induction p with
 | nil=>exact absurd rfl h
 | cons a p ih=>
  have e:trimF (a :: p)=if trimF p=[] then (if a=0 then [] else [a]) else a :: trimF p:=rfl
  by_cases hp:trimF p=[]
  ·rw [e,if_pos hp] at h ⊢
   by_cases ha:a=0
   ·rw [if_pos ha] at h;exact absurd rfl h
   ·rw [if_neg ha];exact ha
  ·rw [e,if_neg hp] at h ⊢
   have h1:=ih hp;obtain⟨n,hn⟩:∃n,(trimF p).length=n+1:=⟨(trimF p).length - 1,by have:=List.length_pos_iff.2 hp;omega⟩;rw [hn] at h1
   show co (a :: p) ((a :: trimF p).length - 1)≠0
   rw [List.length_cons,hn];exact h1
def zipA:List Rat→List Rat→List Rat
 | [],q=>q
 | a :: p,[]=>a :: p
 | a :: p,b :: q=>(a+b) :: zipA p q
theorem co_zip (p q:List Rat):∀i,co (zipA p q) i=co p i+co q i:=by
 induction p generalizing q with
 | nil=>intro i;show co q i=0+co q i;grind
 | cons a p ih=>
  intro i
  cases q with
  | nil=>show co (a :: p) i=co (a :: p) i+0;grind
  | cons b q=>
   cases i with
   | zero=>rfl
   | succ i=>exact ih q i
theorem co_map (x:Rat) (p:List Rat):∀i,co (p.map (·*x)) i=co p i*x:=by
 induction p with
 | nil=>intro i;show (0:Rat)=0*x;grind
 | cons a p ih=>
  intro i
  cases i with
  | zero=>rfl
  | succ i=>exact ih i
def mulR:List Rat→List Rat→List Rat
 | [],_=>[]
 | a :: p,q=>zipA (q.map (·*a)) (0 :: mulR p q)
theorem cnv_zero_l (g:Nat→Rat) (i:Nat):cnv (fun _=>0) g i=0:=by
 induction i with
 | zero=>show 0*g 0=0;grind
 | succ i ih=>rw [cnv_succ];show 0*g (i+1)+cnv (fun _=>0) g i=0;rw [ih];grind
theorem co_mulR (p q:List Rat):∀i,co (mulR p q) i=cnv (co p) (co q) i:=by
 induction p with
 | nil=>intro i;exact(cnv_zero_l _ i).symm
 | cons a p ih=>
  intro i
  show co (zipA (q.map (·*a)) (0 :: mulR p q)) i=_
  rw [co_zip,co_map]
  cases i with
  | zero=>show co q 0*a+0=a*co q 0;grind
  | succ i=>
   show co q (i+1)*a+co (mulR p q) i=a*co q (i+1)+cnv (co p) (co q) i
   rw [ih];grind
def evR (p:List Rat) (x:Rat):Rat:=match p with|[]=>0|a :: p=>evR p x*x+a
end Go.Proofs.YtjamgccgoapbeaaGreatDoor
set_option linter.unusedVariables false
set_option maxRecDepth 100000
set_option maxHeartbeats 64000000
namespace Go.Proofs.YtjamgccgoapbeaaGreatDoor
open Go.RowKit
theorem dg_len_zero {n:Nat}:(dg n).length=0↔n=0:=by
 rw [List.length_eq_zero_iff];exact dig_eq_nil B64_two
theorem Nm.form {w:World} {v:Value} {q:Rat} (h:Nm w v q):∃A k c B l d,v=.agg #[.bool (decide (q.num<0)),.slice A k c,.slice B l d]∧Wd w (.slice A k c) q.num.natAbs∧Wd w (.slice B l d) (dn q)∧(k=0↔q=0)∧(l=0↔q.den=1):=by
 obtain⟨vn,vd,rfl,h1,h2⟩:=h;obtain⟨A,c,rfl⟩:=h1.form;obtain⟨B,d,rfl⟩:=h2.form;refine⟨A,_,c,B,_,d,rfl,h1,h2,?_,?_⟩
 ·rw [dg_len_zero,Int.natAbs_eq_zero];exact Rat.num_eq_zero
 ·rw [dg_len_zero]
  unfold dn
  have:=q.den_nz
  split <;> simp_all
theorem under_c (v:Value) (q:Rat) (w:World) (h:Nm w v q):Calls Tryz.prog 74 #[v] w fun e w'=>∃v',e=.returned v'∧Wd w' v' q.den∧Ext w w':=by
 obtain⟨A,k,c,B,l,d,rfl,h1,h2,-,hl⟩:=h.form;have H2:=ZZ h2;have Hl:=ZZ hl;clear h1 h2 hl h
 rcases Nat.eq_zero_or_pos l with h0|h0
 ·subst h0
  go_enter Tryz.func74,Tryz.ntmps74
  go_wp2_with fail;refine(one_c _).mono ?_
  rintro e w1 ⟨v1,rfl,hv,hx⟩;have Hv:=ZZ hv;have Hx:=ZZ hx;clear hv hx;go_wp2_with fail;go_ret;refine⟨_,rfl,?_,am (ab _ _) Hx.out⟩;rw [Hl.out.1 (by first|rfl|trivial)];exact Hv.out
 ·have t1:((l:Int) == 0)=false:=by simp;omega
  go_enter Tryz.func74,Tryz.ntmps74
  go_wp2_with fail;go_ret
  refine⟨_,rfl,?_,ab _ _⟩;have h3:¬ q.den=1:=fun h=>by have:=Hl.out.2 h;omega
  have h4:=H2.out.mono (ab w (.cells #[.bool (decide (q.num<0)),.slice A k c,.slice B l d] 35));unfold dn at h4;rw [if_neg h3] at h4;exact h4
end Go.Proofs.YtjamgccgoapbeaaGreatDoor
set_option linter.unusedVariables false
set_option maxRecDepth 100000
set_option maxHeartbeats 64000000
namespace Go.Proofs.YtjamgccgoapbeaaGreatDoor
open Go.RowKit
theorem sm_of_lt {n B:Nat} (h:n<2 ^ B) (hB:B≤35184372088832):Sm n:=by
 unfold Sm dg
 have h1:n<B64 ^ (B / 64+1):=by
  have:B64=2 ^ 64:=rfl
  rw [this,←Nat.pow_mul];exact Nat.lt_of_lt_of_le h (Nat.pow_le_pow_right (by decide) (by omega))
 have h2:=dig_length_le B64_two h1;omega
theorem lt_mul {m n A B:Nat} (h:m<2 ^ A) (k:n<2 ^ B):m*n<2 ^ (A+B):=by
 rw [Nat.pow_add]
 rcases Nat.eq_zero_or_pos n with h0|h0
 ·subst h0
  rw [Nat.mul_zero];exact Nat.mul_pos (Nat.pow_pos (by decide)) (Nat.pow_pos (by decide))
 ·calc m*n<2 ^ A*n:=Nat.mul_lt_mul_of_pos_right h h0
   _≤2 ^ A*2 ^ B:=Nat.mul_le_mul_left _ (Nat.le_of_lt k)
theorem lt_add {m n A:Nat} (h:m<2 ^ A) (k:n<2 ^ A):m+n<2 ^ (A+1):=by
 rw [Nat.pow_succ];omega
theorem lt_mono {m A B:Nat} (h:m<2 ^ A) (k:A≤B):m<2 ^ B:=
 Nat.lt_of_lt_of_le h (Nat.pow_le_pow_right (by decide) k)
def Bq (B:Nat) (q:Rat):Prop:=q.num.natAbs<2 ^ B∧q.den<2 ^ B
theorem Bq.mono {A B:Nat} {q:Rat} (h:Bq A q) (k:A≤B):Bq B q:=⟨lt_mono h.1 k,lt_mono h.2 k⟩
theorem bq_rat {b:Bool} {n d B:Nat} (hn:n<2 ^ B) (hd:d<2 ^ B) (h0:d≠0):Bq B (rat b n d):=
 ⟨by rw [rat_natAbs _ _ _ h0];exact Nat.lt_of_le_of_lt (Nat.div_le_self _ _) hn,by rw [rat_den _ _ _ h0];exact Nat.lt_of_le_of_lt (Nat.div_le_self _ _) hd⟩
theorem bq_zero (B:Nat) (h:0<B):Bq B 0:=⟨by simp;exact Nat.pow_pos (by decide),by
 show 1<2 ^ B
 exact Nat.one_lt_two_pow (by omega)⟩
theorem Bq.neg {B:Nat} {q:Rat} (h:Bq B q):Bq B (-q):=⟨by rw [Rat.neg_num,Int.natAbs_neg];exact h.1,by rw [Rat.neg_den];exact h.2⟩
theorem Bq.mul {A B:Nat} {x y:Rat} (h:Bq A x) (k:Bq B y):Bq (A+B) (x*y):=by
 rw [←mul_parts x y];exact bq_rat (lt_mul h.1 k.1) (lt_mul h.2 k.2) (Nat.mul_ne_zero x.den_nz y.den_nz)
theorem Bq.add {A B:Nat} {x y:Rat} (h:Bq A x) (k:Bq B y):Bq (A+B+1) (x+y):=by
 have h1:=lt_mul h.1 k.2;have h2:=lt_mul k.1 h.2;rw [Nat.add_comm B A] at h2;have h3:=lt_mul h.2 k.2;have h4:x.den*y.den<2 ^ (A+B+1):=lt_mono h3 (by omega);have h0:=Nat.mul_ne_zero x.den_nz y.den_nz
 by_cases hs:decide (x.num<0)=decide (y.num<0)
 ·rw [←add_same x y hs]
  exact bq_rat (lt_add h1 h2) h4 h0
 ·have hs':decide (x.num<0)=!decide (y.num<0):=by
   revert hs;cases decide (x.num<0) <;> cases decide (y.num<0) <;> simp
  rcases Nat.le_total (y.num.natAbs*x.den) (x.num.natAbs*y.den) with hl|hl
  ·rw [←add_more x y hs' hl]
   exact bq_rat (Nat.lt_of_le_of_lt (Nat.sub_le _ _) (lt_mono h1 (by omega))) h4 h0
  ·rw [←add_less x y hs' hl]
   exact bq_rat (Nat.lt_of_le_of_lt (Nat.sub_le _ _) (lt_mono h2 (by omega))) h4 h0
theorem Bq.sub {A B:Nat} {x y:Rat} (h:Bq A x) (k:Bq B y):Bq (A+B+1) (x - y):=by
 rw [Rat.sub_eq_add_neg];exact h.add k.neg
theorem Bq.div {A B:Nat} {x y:Rat} (h:Bq A x) (k:Bq B y) (hy:y≠0):Bq (A+B) (x / y):=by
 rw [←div_parts x y hy];have hn:y.num.natAbs≠0:=by rw [Ne,Int.natAbs_eq_zero,Rat.num_eq_zero];exact hy
 exact bq_rat (lt_mul h.1 k.2) (lt_mul h.2 k.1) (Nat.mul_ne_zero x.den_nz hn)
theorem Bq.sm {M:Nat} {x:Rat} (h:Bq M x) (hM:M≤1099511627776):Sm x.num.natAbs∧Sm x.den:=
 ⟨sm_of_lt h.1 (by omega),sm_of_lt h.2 (by omega)⟩
theorem Bq.sm2 {M:Nat} {x y:Rat} (h:Bq M x) (k:Bq M y) (hM:M≤1099511627776):Sm (x.num.natAbs*y.num.natAbs)∧Sm (x.den*y.den)∧Sm (x.num.natAbs*y.den)∧Sm (y.num.natAbs*x.den)∧Sm (x.den*y.num.natAbs)∧Sm (x.num.natAbs*y.den+y.num.natAbs*x.den):=
 ⟨sm_of_lt (lt_mul h.1 k.1) (by omega),sm_of_lt (lt_mul h.2 k.2) (by omega),sm_of_lt (lt_mul h.1 k.2) (by omega),sm_of_lt (lt_mul k.1 h.2) (by omega),sm_of_lt (lt_mul h.2 k.1) (by omega),sm_of_lt (lt_add (lt_mul h.1 k.2) (lt_mul k.1 h.2)) (by omega)⟩
end Go.Proofs.YtjamgccgoapbeaaGreatDoor
set_option linter.unusedVariables false
set_option maxRecDepth 100000
set_option maxHeartbeats 64000000
namespace Go.Proofs.YtjamgccgoapbeaaGreatDoor
open Go.RowKit
theorem setup2 (w:World) (x0 x1 x2 y0 y1 y2:Value):(∀W,Ext ((w.alloc (.cells #[x0,x1,x2] 35)).alloc (.cells #[y0,y1,y2] 35)) W→W.cell? ⟨w.heap.size,0,none⟩=some x0∧W.cell? ⟨w.heap.size,1,none⟩=some x1∧W.cell? ⟨w.heap.size,2,none⟩=some x2∧W.cell? ⟨w.heap.size+1,0,none⟩=some y0∧W.cell? ⟨w.heap.size+1,1,none⟩=some y1∧W.cell? ⟨w.heap.size+1,2,none⟩=some y2)∧(∀W,Ext (((w.alloc (.cells #[x0,x1,x2] 35)).alloc (.cells #[y0,y1,y2] 35)).alloc (.cells #[.bool false,.slice none 0 0,.slice none 0 0] 35)) W→W.heap[w.heap.size+1+1]?=some (.cells #[.bool false,.slice none 0 0,.slice none 0 0] 35 (0,0)))∧Ext w ((w.alloc (.cells #[x0,x1,x2] 35)).alloc (.cells #[y0,y1,y2] 35))∧Ext ((w.alloc (.cells #[x0,x1,x2] 35)).alloc (.cells #[y0,y1,y2] 35)) (((w.alloc (.cells #[x0,x1,x2] 35)).alloc (.cells #[y0,y1,y2] 35)).alloc (.cells #[.bool false,.slice none 0 0,.slice none 0 0] 35))∧w.heap.size≤w.heap.size+1+1∧((w.alloc (.cells #[x0,x1,x2] 35)).alloc (.cells #[y0,y1,y2] 35)).heap.size≤w.heap.size+1+1:=by
 have z0:(w.alloc (.cells #[x0,x1,x2] 35)).heap.size=w.heap.size+1:=by simp
 have z1:((w.alloc (.cells #[x0,x1,x2] 35)).alloc (.cells #[y0,y1,y2] 35)).heap.size=w.heap.size+1+1:=by simp
 have e0:Ext w (w.alloc (.cells #[x0,x1,x2] 35)):=ab _ _;generalize hw0:w.alloc (.cells #[x0,x1,x2] 35)=w0 at *;have e1:Ext w0 (w0.alloc (.cells #[y0,y1,y2] 35)):=ab _ _;refine⟨fun W h=>?_,fun W h=>?_,am e0 e1,ab _ _,by omega,Nat.le_of_eq z1⟩
 ·have r0:=row3 (hw0 ▸ (am e1 h):Ext (w.alloc (.cells #[x0,x1,x2] 35)) W)
  have r1:=row3 h;rw [z0] at r1;obtain⟨a,b,c,-⟩:=aj r0;obtain⟨a',b',c',-⟩:=aj r1;exact⟨a,b,c,a',b',c'⟩
 ·have r2:=row3 h
  rw [z1] at r2;exact r2
theorem Nm.put3 {W:World} {s:Bool} {A B:Option Addr} {k c l d g:Nat} {q:Rat} (h:Nm W (.agg #[.bool s,.slice A k c,.slice B l d]) q) (hg:W.heap[g]?=some (.cells #[.bool false,.slice none 0 0,.slice none 0 0] 35 (0,0))):Nm (((W.setCell ⟨g,0,none⟩ (.bool s)).setCell ⟨g,1,none⟩ (.slice A k c)).setCell ⟨g,2,none⟩ (.slice B l d)) (.agg #[.bool s,.slice A k c,.slice B l d]) q:=by
 obtain⟨vn,vd,e,h1,h2⟩:=h;exact⟨vn,vd,e,h1.put3 hg _ _ _,h2.put3 hg _ _ _⟩
theorem mul_q (M:Nat) (hM:M≤1099511627776) (vx vy:Value) (x y:Rat) (w:World) (hx:Nm w vx x) (hy:Nm w vy y) (bx:Bq M x) (by_:Bq M y):Calls Tryz.prog 45 #[vx,vy] w fun e w'=>∃v,e=.returned v∧Nm w' v (x*y)∧Ext w w':=by
 obtain⟨A,k,ca,B,l,cb,rfl,hxn,hxd,-,-⟩:=hx.form;obtain⟨C,m,cc,D,n,cd,rfl,hyn,hyd,-,-⟩:=hy.form;obtain⟨s1,s2,-,-,-,-⟩:=Bq.sm2 bx by_ hM;obtain⟨s3,s4⟩:=bx.sm hM;obtain⟨s5,s6⟩:=by_.sm hM;have D0:=ZZ (Nat.mul_pos x.den_pos y.den_pos);have Hx:=ZZ hx;have Hy:=ZZ hy;have Hxn:=ZZ hxn;have Hyn:=ZZ hyn;have S1:=ZZ s1;have S2:=ZZ s2;have S3:=ZZ s3;have S4:=ZZ s4;have S5:=ZZ s5;have S6:=ZZ s6;obtain⟨hS,hZ,hw1,hw2,hsz,hsz1⟩:=setup2 w (.bool (decide (x.num<0))) (.slice A k ca) (.slice B l cb) (.bool (decide (y.num<0))) (.slice C m cc) (.slice D n cd);have HS:=ZZ hS;have HZ:=ZZ hZ;have HW1:=ZZ hw1;have HW2:=ZZ hw2;have Hsz:=ZZ hsz;have Hsz1:=ZZ hsz1;clear hx hy hxn hxd hyn hyd s1 s2 s3 s4 s5 s6 hS hZ hw1 hw2 hsz hsz1 bx by_ hM;generalize hbx:decide (x.num<0)=b1 at *;generalize hby:decide (y.num<0)=b2 at *;have Hbx:=ZZ hbx
 have Hby:=ZZ hby
 clear hbx hby
 go_enter Tryz.func45,Tryz.ntmps45
 go_wp2_with fail;generalize World.alloc (World.alloc (World.alloc w (.cells #[.bool b1,.slice A k ca,.slice B l cb] _)) (.cells #[.bool b2,.slice C m cc,.slice D n cd] _)) _=W2 at *
 generalize World.alloc (World.alloc w (.cells #[.bool b1,.slice A k ca,.slice B l cb] _)) (.cells #[.bool b2,.slice C m cc,.slice D n cd] _)=W1 at *;generalize hg0:w.heap.size=g0 at *;have Hsz:=ZZ (show w.heap.size≤g0+1+1 by omega);clear hg0;have hx0:=ZZ (ac W2);have hww:=ZZ (am HW1.out HW2.out);have hS0:=HS.out W2 HW2.out
 go_region_held3 (fun W=>W.cell? ⟨g0,0,none⟩=some (.bool b1)∧W.cell? ⟨g0,1,none⟩=some (.slice A k ca)∧W.cell? ⟨g0,2,none⟩=some (.slice B l cb)∧W.cell? ⟨g0+1,0,none⟩=some (.bool b2)∧W.cell? ⟨g0+1,1,none⟩=some (.slice C m cc)∧W.cell? ⟨g0+1,2,none⟩=some (.slice D n cd))
  (first
   | exact HS.out _ (ap (am HW2.out hx5.out) Hsz1.out _ _ _)
   | exact HS.out _ (am HW2.out hx5.out)
   | exact HS.out _ (am HW2.out hx4.out)
   | exact HS.out _ (am HW2.out hx3.out)
   | exact HS.out _ (am HW2.out hx2.out)
   | exact HS.out _ (am HW2.out hx1.out)
   | exact HS.out _ (am HW2.out hx0.out))
  (first
   |(go_at_call_of 73 A
     refine(mul_c _ _ _ _ _ (Hxn.out.mono (am hww.out hx0.out)) (Hyn.out.mono (am hww.out hx0.out)) S3.out S5.out).mono ?_;rintro e w3 ⟨v3,rfl,h3,k3⟩;obtain⟨P1,p1,c1,rfl⟩:=h3.form';have hx1:=ZZ (am hx0.out k3);have H3:=ZZ h3;clear h3 k3)
   |(go_at_call_of 74 B
     refine(under_c _ _ _ (Hx.out.mono (am hww.out hx1.out))).mono ?_;rintro e w4 ⟨v4,rfl,h4,k4⟩;obtain⟨P2,p2,c2,rfl⟩:=h4.form';have hx2:=ZZ (am hx1.out k4);have H3':=ZZ (H3.out.mono k4);have H4:=ZZ h4;clear h4 k4)
   |(go_at_call_of 74 D
     refine(under_c _ _ _ (Hy.out.mono (am hww.out hx2.out))).mono ?_;rintro e w5 ⟨v5,rfl,h5,k5⟩;obtain⟨P3,p3,c3,rfl⟩:=h5.form';have hx3:=ZZ (am hx2.out k5);have H3'':=ZZ (H3'.out.mono k5);have H4':=ZZ (H4.out.mono k5);have H5:=ZZ h5;clear h5 k5)
   |(go_at_call_of 73 P2
     refine(mul_c _ _ _ _ _ H4'.out H5.out S4.out S6.out).mono ?_;rintro e w6 ⟨v6,rfl,h6,k6⟩;obtain⟨P4,p4,c4,rfl⟩:=h6.form';have hx4:=ZZ (am hx3.out k6);have H3t:=ZZ (H3''.out.mono k6);have H6:=ZZ h6;clear h6 k6)
   |(go_at_call 57
     refine(reduced_c _ _ _ _ _ _ H3t.out H6.out S1.out S2.out D0.out).mono ?_;rintro e w7 ⟨v7,rfl,h7,k7⟩;obtain⟨P5,p5,c5,P6,p6,c6,h7e,-⟩:=h7.form;subst h7e;have hx5:=ZZ (am hx4.out k7);have H7:=ZZ h7;have hz:=HZ.out _ hx5.out;obtain⟨z0,z1,z2,f0,f1,f2⟩:=aj hz;have Hz:=ZZ hz;clear h7 k7 hz))
 go_wp2_with fail;refine bodyPost_ret (v:=.agg #[.bool (decide ((rat (!(b1 == b2)) (x.num.natAbs*y.num.natAbs) (x.den*y.den)).num<0)),.slice P5 p5 c5,.slice P6 p6 c6]) (by simp [results,Tryz.f45];go_simp) rfl ?_
 refine⟨_,rfl,?_,ap (am hww.out hx5.out) Hsz.out _ _ _⟩;have hr:=mul_parts x y;rw [Hbx.out,Hby.out] at hr;have hr':rat (!(b1 == b2)) (x.num.natAbs*y.num.natAbs) (x.den*y.den)=x*y:=hr;have h8:=H7.out.put3 Hz.out;rw [hr'] at h8 ⊢;exact h8
end Go.Proofs.YtjamgccgoapbeaaGreatDoor
set_option linter.unusedVariables false
set_option maxRecDepth 100000
set_option maxHeartbeats 64000000
namespace Go.Proofs.YtjamgccgoapbeaaGreatDoor
open Go.RowKit
theorem setup1 (w:World) (x0 x1 x2:Value):(∀W,Ext (w.alloc (.cells #[x0,x1,x2] 35)) W→W.cell? ⟨w.heap.size,0,none⟩=some x0∧W.cell? ⟨w.heap.size,1,none⟩=some x1∧W.cell? ⟨w.heap.size,2,none⟩=some x2)∧(∀W,Ext ((w.alloc (.cells #[x0,x1,x2] 35)).alloc (.cells #[.bool false,.slice none 0 0,.slice none 0 0] 35)) W→W.heap[w.heap.size+1]?=some (.cells #[.bool false,.slice none 0 0,.slice none 0 0] 35 (0,0)))∧Ext w (w.alloc (.cells #[x0,x1,x2] 35))∧Ext (w.alloc (.cells #[x0,x1,x2] 35)) ((w.alloc (.cells #[x0,x1,x2] 35)).alloc (.cells #[.bool false,.slice none 0 0,.slice none 0 0] 35))∧w.heap.size≤w.heap.size+1∧(w.alloc (.cells #[x0,x1,x2] 35)).heap.size≤w.heap.size+1:=by
 have z0:(w.alloc (.cells #[x0,x1,x2] 35)).heap.size=w.heap.size+1:=by simp
 refine⟨fun W h=>?_,fun W h=>?_,ab _ _,ab _ _,by omega,Nat.le_of_eq z0⟩
 ·obtain⟨a,b,c,-⟩:=aj (row3 h)
  exact⟨a,b,c⟩
 ·have r2:=row3 h
  rw [z0] at r2;exact r2
theorem setup2n (w:World) (x0 x1 x2 y0 y1 y2:Value):(∀W,Ext ((w.alloc (.cells #[x0,x1,x2] 35)).alloc (.cells #[y0,y1,y2] 35)) W→W.cell? ⟨w.heap.size,0,none⟩=some x0∧W.cell? ⟨w.heap.size,1,none⟩=some x1∧W.cell? ⟨w.heap.size,2,none⟩=some x2∧W.cell? ⟨w.heap.size+1,0,none⟩=some y0∧W.cell? ⟨w.heap.size+1,1,none⟩=some y1∧W.cell? ⟨w.heap.size+1,2,none⟩=some y2)∧Ext w ((w.alloc (.cells #[x0,x1,x2] 35)).alloc (.cells #[y0,y1,y2] 35)):=by
 have h:=setup2 w x0 x1 x2 y0 y1 y2;exact⟨h.1,h.2.2.1⟩
theorem dn_neg (x:Rat):dn (-x)=dn x:=by unfold dn;rw [Rat.neg_den]
theorem Nm.flip {W:World} {s:Bool} {vn vd:Value} {x:Rat} (h1:Wd W vn x.num.natAbs) (h2:Wd W vd (dn x)) (hs:s=decide ((-x).num<0)):Nm W (.agg #[.bool s,vn,vd]) (-x):=by
 subst hs;exact⟨_,_,rfl,by rw [Rat.neg_num,Int.natAbs_neg];exact h1,by rw [dn_neg];exact h2⟩
theorem Nm.same {W:World} {s:Bool} {vn vd:Value} {x:Rat} (h1:Wd W vn x.num.natAbs) (h2:Wd W vd (dn x)) (hs:s=decide (x.num<0)):Nm W (.agg #[.bool s,vn,vd]) x:=by
 subst hs;exact⟨_,_,rfl,h1,h2⟩
theorem ext2 (w:World) (a b:Obj):Ext w ((w.alloc a).alloc b):=am (ab _ _) (ab _ _)
theorem ret_i {a b:Int} (h:a=b):Ending.returned (.int .i64 b)=.returned (.int .i64 a):=by rw [h]
def absQ (x:Rat):Rat:=if x.num<0 then -x else x
theorem neg_q (vx:Value) (x:Rat) (w:World) (hx:Nm w vx x):Calls Tryz.prog 64 #[vx] w fun e w'=>∃v,e=.returned v∧Nm w' v (-x)∧Ext w w':=by
 obtain⟨A,k,ca,B,l,cb,rfl,hxn,hxd,hk,-⟩:=hx.form;have Hxn:=ZZ hxn;have Hxd:=ZZ hxd;have Hk:=ZZ hk;clear hx hxn hxd hk
 rcases hb:decide (x.num<0) with _|_
 ·have Hb:=ZZ (show ¬ x.num<0 by simpa using hb)
  clear hb
  rcases Nat.eq_zero_or_pos k with h0|h0
  ·subst h0
   go_enter Tryz.func64,Tryz.ntmps64
   go_wp2_with fail;refine bodyPost_ret (v:=.agg #[.bool false,.slice A 0 ca,.slice B l cb]) (by simp [results,Tryz.f64];go_simp) rfl ?_
   have e:x=0:=Hk.out.1 (by first|rfl|trivial);refine⟨_,rfl,Nm.flip (Hxn.out.mono (ext2 _ _ _)) (Hxd.out.mono (ext2 _ _ _)) ?_,ext2 _ _ _⟩;rw [e];rfl
  ·have t1:((0:Int)<(k:Int)):=by omega
   have hk0:¬ k=0:=by omega
   have Hk0:=ZZ hk0;clear hk0
   go_enter Tryz.func64,Tryz.ntmps64
   go_wp2_with fail;refine bodyPost_ret (v:=.agg #[.bool true,.slice A k ca,.slice B l cb]) (by simp [results,Tryz.f64];go_simp) rfl ?_
   have e:x.num≠0:=fun e=>Hk0.out (Hk.out.2 (Rat.num_eq_zero.1 e));have hb:=Hb.out;refine⟨_,rfl,Nm.flip (Hxn.out.mono (ext2 _ _ _)) (Hxd.out.mono (ext2 _ _ _)) ?_,ext2 _ _ _⟩;rw [Rat.neg_num];symm;rw [decide_eq_true_eq];omega
 ·have Hb:=ZZ (show x.num<0 by simpa using hb)
  clear hb
  go_enter Tryz.func64,Tryz.ntmps64
  go_wp2_with fail;refine bodyPost_ret (v:=.agg #[.bool false,.slice A k ca,.slice B l cb]) (by simp [results,Tryz.f64];go_simp) rfl ?_
  have hb:=Hb.out;refine⟨_,rfl,Nm.flip (Hxn.out.mono (ext2 _ _ _)) (Hxd.out.mono (ext2 _ _ _)) ?_,ext2 _ _ _⟩;rw [Rat.neg_num];symm;rw [decide_eq_false_iff_not];omega
theorem abs_q (vx:Value) (x:Rat) (w:World) (hx:Nm w vx x):Calls Tryz.prog 116 #[vx] w fun e w'=>∃v,e=.returned v∧Nm w' v (absQ x)∧Ext w w':=by
 obtain⟨A,k,ca,B,l,cb,rfl,hxn,hxd,hk,-⟩:=hx.form;have Hxn:=ZZ hxn;have Hxd:=ZZ hxd;clear hx hxn hxd hk;generalize hb:decide (x.num<0)=b;have Hb:=ZZ hb;clear hb
 go_enter Tryz.func116,Tryz.ntmps116
 go_wp2_with fail;refine bodyPost_ret (v:=.agg #[.bool false,.slice A k ca,.slice B l cb]) (by simp [results,Tryz.f116];go_simp) rfl ?_
 refine⟨_,rfl,?_,ext2 _ _ _⟩;unfold absQ
 split
 ·rename_i h
  exact Nm.flip (Hxn.out.mono (ext2 _ _ _)) (Hxd.out.mono (ext2 _ _ _)) (by rw [Rat.neg_num];symm;rw [decide_eq_false_iff_not];omega)
 ·rename_i h
  exact Nm.same (Hxn.out.mono (ext2 _ _ _)) (Hxd.out.mono (ext2 _ _ _)) (by symm;rw [decide_eq_false_iff_not];exact h)
theorem sign_q (vx:Value) (x:Rat) (w:World) (hx:Nm w vx x):Calls Tryz.prog 67 #[vx] w fun e w'=>e=.returned (.int .i64 x.num.sign)∧Ext w w':=by
 obtain⟨A,k,ca,B,l,cb,rfl,hxn,hxd,hk,-⟩:=hx.form;have Hk:=ZZ hk;clear hx hxn hxd hk
 rcases Nat.eq_zero_or_pos k with h0|h0
 ·subst h0
  generalize hb:decide (x.num<0)=b;clear hb
  go_enter Tryz.func67,Tryz.ntmps67
  go_wp2_with fail;go_ret
  have e:x=0:=Hk.out.1 (by first|rfl|trivial);exact⟨ret_i (by rw [e];rfl),ab _ _⟩
 ·have t1:((k:Int) == 0)=false:=by simp;omega
  have Hk0:=ZZ (show ¬ k=0 by omega)
  rcases hb:decide (x.num<0) with _|_
  ·have Hb:=ZZ (show ¬ x.num<0 by simpa using hb)
   clear hb
   go_enter Tryz.func67,Tryz.ntmps67
   go_wp2_with fail;go_ret
   have e:x.num≠0:=fun e=>Hk0.out (Hk.out.2 (Rat.num_eq_zero.1 e));have hb:=Hb.out;exact⟨ret_i (Int.sign_eq_one_of_pos (by omega)),ab _ _⟩
  ·have Hb:=ZZ (show x.num<0 by simpa using hb)
   clear hb
   go_enter Tryz.func67,Tryz.ntmps67
   go_wp2_with fail;go_ret
   exact⟨ret_i (Int.sign_eq_neg_one_of_neg Hb.out),ab _ _⟩
end Go.Proofs.YtjamgccgoapbeaaGreatDoor
