/- The program's natural numbers: division. Siegel's lemma: fewer equations than unknowns have a small solution in integers. The reference's natural numbers: binary digits, trailing zeros, short numbers. -/
import Derived.Test.YtoefieefcndlkaaGreatDoorGWg
import Derived.Deep.RegionLawGrows
import Derived.Test.YtoefieefcndlkaaGreatDoorGWa
import Derived.Test.YtoefieefcndlkaaGreatDoorGRc
import Derived.Test.YtoefieefcndlkaaGreatDoorGWf
set_option linter.unusedVariables false
set_option maxRecDepth 100000
set_option maxHeartbeats 64000000
namespace Go.Proofs.YtoefieefcndlkaaGreatDoor
open Go.RowKit
def DivR (m n:Nat) (w w':World) (e:Ending):Prop:=∃q r:Value,e=.returned (.tuple #[q,r])∧Wd w' q (m / n)∧Wd w' r (m % n)∧Ext w w'
theorem div_less (va vb:Value) (m n:Nat) (w:World) (ha:Wd w va m) (hb:Wd w vb n) (sa:Sm m) (sb:Sm n) (hlt:m<n):Calls Tryz.prog 107 #[va,vb] w fun e w'=>DivR m n w w' e:=by
 have Ha:=ZZ ha;have hc:=cmp_c va vb m n w ha hb sa sb;obtain⟨A,ca,rfl,hca,hA⟩:=ha;obtain⟨B,cb,rfl,hcb,hB⟩:=hb;unfold Sm at sa sb;generalize (dg m).length=p at *;generalize (dg n).length=q at *;have Hc:=ZZ hc;clear hA hB hc
 go_enter Tryz.func107,Tryz.ntmps107
 go_wp2_with fail;refine Hc.out.mono ?_
 rintro e w1 ⟨⟨c,rfl,h1,h2⟩,z,rfl⟩;have h3:c<0:=h1.2 hlt;clear h1 h2;go_wp2_with fail
 go_ret2
 refine⟨_,_,rfl,?_,?_,ar _ _⟩
 ·rw [Nat.div_eq_of_lt hlt];exact Wd.zero _
 ·rw [Nat.mod_eq_of_lt hlt];exact Ha.out.mono (ar _ _)
theorem div_one (va vb:Value) (m n:Nat) (w:World) (ha:Wd w va m) (hb:Wd w vb n) (sa:Sm m) (hle:n≤m) (h1:(dg n).length=1) (h0:0<n):Calls Tryz.prog 107 #[va,vb] w fun e w'=>DivR m n w w' e:=by
 have Ha:=ZZ ha;have hc:=cmp_c va vb m n w ha hb sa (by unfold Sm;omega)
 have e1:(dg n).getD 0 0=n:=by
  have e:=num_dg n
  match h:dg n,h1 with
  | [d],_=>rw [h] at e;simpa using e
 have hnB:n<B64:=by rw [←e1];exact getD_lt (dg_lt n) (by rw [B64_eq];omega) 0
 have Sa:=ZZ sa;obtain⟨A,ca,rfl,hca,hA⟩:=ha;obtain⟨B,cb,rfl,hcb,hB⟩:=hb;obtain⟨bb,ob,rfl,hcb'⟩:=hB.u (by omega)
 have hcell:w.cell? ⟨bb,ob,none⟩=some (.int .u64 (n:Int)):=by
  have:=hcb' 0 (by omega)
  rw [e1] at this;simpa using this
 unfold Sm at sa;rw [h1] at hcb hc ⊢;generalize (dg m).length=p at *;have Hc:=ZZ hc;have HnB:=ZZ hnB;clear hA hB hc hcb' e1 h1 hnB
 go_enter Tryz.func107,Tryz.ntmps107
 go_wp2_with fail;refine Hc.out.mono ?_
 rintro e w1 ⟨⟨c,rfl,h1,h2⟩,z,rfl⟩;have h3:¬ c<0:=fun h=>by have:=h1.1 h;omega
 clear h1 h2;go_wp2_with fail;refine(by1_c _ m n _ (Ha.out.mono (ar _ _)) Sa.out h0 HnB.out).mono ?_;rintro e w2 ⟨⟨v,r,rfl,hr,hv⟩,hext⟩;have hext':=ak (ar w z) hext;have Hv:=ZZ hv;have Hr:=ZZ hr;clear hv hr hext;go_wp2_with fail;refine(word_c r (by rw [Hr.out];exact Nat.lt_trans (Nat.mod_lt _ h0) HnB.out) _).mono ?_;rintro e w3 ⟨v3,rfl,hv3,hext3⟩;have hext'':=ak hext' hext3;go_wp2_with fail
 go_ret2
 refine⟨_,_,rfl,Hv.out.mono hext3,?_,hext''⟩;rw [←Hr.out];exact hv3
end Go.Proofs.YtoefieefcndlkaaGreatDoor
set_option linter.unusedVariables false
set_option maxRecDepth 100000
set_option maxHeartbeats 64000000
namespace Go.Proofs.YtoefieefcndlkaaGreatDoor
set_option linter.unusedSimpArgs false
theorem filt_len {α:Type} (f:α→Nat):∀(m:Nat) (S:List α),(∀a ∈ S,f a<m)→∃v,S.length≤m*(S.filter fun a=>f a == v).length
 | 0,S,h=>⟨0,by
  cases S with
  | nil=>simp
  | cons a S=>exact absurd (h a (List.mem_cons_self ..)) (Nat.not_lt_zero _)⟩
 | m+1,S,h=>by
  obtain⟨v,hv⟩:=filt_len f m (S.filter fun a=>decide (f a<m)) (fun a ha=>by simpa using (List.mem_filter.1 ha).2)
  have h1:S.length=(S.filter fun a=>decide (f a<m)).length+(S.filter fun a=>f a == m).length:=by
   clear hv
   induction S with
   | nil=>rfl
   | cons a S ih=>
    have h2:=ih fun b hb=>h b (List.mem_cons_of_mem _ hb);have h3:=h a (List.mem_cons_self ..)
    by_cases h4:f a<m
    ·have h5:(f a == m)=false:=by simp;omega
     simp [List.filter_cons,h4,h5]
     omega
    ·have h5:f a=m:=by omega
     simp [List.filter_cons,h5]
     omega
  have h2:((S.filter fun a=>decide (f a<m)).filter fun a=>f a == v).length≤(S.filter fun a=>f a == v).length:=by
   rw [List.filter_filter]
   have:(fun a=>(f a == v) && decide (f a<m))=fun a=>decide (f a<m) && (f a == v):=by funext a;exact Bool.and_comm _ _
   rw [this,←List.filter_filter];exact List.length_filter_le _ _
  have h3:m*((S.filter fun a=>decide (f a<m)).filter fun a=>f a == v).length≤m*(S.filter fun a=>f a == v).length:=Nat.mul_le_mul_left _ h2
  rcases Nat.le_total (S.filter fun a=>f a == v).length (S.filter fun a=>f a == m).length with h4|h4
  ·refine⟨m,?_⟩
   have h5:m*(S.filter fun a=>f a == v).length≤m*(S.filter fun a=>f a == m).length:=Nat.mul_le_mul_left _ h4;rw [Nat.add_mul];omega
  ·refine⟨v,?_⟩
   rw [Nat.add_mul];omega
theorem two_same {α:Type} (g:Nat→α→Nat) (B:Nat):∀(n:Nat) (S:List α),S.Nodup→(∀k,k<n→∀a ∈ S,g k a<B)→B ^ n<S.length→∃a ∈ S,∃b ∈ S,a≠b∧∀k,k<n→g k a=g k b
 | 0,S,hn,_,hl=>by
  match S,hn,hl with
  | a :: b :: S,hn,_=>
   refine⟨a,by simp,b,by simp,?_,fun k hk=>by omega⟩;rw [List.nodup_cons] at hn;exact fun e=>hn.1 (by rw [e];simp)
  | [a],_,hl=>simp at hl
  | [],_,hl=>simp at hl
 | n+1,S,hn,hb,hl=>by
  obtain⟨v,hv⟩:=filt_len (g n) B S (hb n (by omega))
  have h1:B ^ n<(S.filter fun a=>g n a == v).length:=by
   rw [Nat.pow_succ,Nat.mul_comm] at hl;exact Nat.lt_of_mul_lt_mul_left (a:=B) (Nat.lt_of_lt_of_le hl hv)
  obtain⟨a,ha,b,hb2,hab,he⟩:=two_same g B n _ (hn.filter _) (fun k hk a ha=>hb k (by omega) a (List.mem_filter.1 ha).1) h1;have ha2:=List.mem_filter.1 ha;have hb3:=List.mem_filter.1 hb2;refine⟨a,ha2.1,b,hb3.1,hab,fun k hk=>?_⟩
  rcases Nat.lt_or_ge k n with h|h
  ·exact he k h
  ·obtain rfl:k=n:=by omega
   have e1:g k a=v:=by simpa using ha2.2
   have e2:g k b=v:=by simpa using hb3.2
   rw [e1,e2]
def digN (b c j:Nat):Nat:=c / b ^ j % b
theorem dig_inj (b:Nat) (hb:0<b):∀(n c d:Nat),c<b ^ n→d<b ^ n→(∀j,j<n→digN b c j=digN b d j)→c=d
 | 0,c,d,hc,hd,_=>by rw [Nat.pow_zero] at hc hd;omega
 | n+1,c,d,hc,hd,h=>by
  have h0:=h 0 (by omega);unfold digN at h0;rw [Nat.pow_zero,Nat.div_one,Nat.div_one] at h0
  have h1:=dig_inj b hb n (c / b) (d / b) (by rw [Nat.div_lt_iff_lt_mul hb];rwa [Nat.pow_succ] at hc) (by rw [Nat.div_lt_iff_lt_mul hb];rwa [Nat.pow_succ] at hd) (fun j hj=>by
   have h2:=h (j+1) (by omega);unfold digN at h2 ⊢
   rwa [Nat.pow_succ,Nat.mul_comm,←Nat.div_div_eq_div_mul,←Nat.div_div_eq_div_mul] at h2)
  rw [←Nat.div_add_mod c b,←Nat.div_add_mod d b,h0,h1]
theorem siegel (L:(Nat→Int)→Nat→Int) (n m K W:Nat) (hadd:∀x y k,L (fun j=>x j - y j) k=L x k - L y k) (hb:∀x,(∀j,0≤x j∧x j≤(K:Int))→∀k,k<m→(L x k).natAbs≤W) (hc:(2*W+1) ^ m<(K+1) ^ n):∃z:Nat→Int,(∃j,j<n∧z j≠0)∧(∀j,n≤j→z j=0)∧(∀j,(z j).natAbs≤K)∧∀k,k<m→L z k=0:=by
 let X:Nat→Nat→Int:=fun c j=>if j<n then (digN (K+1) c j:Int) else 0
 have hX:∀c j,0≤X c j∧X c j≤(K:Int):=fun c j=>by
  show 0≤(if j<n then (digN (K+1) c j:Int) else 0)∧(if j<n then (digN (K+1) c j:Int) else 0)≤(K:Int)
  by_cases h:j<n
  ·rw [if_pos h]
   have:digN (K+1) c j<K+1:=Nat.mod_lt _ (by omega)
   omega
  ·rw [if_neg h];omega
 obtain⟨c,hcm,d,hdm,hne,he⟩:=two_same (fun k c=>(L (X c) k+W).toNat) (2*W+1) m (List.range ((K+1) ^ n)) List.nodup_range
  (fun k hk a _=>by
   have:=hb (X a) (hX a) k hk
   show (L (X a) k+W).toNat<2*W+1
   omega) (by rw [List.length_range];exact hc)
 rw [List.mem_range] at hcm hdm;refine⟨fun j=>X c j - X d j,?_,fun j hj=>?_,fun j=>?_,fun k hk=>?_⟩
 ·refine Classical.byContradiction fun hn=>hne (dig_inj (K+1) (by omega) n c d hcm hdm fun j hj=>?_)
  have h1:X c j - X d j=0:=Classical.byContradiction fun h=>hn ⟨j,hj,h⟩;have h2:(if j<n then (digN (K+1) c j:Int) else 0) - (if j<n then (digN (K+1) d j:Int) else 0)=0:=h1;rw [if_pos hj,if_pos hj] at h2;omega
 ·show (if j<n then (digN (K+1) c j:Int) else 0) - (if j<n then (digN (K+1) d j:Int) else 0)=0
  rw [if_neg (by omega),if_neg (by omega)];rfl
 ·have h1:=hX c j
  have h2:=hX d j
  show (X c j - X d j).natAbs≤K
  omega
 ·have h1:=he k hk
  have h2:=hb (X c) (hX c) k hk;have h3:=hb (X d) (hX d) k hk;rw [hadd];have h4:(L (X c) k+W).toNat=(L (X d) k+W).toNat:=h1;omega
theorem siegel_count {n m a v K W A:Nat} (hm:m<n) (hn:n≤2 ^ v) (hA:A≤2 ^ a) (hK:K=2 ^ ((a+v+2)*(n - 1))) (hW:W=n*K*A):(2*W+1) ^ m<(K+1) ^ n:=by
 have h1:2*W+1≤2 ^ (a+v+2)*(K+1):=by
  have h2:n*A≤2 ^ v*2 ^ a:=Nat.mul_le_mul hn hA;have h3:n*A*K≤2 ^ v*2 ^ a*K:=Nat.mul_le_mul_right _ h2;have h4:W=n*A*K:=by rw [hW];ac_rfl
  have h5:2 ^ (a+v+2)=4*(2 ^ v*2 ^ a):=by rw [Nat.pow_add,Nat.pow_add];generalize 2 ^ a=x;generalize 2 ^ v=y;rw [Nat.mul_comm x y];omega
  have h6:0<2 ^ v*2 ^ a:=Nat.mul_pos (Nat.pow_pos (by decide)) (Nat.pow_pos (by decide));rw [h5,h4];generalize 2 ^ v*2 ^ a=x at *;rw [show 4*x*(K+1)=4*(x*K)+4*x by rw [Nat.mul_add,Nat.mul_one,Nat.mul_assoc]];generalize x*K=y at *;generalize n*A*K=u at *;omega
 have h2:(2*W+1) ^ m≤(2 ^ (a+v+2)*(K+1)) ^ (n - 1):=Nat.le_trans (Nat.pow_le_pow_left h1 m) (Nat.pow_le_pow_right (Nat.mul_pos (Nat.pow_pos (by decide)) (by omega)) (by omega));rw [Nat.mul_pow,←Nat.pow_mul,←hK] at h2;have h3:(K+1) ^ n=(K+1)*(K+1) ^ (n - 1):=by rw [←Nat.pow_succ',show (n - 1).succ=n by omega]
 rw [h3];refine Nat.lt_of_le_of_lt h2 (Nat.mul_lt_mul_of_pos_right (by omega) (Nat.pow_pos (by omega)))
end Go.Proofs.YtoefieefcndlkaaGreatDoor
set_option linter.unusedVariables false
set_option maxRecDepth 100000
set_option maxHeartbeats 64000000
namespace Go.Proofs.YtoefieefcndlkaaGreatDoor
open Go.RowKit
theorem B30_pow (k:Nat):B30 ^ k=2 ^ (30*k):=by rw [B30_eq,Nat.pow_mul]
theorem dr_top {n:Nat} (h0:0<n):(dr n).getD ((dr n).length - 1) 0<B30∧0<(dr n).getD ((dr n).length - 1) 0∧0<(dr n).length∧n=num B30 ((dr n).take ((dr n).length - 1))+B30 ^ ((dr n).length - 1)*(dr n).getD ((dr n).length - 1) 0∧num B30 ((dr n).take ((dr n).length - 1))<B30 ^ ((dr n).length - 1):=by
 have h1:=dr_norm n;have h2:dr n≠[]:=dig_ne_nil B30_two h0;have h3:0<(dr n).length:=List.length_pos_iff.2 h2;have e:=num_dr n;generalize dr n=l at *;have h4:=num_take_succ B30 l (l.length - 1) (by omega);rw [show l.length - 1+1=l.length by omega,List.take_length,e] at h4;refine⟨getD_lt h1.lt (by rw [B30_eq];omega) _,?_,h3,h4,?_⟩
 ·rcases Nat.eq_zero_or_pos (l.getD (l.length - 1) 0) with h5|h5
  ·exfalso
   apply h1.last
   rw [List.getLast?_eq_getElem?];rw [List.getD_eq_getElem?_getD] at h5;rw [List.getElem?_eq_getElem (by omega)] at h5 ⊢
   simpa using h5
  ·exact h5
 ·have:=num_lt B30 (l.take (l.length - 1)) (fun d hd=>h1.lt d (List.mem_of_mem_take hd))
  rwa [List.length_take,Nat.min_eq_left (by omega)] at this
theorem bl_top {n lo d q j:Nat} (hn:n=lo+B30 ^ q*d) (hlo:lo<B30 ^ q) (h1:d<2 ^ j) (h2:j=0∨2 ^ (j - 1)≤d) (hd:0<d):bl n=30*q+j:=by
 have hj:0<j:=by
  rcases Nat.eq_zero_or_pos j with h|h
  ·subst h;simp at h1;omega
  ·exact h
 have h2':2 ^ (j - 1)≤d:=by
  rcases h2 with h|h
  ·omega
  ·exact h
 apply bl_unique
 ·rw [Nat.pow_add,←B30_pow,hn]
  have:B30 ^ q*(d+1)≤B30 ^ q*2 ^ j:=Nat.mul_le_mul_left _ h1
  rw [Nat.mul_add,Nat.mul_one] at this;omega
 ·right
  rw [show 30*q+j - 1=30*q+(j - 1) by omega,Nat.pow_add,←B30_pow,hn]
  have:B30 ^ q*2 ^ (j - 1)≤B30 ^ q*d:=Nat.mul_le_mul_left _ h2'
  omega
theorem half_pow (d j:Nat):d / 2 ^ j / 2=d / 2 ^ (j+1):=by rw [Nat.div_div_eq_div_mul,Nat.pow_succ]
theorem length_r (va:Value) (n:Nat) (w:World) (ha:Wr w va n) (sa:Sr n):Calls Tryz.prog 167 #[va] w fun e w'=>e=.returned (.int .i64 (bl n:Nat))∧w=w':=by
 obtain⟨A,ca,rfl,hca,hA⟩:=ha;unfold Sr at sa
 rcases Nat.eq_zero_or_pos n with h0|h0
 ·subst h0
  rw [dr_zero]
  go_enter Tryz.func167,Tryz.ntmps167
  go_wp2_with fail;go_ret
  exact⟨rfl,rfl⟩
 ·obtain⟨t1,t2,t3,t4,t5⟩:=dr_top h0
  obtain⟨ba,oa,rfl,hc⟩:=hA.i t3;have ea:=hc ((dr n).length - 1) (by omega);clear hc hA;obtain⟨q,hq⟩:∃q,(dr n).length=q+1:=⟨(dr n).length - 1,by omega⟩;have hq1:(dr n).length - 1=q:=by omega
  rw [hq1] at t1 t2 t4 t5 ea;rw [hq] at sa hca ⊢;generalize (dr n).getD q 0=d at *;generalize num B30 ((dr n).take q)=lo at *;have HN:=ZZ t4;have HLO:=ZZ t5;have HD0:=ZZ t2;have HD:=ZZ t1;have hdb:d<1073741824:=by rw [←B30_eq];exact t1
  clear t1 t2 t3 t4 t5 hq hq1;have hne:(((q+1:Nat):Int) == 0)=false:=by simp;omega
  have hw0:IntKind.i64.wrap (((q+1:Nat):Int) - 1)=(q:Int):=(IntWalk.i64_in _ (by omega)).trans (by omega);have hw1:IntKind.i64.wrap (30*(q:Int))=((30*q:Nat):Int):=(IntWalk.i64_in _ (by omega)).trans (by omega)
  go_enter Tryz.func167,Tryz.ntmps167
  go_wp2_with fail
  go_loop [3,4] (fun a b=>∃j N t:Nat,j≤30∧N=30*q+j∧t=d / 2 ^ j∧a=.int .i64 (N:Int)∧b=.int .i64 (t:Int)∧(j=0∨2 ^ (j - 1)≤d)) (fun _ b=>(intOf b).toNat)
  case atStart=>exact⟨0,30*q,d,by omega,rfl,by simp,by first|rfl|simp,rfl,.inl rfl⟩
  case round=>
   obtain⟨j,N,t,hj,hN,ht,rfl,rfl,hjd⟩:=hrel;have hNb:N≤9223372036854775806:=by omega
   have HNN:=ZZ hN;clear hN hw0 hw1;have HT:=ZZ ht;have HJ:=ZZ hjd;have htb:t≤d:=by rw [ht];exact Nat.div_le_self _ _
   clear ht hjd
   by_cases h:t=0
   ·subst h
    go_wp2_with fail;go_ret
    refine⟨?_,rfl⟩
    rw [bl_top HN.out HLO.out (by
     have:=HT.out
     rcases Nat.lt_or_ge d (2 ^ j) with h|h
     ·exact h
     ·have:=Nat.div_pos h (Nat.pow_pos (show 0<2 by omega));omega) HJ.out HD0.out,←HNN.out]
    rfl
   ·have hp:decide ((0:Int)<(t:Int))=true:=by simp;omega
    obtain⟨t2,ht2⟩:∃t2,t2=t / 2:=⟨_,rfl⟩;have hq2:(t:Int) / 2=(t2:Int):=by omega
    have ht2b:t2≤1073741824:=by omega
    have HT2:=ZZ ht2;have hlt2:t2<t:=by omega
    have H2:=ZZ (show 2 ^ j≤d by
     rcases Nat.lt_or_ge d (2 ^ j) with h'|h'
     ·exact absurd (HT.out.trans (Nat.div_eq_of_lt h')) h
     ·exact h')
    have hj30:j<30:=by
     rcases Nat.lt_or_ge j 30 with h'|h'
     ·exact h'
     ·have:2 ^ 30≤2 ^ j:=Nat.pow_le_pow_right (by omega) h'
      have:=H2.out
      omega
    have hw2:IntKind.i64.wrap ((N:Int)+1)=((N+1:Nat):Int):=(IntWalk.i64_in _ (by omega)).trans (by omega);have hw3:IntKind.i64.wrap (t2:Int)=(t2:Int):=IntWalk.i64_in _ (by omega);clear ht2;go_wp2_with fail
    go_round
    case rel=>exact⟨j+1,N+1,t2,by omega,by have:=HNN.out;omega,by rw [←half_pow,←HT.out];exact HT2.out,by first|rfl|(congr 1;omega),rfl,.inr H2.out⟩
    case measure=>simp [intOf];omega
theorem short_r (va:Value) (n:Nat) (w:World) (ha:Wr w va n) (hl:(dr n).length≤2):Calls Tryz.prog 133 #[va] w fun e w'=>e=.returned (.int .i64 n)∧w=w':=by
 obtain⟨A,ca,rfl,hca,hA⟩:=ha;have en:=num_dr n;have nl:=dr_lt n;generalize dr n=l at *;have En:=ZZ en;have Nl:=ZZ nl;clear en nl;have hw0:IntKind.i64.wrap ((l.length:Int) - 1)=(l.length:Int) - 1:=IntWalk.i64_in _ (by omega)
 go_enter Tryz.func133,Tryz.ntmps133
 go_wp2_with fail
 go_loop [3,4] (fun s i=>∃k:Nat,k≤l.length∧i=.int .i64 ((k:Int) - 1)∧s=.int .i64 ((num B30 (l.drop k):Nat):Int)) (fun _ i=>(intOf i+1).toNat)
 case atStart=>exact⟨l.length,Nat.le_refl _,rfl,by rw [List.drop_of_length_le (Nat.le_refl _)];rfl⟩
 case round=>
  clear hw0;obtain⟨k,hk,rfl,rfl⟩:=hrel
  rcases k with _|k
  ·go_wp2_with fail
   go_ret;refine⟨?_,rfl⟩
   have:=En.out
   show Ending.returned (Value.int .i64 ((num B30 l:Nat):Int))=_
   rw [this]
  ·obtain⟨b,o,rfl,hc⟩:=hA.i (by omega)
   have ea:=hc k (by omega);have hx:=getD_lt Nl.out (by rw [B30_eq];omega) k
   have hdk:num B30 (l.drop k)=l.getD k 0+B30*num B30 (l.drop (k+1)):=by
    rw [List.drop_eq_getElem_cons (by omega),num_cons]
    simp [List.getD_eq_getElem?_getD,show k<l.length by omega]
   have HK:=ZZ hdk
   have hyb:num B30 (l.drop (k+1))<1073741824:=by
    have h1:=num_lt B30 (l.drop (k+1)) (fun d hd=>Nl.out d (List.mem_of_mem_drop hd));have h2:(l.drop (k+1)).length≤1:=by simp;omega
    rcases(show (l.drop (k+1)).length=0∨(l.drop (k+1)).length=1 by omega) with h3|h3
    ·rw [h3] at h1;simp at h1;omega
    ·rw [h3,Nat.pow_one] at h1;rw [←B30_eq];exact h1
   rw [B30_eq] at hx;clear hc hA hdk;generalize l.getD k 0=x at *;generalize num B30 (l.drop (k+1))=y at *;obtain⟨s,hs⟩:∃s:Nat,s=y*1073741824+x:=⟨_,rfl⟩;have hw1:IntKind.i64.wrap ((y:Int)*1073741824)=((y*1073741824:Nat):Int):=(IntWalk.i64_in _ (by omega)).trans (by omega);have hw2:IntKind.i64.wrap ((y:Int)*1073741824+(x:Int))=(s:Int):=(IntWalk.i64_in _ (by omega)).trans (by omega);have hw3:IntKind.i64.wrap (((k+1:Nat):Int) - 1 - 1)=(k:Int) - 1:=(IntWalk.i64_in _ (by omega)).trans (by omega);have Hs:=ZZ (show s=num B30 (l.drop k) by rw [HK.out,B30_eq];omega);clear hs;go_wp2_with fail
   go_round
   case rel=>exact⟨k,by omega,by first|rfl|simp,by rw [←Hs.out]⟩
   case measure=>simp [intOf]
theorem zeros_end {n i j t x R:Nat} (hn:n=B30 ^ i*(x+B30*R)) (hx:x=2 ^ j*t) (hxb:x<B30) (h0:0<t) (ht:t % 2=1):∃u,n=2 ^ (30*i+j)*u∧u % 2=1:=by
 have hj:j<30:=by
  rcases Nat.lt_or_ge j 30 with h|h
  ·exact h
  ·have h1:2 ^ 30≤2 ^ j:=Nat.pow_le_pow_right (by omega) h
   have h2:2 ^ j*1≤2 ^ j*t:=Nat.mul_le_mul_left _ h0;rw [B30_eq] at hxb;omega
 refine⟨t+2 ^ (30 - j)*R,?_,?_⟩
 ·rw [hn,Nat.pow_add,←B30_pow,Nat.mul_assoc,hx]
  congr 1
  rw [Nat.mul_add,←Nat.mul_assoc,←Nat.pow_add,show j+(30 - j)=30 by omega]
  rfl
 ·rw [show 30 - j=(29 - j)+1 by omega,Nat.pow_succ,Nat.mul_assoc,Nat.mul_comm,Nat.mul_assoc]
  omega
theorem num_drop_cons {B:Nat} {l:List Nat} {k:Nat} (hk:k<l.length):num B (l.drop k)=l.getD k 0+B*num B (l.drop (k+1)):=by
 rw [List.drop_eq_getElem_cons hk,num_cons]
 simp [List.getD_eq_getElem?_getD,hk]
theorem zeros_r (va:Value) (n:Nat) (h0:0<n) (w:World) (ha:Wr w va n) (sa:Sr n):Calls Tryz.prog 128 #[va] w fun e w'=>(∃z u:Nat,e=.returned (.int .i64 z)∧n=2 ^ z*u∧u % 2=1)∧w=w':=by
 obtain⟨A,ca,rfl,hca,hA⟩:=ha;unfold Sr at sa;have en:=num_dr n;have nl:=dr_lt n;generalize dr n=l at *
 have hl0:0<l.length:=by
  rcases Nat.eq_zero_or_pos l.length with h|h
  ·rw [List.length_eq_zero_iff.1 h] at en;simp at en;omega
  ·exact h
 obtain⟨b,o,rfl,hc⟩:=hA.i hl0;have En:=ZZ en;have Nl:=ZZ nl;have HC:=ZZ hc;have H0:=ZZ h0;clear en nl hA hc h0
 go_enter Tryz.func128,Tryz.ntmps128
 go_wp2_with fail
 go_loop [3] (fun v=>∃i N:Nat,i<l.length∧N=30*i∧v=.int .i64 (N:Int)∧num B30 (l.take i)=0) (fun v=>30*l.length - (intOf v).toNat)
 case atStart=>exact⟨0,0,hl0,rfl,rfl,by simp⟩
 case round=>
  obtain⟨i,N,hi,hN,rfl,hz⟩:=hrel;have ea:=HC.out i hi;have hxb:=getD_lt Nl.out (by rw [B30_eq];omega) i;have HX:=ZZ hxb;have HT:=ZZ (num_take_succ B30 l i hi);have HZ:=ZZ hz;have HND:=ZZ (num_drop B30 l i (by omega));have HNC:=ZZ (num_drop_cons (B:=B30) hi);have hq:(N:Int) / 30=(i:Int):=by omega
  have hwq:IntKind.i64.wrap (i:Int)=(i:Int):=IntWalk.i64_in _ (by omega);have hw2:IntKind.i64.wrap ((N:Int)+30)=((N+30:Nat):Int):=(IntWalk.i64_in _ (by omega)).trans (by omega);have hNb:N≤9223372036854775:=by omega
  have HN:=ZZ hN;rw [B30_eq] at hxb;clear hz hl0;generalize l.getD i 0=x at *
  by_cases hx:x=0
  ·have ht:((x:Int) == 0)=true:=by simp;omega
   have hi1:i+1<l.length:=by
    rcases Nat.lt_or_ge (i+1) l.length with h|h
    ·exact h
    ·exfalso
     have h1:=HT.out;rw [num_take_all B30 l h,En.out,HZ.out,hx] at h1
     have:=H0.out
     omega
   have HT':=ZZ (show num B30 (l.take (i+1))=0 by rw [HT.out,HZ.out,hx];rfl);clear hx hN;go_wp2_with fail
   go_round
   case rel=>exact⟨i+1,N+30,hi1,by have:=HN.out;omega,by first|rfl|(congr 1;omega),HT'.out⟩
   case measure=>have:=HN.out;simp [intOf];omega
  ·have ht:((x:Int) == 0)=false:=by simp;omega
   have HX0:=ZZ hx;clear hx hN;go_wp2_with fail
   go_loop [3,4] (fun a c=>∃j t N2:Nat,N2=N+j∧a=.int .i64 (N2:Int)∧c=.int .i64 (t:Int)∧x=2 ^ j*t∧0<t∧j≤30) (fun _ c=>(intOf c).toNat)
   case atStart=>exact⟨0,x,N,rfl,rfl,rfl,by simp,by have:=HX0.out;omega,by omega⟩
   case round=>
    obtain⟨j,t,N2,hN2,rfl,rfl,hxt,ht0,hj⟩:=hrel;have HXT:=ZZ hxt;have HN2:=ZZ hN2
    have htb:t≤1073741824:=by
     have:1*t≤2 ^ j*t:=Nat.mul_le_mul_right _ (Nat.pow_pos (by omega))
     omega
    have hN2b:N2≤9223372036854776:=by omega
    clear hxt hN2
    rcases Nat.mod_two_eq_zero_or_one t with he|he
    ·obtain⟨t2,ht2⟩:∃t2,t=2*t2:=⟨t / 2,by omega⟩
     subst ht2;have hrem:(((2*t2:Nat):Int) % 2 == 0)=true:=by simp
     have hquo:((2*t2:Nat):Int) / 2=(t2:Int):=by omega
     have hw3:IntKind.i64.wrap (t2:Int)=(t2:Int):=IntWalk.i64_in _ (by omega);have hw4:IntKind.i64.wrap ((N2:Int)+1)=((N2+1:Nat):Int):=(IntWalk.i64_in _ (by omega)).trans (by omega);have HXT':=ZZ (show x=2 ^ (j+1)*t2 by rw [HXT.out,Nat.pow_succ,Nat.mul_assoc])
     have hj1:j+1≤30:=by
      rcases Nat.lt_or_ge j 30 with h'|h'
      ·exact h'
      ·have h1:2 ^ 30≤2 ^ j:=Nat.pow_le_pow_right (by omega) h'
       have h2:2 ^ j*1≤2 ^ j*(2*t2):=Nat.mul_le_mul_left _ ht0
       have:=HXT.out
       omega
     clear he;go_wp2_with fail
     go_round
     case rel=>exact⟨j+1,t2,N2+1,by have:=HN2.out;omega,by first|rfl|(congr 1;omega),by first|rfl|(congr 1;omega),HXT'.out,by omega,hj1⟩
     case measure=>simp [intOf];omega
    ·have hrem:((t:Int) % 2 == 0)=false:=by rw [beq_eq_false_iff_ne];omega
     have HE:=ZZ he;clear he;go_wp2_with fail;go_ret;have h1:=HND.out;rw [HZ.out,Nat.zero_add,HNC.out,En.out] at h1;obtain⟨u,hu1,hu2⟩:=zeros_end h1 HXT.out HX.out ht0 HE.out;have hu3:n=2 ^ N2*u:=by rw [HN2.out,HN.out];exact hu1
     first
      | exact⟨⟨N2,u,rfl,hu3,hu2⟩,rfl⟩
      | exact⟨⟨N2,rfl,u,hu3,hu2⟩,rfl⟩
end Go.Proofs.YtoefieefcndlkaaGreatDoor
