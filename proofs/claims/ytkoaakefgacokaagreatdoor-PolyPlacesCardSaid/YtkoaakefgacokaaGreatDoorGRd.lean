/- The reference's natural numbers: binary digits, trailing zeros, short numbers. -/
import Derived.Test.YtkoaakefgacokaaGreatDoorGWj
import Derived.Test.YtkoaakefgacokaaGreatDoorGWf
set_option linter.unusedVariables false
set_option maxRecDepth 100000
set_option maxHeartbeats 64000000
namespace Go.Proofs.YtkoaakefgacokaaGreatDoor
open Go.RowKit
theorem B30_pow (k:Nat):B30 ^ k=2 ^ (30*k):=by rw [B30_eq,Nat.pow_mul]
theorem dr_top {n:Nat} (h0:0<n):(dr n).getD ((dr n).length - 1) 0<B30∧0<(dr n).getD ((dr n).length - 1) 0∧0<(dr n).length∧n=num B30 ((dr n).take ((dr n).length - 1))+B30 ^ ((dr n).length - 1)*(dr n).getD ((dr n).length - 1) 0∧num B30 ((dr n).take ((dr n).length - 1))<B30 ^ ((dr n).length - 1):=by
 have h1:=dr_norm n;have h2:dr n≠[]:=dig_ne_nil B30_two h0;have h3:0<(dr n).length:=List.length_pos_iff.2 h2;have e:=num_dr n;generalize dr n=l at *;have h4:=num_take_succ B30 l (l.length - 1) (by omega);rw [show l.length - 1+1=l.length by omega,List.take_length,e] at h4;refine⟨getD_lt h1.lt (by rw [B30_eq];omega) _,?_,h3,h4,?_⟩
 ·rcases Nat.eq_zero_or_pos (l.getD (l.length - 1) 0) with h5|h5
  ·exfalso
   apply h1.last
   rw [List.getLast?_eq_getElem?];rw [List.getD_eq_getElem?_getD] at h5;rw [List.getElem?_eq_getElem (by omega)] at h5 ⊢
   simpa using h5
  ·exact h5
 ·have:=num_lt B30 (l.take (l.length - 1)) (fun d hd=>h1.lt d (List.mem_of_mem_take hd))
  rwa [List.length_take,Nat.min_eq_left (by omega)] at this
theorem bl_top {n lo d q j:Nat} (hn:n=lo+B30 ^ q*d) (hlo:lo<B30 ^ q) (h1:d<2 ^ j) (h2:j=0∨2 ^ (j - 1)≤d) (hd:0<d):bl n=30*q+j:=by
 have hj:0<j:=by
  rcases Nat.eq_zero_or_pos j with h|h
  ·subst h;simp at h1;omega
  ·exact h
 have h2':2 ^ (j - 1)≤d:=by
  rcases h2 with h|h
  ·omega
  ·exact h
 apply bl_unique
 ·rw [Nat.pow_add,←B30_pow,hn]
  have:B30 ^ q*(d+1)≤B30 ^ q*2 ^ j:=Nat.mul_le_mul_left _ h1
  rw [Nat.mul_add,Nat.mul_one] at this;omega
 ·right
  rw [show 30*q+j - 1=30*q+(j - 1) by omega,Nat.pow_add,←B30_pow,hn]
  have:B30 ^ q*2 ^ (j - 1)≤B30 ^ q*d:=Nat.mul_le_mul_left _ h2'
  omega
theorem half_pow (d j:Nat):d / 2 ^ j / 2=d / 2 ^ (j+1):=by rw [Nat.div_div_eq_div_mul,Nat.pow_succ]
theorem length_r (va:Value) (n:Nat) (w:World) (ha:Wr w va n) (sa:Sr n):Calls Tryz.prog 134 #[va] w fun e w'=>e=.returned (.int .i64 (bl n:Nat))∧w=w':=by
 obtain⟨A,ca,rfl,hca,hA⟩:=ha;unfold Sr at sa
 rcases Nat.eq_zero_or_pos n with h0|h0
 ·subst h0
  rw [dr_zero]
  go_enter Tryz.func134,Tryz.ntmps134
  go_wp2_with fail;go_ret
  exact⟨rfl,rfl⟩
 ·obtain⟨t1,t2,t3,t4,t5⟩:=dr_top h0
  obtain⟨ba,oa,rfl,hc⟩:=hA.i t3;have ea:=hc ((dr n).length - 1) (by omega);clear hc hA;obtain⟨q,hq⟩:∃q,(dr n).length=q+1:=⟨(dr n).length - 1,by omega⟩;have hq1:(dr n).length - 1=q:=by omega
  rw [hq1] at t1 t2 t4 t5 ea;rw [hq] at sa hca ⊢;generalize (dr n).getD q 0=d at *;generalize num B30 ((dr n).take q)=lo at *;have HN:=ZZ t4;have HLO:=ZZ t5;have HD0:=ZZ t2;have HD:=ZZ t1;have hdb:d<1073741824:=by rw [←B30_eq];exact t1
  clear t1 t2 t3 t4 t5 hq hq1;have hne:(((q+1:Nat):Int) == 0)=false:=by simp;omega
  have hw0:IntKind.i64.wrap (((q+1:Nat):Int) - 1)=(q:Int):=(IntWalk.i64_in _ (by omega)).trans (by omega);have hw1:IntKind.i64.wrap (30*(q:Int))=((30*q:Nat):Int):=(IntWalk.i64_in _ (by omega)).trans (by omega)
  go_enter Tryz.func134,Tryz.ntmps134
  go_wp2_with fail
  go_loop [3,4] (fun a b=>∃j N t:Nat,j≤30∧N=30*q+j∧t=d / 2 ^ j∧a=.int .i64 (N:Int)∧b=.int .i64 (t:Int)∧(j=0∨2 ^ (j - 1)≤d)) (fun _ b=>(intOf b).toNat)
  case atStart=>exact⟨0,30*q,d,by omega,rfl,by simp,by first|rfl|simp,rfl,.inl rfl⟩
  case round=>
   obtain⟨j,N,t,hj,hN,ht,rfl,rfl,hjd⟩:=hrel;have hNb:N≤9223372036854775806:=by omega
   have HNN:=ZZ hN;clear hN hw0 hw1;have HT:=ZZ ht;have HJ:=ZZ hjd;have htb:t≤d:=by rw [ht];exact Nat.div_le_self _ _
   clear ht hjd
   by_cases h:t=0
   ·subst h
    go_wp2_with fail;go_ret
    refine⟨?_,rfl⟩
    rw [bl_top HN.out HLO.out (by
     have:=HT.out
     rcases Nat.lt_or_ge d (2 ^ j) with h|h
     ·exact h
     ·have:=Nat.div_pos h (Nat.pow_pos (show 0<2 by omega));omega) HJ.out HD0.out,←HNN.out]
    rfl
   ·have hp:decide ((0:Int)<(t:Int))=true:=by simp;omega
    obtain⟨t2,ht2⟩:∃t2,t2=t / 2:=⟨_,rfl⟩;have hq2:(t:Int) / 2=(t2:Int):=by omega
    have ht2b:t2≤1073741824:=by omega
    have HT2:=ZZ ht2;have hlt2:t2<t:=by omega
    have H2:=ZZ (show 2 ^ j≤d by
     rcases Nat.lt_or_ge d (2 ^ j) with h'|h'
     ·exact absurd (HT.out.trans (Nat.div_eq_of_lt h')) h
     ·exact h')
    have hj30:j<30:=by
     rcases Nat.lt_or_ge j 30 with h'|h'
     ·exact h'
     ·have:2 ^ 30≤2 ^ j:=Nat.pow_le_pow_right (by omega) h'
      have:=H2.out
      omega
    have hw2:IntKind.i64.wrap ((N:Int)+1)=((N+1:Nat):Int):=(IntWalk.i64_in _ (by omega)).trans (by omega);have hw3:IntKind.i64.wrap (t2:Int)=(t2:Int):=IntWalk.i64_in _ (by omega);clear ht2;go_wp2_with fail
    go_round
    case rel=>exact⟨j+1,N+1,t2,by omega,by have:=HNN.out;omega,by rw [←half_pow,←HT.out];exact HT2.out,by first|rfl|(congr 1;omega),rfl,.inr H2.out⟩
    case measure=>simp [intOf];omega
theorem short_r (va:Value) (n:Nat) (w:World) (ha:Wr w va n) (hl:(dr n).length≤2):Calls Tryz.prog 105 #[va] w fun e w'=>e=.returned (.int .i64 n)∧w=w':=by
 obtain⟨A,ca,rfl,hca,hA⟩:=ha;have en:=num_dr n;have nl:=dr_lt n;generalize dr n=l at *;have En:=ZZ en;have Nl:=ZZ nl;clear en nl;have hw0:IntKind.i64.wrap ((l.length:Int) - 1)=(l.length:Int) - 1:=IntWalk.i64_in _ (by omega)
 go_enter Tryz.func105,Tryz.ntmps105
 go_wp2_with fail
 go_loop [3,4] (fun s i=>∃k:Nat,k≤l.length∧i=.int .i64 ((k:Int) - 1)∧s=.int .i64 ((num B30 (l.drop k):Nat):Int)) (fun _ i=>(intOf i+1).toNat)
 case atStart=>exact⟨l.length,Nat.le_refl _,rfl,by rw [List.drop_of_length_le (Nat.le_refl _)];rfl⟩
 case round=>
  clear hw0;obtain⟨k,hk,rfl,rfl⟩:=hrel
  rcases k with _|k
  ·go_wp2_with fail
   go_ret;refine⟨?_,rfl⟩
   have:=En.out
   show Ending.returned (Value.int .i64 ((num B30 l:Nat):Int))=_
   rw [this]
  ·obtain⟨b,o,rfl,hc⟩:=hA.i (by omega)
   have ea:=hc k (by omega);have hx:=getD_lt Nl.out (by rw [B30_eq];omega) k
   have hdk:num B30 (l.drop k)=l.getD k 0+B30*num B30 (l.drop (k+1)):=by
    rw [List.drop_eq_getElem_cons (by omega),num_cons]
    simp [List.getD_eq_getElem?_getD,show k<l.length by omega]
   have HK:=ZZ hdk
   have hyb:num B30 (l.drop (k+1))<1073741824:=by
    have h1:=num_lt B30 (l.drop (k+1)) (fun d hd=>Nl.out d (List.mem_of_mem_drop hd));have h2:(l.drop (k+1)).length≤1:=by simp;omega
    rcases(show (l.drop (k+1)).length=0∨(l.drop (k+1)).length=1 by omega) with h3|h3
    ·rw [h3] at h1;simp at h1;omega
    ·rw [h3,Nat.pow_one] at h1;rw [←B30_eq];exact h1
   rw [B30_eq] at hx;clear hc hA hdk;generalize l.getD k 0=x at *;generalize num B30 (l.drop (k+1))=y at *;obtain⟨s,hs⟩:∃s:Nat,s=y*1073741824+x:=⟨_,rfl⟩;have hw1:IntKind.i64.wrap ((y:Int)*1073741824)=((y*1073741824:Nat):Int):=(IntWalk.i64_in _ (by omega)).trans (by omega);have hw2:IntKind.i64.wrap ((y:Int)*1073741824+(x:Int))=(s:Int):=(IntWalk.i64_in _ (by omega)).trans (by omega);have hw3:IntKind.i64.wrap (((k+1:Nat):Int) - 1 - 1)=(k:Int) - 1:=(IntWalk.i64_in _ (by omega)).trans (by omega);have Hs:=ZZ (show s=num B30 (l.drop k) by rw [HK.out,B30_eq];omega);clear hs;go_wp2_with fail
   go_round
   case rel=>exact⟨k,by omega,by first|rfl|simp,by rw [←Hs.out]⟩
   case measure=>simp [intOf]
theorem zeros_end {n i j t x R:Nat} (hn:n=B30 ^ i*(x+B30*R)) (hx:x=2 ^ j*t) (hxb:x<B30) (h0:0<t) (ht:t % 2=1):∃u,n=2 ^ (30*i+j)*u∧u % 2=1:=by
 have hj:j<30:=by
  rcases Nat.lt_or_ge j 30 with h|h
  ·exact h
  ·have h1:2 ^ 30≤2 ^ j:=Nat.pow_le_pow_right (by omega) h
   have h2:2 ^ j*1≤2 ^ j*t:=Nat.mul_le_mul_left _ h0;rw [B30_eq] at hxb;omega
 refine⟨t+2 ^ (30 - j)*R,?_,?_⟩
 ·rw [hn,Nat.pow_add,←B30_pow,Nat.mul_assoc,hx]
  congr 1
  rw [Nat.mul_add,←Nat.mul_assoc,←Nat.pow_add,show j+(30 - j)=30 by omega]
  rfl
 ·rw [show 30 - j=(29 - j)+1 by omega,Nat.pow_succ,Nat.mul_assoc,Nat.mul_comm,Nat.mul_assoc]
  omega
theorem num_drop_cons {B:Nat} {l:List Nat} {k:Nat} (hk:k<l.length):num B (l.drop k)=l.getD k 0+B*num B (l.drop (k+1)):=by
 rw [List.drop_eq_getElem_cons hk,num_cons]
 simp [List.getD_eq_getElem?_getD,hk]
theorem zeros_r (va:Value) (n:Nat) (h0:0<n) (w:World) (ha:Wr w va n) (sa:Sr n):Calls Tryz.prog 100 #[va] w fun e w'=>(∃z u:Nat,e=.returned (.int .i64 z)∧n=2 ^ z*u∧u % 2=1)∧w=w':=by
 obtain⟨A,ca,rfl,hca,hA⟩:=ha;unfold Sr at sa;have en:=num_dr n;have nl:=dr_lt n;generalize dr n=l at *
 have hl0:0<l.length:=by
  rcases Nat.eq_zero_or_pos l.length with h|h
  ·rw [List.length_eq_zero_iff.1 h] at en;simp at en;omega
  ·exact h
 obtain⟨b,o,rfl,hc⟩:=hA.i hl0;have En:=ZZ en;have Nl:=ZZ nl;have HC:=ZZ hc;have H0:=ZZ h0;clear en nl hA hc h0
 go_enter Tryz.func100,Tryz.ntmps100
 go_wp2_with fail
 go_loop [3] (fun v=>∃i N:Nat,i<l.length∧N=30*i∧v=.int .i64 (N:Int)∧num B30 (l.take i)=0) (fun v=>30*l.length - (intOf v).toNat)
 case atStart=>exact⟨0,0,hl0,rfl,rfl,by simp⟩
 case round=>
  obtain⟨i,N,hi,hN,rfl,hz⟩:=hrel;have ea:=HC.out i hi;have hxb:=getD_lt Nl.out (by rw [B30_eq];omega) i;have HX:=ZZ hxb;have HT:=ZZ (num_take_succ B30 l i hi);have HZ:=ZZ hz;have HND:=ZZ (num_drop B30 l i (by omega));have HNC:=ZZ (num_drop_cons (B:=B30) hi);have hq:(N:Int) / 30=(i:Int):=by omega
  have hwq:IntKind.i64.wrap (i:Int)=(i:Int):=IntWalk.i64_in _ (by omega);have hw2:IntKind.i64.wrap ((N:Int)+30)=((N+30:Nat):Int):=(IntWalk.i64_in _ (by omega)).trans (by omega);have hNb:N≤9223372036854775:=by omega
  have HN:=ZZ hN;rw [B30_eq] at hxb;clear hz hl0;generalize l.getD i 0=x at *
  by_cases hx:x=0
  ·have ht:((x:Int) == 0)=true:=by simp;omega
   have hi1:i+1<l.length:=by
    rcases Nat.lt_or_ge (i+1) l.length with h|h
    ·exact h
    ·exfalso
     have h1:=HT.out;rw [num_take_all B30 l h,En.out,HZ.out,hx] at h1
     have:=H0.out
     omega
   have HT':=ZZ (show num B30 (l.take (i+1))=0 by rw [HT.out,HZ.out,hx];rfl);clear hx hN;go_wp2_with fail
   go_round
   case rel=>exact⟨i+1,N+30,hi1,by have:=HN.out;omega,by first|rfl|(congr 1;omega),HT'.out⟩
   case measure=>have:=HN.out;simp [intOf];omega
  ·have ht:((x:Int) == 0)=false:=by simp;omega
   have HX0:=ZZ hx;clear hx hN;go_wp2_with fail
   go_loop [3,4] (fun a c=>∃j t N2:Nat,N2=N+j∧a=.int .i64 (N2:Int)∧c=.int .i64 (t:Int)∧x=2 ^ j*t∧0<t∧j≤30) (fun _ c=>(intOf c).toNat)
   case atStart=>exact⟨0,x,N,rfl,rfl,rfl,by simp,by have:=HX0.out;omega,by omega⟩
   case round=>
    obtain⟨j,t,N2,hN2,rfl,rfl,hxt,ht0,hj⟩:=hrel;have HXT:=ZZ hxt;have HN2:=ZZ hN2
    have htb:t≤1073741824:=by
     have:1*t≤2 ^ j*t:=Nat.mul_le_mul_right _ (Nat.pow_pos (by omega))
     omega
    have hN2b:N2≤9223372036854776:=by omega
    clear hxt hN2
    rcases Nat.mod_two_eq_zero_or_one t with he|he
    ·obtain⟨t2,ht2⟩:∃t2,t=2*t2:=⟨t / 2,by omega⟩
     subst ht2;have hrem:(((2*t2:Nat):Int) % 2 == 0)=true:=by simp
     have hquo:((2*t2:Nat):Int) / 2=(t2:Int):=by omega
     have hw3:IntKind.i64.wrap (t2:Int)=(t2:Int):=IntWalk.i64_in _ (by omega);have hw4:IntKind.i64.wrap ((N2:Int)+1)=((N2+1:Nat):Int):=(IntWalk.i64_in _ (by omega)).trans (by omega);have HXT':=ZZ (show x=2 ^ (j+1)*t2 by rw [HXT.out,Nat.pow_succ,Nat.mul_assoc])
     have hj1:j+1≤30:=by
      rcases Nat.lt_or_ge j 30 with h'|h'
      ·exact h'
      ·have h1:2 ^ 30≤2 ^ j:=Nat.pow_le_pow_right (by omega) h'
       have h2:2 ^ j*1≤2 ^ j*(2*t2):=Nat.mul_le_mul_left _ ht0
       have:=HXT.out
       omega
     clear he;go_wp2_with fail
     go_round
     case rel=>exact⟨j+1,t2,N2+1,by have:=HN2.out;omega,by first|rfl|(congr 1;omega),by first|rfl|(congr 1;omega),HXT'.out,by omega,hj1⟩
     case measure=>simp [intOf];omega
    ·have hrem:((t:Int) % 2 == 0)=false:=by rw [beq_eq_false_iff_ne];omega
     have HE:=ZZ he;clear he;go_wp2_with fail;go_ret;have h1:=HND.out;rw [HZ.out,Nat.zero_add,HNC.out,En.out] at h1;obtain⟨u,hu1,hu2⟩:=zeros_end h1 HXT.out HX.out ht0 HE.out;have hu3:n=2 ^ N2*u:=by rw [HN2.out,HN.out];exact hu1
     first
      | exact⟨⟨N2,u,rfl,hu3,hu2⟩,rfl⟩
      | exact⟨⟨N2,rfl,u,hu3,hu2⟩,rfl⟩
theorem Wd.form {w:World} {v:Value} {n:Nat} (h:Wd w v n):∃A c,v=.slice A (dg n).length c:=by
 obtain⟨A,c,e,-⟩:=h;exact⟨A,c,e⟩
theorem Wd.form' {w:World} {v:Value} {n:Nat} (h:Wd w v n):∃A k c,v=.slice A k c:=by
 obtain⟨A,c,e,-⟩:=h;exact⟨A,_,c,e⟩
theorem row3 {w W:World} {x y z:Value} (h:Ext (w.alloc (.cells #[x,y,z] 38)) W):W.heap[w.heap.size]?=some (.cells #[x,y,z] 38 (0,0)):=
 (h.block _ (by simp)).trans (heap_alloc_new w _)
theorem aj {W:World} {g:Nat} {x y z:Value} {T:TypeId} (h:W.heap[g]?=some (.cells #[x,y,z] T (0,0))):W.cell? ⟨g,0,none⟩=some x∧W.cell? ⟨g,1,none⟩=some y∧W.cell? ⟨g,2,none⟩=some z∧W.frozen? ⟨g,0,none⟩=false∧W.frozen? ⟨g,1,none⟩=false∧W.frozen? ⟨g,2,none⟩=false:=by
 refine⟨?_,?_,?_,?_,?_,?_⟩ <;> simp [World.cell?,World.frozen?,h]
theorem nm_mk {W:World} {b:Bool} {vn vd:Value} {n d n' d':Nat} {q:Rat} (hq:q=rat b n d) (hn:0<n) (hd:0<d) (h1:n'=n / Nat.gcd n d) (h2:d'=d / Nat.gcd n d) (ha:Wd W vn n') (hb:Wd W vd (if d'=1 then 0 else d')):Nm W (.agg #[.bool b,vn,vd]) q:=by
 subst hq;have e1:=rat_natAbs b n d (by omega);have e2:=rat_den b n d (by omega);refine⟨vn,vd,by rw [rat_neg b n d (by omega) hn],by rw [e1,←h1];exact ha,?_⟩;unfold dn;rw [e2,←h2];exact hb
theorem Wd.put3 {W:World} {v:Value} {n g:Nat} {b0:Bool} {A0 B0:Option Addr} {k0 c0 k1 c1:Nat} {T:TypeId} (h:Wd W v n) (hg:W.heap[g]?=some (.cells #[.bool b0,.slice A0 k0 c0,.slice B0 k1 c1] T (0,0))) (a b c:Value):Wd (((W.setCell ⟨g,0,none⟩ a).setCell ⟨g,1,none⟩ b).setCell ⟨g,2,none⟩ c) v n:=by
 obtain⟨A,cc,e,hc,hcl⟩:=h;refine⟨A,cc,e,hc,?_⟩
 rcases Nat.eq_zero_or_pos (dg n).length with h0|h0
 ·left;rw [List.length_eq_zero_iff.1 h0];rfl
 ·obtain⟨bl,o,hA,hce⟩:=hcl.at_ (by simpa using h0)
  right
  refine⟨bl,o,hA,fun j hj=>?_⟩;have hj':j<(dg n).length:=by simpa using hj
  have h1:=hce j hj
  have hne:bl≠g:=by
   intro hb;subst hb;rw [getD_map_u64 _ _ hj'] at h1
   simp only [World.cell?,hg] at h1
   rcases Nat.lt_or_ge (o+j) 3 with h3|h3
   ·rcases(show o+j=0∨o+j=1∨o+j=2 by omega) with e|e|e <;> rw [e] at h1 <;> simp at h1
   ·rw [Array.getElem?_eq_none (by simpa using h3)] at h1
    simp at h1
  rw [←h1]
  apply World.cell?_of_block
  rw [Below.heap_setCell _ _ _ _ hne,Below.heap_setCell _ _ _ _ hne,Below.heap_setCell _ _ _ _ hne]
theorem am {w W:World} {g:Nat} (h:Ext w W) (hg:w.heap.size≤g) (a b c:Value):Ext w (((W.setCell ⟨g,0,none⟩ a).setCell ⟨g,1,none⟩ b).setCell ⟨g,2,none⟩ c):=
 ((h.setCell hg _).setCell hg _).setCell hg _
theorem reduced_c (b:Bool) (vn vd:Value) (n d:Nat) (w:World) (ha:Wd w vn n) (hb:Wd w vd d) (sa:Sm n) (sb:Sm d) (hd:0<d):Calls Tryz.prog 40 #[.bool b,vn,vd] w fun e w'=>∃v,e=.returned v∧Nm w' v (rat b n d)∧Ext w w':=by
 obtain⟨A,ca,rfl⟩:=ha.form;obtain⟨B,q,cb,rfl⟩:=hb.form';have Hb:=ZZ hb;have Sa:=ZZ sa;have Sb:=ZZ sb;have Hd:=ZZ hd;obtain⟨p,hp⟩:∃p,(dg n).length=p:=⟨_,rfl⟩
 have hz:n=0↔p=0:=by
  rw [←hp,List.length_eq_zero_iff];exact(dig_eq_nil B64_two).symm
 rw [hp] at ha ⊢;have Ha:=ZZ ha;clear hp ha hb sa sb hd
 rcases Nat.eq_zero_or_pos p with h|h
 ·have hn:n=0:=hz.2 h
  subst hn;subst h;clear hz
  go_enter Tryz.func40,Tryz.ntmps40
  go_wp2_with fail;refine bodyPost_ret (v:=.agg #[.bool false,.slice none 0 0,.slice none 0 0]) (by simp [results,Tryz.f40];go_simp) rfl ?_
  exact⟨_,rfl,by rw [rat_zero];exact Nm.zero _,ab _ _⟩
 ·have t1:((p:Int) == 0)=false:=by simp;omega
  have hn:0<n:=by
   rcases Nat.eq_zero_or_pos n with h'|h'
   ·have:=hz.1 h';omega
   ·exact h'
  have Hn:=ZZ hn;clear hz hn
  go_enter Tryz.func40,Tryz.ntmps40
  go_wp2_with fail
  rcases hn1:decide (n=1) with _|_
  ·refine(is1_c _ n false hn1 _ (Ha.out.mono (ab _ _))).mono ?_
   rintro e w1 ⟨rfl,rfl⟩;have Hn1:=ZZ (show ¬ n=1 by simpa using hn1);clear hn1;go_wp2_with fail
   rcases hd0:decide (d=1) with _|_
   ·refine(is1_c _ d false hd0 _ (Hb.out.mono (ab _ _))).mono ?_
    rintro e w1 ⟨rfl,rfl⟩;have Hd0:=ZZ (show ¬ d=1 by simpa using hd0);clear hd0;go_wp2_with fail;refine(divisor_c _ _ n d _ (Ha.out.mono (ab _ _)) (Hb.out.mono (ab _ _)) Sa.out Sb.out Hn.out).mono ?_;rintro e w2 ⟨vg,rfl,hvg,hx2⟩;have hgd:Nat.gcd n d≤n:=Nat.gcd_le_left _ Hn.out;have hgp:0<Nat.gcd n d:=Nat.gcd_pos_of_pos_left _ Hn.out;obtain⟨G,kg,cg,rfl⟩:=hvg.form';have Hvg:=ZZ hvg;have Hx2:=ZZ hx2;have Hgd:=ZZ hgd;have Hgp:=ZZ hgp;clear hvg hx2 hgd hgp;go_wp2_with fail
    rcases hg1:decide (Nat.gcd n d=1) with _|_
    ·refine(is1_c _ _ false hg1 _ Hvg.out).mono ?_
     rintro e w3 ⟨rfl,rfl⟩;clear hg1;go_wp2_with fail;refine(div_c _ _ n (Nat.gcd n d) _ ((Ha.out.mono (ab w (.cells #[.bool false,.slice none 0 0,.slice none 0 0] 38))).mono Hx2.out) Hvg.out Sa.out (sm_lt Hgd.out Sa.out) Hgp.out).mono ?_;rintro e w3 ⟨q1,r1,rfl,hq1,-,hx3⟩;obtain⟨Q1,k1,c1,rfl⟩:=hq1.form';have Hq1:=ZZ hq1;have Hx3:=ZZ hx3;clear hq1 hx3;go_wp2_with fail;refine(div_c _ _ d (Nat.gcd n d) _ (((Hb.out.mono (ab w (.cells #[.bool false,.slice none 0 0,.slice none 0 0] 38))).mono Hx2.out).mono Hx3.out) (Hvg.out.mono Hx3.out) Sb.out (sm_lt Hgd.out Sa.out) Hgp.out).mono ?_;rintro e w4 ⟨q2,r2,rfl,hq2,-,hx4⟩;obtain⟨Q2,k2,c2,rfl⟩:=hq2.form';have HB:=ZZ hq2;have HA:=ZZ (Hq1.out.mono hx4);have Hx:=ZZ (al Hx2.out (al Hx3.out hx4));clear hq2 hx4;go_wp2_with fail;have hrow:=row3 Hx.out;obtain⟨hc0,hc1,hc2,hf0,hf1,hf2⟩:=aj hrow;have Hrow:=ZZ hrow;have Hxw:=ZZ (al (ab w (.cells #[.bool false,.slice none 0 0,.slice none 0 0] 38)) Hx.out);clear hrow
     rcases hd1:decide (d / Nat.gcd n d=1) with _|_
     ·refine(is1_c _ (d / Nat.gcd n d) false hd1 _ HB.out).mono ?_
      rintro e w9 ⟨rfl,rfl⟩;have Hd1:=ZZ (show ¬(d / Nat.gcd n d)=1 by simpa using hd1);clear hd1;go_wp2_with fail;refine bodyPost_ret (v:=.agg #[.bool b,.slice Q1 k1 c1,.slice Q2 k2 c2]) (by simp [results,Tryz.f40];go_simp) rfl ?_;exact⟨_,rfl,nm_mk (n':=n / Nat.gcd n d) (d':=d / Nat.gcd n d) rfl Hn.out Hd.out rfl rfl (HA.out.put3 Hrow.out _ _ _) (by rw [if_neg Hd1.out];exact(HB.out.put3 Hrow.out _ _ _)),am Hxw.out (Nat.le_refl _) _ _ _⟩
     ·refine(is1_c _ (d / Nat.gcd n d) true hd1 _ HB.out).mono ?_
      rintro e w9 ⟨rfl,rfl⟩;have Hd1:=ZZ (show (d / Nat.gcd n d)=1 by simpa using hd1);clear hd1;go_wp2_with fail;refine bodyPost_ret (v:=.agg #[.bool b,.slice Q1 k1 c1,.slice none 0 0]) (by simp [results,Tryz.f40];go_simp) rfl ?_;exact⟨_,rfl,nm_mk (n':=n / Nat.gcd n d) (d':=d / Nat.gcd n d) rfl Hn.out Hd.out rfl rfl (HA.out.put3 Hrow.out _ _ _) (by rw [if_pos Hd1.out];exact Wd.zero _),am Hxw.out (Nat.le_refl _) _ _ _⟩
    ·have Hg1:=ZZ (show Nat.gcd n d=1 by simpa using hg1)
     refine(is1_c _ _ true hg1 _ Hvg.out).mono ?_;rintro e w3 ⟨rfl,rfl⟩;clear hg1;go_wp2_with fail;have Hx:=ZZ Hx2.out;have HA:=ZZ ((Ha.out.mono (ab w (.cells #[.bool false,.slice none 0 0,.slice none 0 0] 38))).mono Hx2.out);have HB:=ZZ ((Hb.out.mono (ab w (.cells #[.bool false,.slice none 0 0,.slice none 0 0] 38))).mono Hx2.out);have hrow:=row3 Hx.out;obtain⟨hc0,hc1,hc2,hf0,hf1,hf2⟩:=aj hrow;have Hrow:=ZZ hrow;have Hxw:=ZZ (al (ab w (.cells #[.bool false,.slice none 0 0,.slice none 0 0] 38)) Hx.out);clear hrow
     rcases hd1:decide (d=1) with _|_
     ·refine(is1_c _ (d) false hd1 _ HB.out).mono ?_
      rintro e w9 ⟨rfl,rfl⟩;have Hd1:=ZZ (show ¬(d)=1 by simpa using hd1);clear hd1;go_wp2_with fail;refine bodyPost_ret (v:=.agg #[.bool b,.slice A p ca,.slice B q cb]) (by simp [results,Tryz.f40];go_simp) rfl ?_;exact⟨_,rfl,nm_mk (n':=n) (d':=d) rfl Hn.out Hd.out (by rw [Hg1.out,Nat.div_one]) (by rw [Hg1.out,Nat.div_one]) (HA.out.put3 Hrow.out _ _ _) (by rw [if_neg Hd1.out];exact(HB.out.put3 Hrow.out _ _ _)),am Hxw.out (Nat.le_refl _) _ _ _⟩
     ·refine(is1_c _ (d) true hd1 _ HB.out).mono ?_
      rintro e w9 ⟨rfl,rfl⟩;have Hd1:=ZZ (show (d)=1 by simpa using hd1);clear hd1;go_wp2_with fail;refine bodyPost_ret (v:=.agg #[.bool b,.slice A p ca,.slice none 0 0]) (by simp [results,Tryz.f40];go_simp) rfl ?_;exact⟨_,rfl,nm_mk (n':=n) (d':=d) rfl Hn.out Hd.out (by rw [Hg1.out,Nat.div_one]) (by rw [Hg1.out,Nat.div_one]) (HA.out.put3 Hrow.out _ _ _) (by rw [if_pos Hd1.out];exact Wd.zero _),am Hxw.out (Nat.le_refl _) _ _ _⟩
   ·refine(is1_c _ d true hd0 _ (Hb.out.mono (ab _ _))).mono ?_
    rintro e w1 ⟨rfl,rfl⟩;have Hd0:=ZZ (show d=1 by simpa using hd0);clear hd0;go_wp2_with fail;have Hx:Hid (Ext _ _):=ae (w.alloc (.cells #[.bool false,.slice none 0 0,.slice none 0 0] 38));have HA:Hid (Wd _ _ _):=Ha.out.mono (ab w (.cells #[.bool false,.slice none 0 0,.slice none 0 0] 38));have HB:Hid (Wd _ _ _):=Hb.out.mono (ab w (.cells #[.bool false,.slice none 0 0,.slice none 0 0] 38));have hrow:=row3 Hx.out;obtain⟨hc0,hc1,hc2,hf0,hf1,hf2⟩:=aj hrow;have Hrow:=ZZ hrow;have Hxw:=ZZ (al (ab w (.cells #[.bool false,.slice none 0 0,.slice none 0 0] 38)) Hx.out);clear hrow
    rcases hd1:decide (d=1) with _|_
    ·refine(is1_c _ (d) false hd1 _ HB.out).mono ?_
     rintro e w9 ⟨rfl,rfl⟩;have Hd1:=ZZ (show ¬(d)=1 by simpa using hd1);clear hd1;go_wp2_with fail;refine bodyPost_ret (v:=.agg #[.bool b,.slice A p ca,.slice B q cb]) (by simp [results,Tryz.f40];go_simp) rfl ?_;exact⟨_,rfl,nm_mk (n':=n) (d':=d) rfl Hn.out Hd.out (by rw [Hd0.out,Nat.gcd_one_right,Nat.div_one]) (by rw [Hd0.out,Nat.gcd_one_right,Nat.div_one]) (Ha.out.mono (ab _ _)) (by rw [if_neg Hd1.out];exact(Hb.out.mono (ab _ _))),ab _ _⟩
    ·refine(is1_c _ (d) true hd1 _ HB.out).mono ?_
     rintro e w9 ⟨rfl,rfl⟩;have Hd1:=ZZ (show (d)=1 by simpa using hd1);clear hd1;go_wp2_with fail;refine bodyPost_ret (v:=.agg #[.bool b,.slice A p ca,.slice none 0 0]) (by simp [results,Tryz.f40];go_simp) rfl ?_;exact⟨_,rfl,nm_mk (n':=n) (d':=d) rfl Hn.out Hd.out (by rw [Hd0.out,Nat.gcd_one_right,Nat.div_one]) (by rw [Hd0.out,Nat.gcd_one_right,Nat.div_one]) (Ha.out.mono (ab _ _)) (by rw [if_pos Hd1.out];exact Wd.zero _),ab _ _⟩
  ·refine(is1_c _ n true hn1 _ (Ha.out.mono (ab _ _))).mono ?_
   rintro e w1 ⟨rfl,rfl⟩;have Hn1:=ZZ (show n=1 by simpa using hn1);clear hn1;go_wp2_with fail;have Hx:Hid (Ext _ _):=ae (w.alloc (.cells #[.bool false,.slice none 0 0,.slice none 0 0] 38));have HA:Hid (Wd _ _ _):=Ha.out.mono (ab w (.cells #[.bool false,.slice none 0 0,.slice none 0 0] 38));have HB:Hid (Wd _ _ _):=Hb.out.mono (ab w (.cells #[.bool false,.slice none 0 0,.slice none 0 0] 38));have hrow:=row3 Hx.out;obtain⟨hc0,hc1,hc2,hf0,hf1,hf2⟩:=aj hrow;have Hrow:=ZZ hrow;have Hxw:=ZZ (al (ab w (.cells #[.bool false,.slice none 0 0,.slice none 0 0] 38)) Hx.out);clear hrow
   rcases hd1:decide (d=1) with _|_
   ·refine(is1_c _ (d) false hd1 _ HB.out).mono ?_
    rintro e w9 ⟨rfl,rfl⟩;have Hd1:=ZZ (show ¬(d)=1 by simpa using hd1);clear hd1;go_wp2_with fail;refine bodyPost_ret (v:=.agg #[.bool b,.slice A p ca,.slice B q cb]) (by simp [results,Tryz.f40];go_simp) rfl ?_;exact⟨_,rfl,nm_mk (n':=n) (d':=d) rfl Hn.out Hd.out (by rw [Hn1.out,Nat.gcd_one_left]) (by rw [Hn1.out,Nat.gcd_one_left,Nat.div_one]) (Ha.out.mono (ab _ _)) (by rw [if_neg Hd1.out];exact(Hb.out.mono (ab _ _))),ab _ _⟩
   ·refine(is1_c _ (d) true hd1 _ HB.out).mono ?_
    rintro e w9 ⟨rfl,rfl⟩;have Hd1:=ZZ (show (d)=1 by simpa using hd1);clear hd1;go_wp2_with fail;refine bodyPost_ret (v:=.agg #[.bool b,.slice A p ca,.slice none 0 0]) (by simp [results,Tryz.f40];go_simp) rfl ?_;exact⟨_,rfl,nm_mk (n':=n) (d':=d) rfl Hn.out Hd.out (by rw [Hn1.out,Nat.gcd_one_left]) (by rw [Hn1.out,Nat.gcd_one_left,Nat.div_one]) (Ha.out.mono (ab _ _)) (by rw [if_pos Hd1.out];exact Wd.zero _),ab _ _⟩
end Go.Proofs.YtkoaakefgacokaaGreatDoor
