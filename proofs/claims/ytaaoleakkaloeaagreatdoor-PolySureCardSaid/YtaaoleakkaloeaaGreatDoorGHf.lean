/- Euclid's chain: each rest is, up to a factor, the only combination of its degree; so its numbers are small. How great the numbers of quotients, rests and divisors are. -/
import Derived.Test.YtaaoleakkaloeaaGreatDoorGYy
import Derived.Test.YtaaoleakkaloeaaGreatDoorGWh
set_option linter.unusedVariables false
set_option maxRecDepth 100000
set_option maxHeartbeats 64000000
namespace Go.Proofs.YtaaoleakkaloeaaGreatDoor
set_option linter.unusedSimpArgs false
theorem rest_mon (u v:List Rat) (hv:0<dgF v):∃g:Rat,(∀x,evR u x=evR (divF u v).1 x*evR v x+g*evR (monicF (divF u v).2) x)∧(0<dgF (monicF (divF u v).2)→g≠0):=by
 obtain⟨d1,-,-⟩:=div_ev u v hv
 rcases Nat.eq_zero_or_pos (dgF (divF u v).2) with h|h
 ·refine⟨0,fun x=>?_,fun h2=>?_⟩
  ·rw [d1,dgz h];grind
  ·rw [dg_mon] at h2;omega
 ·refine⟨topF (trimF (divF u v).2),fun x=>?_,fun _=>top_trim_ne (trim_ne h)⟩
  rw [d1 x,mon_back h];grind
inductive Tr:List Rat→List Rat→List Rat→List Rat→Prop
 | one (u v:List Rat):0<dgF v→Tr u v v (monicF (divF u v).2)
 | more (u v x y:List Rat):0<dgF v→Tr v (monicF (divF u v).2) x y→Tr u v x y
theorem Tr.dg {u v x y:List Rat} (h:Tr u v x y):dgF x≤dgF v∧dgF y<dgF x∧Mo y:=by
 induction h with
 | one u v hv=>exact⟨Nat.le_refl _,by rw [dg_mon];exact div_dg u v hv,mo_mon _⟩
 | more u v x y hv _ ih=>
  have:=div_dg u v hv
  rw [dg_mon] at ih;exact⟨by omega,ih.2⟩
theorem Tr.uniq {u v x y:List Rat} (h:Tr u v x y):∀(A B R:List Rat),(∀t,evR R t=evR A t*evR u t+evR B t*evR v t)→dgF R<dgF x→dgF A+dgF x≤dgF v+1→∃c:Rat,(∀t,evR R t=c*evR y t)∧(0<dgF y→dgF R=0→dgF A=0∧dgF B=0):=by
 induction h with
 | one u v hv=>
  intro A B R e hR hA;obtain⟨g,eg,hg⟩:=rest_mon u v hv;have ea:∀t,evR A t=co A 0:=fun t=>ev_dg1 (by omega) t;have hy:=div_dg u v hv;have h1:Dv v (subF R (scaleF (monicF (divF u v).2) (co A 0*g))):=⟨addF (scaleF (divF u v).1 (co A 0)) B,fun t=>by rw [ev_subF,ev_scaleF,ev_addF,ev_scaleF,e,ea,eg];grind⟩;have h2:dgF (subF R (scaleF (monicF (divF u v).2) (co A 0*g)))≤dgF v - 1:=dg_sub (fun t=>ev_subF _ _ t) (by omega) (Nat.le_trans (dg_scale fun t=>ev_scaleF _ _ t) (by rw [dg_mon];omega));have h3:=h1.small (by omega)
  have h4:∀t,evR R t=co A 0*g*evR (monicF (divF u v).2) t:=fun t=>by
   have:=dgz h3 t
   rw [ev_subF,ev_scaleF] at this
   grind
  refine⟨co A 0*g,h4,fun h5 h6=>?_⟩;obtain⟨t0,ht0⟩:=dg_pos h5;have h7:=h4 t0;rw [dgz h6] at h7
  have h8:co A 0=0:=by
   rcases Rat.mul_eq_zero.1 h7.symm with h8|h8
   ·rcases Rat.mul_eq_zero.1 h8 with h9|h9
    ·exact h9
    ·exact absurd h9 (hg h5)
   ·exact absurd h8 ht0
  refine⟨dg_of_zero fun t=>by rw [ea,h8],?_⟩
  rcases Nat.eq_zero_or_pos (dgF B) with h9|h9
  ·exact h9
  ·have:=dg_mul (r:=R) (p:=B) (q:=v) (fun t=>by rw [e,ea,h8];grind) h9 hv
   omega
 | more u v x y hv ht ih=>
  intro A B R e hR hA;obtain⟨g,eg,hg⟩:=rest_mon u v hv;have hd:=ht.dg;have hy:=div_dg u v hv;rw [dg_mon] at hd;have hpos:0<dgF (monicF (divF u v).2):=by rw [dg_mon];omega
  have e1:∀t,evR R t=evR (addF (mulF A (divF u v).1) B) t*evR v t+evR (scaleF A g) t*evR (monicF (divF u v).2) t:=fun t=>by
   rw [ev_addF,ev_mulF,ev_scaleF,e,eg];grind
  have h1:dgF (addF (mulF A (divF u v).1) B)+dgF x≤dgF (monicF (divF u v).2)+1:=by
   rw [dg_mon]
   rcases Nat.eq_zero_or_pos (dgF (addF (mulF A (divF u v).1) B)) with h0|h0
   ·omega
   ·have h2:=dg_mul (r:=mulF (addF (mulF A (divF u v).1) B) v) (fun t=>ev_mulF _ _ t) h0 hv
    have h3:dgF (mulF (scaleF A g) (monicF (divF u v).2))≤dgF A+dgF (divF u v).2 - 1:=by
     rcases Nat.eq_zero_or_pos (dgF (scaleF A g)) with h4|h4
     ·rw [dg_of_zero fun t=>by rw [ev_mulF,dgz h4];grind];omega
     ·rw [dg_mul (fun t=>ev_mulF _ _ t) h4 hpos,dg_mon]
      have:=dg_scale (r:=scaleF A g) (fun t=>ev_scaleF A g t)
      omega
    rcases Nat.le_total (dgF R) (dgF A+dgF (divF u v).2 - 1) with h5|h5
    ·have h6:=dg_sub (r:=mulF (addF (mulF A (divF u v).1) B) v) (p:=R) (q:=mulF (scaleF A g) (monicF (divF u v).2)) (fun t=>by rw [e1,ev_mulF,ev_mulF];grind) h5 h3
     omega
    ·have h6:=dg_sub (r:=mulF (addF (mulF A (divF u v).1) B) v) (p:=R) (q:=mulF (scaleF A g) (monicF (divF u v).2)) (fun t=>by rw [e1,ev_mulF,ev_mulF];grind) (Nat.le_refl _) (Nat.le_trans h3 h5)
     omega
  obtain⟨c,hc,hz⟩:=ih _ _ R e1 hR h1;refine⟨c,hc,fun h5 h6=>?_⟩;obtain⟨z1,z2⟩:=hz h5 h6
  have a0:∀t,evR A t=0:=fun t=>by
   have:=dgz z2 t
   rw [ev_scaleF] at this
   rcases Rat.mul_eq_zero.1 this with h7|h7
   ·exact h7
   ·exact absurd h7 (hg hpos)
  refine⟨dg_of_zero a0,dg_of_zero fun t=>?_⟩
  have:=dgz z1 t
  rw [ev_addF,ev_mulF,a0] at this
  grind
def HF (a:Nat) (p:List Rat):Prop:=∃(D:Int) (n:Nat→Int),D≠0∧D.natAbs<2 ^ a∧∀i,co p i*(D:Rat)=(n i:Rat)∧(n i).natAbs<2 ^ a
theorem HF.mono {a b:Nat} {p:List Rat} (h:HF a p) (k:a≤b):HF b p:=by
 obtain⟨D,n,h0,h1,h2⟩:=h;have h3:2 ^ a≤2 ^ b:=Nat.pow_le_pow_right (by decide) k;exact⟨D,n,h0,by omega,fun i=>⟨(h2 i).1,by have:=(h2 i).2;omega⟩⟩
def ipc (f g:Nat→Int):Nat→Nat→Int
 | 0,_=>0
 | i+1,k=>ipc f g i k+(if i≤k then f i*g (k - i) else 0)
theorem ipc_sub (f h g:Nat→Int) (k:Nat):∀m,ipc (fun j=>f j - h j) g m k=ipc f g m k - ipc h g m k
 | 0=>rfl
 | m+1=>by
  show ipc _ g m k+_=(ipc f g m k+_) - (ipc h g m k+_)
  rw [ipc_sub f h g k m]
  split
  ·rw [Int.sub_mul];omega
  ·omega
theorem ipc_bound {f g:Nat→Int} {K A:Nat} (hf:∀j,(f j).natAbs≤K) (hg:∀j,(g j).natAbs≤A) (k:Nat):∀m,(ipc f g m k).natAbs≤m*K*A
 | 0=>by simp [ipc]
 | m+1=>by
  show (ipc f g m k+(if m≤k then f m*g (k - m) else 0)).natAbs≤_
  have h1:=ipc_bound hf hg k m
  have h2:(if m≤k then f m*g (k - m) else 0:Int).natAbs≤K*A:=by
   split
   ·rw [Int.natAbs_mul];exact Nat.mul_le_mul (hf _) (hg _)
   ·simp
  rw [Nat.add_mul,Nat.add_mul,Nat.one_mul];have h3:=Int.natAbs_add_le (ipc f g m k) (if m≤k then f m*g (k - m) else 0);omega
theorem ipc_cast {f g:Nat→Int} {u v:Nat→Rat} (hv:∀j,v j=(g j:Rat)) (k:Nat):∀m,(∀j,j<m→u j=(f j:Rat))→pcv u v m k=(ipc f g m k:Rat)
 | 0,_=>by show (0:Rat)=((0:Int):Rat);rfl
 | m+1,hu=>by
  show pcv u v m k+(if m≤k then u m*v (k - m) else 0)=((ipc f g m k+(if m≤k then f m*g (k - m) else 0):Int):Rat)
  rw [ipc_cast hv k m fun j hj=>hu j (by omega),Rat.intCast_add]
  split
  ·rw [hu m (by omega),hv,Rat.intCast_mul]
  ·rfl
theorem co_list (f:Nat→Rat) (s i:Nat):co ((List.range s).map f) i=if i<s then f i else 0:=by
 unfold co;rw [List.getElem?_map]
 by_cases h:i<s
 ·rw [List.getElem?_range h,if_pos h];rfl
 ·rw [List.getElem?_eq_none (by simpa using h),if_neg h];rfl
theorem co_scaleF (p:List Rat) (c:Rat) (i:Nat):co (scaleF p c) i=co p i*c:=by unfold scaleF;rw [co_trim,co_map]
theorem dg_mulF_le (p q:List Rat):dgF (mulF p q)≤dgF p+dgF q - 1:=by
 rcases Nat.eq_zero_or_pos (dgF p) with h|h
 ·rw [dg_of_zero fun t=>by rw [ev_mulF,dgz h];grind];omega
 ·rcases Nat.eq_zero_or_pos (dgF q) with k|k
  ·rw [dg_of_zero fun t=>by rw [ev_mulF,dgz k];grind];omega
  ·exact Nat.le_of_eq (dg_mul (fun t=>ev_mulF _ _ t) h k)
theorem co_prod {z n:Nat→Int} {P:List Rat} (hP:∀i,co P i=(n i:Rat)) (s i:Nat):co (mulF ((List.range s).map fun j=>(z j:Rat)) P) i=(ipc z n s i:Rat):=by
 rw [co_mulF,←pcv_all (m:=s) (fun j hj=>by rw [co_list,if_neg (by omega)])];exact ipc_cast (fun j=>hP j) i s fun j hj=>by rw [co_list,if_pos hj]
theorem Tr.small {p q x y:List Rat} (h:Tr p q x y) {a v:Nat} (hp:HF a p) (hq:HF a q) (hy:0<dgF y) (hv:dgF p+dgF q+2≤2 ^ v):HF ((a+v+2)*(dgF p+dgF q+2)) y:=by
 obtain⟨Dp,np,p0,p1,p2⟩:=hp;obtain⟨Dq,nq,q0,q1,q2⟩:=hq;obtain⟨x1,x2,my⟩:=h.dg;obtain⟨s,hs⟩:∃s,dgF q+1 - dgF x=s:=⟨_,rfl⟩;obtain⟨t,ht⟩:∃t,dgF p+1 - dgF x=t:=⟨_,rfl⟩;obtain⟨m,hm⟩:∃m,dgF p+dgF q+1 - 2*dgF x=m:=⟨_,rfl⟩;have hn0:m<s+t:=by omega
 have hnv:s+t≤2 ^ v:=by omega
 have hPc:∀i,co (scaleF p (Dp:Rat)) i=(np i:Rat):=fun i=>by rw [co_scaleF];exact(p2 i).1
 have hQc:∀i,co (scaleF q (Dq:Rat)) i=(nq i:Rat):=fun i=>by rw [co_scaleF];exact(q2 i).1
 have bnd:∀(K:Nat) (z:Nat→Int),(∀j,(z j).natAbs≤K)→∀i,(ipc z np s i+ipc (fun j=>z (s+j)) nq t i).natAbs≤(s+t)*K*2 ^ a:=fun K z hz i=>by
  have h1:=ipc_bound (A:=2 ^ a) hz (fun j=>Nat.le_of_lt (p2 j).2) i s;have h2:=ipc_bound (A:=2 ^ a) (fun j=>hz (s+j)) (fun j=>Nat.le_of_lt (q2 j).2) i t;have h3:=Int.natAbs_add_le (ipc z np s i) (ipc (fun j=>z (s+j)) nq t i);rw [Nat.add_mul,Nat.add_mul];omega
 obtain⟨z,⟨j0,hj0,hz0⟩,hz1,hzK,hzL⟩:=siegel (fun z k=>ipc z np s (dgF x - 1+k)+ipc (fun j=>z (s+j)) nq t (dgF x - 1+k)) (s+t) m (2 ^ ((a+v+2)*(s+t - 1))) ((s+t)*2 ^ ((a+v+2)*(s+t - 1))*2 ^ a)
  (fun f g k=>by
   show ipc (fun j=>f j - g j) np s _+ipc (fun j=>f (s+j) - g (s+j)) nq t _=_
   rw [ipc_sub,ipc_sub (fun j=>f (s+j)) (fun j=>g (s+j))];omega)
  (fun f hf k _=>bnd _ f (fun j=>by have:=hf j;omega) _)
  (siegel_count hn0 hnv (Nat.le_refl _) rfl rfl)
 generalize hA:(List.range s).map (fun j=>(z j:Rat))=A;generalize hB:(List.range t).map (fun j=>(z (s+j):Rat))=B;have cA:∀i,co (mulF A (scaleF p (Dp:Rat))) i=(ipc z np s i:Rat):=fun i=>by rw [←hA];exact co_prod hPc s i
 have cB:∀i,co (mulF B (scaleF q (Dq:Rat))) i=(ipc (fun j=>z (s+j)) nq t i:Rat):=fun i=>by rw [←hB];exact co_prod (z:=fun j=>z (s+j)) hQc t i
 have cR:∀i,co (addF (mulF A (scaleF p (Dp:Rat))) (mulF B (scaleF q (Dq:Rat)))) i=((ipc z np s i+ipc (fun j=>z (s+j)) nq t i:Int):Rat):=fun i=>by
  rw [co_addF,Rat.intCast_add,←cA,←cB]
 have lA:dgF A≤s:=by have:=dg_len A;rw [←hA] at this ⊢;simpa using this
 have lB:dgF B≤t:=by have:=dg_len B;rw [←hB] at this ⊢;simpa using this
 have dP:dgF (scaleF p (Dp:Rat))≤dgF p:=dg_scale fun t=>ev_scaleF _ _ t;have dQ:dgF (scaleF q (Dq:Rat))≤dgF q:=dg_scale fun t=>ev_scaleF _ _ t
 have dR:dgF (addF (mulF A (scaleF p (Dp:Rat))) (mulF B (scaleF q (Dq:Rat))))≤dgF x - 1:=by
  refine dg_le fun i hi=>?_
  rcases Nat.lt_or_ge i (dgF x - 1+m) with h1|h1
  ·rw [cR]
   have h2:=hzL (i - (dgF x - 1)) (by omega);have h3:ipc z np s (dgF x - 1+(i - (dgF x - 1)))+ipc (fun j=>z (s+j)) nq t (dgF x - 1+(i - (dgF x - 1)))=0:=h2;rw [show dgF x - 1+(i - (dgF x - 1))=i by omega] at h3;rw [h3];rfl
  ·have h2:=dg_mulF_le A (scaleF p (Dp:Rat))
   have h3:=dg_mulF_le B (scaleF q (Dq:Rat));rw [co_addF]
   show co (mulF A _) i+co (mulF B _) i=0
   rw [dg_ge (by omega),dg_ge (p:=mulF B _) (by
    rcases Nat.eq_zero_or_pos (dgF B) with h4|h4
    ·rw [dg_of_zero fun t=>by rw [ev_mulF,dgz h4];grind];omega
    ·omega)]
   grind
 obtain⟨c,hc,hnz⟩:=h.uniq (scaleF A (Dp:Rat)) (scaleF B (Dq:Rat)) (addF (mulF A (scaleF p (Dp:Rat))) (mulF B (scaleF q (Dq:Rat)))) (fun t=>by rw [ev_addF,ev_mulF,ev_mulF,ev_scaleF,ev_scaleF,ev_scaleF,ev_scaleF];grind) (by omega) (by have:=dg_scale (r:=scaleF A (Dp:Rat)) (fun t=>ev_scaleF A _ t);omega)
 have hcy:∀i,co (addF (mulF A (scaleF p (Dp:Rat))) (mulF B (scaleF q (Dq:Rat)))) i=co y i*c:=fun i=>by
  rw [←co_scaleF];exact ev_inj (fun t=>by rw [hc,ev_scaleF];grind) i
 have hc0:c≠0:=by
  intro e;have h1:=hnz hy (dg_of_zero fun t=>by rw [hc,e];grind);have nz:∀D:Int,D≠0→(D:Rat)≠0:=fun D hD e=>hD (Rat.intCast_inj.1 (e.trans Rat.intCast_zero.symm))
  rcases Nat.lt_or_ge j0 s with h2|h2
  ·have h3:=ev_inj (p:=scaleF A (Dp:Rat)) (q:=[]) (fun t=>dgz h1.1 t) j0
   rw [co_scaleF,←hA,co_list,if_pos h2] at h3
   rcases Rat.mul_eq_zero.1 h3 with h4|h4
   ·exact nz _ hz0 h4
   ·exact nz _ p0 h4
  ·have h3:=ev_inj (p:=scaleF B (Dq:Rat)) (q:=[]) (fun t=>dgz h1.2 t) (j0 - s)
   rw [co_scaleF,←hB,co_list,if_pos (by omega),show s+(j0 - s)=j0 by omega] at h3
   rcases Rat.mul_eq_zero.1 h3 with h4|h4
   ·exact nz _ hz0 h4
   ·exact nz _ q0 h4
 have ht1:co y (dgF y - 1)=1:=by
  rw [←top_eq my.1];exact my.2.resolve_left fun e=>by rw [e] at hy;cases hy
 have hcI:((ipc z np s (dgF y - 1)+ipc (fun j=>z (s+j)) nq t (dgF y - 1):Int):Rat)=c:=by
  rw [←cR,hcy,ht1];grind
 have hlt:∀i,(ipc z np s i+ipc (fun j=>z (s+j)) nq t i).natAbs<2 ^ ((a+v+2)*(dgF p+dgF q+2)):=fun i=>by
  have h1:=bnd _ z hzK i;have h2:(s+t)*2 ^ ((a+v+2)*(s+t - 1))*2 ^ a≤2 ^ v*2 ^ ((a+v+2)*(s+t - 1))*2 ^ a:=Nat.mul_le_mul_right _ (Nat.mul_le_mul_right _ hnv);rw [←Nat.pow_add,←Nat.pow_add] at h2;have h3:(a+v+2)*(s+t - 1)+(a+v+2)=(a+v+2)*(s+t):=by rw [←Nat.mul_succ,show (s+t - 1).succ=s+t by omega]
  have h4:(a+v+2)*(s+t)≤(a+v+2)*(dgF p+dgF q+2):=Nat.mul_le_mul_left _ (by omega);have h5:2 ^ (v+(a+v+2)*(s+t - 1)+a)<2 ^ ((a+v+2)*(dgF p+dgF q+2)):=Nat.pow_lt_pow_right (by decide) (by omega);omega
 refine⟨_,fun i=>ipc z np s i+ipc (fun j=>z (s+j)) nq t i,?_,hlt (dgF y - 1),fun i=>⟨?_,hlt i⟩⟩
 ·intro e
  rw [e] at hcI;exact hc0 hcI.symm
 ·rw [hcI,←hcy,cR]
end Go.Proofs.YtaaoleakkaloeaaGreatDoor
set_option linter.unusedVariables false
set_option maxRecDepth 100000
set_option maxHeartbeats 64000000
namespace Go.Proofs.YtaaoleakkaloeaaGreatDoor
set_option linter.unusedSimpArgs false
theorem int_ne {D:Int} (h:D≠0):(D:Rat)≠0:=fun e=>h (Rat.intCast_inj.1 (e.trans Rat.intCast_zero.symm))
theorem den_num (q:Rat):q*(q.den:Rat)=(q.num:Rat):=by
 have h4:(q.den:Rat)≠0:=fun e=>q.den_nz (Rat.natCast_eq_zero_iff.1 e);have h5:=Rat.mul_inv_cancel (q.den:Rat) h4;have h:=Rat.num_divInt_den q;rw [Rat.divInt_eq_div,Rat.div_def,Rat.intCast_natCast] at h;have h7:q*(q.den:Rat)=((q.num:Rat)*(q.den:Rat)⁻¹)*(q.den:Rat):=congrArg (·*(q.den:Rat)) h.symm;rw [h7];grind
theorem bq_of_mul {a:Nat} {q:Rat} {D n:Int} (hD:D≠0) (h:q*(D:Rat)=(n:Rat)) (h1:D.natAbs<2 ^ a) (h2:n.natAbs<2 ^ a):Bq a q:=by
 have e:q.num*D=n*(q.den:Int):=by
  have h3:=den_num q
  apply Rat.intCast_inj.1
  rw [Rat.intCast_mul,Rat.intCast_mul,←h3,←h,Rat.intCast_natCast]
  grind
 have hc:Nat.Coprime q.num.natAbs q.den:=q.reduced
 have e2:q.num.natAbs*D.natAbs=n.natAbs*q.den:=by
  have:=congrArg Int.natAbs e
  rwa [Int.natAbs_mul,Int.natAbs_mul,Int.natAbs_natCast] at this
 have hd:q.den ∣ D.natAbs:=hc.symm.dvd_of_dvd_mul_left ⟨n.natAbs,by rw [e2,Nat.mul_comm]⟩;have hn:q.num.natAbs ∣ n.natAbs:=hc.dvd_of_dvd_mul_right ⟨D.natAbs,by rw [e2]⟩;refine⟨?_,Nat.lt_of_le_of_lt (Nat.le_of_dvd (by omega) hd) h1⟩
 rcases Nat.eq_zero_or_pos n.natAbs with h0|h0
 ·rw [h0,Nat.zero_mul] at e2
  rcases Nat.mul_eq_zero.1 e2 with h3|h3
  ·rw [h3];omega
  ·omega
 ·exact Nat.lt_of_le_of_lt (Nat.le_of_dvd h0 hn) h2
theorem HF.bq {a:Nat} {p:List Rat} (h:HF a p):∀x ∈ p,Bq a x:=by
 obtain⟨D,n,h0,h1,h2⟩:=h;intro x hx;obtain⟨i,hi⟩:=List.getElem?_of_mem hx;have e:co p i=x:=by unfold co;rw [hi];rfl
 rw [←e];exact bq_of_mul h0 (h2 i).1 h1 (h2 i).2
theorem HF.sm {a M:Nat} {p:List Rat} (h:HF a p) (k:a≤M):smB M p=true:=of_sm fun x hx=>(h.bq x hx).mono k
theorem HF.nil {a:Nat} (h:0<a):HF a []:=⟨1,fun _=>0,by decide,Nat.one_lt_two_pow (by omega),fun i=>⟨by show (0:Rat)*1=0;grind,Nat.pow_pos (by decide)⟩⟩
theorem HF.eqv {a:Nat} {p q:List Rat} (h:HF a p) (e:∀i,co q i=co p i):HF a q:=by
 obtain⟨D,n,h0,h1,h2⟩:=h;exact⟨D,n,h0,h1,fun i=>by rw [e];exact h2 i⟩
theorem HF.pos {a:Nat} {p:List Rat} (h:HF a p):0<a:=by
 obtain⟨D,n,h0,h1,-⟩:=h
 rcases Nat.eq_zero_or_pos a with e|e
 ·rw [e] at h1;omega
 ·exact e
theorem HF.cons {a M:Nat} {p:List Rat} {c:Rat} (h:HF a p) (hc:Bq M c):HF (a+M) (c :: p):=by
 obtain⟨D,n,h0,h1,h2⟩:=h;have hp:2 ^ (a+M)=2 ^ a*2 ^ M:=Nat.pow_add ..;have hden:0<c.den:=Nat.pos_of_ne_zero c.den_nz;have h3:=den_num c;refine⟨D*c.den,fun i=>match i with|0=>c.num*D|i+1=>n i*c.den,Int.mul_ne_zero h0 (by omega),?_,fun i=>?_⟩
 ·rw [Int.natAbs_mul,hp,Int.natAbs_natCast]
  exact Nat.mul_lt_mul'' h1 hc.2
 ·match i with
  | 0=>
   refine⟨?_,?_⟩
   ·show c*((D*c.den:Int):Rat)=((c.num*D:Int):Rat)
    rw [Rat.intCast_mul,Rat.intCast_mul,←h3,Rat.intCast_natCast];grind
   ·show (c.num*D).natAbs<_
    rw [Int.natAbs_mul,hp,Nat.mul_comm (2 ^ a)];exact Nat.mul_lt_mul'' hc.1 h1
  | i+1=>
   refine⟨?_,?_⟩
   ·show co p i*((D*c.den:Int):Rat)=((n i*c.den:Int):Rat)
    rw [Rat.intCast_mul,Rat.intCast_mul,←(h2 i).1];grind
   ·show (n i*(c.den:Int)).natAbs<_
    rw [Int.natAbs_mul,hp,Int.natAbs_natCast];exact Nat.mul_lt_mul'' (h2 i).2 hc.2
theorem hf_of_bq {M:Nat}:∀p:List Rat,(∀c ∈ p,Bq M c)→HF (p.length*M+1) p
 | [],_=>HF.nil (by omega)
 | c :: p,h=>by
  have h1:=(hf_of_bq p fun c hc=>h c (List.mem_cons_of_mem _ hc)).cons (h c (List.mem_cons_self ..));exact h1.mono (by rw [List.length_cons,Nat.add_mul];omega)
theorem HF.trim {a:Nat} {p:List Rat} (h:HF a p):HF a (trimF p):=h.eqv (co_trim p)
theorem HF.monic {a:Nat} {p:List Rat} (h:HF a p):HF a (monicF p):=by
 rcases Nat.eq_zero_or_pos (dgF p) with h3|h3
 ·rw [mon_nil h3];exact HF.nil h.pos
 obtain⟨D,n,h0,h1,h2⟩:=h;have ht:=dg_top h3;have hn:=(h2 (dgF p - 1)).1
 have hn0:n (dgF p - 1)≠0:=fun e=>by
  rw [e] at hn
  rcases Rat.mul_eq_zero.1 hn with h4|h4
  ·exact ht h4
  ·exact int_ne h0 h4
 refine⟨n (dgF p - 1),n,hn0,(h2 _).2,fun i=>⟨?_,(h2 i).2⟩⟩
 have e:co (monicF p) i=co p i*(1 / topF (trimF p)):=by
  unfold monicF;rw [if_neg (trim_ne h3)];unfold scaleF;rw [co_trim,co_map,co_trim]
 have e2:topF (trimF p)=co p (dgF p - 1):=by rw [top_eq (trim_trim p),dg_trim,co_trim]
 rw [e,e2,←hn,←(h2 i).1]
 have:=inv_ne ht
 grind
def HD (A:Nat) (D:Int) (p:List Rat):Prop:=∀i,∃n:Int,co p i*(D:Rat)=(n:Rat)∧n.natAbs<2 ^ A
theorem HF.hd {a:Nat} {p:List Rat} (h:HF a p):∃D:Int,D≠0∧D.natAbs<2 ^ a∧HD a D p:=by
 obtain⟨D,n,h0,h1,h2⟩:=h;exact⟨D,h0,h1,fun i=>⟨n i,h2 i⟩⟩
theorem HD.hf {a A:Nat} {D:Int} {p:List Rat} (h:HD A D p) (h0:D≠0) (h1:D.natAbs<2 ^ a) (k:a≤A):HF A p:=by
 refine⟨D,fun i=>(h i).choose,h0,Nat.lt_of_lt_of_le h1 (Nat.pow_le_pow_right (by decide) k),fun i=>(h i).choose_spec⟩
theorem HD.next {A b:Nat} {D E:Int} {rest q:List Rat} (h:HD A D rest) (k:HD b E q) (hE:E≠0) (hl:q.length≤rest.length) (h0:0<q.length) (ht:topF q≠0):∃m:Int,m≠0∧m.natAbs<2 ^ b∧HD (A+b+1) (D*m) (nextR rest q)∧∀quo:List Rat,HD A D quo→E.natAbs<2 ^ b→HD (A+b+1) (D*m) (quo.set (rest.length - q.length) (topF rest / topF q)):=by
 obtain⟨m,hm,hmb⟩:=k (q.length - 1);obtain⟨t,hT,htb⟩:=h (rest.length - 1)
 have hm0:m≠0:=fun e=>by
  rw [e] at hm
  rcases Rat.mul_eq_zero.1 hm with h4|h4
  ·exact ht h4
  ·exact int_ne hE h4
 have hp:2 ^ (A+b)=2 ^ A*2 ^ b:=Nat.pow_add ..;have hp1:2 ^ (A+b+1)=2 ^ A*2 ^ b*2:=by rw [Nat.pow_succ,hp]
 have hc:topF rest / topF q*(D:Rat)*(m:Rat)=(t:Rat)*(E:Rat):=by
  rw [←hm,←hT]
  show topF rest / topF q*_*(topF q*_)=topF rest*_*_
  rw [Rat.div_def]
  have:=Rat.mul_inv_cancel (topF q) ht
  grind
 refine⟨m,hm0,hmb,fun i=>?_,fun quo hq hEb i=>?_⟩
 ·obtain⟨n,hn,hnb⟩:=h i
  have e:co (nextR rest q) i=co rest i+co (List.replicate (rest.length - q.length) 0 ++ q) i*(-(topF rest / topF q)):=by
   unfold nextR;rw [co_trim];exact co_les rest q (by omega) _ i
  rw [co_shift] at e
  by_cases hi:i<rest.length - q.length
  ·rw [if_pos hi] at e
   refine⟨n*m,?_,?_⟩
   ·rw [e,Rat.intCast_mul,Rat.intCast_mul,←hn];grind
   ·rw [Int.natAbs_mul,hp1]
    have:=Nat.mul_lt_mul'' hnb hmb
    omega
  ·rw [if_neg hi] at e
   obtain⟨u,hu,hub⟩:=k (i - (rest.length - q.length));refine⟨n*m - u*t,?_,?_⟩
   ·rw [e,Rat.intCast_sub,Rat.intCast_mul,Rat.intCast_mul,Rat.intCast_mul,←hn]
    have h5:co q (i - (rest.length - q.length))*(topF rest / topF q*(D:Rat)*(m:Rat))=(u:Rat)*(t:Rat):=by
     rw [hc,←hu];grind
    grind
   ·have h6:=Nat.mul_lt_mul'' hnb hmb
    have h7:=Nat.mul_lt_mul'' hub htb;have h8:=Int.natAbs_sub_le (n*m) (u*t);rw [Int.natAbs_mul,Int.natAbs_mul] at h8;rw [Nat.mul_comm (2 ^ b)] at h7;rw [hp1];omega
 ·rcases Nat.lt_or_ge (rest.length - q.length) quo.length with hk|hk
  ·by_cases hi:i=rest.length - q.length
   ·subst hi
    have e:co (quo.set (rest.length - q.length) (topF rest / topF q)) (rest.length - q.length)=topF rest / topF q:=by
     show ((quo.set (rest.length - q.length) (topF rest / topF q))[rest.length - q.length]?).getD 0=_
     rw [List.getElem?_set_self hk];rfl
    refine⟨t*E,?_,?_⟩
    ·rw [e,Rat.intCast_mul,Rat.intCast_mul,←hc];grind
    ·rw [Int.natAbs_mul,hp1]
     have:=Nat.mul_lt_mul'' htb hEb
     omega
   ·obtain⟨n,hn,hnb⟩:=hq i
    have e:co (quo.set (rest.length - q.length) (topF rest / topF q)) i=co quo i:=by
     show ((quo.set (rest.length - q.length) (topF rest / topF q))[i]?).getD 0=_
     rw [List.getElem?_set_ne (by omega)];rfl
    refine⟨n*m,?_,?_⟩
    ·rw [e,Rat.intCast_mul,Rat.intCast_mul,←hn];grind
    ·rw [Int.natAbs_mul,hp1]
     have:=Nat.mul_lt_mul'' hnb hmb
     omega
  ·obtain⟨n,hn,hnb⟩:=hq i
   rw [List.set_eq_of_length_le hk];refine⟨n*m,?_,?_⟩
   ·rw [Rat.intCast_mul,Rat.intCast_mul,←hn];grind
   ·rw [Int.natAbs_mul,hp1]
    have:=Nat.mul_lt_mul'' hnb hmb
    omega
theorem divU_hd {b:Nat} {E:Int} {q:List Rat} (k:HD b E q) (hE:E≠0) (hEb:E.natAbs<2 ^ b) (h0:0<q.length) (ht:topF q≠0) (M:Nat):∀(n:Nat) (rest quo:List Rat) (A:Nat) (D:Int),rest.length<n→D≠0→D.natAbs<2 ^ A→HD A D rest→HD A D quo→A+rest.length*(b+1)≤M→divB M n rest q=true∧HF M (divU n quo rest q).1∧HF M (divU n quo rest q).2
 | 0,rest,quo,A,D,hn,_,_,_,_,_=>by omega
 | n+1,rest,quo,A,D,hn,hD,hDb,hr,hq,hM=>by
  show (if rest.length<q.length then true else smB M rest && divB M n (nextR rest q) q)=true∧HF M (if rest.length<q.length then (quo,rest) else divU n (quo.set (rest.length - q.length) (topF rest / topF q)) (nextR rest q) q).1∧HF M (if rest.length<q.length then (quo,rest) else divU n (quo.set (rest.length - q.length) (topF rest / topF q)) (nextR rest q) q).2
  by_cases h:rest.length<q.length
  ·rw [if_pos h,if_pos h]
   exact⟨rfl,(hq.hf hD hDb (Nat.le_refl _)).mono (by omega),(hr.hf hD hDb (Nat.le_refl _)).mono (by omega)⟩
  ·rw [if_neg h,if_neg h]
   obtain⟨m,hm0,hmb,h1,h2⟩:=hr.next k hE (by omega) h0 ht;have h3:=next_len rest q (by omega) h0 ht
   have h4:(D*m).natAbs<2 ^ (A+b+1):=by
    rw [Int.natAbs_mul,Nat.pow_succ,Nat.pow_add]
    have:=Nat.mul_lt_mul'' hDb hmb
    omega
   have h5:A+b+1+(nextR rest q).length*(b+1)≤M:=by
    have:((nextR rest q).length+1)*(b+1)≤rest.length*(b+1):=Nat.mul_le_mul_right _ h3
    rw [Nat.add_mul,Nat.one_mul] at this;omega
   obtain⟨i1,i2⟩:=divU_hd k hE hEb h0 ht M n (nextR rest q) _ (A+b+1) (D*m) (by omega) (Int.mul_ne_zero hD hm0) h4 h1 (h2 quo hq hEb) h5;refine⟨?_,i2⟩;rw [i1,(hr.hf hD hDb (Nat.le_refl _)).sm (by omega:A≤M)];rfl
theorem div_hf {a b M N:Nat} {p q:List Rat} (hp:HF a p) (hq:HF b q) (h0:0<dgF q) (hN:dgF p≤N) (hM:a+N*(b+1)≤M) (hb:b≤M):divOk M p q=true∧HF M (divF p q).1∧HF M (divF p q).2:=by
 obtain⟨D,d0,d1,d2⟩:=hp.trim.hd;obtain⟨E,e0,e1,e2⟩:=hq.trim.hd;have h1:(trimF p).length*(b+1)≤N*(b+1):=Nat.mul_le_mul_right _ hN;obtain⟨k1,k2,k3⟩:=divU_hd e2 e0 e1 h0 (top_trim_ne (trim_ne h0)) M ((trimF p).length+1) (trimF p) (List.replicate ((trimF p).length+1 - (trimF q).length) 0) a D (by omega) d0 d1 d2 (fun i=>⟨0,by rw [show co (List.replicate ((trimF p).length+1 - (trimF q).length) 0) i=0 by unfold co;rw [List.getElem?_replicate];split <;> rfl];grind,Nat.pow_pos (by decide)⟩) (by omega);refine⟨?_,k2.trim,k3⟩;unfold divOk;rw [k1,hp.sm (by omega),hq.sm hb];rfl
theorem Tr.snoc {p q x y:List Rat} (h:Tr p q x y) (hy:0<dgF y):Tr p q y (monicF (divF x y).2):=by
 induction h with
 | one u v hv=>exact .more u v _ _ hv (.one _ _ hy)
 | more u v x y hv _ ih=>exact .more u v _ _ hv (ih hy)
def InC (p q u v:List Rat):Prop:=(u=p∧v=q)∨Tr p q u v
theorem InC.next {p q u v:List Rat} (h:InC p q u v) (hv:0<dgF v):InC p q v (monicF (divF u v).2):=by
 rcases h with ⟨rfl,rfl⟩|h
 ·exact .inr (.one _ _ hv)
 ·exact .inr (h.snoc hv)
theorem hf_mo {H:Nat} {p q u v:List Rat} {a w:Nat} (h:InC p q u v) (hp:HF a p) (hq:HF a q) (hw:dgF p+dgF q+2≤2 ^ w) (hH:(a+w+2)*(dgF p+dgF q+2)≤H):HF H v:=by
 have ha:a≤H:=by
  have:(a+w+2)*1≤(a+w+2)*(dgF p+dgF q+2):=Nat.mul_le_mul_left _ (by omega)
  omega
 rcases h with ⟨rfl,rfl⟩|h
 ·exact hq.mono ha
 ·rcases Nat.eq_zero_or_pos (dgF v) with h0|h0
  ·have:=h.dg.2.2.len
   rw [h0] at this;rw [List.length_eq_zero_iff.1 this.symm];exact HF.nil (by have:=hp.pos;omega)
  ·exact(h.small hp hq h0 hw).mono hH
theorem comB_hf {H M N:Nat} {p q:List Rat} {a w:Nat} (mp:Mo p) (mq:Mo q) (hp:HF a p) (hq:HF a q) (hw:dgF p+dgF q+2≤2 ^ w) (hH:(a+w+2)*(dgF p+dgF q+2)≤H) (hN:dgF p≤N) (hN2:dgF q≤N) (hM:H+N*(H+1)≤M):∀(n:Nat) (u v:List Rat),v.length<n→InC p q u v→HF H u→Mo v→dgF u≤N→comB M n u v=true∧HF H (comU n u v)
 | 0,u,v,h,_,_,_,_=>by omega
 | n+1,u,v,hn,hi,hu,hv,hNu=>by
  show (v.isEmpty || (divOk M u v && smB M (divF u v).2 && comB M n v (monicF (divF u v).2)))=true∧HF H (if v=[] then u else comU n v (monicF (divF u v).2))
  by_cases h0:v=[]
  ·subst h0
   exact⟨rfl,hu⟩
  ·rw [if_neg h0]
   have hv0:0<dgF v:=by rw [hv.len];exact List.length_pos_iff.2 h0
   have hHv:=hf_mo hi hp hq hw hH;have hd:=div_dg u v hv0
   have hle:dgF v≤N:=by
    rcases hi with ⟨rfl,rfl⟩|h
    ·exact hN2
    ·have:=h.dg;omega
   obtain⟨k1,-,k3⟩:=div_hf hu hHv hv0 hNu hM (by omega);have hml:=monic_len (divF u v).2;obtain⟨-,hl,-⟩:=div_ev u v hv0;rw [hv.len] at hl;obtain⟨i1,i2⟩:=comB_hf mp mq hp hq hw hH hN hN2 hM n v (monicF (divF u v).2) (by omega) (hi.next hv0) hHv (mo_mon _) hle;refine⟨?_,i2⟩;rw [k1,k3.sm (Nat.le_refl _),i1];simp
theorem com_hf {a w N H M:Nat} {p q:List Rat} (hp:HF a p) (hq:HF a q) (hN:dgF p≤N) (hN2:dgF q≤N) (hw:2*N+2≤2 ^ w) (hH:(a+w+2)*(2*N+2)≤H) (hM:H+N*(H+1)≤M):comOk M p q=true∧HF H (commonF p q):=by
 have h1:dgF (monicF p)+dgF (monicF q)+2≤2*N+2:=by rw [dg_mon,dg_mon];omega
 have h2:(a+w+2)*(dgF (monicF p)+dgF (monicF q)+2)≤(a+w+2)*(2*N+2):=Nat.mul_le_mul_left _ h1
 have ha:a≤H:=by
  have:(a+w+2)*1≤(a+w+2)*(2*N+2):=Nat.mul_le_mul_left _ (by omega)
  omega
 have hml:=monic_len q;obtain⟨k1,k2⟩:=comB_hf (mo_mon p) (mo_mon q) hp.monic hq.monic (by omega) (Nat.le_trans h2 hH) (by rw [dg_mon];exact hN) (by rw [dg_mon];exact hN2) hM (q.length+1) (monicF p) (monicF q) (by omega) (.inl ⟨rfl,rfl⟩) (hp.monic.mono ha) (mo_mon q) (by rw [dg_mon];exact hN);refine⟨?_,k2⟩;unfold comOk;rw [k1,hp.sm (by omega),hq.sm (by omega)];rfl
end Go.Proofs.YtaaoleakkaloeaaGreatDoor
