/- Division with remainder: what divided returns. The greatest common divisor: what common returns. -/
import Derived.Test.YtoefieefcndlkaaGreatDoorGYy
set_option linter.unusedVariables false
set_option maxRecDepth 100000
set_option maxHeartbeats 64000000
namespace Go.Proofs.YtoefieefcndlkaaGreatDoor
set_option linter.unusedSimpArgs false
theorem ev_shift (x:Rat) (l:List Rat):∀k:Nat,evR (List.replicate k 0 ++ l) x=evR l x*x ^ k
 | 0=>by simp
 | k+1=>by
  show evR (List.replicate k 0 ++ l) x*x+0=_
  rw [ev_shift x l k,Rat.pow_succ];grind
theorem co_shift (l:List Rat) (k i:Nat):co (List.replicate k 0 ++ l) i=if i<k then 0 else co l (i - k):=by
 unfold co;rw [List.getElem?_append,List.length_replicate]
 by_cases h:i<k
 ·rw [if_pos h,if_pos h,List.getElem?_replicate,if_pos h];rfl
 ·rw [if_neg h,if_neg h]
theorem ev_set (x:Rat):∀(l:List Rat) (k:Nat) (c:Rat),k<l.length→evR (l.set k c) x=evR l x+(c - co l k)*x ^ k
 | [],k,c,h=>by cases h
 | a :: l,0,c,_=>by
  show evR l x*x+c=evR l x*x+a+(c - a)*x ^ 0
  rw [Rat.pow_zero];grind
 | a :: l,k+1,c,h=>by
  have h1:=ev_set x l k c (by simpa using h)
  show evR (l.set k c) x*x+a=evR l x*x+a+(c - co l k)*x ^ (k+1)
  rw [h1,Rat.pow_succ];grind
theorem co_les (rest q:List Rat) {k:Nat} (hk:k+q.length=rest.length) (c:Rat) (i:Nat):co (lesL rest q k c q.length) i=co rest i+co (List.replicate k 0 ++ q) i*(-c):=by
 rw [co_shift]
 rcases Nat.lt_or_ge i rest.length with hi|hi
 ·have h:=les_get rest q k c q.length hi
  have e:co (lesL rest q k c q.length) i=if k≤i∧i<k+q.length then co rest i - c*co q (i - k) else co rest i:=by
   show ((lesL rest q k c q.length)[i]?).getD 0=_
   rw [h];rfl
  rw [e]
  by_cases h1:i<k
  ·rw [if_neg (by omega),if_pos h1];grind
  ·rw [if_pos (by omega),if_neg h1];grind
 ·rw [co_ge (by rw [les_len];exact hi),co_ge hi,if_neg (by omega),co_ge (p:=q) (by omega)];grind
theorem ev_next (rest q:List Rat) (hl:q.length≤rest.length) (x:Rat):evR (nextR rest q) x=evR rest x - topF rest / topF q*x ^ (rest.length - q.length)*evR q x:=by
 unfold nextR;rw [ev_trim,ev_co (q:=zipA rest ((List.replicate (rest.length - q.length) 0 ++ q).map (·*(-(topF rest / topF q))))) (fun i=>by rw [co_zip,co_map];exact co_les rest q (by omega) _ i),ev_zip,ev_map,ev_shift]
 grind
theorem next_len (rest q:List Rat) (hl:q.length≤rest.length) (h0:0<q.length) (ht:topF q≠0):(nextR rest q).length<rest.length:=by
 have h:dgF (lesL rest q (rest.length - q.length) (topF rest / topF q) q.length)≤rest.length - 1:=by
  refine dg_le fun i hi=>?_;rw [co_les rest q (by omega),co_shift]
  rcases Nat.lt_or_ge i rest.length with h1|h1
  ·obtain rfl:i=rest.length - 1:=by omega
   rw [if_neg (by omega),show rest.length - 1 - (rest.length - q.length)=q.length - 1 by omega]
   show topF rest+topF q*(-(topF rest / topF q))=0
   rw [Rat.div_def]
   have:=Rat.mul_inv_cancel (topF q) ht
   grind
  ·rw [co_ge h1,if_neg (by omega),co_ge (p:=q) (by omega)];grind
 have h2:(nextR rest q).length≤rest.length - 1:=h;omega
theorem divU_ev (q:List Rat) (h0:0<q.length) (ht:topF q≠0):∀(n:Nat) (quo rest:List Rat),rest.length≤n→trimF rest=rest→(q.length≤rest.length→rest.length - q.length<quo.length)→(∀i,i+q.length≤rest.length→co quo i=0)→(∀x,evR (divU n quo rest q).1 x*evR q x+evR (divU n quo rest q).2 x=evR quo x*evR q x+evR rest x)∧(divU n quo rest q).2.length<q.length∧trimF (divU n quo rest q).2=(divU n quo rest q).2
 | 0,quo,rest,hn,ht0,_,_=>⟨fun x=>rfl,by show rest.length<_;omega,ht0⟩
 | n+1,quo,rest,hn,ht0,hk,hz=>by
  show (∀x,evR (if rest.length<q.length then (quo,rest) else divU n (quo.set (rest.length - q.length) (topF rest / topF q)) (nextR rest q) q).1 x*evR q x+evR (if rest.length<q.length then (quo,rest) else divU n (quo.set (rest.length - q.length) (topF rest / topF q)) (nextR rest q) q).2 x=_)∧(if rest.length<q.length then (quo,rest) else divU n (quo.set (rest.length - q.length) (topF rest / topF q)) (nextR rest q) q).2.length<q.length∧trimF (if rest.length<q.length then (quo,rest) else divU n (quo.set (rest.length - q.length) (topF rest / topF q)) (nextR rest q) q).2=(if rest.length<q.length then (quo,rest) else divU n (quo.set (rest.length - q.length) (topF rest / topF q)) (nextR rest q) q).2
  by_cases h:rest.length<q.length
  ·rw [if_pos h];exact⟨fun x=>rfl,h,ht0⟩
  ·rw [if_neg h]
   have h1:=next_len rest q (by omega) h0 ht;have h2:=hk (by omega);obtain⟨e1,e2,e3⟩:=divU_ev q h0 ht n (quo.set (rest.length - q.length) (topF rest / topF q)) (nextR rest q) (by omega) (trim_trim _) (fun h3=>by rw [List.length_set];omega)
    (fun i hi=>by
     have h4:=hz i (by omega);unfold co at h4 ⊢;rw [List.getElem?_set_ne (by omega)];exact h4)
   refine⟨fun x=>?_,e2,e3⟩;rw [e1 x,ev_set x _ _ _ h2,ev_next rest q (by omega),hz _ (by omega)]
   grind
theorem div_ev (p q:List Rat) (hq:0<dgF q):(∀x,evR p x=evR (divF p q).1 x*evR q x+evR (divF p q).2 x)∧(divF p q).2.length<dgF q∧trimF (divF p q).2=(divF p q).2:=by
 have hne:trimF q≠[]:=fun e=>by unfold dgF at hq;rw [e] at hq;cases hq
 obtain⟨e1,e2,e3⟩:=divU_ev (trimF q) hq (top_trim_ne hne) ((trimF p).length+1) (List.replicate ((trimF p).length+1 - (trimF q).length) 0) (trimF p) (by omega) (trim_trim _)
  (fun h=>by rw [List.length_replicate];have:0<(trimF q).length:=hq;omega) (fun i _=>by
   unfold co;rw [List.getElem?_replicate]
   split <;> rfl)
 refine⟨fun x=>?_,e2,e3⟩;have h:=e1 x;rw [ev_trim q,ev_trim p] at h
 have h0:evR (List.replicate ((trimF p).length+1 - (trimF q).length) 0) x=0:=ev_zero (fun i=>by
  unfold co;rw [List.getElem?_replicate]
  split <;> rfl) x
 rw [h0] at h;unfold divF;rw [ev_trim]
 grind
theorem div_dg (p q:List Rat) (hq:0<dgF q):dgF (divF p q).2<dgF q:=by
 obtain⟨-,h1,h2⟩:=div_ev p q hq;unfold dgF at *;rw [h2];exact h1
theorem div_exact {p q:List Rat} (hq:0<dgF q) (h:Dv q p):(divF p q).2=[]∧∀x,evR p x=evR (divF p q).1 x*evR q x:=by
 obtain⟨h1,h2,h3⟩:=div_ev p q hq;have h4:Dv q (divF p q).2:=h.comb (Dv.refl q) [1] (scaleF (divF p q).1 (-1)) fun x=>by rw [ev_one,ev_scaleF,h1 x];grind
 have h5:=h4.small (div_dg p q hq)
 have h6:(divF p q).2=[]:=by
  rw [←h3];exact List.length_eq_zero_iff.1 h5
 refine⟨h6,fun x=>?_⟩;rw [h1 x,h6]
 show _+(0:Rat)=_
 grind
end Go.Proofs.YtoefieefcndlkaaGreatDoor
set_option linter.unusedVariables false
set_option maxRecDepth 100000
set_option maxHeartbeats 64000000
namespace Go.Proofs.YtoefieefcndlkaaGreatDoor
set_option linter.unusedSimpArgs false
theorem trim_ne {p:List Rat} (h:0<dgF p):trimF p≠[]:=fun e=>by unfold dgF at h;rw [e] at h;cases h
theorem trim_nil {p:List Rat} (h:dgF p=0):trimF p=[]:=List.length_eq_zero_iff.1 h
theorem mon_nil {p:List Rat} (h:dgF p=0):monicF p=[]:=by unfold monicF;rw [if_pos (trim_nil h)]
theorem mon_ev {p:List Rat} (h:0<dgF p) (x:Rat):evR (monicF p) x=evR p x*(1 / topF (trimF p)):=by
 unfold monicF;rw [if_neg (trim_ne h),ev_scaleF,ev_trim]
theorem inv_ne {c:Rat} (h:c≠0):c*(1 / c)=1:=by rw [Rat.div_def];have:=Rat.mul_inv_cancel c h;grind
theorem mon_back {p:List Rat} (h:0<dgF p) (x:Rat):evR p x=evR (monicF p) x*topF (trimF p):=by
 rw [mon_ev h]
 have:=inv_ne (top_trim_ne (trim_ne h))
 grind
theorem dg_mon (p:List Rat):dgF (monicF p)=dgF p:=by
 rcases Nat.eq_zero_or_pos (dgF p) with h|h
 ·rw [mon_nil h,h];rfl
 ·exact Nat.le_antisymm (dg_scale (mon_ev h)) (dg_scale (mon_back h))
theorem ev_const (c x:Rat):evR [c] x=c:=by show (0*x+c:Rat)=c;grind
theorem mon_dv (p:List Rat):Dv (monicF p) p∧Dv p (monicF p):=by
 rcases Nat.eq_zero_or_pos (dgF p) with h|h
 ·rw [mon_nil h]
  exact⟨⟨[],fun x=>by rw [dgz h];show (0:Rat)=0*0;grind⟩,Dv.zero p⟩
 ·exact⟨⟨[topF (trimF p)],fun x=>by rw [ev_const];exact mon_back h x⟩,⟨[1 / topF (trimF p)],fun x=>by rw [ev_const];exact mon_ev h x⟩⟩
def Mo (p:List Rat):Prop:=trimF p=p∧(p=[]∨topF p=1)
theorem top_eq {p:List Rat} (h:trimF p=p):topF p=co p (dgF p - 1):=by unfold topF dgF;rw [h]
theorem mo_mon (p:List Rat):Mo (monicF p):=by
 refine⟨trim_monic p,?_⟩
 rcases Nat.eq_zero_or_pos (dgF p) with h|h
 ·exact .inl (mon_nil h)
 ·refine .inr ?_
  rw [top_eq (trim_monic p),dg_mon]
  have e:co (monicF p) (dgF p - 1)=co (trimF p) (dgF p - 1)*(1 / topF (trimF p)):=by
   unfold monicF;rw [if_neg (trim_ne h)];unfold scaleF;rw [co_trim,co_map]
  rw [e];exact inv_ne (top_trim_ne (trim_ne h))
theorem Mo.len {p:List Rat} (h:Mo p):dgF p=p.length:=by unfold dgF;rw [h.1]
theorem ev_dg1 {u:List Rat} (h:dgF u≤1) (x:Rat):evR u x=co u 0:=by
 rw [ev_co (q:=[co u 0]) (fun i=>?_),ev_const]
 cases i with
 | zero=>rfl
 | succ i=>rw [co_succ,co_nil,dg_ge (by omega)]
theorem Mo.uniq {p q:List Rat} (hp:Mo p) (hq:Mo q) (h:Dv p q) (k:Dv q p):p=q:=by
 have e:∀ {p q:List Rat},Mo p→Mo q→Dv p q→dgF p=0→q=[]:=fun {p q} hp hq h h0=>by
  obtain⟨u,hu⟩:=h
  have:dgF q=0:=dg_of_zero fun x=>by rw [hu,dgz h0];grind
  rw [hq.len] at this;exact List.length_eq_zero_iff.1 this
 rcases Nat.eq_zero_or_pos (dgF p) with h0|h0
 ·rw [e hp hq h h0]
  rw [hp.len] at h0;exact List.length_eq_zero_iff.1 h0
 ·have hq0:=(k.dg h0).1
  have h1:=(h.dg hq0).2;have h2:=(k.dg h0).2;obtain⟨u,hu⟩:=h;have hu0:=(dg_parts hu hq0).2;have h3:=dg_mul hu h0 hu0;have hc:∀x,evR q x=evR (scaleF p (co u 0)) x:=fun x=>by rw [hu,ev_dg1 (u:=u) (by omega),ev_scaleF]
  have hd:dgF p=dgF q:=by omega
  have tp:topF p=1:=hp.2.resolve_left fun e=>by rw [e] at h0;cases h0
  have tq:topF q=1:=hq.2.resolve_left fun e=>by rw [e] at hq0;cases hq0
  have e1:topF q=topF p*co u 0:=by
   rw [top_eq hq.1,top_eq hp.1,←hd,ev_inj hc];unfold scaleF;rw [co_trim,co_map]
  rw [tp,tq] at e1;have h4:=trim_ev (p:=p) (q:=q) fun x=>by rw [hc,ev_scaleF];grind
  rw [hp.1,hq.1] at h4;exact h4
def Gc (g p q:List Rat):Prop:=Dv g p∧Dv g q∧∃s t,∀x,evR g x=evR s x*evR p x+evR t x*evR q x
theorem ev_nil (x:Rat):evR [] x=0:=rfl
theorem comU_gc:∀(n:Nat) (p q:List Rat),q.length<n→Mo p→Mo q→Gc (comU n p q) p q∧Mo (comU n p q)
 | 0,p,q,h,_,_=>by cases h
 | n+1,p,q,h,hp,hq=>by
  show Gc (if q=[] then p else comU n q (monicF (divF p q).2)) p q∧Mo (if q=[] then p else comU n q (monicF (divF p q).2))
  by_cases h0:q=[]
  ·subst h0
   rw [if_pos rfl];exact⟨⟨Dv.refl p,Dv.zero p,[1],[],fun x=>by rw [ev_one,ev_nil];grind⟩,hp⟩
  ·rw [if_neg h0]
   have hq0:0<dgF q:=by rw [hq.len];exact List.length_pos_iff.2 h0
   obtain⟨d1,d2,d3⟩:=div_ev p q hq0;have hl:=monic_len (divF p q).2;rw [hq.len] at d2;obtain⟨⟨g1,g2,s,t,g3⟩,g4⟩:=comU_gc n q (monicF (divF p q).2) (by omega) hq (mo_mon _);obtain⟨m1,c,m2⟩:=mon_dv (divF p q).2;refine⟨⟨(g1.comb (g2.trans m1) (divF p q).1 [1] fun x=>by rw [ev_one,d1 x];grind),g1,mulF t c,subF s (mulF (mulF t c) (divF p q).1),fun x=>?_⟩,g4⟩;rw [g3,m2,ev_subF,ev_mulF,ev_mulF,ev_mulF,d1 x]
   grind
theorem gcd_gc (p q:List Rat):Gc (commonF p q) p q∧Mo (commonF p q):=by
 have hl:=monic_len q;obtain⟨⟨g1,g2,s,t,g3⟩,g4⟩:=comU_gc (q.length+1) (monicF p) (monicF q) (by omega) (mo_mon p) (mo_mon q);obtain⟨m1,c,m2⟩:=mon_dv p;obtain⟨n1,d,n2⟩:=mon_dv q;refine⟨⟨g1.trans m1,g2.trans n1,mulF s c,mulF t d,fun x=>?_⟩,g4⟩
 show evR (comU _ _ _) x=_
 rw [g3,m2,n2,ev_mulF,ev_mulF]
 grind
theorem gcd_great {d p q:List Rat} (h:Dv d p) (k:Dv d q):Dv d (commonF p q):=by
 obtain⟨⟨-,-,s,t,e⟩,-⟩:=gcd_gc p q;exact h.comb k s t e
theorem gcd_is {g p q:List Rat} (h:Gc g p q) (hm:Mo g):commonF p q=g:=by
 obtain⟨⟨g1,g2,-⟩,g4⟩:=gcd_gc p q;obtain⟨h1,h2,s,t,e⟩:=h;exact g4.uniq hm (g1.comb g2 s t e) (gcd_great h1 h2)
def Cop (p q:List Rat):Prop:=∃s t,∀x,evR s x*evR p x+evR t x*evR q x=1
theorem Cop.symm {p q:List Rat} (h:Cop p q):Cop q p:=by
 obtain⟨s,t,e⟩:=h;exact⟨t,s,fun x=>by rw [←e x];grind⟩
theorem mo_one:Mo [1]:=⟨by decide,.inr rfl⟩
theorem dv_one (p:List Rat):Dv [1] p:=⟨p,fun x=>by rw [ev_one];grind⟩
theorem Cop.gcd {p q:List Rat} (h:Cop p q):commonF p q=[1]:=by
 obtain⟨s,t,e⟩:=h;exact gcd_is ⟨dv_one p,dv_one q,s,t,fun x=>by rw [ev_one,e]⟩ mo_one
theorem mo_one_of {g:List Rat} (h:Mo g) (h1:dgF g=1):g=[1]:=by
 have h2:=h.len;rw [h1] at h2
 match g,h2 with
 | [a],_=>
  have:=h.2.resolve_left (by simp)
  rw [show a=1 from this]
theorem gcd_out {p q:List Rat} (h:0<dgF (commonF p q)):∃a b,Cop a b∧(∀x,evR p x=evR (commonF p q) x*evR a x)∧∀x,evR q x=evR (commonF p q) x*evR b x:=by
 obtain⟨⟨⟨a,ha⟩,⟨b,hb⟩,s,t,e⟩,-⟩:=gcd_gc p q;refine⟨a,b,⟨s,t,fun x=>?_⟩,ha,hb⟩;have h1:=ev_cancel (p:=commonF p q) (q:=addF (mulF s a) (mulF t b)) (r:=[1]) h (fun x=>by rw [ev_addF,ev_mulF,ev_mulF,ev_one];have h2:=e x;rw [ha,hb] at h2;grind) x;rw [ev_addF,ev_mulF,ev_mulF,ev_one] at h1;exact h1
theorem Cop.dv {a b c:List Rat} (h:Cop a b) {p:List Rat} (hp:∀x,evR p x=evR b x*evR c x) (k:Dv a p):Dv a c:=by
 obtain⟨s,t,e⟩:=h
 exact(Dv.refl a).comb k (mulF s c) t fun x=>by
  rw [ev_mulF,hp]
  have:=e x
  have h2:evR c x=(evR s x*evR a x+evR t x*evR b x)*evR c x:=by rw [this];grind
  rw [h2];grind
theorem Cop.sub {a b d:List Rat} (h:Cop a b) (k:Dv d a):Cop d b:=by
 obtain⟨s,t,e⟩:=h;obtain⟨u,hu⟩:=k;exact⟨mulF s u,t,fun x=>by rw [ev_mulF,←e x,hu];grind⟩
theorem Cop.mul {a b c p:List Rat} (h:Cop a b) (k:Cop a c) (hp:∀x,evR p x=evR b x*evR c x):Cop a p:=by
 obtain⟨s,t,e⟩:=h;obtain⟨u,v,f⟩:=k;refine⟨addF (mulF s (addF (mulF u a) (mulF v c))) (mulF (mulF t b) u),mulF t v,fun x=>?_⟩;have h1:=e x;have h2:=f x;rw [ev_addF,ev_mulF,ev_mulF,ev_mulF,ev_mulF,ev_addF,ev_mulF,ev_mulF,hp];have h3:(evR s x*evR a x+evR t x*evR b x)*(evR u x*evR a x+evR v x*evR c x)=1:=by rw [h1,h2];grind
 rw [←h3]
 grind
theorem Cop.add {a b c p:List Rat} (h:Cop a b) (hp:∀x,evR p x=evR b x+evR a x*evR c x):Cop a p:=by
 obtain⟨s,t,e⟩:=h;exact⟨subF s (mulF t c),t,fun x=>by rw [ev_subF,ev_mulF,hp,←e x];grind⟩
end Go.Proofs.YtoefieefcndlkaaGreatDoor
