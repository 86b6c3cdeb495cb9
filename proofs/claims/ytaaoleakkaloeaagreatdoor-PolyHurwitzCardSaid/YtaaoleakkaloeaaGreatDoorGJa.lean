/- The greatest common divisor: what common returns. Polynomials on a bounded piece: how great values are, how fast they change. -/
import Derived.Test.YtaaoleakkaloeaaGreatDoorGYy
set_option linter.unusedVariables false
set_option maxRecDepth 100000
set_option maxHeartbeats 64000000
namespace Go.Proofs.YtaaoleakkaloeaaGreatDoor
set_option linter.unusedSimpArgs false
theorem trim_ne {p:List Rat} (h:0<dgF p):trimF p≠[]:=fun e=>by unfold dgF at h;rw [e] at h;cases h
theorem trim_nil {p:List Rat} (h:dgF p=0):trimF p=[]:=List.length_eq_zero_iff.1 h
theorem mon_nil {p:List Rat} (h:dgF p=0):monicF p=[]:=by unfold monicF;rw [if_pos (trim_nil h)]
theorem mon_ev {p:List Rat} (h:0<dgF p) (x:Rat):evR (monicF p) x=evR p x*(1 / topF (trimF p)):=by
 unfold monicF;rw [if_neg (trim_ne h),ev_scaleF,ev_trim]
theorem inv_ne {c:Rat} (h:c≠0):c*(1 / c)=1:=by rw [Rat.div_def];have:=Rat.mul_inv_cancel c h;grind
theorem mon_back {p:List Rat} (h:0<dgF p) (x:Rat):evR p x=evR (monicF p) x*topF (trimF p):=by
 rw [mon_ev h]
 have:=inv_ne (top_trim_ne (trim_ne h))
 grind
theorem dg_mon (p:List Rat):dgF (monicF p)=dgF p:=by
 rcases Nat.eq_zero_or_pos (dgF p) with h|h
 ·rw [mon_nil h,h];rfl
 ·exact Nat.le_antisymm (dg_scale (mon_ev h)) (dg_scale (mon_back h))
theorem ev_const (c x:Rat):evR [c] x=c:=by show (0*x+c:Rat)=c;grind
theorem mon_dv (p:List Rat):Dv (monicF p) p∧Dv p (monicF p):=by
 rcases Nat.eq_zero_or_pos (dgF p) with h|h
 ·rw [mon_nil h]
  exact⟨⟨[],fun x=>by rw [dgz h];show (0:Rat)=0*0;grind⟩,Dv.zero p⟩
 ·exact⟨⟨[topF (trimF p)],fun x=>by rw [ev_const];exact mon_back h x⟩,⟨[1 / topF (trimF p)],fun x=>by rw [ev_const];exact mon_ev h x⟩⟩
def Mo (p:List Rat):Prop:=trimF p=p∧(p=[]∨topF p=1)
theorem top_eq {p:List Rat} (h:trimF p=p):topF p=co p (dgF p - 1):=by unfold topF dgF;rw [h]
theorem mo_mon (p:List Rat):Mo (monicF p):=by
 refine⟨trim_monic p,?_⟩
 rcases Nat.eq_zero_or_pos (dgF p) with h|h
 ·exact .inl (mon_nil h)
 ·refine .inr ?_
  rw [top_eq (trim_monic p),dg_mon]
  have e:co (monicF p) (dgF p - 1)=co (trimF p) (dgF p - 1)*(1 / topF (trimF p)):=by
   unfold monicF;rw [if_neg (trim_ne h)];unfold scaleF;rw [co_trim,co_map]
  rw [e];exact inv_ne (top_trim_ne (trim_ne h))
theorem Mo.len {p:List Rat} (h:Mo p):dgF p=p.length:=by unfold dgF;rw [h.1]
theorem ev_dg1 {u:List Rat} (h:dgF u≤1) (x:Rat):evR u x=co u 0:=by
 rw [ev_co (q:=[co u 0]) (fun i=>?_),ev_const]
 cases i with
 | zero=>rfl
 | succ i=>rw [co_succ,co_nil,dg_ge (by omega)]
theorem Mo.uniq {p q:List Rat} (hp:Mo p) (hq:Mo q) (h:Dv p q) (k:Dv q p):p=q:=by
 have e:∀ {p q:List Rat},Mo p→Mo q→Dv p q→dgF p=0→q=[]:=fun {p q} hp hq h h0=>by
  obtain⟨u,hu⟩:=h
  have:dgF q=0:=dg_of_zero fun x=>by rw [hu,dgz h0];grind
  rw [hq.len] at this;exact List.length_eq_zero_iff.1 this
 rcases Nat.eq_zero_or_pos (dgF p) with h0|h0
 ·rw [e hp hq h h0]
  rw [hp.len] at h0;exact List.length_eq_zero_iff.1 h0
 ·have hq0:=(k.dg h0).1
  have h1:=(h.dg hq0).2;have h2:=(k.dg h0).2;obtain⟨u,hu⟩:=h;have hu0:=(dg_parts hu hq0).2;have h3:=dg_mul hu h0 hu0;have hc:∀x,evR q x=evR (scaleF p (co u 0)) x:=fun x=>by rw [hu,ev_dg1 (u:=u) (by omega),ev_scaleF]
  have hd:dgF p=dgF q:=by omega
  have tp:topF p=1:=hp.2.resolve_left fun e=>by rw [e] at h0;cases h0
  have tq:topF q=1:=hq.2.resolve_left fun e=>by rw [e] at hq0;cases hq0
  have e1:topF q=topF p*co u 0:=by
   rw [top_eq hq.1,top_eq hp.1,←hd,ev_inj hc];unfold scaleF;rw [co_trim,co_map]
  rw [tp,tq] at e1;have h4:=trim_ev (p:=p) (q:=q) fun x=>by rw [hc,ev_scaleF];grind
  rw [hp.1,hq.1] at h4;exact h4
def Gc (g p q:List Rat):Prop:=Dv g p∧Dv g q∧∃s t,∀x,evR g x=evR s x*evR p x+evR t x*evR q x
theorem ev_nil (x:Rat):evR [] x=0:=rfl
theorem comU_gc:∀(n:Nat) (p q:List Rat),q.length<n→Mo p→Mo q→Gc (comU n p q) p q∧Mo (comU n p q)
 | 0,p,q,h,_,_=>by cases h
 | n+1,p,q,h,hp,hq=>by
  show Gc (if q=[] then p else comU n q (monicF (divF p q).2)) p q∧Mo (if q=[] then p else comU n q (monicF (divF p q).2))
  by_cases h0:q=[]
  ·subst h0
   rw [if_pos rfl];exact⟨⟨Dv.refl p,Dv.zero p,[1],[],fun x=>by rw [ev_one,ev_nil];grind⟩,hp⟩
  ·rw [if_neg h0]
   have hq0:0<dgF q:=by rw [hq.len];exact List.length_pos_iff.2 h0
   obtain⟨d1,d2,d3⟩:=div_ev p q hq0;have hl:=monic_len (divF p q).2;rw [hq.len] at d2;obtain⟨⟨g1,g2,s,t,g3⟩,g4⟩:=comU_gc n q (monicF (divF p q).2) (by omega) hq (mo_mon _);obtain⟨m1,c,m2⟩:=mon_dv (divF p q).2;refine⟨⟨(g1.comb (g2.trans m1) (divF p q).1 [1] fun x=>by rw [ev_one,d1 x];grind),g1,mulF t c,subF s (mulF (mulF t c) (divF p q).1),fun x=>?_⟩,g4⟩;rw [g3,m2,ev_subF,ev_mulF,ev_mulF,ev_mulF,d1 x]
   grind
theorem gcd_gc (p q:List Rat):Gc (commonF p q) p q∧Mo (commonF p q):=by
 have hl:=monic_len q;obtain⟨⟨g1,g2,s,t,g3⟩,g4⟩:=comU_gc (q.length+1) (monicF p) (monicF q) (by omega) (mo_mon p) (mo_mon q);obtain⟨m1,c,m2⟩:=mon_dv p;obtain⟨n1,d,n2⟩:=mon_dv q;refine⟨⟨g1.trans m1,g2.trans n1,mulF s c,mulF t d,fun x=>?_⟩,g4⟩
 show evR (comU _ _ _) x=_
 rw [g3,m2,n2,ev_mulF,ev_mulF]
 grind
theorem gcd_great {d p q:List Rat} (h:Dv d p) (k:Dv d q):Dv d (commonF p q):=by
 obtain⟨⟨-,-,s,t,e⟩,-⟩:=gcd_gc p q;exact h.comb k s t e
theorem gcd_is {g p q:List Rat} (h:Gc g p q) (hm:Mo g):commonF p q=g:=by
 obtain⟨⟨g1,g2,-⟩,g4⟩:=gcd_gc p q;obtain⟨h1,h2,s,t,e⟩:=h;exact g4.uniq hm (g1.comb g2 s t e) (gcd_great h1 h2)
def Cop (p q:List Rat):Prop:=∃s t,∀x,evR s x*evR p x+evR t x*evR q x=1
theorem Cop.symm {p q:List Rat} (h:Cop p q):Cop q p:=by
 obtain⟨s,t,e⟩:=h;exact⟨t,s,fun x=>by rw [←e x];grind⟩
theorem mo_one:Mo [1]:=⟨by decide,.inr rfl⟩
theorem dv_one (p:List Rat):Dv [1] p:=⟨p,fun x=>by rw [ev_one];grind⟩
theorem Cop.gcd {p q:List Rat} (h:Cop p q):commonF p q=[1]:=by
 obtain⟨s,t,e⟩:=h;exact gcd_is ⟨dv_one p,dv_one q,s,t,fun x=>by rw [ev_one,e]⟩ mo_one
theorem cop_of_gcd {p q:List Rat} (h:commonF p q=[1]):Cop p q:=by
 obtain⟨⟨-,-,s,t,e⟩,-⟩:=gcd_gc p q;exact⟨s,t,fun x=>by rw [←e x,h,ev_one]⟩
theorem mo_one_of {g:List Rat} (h:Mo g) (h1:dgF g=1):g=[1]:=by
 have h2:=h.len;rw [h1] at h2
 match g,h2 with
 | [a],_=>
  have:=h.2.resolve_left (by simp)
  rw [show a=1 from this]
theorem Cop.dv {a b c:List Rat} (h:Cop a b) {p:List Rat} (hp:∀x,evR p x=evR b x*evR c x) (k:Dv a p):Dv a c:=by
 obtain⟨s,t,e⟩:=h
 exact(Dv.refl a).comb k (mulF s c) t fun x=>by
  rw [ev_mulF,hp]
  have:=e x
  have h2:evR c x=(evR s x*evR a x+evR t x*evR b x)*evR c x:=by rw [this];grind
  rw [h2];grind
theorem Cop.sub {a b d:List Rat} (h:Cop a b) (k:Dv d a):Cop d b:=by
 obtain⟨s,t,e⟩:=h;obtain⟨u,hu⟩:=k;exact⟨mulF s u,t,fun x=>by rw [ev_mulF,←e x,hu];grind⟩
theorem Cop.mul {a b c p:List Rat} (h:Cop a b) (k:Cop a c) (hp:∀x,evR p x=evR b x*evR c x):Cop a p:=by
 obtain⟨s,t,e⟩:=h;obtain⟨u,v,f⟩:=k;refine⟨addF (mulF s (addF (mulF u a) (mulF v c))) (mulF (mulF t b) u),mulF t v,fun x=>?_⟩;have h1:=e x;have h2:=f x;rw [ev_addF,ev_mulF,ev_mulF,ev_mulF,ev_mulF,ev_addF,ev_mulF,ev_mulF,hp];have h3:(evR s x*evR a x+evR t x*evR b x)*(evR u x*evR a x+evR v x*evR c x)=1:=by rw [h1,h2];grind
 rw [←h3]
 grind
theorem Cop.add {a b c p:List Rat} (h:Cop a b) (hp:∀x,evR p x=evR b x+evR a x*evR c x):Cop a p:=by
 obtain⟨s,t,e⟩:=h;exact⟨subF s (mulF t c),t,fun x=>by rw [ev_subF,ev_mulF,hp,←e x];grind⟩
end Go.Proofs.YtaaoleakkaloeaaGreatDoor
set_option linter.unusedVariables false
set_option maxRecDepth 100000
set_option maxHeartbeats 64000000
namespace Go.Proofs.YtaaoleakkaloeaaGreatDoor
set_option linter.unusedSimpArgs false
def Ab (K x:Rat):Prop:=-K≤x∧x≤K
theorem Ab.mono {K L x:Rat} (h:Ab K x) (k:K≤L):Ab L x:=by have h1:=h.1;have h2:=h.2;constructor <;> grind
theorem Ab.add {K L x y:Rat} (h:Ab K x) (k:Ab L y):Ab (K+L) (x+y):=by
 have h1:=h.1;have h2:=h.2;have k1:=k.1;have k2:=k.2
 constructor <;> grind
theorem Ab.sub {K L x y:Rat} (h:Ab K x) (k:Ab L y):Ab (K+L) (x - y):=by
 have h1:=h.1;have h2:=h.2;have k1:=k.1;have k2:=k.2
 constructor <;> grind
theorem Ab.mul {K L x y:Rat} (h:Ab K x) (k:Ab L y):Ab (K*L) (x*y):=by
 have a1:0≤K - x:=by have:=h.2;grind
 have a2:0≤K+x:=by have:=h.1;grind
 have b1:0≤L - y:=by have:=k.2;grind
 have b2:0≤L+y:=by have:=k.1;grind
 have m1:=Rat.mul_nonneg a1 b1;have m2:=Rat.mul_nonneg a1 b2;have m3:=Rat.mul_nonneg a2 b1;have m4:=Rat.mul_nonneg a2 b2
 constructor <;> grind
theorem ab_ex (x:Rat):∃K,0≤K∧Ab K x:=by
 rcases Rat.le_total (a:=0) (b:=x) with h|h
 ·exact⟨x,h,by constructor <;> grind⟩
 ·exact⟨-x,by grind,by constructor <;> grind⟩
theorem ab_max {K L:Rat}:∃M,K≤M∧L≤M:=by
 rcases Rat.le_total (a:=K) (b:=L) with h|h
 ·exact⟨L,h,Rat.le_refl⟩
 ·exact⟨K,Rat.le_refl,h⟩
theorem ev_ab {B:Rat} (hB:0≤B):∀p:List Rat,∃K,0≤K∧∀x,Ab B x→Ab K (evR p x)
 | []=>⟨0,Rat.le_refl,fun x _=>⟨by show -(0:Rat)≤0;grind,Rat.le_refl⟩⟩
 | a :: t=>by
  obtain⟨K,h0,h⟩:=ev_ab hB t;obtain⟨A,hA0,hA⟩:=ab_ex a;refine⟨K*B+A,?_,fun x hx=>?_⟩
  ·have:=Rat.mul_nonneg h0 hB
   grind
  ·show Ab _ (evR t x*x+a)
   exact((h x hx).mul hx).add hA
theorem syn_ab {B:Rat} (hB:0≤B):∀p:List Rat,∃K,0≤K∧∀s x,Ab B s→Ab B x→Ab K (evR (syn s p) x)
 | []=>⟨0,Rat.le_refl,fun s x _ _=>⟨by show -(0:Rat)≤0;grind,Rat.le_refl⟩⟩
 | [a]=>⟨0,Rat.le_refl,fun s x _ _=>⟨by show -(0:Rat)≤0;grind,Rat.le_refl⟩⟩
 | a :: b :: t=>by
  obtain⟨K,h0,h⟩:=syn_ab hB (b :: t);obtain⟨L,l0,l⟩:=ev_ab hB (b :: t);refine⟨K*B+L,?_,fun s x hs hx=>?_⟩
  ·have:=Rat.mul_nonneg h0 hB
   grind
  ·show Ab _ (evR (syn s (b :: t)) x*x+evR (b :: t) s)
   exact((h s x hs hx).mul hx).add (l s hs)
theorem syn2_ab {B:Rat} (hB:0≤B):∀p:List Rat,∃K,0≤K∧∀s x,Ab B s→Ab B x→Ab K (evR (syn s (syn s p)) x)
 | []=>⟨0,Rat.le_refl,fun s x _ _=>⟨by show -(0:Rat)≤0;grind,Rat.le_refl⟩⟩
 | [a]=>⟨0,Rat.le_refl,fun s x _ _=>⟨by show -(0:Rat)≤0;grind,Rat.le_refl⟩⟩
 | [a,b]=>⟨0,Rat.le_refl,fun s x _ _=>⟨by show -(0:Rat)≤0;grind,Rat.le_refl⟩⟩
 | a :: b :: c :: t=>by
  obtain⟨K,h0,h⟩:=syn2_ab hB (b :: c :: t);obtain⟨L,l0,l⟩:=syn_ab hB (b :: c :: t);refine⟨K*B+L,?_,fun s x hs hx=>?_⟩
  ·have:=Rat.mul_nonneg h0 hB
   grind
  ·show Ab _ (evR (syn s (syn s (b :: c :: t))) x*x+evR (syn s (b :: c :: t)) s)
   exact((h s x hs hx).mul hx).add (l s s hs hs)
theorem ev_deriv (x:Rat):∀p:List Rat,evR (derivF p) x=evR (syn x p) x
 | []=>dgz (by rw [dg_deriv];rfl) x
 | [a]=>dgz (by rw [dg_deriv];have:=dg_len [a];simp at this;omega) x
 | a :: b :: t=>by
  have h:=ev_deriv x (b :: t)
  have e:∀y,evR (a :: b :: t) y=evR (addF (mulF (b :: t) [0,1]) [a]) y:=fun y=>by
   rw [ev_addF,ev_mulF,ev_const]
   show evR (b :: t) y*y+a=evR (b :: t) y*((0*y+1)*y+0)+a
   grind
  have e2:evR (derivF (a :: b :: t)) x=evR (derivF (b :: t)) x*x+evR (b :: t) x:=by
   have hd:∀y,evR (derivF (addF (mulF (b :: t) [0,1]) [a])) y=evR (derivF (mulF (b :: t) [0,1])) y+evR (derivF [a]) y:=fun y=>by
    rw [←ev_addF];refine ev_co (fun i=>?_) y;have f1:co (derivF (addF (mulF (b :: t) [0,1]) [a])) i=co (addF (mulF (b :: t) [0,1]) [a]) (i+1)*((i+1:Nat):Rat):=by rw [co_deriv];rfl
    have f2:co (derivF (mulF (b :: t) [0,1])) i=co (mulF (b :: t) [0,1]) (i+1)*((i+1:Nat):Rat):=by rw [co_deriv];rfl
    have f3:co (derivF [a]) i=co [a] (i+1)*((i+1:Nat):Rat):=by rw [co_deriv];rfl
    have f4:co (addF (mulF (b :: t) [0,1]) [a]) (i+1)=co (mulF (b :: t) [0,1]) (i+1)+co [a] (i+1):=by rw [co_addF]
    have f5:co (addF (derivF (mulF (b :: t) [0,1])) (derivF [a])) i=co (derivF (mulF (b :: t) [0,1])) i+co (derivF [a]) i:=by rw [co_addF]
    rw [f1,f4,f5,f2,f3];grind
   rw [deriv_ev e,hd,deriv_prod (p:=b :: t) (q:=[0,1]) (fun y=>ev_mulF _ _ y)];have z:evR (derivF [a]) x=0:=dgz (by rw [dg_deriv];have:=dg_len [a];simp at this;omega) x
   have z2:evR (derivF [0,1]) x=1:=by
    have:derivF [0,1]=[1]:=by decide +kernel
    rw [this,ev_const]
   rw [z,z2]
   show evR (derivF (b :: t)) x*((0*x+1)*x+0)+evR (b :: t) x*1+0=_
   grind
  rw [e2,h]
  show _=evR (syn x (b :: t)) x*x+evR (b :: t) x
  rfl
theorem taylor (x y:Rat) (p:List Rat):evR p y=evR p x+(y - x)*(evR (derivF p) x+(y - x)*evR (syn x (syn x p)) y):=by
 rw [ev_syn x y p,ev_syn x y (syn x p),ev_deriv]
def Fx (s:Rat) (p:List Rat) (a b:Rat):Prop:=∀x,a≤x→x≤b→0<s*evR p x
theorem Fx.sub {s:Rat} {p:List Rat} {a b c d:Rat} (h:Fx s p a b) (h1:a≤c) (h2:d≤b):Fx s p c d:=fun x k1 k2=>h x (Rat.le_trans h1 k1) (Rat.le_trans k2 h2)
theorem fix_near {B K e d:Rat} {p:List Rat} (hK:∀s x,Ab B s→Ab B x→Ab K (evR (syn s p) x)) (hd:d*K<e) {a b:Rat} (ha:Ab B a) (hb:Ab B b) (hab:a≤b) (hba:b - a≤d) {s:Rat} (hs:s=1∨s = -1) (hp:e≤s*evR p a):Fx s p a b:=fun x h1 h2=>by
 have hx:Ab B x:=by
  have q1:=ha.1;have q2:=hb.2
  constructor <;> grind
 have h3:=hK a x ha hx;have h4:Ab d (x - a):=by constructor <;> grind
 have h5:=h4.mul h3;have h6:=ev_syn a x p;have q1:=h5.1;have q2:=h5.2
 rcases hs with rfl|rfl
 ·grind
 ·grind
end Go.Proofs.YtaaoleakkaloeaaGreatDoor
