/- The greatest common divisor: what common returns. -/
import Derived.Test.YtkoaakefgacokaaGreatDoorGYy
import Derived.Test.YtkoaakefgacokaaGreatDoorGWh
set_option linter.unusedVariables false
set_option linter.unusedSimpArgs false
set_option maxRecDepth 100000
set_option maxHeartbeats 64000000
namespace Go.Proofs.YtkoaakefgacokaaGreatDoor
theorem trim_ne {p:List Rat} (h:0<dgF p):trimF p≠[]:=fun e=>by unfold dgF at h;rw [e] at h;cases h
theorem trim_nil {p:List Rat} (h:dgF p=0):trimF p=[]:=List.length_eq_zero_iff.1 h
theorem mon_nil {p:List Rat} (h:dgF p=0):monicF p=[]:=by unfold monicF;rw [if_pos (trim_nil h)]
theorem mon_ev {p:List Rat} (h:0<dgF p) (x:Rat):evR (monicF p) x=evR p x*(1 / topF (trimF p)):=by
 unfold monicF;rw [if_neg (trim_ne h),ev_scaleF,ev_trim]
theorem inv_ne {c:Rat} (h:c≠0):c*(1 / c)=1:=by rw [Rat.div_def];have:=Rat.mul_inv_cancel c h;grind
theorem mon_back {p:List Rat} (h:0<dgF p) (x:Rat):evR p x=evR (monicF p) x*topF (trimF p):=by
 rw [mon_ev h]
 have:=inv_ne (top_trim_ne (trim_ne h))
 grind
theorem dg_mon (p:List Rat):dgF (monicF p)=dgF p:=by
 rcases Nat.eq_zero_or_pos (dgF p) with h|h
 ·rw [mon_nil h,h];rfl
 ·exact Nat.le_antisymm (dg_scale (mon_ev h)) (dg_scale (mon_back h))
theorem ev_const (c x:Rat):evR [c] x=c:=by show (0*x+c:Rat)=c;grind
theorem mon_dv (p:List Rat):Dv (monicF p) p∧Dv p (monicF p):=by
 rcases Nat.eq_zero_or_pos (dgF p) with h|h
 ·rw [mon_nil h]
  exact⟨⟨[],fun x=>by rw [dgz h];show (0:Rat)=0*0;grind⟩,Dv.zero p⟩
 ·exact⟨⟨[topF (trimF p)],fun x=>by rw [ev_const];exact mon_back h x⟩,⟨[1 / topF (trimF p)],fun x=>by rw [ev_const];exact mon_ev h x⟩⟩
def Mo (p:List Rat):Prop:=trimF p=p∧(p=[]∨topF p=1)
theorem top_eq {p:List Rat} (h:trimF p=p):topF p=co p (dgF p - 1):=by unfold topF dgF;rw [h]
theorem mo_mon (p:List Rat):Mo (monicF p):=by
 refine⟨trim_monic p,?_⟩
 rcases Nat.eq_zero_or_pos (dgF p) with h|h
 ·exact .inl (mon_nil h)
 ·refine .inr ?_
  rw [top_eq (trim_monic p),dg_mon]
  have e:co (monicF p) (dgF p - 1)=co (trimF p) (dgF p - 1)*(1 / topF (trimF p)):=by
   unfold monicF;rw [if_neg (trim_ne h)];unfold scaleF;rw [co_trim,co_map]
  rw [e];exact inv_ne (top_trim_ne (trim_ne h))
theorem Mo.len {p:List Rat} (h:Mo p):dgF p=p.length:=by unfold dgF;rw [h.1]
theorem ev_dg1 {u:List Rat} (h:dgF u≤1) (x:Rat):evR u x=co u 0:=by
 rw [ev_co (q:=[co u 0]) (fun i=>?_),ev_const]
 cases i with
 | zero=>rfl
 | succ i=>rw [co_succ,co_nil,dg_ge (by omega)]
theorem Mo.uniq {p q:List Rat} (hp:Mo p) (hq:Mo q) (h:Dv p q) (k:Dv q p):p=q:=by
 have e:∀ {p q:List Rat},Mo p→Mo q→Dv p q→dgF p=0→q=[]:=fun {p q} hp hq h h0=>by
  obtain⟨u,hu⟩:=h
  have:dgF q=0:=dg_of_zero fun x=>by rw [hu,dgz h0];grind
  rw [hq.len] at this;exact List.length_eq_zero_iff.1 this
 rcases Nat.eq_zero_or_pos (dgF p) with h0|h0
 ·rw [e hp hq h h0]
  rw [hp.len] at h0;exact List.length_eq_zero_iff.1 h0
 ·have hq0:=(k.dg h0).1
  have h1:=(h.dg hq0).2;have h2:=(k.dg h0).2;obtain⟨u,hu⟩:=h;have hu0:=(dg_parts hu hq0).2;have h3:=dg_mul hu h0 hu0;have hc:∀x,evR q x=evR (scaleF p (co u 0)) x:=fun x=>by rw [hu,ev_dg1 (u:=u) (by omega),ev_scaleF]
  have hd:dgF p=dgF q:=by omega
  have tp:topF p=1:=hp.2.resolve_left fun e=>by rw [e] at h0;cases h0
  have tq:topF q=1:=hq.2.resolve_left fun e=>by rw [e] at hq0;cases hq0
  have e1:topF q=topF p*co u 0:=by
   rw [top_eq hq.1,top_eq hp.1,←hd,ev_inj hc];unfold scaleF;rw [co_trim,co_map]
  rw [tp,tq] at e1;have h4:=trim_ev (p:=p) (q:=q) fun x=>by rw [hc,ev_scaleF];grind
  rw [hp.1,hq.1] at h4;exact h4
def Gc (g p q:List Rat):Prop:=Dv g p∧Dv g q∧∃s t,∀x,evR g x=evR s x*evR p x+evR t x*evR q x
theorem ev_nil (x:Rat):evR [] x=0:=rfl
theorem comU_gc:∀(n:Nat) (p q:List Rat),q.length<n→Mo p→Mo q→Gc (comU n p q) p q∧Mo (comU n p q)
 | 0,p,q,h,_,_=>by cases h
 | n+1,p,q,h,hp,hq=>by
  show Gc (if q=[] then p else comU n q (monicF (divF p q).2)) p q∧Mo (if q=[] then p else comU n q (monicF (divF p q).2))
  by_cases h0:q=[]
  ·subst h0
   rw [if_pos rfl];exact⟨⟨Dv.refl p,Dv.zero p,[1],[],fun x=>by rw [ev_one,ev_nil];grind⟩,hp⟩
  ·rw [if_neg h0]
   have hq0:0<dgF q:=by rw [hq.len];exact List.length_pos_iff.2 h0
   obtain⟨d1,d2,d3⟩:=div_ev p q hq0;have hl:=monic_len (divF p q).2;rw [hq.len] at d2;obtain⟨⟨g1,g2,s,t,g3⟩,g4⟩:=comU_gc n q (monicF (divF p q).2) (by omega) hq (mo_mon _);obtain⟨m1,c,m2⟩:=mon_dv (divF p q).2;refine⟨⟨(g1.comb (g2.trans m1) (divF p q).1 [1] fun x=>by rw [ev_one,d1 x];grind),g1,mulF t c,subF s (mulF (mulF t c) (divF p q).1),fun x=>?_⟩,g4⟩;rw [g3,m2,ev_subF,ev_mulF,ev_mulF,ev_mulF,d1 x]
   grind
theorem gcd_gc (p q:List Rat):Gc (commonF p q) p q∧Mo (commonF p q):=by
 have hl:=monic_len q;obtain⟨⟨g1,g2,s,t,g3⟩,g4⟩:=comU_gc (q.length+1) (monicF p) (monicF q) (by omega) (mo_mon p) (mo_mon q);obtain⟨m1,c,m2⟩:=mon_dv p;obtain⟨n1,d,n2⟩:=mon_dv q;refine⟨⟨g1.trans m1,g2.trans n1,mulF s c,mulF t d,fun x=>?_⟩,g4⟩
 show evR (comU _ _ _) x=_
 rw [g3,m2,n2,ev_mulF,ev_mulF]
 grind
theorem gcd_great {d p q:List Rat} (h:Dv d p) (k:Dv d q):Dv d (commonF p q):=by
 obtain⟨⟨-,-,s,t,e⟩,-⟩:=gcd_gc p q;exact h.comb k s t e
theorem gcd_is {g p q:List Rat} (h:Gc g p q) (hm:Mo g):commonF p q=g:=by
 obtain⟨⟨g1,g2,-⟩,g4⟩:=gcd_gc p q;obtain⟨h1,h2,s,t,e⟩:=h;exact g4.uniq hm (g1.comb g2 s t e) (gcd_great h1 h2)
def Cop (p q:List Rat):Prop:=∃s t,∀x,evR s x*evR p x+evR t x*evR q x=1
theorem Cop.symm {p q:List Rat} (h:Cop p q):Cop q p:=by
 obtain⟨s,t,e⟩:=h;exact⟨t,s,fun x=>by rw [←e x];grind⟩
theorem mo_one:Mo [1]:=⟨by decide,.inr rfl⟩
theorem dv_one (p:List Rat):Dv [1] p:=⟨p,fun x=>by rw [ev_one];grind⟩
theorem Cop.gcd {p q:List Rat} (h:Cop p q):commonF p q=[1]:=by
 obtain⟨s,t,e⟩:=h;exact gcd_is ⟨dv_one p,dv_one q,s,t,fun x=>by rw [ev_one,e]⟩ mo_one
theorem cop_of_gcd {p q:List Rat} (h:commonF p q=[1]):Cop p q:=by
 obtain⟨⟨-,-,s,t,e⟩,-⟩:=gcd_gc p q;exact⟨s,t,fun x=>by rw [←e x,h,ev_one]⟩
theorem mo_one_of {g:List Rat} (h:Mo g) (h1:dgF g=1):g=[1]:=by
 have h2:=h.len;rw [h1] at h2
 match g,h2 with
 | [a],_=>
  have:=h.2.resolve_left (by simp)
  rw [show a=1 from this]
theorem gcd_out {p q:List Rat} (h:0<dgF (commonF p q)):∃a b,Cop a b∧(∀x,evR p x=evR (commonF p q) x*evR a x)∧∀x,evR q x=evR (commonF p q) x*evR b x:=by
 obtain⟨⟨⟨a,ha⟩,⟨b,hb⟩,s,t,e⟩,-⟩:=gcd_gc p q;refine⟨a,b,⟨s,t,fun x=>?_⟩,ha,hb⟩;have h1:=ev_cancel (p:=commonF p q) (q:=addF (mulF s a) (mulF t b)) (r:=[1]) h (fun x=>by rw [ev_addF,ev_mulF,ev_mulF,ev_one];have h2:=e x;rw [ha,hb] at h2;grind) x;rw [ev_addF,ev_mulF,ev_mulF,ev_one] at h1;exact h1
theorem Cop.dv {a b c:List Rat} (h:Cop a b) {p:List Rat} (hp:∀x,evR p x=evR b x*evR c x) (k:Dv a p):Dv a c:=by
 obtain⟨s,t,e⟩:=h
 exact(Dv.refl a).comb k (mulF s c) t fun x=>by
  rw [ev_mulF,hp]
  have:=e x
  have h2:evR c x=(evR s x*evR a x+evR t x*evR b x)*evR c x:=by rw [this];grind
  rw [h2];grind
theorem Cop.sub {a b d:List Rat} (h:Cop a b) (k:Dv d a):Cop d b:=by
 obtain⟨s,t,e⟩:=h;obtain⟨u,hu⟩:=k;exact⟨mulF s u,t,fun x=>by rw [ev_mulF,←e x,hu];grind⟩
theorem Cop.mul {a b c p:List Rat} (h:Cop a b) (k:Cop a c) (hp:∀x,evR p x=evR b x*evR c x):Cop a p:=by
 obtain⟨s,t,e⟩:=h;obtain⟨u,v,f⟩:=k;refine⟨addF (mulF s (addF (mulF u a) (mulF v c))) (mulF (mulF t b) u),mulF t v,fun x=>?_⟩;have h1:=e x;have h2:=f x;rw [ev_addF,ev_mulF,ev_mulF,ev_mulF,ev_mulF,ev_addF,ev_mulF,ev_mulF,hp];have h3:(evR s x*evR a x+evR t x*evR b x)*(evR u x*evR a x+evR v x*evR c x)=1:=by rw [h1,h2];grind
 rw [←h3]
 grind
theorem Cop.add {a b c p:List Rat} (h:Cop a b) (hp:∀x,evR p x=evR b x+evR a x*evR c x):Cop a p:=by
 obtain⟨s,t,e⟩:=h;exact⟨subF s (mulF t c),t,fun x=>by rw [ev_subF,ev_mulF,hp,←e x];grind⟩
def Ab (K x:Rat):Prop:=-K≤x∧x≤K
theorem Ab.nonneg {K x:Rat} (h:Ab K x):0≤K:=by have h1:=h.1;have h2:=h.2;grind
theorem Ab.mono {K L x:Rat} (h:Ab K x) (k:K≤L):Ab L x:=by have h1:=h.1;have h2:=h.2;constructor <;> grind
theorem Ab.add {K L x y:Rat} (h:Ab K x) (k:Ab L y):Ab (K+L) (x+y):=by
 have h1:=h.1;have h2:=h.2;have k1:=k.1;have k2:=k.2
 constructor <;> grind
theorem Ab.sub {K L x y:Rat} (h:Ab K x) (k:Ab L y):Ab (K+L) (x - y):=by
 have h1:=h.1;have h2:=h.2;have k1:=k.1;have k2:=k.2
 constructor <;> grind
theorem Ab.mul {K L x y:Rat} (h:Ab K x) (k:Ab L y):Ab (K*L) (x*y):=by
 have a1:0≤K - x:=by have:=h.2;grind
 have a2:0≤K+x:=by have:=h.1;grind
 have b1:0≤L - y:=by have:=k.2;grind
 have b2:0≤L+y:=by have:=k.1;grind
 have m1:=Rat.mul_nonneg a1 b1;have m2:=Rat.mul_nonneg a1 b2;have m3:=Rat.mul_nonneg a2 b1;have m4:=Rat.mul_nonneg a2 b2
 constructor <;> grind
theorem ab_ex (x:Rat):∃K,0≤K∧Ab K x:=by
 rcases Rat.le_total (a:=0) (b:=x) with h|h
 ·exact⟨x,h,by constructor <;> grind⟩
 ·exact⟨-x,by grind,by constructor <;> grind⟩
theorem ab_max {K L:Rat}:∃M,K≤M∧L≤M:=by
 rcases Rat.le_total (a:=K) (b:=L) with h|h
 ·exact⟨L,h,Rat.le_refl⟩
 ·exact⟨K,Rat.le_refl,h⟩
theorem ev_ab {B:Rat} (hB:0≤B):∀p:List Rat,∃K,0≤K∧∀x,Ab B x→Ab K (evR p x)
 | []=>⟨0,Rat.le_refl,fun x _=>⟨by show -(0:Rat)≤0;grind,Rat.le_refl⟩⟩
 | a :: t=>by
  obtain⟨K,h0,h⟩:=ev_ab hB t;obtain⟨A,hA0,hA⟩:=ab_ex a;refine⟨K*B+A,?_,fun x hx=>?_⟩
  ·have:=Rat.mul_nonneg h0 hB
   grind
  ·show Ab _ (evR t x*x+a)
   exact((h x hx).mul hx).add hA
theorem syn_ab {B:Rat} (hB:0≤B):∀p:List Rat,∃K,0≤K∧∀s x,Ab B s→Ab B x→Ab K (evR (syn s p) x)
 | []=>⟨0,Rat.le_refl,fun s x _ _=>⟨by show -(0:Rat)≤0;grind,Rat.le_refl⟩⟩
 | [a]=>⟨0,Rat.le_refl,fun s x _ _=>⟨by show -(0:Rat)≤0;grind,Rat.le_refl⟩⟩
 | a :: b :: t=>by
  obtain⟨K,h0,h⟩:=syn_ab hB (b :: t);obtain⟨L,l0,l⟩:=ev_ab hB (b :: t);refine⟨K*B+L,?_,fun s x hs hx=>?_⟩
  ·have:=Rat.mul_nonneg h0 hB
   grind
  ·show Ab _ (evR (syn s (b :: t)) x*x+evR (b :: t) s)
   exact((h s x hs hx).mul hx).add (l s hs)
theorem syn2_ab {B:Rat} (hB:0≤B):∀p:List Rat,∃K,0≤K∧∀s x,Ab B s→Ab B x→Ab K (evR (syn s (syn s p)) x)
 | []=>⟨0,Rat.le_refl,fun s x _ _=>⟨by show -(0:Rat)≤0;grind,Rat.le_refl⟩⟩
 | [a]=>⟨0,Rat.le_refl,fun s x _ _=>⟨by show -(0:Rat)≤0;grind,Rat.le_refl⟩⟩
 | [a,b]=>⟨0,Rat.le_refl,fun s x _ _=>⟨by show -(0:Rat)≤0;grind,Rat.le_refl⟩⟩
 | a :: b :: c :: t=>by
  obtain⟨K,h0,h⟩:=syn2_ab hB (b :: c :: t);obtain⟨L,l0,l⟩:=syn_ab hB (b :: c :: t);refine⟨K*B+L,?_,fun s x hs hx=>?_⟩
  ·have:=Rat.mul_nonneg h0 hB
   grind
  ·show Ab _ (evR (syn s (syn s (b :: c :: t))) x*x+evR (syn s (b :: c :: t)) s)
   exact((h s x hs hx).mul hx).add (l s s hs hs)
theorem ev_deriv (x:Rat):∀p:List Rat,evR (derivF p) x=evR (syn x p) x
 | []=>dgz (by rw [dg_deriv];rfl) x
 | [a]=>dgz (by rw [dg_deriv];have:=dg_len [a];simp at this;omega) x
 | a :: b :: t=>by
  have h:=ev_deriv x (b :: t)
  have e:∀y,evR (a :: b :: t) y=evR (addF (mulF (b :: t) [0,1]) [a]) y:=fun y=>by
   rw [ev_addF,ev_mulF,ev_const]
   show evR (b :: t) y*y+a=evR (b :: t) y*((0*y+1)*y+0)+a
   grind
  have e2:evR (derivF (a :: b :: t)) x=evR (derivF (b :: t)) x*x+evR (b :: t) x:=by
   have hd:∀y,evR (derivF (addF (mulF (b :: t) [0,1]) [a])) y=evR (derivF (mulF (b :: t) [0,1])) y+evR (derivF [a]) y:=fun y=>by
    rw [←ev_addF];refine ev_co (fun i=>?_) y;have f1:co (derivF (addF (mulF (b :: t) [0,1]) [a])) i=co (addF (mulF (b :: t) [0,1]) [a]) (i+1)*((i+1:Nat):Rat):=by rw [co_deriv];rfl
    have f2:co (derivF (mulF (b :: t) [0,1])) i=co (mulF (b :: t) [0,1]) (i+1)*((i+1:Nat):Rat):=by rw [co_deriv];rfl
    have f3:co (derivF [a]) i=co [a] (i+1)*((i+1:Nat):Rat):=by rw [co_deriv];rfl
    have f4:co (addF (mulF (b :: t) [0,1]) [a]) (i+1)=co (mulF (b :: t) [0,1]) (i+1)+co [a] (i+1):=by rw [co_addF]
    have f5:co (addF (derivF (mulF (b :: t) [0,1])) (derivF [a])) i=co (derivF (mulF (b :: t) [0,1])) i+co (derivF [a]) i:=by rw [co_addF]
    rw [f1,f4,f5,f2,f3];grind
   rw [deriv_ev e,hd,deriv_prod (p:=b :: t) (q:=[0,1]) (fun y=>ev_mulF _ _ y)];have z:evR (derivF [a]) x=0:=dgz (by rw [dg_deriv];have:=dg_len [a];simp at this;omega) x
   have z2:evR (derivF [0,1]) x=1:=by
    have:derivF [0,1]=[1]:=by decide +kernel
    rw [this,ev_const]
   rw [z,z2]
   show evR (derivF (b :: t)) x*((0*x+1)*x+0)+evR (b :: t) x*1+0=_
   grind
  rw [e2,h]
  show _=evR (syn x (b :: t)) x*x+evR (b :: t) x
  rfl
theorem taylor (x y:Rat) (p:List Rat):evR p y=evR p x+(y - x)*(evR (derivF p) x+(y - x)*evR (syn x (syn x p)) y):=by
 rw [ev_syn x y p,ev_syn x y (syn x p),ev_deriv]
def Fx (s:Rat) (p:List Rat) (a b:Rat):Prop:=∀x,a≤x→x≤b→0<s*evR p x
theorem Fx.sub {s:Rat} {p:List Rat} {a b c d:Rat} (h:Fx s p a b) (h1:a≤c) (h2:d≤b):Fx s p c d:=fun x k1 k2=>h x (Rat.le_trans h1 k1) (Rat.le_trans k2 h2)
theorem fix_near {B K e d:Rat} {p:List Rat} (hK:∀s x,Ab B s→Ab B x→Ab K (evR (syn s p) x)) (hd:d*K<e) {a b:Rat} (ha:Ab B a) (hb:Ab B b) (hab:a≤b) (hba:b - a≤d) {s:Rat} (hs:s=1∨s = -1) (hp:e≤s*evR p a):Fx s p a b:=fun x h1 h2=>by
 have hx:Ab B x:=by
  have q1:=ha.1;have q2:=hb.2
  constructor <;> grind
 have h3:=hK a x ha hx;have h4:Ab d (x - a):=by constructor <;> grind
 have h5:=h4.mul h3;have h6:=ev_syn a x p;have q1:=h5.1;have q2:=h5.2
 rcases hs with rfl|rfl
 ·grind
 ·grind
theorem rest_mon (u v:List Rat) (hv:0<dgF v):∃g:Rat,(∀x,evR u x=evR (divF u v).1 x*evR v x+g*evR (monicF (divF u v).2) x)∧(0<dgF (monicF (divF u v).2)→g≠0):=by
 obtain⟨d1,-,-⟩:=div_ev u v hv
 rcases Nat.eq_zero_or_pos (dgF (divF u v).2) with h|h
 ·refine⟨0,fun x=>?_,fun h2=>?_⟩
  ·rw [d1,dgz h];grind
  ·rw [dg_mon] at h2;omega
 ·refine⟨topF (trimF (divF u v).2),fun x=>?_,fun _=>top_trim_ne (trim_ne h)⟩
  rw [d1 x,mon_back h];grind
inductive Tr:List Rat→List Rat→List Rat→List Rat→Prop
 | one (u v:List Rat):0<dgF v→Tr u v v (monicF (divF u v).2)
 | more (u v x y:List Rat):0<dgF v→Tr v (monicF (divF u v).2) x y→Tr u v x y
theorem Tr.dg {u v x y:List Rat} (h:Tr u v x y):dgF x≤dgF v∧dgF y<dgF x∧Mo y:=by
 induction h with
 | one u v hv=>exact⟨Nat.le_refl _,by rw [dg_mon];exact div_dg u v hv,mo_mon _⟩
 | more u v x y hv _ ih=>
  have:=div_dg u v hv
  rw [dg_mon] at ih;exact⟨by omega,ih.2⟩
theorem Tr.uniq {u v x y:List Rat} (h:Tr u v x y):∀(A B R:List Rat),(∀t,evR R t=evR A t*evR u t+evR B t*evR v t)→dgF R<dgF x→dgF A+dgF x≤dgF v+1→∃c:Rat,(∀t,evR R t=c*evR y t)∧(0<dgF y→dgF R=0→dgF A=0∧dgF B=0):=by
 induction h with
 | one u v hv=>
  intro A B R e hR hA;obtain⟨g,eg,hg⟩:=rest_mon u v hv;have ea:∀t,evR A t=co A 0:=fun t=>ev_dg1 (by omega) t;have hy:=div_dg u v hv;have h1:Dv v (subF R (scaleF (monicF (divF u v).2) (co A 0*g))):=⟨addF (scaleF (divF u v).1 (co A 0)) B,fun t=>by rw [ev_subF,ev_scaleF,ev_addF,ev_scaleF,e,ea,eg];grind⟩;have h2:dgF (subF R (scaleF (monicF (divF u v).2) (co A 0*g)))≤dgF v - 1:=dg_sub (fun t=>ev_subF _ _ t) (by omega) (Nat.le_trans (dg_scale fun t=>ev_scaleF _ _ t) (by rw [dg_mon];omega));have h3:=h1.small (by omega)
  have h4:∀t,evR R t=co A 0*g*evR (monicF (divF u v).2) t:=fun t=>by
   have:=dgz h3 t
   rw [ev_subF,ev_scaleF] at this
   grind
  refine⟨co A 0*g,h4,fun h5 h6=>?_⟩;obtain⟨t0,ht0⟩:=dg_pos h5;have h7:=h4 t0;rw [dgz h6] at h7
  have h8:co A 0=0:=by
   rcases Rat.mul_eq_zero.1 h7.symm with h8|h8
   ·rcases Rat.mul_eq_zero.1 h8 with h9|h9
    ·exact h9
    ·exact absurd h9 (hg h5)
   ·exact absurd h8 ht0
  refine⟨dg_of_zero fun t=>by rw [ea,h8],?_⟩
  rcases Nat.eq_zero_or_pos (dgF B) with h9|h9
  ·exact h9
  ·have:=dg_mul (r:=R) (p:=B) (q:=v) (fun t=>by rw [e,ea,h8];grind) h9 hv
   omega
 | more u v x y hv ht ih=>
  intro A B R e hR hA;obtain⟨g,eg,hg⟩:=rest_mon u v hv;have hd:=ht.dg;have hy:=div_dg u v hv;rw [dg_mon] at hd;have hpos:0<dgF (monicF (divF u v).2):=by rw [dg_mon];omega
  have e1:∀t,evR R t=evR (addF (mulF A (divF u v).1) B) t*evR v t+evR (scaleF A g) t*evR (monicF (divF u v).2) t:=fun t=>by
   rw [ev_addF,ev_mulF,ev_scaleF,e,eg];grind
  have h1:dgF (addF (mulF A (divF u v).1) B)+dgF x≤dgF (monicF (divF u v).2)+1:=by
   rw [dg_mon]
   rcases Nat.eq_zero_or_pos (dgF (addF (mulF A (divF u v).1) B)) with h0|h0
   ·omega
   ·have h2:=dg_mul (r:=mulF (addF (mulF A (divF u v).1) B) v) (fun t=>ev_mulF _ _ t) h0 hv
    have h3:dgF (mulF (scaleF A g) (monicF (divF u v).2))≤dgF A+dgF (divF u v).2 - 1:=by
     rcases Nat.eq_zero_or_pos (dgF (scaleF A g)) with h4|h4
     ·rw [dg_of_zero fun t=>by rw [ev_mulF,dgz h4];grind];omega
     ·rw [dg_mul (fun t=>ev_mulF _ _ t) h4 hpos,dg_mon]
      have:=dg_scale (r:=scaleF A g) (fun t=>ev_scaleF A g t)
      omega
    rcases Nat.le_total (dgF R) (dgF A+dgF (divF u v).2 - 1) with h5|h5
    ·have h6:=dg_sub (r:=mulF (addF (mulF A (divF u v).1) B) v) (p:=R) (q:=mulF (scaleF A g) (monicF (divF u v).2)) (fun t=>by rw [e1,ev_mulF,ev_mulF];grind) h5 h3
     omega
    ·have h6:=dg_sub (r:=mulF (addF (mulF A (divF u v).1) B) v) (p:=R) (q:=mulF (scaleF A g) (monicF (divF u v).2)) (fun t=>by rw [e1,ev_mulF,ev_mulF];grind) (Nat.le_refl _) (Nat.le_trans h3 h5)
     omega
  obtain⟨c,hc,hz⟩:=ih _ _ R e1 hR h1;refine⟨c,hc,fun h5 h6=>?_⟩;obtain⟨z1,z2⟩:=hz h5 h6
  have a0:∀t,evR A t=0:=fun t=>by
   have:=dgz z2 t
   rw [ev_scaleF] at this
   rcases Rat.mul_eq_zero.1 this with h7|h7
   ·exact h7
   ·exact absurd h7 (hg hpos)
  refine⟨dg_of_zero a0,dg_of_zero fun t=>?_⟩
  have:=dgz z1 t
  rw [ev_addF,ev_mulF,a0] at this
  grind
def HF (a:Nat) (p:List Rat):Prop:=∃(D:Int) (n:Nat→Int),D≠0∧D.natAbs<2 ^ a∧∀i,co p i*(D:Rat)=(n i:Rat)∧(n i).natAbs<2 ^ a
theorem HF.mono {a b:Nat} {p:List Rat} (h:HF a p) (k:a≤b):HF b p:=by
 obtain⟨D,n,h0,h1,h2⟩:=h;have h3:2 ^ a≤2 ^ b:=Nat.pow_le_pow_right (by decide) k;exact⟨D,n,h0,by omega,fun i=>⟨(h2 i).1,by have:=(h2 i).2;omega⟩⟩
def ipc (f g:Nat→Int):Nat→Nat→Int
 | 0,_=>0
 | i+1,k=>ipc f g i k+(if i≤k then f i*g (k - i) else 0)
theorem ipc_sub (f h g:Nat→Int) (k:Nat):∀m,ipc (fun j=>f j - h j) g m k=ipc f g m k - ipc h g m k
 | 0=>rfl
 | m+1=>by
  show ipc _ g m k+_=(ipc f g m k+_) - (ipc h g m k+_)
  rw [ipc_sub f h g k m]
  split
  ·rw [Int.sub_mul];omega
  ·omega
theorem ipc_bound {f g:Nat→Int} {K A:Nat} (hf:∀j,(f j).natAbs≤K) (hg:∀j,(g j).natAbs≤A) (k:Nat):∀m,(ipc f g m k).natAbs≤m*K*A
 | 0=>by simp [ipc]
 | m+1=>by
  show (ipc f g m k+(if m≤k then f m*g (k - m) else 0)).natAbs≤_
  have h1:=ipc_bound hf hg k m
  have h2:(if m≤k then f m*g (k - m) else 0:Int).natAbs≤K*A:=by
   split
   ·rw [Int.natAbs_mul];exact Nat.mul_le_mul (hf _) (hg _)
   ·simp
  rw [Nat.add_mul,Nat.add_mul,Nat.one_mul];have h3:=Int.natAbs_add_le (ipc f g m k) (if m≤k then f m*g (k - m) else 0);omega
theorem ipc_cast {f g:Nat→Int} {u v:Nat→Rat} (hv:∀j,v j=(g j:Rat)) (k:Nat):∀m,(∀j,j<m→u j=(f j:Rat))→pcv u v m k=(ipc f g m k:Rat)
 | 0,_=>by show (0:Rat)=((0:Int):Rat);rfl
 | m+1,hu=>by
  show pcv u v m k+(if m≤k then u m*v (k - m) else 0)=((ipc f g m k+(if m≤k then f m*g (k - m) else 0):Int):Rat)
  rw [ipc_cast hv k m fun j hj=>hu j (by omega),Rat.intCast_add]
  split
  ·rw [hu m (by omega),hv,Rat.intCast_mul]
  ·rfl
theorem co_list (f:Nat→Rat) (s i:Nat):co ((List.range s).map f) i=if i<s then f i else 0:=by
 unfold co;rw [List.getElem?_map]
 by_cases h:i<s
 ·rw [List.getElem?_range h,if_pos h];rfl
 ·rw [List.getElem?_eq_none (by simpa using h),if_neg h];rfl
theorem co_scaleF (p:List Rat) (c:Rat) (i:Nat):co (scaleF p c) i=co p i*c:=by unfold scaleF;rw [co_trim,co_map]
theorem dg_mulF_le (p q:List Rat):dgF (mulF p q)≤dgF p+dgF q - 1:=by
 rcases Nat.eq_zero_or_pos (dgF p) with h|h
 ·rw [dg_of_zero fun t=>by rw [ev_mulF,dgz h];grind];omega
 ·rcases Nat.eq_zero_or_pos (dgF q) with k|k
  ·rw [dg_of_zero fun t=>by rw [ev_mulF,dgz k];grind];omega
  ·exact Nat.le_of_eq (dg_mul (fun t=>ev_mulF _ _ t) h k)
theorem co_prod {z n:Nat→Int} {P:List Rat} (hP:∀i,co P i=(n i:Rat)) (s i:Nat):co (mulF ((List.range s).map fun j=>(z j:Rat)) P) i=(ipc z n s i:Rat):=by
 rw [co_mulF,←pcv_all (m:=s) (fun j hj=>by rw [co_list,if_neg (by omega)])];exact ipc_cast (fun j=>hP j) i s fun j hj=>by rw [co_list,if_pos hj]
theorem Tr.small {p q x y:List Rat} (h:Tr p q x y) {a v:Nat} (hp:HF a p) (hq:HF a q) (hy:0<dgF y) (hv:dgF p+dgF q+2≤2 ^ v):HF ((a+v+2)*(dgF p+dgF q+2)) y:=by
 obtain⟨Dp,np,p0,p1,p2⟩:=hp;obtain⟨Dq,nq,q0,q1,q2⟩:=hq;obtain⟨x1,x2,my⟩:=h.dg;obtain⟨s,hs⟩:∃s,dgF q+1 - dgF x=s:=⟨_,rfl⟩;obtain⟨t,ht⟩:∃t,dgF p+1 - dgF x=t:=⟨_,rfl⟩;obtain⟨m,hm⟩:∃m,dgF p+dgF q+1 - 2*dgF x=m:=⟨_,rfl⟩;have hn0:m<s+t:=by omega
 have hnv:s+t≤2 ^ v:=by omega
 have hPc:∀i,co (scaleF p (Dp:Rat)) i=(np i:Rat):=fun i=>by rw [co_scaleF];exact(p2 i).1
 have hQc:∀i,co (scaleF q (Dq:Rat)) i=(nq i:Rat):=fun i=>by rw [co_scaleF];exact(q2 i).1
 have bnd:∀(K:Nat) (z:Nat→Int),(∀j,(z j).natAbs≤K)→∀i,(ipc z np s i+ipc (fun j=>z (s+j)) nq t i).natAbs≤(s+t)*K*2 ^ a:=fun K z hz i=>by
  have h1:=ipc_bound (A:=2 ^ a) hz (fun j=>Nat.le_of_lt (p2 j).2) i s;have h2:=ipc_bound (A:=2 ^ a) (fun j=>hz (s+j)) (fun j=>Nat.le_of_lt (q2 j).2) i t;have h3:=Int.natAbs_add_le (ipc z np s i) (ipc (fun j=>z (s+j)) nq t i);rw [Nat.add_mul,Nat.add_mul];omega
 obtain⟨z,⟨j0,hj0,hz0⟩,hz1,hzK,hzL⟩:=siegel (fun z k=>ipc z np s (dgF x - 1+k)+ipc (fun j=>z (s+j)) nq t (dgF x - 1+k)) (s+t) m (2 ^ ((a+v+2)*(s+t - 1))) ((s+t)*2 ^ ((a+v+2)*(s+t - 1))*2 ^ a)
  (fun f g k=>by
   show ipc (fun j=>f j - g j) np s _+ipc (fun j=>f (s+j) - g (s+j)) nq t _=_
   rw [ipc_sub,ipc_sub (fun j=>f (s+j)) (fun j=>g (s+j))];omega)
  (fun f hf k _=>bnd _ f (fun j=>by have:=hf j;omega) _)
  (siegel_count hn0 hnv (Nat.le_refl _) rfl rfl)
 generalize hA:(List.range s).map (fun j=>(z j:Rat))=A;generalize hB:(List.range t).map (fun j=>(z (s+j):Rat))=B;have cA:∀i,co (mulF A (scaleF p (Dp:Rat))) i=(ipc z np s i:Rat):=fun i=>by rw [←hA];exact co_prod hPc s i
 have cB:∀i,co (mulF B (scaleF q (Dq:Rat))) i=(ipc (fun j=>z (s+j)) nq t i:Rat):=fun i=>by rw [←hB];exact co_prod (z:=fun j=>z (s+j)) hQc t i
 have cR:∀i,co (addF (mulF A (scaleF p (Dp:Rat))) (mulF B (scaleF q (Dq:Rat)))) i=((ipc z np s i+ipc (fun j=>z (s+j)) nq t i:Int):Rat):=fun i=>by
  rw [co_addF,Rat.intCast_add,←cA,←cB]
 have lA:dgF A≤s:=by have:=dg_len A;rw [←hA] at this ⊢;simpa using this
 have lB:dgF B≤t:=by have:=dg_len B;rw [←hB] at this ⊢;simpa using this
 have dP:dgF (scaleF p (Dp:Rat))≤dgF p:=dg_scale fun t=>ev_scaleF _ _ t;have dQ:dgF (scaleF q (Dq:Rat))≤dgF q:=dg_scale fun t=>ev_scaleF _ _ t
 have dR:dgF (addF (mulF A (scaleF p (Dp:Rat))) (mulF B (scaleF q (Dq:Rat))))≤dgF x - 1:=by
  refine dg_le fun i hi=>?_
  rcases Nat.lt_or_ge i (dgF x - 1+m) with h1|h1
  ·rw [cR]
   have h2:=hzL (i - (dgF x - 1)) (by omega);have h3:ipc z np s (dgF x - 1+(i - (dgF x - 1)))+ipc (fun j=>z (s+j)) nq t (dgF x - 1+(i - (dgF x - 1)))=0:=h2;rw [show dgF x - 1+(i - (dgF x - 1))=i by omega] at h3;rw [h3];rfl
  ·have h2:=dg_mulF_le A (scaleF p (Dp:Rat))
   have h3:=dg_mulF_le B (scaleF q (Dq:Rat));rw [co_addF]
   show co (mulF A _) i+co (mulF B _) i=0
   rw [dg_ge (by omega),dg_ge (p:=mulF B _) (by
    rcases Nat.eq_zero_or_pos (dgF B) with h4|h4
    ·rw [dg_of_zero fun t=>by rw [ev_mulF,dgz h4];grind];omega
    ·omega)]
   grind
 obtain⟨c,hc,hnz⟩:=h.uniq (scaleF A (Dp:Rat)) (scaleF B (Dq:Rat)) (addF (mulF A (scaleF p (Dp:Rat))) (mulF B (scaleF q (Dq:Rat)))) (fun t=>by rw [ev_addF,ev_mulF,ev_mulF,ev_scaleF,ev_scaleF,ev_scaleF,ev_scaleF];grind) (by omega) (by have:=dg_scale (r:=scaleF A (Dp:Rat)) (fun t=>ev_scaleF A _ t);omega)
 have hcy:∀i,co (addF (mulF A (scaleF p (Dp:Rat))) (mulF B (scaleF q (Dq:Rat)))) i=co y i*c:=fun i=>by
  rw [←co_scaleF];exact ev_inj (fun t=>by rw [hc,ev_scaleF];grind) i
 have hc0:c≠0:=by
  intro e;have h1:=hnz hy (dg_of_zero fun t=>by rw [hc,e];grind);have nz:∀D:Int,D≠0→(D:Rat)≠0:=fun D hD e=>hD (Rat.intCast_inj.1 (e.trans Rat.intCast_zero.symm))
  rcases Nat.lt_or_ge j0 s with h2|h2
  ·have h3:=ev_inj (p:=scaleF A (Dp:Rat)) (q:=[]) (fun t=>dgz h1.1 t) j0
   rw [co_scaleF,←hA,co_list,if_pos h2] at h3
   rcases Rat.mul_eq_zero.1 h3 with h4|h4
   ·exact nz _ hz0 h4
   ·exact nz _ p0 h4
  ·have h3:=ev_inj (p:=scaleF B (Dq:Rat)) (q:=[]) (fun t=>dgz h1.2 t) (j0 - s)
   rw [co_scaleF,←hB,co_list,if_pos (by omega),show s+(j0 - s)=j0 by omega] at h3
   rcases Rat.mul_eq_zero.1 h3 with h4|h4
   ·exact nz _ hz0 h4
   ·exact nz _ q0 h4
 have ht1:co y (dgF y - 1)=1:=by
  rw [←top_eq my.1];exact my.2.resolve_left fun e=>by rw [e] at hy;cases hy
 have hcI:((ipc z np s (dgF y - 1)+ipc (fun j=>z (s+j)) nq t (dgF y - 1):Int):Rat)=c:=by
  rw [←cR,hcy,ht1];grind
 have hlt:∀i,(ipc z np s i+ipc (fun j=>z (s+j)) nq t i).natAbs<2 ^ ((a+v+2)*(dgF p+dgF q+2)):=fun i=>by
  have h1:=bnd _ z hzK i;have h2:(s+t)*2 ^ ((a+v+2)*(s+t - 1))*2 ^ a≤2 ^ v*2 ^ ((a+v+2)*(s+t - 1))*2 ^ a:=Nat.mul_le_mul_right _ (Nat.mul_le_mul_right _ hnv);rw [←Nat.pow_add,←Nat.pow_add] at h2;have h3:(a+v+2)*(s+t - 1)+(a+v+2)=(a+v+2)*(s+t):=by rw [←Nat.mul_succ,show (s+t - 1).succ=s+t by omega]
  have h4:(a+v+2)*(s+t)≤(a+v+2)*(dgF p+dgF q+2):=Nat.mul_le_mul_left _ (by omega);have h5:2 ^ (v+(a+v+2)*(s+t - 1)+a)<2 ^ ((a+v+2)*(dgF p+dgF q+2)):=Nat.pow_lt_pow_right (by decide) (by omega);omega
 refine⟨_,fun i=>ipc z np s i+ipc (fun j=>z (s+j)) nq t i,?_,hlt (dgF y - 1),fun i=>⟨?_,hlt i⟩⟩
 ·intro e
  rw [e] at hcI;exact hc0 hcI.symm
 ·rw [hcI,←hcy,cR]
end Go.Proofs.YtkoaakefgacokaaGreatDoor
