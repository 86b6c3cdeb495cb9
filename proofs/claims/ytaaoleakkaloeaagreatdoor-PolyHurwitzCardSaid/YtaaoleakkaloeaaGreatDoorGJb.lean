/- Changes of sign in a chain, on a short piece. Euclid's chain: each rest is, up to a factor, the only combination of its degree; so its numbers are small. -/
import Derived.Test.YtaaoleakkaloeaaGreatDoorGJa
import Derived.Test.YtaaoleakkaloeaaGreatDoorGYg
import Derived.Test.YtaaoleakkaloeaaGreatDoorGWh
set_option linter.unusedVariables false
set_option maxRecDepth 100000
set_option maxHeartbeats 64000000
namespace Go.Proofs.YtaaoleakkaloeaaGreatDoor
set_option linter.unusedSimpArgs false
def chg (u v:Int):Int:=if (u=1∧v = -1)∨(u = -1∧v=1) then 1 else 0
theorem flips_cons (last s:Int) (l:List Int):flipsU last (s :: l)=if s=0 then flipsU last l else chg last s+flipsU s l:=rfl
def si (s:Rat):Int:=if s=1 then 1 else -1
theorem si_one:si 1=1:=rfl
theorem si_neg:si (-1) = -1:=by decide
def Pm (s:Rat):Prop:=s=1∨s = -1
theorem Pm.neg {s:Rat} (h:Pm s):Pm (-s):=by
 rcases h with rfl|rfl
 ·exact .inr rfl
 ·exact .inl (by decide)
theorem si_not {s:Rat} (h:Pm s):si (-s) = -si s∧(si s=1∨si s = -1):=by
 rcases h with rfl|rfl
 ·exact⟨by decide,.inl rfl⟩
 ·exact⟨by decide,.inr (by decide)⟩
theorem num_pos' {q:Rat} (h:0<q):0<q.num:=by
 have h1:0≤q.num:=Rat.num_nonneg.2 (Rat.le_of_lt h);have h2:q.num≠0:=fun e=>by rw [Rat.num_eq_zero.1 e] at h;exact absurd h (by decide)
 omega
theorem sign_pos' {q:Rat} (h:0<q):q.num.sign=1:=Int.sign_eq_one_of_pos (num_pos' h)
theorem sign_neg' {q:Rat} (h:q<0):q.num.sign = -1:=by
 have h1:0 < -q:=by grind
 have h2:=num_pos' h1;rw [Rat.neg_num] at h2;exact Int.sign_eq_neg_one_of_neg (by omega)
theorem lt_or_le' (x y:Rat):x<y∨y≤x:=by
 rcases Rat.le_total (a:=x) (b:=y) with h|h
 ·by_cases e:x=y
  ·exact .inr (by grind)
  ·exact .inl (by grind)
 ·exact .inr h
theorem at_si {s x:Rat} {p:List Rat} (hs:Pm s) (h:0<s*evR p x):atF x p=si s:=by
 unfold atF
 rcases hs with rfl|rfl
 ·exact sign_pos' (by grind)
 ·rw [si_neg];exact sign_neg' (by grind)
theorem at_cases (x:Rat) (p:List Rat):atF x p=0∧evR p x=0∨atF x p=1∧0<evR p x∨atF x p = -1∧evR p x<0:=by
 unfold atF
 by_cases h0:evR p x=0
 ·exact .inl ⟨by rw [h0];rfl,h0⟩
 ·rcases Rat.le_total (a:=0) (b:=evR p x) with h|h
  ·exact .inr (.inl ⟨sign_pos' (by grind),by grind⟩)
  ·exact .inr (.inr ⟨sign_neg' (by grind),by grind⟩)
inductive Gt (a b:Rat):Rat→List (List Rat)→Prop
 | one {s:Rat} {p:List Rat}:Pm s→Fx s p a b→Gt a b s [p]
 | next {s t:Rat} {p q:List Rat} {l:List (List Rat)}:Pm s→Fx s p a b→Gt a b t (q :: l)→Gt a b s (p :: q :: l)
 | skip {s:Rat} {p q r:List Rat} {l:List (List Rat)}:Pm s→Fx s p a b→Gt a b (-s) (r :: l)→Gt a b s (p :: q :: r :: l)
theorem Gt.pm {a b s:Rat} {c:List (List Rat)} (h:Gt a b s c):Pm s:=by
 cases h with
 | one h _=>exact h
 | next h _ _=>exact h
 | skip h _ _=>exact h
theorem chg_neg {u:Int} (h:u=1∨u = -1):chg u (-u)=1:=by rcases h with rfl|rfl <;> rfl
theorem Gt.const {a b s:Rat} {c:List (List Rat)} (h:Gt a b s c):∃N:Int,∀x,a≤x→x≤b→∀last,flipsU last (c.map (atF x))=chg last (si s)+N:=by
 induction h with
 | one hs hf=>
  refine⟨0,fun x h1 h2 last=>?_⟩;have h3:=at_si hs (hf x h1 h2);have h4:=(si_not hs).2;rw [List.map_cons,flips_cons,h3,if_neg (by omega)]
  rfl
 | @next s t p q l hs hf hg ih=>
  obtain⟨N,hN⟩:=ih;refine⟨chg (si s) (si t)+N,fun x h1 h2 last=>?_⟩;have h3:=at_si hs (hf x h1 h2);have h4:=(si_not hs).2;rw [List.map_cons,flips_cons,h3,if_neg (by omega),hN x h1 h2]
 | @skip s p q r l hs hf hg ih=>
  obtain⟨N,hN⟩:=ih;refine⟨1+N,fun x h1 h2 last=>?_⟩;have h3:=at_si hs (hf x h1 h2);obtain⟨h5,h4⟩:=si_not hs;rw [List.map_cons,flips_cons,h3,if_neg (by omega),List.map_cons,flips_cons];have h6:=hN x h1 h2
  rcases at_cases x q with ⟨e,-⟩|⟨e,-⟩|⟨e,-⟩
  ·rw [e,if_pos rfl,h6,h5,chg_neg h4]
  ·rw [e,if_neg (by decide),h6,h5]
   have k1:chg 1 1=0:=rfl;have k2:chg 1 (-1)=1:=rfl;have k3:chg (-1) 1=1:=rfl;have k4:chg (-1) (-1)=0:=rfl;have k5:(-(-1):Int)=1:=rfl
   rcases h4 with e2|e2
   ·rw [e2];omega
   ·rw [e2,k5];omega
  ·rw [e,if_neg (by decide),h6,h5]
   have k1:chg 1 1=0:=rfl;have k2:chg 1 (-1)=1:=rfl;have k3:chg (-1) 1=1:=rfl;have k4:chg (-1) (-1)=0:=rfl;have k5:(-(-1):Int)=1:=rfl
   rcases h4 with e2|e2
   ·rw [e2];omega
   ·rw [e2,k5];omega
def vF (c:List (List Rat)) (x:Rat):Int:=flipsF c (atF x)
theorem Gt.same {a b s:Rat} {c:List (List Rat)} (h:Gt a b s c):∃N:Int,∀x,a≤x→x≤b→vF c x=N:=by
 obtain⟨N,hN⟩:=h.const;refine⟨N,fun x h1 h2=>?_⟩
 have:=hN x h1 h2 0
 have e:chg 0 (si s)=0:=rfl;rw [e,Int.zero_add] at this;exact this
theorem Gt.head {a b s:Rat} {p:List Rat} {c:List (List Rat)} (h:Gt a b s c):∃N:Int,∀x,a≤x→x≤b→vF (p :: c) x=chg (atF x p) (si s)+N:=by
 obtain⟨N,hN⟩:=h.const;refine⟨N,fun x h1 h2=>?_⟩
 show flipsU 0 (atF x p :: c.map (atF x))=_
 rw [flips_cons]
 rcases at_cases x p with ⟨e,-⟩|⟨e,-⟩|⟨e,-⟩
 ·rw [e,if_pos rfl,hN x h1 h2]
 ·rw [e,if_neg (by decide),hN x h1 h2]
  have e2:chg 0 1=0:=rfl;rw [e2];omega
 ·rw [e,if_neg (by decide),hN x h1 h2]
  have e2:chg 0 (-1)=0:=rfl;rw [e2];omega
theorem small_ex {e K n:Rat} (he:0<e) (hK:0≤K) (hn:0<n):∃d,0<d∧d*K<e∧d≤n:=by
 have h1:0<K+1:=by grind
 have h2:0<(K+1)⁻¹:=Rat.inv_pos.2 h1;have h3:=Rat.mul_inv_cancel (K+1) (by grind);have h4:0<e*(K+1)⁻¹:=Rat.mul_pos he h2
 have h5:e*(K+1)⁻¹*K<e:=by
  have:e*(K+1)⁻¹*K=e*((K+1)*(K+1)⁻¹) - e*(K+1)⁻¹:=by grind
  rw [this,h3];grind
 rcases Rat.le_total (a:=e*(K+1)⁻¹) (b:=n) with h|h
 ·exact⟨_,h4,h5,h⟩
 ·refine⟨n,hn,?_,Rat.le_refl⟩
  have h6:=Rat.mul_nonneg (show 0≤e*(K+1)⁻¹ - n by grind) hK
  grind
inductive Chn:List (List Rat)→Prop
 | one {p:List Rat} {k:Rat}:k≠0→(∀x,evR p x=k)→Chn [p]
 | two {p q:List Rat}:Cop p q→Chn [q]→Chn [p,q]
 | more {p q r s:List Rat} {k:Rat} {l:List (List Rat)}:Cop p q→0<k→(∀x,evR p x=evR s x*evR q x - k*evR r x)→Chn (q :: r :: l)→Chn (p :: q :: r :: l)
theorem pm_of (x:Rat):∃s,Pm s∧0≤s*x:=by
 rcases Rat.le_total (a:=0) (b:=x) with h|h
 ·exact⟨1,.inl rfl,by grind⟩
 ·exact⟨-1,.inr rfl,by grind⟩
theorem Pm.sq {s:Rat} (h:Pm s):s*s=1:=by rcases h with rfl|rfl <;> grind
theorem Ab.pm {K x s:Rat} (h:Ab K x) (hs:Pm s):Ab K (s*x):=by
 have h1:=h.1;have h2:=h.2
 rcases hs with rfl|rfl <;> constructor <;> grind
def Loc (B:Rat) (p:List Rat) (l:List (List Rat)):Prop:=∃ κ:Rat,0<κ∧∀ η:Rat,0<η→∃d e:Rat,0<d∧0<e∧e≤η∧∀a b,Ab B a→Ab B b→a≤b→b - a≤d→(∀s,Pm s→e≤s*evR p a→Gt a b s (p :: l))∧(-e<evR p a→evR p a<e→∃q m s,l=q :: m∧Pm s∧κ≤s*evR q a∧Gt a b s l)
theorem loc_step {B:Rat} (hB:0≤B) {p q:List Rat} {l:List (List Rat)} (hc:Cop p q) (ih:Loc B q l) (hr:∀r m,l=r :: m→∃(S:List Rat) (k:Rat),0<k∧∀x,evR p x=evR S x*evR q x - k*evR r x):Loc B p (q :: l):=by
 obtain⟨u,v,huv⟩:=hc;obtain⟨Ku,ku0,ku⟩:=ev_ab hB u;obtain⟨Kv,kv0,kv⟩:=ev_ab hB v;obtain⟨Kp,kp0,kp⟩:=syn_ab hB p;obtain⟨κ',κ0,ihη⟩:=ih;obtain⟨c,c0,c1,-⟩:=small_ex (e:=1) (K:=2*Ku+2*Kv) (n:=1) (by decide) (by grind) (by decide)
 obtain⟨g,g0,hg⟩:∃g:Rat,0<g∧∀r m,l=r :: m→∃(S:List Rat) (k K:Rat),0<k∧(∀x,evR p x=evR S x*evR q x - k*evR r x)∧(∀x,Ab B x→Ab K (evR S x))∧g*K<k*κ':=by
  cases l with
  | nil=>exact⟨1,by decide,fun r m h=>by cases h⟩
  | cons r m=>
   obtain⟨S,k,k0,hS⟩:=hr r m rfl;obtain⟨K,K0,hK⟩:=ev_ab hB S;obtain⟨g,g0,g1,-⟩:=small_ex (e:=k*κ') (K:=K) (n:=1) (Rat.mul_pos k0 κ0) K0 (by decide);exact⟨g,g0,fun r' m' h=>by injection h with h1 h2;subst h1;exact⟨S,k,K,k0,hS,hK,g1⟩⟩
 refine⟨c,c0,fun η hη=>?_⟩;obtain⟨η',hη0,-,hη1⟩:=small_ex (e:=1) (K:=0) (n:=min c g) (by decide) Rat.le_refl (by rw [Rat.min_def];split <;> assumption);have hηc:η'≤c:=Rat.le_trans hη1 (by rw [Rat.min_def];split <;> grind);have hηg:η'≤g:=Rat.le_trans hη1 (by rw [Rat.min_def];split <;> grind);obtain⟨dq,eq,dq0,eq0,eqη,hq⟩:=ihη η' hη0;obtain⟨e,e0,-,e1⟩:=small_ex (e:=1) (K:=0) (n:=min η c) (by decide) Rat.le_refl (by rw [Rat.min_def];split <;> assumption);have he1:e≤η:=Rat.le_trans e1 (by rw [Rat.min_def];split <;> grind);have he2:e≤c:=Rat.le_trans e1 (by rw [Rat.min_def];split <;> grind);obtain⟨d,d0,d1,d2⟩:=small_ex (e:=e) (K:=Kp) (n:=dq) e0 kp0 dq0;refine⟨d,e,d0,e0,he1,fun a b ha hb hab hba=>?_⟩;obtain⟨t1,t2⟩:=hq a b ha hb hab (Rat.le_trans hba d2)
 constructor
 ·intro s hs hp
  have hfx:Fx s p a b:=fix_near kp d1 ha hb hab hba hs hp;obtain⟨σ,hσ,hσq⟩:=pm_of (evR q a)
  rcases Rat.le_total (a:=eq) (b:=σ*evR q a) with h|h
  ·exact .next hs hfx (t1 σ hσ h)
  ·rcases lt_or_le' (σ*evR q a) eq with h2|h2
   ·obtain⟨r,m,τ,hl,hτ,hτr,hgt⟩:=t2 (by rcases hσ with rfl|rfl <;> grind) (by rcases hσ with rfl|rfl <;> grind)
    obtain⟨S,k,K,k0,hS,hK,gK⟩:=hg r m hl;subst hl
    have hne:τ = -s:=by
     rcases hs with rfl|rfl
     ·rcases hτ with rfl|rfl
      ·exfalso
       have f1:=hS a;have f2:=(hK a ha).mul (show Ab g (evR q a) from ⟨by rcases hσ with rfl|rfl <;> grind,by rcases hσ with rfl|rfl <;> grind⟩);have f3:=f2.2;have f4:=Rat.mul_nonneg (show 0≤k by grind) (show 0≤1*evR r a - κ' by grind)
       grind
      ·rfl
     ·rcases hτ with rfl|rfl
      ·grind
      ·exfalso
       have f1:=hS a;have f2:=(hK a ha).mul (show Ab g (evR q a) from ⟨by rcases hσ with rfl|rfl <;> grind,by rcases hσ with rfl|rfl <;> grind⟩);have f3:=f2.1;have f4:=Rat.mul_nonneg (show 0≤k by grind) (show 0≤-1*evR r a - κ' by grind)
       grind
    rw [hne] at hgt;exact .skip hs hfx hgt
   ·exact .next hs hfx (t1 σ hσ h2)
 ·intro h1 h2
  obtain⟨σ,hσ,hσq⟩:=pm_of (evR q a);have f1:=huv a;have f2:=(ku a ha).mul (show Ab c (evR p a) from ⟨by grind,by grind⟩)
  have hbig:c≤σ*evR q a:=by
   rcases lt_or_le' (σ*evR q a) c with h3|h3
   ·exfalso
    have f3:=(kv a ha).mul (show Ab c (evR q a) from ⟨by rcases hσ with rfl|rfl <;> grind,by rcases hσ with rfl|rfl <;> grind⟩);have f4:=f2.2;have f5:=f3.2
    grind
   ·exact h3
  exact⟨q,l,σ,rfl,hσ,hbig,t1 σ hσ (by grind)⟩
theorem loc_one {B:Rat} {p:List Rat} {k:Rat} (hk:k≠0) (h:∀x,evR p x=k):Loc B p []:=by
 obtain⟨σ,hσ,hσk⟩:=pm_of k;have hpos:0<σ*k:=by rcases hσ with rfl|rfl <;> grind
 refine⟨1,by decide,fun η hη=>?_⟩;obtain⟨e,e0,-,e1⟩:=small_ex (e:=1) (K:=0) (n:=min η (σ*k)) (by decide) Rat.le_refl (by rw [Rat.min_def];split <;> assumption);have he1:e≤η:=Rat.le_trans e1 (by rw [Rat.min_def];split <;> grind);have he2:e≤σ*k:=Rat.le_trans e1 (by rw [Rat.min_def];split <;> grind);refine⟨1,e,by decide,e0,he1,fun a b ha hb hab hba=>⟨fun s hs hp=>.one hs fun x _ _=>?_,fun h1 h2=>?_⟩⟩
 ·rw [h] at hp ⊢
  grind
 ·exfalso
  rw [h] at h1 h2
  rcases hσ with rfl|rfl <;> grind
theorem Chn.loc {B:Rat} (hB:0≤B) {c:List (List Rat)} (h:Chn c):∀p l,c=p :: l→Loc B p l:=by
 induction h with
 | one hk h=>intro p l e;injection e with e1 e2;subst e1 e2;exact loc_one hk h
 | two hc hq ih=>intro p l e;injection e with e1 e2;subst e1 e2;exact loc_step hB hc (ih _ _ rfl) fun r m h=>by cases h
 | more hc hk hr hq ih=>intro p l e;injection e with e1 e2;subst e1 e2;exact loc_step hB hc (ih _ _ rfl) fun r m h=>by injection h with h1 h2;subst h1;exact⟨_,_,hk,hr⟩
end Go.Proofs.YtaaoleakkaloeaaGreatDoor
set_option linter.unusedVariables false
set_option maxRecDepth 100000
set_option maxHeartbeats 64000000
namespace Go.Proofs.YtaaoleakkaloeaaGreatDoor
set_option linter.unusedSimpArgs false
theorem rest_mon (u v:List Rat) (hv:0<dgF v):∃g:Rat,(∀x,evR u x=evR (divF u v).1 x*evR v x+g*evR (monicF (divF u v).2) x)∧(0<dgF (monicF (divF u v).2)→g≠0):=by
 obtain⟨d1,-,-⟩:=div_ev u v hv
 rcases Nat.eq_zero_or_pos (dgF (divF u v).2) with h|h
 ·refine⟨0,fun x=>?_,fun h2=>?_⟩
  ·rw [d1,dgz h];grind
  ·rw [dg_mon] at h2;omega
 ·refine⟨topF (trimF (divF u v).2),fun x=>?_,fun _=>top_trim_ne (trim_ne h)⟩
  rw [d1 x,mon_back h];grind
inductive Tr:List Rat→List Rat→List Rat→List Rat→Prop
 | one (u v:List Rat):0<dgF v→Tr u v v (monicF (divF u v).2)
 | more (u v x y:List Rat):0<dgF v→Tr v (monicF (divF u v).2) x y→Tr u v x y
theorem Tr.dg {u v x y:List Rat} (h:Tr u v x y):dgF x≤dgF v∧dgF y<dgF x∧Mo y:=by
 induction h with
 | one u v hv=>exact⟨Nat.le_refl _,by rw [dg_mon];exact div_dg u v hv,mo_mon _⟩
 | more u v x y hv _ ih=>
  have:=div_dg u v hv
  rw [dg_mon] at ih;exact⟨by omega,ih.2⟩
theorem Tr.uniq {u v x y:List Rat} (h:Tr u v x y):∀(A B R:List Rat),(∀t,evR R t=evR A t*evR u t+evR B t*evR v t)→dgF R<dgF x→dgF A+dgF x≤dgF v+1→∃c:Rat,(∀t,evR R t=c*evR y t)∧(0<dgF y→dgF R=0→dgF A=0∧dgF B=0):=by
 induction h with
 | one u v hv=>
  intro A B R e hR hA;obtain⟨g,eg,hg⟩:=rest_mon u v hv;have ea:∀t,evR A t=co A 0:=fun t=>ev_dg1 (by omega) t;have hy:=div_dg u v hv;have h1:Dv v (subF R (scaleF (monicF (divF u v).2) (co A 0*g))):=⟨addF (scaleF (divF u v).1 (co A 0)) B,fun t=>by rw [ev_subF,ev_scaleF,ev_addF,ev_scaleF,e,ea,eg];grind⟩;have h2:dgF (subF R (scaleF (monicF (divF u v).2) (co A 0*g)))≤dgF v - 1:=dg_sub (fun t=>ev_subF _ _ t) (by omega) (Nat.le_trans (dg_scale fun t=>ev_scaleF _ _ t) (by rw [dg_mon];omega));have h3:=h1.small (by omega)
  have h4:∀t,evR R t=co A 0*g*evR (monicF (divF u v).2) t:=fun t=>by
   have:=dgz h3 t
   rw [ev_subF,ev_scaleF] at this
   grind
  refine⟨co A 0*g,h4,fun h5 h6=>?_⟩;obtain⟨t0,ht0⟩:=dg_pos h5;have h7:=h4 t0;rw [dgz h6] at h7
  have h8:co A 0=0:=by
   rcases Rat.mul_eq_zero.1 h7.symm with h8|h8
   ·rcases Rat.mul_eq_zero.1 h8 with h9|h9
    ·exact h9
    ·exact absurd h9 (hg h5)
   ·exact absurd h8 ht0
  refine⟨dg_of_zero fun t=>by rw [ea,h8],?_⟩
  rcases Nat.eq_zero_or_pos (dgF B) with h9|h9
  ·exact h9
  ·have:=dg_mul (r:=R) (p:=B) (q:=v) (fun t=>by rw [e,ea,h8];grind) h9 hv
   omega
 | more u v x y hv ht ih=>
  intro A B R e hR hA;obtain⟨g,eg,hg⟩:=rest_mon u v hv;have hd:=ht.dg;have hy:=div_dg u v hv;rw [dg_mon] at hd;have hpos:0<dgF (monicF (divF u v).2):=by rw [dg_mon];omega
  have e1:∀t,evR R t=evR (addF (mulF A (divF u v).1) B) t*evR v t+evR (scaleF A g) t*evR (monicF (divF u v).2) t:=fun t=>by
   rw [ev_addF,ev_mulF,ev_scaleF,e,eg];grind
  have h1:dgF (addF (mulF A (divF u v).1) B)+dgF x≤dgF (monicF (divF u v).2)+1:=by
   rw [dg_mon]
   rcases Nat.eq_zero_or_pos (dgF (addF (mulF A (divF u v).1) B)) with h0|h0
   ·omega
   ·have h2:=dg_mul (r:=mulF (addF (mulF A (divF u v).1) B) v) (fun t=>ev_mulF _ _ t) h0 hv
    have h3:dgF (mulF (scaleF A g) (monicF (divF u v).2))≤dgF A+dgF (divF u v).2 - 1:=by
     rcases Nat.eq_zero_or_pos (dgF (scaleF A g)) with h4|h4
     ·rw [dg_of_zero fun t=>by rw [ev_mulF,dgz h4];grind];omega
     ·rw [dg_mul (fun t=>ev_mulF _ _ t) h4 hpos,dg_mon]
      have:=dg_scale (r:=scaleF A g) (fun t=>ev_scaleF A g t)
      omega
    rcases Nat.le_total (dgF R) (dgF A+dgF (divF u v).2 - 1) with h5|h5
    ·have h6:=dg_sub (r:=mulF (addF (mulF A (divF u v).1) B) v) (p:=R) (q:=mulF (scaleF A g) (monicF (divF u v).2)) (fun t=>by rw [e1,ev_mulF,ev_mulF];grind) h5 h3
     omega
    ·have h6:=dg_sub (r:=mulF (addF (mulF A (divF u v).1) B) v) (p:=R) (q:=mulF (scaleF A g) (monicF (divF u v).2)) (fun t=>by rw [e1,ev_mulF,ev_mulF];grind) (Nat.le_refl _) (Nat.le_trans h3 h5)
     omega
  obtain⟨c,hc,hz⟩:=ih _ _ R e1 hR h1;refine⟨c,hc,fun h5 h6=>?_⟩;obtain⟨z1,z2⟩:=hz h5 h6
  have a0:∀t,evR A t=0:=fun t=>by
   have:=dgz z2 t
   rw [ev_scaleF] at this
   rcases Rat.mul_eq_zero.1 this with h7|h7
   ·exact h7
   ·exact absurd h7 (hg hpos)
  refine⟨dg_of_zero a0,dg_of_zero fun t=>?_⟩
  have:=dgz z1 t
  rw [ev_addF,ev_mulF,a0] at this
  grind
def HF (a:Nat) (p:List Rat):Prop:=∃(D:Int) (n:Nat→Int),D≠0∧D.natAbs<2 ^ a∧∀i,co p i*(D:Rat)=(n i:Rat)∧(n i).natAbs<2 ^ a
theorem HF.mono {a b:Nat} {p:List Rat} (h:HF a p) (k:a≤b):HF b p:=by
 obtain⟨D,n,h0,h1,h2⟩:=h;have h3:2 ^ a≤2 ^ b:=Nat.pow_le_pow_right (by decide) k;exact⟨D,n,h0,by omega,fun i=>⟨(h2 i).1,by have:=(h2 i).2;omega⟩⟩
def ipc (f g:Nat→Int):Nat→Nat→Int
 | 0,_=>0
 | i+1,k=>ipc f g i k+(if i≤k then f i*g (k - i) else 0)
theorem ipc_sub (f h g:Nat→Int) (k:Nat):∀m,ipc (fun j=>f j - h j) g m k=ipc f g m k - ipc h g m k
 | 0=>rfl
 | m+1=>by
  show ipc _ g m k+_=(ipc f g m k+_) - (ipc h g m k+_)
  rw [ipc_sub f h g k m]
  split
  ·rw [Int.sub_mul];omega
  ·omega
theorem ipc_bound {f g:Nat→Int} {K A:Nat} (hf:∀j,(f j).natAbs≤K) (hg:∀j,(g j).natAbs≤A) (k:Nat):∀m,(ipc f g m k).natAbs≤m*K*A
 | 0=>by simp [ipc]
 | m+1=>by
  show (ipc f g m k+(if m≤k then f m*g (k - m) else 0)).natAbs≤_
  have h1:=ipc_bound hf hg k m
  have h2:(if m≤k then f m*g (k - m) else 0:Int).natAbs≤K*A:=by
   split
   ·rw [Int.natAbs_mul];exact Nat.mul_le_mul (hf _) (hg _)
   ·simp
  rw [Nat.add_mul,Nat.add_mul,Nat.one_mul];have h3:=Int.natAbs_add_le (ipc f g m k) (if m≤k then f m*g (k - m) else 0);omega
theorem ipc_cast {f g:Nat→Int} {u v:Nat→Rat} (hv:∀j,v j=(g j:Rat)) (k:Nat):∀m,(∀j,j<m→u j=(f j:Rat))→pcv u v m k=(ipc f g m k:Rat)
 | 0,_=>by show (0:Rat)=((0:Int):Rat);rfl
 | m+1,hu=>by
  show pcv u v m k+(if m≤k then u m*v (k - m) else 0)=((ipc f g m k+(if m≤k then f m*g (k - m) else 0):Int):Rat)
  rw [ipc_cast hv k m fun j hj=>hu j (by omega),Rat.intCast_add]
  split
  ·rw [hu m (by omega),hv,Rat.intCast_mul]
  ·rfl
theorem co_list (f:Nat→Rat) (s i:Nat):co ((List.range s).map f) i=if i<s then f i else 0:=by
 unfold co;rw [List.getElem?_map]
 by_cases h:i<s
 ·rw [List.getElem?_range h,if_pos h];rfl
 ·rw [List.getElem?_eq_none (by simpa using h),if_neg h];rfl
theorem co_scaleF (p:List Rat) (c:Rat) (i:Nat):co (scaleF p c) i=co p i*c:=by unfold scaleF;rw [co_trim,co_map]
theorem dg_mulF_le (p q:List Rat):dgF (mulF p q)≤dgF p+dgF q - 1:=by
 rcases Nat.eq_zero_or_pos (dgF p) with h|h
 ·rw [dg_of_zero fun t=>by rw [ev_mulF,dgz h];grind];omega
 ·rcases Nat.eq_zero_or_pos (dgF q) with k|k
  ·rw [dg_of_zero fun t=>by rw [ev_mulF,dgz k];grind];omega
  ·exact Nat.le_of_eq (dg_mul (fun t=>ev_mulF _ _ t) h k)
theorem co_prod {z n:Nat→Int} {P:List Rat} (hP:∀i,co P i=(n i:Rat)) (s i:Nat):co (mulF ((List.range s).map fun j=>(z j:Rat)) P) i=(ipc z n s i:Rat):=by
 rw [co_mulF,←pcv_all (m:=s) (fun j hj=>by rw [co_list,if_neg (by omega)])];exact ipc_cast (fun j=>hP j) i s fun j hj=>by rw [co_list,if_pos hj]
theorem Tr.small {p q x y:List Rat} (h:Tr p q x y) {a v:Nat} (hp:HF a p) (hq:HF a q) (hy:0<dgF y) (hv:dgF p+dgF q+2≤2 ^ v):HF ((a+v+2)*(dgF p+dgF q+2)) y:=by
 obtain⟨Dp,np,p0,p1,p2⟩:=hp;obtain⟨Dq,nq,q0,q1,q2⟩:=hq;obtain⟨x1,x2,my⟩:=h.dg;obtain⟨s,hs⟩:∃s,dgF q+1 - dgF x=s:=⟨_,rfl⟩;obtain⟨t,ht⟩:∃t,dgF p+1 - dgF x=t:=⟨_,rfl⟩;obtain⟨m,hm⟩:∃m,dgF p+dgF q+1 - 2*dgF x=m:=⟨_,rfl⟩;have hn0:m<s+t:=by omega
 have hnv:s+t≤2 ^ v:=by omega
 have hPc:∀i,co (scaleF p (Dp:Rat)) i=(np i:Rat):=fun i=>by rw [co_scaleF];exact(p2 i).1
 have hQc:∀i,co (scaleF q (Dq:Rat)) i=(nq i:Rat):=fun i=>by rw [co_scaleF];exact(q2 i).1
 have bnd:∀(K:Nat) (z:Nat→Int),(∀j,(z j).natAbs≤K)→∀i,(ipc z np s i+ipc (fun j=>z (s+j)) nq t i).natAbs≤(s+t)*K*2 ^ a:=fun K z hz i=>by
  have h1:=ipc_bound (A:=2 ^ a) hz (fun j=>Nat.le_of_lt (p2 j).2) i s;have h2:=ipc_bound (A:=2 ^ a) (fun j=>hz (s+j)) (fun j=>Nat.le_of_lt (q2 j).2) i t;have h3:=Int.natAbs_add_le (ipc z np s i) (ipc (fun j=>z (s+j)) nq t i);rw [Nat.add_mul,Nat.add_mul];omega
 obtain⟨z,⟨j0,hj0,hz0⟩,hz1,hzK,hzL⟩:=siegel (fun z k=>ipc z np s (dgF x - 1+k)+ipc (fun j=>z (s+j)) nq t (dgF x - 1+k)) (s+t) m (2 ^ ((a+v+2)*(s+t - 1))) ((s+t)*2 ^ ((a+v+2)*(s+t - 1))*2 ^ a)
  (fun f g k=>by
   show ipc (fun j=>f j - g j) np s _+ipc (fun j=>f (s+j) - g (s+j)) nq t _=_
   rw [ipc_sub,ipc_sub (fun j=>f (s+j)) (fun j=>g (s+j))];omega)
  (fun f hf k _=>bnd _ f (fun j=>by have:=hf j;omega) _)
  (siegel_count hn0 hnv (Nat.le_refl _) rfl rfl)
 generalize hA:(List.range s).map (fun j=>(z j:Rat))=A;generalize hB:(List.range t).map (fun j=>(z (s+j):Rat))=B;have cA:∀i,co (mulF A (scaleF p (Dp:Rat))) i=(ipc z np s i:Rat):=fun i=>by rw [←hA];exact co_prod hPc s i
 have cB:∀i,co (mulF B (scaleF q (Dq:Rat))) i=(ipc (fun j=>z (s+j)) nq t i:Rat):=fun i=>by rw [←hB];exact co_prod (z:=fun j=>z (s+j)) hQc t i
 have cR:∀i,co (addF (mulF A (scaleF p (Dp:Rat))) (mulF B (scaleF q (Dq:Rat)))) i=((ipc z np s i+ipc (fun j=>z (s+j)) nq t i:Int):Rat):=fun i=>by
  rw [co_addF,Rat.intCast_add,←cA,←cB]
 have lA:dgF A≤s:=by have:=dg_len A;rw [←hA] at this ⊢;simpa using this
 have lB:dgF B≤t:=by have:=dg_len B;rw [←hB] at this ⊢;simpa using this
 have dP:dgF (scaleF p (Dp:Rat))≤dgF p:=dg_scale fun t=>ev_scaleF _ _ t;have dQ:dgF (scaleF q (Dq:Rat))≤dgF q:=dg_scale fun t=>ev_scaleF _ _ t
 have dR:dgF (addF (mulF A (scaleF p (Dp:Rat))) (mulF B (scaleF q (Dq:Rat))))≤dgF x - 1:=by
  refine dg_le fun i hi=>?_
  rcases Nat.lt_or_ge i (dgF x - 1+m) with h1|h1
  ·rw [cR]
   have h2:=hzL (i - (dgF x - 1)) (by omega);have h3:ipc z np s (dgF x - 1+(i - (dgF x - 1)))+ipc (fun j=>z (s+j)) nq t (dgF x - 1+(i - (dgF x - 1)))=0:=h2;rw [show dgF x - 1+(i - (dgF x - 1))=i by omega] at h3;rw [h3];rfl
  ·have h2:=dg_mulF_le A (scaleF p (Dp:Rat))
   have h3:=dg_mulF_le B (scaleF q (Dq:Rat));rw [co_addF]
   show co (mulF A _) i+co (mulF B _) i=0
   rw [dg_ge (by omega),dg_ge (p:=mulF B _) (by
    rcases Nat.eq_zero_or_pos (dgF B) with h4|h4
    ·rw [dg_of_zero fun t=>by rw [ev_mulF,dgz h4];grind];omega
    ·omega)]
   grind
 obtain⟨c,hc,hnz⟩:=h.uniq (scaleF A (Dp:Rat)) (scaleF B (Dq:Rat)) (addF (mulF A (scaleF p (Dp:Rat))) (mulF B (scaleF q (Dq:Rat)))) (fun t=>by rw [ev_addF,ev_mulF,ev_mulF,ev_scaleF,ev_scaleF,ev_scaleF,ev_scaleF];grind) (by omega) (by have:=dg_scale (r:=scaleF A (Dp:Rat)) (fun t=>ev_scaleF A _ t);omega)
 have hcy:∀i,co (addF (mulF A (scaleF p (Dp:Rat))) (mulF B (scaleF q (Dq:Rat)))) i=co y i*c:=fun i=>by
  rw [←co_scaleF];exact ev_inj (fun t=>by rw [hc,ev_scaleF];grind) i
 have hc0:c≠0:=by
  intro e;have h1:=hnz hy (dg_of_zero fun t=>by rw [hc,e];grind);have nz:∀D:Int,D≠0→(D:Rat)≠0:=fun D hD e=>hD (Rat.intCast_inj.1 (e.trans Rat.intCast_zero.symm))
  rcases Nat.lt_or_ge j0 s with h2|h2
  ·have h3:=ev_inj (p:=scaleF A (Dp:Rat)) (q:=[]) (fun t=>dgz h1.1 t) j0
   rw [co_scaleF,←hA,co_list,if_pos h2] at h3
   rcases Rat.mul_eq_zero.1 h3 with h4|h4
   ·exact nz _ hz0 h4
   ·exact nz _ p0 h4
  ·have h3:=ev_inj (p:=scaleF B (Dq:Rat)) (q:=[]) (fun t=>dgz h1.2 t) (j0 - s)
   rw [co_scaleF,←hB,co_list,if_pos (by omega),show s+(j0 - s)=j0 by omega] at h3
   rcases Rat.mul_eq_zero.1 h3 with h4|h4
   ·exact nz _ hz0 h4
   ·exact nz _ q0 h4
 have ht1:co y (dgF y - 1)=1:=by
  rw [←top_eq my.1];exact my.2.resolve_left fun e=>by rw [e] at hy;cases hy
 have hcI:((ipc z np s (dgF y - 1)+ipc (fun j=>z (s+j)) nq t (dgF y - 1):Int):Rat)=c:=by
  rw [←cR,hcy,ht1];grind
 have hlt:∀i,(ipc z np s i+ipc (fun j=>z (s+j)) nq t i).natAbs<2 ^ ((a+v+2)*(dgF p+dgF q+2)):=fun i=>by
  have h1:=bnd _ z hzK i;have h2:(s+t)*2 ^ ((a+v+2)*(s+t - 1))*2 ^ a≤2 ^ v*2 ^ ((a+v+2)*(s+t - 1))*2 ^ a:=Nat.mul_le_mul_right _ (Nat.mul_le_mul_right _ hnv);rw [←Nat.pow_add,←Nat.pow_add] at h2;have h3:(a+v+2)*(s+t - 1)+(a+v+2)=(a+v+2)*(s+t):=by rw [←Nat.mul_succ,show (s+t - 1).succ=s+t by omega]
  have h4:(a+v+2)*(s+t)≤(a+v+2)*(dgF p+dgF q+2):=Nat.mul_le_mul_left _ (by omega);have h5:2 ^ (v+(a+v+2)*(s+t - 1)+a)<2 ^ ((a+v+2)*(dgF p+dgF q+2)):=Nat.pow_lt_pow_right (by decide) (by omega);omega
 refine⟨_,fun i=>ipc z np s i+ipc (fun j=>z (s+j)) nq t i,?_,hlt (dgF y - 1),fun i=>⟨?_,hlt i⟩⟩
 ·intro e
  rw [e] at hcI;exact hc0 hcI.symm
 ·rw [hcI,←hcy,cR]
end Go.Proofs.YtaaoleakkaloeaaGreatDoor
