/- Changes of sign in a chain, on a short piece. -/
import Derived.Test.YtkoaakefgacokaaGreatDoorGJa
import Derived.Test.YtkoaakefgacokaaGreatDoorGYg
import Derived.Test.YtkoaakefgacokaaGreatDoorGYa
import Derived.Test.YtkoaakefgacokaaGreatDoorGZa
set_option linter.unusedVariables false
set_option linter.unusedSimpArgs false
set_option maxRecDepth 100000
set_option maxHeartbeats 64000000
namespace Go.Proofs.YtkoaakefgacokaaGreatDoor
def chg (u v:Int):Int:=if (u=1∧v = -1)∨(u = -1∧v=1) then 1 else 0
theorem flips_cons (last s:Int) (l:List Int):flipsU last (s :: l)=if s=0 then flipsU last l else chg last s+flipsU s l:=rfl
def si (s:Rat):Int:=if s=1 then 1 else -1
theorem si_one:si 1=1:=rfl
theorem si_neg:si (-1) = -1:=by decide
def Pm (s:Rat):Prop:=s=1∨s = -1
theorem Pm.neg {s:Rat} (h:Pm s):Pm (-s):=by
 rcases h with rfl|rfl
 ·exact .inr rfl
 ·exact .inl (by decide)
theorem si_not {s:Rat} (h:Pm s):si (-s) = -si s∧(si s=1∨si s = -1):=by
 rcases h with rfl|rfl
 ·exact⟨by decide,.inl rfl⟩
 ·exact⟨by decide,.inr (by decide)⟩
theorem num_pos' {q:Rat} (h:0<q):0<q.num:=by
 have h1:0≤q.num:=Rat.num_nonneg.2 (Rat.le_of_lt h);have h2:q.num≠0:=fun e=>by rw [Rat.num_eq_zero.1 e] at h;exact absurd h (by decide)
 omega
theorem sign_pos' {q:Rat} (h:0<q):q.num.sign=1:=Int.sign_eq_one_of_pos (num_pos' h)
theorem sign_neg' {q:Rat} (h:q<0):q.num.sign = -1:=by
 have h1:0 < -q:=by grind
 have h2:=num_pos' h1;rw [Rat.neg_num] at h2;exact Int.sign_eq_neg_one_of_neg (by omega)
theorem lt_or_le' (x y:Rat):x<y∨y≤x:=by
 rcases Rat.le_total (a:=x) (b:=y) with h|h
 ·by_cases e:x=y
  ·exact .inr (by grind)
  ·exact .inl (by grind)
 ·exact .inr h
theorem at_si {s x:Rat} {p:List Rat} (hs:Pm s) (h:0<s*evR p x):atF x p=si s:=by
 unfold atF
 rcases hs with rfl|rfl
 ·exact sign_pos' (by grind)
 ·rw [si_neg];exact sign_neg' (by grind)
theorem at_cases (x:Rat) (p:List Rat):atF x p=0∧evR p x=0∨atF x p=1∧0<evR p x∨atF x p = -1∧evR p x<0:=by
 unfold atF
 by_cases h0:evR p x=0
 ·exact .inl ⟨by rw [h0];rfl,h0⟩
 ·rcases Rat.le_total (a:=0) (b:=evR p x) with h|h
  ·exact .inr (.inl ⟨sign_pos' (by grind),by grind⟩)
  ·exact .inr (.inr ⟨sign_neg' (by grind),by grind⟩)
inductive Gt (a b:Rat):Rat→List (List Rat)→Prop
 | one {s:Rat} {p:List Rat}:Pm s→Fx s p a b→Gt a b s [p]
 | next {s t:Rat} {p q:List Rat} {l:List (List Rat)}:Pm s→Fx s p a b→Gt a b t (q :: l)→Gt a b s (p :: q :: l)
 | skip {s:Rat} {p q r:List Rat} {l:List (List Rat)}:Pm s→Fx s p a b→Gt a b (-s) (r :: l)→Gt a b s (p :: q :: r :: l)
theorem Gt.pm {a b s:Rat} {c:List (List Rat)} (h:Gt a b s c):Pm s:=by
 cases h with
 | one h _=>exact h
 | next h _ _=>exact h
 | skip h _ _=>exact h
theorem chg_neg {u:Int} (h:u=1∨u = -1):chg u (-u)=1:=by rcases h with rfl|rfl <;> rfl
theorem Gt.const {a b s:Rat} {c:List (List Rat)} (h:Gt a b s c):∃N:Int,∀x,a≤x→x≤b→∀last,flipsU last (c.map (atF x))=chg last (si s)+N:=by
 induction h with
 | one hs hf=>
  refine⟨0,fun x h1 h2 last=>?_⟩;have h3:=at_si hs (hf x h1 h2);have h4:=(si_not hs).2;rw [List.map_cons,flips_cons,h3,if_neg (by omega)]
  rfl
 | @next s t p q l hs hf hg ih=>
  obtain⟨N,hN⟩:=ih;refine⟨chg (si s) (si t)+N,fun x h1 h2 last=>?_⟩;have h3:=at_si hs (hf x h1 h2);have h4:=(si_not hs).2;rw [List.map_cons,flips_cons,h3,if_neg (by omega),hN x h1 h2]
 | @skip s p q r l hs hf hg ih=>
  obtain⟨N,hN⟩:=ih;refine⟨1+N,fun x h1 h2 last=>?_⟩;have h3:=at_si hs (hf x h1 h2);obtain⟨h5,h4⟩:=si_not hs;rw [List.map_cons,flips_cons,h3,if_neg (by omega),List.map_cons,flips_cons];have h6:=hN x h1 h2
  rcases at_cases x q with ⟨e,-⟩|⟨e,-⟩|⟨e,-⟩
  ·rw [e,if_pos rfl,h6,h5,chg_neg h4]
  ·rw [e,if_neg (by decide),h6,h5]
   have k1:chg 1 1=0:=rfl;have k2:chg 1 (-1)=1:=rfl;have k3:chg (-1) 1=1:=rfl;have k4:chg (-1) (-1)=0:=rfl;have k5:(-(-1):Int)=1:=rfl
   rcases h4 with e2|e2
   ·rw [e2];omega
   ·rw [e2,k5];omega
  ·rw [e,if_neg (by decide),h6,h5]
   have k1:chg 1 1=0:=rfl;have k2:chg 1 (-1)=1:=rfl;have k3:chg (-1) 1=1:=rfl;have k4:chg (-1) (-1)=0:=rfl;have k5:(-(-1):Int)=1:=rfl
   rcases h4 with e2|e2
   ·rw [e2];omega
   ·rw [e2,k5];omega
def vF (c:List (List Rat)) (x:Rat):Int:=flipsF c (atF x)
theorem Gt.same {a b s:Rat} {c:List (List Rat)} (h:Gt a b s c):∃N:Int,∀x,a≤x→x≤b→vF c x=N:=by
 obtain⟨N,hN⟩:=h.const;refine⟨N,fun x h1 h2=>?_⟩
 have:=hN x h1 h2 0
 have e:chg 0 (si s)=0:=rfl;rw [e,Int.zero_add] at this;exact this
theorem Gt.head {a b s:Rat} {p:List Rat} {c:List (List Rat)} (h:Gt a b s c):∃N:Int,∀x,a≤x→x≤b→vF (p :: c) x=chg (atF x p) (si s)+N:=by
 obtain⟨N,hN⟩:=h.const;refine⟨N,fun x h1 h2=>?_⟩
 show flipsU 0 (atF x p :: c.map (atF x))=_
 rw [flips_cons]
 rcases at_cases x p with ⟨e,-⟩|⟨e,-⟩|⟨e,-⟩
 ·rw [e,if_pos rfl,hN x h1 h2]
 ·rw [e,if_neg (by decide),hN x h1 h2]
  have e2:chg 0 1=0:=rfl;rw [e2];omega
 ·rw [e,if_neg (by decide),hN x h1 h2]
  have e2:chg 0 (-1)=0:=rfl;rw [e2];omega
theorem small_ex {e K n:Rat} (he:0<e) (hK:0≤K) (hn:0<n):∃d,0<d∧d*K<e∧d≤n:=by
 have h1:0<K+1:=by grind
 have h2:0<(K+1)⁻¹:=Rat.inv_pos.2 h1;have h3:=Rat.mul_inv_cancel (K+1) (by grind);have h4:0<e*(K+1)⁻¹:=Rat.mul_pos he h2
 have h5:e*(K+1)⁻¹*K<e:=by
  have:e*(K+1)⁻¹*K=e*((K+1)*(K+1)⁻¹) - e*(K+1)⁻¹:=by grind
  rw [this,h3];grind
 rcases Rat.le_total (a:=e*(K+1)⁻¹) (b:=n) with h|h
 ·exact⟨_,h4,h5,h⟩
 ·refine⟨n,hn,?_,Rat.le_refl⟩
  have h6:=Rat.mul_nonneg (show 0≤e*(K+1)⁻¹ - n by grind) hK
  grind
inductive Chn:List (List Rat)→Prop
 | one {p:List Rat} {k:Rat}:k≠0→(∀x,evR p x=k)→Chn [p]
 | two {p q:List Rat}:Cop p q→Chn [q]→Chn [p,q]
 | more {p q r s:List Rat} {k:Rat} {l:List (List Rat)}:Cop p q→0<k→(∀x,evR p x=evR s x*evR q x - k*evR r x)→Chn (q :: r :: l)→Chn (p :: q :: r :: l)
theorem pm_of (x:Rat):∃s,Pm s∧0≤s*x:=by
 rcases Rat.le_total (a:=0) (b:=x) with h|h
 ·exact⟨1,.inl rfl,by grind⟩
 ·exact⟨-1,.inr rfl,by grind⟩
theorem Pm.sq {s:Rat} (h:Pm s):s*s=1:=by rcases h with rfl|rfl <;> grind
theorem Ab.pm {K x s:Rat} (h:Ab K x) (hs:Pm s):Ab K (s*x):=by
 have h1:=h.1;have h2:=h.2
 rcases hs with rfl|rfl <;> constructor <;> grind
def Loc (B:Rat) (p:List Rat) (l:List (List Rat)):Prop:=∃ κ:Rat,0<κ∧∀ η:Rat,0<η→∃d e:Rat,0<d∧0<e∧e≤η∧∀a b,Ab B a→Ab B b→a≤b→b - a≤d→(∀s,Pm s→e≤s*evR p a→Gt a b s (p :: l))∧(-e<evR p a→evR p a<e→∃q m s,l=q :: m∧Pm s∧κ≤s*evR q a∧Gt a b s l)
theorem loc_step {B:Rat} (hB:0≤B) {p q:List Rat} {l:List (List Rat)} (hc:Cop p q) (ih:Loc B q l) (hr:∀r m,l=r :: m→∃(S:List Rat) (k:Rat),0<k∧∀x,evR p x=evR S x*evR q x - k*evR r x):Loc B p (q :: l):=by
 obtain⟨u,v,huv⟩:=hc;obtain⟨Ku,ku0,ku⟩:=ev_ab hB u;obtain⟨Kv,kv0,kv⟩:=ev_ab hB v;obtain⟨Kp,kp0,kp⟩:=syn_ab hB p;obtain⟨κ',κ0,ihη⟩:=ih;obtain⟨c,c0,c1,-⟩:=small_ex (e:=1) (K:=2*Ku+2*Kv) (n:=1) (by decide) (by grind) (by decide)
 obtain⟨g,g0,hg⟩:∃g:Rat,0<g∧∀r m,l=r :: m→∃(S:List Rat) (k K:Rat),0<k∧(∀x,evR p x=evR S x*evR q x - k*evR r x)∧(∀x,Ab B x→Ab K (evR S x))∧g*K<k*κ':=by
  cases l with
  | nil=>exact⟨1,by decide,fun r m h=>by cases h⟩
  | cons r m=>
   obtain⟨S,k,k0,hS⟩:=hr r m rfl;obtain⟨K,K0,hK⟩:=ev_ab hB S;obtain⟨g,g0,g1,-⟩:=small_ex (e:=k*κ') (K:=K) (n:=1) (Rat.mul_pos k0 κ0) K0 (by decide);exact⟨g,g0,fun r' m' h=>by injection h with h1 h2;subst h1;exact⟨S,k,K,k0,hS,hK,g1⟩⟩
 refine⟨c,c0,fun η hη=>?_⟩;obtain⟨η',hη0,-,hη1⟩:=small_ex (e:=1) (K:=0) (n:=min c g) (by decide) Rat.le_refl (by rw [Rat.min_def];split <;> assumption);have hηc:η'≤c:=Rat.le_trans hη1 (by rw [Rat.min_def];split <;> grind);have hηg:η'≤g:=Rat.le_trans hη1 (by rw [Rat.min_def];split <;> grind);obtain⟨dq,eq,dq0,eq0,eqη,hq⟩:=ihη η' hη0;obtain⟨e,e0,-,e1⟩:=small_ex (e:=1) (K:=0) (n:=min η c) (by decide) Rat.le_refl (by rw [Rat.min_def];split <;> assumption);have he1:e≤η:=Rat.le_trans e1 (by rw [Rat.min_def];split <;> grind);have he2:e≤c:=Rat.le_trans e1 (by rw [Rat.min_def];split <;> grind);obtain⟨d,d0,d1,d2⟩:=small_ex (e:=e) (K:=Kp) (n:=dq) e0 kp0 dq0;refine⟨d,e,d0,e0,he1,fun a b ha hb hab hba=>?_⟩;obtain⟨t1,t2⟩:=hq a b ha hb hab (Rat.le_trans hba d2)
 constructor
 ·intro s hs hp
  have hfx:Fx s p a b:=fix_near kp d1 ha hb hab hba hs hp;obtain⟨σ,hσ,hσq⟩:=pm_of (evR q a)
  rcases Rat.le_total (a:=eq) (b:=σ*evR q a) with h|h
  ·exact .next hs hfx (t1 σ hσ h)
  ·rcases lt_or_le' (σ*evR q a) eq with h2|h2
   ·obtain⟨r,m,τ,hl,hτ,hτr,hgt⟩:=t2 (by rcases hσ with rfl|rfl <;> grind) (by rcases hσ with rfl|rfl <;> grind)
    obtain⟨S,k,K,k0,hS,hK,gK⟩:=hg r m hl;subst hl
    have hne:τ = -s:=by
     rcases hs with rfl|rfl
     ·rcases hτ with rfl|rfl
      ·exfalso
       have f1:=hS a;have f2:=(hK a ha).mul (show Ab g (evR q a) from ⟨by rcases hσ with rfl|rfl <;> grind,by rcases hσ with rfl|rfl <;> grind⟩);have f3:=f2.2;have f4:=Rat.mul_nonneg (show 0≤k by grind) (show 0≤1*evR r a - κ' by grind)
       grind
      ·rfl
     ·rcases hτ with rfl|rfl
      ·grind
      ·exfalso
       have f1:=hS a;have f2:=(hK a ha).mul (show Ab g (evR q a) from ⟨by rcases hσ with rfl|rfl <;> grind,by rcases hσ with rfl|rfl <;> grind⟩);have f3:=f2.1;have f4:=Rat.mul_nonneg (show 0≤k by grind) (show 0≤-1*evR r a - κ' by grind)
       grind
    rw [hne] at hgt;exact .skip hs hfx hgt
   ·exact .next hs hfx (t1 σ hσ h2)
 ·intro h1 h2
  obtain⟨σ,hσ,hσq⟩:=pm_of (evR q a);have f1:=huv a;have f2:=(ku a ha).mul (show Ab c (evR p a) from ⟨by grind,by grind⟩)
  have hbig:c≤σ*evR q a:=by
   rcases lt_or_le' (σ*evR q a) c with h3|h3
   ·exfalso
    have f3:=(kv a ha).mul (show Ab c (evR q a) from ⟨by rcases hσ with rfl|rfl <;> grind,by rcases hσ with rfl|rfl <;> grind⟩);have f4:=f2.2;have f5:=f3.2
    grind
   ·exact h3
  exact⟨q,l,σ,rfl,hσ,hbig,t1 σ hσ (by grind)⟩
theorem loc_one {B:Rat} {p:List Rat} {k:Rat} (hk:k≠0) (h:∀x,evR p x=k):Loc B p []:=by
 obtain⟨σ,hσ,hσk⟩:=pm_of k;have hpos:0<σ*k:=by rcases hσ with rfl|rfl <;> grind
 refine⟨1,by decide,fun η hη=>?_⟩;obtain⟨e,e0,-,e1⟩:=small_ex (e:=1) (K:=0) (n:=min η (σ*k)) (by decide) Rat.le_refl (by rw [Rat.min_def];split <;> assumption);have he1:e≤η:=Rat.le_trans e1 (by rw [Rat.min_def];split <;> grind);have he2:e≤σ*k:=Rat.le_trans e1 (by rw [Rat.min_def];split <;> grind);refine⟨1,e,by decide,e0,he1,fun a b ha hb hab hba=>⟨fun s hs hp=>.one hs fun x _ _=>?_,fun h1 h2=>?_⟩⟩
 ·rw [h] at hp ⊢
  grind
 ·exfalso
  rw [h] at h1 h2
  rcases hσ with rfl|rfl <;> grind
theorem Chn.loc {B:Rat} (hB:0≤B) {c:List (List Rat)} (h:Chn c):∀p l,c=p :: l→Loc B p l:=by
 induction h with
 | one hk h=>intro p l e;injection e with e1 e2;subst e1 e2;exact loc_one hk h
 | two hc hq ih=>intro p l e;injection e with e1 e2;subst e1 e2;exact loc_step hB hc (ih _ _ rfl) fun r m h=>by cases h
 | more hc hk hr hq ih=>intro p l e;injection e with e1 e2;subst e1 e2;exact loc_step hB hc (ih _ _ rfl) fun r m h=>by injection h with h1 h2;subst h1;exact⟨_,_,hk,hr⟩
theorem co_top_mul {p q:List Rat} (hp:0<dgF p) (hq:0<dgF q):co (mulF p q) (dgF p - 1+(dgF q - 1))=co p (dgF p - 1)*co q (dgF q - 1):=by
 rw [co_mulF];exact cnv_top _ (dgF q - 1) (fun k hk=>dg_ge (p:=q) (by omega)) (dgF p - 1) _ (fun k hk=>dg_ge (p:=p) (by omega))
theorem Mo.quo {p f h:List Rat} (hp:Mo p) (hp0:0<dgF p) (hf:Mo f) (ht:trimF h=h) (e:∀x,evR p x=evR f x*evR h x):Mo h∧0<dgF h:=by
 obtain⟨f0,h0⟩:=dg_parts e hp0;refine⟨⟨ht,.inr ?_⟩,h0⟩;have h1:=dg_mul e f0 h0;have h2:=co_top_mul f0 h0;have tp:topF p=1:=hp.2.resolve_left fun e=>by rw [e] at hp0;cases hp0
 have tf:topF f=1:=hf.2.resolve_left fun e=>by rw [e] at f0;cases f0
 rw [top_eq hp.1] at tp;rw [top_eq hf.1] at tf;rw [top_eq ht];rw [ev_inj (p:=mulF f h) (q:=p) (fun x=>by rw [ev_mulF,e]),show dgF f - 1+(dgF h - 1)=dgF p - 1 by omega,tp,tf] at h2
 grind
theorem Mo.mul {f h:List Rat} (hf:Mo f) (hh:Mo h) (f0:0<dgF f) (h0:0<dgF h):Mo (mulF f h):=by
 have tt:trimF (mulF f h)=mulF f h:=trim_trim _;refine⟨tt,.inr ?_⟩;have h1:=dg_mul (r:=mulF f h) (fun x=>ev_mulF _ _ x) f0 h0;have h2:=co_top_mul f0 h0;have tf:topF f=1:=hf.2.resolve_left fun e=>by rw [e] at f0;cases f0
 have th:topF h=1:=hh.2.resolve_left fun e=>by rw [e] at h0;cases h0
 rw [top_eq hf.1] at tf;rw [top_eq hh.1] at th;rw [top_eq tt,h1,show dgF f+dgF h - 1 - 1=dgF f - 1+(dgF h - 1) by omega,h2,tf,th];grind
theorem Mo.self {p:List Rat} (h:Mo p):monicF p=p:=(mo_mon p).uniq h (mon_dv p).1 (mon_dv p).2
theorem quo_trim (p q:List Rat):trimF (divF p q).1=(divF p q).1:=trim_trim _
theorem quo_eq {p q h:List Rat} (hq:0<dgF q) (ht:trimF h=h) (e:∀x,evR p x=evR q x*evR h x):(divF p q).1=h:=by
 have h1:=(div_exact (p:=p) hq ⟨h,e⟩).2;have h2:=ev_cancel (p:=q) (q:=(divF p q).1) (r:=h) hq fun x=>by rw [←e,h1 x];grind
 have h3:=trim_ev h2
 rwa [quo_trim,ht] at h3
theorem quo_dv {p q:List Rat} (hq:0<dgF q) (h:Dv q p) (x:Rat):evR p x=evR q x*evR (divF p q).1 x:=by
 rw [(div_exact hq h).2 x];grind
def nextP (p:List Rat):List Rat:=commonF p (derivF p)
theorem nextP_mo (p:List Rat):Mo (nextP p):=(gcd_gc p (derivF p)).2
theorem nextP_dv (p:List Rat):Dv (nextP p) p∧Dv (nextP p) (derivF p):=⟨(gcd_gc p (derivF p)).1.1,(gcd_gc p (derivF p)).1.2.1⟩
theorem nextP_pos {p:List Rat} (h:0<dgF p):0<dgF (nextP p):=((nextP_dv p).1.dg h).1
theorem nextP_less {p:List Rat} (h:1<dgF p):dgF (nextP p)<dgF p:=by
 have h1:=dg_deriv p
 have:=((nextP_dv p).2.dg (by omega)).2
 omega
def baseP (p:List Rat):List Rat:=(divF p (nextP p)).1
theorem base_ev {p:List Rat} (h:0<dgF p) (x:Rat):evR p x=evR (nextP p) x*evR (baseP p) x:=quo_dv (nextP_pos h) (nextP_dv p).1 x
theorem base_mo {p:List Rat} (hp:Mo p) (h:0<dgF p):Mo (baseP p)∧0<dgF (baseP p):=hp.quo h (nextP_mo p) (quo_trim _ _) (base_ev h)
theorem pow_add1 (a:Rat) (k:Nat):a ^ (k+1)=a ^ k*a:=Rat.pow_succ ..
theorem mul_pow (a b:Rat):∀k:Nat,(a*b) ^ k=a ^ k*b ^ k
 | 0=>by rw [Rat.pow_zero,Rat.pow_zero,Rat.pow_zero];grind
 | k+1=>by rw [Rat.pow_succ,Rat.pow_succ,Rat.pow_succ,mul_pow a b k];grind
theorem yun_step {p b c:List Rat} (hp:Mo p) (h1:1<dgF p) (hb:∀x,evR p x=evR (nextP p) x*evR b x) (hc:∀x,evR (derivF p) x=evR (nextP p) x*evR c x) (tb:trimF b=b):∃P C,commonF b (subF c (derivF b))=P∧Mo P∧0<dgF P∧1<dgF b∧(∀x,evR b x=evR P x*evR (baseP (nextP p)) x)∧(∀x,evR (subF c (derivF b)) x=evR P x*evR C x)∧trimF C=C∧(∀x,evR (derivF (nextP p)) x=evR (nextP (nextP p)) x*evR C x)∧Cop P (derivF P)∧Cop P (baseP (nextP p)):=by
 have hp0:0<dgF p:=by omega
 have q0:=nextP_pos hp0;have qm:=nextP_mo p;have ql:=nextP_less h1;obtain⟨bm,b0⟩:=hp.quo hp0 qm tb hb;have hbd:=dg_mul hb q0 b0
 have hcop:Cop b c:=by
  obtain⟨-,-,s,t,e⟩:=(gcd_gc p (derivF p)).1;refine⟨s,t,fun x=>?_⟩
  have h2:=ev_cancel (p:=nextP p) (q:=addF (mulF s b) (mulF t c)) (r:=[1]) q0 (fun x=>by
   rw [ev_addF,ev_mulF,ev_mulF,ev_one];have h3:evR (nextP p) x=_:=e x;rw [hb,hc] at h3
   grind) x
  rw [ev_addF,ev_mulF,ev_mulF,ev_one] at h2;exact h2
 generalize hq:nextP p=q at *;have r0:=nextP_pos q0;obtain⟨Bm,B0⟩:=base_mo qm q0;have hB:=base_ev q0;have hC:=quo_dv r0 (nextP_dv q).2
 have hBC:Cop (baseP q) (divF (derivF q) (nextP q)).1:=by
  obtain⟨-,-,s,t,e⟩:=(gcd_gc q (derivF q)).1;refine⟨s,t,fun x=>?_⟩
  have h2:=ev_cancel (p:=nextP q) (q:=addF (mulF s (baseP q)) (mulF t (divF (derivF q) (nextP q)).1)) (r:=[1]) r0 (fun x=>by
   rw [ev_addF,ev_mulF,ev_mulF,ev_one];have h3:evR (nextP q) x=_:=e x;rw [hB,hC] at h3
   grind) x
  rw [ev_addF,ev_mulF,ev_mulF,ev_one] at h2;exact h2
 have hCt:trimF (divF (derivF q) (nextP q)).1=(divF (derivF q) (nextP q)).1:=quo_trim _ _;generalize baseP q=B at *;generalize (divF (derivF q) (nextP q)).1=C at *
 have hrB:∀x,evR (subF c (derivF b)) x*evR B x=evR C x*evR b x:=by
  have h3:=ev_cancel (p:=nextP q) (q:=mulF (subF c (derivF b)) B) (r:=mulF C b) r0 fun x=>by
   rw [ev_mulF,ev_mulF,ev_subF];have h4:=deriv_prod hb x;rw [hc,hC,hB] at h4
   grind
  intro x;have h4:=h3 x;rw [ev_mulF,ev_mulF] at h4;exact h4
 have hdv:Dv B b:=hBC.dv (p:=mulF C b) (fun x=>by rw [ev_mulF]) ⟨subF c (derivF b),fun x=>by rw [ev_mulF,←hrB];grind⟩;have hP:=quo_dv B0 hdv;have hPt:trimF (divF b B).1=(divF b B).1:=quo_trim _ _;generalize (divF b B).1=P at *;obtain⟨Pm,P0⟩:=bm.quo b0 Bm hPt hP
 have hR:∀x,evR (subF c (derivF b)) x=evR P x*evR C x:=by
  have h3:=ev_cancel (p:=B) (q:=subF c (derivF b)) (r:=mulF P C) B0 fun x=>by
   rw [ev_mulF]
   have:=hrB x
   rw [hP] at this
   grind
  intro x;rw [h3,ev_mulF]
 have hgc:commonF b (subF c (derivF b))=P:=by
  obtain⟨s,t,e⟩:=hBC;refine gcd_is ⟨⟨B,fun x=>by rw [hP];grind⟩,⟨C,hR⟩,s,t,fun x=>?_⟩ Pm;rw [hP,hR]
  have:=e x
  grind
 have hcv:∀x,evR c x=evR (mulF (derivF P) B) x+evR P x*evR (addF C (derivF B)) x:=fun x=>by
  have h3:=hR x;rw [ev_subF,deriv_prod hP x] at h3;rw [ev_mulF,ev_addF]
  grind
 have h5:Cop P (mulF (derivF P) B):=(hcop.sub ⟨B,fun x=>by rw [hP];grind⟩).add (c:=scaleF (addF C (derivF B)) (-1)) fun x=>by
  have:=hcv x
  rw [ev_scaleF]
  grind
 refine⟨P,C,hgc,Pm,P0,by omega,fun x=>by rw [hP];grind,hR,hCt,fun x=>by rw [hC],?_,?_⟩
 ·exact(h5.symm.sub ⟨B,fun x=>by rw [ev_mulF]⟩).symm
 ·exact(h5.symm.sub ⟨derivF P,fun x=>by rw [ev_mulF];grind⟩).symm
def moreF (p:List Rat):List Rat:=if 1<(trimF p).length then (divF p (commonF p (derivF p))).1 else [1]
def rpartsU:Nat→List Rat→List (List Rat)
 | 0,_=>[]
 | n+1,p=>if 1<(trimF p).length then monicF (divF (divF p (commonF p (derivF p))).1 (moreF (commonF p (derivF p)))).1 :: rpartsU n (commonF p (derivF p)) else []
theorem more_base {p:List Rat} (hp:Mo p) (h0:0<dgF p):moreF p=baseP p:=by
 unfold moreF
 split
 ·rfl
 ·rename_i h
  have h1:¬ 1<dgF p:=h;obtain⟨m,b0⟩:=base_mo hp h0
  have:=dg_mul (base_ev h0) (nextP_pos h0) b0
  have q0:=nextP_pos h0;exact(mo_one_of m (by omega)).symm
def prodE:Nat→List (List Rat)→Rat→Rat
 | _,[],_=>1
 | k,P :: l,x=>evR P x ^ (k+1)*prodE (k+1) l x
theorem yun_loop:∀(n m:Nat) (p b c:List Rat),Mo p→0<dgF p→(∀x,evR p x=evR (nextP p) x*evR b x)→(∀x,evR (derivF p) x=evR (nextP p) x*evR c x)→trimF b=b→dgF p≤n→dgF p≤m→partsU n b c=rpartsU m p∧(∀l ∈ partsU n b c,Mo l∧0<dgF l∧Cop l (derivF l)∧Dv l b)∧(partsU n b c).Pairwise Cop∧∀k x,prodE k (partsU n b c) x=evR p x*evR b x ^ k
 | 0,m,p,b,c,hp,h0,_,_,_,hn,_=>by omega
 | n+1,0,p,b,c,hp,h0,_,_,_,hn,hm=>by omega
 | n+1,m+1,p,b,c,hp,h0,hb,hc,tb,hn,hm=>by
  have q0:=nextP_pos h0;have qm:=nextP_mo p
  rcases Nat.lt_or_ge 1 (dgF p) with h1|h1
  ·obtain⟨P,C,e1,Pm,P0,b1,e2,e3,tC,e4,c1,c2⟩:=yun_step hp h1 hb hc tb
   have ql:=nextP_less h1;obtain⟨Bm,B0⟩:=base_mo qm q0;have hd1:(divF b P).1=baseP (nextP p):=quo_eq P0 Bm.1 e2;have hd2:(divF (subF c (derivF b)) P).1=C:=quo_eq P0 tC e3;obtain⟨i1,i2,i3,i4⟩:=yun_loop n m (nextP p) (baseP (nextP p)) C qm q0 (base_ev q0) e4 Bm.1 (by omega) (by omega)
   have e5:partsU (n+1) b c=P :: partsU n (baseP (nextP p)) C:=by
    show (if 1<(trimF b).length then commonF b (subF c (derivF b)) :: partsU n (divF b (commonF b (subF c (derivF b)))).1 (divF (subF c (derivF b)) (commonF b (subF c (derivF b)))).1 else [])=_
    rw [if_pos (show 1<(trimF b).length from b1),e1,hd1,hd2]
   have e6:rpartsU (m+1) p=P :: rpartsU m (nextP p):=by
    show (if 1<(trimF p).length then monicF (divF (divF p (nextP p)).1 (moreF (nextP p))).1 :: rpartsU m (nextP p) else [])=_
    rw [if_pos (show 1<(trimF p).length from h1),more_base qm q0,show (divF p (nextP p)).1=b from quo_eq q0 tb hb,show (divF b (baseP (nextP p))).1=P from quo_eq B0 Pm.1 fun x=>by rw [e2];grind,Pm.self]
   rw [e5,e6,i1];rw [i1] at i2 i3 i4;refine⟨rfl,fun l hl=>?_,List.pairwise_cons.2 ⟨fun l hl=>?_,i3⟩,fun k x=>?_⟩
   ·rcases List.mem_cons.1 hl with rfl|hl
    ·exact⟨Pm,P0,c1,_,e2⟩
    ·obtain⟨a1,a2,a3,a4⟩:=i2 l hl
     exact⟨a1,a2,a3,a4.trans ⟨P,fun x=>by rw [e2];grind⟩⟩
   ·exact(c2.symm.sub (i2 l hl).2.2.2).symm
   ·show evR P x ^ (k+1)*prodE (k+1) _ x=_
    rw [i4 (k+1) x,hb x,e2 x,mul_pow,pow_add1 (evR P x),pow_add1 (evR (baseP (nextP p)) x)]
    have:=base_ev q0 x
    grind
  ·have hb0:=(dg_parts hb h0).2
   have hd:=dg_mul hb q0 hb0;obtain⟨bm,-⟩:=hp.quo h0 qm tb hb;have hbl:b=[1]:=mo_one_of bm (by omega)
   have e5:partsU (n+1) b c=[]:=by
    unfold partsU;rw [if_neg (show ¬ 1<(trimF b).length from by show ¬ 1<dgF b;omega)]
   have e6:rpartsU (m+1) p=[]:=by
    unfold rpartsU;rw [if_neg (show ¬ 1<(trimF p).length from by show ¬ 1<dgF p;omega)]
   rw [e5,e6];refine⟨rfl,(fun l hl=>by cases hl),List.Pairwise.nil,fun k x=>?_⟩;have hp1:p=[1]:=mo_one_of hp (by omega);rw [hbl,hp1,ev_one]
   show (1:Rat)=1*1 ^ k
   have:∀k:Nat,(1:Rat) ^ k=1:=fun k=>by
    induction k with
    | zero=>rfl
    | succ k ih=>rw [Rat.pow_succ,ih];grind
   rw [this];grind
theorem next_mon (p:List Rat):nextP (monicF p)=nextP p:=by
 rcases Nat.eq_zero_or_pos (dgF p) with h|h
 ·have e1:trimF (monicF p)=trimF p:=trim_ev fun x=>by rw [mon_nil h,dgz h];rfl
  unfold nextP commonF;have h2:=dg_deriv p;have h3:=dg_deriv (monicF p);rw [dg_mon] at h3;rw [mon_nil (p:=derivF p) (by omega),mon_nil (p:=derivF (monicF p)) (by omega),(mo_mon p).self]
  show comU _ _ []=comU _ _ []
  simp [comU]
 ·refine gcd_is ?_ (nextP_mo p)
  obtain⟨g1,g2,s,t,e⟩:=(gcd_gc p (derivF p)).1
  have hd:∀x,evR (derivF (monicF p)) x=evR (derivF p) x*(1 / topF (trimF p)):=fun x=>by
   rw [deriv_prod (p:=p) (q:=[1 / topF (trimF p)]) (fun x=>by rw [ev_const];exact mon_ev h x) x,ev_const]
   have:evR (derivF [1 / topF (trimF p)]) x=0:=dgz (by rw [dg_deriv];have:=dg_len [1 / topF (trimF p)];simp at this;omega) x
   rw [this];grind
  have ht:=inv_ne (top_trim_ne (trim_ne h));refine⟨g1.trans (mon_dv p).2,g2.trans ⟨[1 / topF (trimF p)],fun x=>by rw [ev_const];exact hd x⟩,scaleF s (topF (trimF p)),scaleF t (topF (trimF p)),fun x=>?_⟩;have h2:evR (nextP p) x=_:=e x;rw [h2,ev_scaleF,ev_scaleF,hd,mon_ev h];generalize topF (trimF p)=u at *;generalize 1 / u=v at *;generalize evR s x=A;generalize evR p x=B;generalize evR t x=C;generalize evR (derivF p) x=D;have e1:A*u*(B*v)+C*u*(D*v)=(A*B+C*D)*(u*v):=by grind
  rw [e1,ht];grind
def ci (p:List Int) (i:Nat):Int:=(p[i]?).getD 0
theorem ci_mem {p:List Int} {d:Int} (h:∀i,d ∣ ci p i):∀x ∈ p,d ∣ x:=fun x hx=>by
 obtain⟨i,hi⟩:=List.getElem?_of_mem hx
 have:=h i
 unfold ci at this
 rwa [hi] at this
def pc:List Int→List Int→Nat→Int
 | [],_,_=>0
 | g :: _,H,0=>g*ci H 0
 | g :: G,H,k+1=>g*ci H (k+1)+pc G H k
theorem pc_right (h:Int) (H:List Int):∀(G:List Int) (k:Nat),pc G (h :: H) (k+1)=h*ci G (k+1)+pc G H k
 | [],k=>by show (0:Int)=h*0+0;grind
 | g :: G,0=>by
  show g*ci H 0+pc G (h :: H) 0=h*ci G 0+g*ci H 0
  have e:pc G (h :: H) 0=h*ci G 0:=by
   cases G with
   | nil=>show (0:Int)=h*0;grind
   | cons a G=>show a*h=h*a;grind
  rw [e];grind
 | g :: G,k+1=>by
  show g*ci H (k+1)+pc G (h :: H) (k+1)=h*ci G (k+1)+(g*ci H (k+1)+pc G H k)
  rw [pc_right h H G k];grind
theorem ci_map (c:Int) (p:List Int) (i:Nat):ci (p.map (c*·)) i=c*ci p i:=by
 unfold ci;rw [List.getElem?_map]
 cases p[i]? with
 | none=>show (0:Int)=c*0;grind
 | some x=>rfl
theorem pc_mapl (c:Int) (H:List Int):∀(G:List Int) (k:Nat),pc (G.map (c*·)) H k=c*pc G H k
 | [],k=>by show (0:Int)=c*0;grind
 | g :: G,0=>by show c*g*ci H 0=c*(g*ci H 0);grind
 | g :: G,k+1=>by
  show c*g*ci H (k+1)+pc (G.map (c*·)) H k=c*(g*ci H (k+1)+pc G H k)
  rw [pc_mapl c H G k];grind
theorem pc_mapr (c:Int) (H:List Int):∀(G:List Int) (k:Nat),pc G (H.map (c*·)) k=c*pc G H k
 | [],k=>by show (0:Int)=c*0;grind
 | g :: G,0=>by show g*ci (H.map (c*·)) 0=c*(g*ci H 0);rw [ci_map];grind
 | g :: G,k+1=>by
  show g*ci (H.map (c*·)) (k+1)+pc G (H.map (c*·)) k=c*(g*ci H (k+1)+pc G H k)
  rw [pc_mapr c H G k,ci_map];grind
def Eu (l:Int):Prop:=∀a b:Int,l ∣ a*b→l ∣ a∨l ∣ b
theorem gauss {l:Int} (he:Eu l):∀(n:Nat) (G H:List Int),G.length+H.length≤n→(∀k,l ∣ pc G H k)→(∀i,l ∣ ci G i)∨(∀i,l ∣ ci H i)
 | n,[],H,_,_=>.inl fun i=>Int.dvd_zero l
 | n,_ :: _,[],_,_=>.inr fun i=>Int.dvd_zero l
 | 0,g :: G,h :: H,hn,_=>by simp at hn
 | n+1,g :: G,h :: H,hn,hk=>by
  have h0:l ∣ g*h:=hk 0
  rcases he g h h0 with hg|hh
  ·have h1:∀k,l ∣ pc G (h :: H) k:=fun k=>by
    have h2:l ∣ g*ci (h :: H) (k+1)+pc G (h :: H) k:=hk (k+1);exact(Int.dvd_add_right (Int.dvd_mul_of_dvd_left hg)).1 h2
   rcases gauss he n G (h :: H) (by simp at hn ⊢;omega) h1 with h3|h3
   ·refine .inl fun i=>?_
    cases i with
    | zero=>exact hg
    | succ i=>exact h3 i
   ·exact .inr h3
  ·have h1:∀k,l ∣ pc (g :: G) H k:=fun k=>by
    have h2:l ∣ pc (g :: G) (h :: H) (k+1):=hk (k+1);rw [pc_right] at h2;exact(Int.dvd_add_right (Int.dvd_mul_of_dvd_left hh)).1 h2
   rcases gauss he n (g :: G) H (by simp at hn ⊢;omega) h1 with h3|h3
   ·exact .inl h3
   ·refine .inr fun i=>?_
    cases i with
    | zero=>exact hh
    | succ i=>exact h3 i
theorem prime_dv:∀(n c:Nat),c≤n→1<c→∃l,1<l∧l ∣ c∧∀d,d ∣ l→d=1∨d=l
 | 0,c,hn,h=>by omega
 | n+1,c,hn,h=>by
  by_cases hp:∀d,d ∣ c→d=1∨d=c
  ·exact⟨c,h,Nat.dvd_refl c,hp⟩
  ·obtain⟨d,hd⟩:=Classical.not_forall.1 hp
   obtain⟨d1,d2⟩:=Classical.not_imp.1 hd;have d3:d≠1:=fun e=>d2 (.inl e);have d4:d≠c:=fun e=>d2 (.inr e);have d5:d≠0:=fun e=>by rw [e] at d1;have:=Nat.eq_zero_of_zero_dvd d1;omega
   have d6:=Nat.le_of_dvd (by omega) d1;obtain⟨l,l1,l2,l3⟩:=prime_dv n d (by omega) (by omega);exact⟨l,l1,Nat.dvd_trans l2 d1,l3⟩
theorem prime_eu {l:Nat} (h:∀d,d ∣ l→d=1∨d=l):Eu (l:Int):=fun a b hab=>by
 rw [Int.ofNat_dvd_left,Int.natAbs_mul] at hab;rw [Int.ofNat_dvd_left,Int.ofNat_dvd_left]
 rcases h (Nat.gcd l a.natAbs) (Nat.gcd_dvd_left _ _) with h1|h1
 ·exact .inr (Nat.Coprime.dvd_of_dvd_mul_left h1 hab)
 ·refine .inl ?_
  rw [←h1];exact Nat.gcd_dvd_right _ _
theorem map_div {p:List Int} {d:Int} (h:∀i,d ∣ ci p i):∃q:List Int,p=q.map (d*·):=by
 refine⟨p.map (· / d),?_⟩;rw [List.map_map];have h1:=ci_mem h;clear h
 induction p with
 | nil=>rfl
 | cons a p ih=>
  have h2:=ih fun x hx=>h1 x (List.mem_cons_of_mem _ hx);have h3:d*(a / d)=a:=Int.mul_ediv_cancel' (h1 a (List.mem_cons_self ..));rw [List.map_cons,←h2]
  show a :: p=d*(a / d) :: p
  rw [h3]
theorem content:∀(n c e:Nat) (G H:List Int) (j:Nat),c*e≤n→0<c→0<e→(∀k,((c*e:Nat):Int) ∣ pc G H k)→ci H j=(e:Int)→∀i,(c:Int) ∣ ci G i
 | 0,c,e,G,H,j,hn,hc,he,_,_,i=>by have:=Nat.mul_pos hc he;omega
 | n+1,c,e,G,H,j,hn,hc,he,hk,hj,i=>by
  by_cases h1:c=1
  ·subst h1;exact Int.one_dvd _
  obtain⟨l,l1,⟨c',hc'⟩,l3⟩:=prime_dv c c (Nat.le_refl _) (by omega);have hl:(l:Int)≠0:=by omega
  have hk1:∀k,(l:Int) ∣ pc G H k:=fun k=>Int.dvd_trans (Int.natCast_dvd_natCast.2 ⟨c'*e,by rw [hc',Nat.mul_assoc]⟩) (hk k);have hc0:0<c':=Nat.pos_of_ne_zero fun e=>by rw [e,Nat.mul_zero] at hc';omega
  rcases gauss (prime_eu l3) _ G H (Nat.le_refl _) hk1 with h2|h2
  ·obtain⟨G',rfl⟩:=map_div h2
   have h3:=content n c' e G' H j (by
     have h5:c'*e<c*e:=Nat.mul_lt_mul_of_pos_right (by rw [hc'];exact(Nat.lt_mul_iff_one_lt_left hc0).2 l1) he
     omega) hc0 he (fun k=>by
     have h4:=hk k;rw [pc_mapl,show ((c*e:Nat):Int)=(l:Int)*((c'*e:Nat):Int) by rw [hc',←Int.natCast_mul,Nat.mul_assoc]] at h4;exact Int.dvd_of_mul_dvd_mul_left hl h4) hj i
   rw [ci_map,hc',Int.natCast_mul];exact Int.mul_dvd_mul_left _ h3
  ·have h2j:=h2 j
   obtain⟨H',rfl⟩:=map_div h2;rw [hj] at h2j;obtain⟨e',he'⟩:=Int.natCast_dvd_natCast.1 h2j;have he0:0<e':=Nat.pos_of_ne_zero fun e=>by rw [e,Nat.mul_zero] at he';omega
   refine content n c e' G H' j (by
     have h5:c*e'<c*e:=Nat.mul_lt_mul_of_pos_left (by rw [he'];exact(Nat.lt_mul_iff_one_lt_left he0).2 l1) hc
     omega) hc he0 (fun k=>by
     have h4:=hk k;rw [pc_mapr,show ((c*e:Nat):Int)=(l:Int)*((c*e':Nat):Int) by rw [he',←Int.natCast_mul];congr 1;rw [Nat.mul_left_comm]] at h4
     exact Int.dvd_of_mul_dvd_mul_left hl h4) (by
     rw [ci_map,he',Int.natCast_mul] at hj;exact Int.eq_of_mul_eq_mul_left hl hj) i
def toR (p:List Int):List Rat:=p.map fun z:Int=>(z:Rat)
theorem co_toR (p:List Int) (i:Nat):co (toR p) i=(ci p i:Rat):=by
 unfold co ci toR;rw [List.getElem?_map]
 cases p[i]? <;> rfl
theorem mul_cons (g:Rat) (G H:List Rat) (k:Nat):co (mulF (g :: G) H) k=g*co H k+co (0 :: mulF G H) k:=by
 rw [ev_inj (q:=zipA (H.map (·*g)) (0 :: mulF G H)) (fun x=>by
  rw [ev_mulF,ev_zip,ev_map]
  show (evR G x*x+g)*_=_+(evR (mulF G H) x*x+0)
  rw [ev_mulF];grind),co_zip,co_map]
 grind
theorem co_pc (H:List Int):∀(G:List Int) (k:Nat),(pc G H k:Rat)=co (mulF (toR G) (toR H)) k
 | [],k=>by
  rw [ev_inj (q:=[]) (fun x=>by rw [ev_mulF];show 0*_=(0:Rat);grind)]
  show ((0:Int):Rat)=0
  exact Rat.intCast_zero
 | g :: G,0=>by
  show ((g*ci H 0:Int):Rat)=co (mulF ((g:Rat) :: toR G) (toR H)) 0
  rw [mul_cons,co_toR,Rat.intCast_mul]
  show _=_+(0:Rat)
  grind
 | g :: G,k+1=>by
  show ((g*ci H (k+1)+pc G H k:Int):Rat)=co (mulF ((g:Rat) :: toR G) (toR H)) (k+1)
  rw [mul_cons,co_toR,Rat.intCast_add,Rat.intCast_mul,co_pc H G k]
  rfl
theorem HF.nat {a:Nat} {p:List Rat} (h:HF a p):∃(D:Nat) (n:Nat→Int),0<D∧D<2 ^ a∧∀i,co p i*(D:Rat)=(n i:Rat)∧(n i).natAbs<2 ^ a:=by
 obtain⟨D,n,h0,h1,h2⟩:=h;refine⟨D.natAbs,fun i=>D.sign*n i,by omega,h1,fun i=>⟨?_,?_⟩⟩
 ·have e:((D.natAbs:Nat):Rat)=(D.sign:Rat)*(D:Rat):=by
   rw [←Rat.intCast_mul,Int.mul_comm,Int.mul_sign_self,Rat.intCast_natCast]
  rw [e,Rat.intCast_mul,←(h2 i).1];grind
 ·rw [Int.natAbs_mul,Int.natAbs_sign_of_ne_zero h0,Nat.one_mul];exact(h2 i).2
theorem bq_ex (c:Rat):∃M,Bq M c:=by
 have h1:=Nat.lt_two_pow_self (n:=c.num.natAbs);have h2:=Nat.lt_two_pow_self (n:=c.den);exact⟨c.num.natAbs+c.den,Nat.lt_of_lt_of_le h1 (Nat.pow_le_pow_right (by decide) (by omega)),Nat.lt_of_lt_of_le h2 (Nat.pow_le_pow_right (by decide) (by omega))⟩
theorem hf_ex:∀p:List Rat,∃a,HF a p
 | []=>⟨1,HF.nil (by omega)⟩
 | c :: p=>by
  obtain⟨a,h⟩:=hf_ex p;obtain⟨M,k⟩:=bq_ex c;exact⟨a+M,h.cons k⟩
theorem factor_int {f h p:List Rat} {D:Nat} {n:Nat→Int} (e:∀x,evR p x=evR f x*evR h x) (hh:Mo h) (hh0:0<dgF h) (hD:0<D) (hn:∀i,co p i*(D:Rat)=(n i:Rat)):∃m:Nat→Int,∀i,co f i*(D:Rat)=(m i:Rat):=by
 obtain⟨a,haf⟩:=hf_ex f;obtain⟨b,hbh⟩:=hf_ex h;obtain⟨c,nf,c0,-,c2⟩:=haf.nat;obtain⟨d,nh,d0,-,d2⟩:=hbh.nat
 have hG:∀i,ci ((List.range f.length).map fun i=>(D:Int)*nf i) i=(D:Int)*nf i:=fun i=>by
  unfold ci;rw [List.getElem?_map]
  rcases Nat.lt_or_ge i f.length with h|h
  ·rw [List.getElem?_range h];rfl
  ·rw [List.getElem?_eq_none (by simpa using h)]
   have h1:=(c2 i).1;rw [co_ge h] at h1;have h2:nf i=0:=Rat.intCast_inj.1 (h1.symm.trans (by rw [Rat.intCast_zero];grind));rw [h2];rfl
 have hH:∀i,ci ((List.range h.length).map nh) i=nh i:=fun i=>by
  unfold ci;rw [List.getElem?_map]
  rcases Nat.lt_or_ge i h.length with k|k
  ·rw [List.getElem?_range k];rfl
  ·rw [List.getElem?_eq_none (by simpa using k)]
   have h1:=(d2 i).1;rw [co_ge k] at h1;have h2:nh i=0:=Rat.intCast_inj.1 (h1.symm.trans (by rw [Rat.intCast_zero];grind));rw [h2];rfl
 generalize (List.range f.length).map (fun i=>(D:Int)*nf i)=G at hG;generalize (List.range h.length).map nh=H at hH
 have eG:∀x,evR (toR G) x=evR f x*((c:Rat)*(D:Rat)):=fun x=>by
  rw [←ev_map];refine ev_co (fun i=>?_) x;rw [co_toR,hG,co_map,Rat.intCast_mul,←(c2 i).1,Rat.intCast_natCast];grind
 have eH:∀x,evR (toR H) x=evR h x*(d:Rat):=fun x=>by
  rw [←ev_map];refine ev_co (fun i=>?_) x;rw [co_toR,hH,co_map,←(d2 i).1]
 have hk:∀k,((c*d:Nat):Int) ∣ pc G H k:=fun k=>by
  refine⟨n k,?_⟩
  apply Rat.intCast_inj.1
  rw [co_pc,ev_inj (q:=p.map (·*((c:Rat)*(D:Rat)*(d:Rat)))) (fun x=>by rw [ev_mulF,eG,eH,ev_map,e];grind),co_map,Rat.intCast_mul,←hn k,Rat.intCast_natCast,Rat.natCast_mul]
  grind
 have hj:ci H (dgF h - 1)=(d:Int):=by
  rw [hH]
  apply Rat.intCast_inj.1
  rw [←(d2 _).1]
  have:topF h=1:=hh.2.resolve_left fun e=>by rw [e] at hh0;cases hh0
  rw [top_eq hh.1] at this;rw [this,Rat.intCast_natCast];grind
 have hc:=content _ c d G H (dgF h - 1) (Nat.le_refl _) c0 d0 hk hj;obtain⟨m,hm⟩:∃m:Nat→Int,∀i,ci G i=(c:Int)*m i:=⟨fun i=>(hc i).choose,fun i=>(hc i).choose_spec⟩;refine⟨m,fun i=>?_⟩;have h1:=hm i;rw [hG] at h1;have h2:=congrArg (fun z:Int=>(z:Rat)) h1
 simp only [Rat.intCast_mul,Rat.intCast_natCast] at h2
 rw [←(c2 i).1] at h2;have hc0:(c:Rat)≠0:=fun e=>by have:=Rat.natCast_eq_zero_iff.1 e;omega
 have h3:=Rat.mul_inv_cancel (c:Rat) hc0;generalize (m i:Rat)=z at *;have h4:(c:Rat)*(co f i*(D:Rat))=(c:Rat)*z:=by rw [←h2];grind
 have h5:(c:Rat)⁻¹*((c:Rat)*(co f i*(D:Rat)))=(c:Rat)⁻¹*((c:Rat)*z):=by rw [h4]
 grind
def evI:List Int→Int→Int
 | [],_=>0
 | a :: t,x=>evI t x*x+a
def synI (s:Int):List Int→List Int
 | []=>[]
 | [_]=>[]
 | _ :: b :: t=>evI (b :: t) s :: synI s (b :: t)
theorem synI_len (s:Int):∀p:List Int,(synI s p).length=p.length - 1
 | []=>rfl
 | [_]=>rfl
 | _ :: b :: t=>by
  show (synI s (b :: t)).length+1=_
  rw [synI_len s (b :: t)];simp
theorem evI_syn (s x:Int):∀p:List Int,evI p x=evI p s+(x - s)*evI (synI s p) x
 | []=>by show (0:Int)=0+(x - s)*0;grind
 | [a]=>by show (0*x+a:Int)=(0*s+a)+(x - s)*0;grind
 | a :: b :: t=>by
  have h:=evI_syn s x (b :: t)
  show evI (b :: t) x*x+a=(evI (b :: t) s*s+a)+(x - s)*(evI (synI s (b :: t)) x*x+evI (b :: t) s)
  generalize evI (b :: t) x=u at *;generalize evI (b :: t) s=v at *;generalize evI (synI s (b :: t)) x=z at *
  grind
theorem ci_syn0 (s a:Int) (t:List Int):ci (a :: t) 0=evI (a :: t) s - s*ci (synI s (a :: t)) 0:=by
 cases t with
 | nil=>show a=0*s+a - s*0;grind
 | cons b t=>show a=evI (b :: t) s*s+a - s*evI (b :: t) s;grind
theorem ci_syn (s:Int):∀(p:List Int) (i:Nat),ci p (i+1)=ci (synI s p) i - s*ci (synI s p) (i+1)
 | [],i=>by show (0:Int)=0 - s*0;grind
 | [a],i=>by show (0:Int)=0 - s*0;grind
 | a :: b :: t,0=>by
  show b=evI (b :: t) s - s*ci (synI s (b :: t)) 0
  have:=ci_syn0 s b t
  exact this
 | a :: b :: t,i+1=>ci_syn s (b :: t) i
theorem sub_abs {a b:Int} {A B:Nat} (ha:a.natAbs≤A) (hb:b.natAbs≤B):(a - b).natAbs≤A+B:=by
 have:=Int.natAbs_sub_le a b
 omega
theorem interp (X:Nat):∀(pts:List Nat) (p:List Int) (V:Nat),p.length≤pts.length→pts.Nodup→(∀x ∈ pts,x≤X)→(∀x ∈ pts,(evI p (x:Int)).natAbs≤V)→∀i,(ci p i).natAbs≤V*(2*X+3) ^ pts.length
 | [],p,V,hl,_,_,_,i=>by
  have:p=[]:=List.length_eq_zero_iff.1 (Nat.le_zero.1 hl)
  subst this;exact Nat.zero_le _
 | s :: pts,p,V,hl,hd,hX,hV,i=>by
  have hd':=List.nodup_cons.1 hd;have hs:=hV s (List.mem_cons_self ..);have hsX:=hX s (List.mem_cons_self ..)
  have ih:=interp X pts (synI (s:Int) p) (2*V) (by rw [synI_len];simp at hl;omega) hd'.2 (fun x hx=>hX x (List.mem_cons_of_mem _ hx)) (fun x hx=>by
   have h1:=hV x (List.mem_cons_of_mem _ hx);have h2:=evI_syn (s:Int) (x:Int) p;have h3:((x:Int) - (s:Int))*evI (synI (s:Int) p) (x:Int)=evI p (x:Int) - evI p (s:Int):=by omega
   have h4:=congrArg Int.natAbs h3;rw [Int.natAbs_mul] at h4;have h5:=sub_abs h1 hs
   have h6:0<((x:Int) - (s:Int)).natAbs:=by
    have:x≠s:=fun e=>hd'.1 (e ▸ hx)
    omega
   have h7:=Nat.le_mul_of_pos_left (evI (synI (s:Int) p) (x:Int)).natAbs h6
   omega)
  generalize hK:(2*X+3) ^ pts.length=K at ih;have hK1:1≤K:=by rw [←hK];exact Nat.pow_pos (by omega)
  have hVK:V≤V*K:=Nat.le_mul_of_pos_right V hK1
  have e:V*(2*X+3) ^ (s :: pts).length=2*(X*(V*K))+3*(V*K):=by
   rw [List.length_cons,Nat.pow_succ,hK];grind
  have hsm:∀z:Int,z.natAbs≤2*V*K→((s:Int)*z).natAbs≤2*(X*(V*K)):=fun z hz=>by
   rw [Int.natAbs_mul,Int.natAbs_natCast];have h1:=Nat.mul_le_mul hsX hz;have h2:X*(2*V*K)=2*(X*(V*K)):=by grind
   omega
  have e2:2*V*K=2*(V*K):=Nat.mul_assoc ..;rw [e]
  cases i with
  | zero=>
   cases p with
   | nil=>exact Nat.zero_le _
   | cons a t=>
    rw [ci_syn0 (s:Int) a t]
    have:=sub_abs hs (hsm _ (ih 0))
    omega
  | succ i=>
   rw [ci_syn (s:Int) p i]
   have:=sub_abs (ih i) (hsm _ (ih (i+1)))
   omega
theorem evI_le (A X x:Nat) (hx:x≤X):∀p:List Int,(∀i,(ci p i).natAbs≤A)→(evI p (x:Int)).natAbs≤A*(X+1) ^ p.length
 | [],_=>Nat.zero_le _
 | a :: t,h=>by
  have ih:=evI_le A X x hx t fun i=>h (i+1);have h0:a.natAbs≤A:=h 0
  show (evI t (x:Int)*(x:Int)+a).natAbs≤A*(X+1) ^ (t.length+1)
  have h1:=Int.natAbs_add_le (evI t (x:Int)*(x:Int)) a;rw [Int.natAbs_mul,Int.natAbs_natCast] at h1;generalize hK:(X+1) ^ t.length=K at ih;have hK1:1≤K:=by rw [←hK];exact Nat.pow_pos (by omega)
  have h2:=Nat.mul_le_mul ih hx;have h3:A≤A*K:=Nat.le_mul_of_pos_right A hK1;have e:A*(X+1) ^ (t.length+1)=A*K*X+A*K:=by rw [Nat.pow_succ,hK];grind
  omega
theorem filt_two {α:Type} (f:α→Bool):∀l:List α,l.length=(l.filter f).length+(l.filter fun a=>!f a).length
 | []=>rfl
 | a :: l=>by
  have ih:=filt_two f l;rw [List.filter_cons,List.filter_cons]
  cases f a
  ·simp only [Bool.not_false,if_true,List.length_cons]
   simp only [Bool.false_eq_true,if_false]
   omega
  ·simp only [if_true,List.length_cons,Bool.not_true,Bool.false_eq_true,if_false]
   omega
theorem evI_toR (x:Int):∀p:List Int,evR (toR p) (x:Rat)=(evI p x:Rat)
 | []=>Rat.intCast_zero.symm
 | a :: t=>by
  show evR (toR t) (x:Rat)*(x:Rat)+(a:Rat)=((evI t x*x+a:Int):Rat)
  rw [evI_toR x t,Rat.intCast_add,Rat.intCast_mul]
theorem co_rg (n:Nat→Int) (f:List Rat) (D:Nat) (h:∀i,co f i*(D:Rat)=(n i:Rat)):∀i,ci ((List.range f.length).map n) i=n i:=fun i=>by
 unfold ci;rw [List.getElem?_map]
 rcases Nat.lt_or_ge i f.length with k|k
 ·rw [List.getElem?_range k];rfl
 ·rw [List.getElem?_eq_none (by simpa using k)]
  have h1:=h i;rw [co_ge k] at h1;have h2:n i=0:=Rat.intCast_inj.1 (h1.symm.trans (by rw [Rat.intCast_zero];grind));rw [h2];rfl
theorem ev_rg {n:Nat→Int} {f:List Rat} {D:Nat} (h:∀i,co f i*(D:Rat)=(n i:Rat)) (x:Nat):(evI ((List.range f.length).map n) (x:Int):Rat)=evR f (x:Rat)*(D:Rat):=by
 rw [←evI_toR,Rat.intCast_natCast,←ev_map];refine ev_co (fun i=>?_) _;rw [co_toR,co_rg n f D h,co_map,h]
theorem HF.sub {a b:Nat} {p q:List Rat} (hp:HF a p) (hq:HF b q):HF (a+b+1) (subF p q):=by
 obtain⟨D,n,D0,D1,D2⟩:=hp;obtain⟨E,m,E0,E1,E2⟩:=hq;have hw:2 ^ (a+b+1)=2 ^ a*2 ^ b*2:=by rw [Nat.pow_succ,Nat.pow_add]
 refine⟨D*E,fun i=>n i*E - m i*D,Int.mul_ne_zero D0 E0,?_,fun i=>⟨?_,?_⟩⟩
 ·rw [Int.natAbs_mul]
  have:=Nat.mul_lt_mul'' D1 E1
  omega
 ·rw [ev_inj (q:=zipA p (q.map (·*(-1)))) (fun x=>by rw [ev_subF,ev_zip,ev_map];grind),co_zip,co_map,Rat.intCast_sub,Rat.intCast_mul,Rat.intCast_mul,Rat.intCast_mul,←(D2 i).1,←(E2 i).1]
  grind
 ·show (n i*E - m i*D).natAbs<_
  have h1:=Int.natAbs_sub_le (n i*E) (m i*D);rw [Int.natAbs_mul,Int.natAbs_mul] at h1;have h2:=Nat.mul_lt_mul'' (D2 i).2 E1;have h3:=Nat.mul_lt_mul'' (E2 i).2 D1;rw [Nat.mul_comm (2 ^ b)] at h3;omega
theorem HF.deriv {a v:Nat} {p:List Rat} (hp:HF a p) (hv:dgF p≤2 ^ v):HF (a+v) (derivF p):=by
 obtain⟨D,n,D0,D1,D2⟩:=hp;have hw:2 ^ (a+v)=2 ^ a*2 ^ v:=Nat.pow_add ..;refine⟨D,fun i=>if i+1<dgF p then n (i+1)*((i+1:Nat):Int) else 0,D0,Nat.lt_of_lt_of_le D1 (Nat.pow_le_pow_right (by decide) (by omega)),fun i=>⟨?_,?_⟩⟩
 ·rw [co_deriv]
  show co p (i+1)*((i+1:Nat):Rat)*_=((if i+1<dgF p then n (i+1)*((i+1:Nat):Int) else 0:Int):Rat)
  split
  ·rw [Rat.intCast_mul,←(D2 _).1,Rat.intCast_natCast];grind
  ·rw [dg_ge (by omega),Rat.intCast_zero];grind
 ·show (if i+1<dgF p then n (i+1)*((i+1:Nat):Int) else 0).natAbs<_
  split
  ·rw [Int.natAbs_mul,Int.natAbs_natCast,hw]
   exact Nat.mul_lt_mul'' (D2 _).2 (by omega)
  ·exact Nat.pow_pos (by decide)
theorem HF.scale {a M:Nat} {p:List Rat} {c:Rat} (hp:HF a p) (hc:Bq M c):HF (a+M) (scaleF p c):=by
 obtain⟨D,n,D0,D1,D2⟩:=hp;have hw:2 ^ (a+M)=2 ^ a*2 ^ M:=Nat.pow_add ..;have hden:0<c.den:=Nat.pos_of_ne_zero c.den_nz;refine⟨D*c.den,fun i=>n i*c.num,Int.mul_ne_zero D0 (by omega),?_,fun i=>⟨?_,?_⟩⟩
 ·rw [Int.natAbs_mul,Int.natAbs_natCast,hw]
  exact Nat.mul_lt_mul'' D1 hc.2
 ·rw [co_scaleF,Rat.intCast_mul,Rat.intCast_mul,←(D2 i).1,←den_num c,Rat.intCast_natCast];grind
 ·rw [Int.natAbs_mul,hw]
  exact Nat.mul_lt_mul'' (D2 i).2 hc.1
theorem HF.mul {a b v:Nat} {p q:List Rat} (hp:HF a p) (hq:HF b q) (hv:p.length≤2 ^ v):HF (a+b+v+1) (mulF p q):=by
 obtain⟨D,n,D0,D1,D2⟩:=hp;obtain⟨E,m,E0,E1,E2⟩:=hq
 have hw:2 ^ (a+b+v+1)=2 ^ v*(2 ^ a*2 ^ b)*2:=by
  rw [Nat.pow_succ,Nat.mul_comm (2 ^ v),←Nat.pow_add,←Nat.pow_add]
 have hv1:1≤2 ^ v:=Nat.pow_pos (by decide);refine⟨D*E,fun i=>ipc n m p.length i,Int.mul_ne_zero D0 E0,?_,fun i=>⟨?_,?_⟩⟩
 ·rw [Int.natAbs_mul]
  have h1:=Nat.mul_lt_mul'' D1 E1;have h2:1*(2 ^ a*2 ^ b)≤2 ^ v*(2 ^ a*2 ^ b):=Nat.mul_le_mul_right _ hv1;omega
 ·have e:=co_prod (z:=n) (n:=m) (P:=q.map (·*(E:Rat))) (fun i=>by rw [co_map];exact(E2 i).1) p.length i
  rw [←e,ev_inj (p:=mulF ((List.range p.length).map fun j=>(n j:Rat)) (q.map (·*(E:Rat)))) (q:=(mulF p q).map (·*((D:Rat)*(E:Rat)))) (fun x=>?_),co_map,Rat.intCast_mul];rw [ev_mulF,ev_map,ev_map,ev_mulF]
  have e2:evR ((List.range p.length).map fun j=>(n j:Rat)) x=evR p x*(D:Rat):=by
   rw [←ev_map];refine ev_co (fun i=>?_) x;rw [co_list,co_map,(D2 i).1]
   split
   ·rfl
   ·rw [←(D2 i).1,co_ge (by omega)];grind
  rw [e2];grind
 ·show (ipc n m p.length i).natAbs<_
  have h1:=ipc_bound (f:=n) (g:=m) (K:=2 ^ a) (A:=2 ^ b) (fun j=>Nat.le_of_lt (D2 j).2) (fun j=>Nat.le_of_lt (E2 j).2) i p.length
  have h2:p.length*2 ^ a*2 ^ b≤2 ^ v*(2 ^ a*2 ^ b):=by
   rw [Nat.mul_assoc];exact Nat.mul_le_mul_right _ hv
  have h3:0<2 ^ v*(2 ^ a*2 ^ b):=Nat.mul_pos hv1 (Nat.mul_pos (Nat.pow_pos (by decide)) (Nat.pow_pos (by decide)));omega
end Go.Proofs.YtkoaakefgacokaaGreatDoor
