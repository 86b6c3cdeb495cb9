/- Sturm's theorem over the rationals: changes of sign between two numbers. Square-free parts: Yun's way gives what the document says, and parts have the product that they must have. How great the numbers of quotients, rests and divisors are. -/
import Derived.Test.YtaaoleakkaloeaaGreatDoorGJb
import Derived.Test.YtaaoleakkaloeaaGreatDoorGJa
import Derived.Test.YtaaoleakkaloeaaGreatDoorGYa
set_option linter.unusedVariables false
set_option maxRecDepth 100000
set_option maxHeartbeats 64000000
namespace Go.Proofs.YtaaoleakkaloeaaGreatDoor
set_option linter.unusedSimpArgs false
def Up (s:Rat) (p:List Rat) (a b:Rat):Prop:=∀x y,a≤x→x<y→y≤b→s*evR p x<s*evR p y
def Pie (p:List Rat) (c:List (List Rat)) (a b:Rat):Prop:=
 (∃s,Pm s∧Fx s p a b∧∃N:Int,∀x,a≤x→x≤b→vF c x=N) ∨
 (∃s,Pm s∧Up s p a b∧∃N:Int,∀x,a≤x→x≤b→vF c x=chg (atF x p) (si s)+N)
theorem piece {B:Rat} (hB:0≤B) {p q:List Rat} {l:List (List Rat)} (hc:Chn (p :: q :: l)) {μ:Rat} (hμ:0<μ) (hq:∀x,evR q x=μ*evR (derivF p) x):∃d,0<d∧∀a b,Ab B a→Ab B b→a≤b→b - a≤d→Pie p (p :: q :: l) a b:=by
 obtain⟨κ,κ0,hη⟩:=hc.loc hB _ _ rfl;obtain⟨Kq,kq0,kq⟩:=syn_ab hB q;obtain⟨K2,k20,k2⟩:=syn2_ab hB p;obtain⟨d1,e,d10,e0,-,h1⟩:=hη 1 (by decide)
 obtain⟨d2,d20,d2a,d2b⟩:=small_ex (e:=κ) (K:=2*Kq+2*(μ*K2)) (n:=d1) κ0 (by
  have:=Rat.mul_nonneg (Rat.le_of_lt hμ) k20
  grind) d10
 refine⟨d2,d20,fun a b ha hb hab hba=>?_⟩;obtain⟨t1,t2⟩:=h1 a b ha hb hab (Rat.le_trans hba d2b);obtain⟨σ,hσ,hσp⟩:=pm_of (evR p a)
 rcases lt_or_le' (σ*evR p a) e with h|h
 ·obtain⟨q',m,s,hl,hs,hsq,hg⟩:=t2 (by rcases hσ with rfl|rfl <;> grind) (by rcases hσ with rfl|rfl <;> grind)
  injection hl with hl1 hl2
  subst hl1 hl2;obtain⟨N,hN⟩:=hg.head (p:=p);refine .inr ⟨s,hs,fun x y hax hxy hyb=>?_,N,hN⟩
  have hx:Ab B x:=by
   have q1:=ha.1;have q2:=hb.2
   constructor <;> grind
  have hy:Ab B y:=by
   have q1:=ha.1;have q2:=hb.2
   constructor <;> grind
  have g1:=ev_syn a x q;have g2:=(show Ab d2 (x - a) by constructor <;> grind).mul (kq a x ha hx);have g3:=(show Ab d2 (y - x) by constructor <;> grind).mul (k2 x y hx hy);have g4:=taylor x y p;have g5:=hq x;have g6:=(g2.pm hs);have g7:=(g3.pm hs);have g8:=(show Ab μ μ from ⟨by grind,Rat.le_refl⟩).mul g7
  have pos:0<μ*(s*(evR (derivF p) x+(y - x)*evR (syn x (syn x p)) y)):=by
   have b1:=g6.1;have b2:=g8.1
   have e1:μ*(s*(evR (derivF p) x+(y - x)*evR (syn x (syn x p)) y))=s*evR q a+s*((x - a)*evR (syn a q) x)+μ*(s*((y - x)*evR (syn x (syn x p)) y)):=by
    rw [g1] at g5
    grind
   rw [e1]
   grind
  have pos2:0<s*(evR (derivF p) x+(y - x)*evR (syn x (syn x p)) y):=by
   rcases lt_or_le' 0 (s*(evR (derivF p) x+(y - x)*evR (syn x (syn x p)) y)) with h9|h9
   ·exact h9
   ·exfalso
    have:=Rat.mul_nonneg (Rat.le_of_lt hμ) (show 0≤-(s*(evR (derivF p) x+(y - x)*evR (syn x (syn x p)) y)) by grind)
    grind
  have pos3:=Rat.mul_pos (show 0<y - x by grind) pos2;rw [g4]
  grind
 ·obtain⟨N,hN⟩:=(t1 σ hσ h).same
  refine .inl ⟨σ,hσ,?_,N,hN⟩
  have:=t1 σ hσ h
  cases this with
  | next _ hf _=>exact hf
  | skip _ hf _=>exact hf
theorem chg_up {x y s:Rat} {p:List Rat} (hs:Pm s) (h:s*evR p x≤s*evR p y):chg (atF y p) (si s)≤chg (atF x p) (si s):=by
 have e1:chg 0 1=0:=rfl;have e2:chg 1 1=0:=rfl;have e3:chg (-1) 1=1:=rfl;have e4:chg 0 (-1)=0:=rfl;have e5:chg 1 (-1)=1:=rfl;have e6:chg (-1) (-1)=0:=rfl
 rcases hs with rfl|rfl
 ·rw [si_one]
  rcases at_cases x p with ⟨a1,b1⟩|⟨a1,b1⟩|⟨a1,b1⟩ <;> rcases at_cases y p with ⟨a2,b2⟩|⟨a2,b2⟩|⟨a2,b2⟩ <;> rw [a1,a2] <;> first|omega|(exfalso;grind)
 ·rw [si_neg]
  rcases at_cases x p with ⟨a1,b1⟩|⟨a1,b1⟩|⟨a1,b1⟩ <;> rcases at_cases y p with ⟨a2,b2⟩|⟨a2,b2⟩|⟨a2,b2⟩ <;> rw [a1,a2] <;> first|omega|(exfalso;grind)
theorem by_pieces {d:Rat} (hd:0<d) (R:Rat→Rat→Prop) (refl:∀x,R x x) (trans:∀x y z,x≤y→y≤z→R x y→R y z→R x z) {lo hi:Rat} (short:∀a b,lo≤a→a≤b→b≤hi→b - a≤d→R a b):∀(n:Nat) (a b:Rat),lo≤a→a≤b→b≤hi→b - a≤(n:Rat)*d→R a b
 | 0,a,b,h1,h2,h3,h4=>by
  have:a=b:=by
   have e:((0:Nat):Rat)=0:=rfl;rw [e] at h4
   grind
  rw [this];exact refl b
 | n+1,a,b,h1,h2,h3,h4=>by
  rcases lt_or_le' d (b - a) with h|h
  ·refine trans a (a+d) b (by grind) (by grind) (short a (a+d) h1 (by grind) (by grind) (by grind)) (by_pieces hd R refl trans short n (a+d) b (by grind) (by grind) h3 ?_)
   rw [Rat.natCast_add] at h4;have e:((1:Nat):Rat)=1:=rfl;rw [e] at h4
   grind
  ·exact short a b h1 h2 h3 h
theorem arch {d:Rat} (hd:0<d) (x:Rat):∃n:Nat,x≤(n:Rat)*d:=by
 have h3:=Rat.mul_inv_cancel d (by grind)
 obtain⟨n,hn⟩:∃n:Nat,x*d⁻¹≤(n:Rat):=by
  refine⟨(x*d⁻¹).ceil.toNat,?_⟩;have h1:=Rat.le_ceil (x:=x*d⁻¹);have h2:((x*d⁻¹).ceil:Rat)≤(((x*d⁻¹).ceil.toNat:Int):Rat):=Rat.intCast_le_intCast.2 (by omega);rw [Rat.intCast_natCast] at h2;exact Rat.le_trans h1 h2
 refine⟨n,?_⟩;have h4:=Rat.mul_nonneg (show 0≤(n:Rat) - x*d⁻¹ by grind) (Rat.le_of_lt hd);have h5:((n:Rat) - x*d⁻¹)*d=(n:Rat)*d - x*(d*d⁻¹):=by grind
 rw [h5,h3] at h4;generalize (n:Rat)=m at *;clear h3 hn h5
 grind
theorem global {p q:List Rat} {l:List (List Rat)} (hc:Chn (p :: q :: l)) {μ:Rat} (hμ:0<μ) (hq:∀x,evR q x=μ*evR (derivF p) x) (R:Rat→Rat→Prop) (refl:∀x,R x x) (trans:∀x y z,x≤y→y≤z→R x y→R y z→R x z) {lo hi:Rat} (hlh:lo≤hi) (short:∀a b,lo≤a→a≤b→b≤hi→Pie p (p :: q :: l) a b→R a b):R lo hi:=by
 obtain⟨K1,k1,a1⟩:=ab_ex lo;obtain⟨K2,k2,a2⟩:=ab_ex hi;obtain⟨B,b1,b2⟩:=ab_max (K:=K1) (L:=K2);obtain⟨d,d0,h⟩:=piece (B:=B) (by grind) hc hμ hq;obtain⟨n,hn⟩:=arch d0 (hi - lo);have q1:=a1.1;have q2:=a2.2;exact by_pieces d0 R refl trans (fun a b g1 g2 g3 g4=>short a b g1 g2 g3 (h a b ⟨by grind,by grind⟩ ⟨by grind,by grind⟩ g2 g4)) n lo hi Rat.le_refl hlh Rat.le_refl hn
theorem v_down {p q:List Rat} {l:List (List Rat)} (hc:Chn (p :: q :: l)) {μ:Rat} (hμ:0<μ) (hq:∀x,evR q x=μ*evR (derivF p) x) {x y:Rat} (h:x≤y):vF (p :: q :: l) y≤vF (p :: q :: l) x:=by
 refine global hc hμ hq (fun a b=>vF (p :: q :: l) b≤vF (p :: q :: l) a) (fun x=>Int.le_refl _) (fun x y z _ _ h1 h2=>Int.le_trans h2 h1) h fun a b h1 h2 h3 hp=>?_
 rcases hp with ⟨s,hs,hf,N,hN⟩|⟨s,hs,hu,N,hN⟩
 ·rw [hN a Rat.le_refl h2,hN b h2 Rat.le_refl]
  exact Int.le_refl _
 ·rw [hN a Rat.le_refl h2,hN b h2 Rat.le_refl]
  have:s*evR p a≤s*evR p b:=by
   rcases lt_or_le' a b with g|g
   ·exact Rat.le_of_lt (hu a b Rat.le_refl g Rat.le_refl)
   ·have:a=b:=by grind
    rw [this];exact Rat.le_refl
  have:=chg_up hs this
  omega
end Go.Proofs.YtaaoleakkaloeaaGreatDoor
set_option linter.unusedVariables false
set_option maxRecDepth 100000
set_option maxHeartbeats 64000000
namespace Go.Proofs.YtaaoleakkaloeaaGreatDoor
set_option linter.unusedSimpArgs false
theorem co_top_mul {p q:List Rat} (hp:0<dgF p) (hq:0<dgF q):co (mulF p q) (dgF p - 1+(dgF q - 1))=co p (dgF p - 1)*co q (dgF q - 1):=by
 rw [co_mulF];exact cnv_top _ (dgF q - 1) (fun k hk=>dg_ge (p:=q) (by omega)) (dgF p - 1) _ (fun k hk=>dg_ge (p:=p) (by omega))
theorem Mo.quo {p f h:List Rat} (hp:Mo p) (hp0:0<dgF p) (hf:Mo f) (ht:trimF h=h) (e:∀x,evR p x=evR f x*evR h x):Mo h∧0<dgF h:=by
 obtain⟨f0,h0⟩:=dg_parts e hp0;refine⟨⟨ht,.inr ?_⟩,h0⟩;have h1:=dg_mul e f0 h0;have h2:=co_top_mul f0 h0;have tp:topF p=1:=hp.2.resolve_left fun e=>by rw [e] at hp0;cases hp0
 have tf:topF f=1:=hf.2.resolve_left fun e=>by rw [e] at f0;cases f0
 rw [top_eq hp.1] at tp;rw [top_eq hf.1] at tf;rw [top_eq ht];rw [ev_inj (p:=mulF f h) (q:=p) (fun x=>by rw [ev_mulF,e]),show dgF f - 1+(dgF h - 1)=dgF p - 1 by omega,tp,tf] at h2
 grind
theorem Mo.mul {f h:List Rat} (hf:Mo f) (hh:Mo h) (f0:0<dgF f) (h0:0<dgF h):Mo (mulF f h):=by
 have tt:trimF (mulF f h)=mulF f h:=trim_trim _;refine⟨tt,.inr ?_⟩;have h1:=dg_mul (r:=mulF f h) (fun x=>ev_mulF _ _ x) f0 h0;have h2:=co_top_mul f0 h0;have tf:topF f=1:=hf.2.resolve_left fun e=>by rw [e] at f0;cases f0
 have th:topF h=1:=hh.2.resolve_left fun e=>by rw [e] at h0;cases h0
 rw [top_eq hf.1] at tf;rw [top_eq hh.1] at th;rw [top_eq tt,h1,show dgF f+dgF h - 1 - 1=dgF f - 1+(dgF h - 1) by omega,h2,tf,th];grind
theorem Mo.self {p:List Rat} (h:Mo p):monicF p=p:=(mo_mon p).uniq h (mon_dv p).1 (mon_dv p).2
theorem quo_trim (p q:List Rat):trimF (divF p q).1=(divF p q).1:=trim_trim _
theorem quo_eq {p q h:List Rat} (hq:0<dgF q) (ht:trimF h=h) (e:∀x,evR p x=evR q x*evR h x):(divF p q).1=h:=by
 have h1:=(div_exact (p:=p) hq ⟨h,e⟩).2;have h2:=ev_cancel (p:=q) (q:=(divF p q).1) (r:=h) hq fun x=>by rw [←e,h1 x];grind
 have h3:=trim_ev h2
 rwa [quo_trim,ht] at h3
theorem quo_dv {p q:List Rat} (hq:0<dgF q) (h:Dv q p) (x:Rat):evR p x=evR q x*evR (divF p q).1 x:=by
 rw [(div_exact hq h).2 x];grind
def nextP (p:List Rat):List Rat:=commonF p (derivF p)
theorem nextP_mo (p:List Rat):Mo (nextP p):=(gcd_gc p (derivF p)).2
theorem nextP_dv (p:List Rat):Dv (nextP p) p∧Dv (nextP p) (derivF p):=⟨(gcd_gc p (derivF p)).1.1,(gcd_gc p (derivF p)).1.2.1⟩
theorem nextP_pos {p:List Rat} (h:0<dgF p):0<dgF (nextP p):=((nextP_dv p).1.dg h).1
theorem nextP_less {p:List Rat} (h:1<dgF p):dgF (nextP p)<dgF p:=by
 have h1:=dg_deriv p
 have:=((nextP_dv p).2.dg (by omega)).2
 omega
def baseP (p:List Rat):List Rat:=(divF p (nextP p)).1
theorem base_ev {p:List Rat} (h:0<dgF p) (x:Rat):evR p x=evR (nextP p) x*evR (baseP p) x:=quo_dv (nextP_pos h) (nextP_dv p).1 x
theorem base_mo {p:List Rat} (hp:Mo p) (h:0<dgF p):Mo (baseP p)∧0<dgF (baseP p):=hp.quo h (nextP_mo p) (quo_trim _ _) (base_ev h)
theorem mul_pow (a b:Rat):∀k:Nat,(a*b) ^ k=a ^ k*b ^ k
 | 0=>by rw [Rat.pow_zero,Rat.pow_zero,Rat.pow_zero];grind
 | k+1=>by rw [Rat.pow_succ,Rat.pow_succ,Rat.pow_succ,mul_pow a b k];grind
theorem yun_step {p b c:List Rat} (hp:Mo p) (h1:1<dgF p) (hb:∀x,evR p x=evR (nextP p) x*evR b x) (hc:∀x,evR (derivF p) x=evR (nextP p) x*evR c x) (tb:trimF b=b):∃P C,commonF b (subF c (derivF b))=P∧Mo P∧0<dgF P∧1<dgF b∧(∀x,evR b x=evR P x*evR (baseP (nextP p)) x)∧(∀x,evR (subF c (derivF b)) x=evR P x*evR C x)∧trimF C=C∧(∀x,evR (derivF (nextP p)) x=evR (nextP (nextP p)) x*evR C x)∧Cop P (derivF P)∧Cop P (baseP (nextP p)):=by
 have hp0:0<dgF p:=by omega
 have q0:=nextP_pos hp0;have qm:=nextP_mo p;have ql:=nextP_less h1;obtain⟨bm,b0⟩:=hp.quo hp0 qm tb hb;have hbd:=dg_mul hb q0 b0
 have hcop:Cop b c:=by
  obtain⟨-,-,s,t,e⟩:=(gcd_gc p (derivF p)).1;refine⟨s,t,fun x=>?_⟩
  have h2:=ev_cancel (p:=nextP p) (q:=addF (mulF s b) (mulF t c)) (r:=[1]) q0 (fun x=>by
   rw [ev_addF,ev_mulF,ev_mulF,ev_one];have h3:evR (nextP p) x=_:=e x;rw [hb,hc] at h3
   grind) x
  rw [ev_addF,ev_mulF,ev_mulF,ev_one] at h2;exact h2
 generalize hq:nextP p=q at *;have r0:=nextP_pos q0;obtain⟨Bm,B0⟩:=base_mo qm q0;have hB:=base_ev q0;have hC:=quo_dv r0 (nextP_dv q).2
 have hBC:Cop (baseP q) (divF (derivF q) (nextP q)).1:=by
  obtain⟨-,-,s,t,e⟩:=(gcd_gc q (derivF q)).1;refine⟨s,t,fun x=>?_⟩
  have h2:=ev_cancel (p:=nextP q) (q:=addF (mulF s (baseP q)) (mulF t (divF (derivF q) (nextP q)).1)) (r:=[1]) r0 (fun x=>by
   rw [ev_addF,ev_mulF,ev_mulF,ev_one];have h3:evR (nextP q) x=_:=e x;rw [hB,hC] at h3
   grind) x
  rw [ev_addF,ev_mulF,ev_mulF,ev_one] at h2;exact h2
 have hCt:trimF (divF (derivF q) (nextP q)).1=(divF (derivF q) (nextP q)).1:=quo_trim _ _;generalize baseP q=B at *;generalize (divF (derivF q) (nextP q)).1=C at *
 have hrB:∀x,evR (subF c (derivF b)) x*evR B x=evR C x*evR b x:=by
  have h3:=ev_cancel (p:=nextP q) (q:=mulF (subF c (derivF b)) B) (r:=mulF C b) r0 fun x=>by
   rw [ev_mulF,ev_mulF,ev_subF];have h4:=deriv_prod hb x;rw [hc,hC,hB] at h4
   grind
  intro x;have h4:=h3 x;rw [ev_mulF,ev_mulF] at h4;exact h4
 have hdv:Dv B b:=hBC.dv (p:=mulF C b) (fun x=>by rw [ev_mulF]) ⟨subF c (derivF b),fun x=>by rw [ev_mulF,←hrB];grind⟩;have hP:=quo_dv B0 hdv;have hPt:trimF (divF b B).1=(divF b B).1:=quo_trim _ _;generalize (divF b B).1=P at *;obtain⟨Pm,P0⟩:=bm.quo b0 Bm hPt hP
 have hR:∀x,evR (subF c (derivF b)) x=evR P x*evR C x:=by
  have h3:=ev_cancel (p:=B) (q:=subF c (derivF b)) (r:=mulF P C) B0 fun x=>by
   rw [ev_mulF]
   have:=hrB x
   rw [hP] at this
   grind
  intro x;rw [h3,ev_mulF]
 have hgc:commonF b (subF c (derivF b))=P:=by
  obtain⟨s,t,e⟩:=hBC;refine gcd_is ⟨⟨B,fun x=>by rw [hP];grind⟩,⟨C,hR⟩,s,t,fun x=>?_⟩ Pm;rw [hP,hR]
  have:=e x
  grind
 have hcv:∀x,evR c x=evR (mulF (derivF P) B) x+evR P x*evR (addF C (derivF B)) x:=fun x=>by
  have h3:=hR x;rw [ev_subF,deriv_prod hP x] at h3;rw [ev_mulF,ev_addF]
  grind
 have h5:Cop P (mulF (derivF P) B):=(hcop.sub ⟨B,fun x=>by rw [hP];grind⟩).add (c:=scaleF (addF C (derivF B)) (-1)) fun x=>by
  have:=hcv x
  rw [ev_scaleF]
  grind
 refine⟨P,C,hgc,Pm,P0,by omega,fun x=>by rw [hP];grind,hR,hCt,fun x=>by rw [hC],?_,?_⟩
 ·exact(h5.symm.sub ⟨B,fun x=>by rw [ev_mulF]⟩).symm
 ·exact(h5.symm.sub ⟨derivF P,fun x=>by rw [ev_mulF];grind⟩).symm
theorem next_mon (p:List Rat):nextP (monicF p)=nextP p:=by
 rcases Nat.eq_zero_or_pos (dgF p) with h|h
 ·have e1:trimF (monicF p)=trimF p:=trim_ev fun x=>by rw [mon_nil h,dgz h];rfl
  unfold nextP commonF;have h2:=dg_deriv p;have h3:=dg_deriv (monicF p);rw [dg_mon] at h3;rw [mon_nil (p:=derivF p) (by omega),mon_nil (p:=derivF (monicF p)) (by omega),(mo_mon p).self]
  show comU _ _ []=comU _ _ []
  simp [comU]
 ·refine gcd_is ?_ (nextP_mo p)
  obtain⟨g1,g2,s,t,e⟩:=(gcd_gc p (derivF p)).1
  have hd:∀x,evR (derivF (monicF p)) x=evR (derivF p) x*(1 / topF (trimF p)):=fun x=>by
   rw [deriv_prod (p:=p) (q:=[1 / topF (trimF p)]) (fun x=>by rw [ev_const];exact mon_ev h x) x,ev_const]
   have:evR (derivF [1 / topF (trimF p)]) x=0:=dgz (by rw [dg_deriv];have:=dg_len [1 / topF (trimF p)];simp at this;omega) x
   rw [this];grind
  have ht:=inv_ne (top_trim_ne (trim_ne h));refine⟨g1.trans (mon_dv p).2,g2.trans ⟨[1 / topF (trimF p)],fun x=>by rw [ev_const];exact hd x⟩,scaleF s (topF (trimF p)),scaleF t (topF (trimF p)),fun x=>?_⟩;have h2:evR (nextP p) x=_:=e x;rw [h2,ev_scaleF,ev_scaleF,hd,mon_ev h];generalize topF (trimF p)=u at *;generalize 1 / u=v at *;generalize evR s x=A;generalize evR p x=B;generalize evR t x=C;generalize evR (derivF p) x=D;have e1:A*u*(B*v)+C*u*(D*v)=(A*B+C*D)*(u*v):=by grind
  rw [e1,ht];grind
end Go.Proofs.YtaaoleakkaloeaaGreatDoor
set_option linter.unusedVariables false
set_option maxRecDepth 100000
set_option maxHeartbeats 64000000
namespace Go.Proofs.YtaaoleakkaloeaaGreatDoor
set_option linter.unusedSimpArgs false
theorem int_ne {D:Int} (h:D≠0):(D:Rat)≠0:=fun e=>h (Rat.intCast_inj.1 (e.trans Rat.intCast_zero.symm))
theorem den_num (q:Rat):q*(q.den:Rat)=(q.num:Rat):=by
 have h4:(q.den:Rat)≠0:=fun e=>q.den_nz (Rat.natCast_eq_zero_iff.1 e);have h5:=Rat.mul_inv_cancel (q.den:Rat) h4;have h:=Rat.num_divInt_den q;rw [Rat.divInt_eq_div,Rat.div_def,Rat.intCast_natCast] at h;have h7:q*(q.den:Rat)=((q.num:Rat)*(q.den:Rat)⁻¹)*(q.den:Rat):=congrArg (·*(q.den:Rat)) h.symm;rw [h7];grind
theorem bq_of_mul {a:Nat} {q:Rat} {D n:Int} (hD:D≠0) (h:q*(D:Rat)=(n:Rat)) (h1:D.natAbs<2 ^ a) (h2:n.natAbs<2 ^ a):Bq a q:=by
 have e:q.num*D=n*(q.den:Int):=by
  have h3:=den_num q
  apply Rat.intCast_inj.1
  rw [Rat.intCast_mul,Rat.intCast_mul,←h3,←h,Rat.intCast_natCast]
  grind
 have hc:Nat.Coprime q.num.natAbs q.den:=q.reduced
 have e2:q.num.natAbs*D.natAbs=n.natAbs*q.den:=by
  have:=congrArg Int.natAbs e
  rwa [Int.natAbs_mul,Int.natAbs_mul,Int.natAbs_natCast] at this
 have hd:q.den ∣ D.natAbs:=hc.symm.dvd_of_dvd_mul_left ⟨n.natAbs,by rw [e2,Nat.mul_comm]⟩;have hn:q.num.natAbs ∣ n.natAbs:=hc.dvd_of_dvd_mul_right ⟨D.natAbs,by rw [e2]⟩;refine⟨?_,Nat.lt_of_le_of_lt (Nat.le_of_dvd (by omega) hd) h1⟩
 rcases Nat.eq_zero_or_pos n.natAbs with h0|h0
 ·rw [h0,Nat.zero_mul] at e2
  rcases Nat.mul_eq_zero.1 e2 with h3|h3
  ·rw [h3];omega
  ·omega
 ·exact Nat.lt_of_le_of_lt (Nat.le_of_dvd h0 hn) h2
theorem HF.bq {a:Nat} {p:List Rat} (h:HF a p):∀x ∈ p,Bq a x:=by
 obtain⟨D,n,h0,h1,h2⟩:=h;intro x hx;obtain⟨i,hi⟩:=List.getElem?_of_mem hx;have e:co p i=x:=by unfold co;rw [hi];rfl
 rw [←e];exact bq_of_mul h0 (h2 i).1 h1 (h2 i).2
theorem HF.sm {a M:Nat} {p:List Rat} (h:HF a p) (k:a≤M):smB M p=true:=of_sm fun x hx=>(h.bq x hx).mono k
theorem HF.nil {a:Nat} (h:0<a):HF a []:=⟨1,fun _=>0,by decide,Nat.one_lt_two_pow (by omega),fun i=>⟨by show (0:Rat)*1=0;grind,Nat.pow_pos (by decide)⟩⟩
theorem HF.eqv {a:Nat} {p q:List Rat} (h:HF a p) (e:∀i,co q i=co p i):HF a q:=by
 obtain⟨D,n,h0,h1,h2⟩:=h;exact⟨D,n,h0,h1,fun i=>by rw [e];exact h2 i⟩
theorem HF.pos {a:Nat} {p:List Rat} (h:HF a p):0<a:=by
 obtain⟨D,n,h0,h1,-⟩:=h
 rcases Nat.eq_zero_or_pos a with e|e
 ·rw [e] at h1;omega
 ·exact e
theorem HF.cons {a M:Nat} {p:List Rat} {c:Rat} (h:HF a p) (hc:Bq M c):HF (a+M) (c :: p):=by
 obtain⟨D,n,h0,h1,h2⟩:=h;have hp:2 ^ (a+M)=2 ^ a*2 ^ M:=Nat.pow_add ..;have hden:0<c.den:=Nat.pos_of_ne_zero c.den_nz;have h3:=den_num c;refine⟨D*c.den,fun i=>match i with|0=>c.num*D|i+1=>n i*c.den,Int.mul_ne_zero h0 (by omega),?_,fun i=>?_⟩
 ·rw [Int.natAbs_mul,hp,Int.natAbs_natCast]
  exact Nat.mul_lt_mul'' h1 hc.2
 ·match i with
  | 0=>
   refine⟨?_,?_⟩
   ·show c*((D*c.den:Int):Rat)=((c.num*D:Int):Rat)
    rw [Rat.intCast_mul,Rat.intCast_mul,←h3,Rat.intCast_natCast];grind
   ·show (c.num*D).natAbs<_
    rw [Int.natAbs_mul,hp,Nat.mul_comm (2 ^ a)];exact Nat.mul_lt_mul'' hc.1 h1
  | i+1=>
   refine⟨?_,?_⟩
   ·show co p i*((D*c.den:Int):Rat)=((n i*c.den:Int):Rat)
    rw [Rat.intCast_mul,Rat.intCast_mul,←(h2 i).1];grind
   ·show (n i*(c.den:Int)).natAbs<_
    rw [Int.natAbs_mul,hp,Int.natAbs_natCast];exact Nat.mul_lt_mul'' (h2 i).2 hc.2
theorem hf_of_bq {M:Nat}:∀p:List Rat,(∀c ∈ p,Bq M c)→HF (p.length*M+1) p
 | [],_=>HF.nil (by omega)
 | c :: p,h=>by
  have h1:=(hf_of_bq p fun c hc=>h c (List.mem_cons_of_mem _ hc)).cons (h c (List.mem_cons_self ..));exact h1.mono (by rw [List.length_cons,Nat.add_mul];omega)
theorem HF.trim {a:Nat} {p:List Rat} (h:HF a p):HF a (trimF p):=h.eqv (co_trim p)
theorem HF.monic {a:Nat} {p:List Rat} (h:HF a p):HF a (monicF p):=by
 rcases Nat.eq_zero_or_pos (dgF p) with h3|h3
 ·rw [mon_nil h3];exact HF.nil h.pos
 obtain⟨D,n,h0,h1,h2⟩:=h;have ht:=dg_top h3;have hn:=(h2 (dgF p - 1)).1
 have hn0:n (dgF p - 1)≠0:=fun e=>by
  rw [e] at hn
  rcases Rat.mul_eq_zero.1 hn with h4|h4
  ·exact ht h4
  ·exact int_ne h0 h4
 refine⟨n (dgF p - 1),n,hn0,(h2 _).2,fun i=>⟨?_,(h2 i).2⟩⟩
 have e:co (monicF p) i=co p i*(1 / topF (trimF p)):=by
  unfold monicF;rw [if_neg (trim_ne h3)];unfold scaleF;rw [co_trim,co_map,co_trim]
 have e2:topF (trimF p)=co p (dgF p - 1):=by rw [top_eq (trim_trim p),dg_trim,co_trim]
 rw [e,e2,←hn,←(h2 i).1]
 have:=inv_ne ht
 grind
def HD (A:Nat) (D:Int) (p:List Rat):Prop:=∀i,∃n:Int,co p i*(D:Rat)=(n:Rat)∧n.natAbs<2 ^ A
theorem HF.hd {a:Nat} {p:List Rat} (h:HF a p):∃D:Int,D≠0∧D.natAbs<2 ^ a∧HD a D p:=by
 obtain⟨D,n,h0,h1,h2⟩:=h;exact⟨D,h0,h1,fun i=>⟨n i,h2 i⟩⟩
theorem HD.hf {a A:Nat} {D:Int} {p:List Rat} (h:HD A D p) (h0:D≠0) (h1:D.natAbs<2 ^ a) (k:a≤A):HF A p:=by
 refine⟨D,fun i=>(h i).choose,h0,Nat.lt_of_lt_of_le h1 (Nat.pow_le_pow_right (by decide) k),fun i=>(h i).choose_spec⟩
theorem HD.next {A b:Nat} {D E:Int} {rest q:List Rat} (h:HD A D rest) (k:HD b E q) (hE:E≠0) (hl:q.length≤rest.length) (h0:0<q.length) (ht:topF q≠0):∃m:Int,m≠0∧m.natAbs<2 ^ b∧HD (A+b+1) (D*m) (nextR rest q)∧∀quo:List Rat,HD A D quo→E.natAbs<2 ^ b→HD (A+b+1) (D*m) (quo.set (rest.length - q.length) (topF rest / topF q)):=by
 obtain⟨m,hm,hmb⟩:=k (q.length - 1);obtain⟨t,hT,htb⟩:=h (rest.length - 1)
 have hm0:m≠0:=fun e=>by
  rw [e] at hm
  rcases Rat.mul_eq_zero.1 hm with h4|h4
  ·exact ht h4
  ·exact int_ne hE h4
 have hp:2 ^ (A+b)=2 ^ A*2 ^ b:=Nat.pow_add ..;have hp1:2 ^ (A+b+1)=2 ^ A*2 ^ b*2:=by rw [Nat.pow_succ,hp]
 have hc:topF rest / topF q*(D:Rat)*(m:Rat)=(t:Rat)*(E:Rat):=by
  rw [←hm,←hT]
  show topF rest / topF q*_*(topF q*_)=topF rest*_*_
  rw [Rat.div_def]
  have:=Rat.mul_inv_cancel (topF q) ht
  grind
 refine⟨m,hm0,hmb,fun i=>?_,fun quo hq hEb i=>?_⟩
 ·obtain⟨n,hn,hnb⟩:=h i
  have e:co (nextR rest q) i=co rest i+co (List.replicate (rest.length - q.length) 0 ++ q) i*(-(topF rest / topF q)):=by
   unfold nextR;rw [co_trim];exact co_les rest q (by omega) _ i
  rw [co_shift] at e
  by_cases hi:i<rest.length - q.length
  ·rw [if_pos hi] at e
   refine⟨n*m,?_,?_⟩
   ·rw [e,Rat.intCast_mul,Rat.intCast_mul,←hn];grind
   ·rw [Int.natAbs_mul,hp1]
    have:=Nat.mul_lt_mul'' hnb hmb
    omega
  ·rw [if_neg hi] at e
   obtain⟨u,hu,hub⟩:=k (i - (rest.length - q.length));refine⟨n*m - u*t,?_,?_⟩
   ·rw [e,Rat.intCast_sub,Rat.intCast_mul,Rat.intCast_mul,Rat.intCast_mul,←hn]
    have h5:co q (i - (rest.length - q.length))*(topF rest / topF q*(D:Rat)*(m:Rat))=(u:Rat)*(t:Rat):=by
     rw [hc,←hu];grind
    grind
   ·have h6:=Nat.mul_lt_mul'' hnb hmb
    have h7:=Nat.mul_lt_mul'' hub htb;have h8:=Int.natAbs_sub_le (n*m) (u*t);rw [Int.natAbs_mul,Int.natAbs_mul] at h8;rw [Nat.mul_comm (2 ^ b)] at h7;rw [hp1];omega
 ·rcases Nat.lt_or_ge (rest.length - q.length) quo.length with hk|hk
  ·by_cases hi:i=rest.length - q.length
   ·subst hi
    have e:co (quo.set (rest.length - q.length) (topF rest / topF q)) (rest.length - q.length)=topF rest / topF q:=by
     show ((quo.set (rest.length - q.length) (topF rest / topF q))[rest.length - q.length]?).getD 0=_
     rw [List.getElem?_set_self hk];rfl
    refine⟨t*E,?_,?_⟩
    ·rw [e,Rat.intCast_mul,Rat.intCast_mul,←hc];grind
    ·rw [Int.natAbs_mul,hp1]
     have:=Nat.mul_lt_mul'' htb hEb
     omega
   ·obtain⟨n,hn,hnb⟩:=hq i
    have e:co (quo.set (rest.length - q.length) (topF rest / topF q)) i=co quo i:=by
     show ((quo.set (rest.length - q.length) (topF rest / topF q))[i]?).getD 0=_
     rw [List.getElem?_set_ne (by omega)];rfl
    refine⟨n*m,?_,?_⟩
    ·rw [e,Rat.intCast_mul,Rat.intCast_mul,←hn];grind
    ·rw [Int.natAbs_mul,hp1]
     have:=Nat.mul_lt_mul'' hnb hmb
     omega
  ·obtain⟨n,hn,hnb⟩:=hq i
   rw [List.set_eq_of_length_le hk];refine⟨n*m,?_,?_⟩
   ·rw [Rat.intCast_mul,Rat.intCast_mul,←hn];grind
   ·rw [Int.natAbs_mul,hp1]
    have:=Nat.mul_lt_mul'' hnb hmb
    omega
theorem divU_hd {b:Nat} {E:Int} {q:List Rat} (k:HD b E q) (hE:E≠0) (hEb:E.natAbs<2 ^ b) (h0:0<q.length) (ht:topF q≠0) (M:Nat):∀(n:Nat) (rest quo:List Rat) (A:Nat) (D:Int),rest.length<n→D≠0→D.natAbs<2 ^ A→HD A D rest→HD A D quo→A+rest.length*(b+1)≤M→divB M n rest q=true∧HF M (divU n quo rest q).1∧HF M (divU n quo rest q).2
 | 0,rest,quo,A,D,hn,_,_,_,_,_=>by omega
 | n+1,rest,quo,A,D,hn,hD,hDb,hr,hq,hM=>by
  show (if rest.length<q.length then true else smB M rest && divB M n (nextR rest q) q)=true∧HF M (if rest.length<q.length then (quo,rest) else divU n (quo.set (rest.length - q.length) (topF rest / topF q)) (nextR rest q) q).1∧HF M (if rest.length<q.length then (quo,rest) else divU n (quo.set (rest.length - q.length) (topF rest / topF q)) (nextR rest q) q).2
  by_cases h:rest.length<q.length
  ·rw [if_pos h,if_pos h]
   exact⟨rfl,(hq.hf hD hDb (Nat.le_refl _)).mono (by omega),(hr.hf hD hDb (Nat.le_refl _)).mono (by omega)⟩
  ·rw [if_neg h,if_neg h]
   obtain⟨m,hm0,hmb,h1,h2⟩:=hr.next k hE (by omega) h0 ht;have h3:=next_len rest q (by omega) h0 ht
   have h4:(D*m).natAbs<2 ^ (A+b+1):=by
    rw [Int.natAbs_mul,Nat.pow_succ,Nat.pow_add]
    have:=Nat.mul_lt_mul'' hDb hmb
    omega
   have h5:A+b+1+(nextR rest q).length*(b+1)≤M:=by
    have:((nextR rest q).length+1)*(b+1)≤rest.length*(b+1):=Nat.mul_le_mul_right _ h3
    rw [Nat.add_mul,Nat.one_mul] at this;omega
   obtain⟨i1,i2⟩:=divU_hd k hE hEb h0 ht M n (nextR rest q) _ (A+b+1) (D*m) (by omega) (Int.mul_ne_zero hD hm0) h4 h1 (h2 quo hq hEb) h5;refine⟨?_,i2⟩;rw [i1,(hr.hf hD hDb (Nat.le_refl _)).sm (by omega:A≤M)];rfl
theorem div_hf {a b M N:Nat} {p q:List Rat} (hp:HF a p) (hq:HF b q) (h0:0<dgF q) (hN:dgF p≤N) (hM:a+N*(b+1)≤M) (hb:b≤M):divOk M p q=true∧HF M (divF p q).1∧HF M (divF p q).2:=by
 obtain⟨D,d0,d1,d2⟩:=hp.trim.hd;obtain⟨E,e0,e1,e2⟩:=hq.trim.hd;have h1:(trimF p).length*(b+1)≤N*(b+1):=Nat.mul_le_mul_right _ hN;obtain⟨k1,k2,k3⟩:=divU_hd e2 e0 e1 h0 (top_trim_ne (trim_ne h0)) M ((trimF p).length+1) (trimF p) (List.replicate ((trimF p).length+1 - (trimF q).length) 0) a D (by omega) d0 d1 d2 (fun i=>⟨0,by rw [show co (List.replicate ((trimF p).length+1 - (trimF q).length) 0) i=0 by unfold co;rw [List.getElem?_replicate];split <;> rfl];grind,Nat.pow_pos (by decide)⟩) (by omega);refine⟨?_,k2.trim,k3⟩;unfold divOk;rw [k1,hp.sm (by omega),hq.sm hb];rfl
theorem Tr.snoc {p q x y:List Rat} (h:Tr p q x y) (hy:0<dgF y):Tr p q y (monicF (divF x y).2):=by
 induction h with
 | one u v hv=>exact .more u v _ _ hv (.one _ _ hy)
 | more u v x y hv _ ih=>exact .more u v _ _ hv (ih hy)
def InC (p q u v:List Rat):Prop:=(u=p∧v=q)∨Tr p q u v
theorem InC.next {p q u v:List Rat} (h:InC p q u v) (hv:0<dgF v):InC p q v (monicF (divF u v).2):=by
 rcases h with ⟨rfl,rfl⟩|h
 ·exact .inr (.one _ _ hv)
 ·exact .inr (h.snoc hv)
theorem hf_mo {H:Nat} {p q u v:List Rat} {a w:Nat} (h:InC p q u v) (hp:HF a p) (hq:HF a q) (hw:dgF p+dgF q+2≤2 ^ w) (hH:(a+w+2)*(dgF p+dgF q+2)≤H):HF H v:=by
 have ha:a≤H:=by
  have:(a+w+2)*1≤(a+w+2)*(dgF p+dgF q+2):=Nat.mul_le_mul_left _ (by omega)
  omega
 rcases h with ⟨rfl,rfl⟩|h
 ·exact hq.mono ha
 ·rcases Nat.eq_zero_or_pos (dgF v) with h0|h0
  ·have:=h.dg.2.2.len
   rw [h0] at this;rw [List.length_eq_zero_iff.1 this.symm];exact HF.nil (by have:=hp.pos;omega)
  ·exact(h.small hp hq h0 hw).mono hH
theorem comB_hf {H M N:Nat} {p q:List Rat} {a w:Nat} (mp:Mo p) (mq:Mo q) (hp:HF a p) (hq:HF a q) (hw:dgF p+dgF q+2≤2 ^ w) (hH:(a+w+2)*(dgF p+dgF q+2)≤H) (hN:dgF p≤N) (hN2:dgF q≤N) (hM:H+N*(H+1)≤M):∀(n:Nat) (u v:List Rat),v.length<n→InC p q u v→HF H u→Mo v→dgF u≤N→comB M n u v=true∧HF H (comU n u v)
 | 0,u,v,h,_,_,_,_=>by omega
 | n+1,u,v,hn,hi,hu,hv,hNu=>by
  show (v.isEmpty || (divOk M u v && smB M (divF u v).2 && comB M n v (monicF (divF u v).2)))=true∧HF H (if v=[] then u else comU n v (monicF (divF u v).2))
  by_cases h0:v=[]
  ·subst h0
   exact⟨rfl,hu⟩
  ·rw [if_neg h0]
   have hv0:0<dgF v:=by rw [hv.len];exact List.length_pos_iff.2 h0
   have hHv:=hf_mo hi hp hq hw hH;have hd:=div_dg u v hv0
   have hle:dgF v≤N:=by
    rcases hi with ⟨rfl,rfl⟩|h
    ·exact hN2
    ·have:=h.dg;omega
   obtain⟨k1,-,k3⟩:=div_hf hu hHv hv0 hNu hM (by omega);have hml:=monic_len (divF u v).2;obtain⟨-,hl,-⟩:=div_ev u v hv0;rw [hv.len] at hl;obtain⟨i1,i2⟩:=comB_hf mp mq hp hq hw hH hN hN2 hM n v (monicF (divF u v).2) (by omega) (hi.next hv0) hHv (mo_mon _) hle;refine⟨?_,i2⟩;rw [k1,k3.sm (Nat.le_refl _),i1];simp
theorem com_hf {a w N H M:Nat} {p q:List Rat} (hp:HF a p) (hq:HF a q) (hN:dgF p≤N) (hN2:dgF q≤N) (hw:2*N+2≤2 ^ w) (hH:(a+w+2)*(2*N+2)≤H) (hM:H+N*(H+1)≤M):comOk M p q=true∧HF H (commonF p q):=by
 have h1:dgF (monicF p)+dgF (monicF q)+2≤2*N+2:=by rw [dg_mon,dg_mon];omega
 have h2:(a+w+2)*(dgF (monicF p)+dgF (monicF q)+2)≤(a+w+2)*(2*N+2):=Nat.mul_le_mul_left _ h1
 have ha:a≤H:=by
  have:(a+w+2)*1≤(a+w+2)*(2*N+2):=Nat.mul_le_mul_left _ (by omega)
  omega
 have hml:=monic_len q;obtain⟨k1,k2⟩:=comB_hf (mo_mon p) (mo_mon q) hp.monic hq.monic (by omega) (Nat.le_trans h2 hH) (by rw [dg_mon];exact hN) (by rw [dg_mon];exact hN2) hM (q.length+1) (monicF p) (monicF q) (by omega) (.inl ⟨rfl,rfl⟩) (hp.monic.mono ha) (mo_mon q) (by rw [dg_mon];exact hN);refine⟨?_,k2⟩;unfold comOk;rw [k1,hp.sm (by omega),hq.sm (by omega)];rfl
end Go.Proofs.YtaaoleakkaloeaaGreatDoor
