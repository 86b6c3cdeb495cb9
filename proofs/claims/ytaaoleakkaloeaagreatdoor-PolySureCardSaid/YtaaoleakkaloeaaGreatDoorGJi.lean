/- Sturm's theorem over the rationals: changes of sign between two numbers. The chains that the program makes are Sturm chains. The numbers of Sturm's chain of a polynomial without multiple factors are small. Two polynomials without a common divisor are not both small: how small, told by their numbers. -/
import Derived.Test.YtaaoleakkaloeaaGreatDoorGYw
import Derived.Test.YtaaoleakkaloeaaGreatDoorGHj
import Derived.Test.YtaaoleakkaloeaaGreatDoorGYh
import Derived.Test.YtaaoleakkaloeaaGreatDoorGZa
set_option linter.unusedVariables false
set_option maxRecDepth 100000
set_option maxHeartbeats 64000000
namespace Go.Proofs.YtaaoleakkaloeaaGreatDoor
set_option linter.unusedSimpArgs false
def Up (s:Rat) (p:List Rat) (a b:Rat):Prop:=∀x y,a≤x→x<y→y≤b→s*evR p x<s*evR p y
def Pie (p:List Rat) (c:List (List Rat)) (a b:Rat):Prop:=
 (∃s,Pm s∧Fx s p a b∧∃N:Int,∀x,a≤x→x≤b→vF c x=N) ∨
 (∃s,Pm s∧Up s p a b∧∃N:Int,∀x,a≤x→x≤b→vF c x=chg (atF x p) (si s)+N)
theorem piece {B:Rat} (hB:0≤B) {p q:List Rat} {l:List (List Rat)} (hc:Chn (p :: q :: l)) {μ:Rat} (hμ:0<μ) (hq:∀x,evR q x=μ*evR (derivF p) x):∃d,0<d∧∀a b,Ab B a→Ab B b→a≤b→b - a≤d→Pie p (p :: q :: l) a b:=by
 obtain⟨κ,κ0,hη⟩:=hc.loc hB _ _ rfl;obtain⟨Kq,kq0,kq⟩:=syn_ab hB q;obtain⟨K2,k20,k2⟩:=syn2_ab hB p;obtain⟨d1,e,d10,e0,-,h1⟩:=hη 1 (by decide)
 obtain⟨d2,d20,d2a,d2b⟩:=small_ex (e:=κ) (K:=2*Kq+2*(μ*K2)) (n:=d1) κ0 (by
  have:=Rat.mul_nonneg (Rat.le_of_lt hμ) k20
  grind) d10
 refine⟨d2,d20,fun a b ha hb hab hba=>?_⟩;obtain⟨t1,t2⟩:=h1 a b ha hb hab (Rat.le_trans hba d2b);obtain⟨σ,hσ,hσp⟩:=pm_of (evR p a)
 rcases lt_or_le' (σ*evR p a) e with h|h
 ·obtain⟨q',m,s,hl,hs,hsq,hg⟩:=t2 (by rcases hσ with rfl|rfl <;> grind) (by rcases hσ with rfl|rfl <;> grind)
  injection hl with hl1 hl2
  subst hl1 hl2;obtain⟨N,hN⟩:=hg.head (p:=p);refine .inr ⟨s,hs,fun x y hax hxy hyb=>?_,N,hN⟩
  have hx:Ab B x:=by
   have q1:=ha.1;have q2:=hb.2
   constructor <;> grind
  have hy:Ab B y:=by
   have q1:=ha.1;have q2:=hb.2
   constructor <;> grind
  have g1:=ev_syn a x q;have g2:=(show Ab d2 (x - a) by constructor <;> grind).mul (kq a x ha hx);have g3:=(show Ab d2 (y - x) by constructor <;> grind).mul (k2 x y hx hy);have g4:=taylor x y p;have g5:=hq x;have g6:=(g2.pm hs);have g7:=(g3.pm hs);have g8:=(show Ab μ μ from ⟨by grind,Rat.le_refl⟩).mul g7
  have pos:0<μ*(s*(evR (derivF p) x+(y - x)*evR (syn x (syn x p)) y)):=by
   have b1:=g6.1;have b2:=g8.1
   have e1:μ*(s*(evR (derivF p) x+(y - x)*evR (syn x (syn x p)) y))=s*evR q a+s*((x - a)*evR (syn a q) x)+μ*(s*((y - x)*evR (syn x (syn x p)) y)):=by
    rw [g1] at g5
    grind
   rw [e1]
   grind
  have pos2:0<s*(evR (derivF p) x+(y - x)*evR (syn x (syn x p)) y):=by
   rcases lt_or_le' 0 (s*(evR (derivF p) x+(y - x)*evR (syn x (syn x p)) y)) with h9|h9
   ·exact h9
   ·exfalso
    have:=Rat.mul_nonneg (Rat.le_of_lt hμ) (show 0≤-(s*(evR (derivF p) x+(y - x)*evR (syn x (syn x p)) y)) by grind)
    grind
  have pos3:=Rat.mul_pos (show 0<y - x by grind) pos2;rw [g4]
  grind
 ·obtain⟨N,hN⟩:=(t1 σ hσ h).same
  refine .inl ⟨σ,hσ,?_,N,hN⟩
  have:=t1 σ hσ h
  cases this with
  | next _ hf _=>exact hf
  | skip _ hf _=>exact hf
theorem chg_le {u s:Int}:0≤chg u s∧chg u s≤1:=by
 unfold chg
 split <;> omega
theorem chg_up {x y s:Rat} {p:List Rat} (hs:Pm s) (h:s*evR p x≤s*evR p y):chg (atF y p) (si s)≤chg (atF x p) (si s):=by
 have e1:chg 0 1=0:=rfl;have e2:chg 1 1=0:=rfl;have e3:chg (-1) 1=1:=rfl;have e4:chg 0 (-1)=0:=rfl;have e5:chg 1 (-1)=1:=rfl;have e6:chg (-1) (-1)=0:=rfl
 rcases hs with rfl|rfl
 ·rw [si_one]
  rcases at_cases x p with ⟨a1,b1⟩|⟨a1,b1⟩|⟨a1,b1⟩ <;> rcases at_cases y p with ⟨a2,b2⟩|⟨a2,b2⟩|⟨a2,b2⟩ <;> rw [a1,a2] <;> first|omega|(exfalso;grind)
 ·rw [si_neg]
  rcases at_cases x p with ⟨a1,b1⟩|⟨a1,b1⟩|⟨a1,b1⟩ <;> rcases at_cases y p with ⟨a2,b2⟩|⟨a2,b2⟩|⟨a2,b2⟩ <;> rw [a1,a2] <;> first|omega|(exfalso;grind)
theorem by_pieces {d:Rat} (hd:0<d) (R:Rat→Rat→Prop) (refl:∀x,R x x) (trans:∀x y z,x≤y→y≤z→R x y→R y z→R x z) {lo hi:Rat} (short:∀a b,lo≤a→a≤b→b≤hi→b - a≤d→R a b):∀(n:Nat) (a b:Rat),lo≤a→a≤b→b≤hi→b - a≤(n:Rat)*d→R a b
 | 0,a,b,h1,h2,h3,h4=>by
  have:a=b:=by
   have e:((0:Nat):Rat)=0:=rfl;rw [e] at h4
   grind
  rw [this];exact refl b
 | n+1,a,b,h1,h2,h3,h4=>by
  rcases lt_or_le' d (b - a) with h|h
  ·refine trans a (a+d) b (by grind) (by grind) (short a (a+d) h1 (by grind) (by grind) (by grind)) (by_pieces hd R refl trans short n (a+d) b (by grind) (by grind) h3 ?_)
   rw [Rat.natCast_add] at h4;have e:((1:Nat):Rat)=1:=rfl;rw [e] at h4
   grind
  ·exact short a b h1 h2 h3 h
theorem arch {d:Rat} (hd:0<d) (x:Rat):∃n:Nat,x≤(n:Rat)*d:=by
 have h3:=Rat.mul_inv_cancel d (by grind)
 obtain⟨n,hn⟩:∃n:Nat,x*d⁻¹≤(n:Rat):=by
  refine⟨(x*d⁻¹).ceil.toNat,?_⟩;have h1:=Rat.le_ceil (x:=x*d⁻¹);have h2:((x*d⁻¹).ceil:Rat)≤(((x*d⁻¹).ceil.toNat:Int):Rat):=Rat.intCast_le_intCast.2 (by omega);rw [Rat.intCast_natCast] at h2;exact Rat.le_trans h1 h2
 refine⟨n,?_⟩;have h4:=Rat.mul_nonneg (show 0≤(n:Rat) - x*d⁻¹ by grind) (Rat.le_of_lt hd);have h5:((n:Rat) - x*d⁻¹)*d=(n:Rat)*d - x*(d*d⁻¹):=by grind
 rw [h5,h3] at h4;generalize (n:Rat)=m at *;clear h3 hn h5
 grind
theorem global {p q:List Rat} {l:List (List Rat)} (hc:Chn (p :: q :: l)) {μ:Rat} (hμ:0<μ) (hq:∀x,evR q x=μ*evR (derivF p) x) (R:Rat→Rat→Prop) (refl:∀x,R x x) (trans:∀x y z,x≤y→y≤z→R x y→R y z→R x z) {lo hi:Rat} (hlh:lo≤hi) (short:∀a b,lo≤a→a≤b→b≤hi→Pie p (p :: q :: l) a b→R a b):R lo hi:=by
 obtain⟨K1,k1,a1⟩:=ab_ex lo;obtain⟨K2,k2,a2⟩:=ab_ex hi;obtain⟨B,b1,b2⟩:=ab_max (K:=K1) (L:=K2);obtain⟨d,d0,h⟩:=piece (B:=B) (by grind) hc hμ hq;obtain⟨n,hn⟩:=arch d0 (hi - lo);have q1:=a1.1;have q2:=a2.2;exact by_pieces d0 R refl trans (fun a b g1 g2 g3 g4=>short a b g1 g2 g3 (h a b ⟨by grind,by grind⟩ ⟨by grind,by grind⟩ g2 g4)) n lo hi Rat.le_refl hlh Rat.le_refl hn
theorem v_down {p q:List Rat} {l:List (List Rat)} (hc:Chn (p :: q :: l)) {μ:Rat} (hμ:0<μ) (hq:∀x,evR q x=μ*evR (derivF p) x) {x y:Rat} (h:x≤y):vF (p :: q :: l) y≤vF (p :: q :: l) x:=by
 refine global hc hμ hq (fun a b=>vF (p :: q :: l) b≤vF (p :: q :: l) a) (fun x=>Int.le_refl _) (fun x y z _ _ h1 h2=>Int.le_trans h2 h1) h fun a b h1 h2 h3 hp=>?_
 rcases hp with ⟨s,hs,hf,N,hN⟩|⟨s,hs,hu,N,hN⟩
 ·rw [hN a Rat.le_refl h2,hN b h2 Rat.le_refl]
  exact Int.le_refl _
 ·rw [hN a Rat.le_refl h2,hN b h2 Rat.le_refl]
  have:s*evR p a≤s*evR p b:=by
   rcases lt_or_le' a b with g|g
   ·exact Rat.le_of_lt (hu a b Rat.le_refl g Rat.le_refl)
   ·have:a=b:=by grind
    rw [this];exact Rat.le_refl
  have:=chg_up hs this
  omega
theorem v_fix {p q:List Rat} {l:List (List Rat)} (hc:Chn (p :: q :: l)) {μ:Rat} (hμ:0<μ) (hq:∀x,evR q x=μ*evR (derivF p) x) {x y s:Rat} (h:x≤y) (hs:Pm s) (hf:Fx s p x y):vF (p :: q :: l) y=vF (p :: q :: l) x:=by
 refine global hc hμ hq (fun a b=>vF (p :: q :: l) b=vF (p :: q :: l) a) (fun x=>rfl) (fun x y z _ _ h1 h2=>h2.trans h1) h fun a b h1 h2 h3 hp=>?_
 rcases hp with ⟨_,_,_,N,hN⟩|⟨t,ht,hu,N,hN⟩
 ·rw [hN a Rat.le_refl h2,hN b h2 Rat.le_refl]
 ·rw [hN a Rat.le_refl h2,hN b h2 Rat.le_refl,at_si hs (hf a h1 (Rat.le_trans h2 h3)),at_si hs (hf b (Rat.le_trans h1 h2) h3)]
theorem v_up {p q:List Rat} {l:List (List Rat)} (hc:Chn (p :: q :: l)) {μ:Rat} (hμ:0<μ) (hq:∀x,evR q x=μ*evR (derivF p) x) {x y s:Rat} (h:x≤y) (hs:Pm s) (hf:Up s p x y):vF (p :: q :: l) x - vF (p :: q :: l) y=chg (atF x p) (si s) - chg (atF y p) (si s):=by
 refine global hc hμ hq (fun a b=>vF (p :: q :: l) a - vF (p :: q :: l) b=chg (atF a p) (si s) - chg (atF b p) (si s)) (fun x=>by omega) (fun x y z _ _ h1 h2=>by omega) h fun a b h1 h2 h3 hp=>?_
 rcases hp with ⟨t,ht,hg,N,hN⟩|⟨t,ht,hu,N,hN⟩
 ·rw [hN a Rat.le_refl h2,hN b h2 Rat.le_refl,at_si ht (hg a Rat.le_refl h2),at_si ht (hg b h2 Rat.le_refl)];omega
 ·rw [hN a Rat.le_refl h2,hN b h2 Rat.le_refl]
  rcases lt_or_le' a b with g|g
  ·have f1:=hu a b Rat.le_refl g Rat.le_refl
   have f2:=hf a b h1 g h3
   have:t=s:=by
    rcases ht with rfl|rfl <;> rcases hs with rfl|rfl <;> first|rfl|(exfalso;grind)
   rw [this];omega
  ·have:a=b:=by grind
   rw [this];omega
end Go.Proofs.YtaaoleakkaloeaaGreatDoor
set_option linter.unusedVariables false
set_option maxRecDepth 100000
set_option maxHeartbeats 64000000
namespace Go.Proofs.YtaaoleakkaloeaaGreatDoor
set_option linter.unusedSimpArgs false
theorem base_sq:∀(n:Nat) (p:List Rat),Mo p→0<dgF p→dgF p≤n→Cop (baseP p) (derivF (baseP p))
 | 0,p,_,h0,hn=>by omega
 | n+1,p,hp,h0,hn=>by
  rcases Nat.lt_or_ge 1 (dgF p) with h1|h1
  ·obtain⟨P,C,e1,Pm,P0,b1,e2,e3,tC,e4,c1,c2⟩:=yun_step hp h1 (base_ev h0) (quo_dv (nextP_pos h0) (nextP_dv p).2) (quo_trim _ _)
   have ih:=base_sq n (nextP p) (nextP_mo p) (nextP_pos h0) (by have:=nextP_less h1;omega);have hd:=deriv_prod e2;have f1:Cop P (mulF (derivF P) (baseP (nextP p))):=c1.mul c2 fun x=>ev_mulF _ _ x;have f2:Cop P (derivF (baseP p)):=f1.add (c:=derivF (baseP (nextP p))) fun x=>by rw [ev_mulF,hd]
   have f3:Cop (baseP (nextP p)) (mulF P (derivF (baseP (nextP p)))):=c2.symm.mul ih fun x=>ev_mulF _ _ x;have f4:Cop (baseP (nextP p)) (derivF (baseP p)):=f3.add (c:=derivF P) fun x=>by rw [ev_mulF,hd];grind
   exact(f2.symm.mul f4.symm e2).symm
  ·obtain⟨m,b0⟩:=base_mo hp h0
   have hb:=dg_mul (base_ev h0) (nextP_pos h0) b0;have q0:=nextP_pos h0;rw [mo_one_of m (by omega)];exact⟨[1],[],fun x=>by rw [ev_one,ev_nil];grind⟩
theorem Cop.scale {p q r s:List Rat} {c d:Rat} (h:Cop p q) (hc:c≠0) (hd:d≠0) (hr:∀x,evR r x=evR p x*c) (hs:∀x,evR s x=evR q x*d):Cop r s:=by
 obtain⟨u,v,e⟩:=h;refine⟨scaleF u (1 / c),scaleF v (1 / d),fun x=>?_⟩;rw [ev_scaleF,ev_scaleF,hr,hs];have h1:=inv_ne hc;have h2:=inv_ne hd;have h3:=e x;generalize 1 / c=c' at *;generalize 1 / d=d' at *
 have:evR u x*c'*(evR p x*c)+evR v x*d'*(evR q x*d)=evR u x*evR p x*(c*c')+evR v x*evR q x*(d*d'):=by grind
 rw [this,h1,h2];grind
theorem simple_ev {p:List Rat} (h0:0<dgF p) (x:Rat):evR (simpleF p) x=evR (baseP (monicF p)) x*topF (trimF p):=by
 have q0:=nextP_pos h0;have m0:0<dgF (monicF p):=by rw [dg_mon];exact h0
 have hb:=base_ev m0;rw [next_mon] at hb
 have:=ev_cancel (p:=nextP p) (q:=simpleF p) (r:=scaleF (baseP (monicF p)) (topF (trimF p))) q0 (fun x=>by
  have e:evR p x=evR (nextP p) x*evR (simpleF p) x:=quo_dv q0 (nextP_dv p).1 x;rw [←e,ev_scaleF,mon_back h0,hb];grind) x
 rw [this,ev_scaleF]
theorem simple_cop {p:List Rat} (h0:0<dgF p):Cop (simpleF p) (derivF (simpleF p)):=by
 have m0:0<dgF (monicF p):=by rw [dg_mon];exact h0
 have ht:=top_trim_ne (trim_ne h0);refine(base_sq _ (monicF p) (mo_mon p) m0 (Nat.le_refl _)).scale ht ht (simple_ev h0) fun x=>?_;rw [deriv_prod (p:=baseP (monicF p)) (q:=[topF (trimF p)]) (fun x=>by rw [ev_const];exact simple_ev h0 x),ev_const];have z:evR (derivF [topF (trimF p)]) x=0:=dgz (by rw [dg_deriv];have:=dg_len [topF (trimF p)];simp at this;omega) x;rw [z];grind
theorem simple_dg {p:List Rat} (h0:0<dgF p):0<dgF (simpleF p)∧trimF (simpleF p)=simpleF p∧dgF (simpleF p)≤dgF p:=by
 have e:∀x,evR p x=evR (nextP p) x*evR (simpleF p) x:=fun x=>quo_dv (nextP_pos h0) (nextP_dv p).1 x;have h1:=(dg_parts e h0).2;have h2:=dg_mul e (nextP_pos h0) h1;have h3:=nextP_pos h0;exact⟨h1,quo_trim _ _,by omega⟩
theorem absQ_pos {x:Rat} (h:x≠0):0<absQ x:=by
 unfold absQ
 split
 ·rename_i h1
  rcases Rat.le_total (a:=0) (b:=x) with h2|h2
  ·have:=Rat.num_nonneg.2 h2
   omega
  ·grind
 ·rename_i h1
  have:=Rat.num_nonneg.1 (show 0≤x.num by omega)
  grind
theorem small_ev {p:List Rat} (h:0<dgF p):∃k,0<k∧(∀x,evR (smallF p) x=evR p x*k)∧(∀x,evR p x=evR (smallF p) x*(1 / k))∧0<1 / k:=by
 have ht:=top_trim_ne (trim_ne h);have h1:=absQ_pos ht;have h2:0<(absQ (topF (trimF p)))⁻¹:=Rat.inv_pos.2 h1;have h3:0<1 / absQ (topF (trimF p)):=by rw [Rat.div_def];grind
 refine⟨1 / absQ (topF (trimF p)),h3,fun x=>?_,fun x=>?_,?_⟩
 ·unfold smallF
  rw [if_neg (trim_ne h),ev_scaleF,ev_trim]
 ·unfold smallF
  rw [if_neg (trim_ne h),ev_scaleF,ev_trim]
  have:=inv_ne (show (1 / absQ (topF (trimF p)))≠0 by grind)
  grind
 ·rw [Rat.div_def]
  have:=Rat.inv_pos.2 h3
  grind
theorem small_nil {p:List Rat} (h:dgF p=0):smallF p=[]:=by unfold smallF;rw [if_pos (trim_nil h)]
theorem small_trim (p:List Rat):trimF (smallF p)=smallF p:=by
 unfold smallF
 split
 ·rfl
 ·exact trim_trim _
theorem dgSm (p:List Rat):dgF (smallF p)=dgF p:=by
 rcases Nat.eq_zero_or_pos (dgF p) with h|h
 ·rw [small_nil h,h];rfl
 ·obtain⟨k,k0,h1,h2,-⟩:=small_ev h
  exact Nat.le_antisymm (dg_scale h1) (dg_scale h2)
theorem chain_one (n:Nat) {p:List Rat} (h:p≠[]):chainU (n+1) p []=[p]:=by
 show (if p=[] then [] else if ([]:List Rat)=[] then [p] else _)=_
 rw [if_neg h,if_pos rfl]
theorem chain_two (n:Nat) {p q:List Rat} (h:p≠[]) (hq:q≠[]):chainU (n+1) p q=p :: chainU n q (smallF (scaleF (divF p q).2 (-1))):=by
 show (if p=[] then [] else if q=[] then [p] else _)=_
 rw [if_neg h,if_neg hq]
theorem ne_of_dg {p:List Rat} (h:0<dgF p):p≠[]:=fun e=>by rw [e] at h;exact absurd h (by decide)
theorem chn_of:∀(n:Nat) (p q:List Rat),0<dgF p→0<dgF q→dgF q<n→Cop p q→Chn (chainU (n+1) p q)∧∃l,chainU (n+1) p q=p :: q :: l
 | 0,p,q,_,_,h,_=>by omega
 | n+1,p,q,hp,hq,hn,hc=>by
  rw [chain_two (n+1) (ne_of_dg hp) (ne_of_dg hq)];obtain⟨d1,-,-⟩:=div_ev p q hq;have dr:=div_dg p q hq;have e1:∀x,evR (scaleF (divF p q).2 (-1)) x=evR (divF p q).2 x*(-1):=fun x=>ev_scaleF _ _ x;have dr2:dgF (scaleF (divF p q).2 (-1))=dgF (divF p q).2:=Nat.le_antisymm (dg_scale e1) (dg_scale (c:=-1) fun x=>by rw [e1];grind)
  rcases Nat.eq_zero_or_pos (dgF (divF p q).2) with h|h
  ·rw [small_nil (by omega),chain_one n (ne_of_dg hq)]
   refine⟨.two hc ?_,[],rfl⟩;obtain⟨u,v,e⟩:=hc
   have h1:Dv q [1]:=⟨addF (mulF u (divF p q).1) v,fun x=>by
    rw [ev_one,ev_addF,ev_mulF,←e x,d1 x,dgz h];grind⟩
   have h2:=(h1.dg (by decide)).2;have h3:dgF [(1:Rat)]=1:=by decide
   have h4:∀x,evR q x=co q 0:=fun x=>ev_dg1 (by omega) x;refine .one (k:=co q 0) (fun z=>?_) h4
   have:=dg_of_zero (p:=q) fun x=>by rw [h4,z]
   omega
  ·obtain⟨k,k0,s1,s2,k1⟩:=small_ev (p:=scaleF (divF p q).2 (-1)) (by omega)
   have dr3:dgF (smallF (scaleF (divF p q).2 (-1)))=dgF (divF p q).2:=by rw [dgSm,dr2]
   have rel:∀x,evR p x=evR (divF p q).1 x*evR q x - 1 / k*evR (smallF (scaleF (divF p q).2 (-1))) x:=fun x=>by
    have f1:=s2 x;rw [e1] at f1;rw [d1 x]
    grind
   have hc2:Cop q (smallF (scaleF (divF p q).2 (-1))):=by
    have g1:Cop q (divF p q).2:=hc.symm.add (c:=scaleF (divF p q).1 (-1)) fun x=>by rw [ev_scaleF,d1 x];grind
    exact g1.scale (c:=1) (d:=-1*k) (by decide) (by grind) (fun x=>by grind) fun x=>by rw [s1,e1];grind
   obtain⟨i1,l,i2⟩:=chn_of n q (smallF (scaleF (divF p q).2 (-1))) hq (by omega) (by omega) hc2;refine⟨?_,chainU n (smallF (scaleF (divF p q).2 (-1))) (smallF (scaleF (divF q (smallF (scaleF (divF p q).2 (-1)))).2 (-1))),?_⟩
   ·rw [i2] at i1 ⊢
    exact .more hc k1 rel i1
   ·rw [chain_two n (ne_of_dg hq) (ne_of_dg (by omega))]
theorem own_chain {p:List Rat} (h0:0<dgF p):(dgF (simpleF p)=1∧∃c,ownF p=[c]∧∃k,k≠0∧∀x,evR c x=k)∨(1<dgF (simpleF p)∧∃p0 q l k μ,ownF p=p0 :: q :: l∧Chn (p0 :: q :: l)∧0<k∧(∀x,evR p0 x=evR (simpleF p) x*k)∧0<μ∧∀x,evR q x=μ*evR (derivF p0) x):=by
 obtain⟨s0,st,-⟩:=simple_dg h0;have hc:=simple_cop h0;unfold ownF chainF;have hsl:dgF (simpleF p)=(simpleF p).length:=by unfold dgF;rw [st]
 generalize simpleF p=s at *;obtain⟨k,k0,e1,e2,k1⟩:=small_ev s0
 rcases Nat.lt_or_ge 1 (dgF s) with h1|h1
 ·have d0:0<dgF (derivF s):=by rw [dg_deriv];omega
  obtain⟨m,m0,f1,f2,m1⟩:=small_ev d0;obtain⟨i1,l,i2⟩:=chn_of (s.length+(derivF s).length+1) (smallF s) (smallF (derivF s)) (by rw [dgSm];exact s0) (by rw [dgSm];exact d0) (by rw [dgSm,dg_deriv];omega) (hc.scale (by grind) (by grind) e1 f1);refine .inr ⟨h1,smallF s,smallF (derivF s),l,k,m*(1 / k),i2,i2 ▸ i1,k0,e1,Rat.mul_pos m0 k1,fun x=>?_⟩
  have hd:evR (derivF (smallF s)) x=evR (derivF s) x*k:=by
   rw [deriv_prod (p:=s) (q:=[k]) (fun x=>by rw [ev_const];exact e1 x),ev_const];have z:evR (derivF [k]) x=0:=dgz (by rw [dg_deriv];have:=dg_len [k];simp at this;omega) x;rw [z];grind
  rw [f1,hd]
  have:=inv_ne (show k≠0 by grind)
  generalize 1 / k=k' at *;have e3:m*k'*(evR (derivF s) x*k)=m*evR (derivF s) x*(k*k'):=by grind
  rw [e3,this];grind
 ·refine .inl ⟨by omega,smallF s,?_,co (smallF s) 0,?_,fun x=>ev_dg1 (by rw [dgSm];omega) x⟩
  ·rw [small_nil (p:=derivF s) (by rw [dg_deriv];omega)]
   exact chain_one _ (ne_of_dg (by rw [dgSm];exact s0))
  ·intro z
   have:=dg_of_zero (p:=smallF s) fun x=>by rw [ev_dg1 (by rw [dgSm];omega) x,z]
   rw [dgSm] at this;omega
end Go.Proofs.YtaaoleakkaloeaaGreatDoor
set_option linter.unusedVariables false
set_option maxRecDepth 100000
set_option maxHeartbeats 64000000
namespace Go.Proofs.YtaaoleakkaloeaaGreatDoor
set_option linter.unusedSimpArgs false
theorem HF.flip {a:Nat} {p q:List Rat} {s:Rat} (h:HF a p) (hs:Pm s) (e:∀x,evR q x=s*evR p x):HF a q:=by
 obtain⟨D,n,h0,h1,h2⟩:=h
 have ec:∀i,co q i=co p i*s:=fun i=>by
  rw [ev_inj (p:=q) (q:=scaleF p s) (fun x=>by rw [e,ev_scaleF];grind),co_scaleF]
 rcases hs with rfl|rfl
 ·exact⟨D,n,h0,h1,fun i=>⟨by rw [ec,←(h2 i).1];grind,(h2 i).2⟩⟩
 ·exact⟨D,fun i=>-n i,h0,h1,fun i=>⟨by rw [ec,Rat.intCast_neg,←(h2 i).1];grind,by rw [Int.natAbs_neg];exact(h2 i).2⟩⟩
def Sg (u U:List Rat):Prop:=∃s,Pm s∧∀x,evR u x=s*evR U x
theorem Sg.dg {u U:List Rat} (h:Sg u U):dgF u=dgF U:=by
 obtain⟨s,hs,e⟩:=h;refine Nat.le_antisymm (dg_scale (c:=s) fun x=>by rw [e];grind) (dg_scale (c:=s) fun x=>?_);rw [e]
 have:=hs.sq
 have h2:s*evR U x*s=s*s*evR U x:=by grind
 rw [h2,this];grind
theorem Sg.hf {a:Nat} {u U:List Rat} (h:Sg u U) (k:HF a U):HF a u:=by
 obtain⟨s,hs,e⟩:=h;exact k.flip hs e
theorem small_sg (p:List Rat):Sg (smallF p) (monicF p):=by
 rcases Nat.eq_zero_or_pos (dgF p) with h|h
 ·rw [small_nil h,mon_nil h]
  exact⟨1,.inl rfl,fun x=>by show (0:Rat)=1*0;grind⟩
 ·have ht:=top_trim_ne (trim_ne h)
  have e:∀x,evR (smallF p) x=evR p x*(1 / absQ (topF (trimF p))):=fun x=>by
   unfold smallF;rw [if_neg (trim_ne h),ev_scaleF,ev_trim]
  rcases lt_or_le' (topF (trimF p)) 0 with g|g
  ·refine⟨-1,.inr rfl,fun x=>?_⟩
   rw [e,mon_ev h]
   have:absQ (topF (trimF p)) = -(topF (trimF p)):=by
    unfold absQ;rw [if_pos]
    have:=num_pos' (show 0 < -(topF (trimF p)) by grind)
    rw [Rat.neg_num] at this;omega
   rw [this];have a1:=inv_ne ht;have a2:=inv_ne (show -(topF (trimF p))≠0 by grind);generalize topF (trimF p)=c at *;generalize 1 / c=w at *;generalize 1 / (-c)=u at *;have a3:u*(c*w) = -w*(-c*u):=by grind
   rw [a1,a2] at a3;have a4:u = -w:=by grind
   rw [a4];grind
  ·refine⟨1,.inl rfl,fun x=>?_⟩
   rw [e,mon_ev h]
   have:absQ (topF (trimF p))=topF (trimF p):=by
    unfold absQ;rw [if_neg]
    have:=Rat.num_nonneg.2 g
    omega
   rw [this];grind
theorem Sg.mon {u U:List Rat} (h:Sg u U):monicF u=monicF U:=by
 obtain⟨s,hs,e⟩:=h
 have h2:∀x,evR U x=evR u x*s:=fun x=>by
  rw [e]
  have:=hs.sq
  have h3:s*evR U x*s=s*s*evR U x:=by grind
  rw [h3,this];grind
 exact(mo_mon u).uniq (mo_mon U) (((mon_dv u).1.trans ⟨[s],fun x=>by rw [ev_const,h2]⟩).trans (mon_dv U).2) (((mon_dv U).1.trans ⟨[s],fun x=>by rw [ev_const,e];grind⟩).trans (mon_dv u).2)
theorem next_sg {u v U V:List Rat} (hu:Sg u U) (hv:Sg v V) (hV:0<dgF V):Sg (smallF (scaleF (divF u v).2 (-1))) (monicF (divF U V).2):=by
 have hv0:0<dgF v:=by rw [hv.dg];exact hV
 obtain⟨d1,d2,d3⟩:=div_ev u v hv0;obtain⟨f1,f2,f3⟩:=div_ev U V hV;obtain⟨s,hs,es⟩:=hu;obtain⟨t,ht,et⟩:=hv
 have hr:∀x,evR (divF u v).2 x=s*evR (divF U V).2 x:=by
  have h1:Dv v (subF (divF u v).2 (scaleF (divF U V).2 s)):=⟨subF (scaleF (divF U V).1 (s*t)) (divF u v).1,fun x=>by
   rw [ev_subF,ev_scaleF,ev_subF,ev_scaleF];have g1:=d1 x;have g2:=f1 x;have g3:=es x;have g4:=et x;have g5:=ht.sq;have g6:evR v x*(evR (divF U V).1 x*(s*t))=s*evR (divF U V).1 x*(t*t*evR V x):=by rw [g4];grind
   rw [g5] at g6;have g7:evR v x*(evR (divF U V).1 x*(s*t) - evR (divF u v).1 x)=evR v x*(evR (divF U V).1 x*(s*t)) - evR (divF u v).1 x*evR v x:=by grind
   rw [g7,g6];rw [g3,g2] at g1
   grind⟩
  have h2:dgF (subF (divF u v).2 (scaleF (divF U V).2 s))≤dgF v - 1:=dg_sub (fun x=>ev_subF _ _ x) (by have:=div_dg u v hv0;omega) (Nat.le_trans (dg_scale fun x=>ev_scaleF _ _ x) (by
   have h3:=div_dg U V hV;have h4:dgF v=dgF V:=Sg.dg ⟨t,ht,et⟩
   omega))
  have h3:=h1.small (by omega);intro x
  have:=dgz h3 x
  rw [ev_subF,ev_scaleF] at this
  grind
 have h4:Sg (scaleF (divF u v).2 (-1)) (divF U V).2:=⟨-s,hs.neg,fun x=>by rw [ev_scaleF,hr];grind⟩;have h5:=small_sg (scaleF (divF u v).2 (-1));rw [h4.mon] at h5;exact h5
theorem chB_hf {H M N:Nat} {p q:List Rat} {a w:Nat} (mp:Mo p) (mq:Mo q) (hp:HF a p) (hq:HF a q) (hw:dgF p+dgF q+2≤2 ^ w) (hH:(a+w+2)*(dgF p+dgF q+2)≤H) (hN:dgF p≤N) (hN2:dgF q≤N) (hM:H+N*(H+1)≤M):∀(n:Nat) (u v U V:List Rat),Sg u U→Sg v V→InC p q U V→HF H U→Mo V→dgF U≤N→dgF V<n→trimF v=v→trimF u=u→chB M n u v=true∧∀l ∈ chainU n u v,HF H l∧dgF l≤N∧trimF l=l
 | 0,u,v,U,V,_,_,_,_,_,_,h,_,_=>by omega
 | n+1,u,v,U,V,su,sv,hi,hU,mV,hNU,hn,tv,tu=>by
  have hVH:=hf_mo hi hp hq hw hH;have huH:=su.hf hU;have hvH:=sv.hf hVH;have hdu:dgF u≤N:=by rw [su.dg];exact hNU
  have hle:dgF V≤N:=by
   rcases hi with ⟨rfl,rfl⟩|h
   ·exact hN2
   ·have:=h.dg;omega
  by_cases h0:u=[]
  ·subst h0
   refine⟨rfl,fun l hl=>?_⟩
   have:chainU (n+1) [] v=[]:=if_pos rfl
   rw [this] at hl;cases hl
  rcases Nat.eq_zero_or_pos (dgF V) with hV|hV
  ·have hv0:v=[]:=by
    have:dgF v=0:=by rw [sv.dg];exact hV
    unfold dgF at this;rw [tv] at this;exact List.length_eq_zero_iff.1 this
   subst hv0;refine⟨?_,fun l hl=>?_⟩
   ·show (u.isEmpty || ([]:List Rat).isEmpty || _)=true
    simp
   ·rw [chain_one n h0] at hl
    rw [List.mem_singleton.1 hl];exact⟨huH,hdu,tu⟩
  ·have hv0:0<dgF v:=by rw [sv.dg];exact hV
   have hvne:v≠[]:=ne_of_dg hv0;have k:=div_hf (N:=N) (M:=M) huH hvH hv0 hdu hM (by omega);have hd:=div_dg U V hV;obtain⟨i1,i2⟩:=chB_hf mp mq hp hq hw hH hN hN2 hM n v (smallF (scaleF (divF u v).2 (-1))) V (monicF (divF U V).2) sv (next_sg su sv hV) (hi.next hV) hVH (mo_mon _) hle (by rw [dg_mon];omega) (small_trim _) tv;refine⟨?_,fun l hl=>?_⟩
   ·show (u.isEmpty || v.isEmpty || (divOk M u v && smB M (divF u v).2 && chB M n v (smallF (scaleF (divF u v).2 (-1)))))=true
    rw [k.1,k.2.2.sm (Nat.le_refl _),i1];simp
   ·rw [chain_two n h0 hvne] at hl
    rcases List.mem_cons.1 hl with rfl|hl
    ·exact⟨huH,hdu,tu⟩
    ·exact i2 l hl
theorem chain_hf {a w N H M:Nat} {p q:List Rat} (hp:HF a p) (hq:HF a q) (hN:dgF p≤N) (hN2:dgF q≤N) (hw:2*N+2≤2 ^ w) (hH:(a+w+2)*(2*N+2)≤H) (hM:H+N*(H+1)≤M):chainOk M p q=true∧∀l ∈ chainF p q,HF H l∧dgF l≤N∧trimF l=l:=by
 have ha:a≤H:=by
  have:(a+w+2)*1≤(a+w+2)*(2*N+2):=Nat.mul_le_mul_left _ (by omega)
  omega
 have h2:(a+w+2)*(dgF (monicF p)+dgF (monicF q)+2)≤(a+w+2)*(2*N+2):=Nat.mul_le_mul_left _ (by rw [dg_mon,dg_mon];omega);have dl:=dg_len q;obtain⟨k1,k2⟩:=chB_hf (H:=H) (M:=M) (N:=N) (mo_mon p) (mo_mon q) hp.monic hq.monic (by rw [dg_mon,dg_mon];omega) (Nat.le_trans h2 hH) (by rw [dg_mon];exact hN) (by rw [dg_mon];exact hN2) hM (p.length+q.length+2) (smallF p) (smallF q) (monicF p) (monicF q) (small_sg p) (small_sg q) (.inl ⟨rfl,rfl⟩) (hp.monic.mono ha) (mo_mon q) (by rw [dg_mon];exact hN) (by rw [dg_mon];omega) (small_trim q) (small_trim p);refine⟨?_,k2⟩;unfold chainOk;rw [k1,hp.sm (by omega),hq.sm (by omega)];rfl
end Go.Proofs.YtaaoleakkaloeaaGreatDoor
set_option linter.unusedVariables false
set_option maxRecDepth 100000
set_option maxHeartbeats 64000000
namespace Go.Proofs.YtaaoleakkaloeaaGreatDoor
set_option linter.unusedSimpArgs false
theorem bez_small {p q:List Rat} {a v:Nat} (hp:HF a p) (hq:HF a q) (hc:Cop p q) (h1:1<dgF p) (h2:0<dgF q) (hv:dgF p+dgF q≤2 ^ v):∃(Dp Dq c:Int) (A B:List Rat),Dp.natAbs<2 ^ a∧Dq.natAbs<2 ^ a∧c≠0∧A.length≤dgF q∧B.length≤dgF p∧(∀i,Ab ((2 ^ ((a+v+2)*(dgF p+dgF q)):Nat):Rat) (co A i))∧(∀i,Ab ((2 ^ ((a+v+2)*(dgF p+dgF q)):Nat):Rat) (co B i))∧∀x,evR A x*(evR p x*(Dp:Rat))+evR B x*(evR q x*(Dq:Rat))=(c:Rat):=by
 obtain⟨Dp,np,p0,p1,p2⟩:=hp;obtain⟨Dq,nq,q0,q1,q2⟩:=hq;obtain⟨s,hs⟩:∃s,dgF q - 1=s:=⟨_,rfl⟩;obtain⟨t,ht⟩:∃t,dgF p - 1=t:=⟨_,rfl⟩;obtain⟨m,hm⟩:∃m,dgF p+dgF q - 3=m:=⟨_,rfl⟩;have hn0:m<s+t:=by omega
 have hnv:s+t≤2 ^ v:=by omega
 have hPc:∀i,co (scaleF p (Dp:Rat)) i=(np i:Rat):=fun i=>by rw [co_scaleF];exact(p2 i).1
 have hQc:∀i,co (scaleF q (Dq:Rat)) i=(nq i:Rat):=fun i=>by rw [co_scaleF];exact(q2 i).1
 have bnd:∀(K:Nat) (z:Nat→Int),(∀j,(z j).natAbs≤K)→∀i,(ipc z np s i+ipc (fun j=>z (s+j)) nq t i).natAbs≤(s+t)*K*2 ^ a:=fun K z hz i=>by
  have h1:=ipc_bound (A:=2 ^ a) hz (fun j=>Nat.le_of_lt (p2 j).2) i s;have h2:=ipc_bound (A:=2 ^ a) (fun j=>hz (s+j)) (fun j=>Nat.le_of_lt (q2 j).2) i t;have h3:=Int.natAbs_add_le (ipc z np s i) (ipc (fun j=>z (s+j)) nq t i);rw [Nat.add_mul,Nat.add_mul];omega
 obtain⟨z,⟨j0,hj0,hz0⟩,hz1,hzK,hzL⟩:=siegel (fun z k=>ipc z np s (1+k)+ipc (fun j=>z (s+j)) nq t (1+k)) (s+t) m (2 ^ ((a+v+2)*(s+t - 1))) ((s+t)*2 ^ ((a+v+2)*(s+t - 1))*2 ^ a)
  (fun f g k=>by
   show ipc (fun j=>f j - g j) np s _+ipc (fun j=>f (s+j) - g (s+j)) nq t _=_
   rw [ipc_sub,ipc_sub (fun j=>f (s+j)) (fun j=>g (s+j))];omega)
  (fun f hf k _=>bnd _ f (fun j=>by have:=hf j;omega) _)
  (siegel_count hn0 hnv (Nat.le_refl _) rfl rfl)
 generalize hA:(List.range s).map (fun j=>(z j:Rat))=A;generalize hB:(List.range t).map (fun j=>(z (s+j):Rat))=B;have cA:∀i,co (mulF A (scaleF p (Dp:Rat))) i=(ipc z np s i:Rat):=fun i=>by rw [←hA];exact co_prod hPc s i
 have cB:∀i,co (mulF B (scaleF q (Dq:Rat))) i=(ipc (fun j=>z (s+j)) nq t i:Rat):=fun i=>by rw [←hB];exact co_prod (z:=fun j=>z (s+j)) hQc t i
 have cR:∀i,co (addF (mulF A (scaleF p (Dp:Rat))) (mulF B (scaleF q (Dq:Rat)))) i=((ipc z np s i+ipc (fun j=>z (s+j)) nq t i:Int):Rat):=fun i=>by
  rw [co_addF,Rat.intCast_add,←cA,←cB]
 have lA:A.length=s:=by rw [←hA];simp
 have lB:B.length=t:=by rw [←hB];simp
 have dP:dgF (scaleF p (Dp:Rat))≤dgF p:=dg_scale fun t=>ev_scaleF _ _ t;have dQ:dgF (scaleF q (Dq:Rat))≤dgF q:=dg_scale fun t=>ev_scaleF _ _ t;have dAl:=dg_len A;have dBl:=dg_len B
 have dR:dgF (addF (mulF A (scaleF p (Dp:Rat))) (mulF B (scaleF q (Dq:Rat))))≤1:=by
  refine dg_le fun i hi=>?_
  rcases Nat.lt_or_ge i (1+m) with g1|g1
  ·rw [cR]
   have g2:=hzL (i - 1) (by omega);have g3:ipc z np s (1+(i - 1))+ipc (fun j=>z (s+j)) nq t (1+(i - 1))=0:=g2;rw [show 1+(i - 1)=i by omega] at g3;rw [g3];rfl
  ·have g2:=dg_mulF_le A (scaleF p (Dp:Rat))
   have g3:=dg_mulF_le B (scaleF q (Dq:Rat));rw [co_addF]
   show co (mulF A _) i+co (mulF B _) i=0
   rw [dg_ge (p:=mulF A _) (by
    rcases Nat.eq_zero_or_pos (dgF A) with g4|g4
    ·rw [dg_of_zero fun t=>by rw [ev_mulF,dgz g4];grind];omega
    ·omega),dg_ge (p:=mulF B _) (by
    rcases Nat.eq_zero_or_pos (dgF B) with g4|g4
    ·rw [dg_of_zero fun t=>by rw [ev_mulF,dgz g4];grind];omega
    ·omega)]
   grind
 obtain⟨c,hcz⟩:∃c:Int,ipc z np s 0+ipc (fun j=>z (s+j)) nq t 0=c:=⟨_,rfl⟩
 have hev:∀x,evR A x*(evR p x*(Dp:Rat))+evR B x*(evR q x*(Dq:Rat))=(c:Rat):=fun x=>by
  have g1:=ev_dg1 dR x;rw [cR,hcz,ev_addF,ev_mulF,ev_mulF,ev_scaleF,ev_scaleF] at g1;exact g1
 have nz:∀D:Int,D≠0→(D:Rat)≠0:=fun D hD e=>hD (Rat.intCast_inj.1 (e.trans Rat.intCast_zero.symm))
 have hK:∀j,Ab ((2 ^ ((a+v+2)*(dgF p+dgF q)):Nat):Rat) (z j:Rat):=fun j=>by
  have g1:=hzK j;have g2:2 ^ ((a+v+2)*(s+t - 1))≤2 ^ ((a+v+2)*(dgF p+dgF q)):=Nat.pow_le_pow_right (by decide) (Nat.mul_le_mul_left _ (by omega));generalize 2 ^ ((a+v+2)*(dgF p+dgF q))=Y at *;have g3:-(Y:Int)≤z j∧z j≤(Y:Int):=by omega
  constructor
  ·have:=Rat.intCast_le_intCast.2 g3.1
   rw [Rat.intCast_neg,Rat.intCast_natCast] at this;exact this
  ·have:=Rat.intCast_le_intCast.2 g3.2
   rw [Rat.intCast_natCast] at this;exact this
 have h0Y:(0:Rat)≤((2 ^ ((a+v+2)*(dgF p+dgF q)):Nat):Rat):=Rat.natCast_nonneg;refine⟨Dp,Dq,c,A,B,p1,q1,?_,by omega,by omega,fun i=>?_,fun i=>?_,hev⟩
 ·intro e
  have hz:∀x,evR A x*(evR p x*(Dp:Rat))+evR B x*(evR q x*(Dq:Rat))=0:=fun x=>by rw [hev,e];rfl
  have hd:Dv p (mulF q B):=⟨scaleF A (-(Dp:Rat)*(1 / (Dq:Rat))),fun x=>by
   have g1:=hz x;have g2:=inv_ne (nz _ q0);rw [ev_mulF,ev_scaleF];generalize 1 / (Dq:Rat)=w at *;have g3:evR q x*evR B x=evR q x*evR B x*((Dq:Rat)*w):=by rw [g2];grind
   rw [g3]
   grind⟩
  have hB0:dgF B=0:=(hc.dv (p:=mulF q B) (fun x=>ev_mulF _ _ x) hd).small (by omega)
  have hA0:dgF A=0:=by
   have hm2:∀x,evR (mulF A (scaleF p (Dp:Rat))) x=0:=fun x=>by
    have g1:=hz x;rw [dgz hB0] at g1;rw [ev_mulF,ev_scaleF];grind
   rcases Nat.eq_zero_or_pos (dgF A) with g|g
   ·exact g
   ·have g2:0<dgF (scaleF p (Dp:Rat)):=by
     have:dgF p≤dgF (scaleF p (Dp:Rat)):=dg_scale (c:=1 / (Dp:Rat)) fun x=>by
      rw [ev_scaleF]
      have:=inv_ne (nz _ p0)
      grind
     omega
    have g3:=dg_mul (r:=mulF A (scaleF p (Dp:Rat))) (fun x=>ev_mulF _ _ x) g g2;have g4:=dg_of_zero hm2;omega
  rcases Nat.lt_or_ge j0 s with g2|g2
  ·have g3:co A j0=0:=dg_ge (by omega)
   rw [←hA,co_list,if_pos g2] at g3;exact nz _ hz0 g3
  ·have g3:co B (j0 - s)=0:=dg_ge (by omega)
   rw [←hB,co_list,if_pos (by omega),show s+(j0 - s)=j0 by omega] at g3;exact nz _ hz0 g3
 ·rw [←hA,co_list]
  split
  ·exact hK i
  ·exact⟨by grind,h0Y⟩
 ·rw [←hB,co_list]
  split
  ·exact hK _
  ·exact⟨by grind,h0Y⟩
end Go.Proofs.YtaaoleakkaloeaaGreatDoor
