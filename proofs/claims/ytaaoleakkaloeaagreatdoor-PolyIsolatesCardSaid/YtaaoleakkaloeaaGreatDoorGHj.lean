/- Square-free parts: Yun's way gives what the document says, and parts have the product that they must have. Euclid's chain: each rest is, up to a factor, the only combination of its degree; so its numbers are small. -/
import Derived.Test.YtaaoleakkaloeaaGreatDoorGYw
import Derived.Test.YtaaoleakkaloeaaGreatDoorGYb
import Derived.Test.YtaaoleakkaloeaaGreatDoorGWh
set_option linter.unusedVariables false
set_option maxRecDepth 100000
set_option maxHeartbeats 64000000
namespace Go.Proofs.YtaaoleakkaloeaaGreatDoor
set_option linter.unusedSimpArgs false
theorem co_top_mul {p q:List Rat} (hp:0<dgF p) (hq:0<dgF q):co (mulF p q) (dgF p - 1+(dgF q - 1))=co p (dgF p - 1)*co q (dgF q - 1):=by
 rw [co_mulF];exact cnv_top _ (dgF q - 1) (fun k hk=>dg_ge (p:=q) (by omega)) (dgF p - 1) _ (fun k hk=>dg_ge (p:=p) (by omega))
theorem Mo.quo {p f h:List Rat} (hp:Mo p) (hp0:0<dgF p) (hf:Mo f) (ht:trimF h=h) (e:∀x,evR p x=evR f x*evR h x):Mo h∧0<dgF h:=by
 obtain⟨f0,h0⟩:=dg_parts e hp0;refine⟨⟨ht,.inr ?_⟩,h0⟩;have h1:=dg_mul e f0 h0;have h2:=co_top_mul f0 h0;have tp:topF p=1:=hp.2.resolve_left fun e=>by rw [e] at hp0;cases hp0
 have tf:topF f=1:=hf.2.resolve_left fun e=>by rw [e] at f0;cases f0
 rw [top_eq hp.1] at tp;rw [top_eq hf.1] at tf;rw [top_eq ht];rw [ev_inj (p:=mulF f h) (q:=p) (fun x=>by rw [ev_mulF,e]),show dgF f - 1+(dgF h - 1)=dgF p - 1 by omega,tp,tf] at h2
 grind
theorem Mo.mul {f h:List Rat} (hf:Mo f) (hh:Mo h) (f0:0<dgF f) (h0:0<dgF h):Mo (mulF f h):=by
 have tt:trimF (mulF f h)=mulF f h:=trim_trim _;refine⟨tt,.inr ?_⟩;have h1:=dg_mul (r:=mulF f h) (fun x=>ev_mulF _ _ x) f0 h0;have h2:=co_top_mul f0 h0;have tf:topF f=1:=hf.2.resolve_left fun e=>by rw [e] at f0;cases f0
 have th:topF h=1:=hh.2.resolve_left fun e=>by rw [e] at h0;cases h0
 rw [top_eq hf.1] at tf;rw [top_eq hh.1] at th;rw [top_eq tt,h1,show dgF f+dgF h - 1 - 1=dgF f - 1+(dgF h - 1) by omega,h2,tf,th];grind
theorem Mo.self {p:List Rat} (h:Mo p):monicF p=p:=(mo_mon p).uniq h (mon_dv p).1 (mon_dv p).2
theorem quo_trim (p q:List Rat):trimF (divF p q).1=(divF p q).1:=trim_trim _
theorem quo_eq {p q h:List Rat} (hq:0<dgF q) (ht:trimF h=h) (e:∀x,evR p x=evR q x*evR h x):(divF p q).1=h:=by
 have h1:=(div_exact (p:=p) hq ⟨h,e⟩).2;have h2:=ev_cancel (p:=q) (q:=(divF p q).1) (r:=h) hq fun x=>by rw [←e,h1 x];grind
 have h3:=trim_ev h2
 rwa [quo_trim,ht] at h3
theorem quo_dv {p q:List Rat} (hq:0<dgF q) (h:Dv q p) (x:Rat):evR p x=evR q x*evR (divF p q).1 x:=by
 rw [(div_exact hq h).2 x];grind
def nextP (p:List Rat):List Rat:=commonF p (derivF p)
theorem nextP_mo (p:List Rat):Mo (nextP p):=(gcd_gc p (derivF p)).2
theorem nextP_dv (p:List Rat):Dv (nextP p) p∧Dv (nextP p) (derivF p):=⟨(gcd_gc p (derivF p)).1.1,(gcd_gc p (derivF p)).1.2.1⟩
theorem nextP_pos {p:List Rat} (h:0<dgF p):0<dgF (nextP p):=((nextP_dv p).1.dg h).1
theorem nextP_less {p:List Rat} (h:1<dgF p):dgF (nextP p)<dgF p:=by
 have h1:=dg_deriv p
 have:=((nextP_dv p).2.dg (by omega)).2
 omega
def baseP (p:List Rat):List Rat:=(divF p (nextP p)).1
theorem base_ev {p:List Rat} (h:0<dgF p) (x:Rat):evR p x=evR (nextP p) x*evR (baseP p) x:=quo_dv (nextP_pos h) (nextP_dv p).1 x
theorem base_mo {p:List Rat} (hp:Mo p) (h:0<dgF p):Mo (baseP p)∧0<dgF (baseP p):=hp.quo h (nextP_mo p) (quo_trim _ _) (base_ev h)
theorem pow_add1 (a:Rat) (k:Nat):a ^ (k+1)=a ^ k*a:=Rat.pow_succ ..
theorem mul_pow (a b:Rat):∀k:Nat,(a*b) ^ k=a ^ k*b ^ k
 | 0=>by rw [Rat.pow_zero,Rat.pow_zero,Rat.pow_zero];grind
 | k+1=>by rw [Rat.pow_succ,Rat.pow_succ,Rat.pow_succ,mul_pow a b k];grind
theorem yun_step {p b c:List Rat} (hp:Mo p) (h1:1<dgF p) (hb:∀x,evR p x=evR (nextP p) x*evR b x) (hc:∀x,evR (derivF p) x=evR (nextP p) x*evR c x) (tb:trimF b=b):∃P C,commonF b (subF c (derivF b))=P∧Mo P∧0<dgF P∧1<dgF b∧(∀x,evR b x=evR P x*evR (baseP (nextP p)) x)∧(∀x,evR (subF c (derivF b)) x=evR P x*evR C x)∧trimF C=C∧(∀x,evR (derivF (nextP p)) x=evR (nextP (nextP p)) x*evR C x)∧Cop P (derivF P)∧Cop P (baseP (nextP p)):=by
 have hp0:0<dgF p:=by omega
 have q0:=nextP_pos hp0;have qm:=nextP_mo p;have ql:=nextP_less h1;obtain⟨bm,b0⟩:=hp.quo hp0 qm tb hb;have hbd:=dg_mul hb q0 b0
 have hcop:Cop b c:=by
  obtain⟨-,-,s,t,e⟩:=(gcd_gc p (derivF p)).1;refine⟨s,t,fun x=>?_⟩
  have h2:=ev_cancel (p:=nextP p) (q:=addF (mulF s b) (mulF t c)) (r:=[1]) q0 (fun x=>by
   rw [ev_addF,ev_mulF,ev_mulF,ev_one];have h3:evR (nextP p) x=_:=e x;rw [hb,hc] at h3
   grind) x
  rw [ev_addF,ev_mulF,ev_mulF,ev_one] at h2;exact h2
 generalize hq:nextP p=q at *;have r0:=nextP_pos q0;obtain⟨Bm,B0⟩:=base_mo qm q0;have hB:=base_ev q0;have hC:=quo_dv r0 (nextP_dv q).2
 have hBC:Cop (baseP q) (divF (derivF q) (nextP q)).1:=by
  obtain⟨-,-,s,t,e⟩:=(gcd_gc q (derivF q)).1;refine⟨s,t,fun x=>?_⟩
  have h2:=ev_cancel (p:=nextP q) (q:=addF (mulF s (baseP q)) (mulF t (divF (derivF q) (nextP q)).1)) (r:=[1]) r0 (fun x=>by
   rw [ev_addF,ev_mulF,ev_mulF,ev_one];have h3:evR (nextP q) x=_:=e x;rw [hB,hC] at h3
   grind) x
  rw [ev_addF,ev_mulF,ev_mulF,ev_one] at h2;exact h2
 have hCt:trimF (divF (derivF q) (nextP q)).1=(divF (derivF q) (nextP q)).1:=quo_trim _ _;generalize baseP q=B at *;generalize (divF (derivF q) (nextP q)).1=C at *
 have hrB:∀x,evR (subF c (derivF b)) x*evR B x=evR C x*evR b x:=by
  have h3:=ev_cancel (p:=nextP q) (q:=mulF (subF c (derivF b)) B) (r:=mulF C b) r0 fun x=>by
   rw [ev_mulF,ev_mulF,ev_subF];have h4:=deriv_prod hb x;rw [hc,hC,hB] at h4
   grind
  intro x;have h4:=h3 x;rw [ev_mulF,ev_mulF] at h4;exact h4
 have hdv:Dv B b:=hBC.dv (p:=mulF C b) (fun x=>by rw [ev_mulF]) ⟨subF c (derivF b),fun x=>by rw [ev_mulF,←hrB];grind⟩;have hP:=quo_dv B0 hdv;have hPt:trimF (divF b B).1=(divF b B).1:=quo_trim _ _;generalize (divF b B).1=P at *;obtain⟨Pm,P0⟩:=bm.quo b0 Bm hPt hP
 have hR:∀x,evR (subF c (derivF b)) x=evR P x*evR C x:=by
  have h3:=ev_cancel (p:=B) (q:=subF c (derivF b)) (r:=mulF P C) B0 fun x=>by
   rw [ev_mulF]
   have:=hrB x
   rw [hP] at this
   grind
  intro x;rw [h3,ev_mulF]
 have hgc:commonF b (subF c (derivF b))=P:=by
  obtain⟨s,t,e⟩:=hBC;refine gcd_is ⟨⟨B,fun x=>by rw [hP];grind⟩,⟨C,hR⟩,s,t,fun x=>?_⟩ Pm;rw [hP,hR]
  have:=e x
  grind
 have hcv:∀x,evR c x=evR (mulF (derivF P) B) x+evR P x*evR (addF C (derivF B)) x:=fun x=>by
  have h3:=hR x;rw [ev_subF,deriv_prod hP x] at h3;rw [ev_mulF,ev_addF]
  grind
 have h5:Cop P (mulF (derivF P) B):=(hcop.sub ⟨B,fun x=>by rw [hP];grind⟩).add (c:=scaleF (addF C (derivF B)) (-1)) fun x=>by
  have:=hcv x
  rw [ev_scaleF]
  grind
 refine⟨P,C,hgc,Pm,P0,by omega,fun x=>by rw [hP];grind,hR,hCt,fun x=>by rw [hC],?_,?_⟩
 ·exact(h5.symm.sub ⟨B,fun x=>by rw [ev_mulF]⟩).symm
 ·exact(h5.symm.sub ⟨derivF P,fun x=>by rw [ev_mulF];grind⟩).symm
def moreF (p:List Rat):List Rat:=if 1<(trimF p).length then (divF p (commonF p (derivF p))).1 else [1]
def rpartsU:Nat→List Rat→List (List Rat)
 | 0,_=>[]
 | n+1,p=>if 1<(trimF p).length then monicF (divF (divF p (commonF p (derivF p))).1 (moreF (commonF p (derivF p)))).1 :: rpartsU n (commonF p (derivF p)) else []
theorem more_base {p:List Rat} (hp:Mo p) (h0:0<dgF p):moreF p=baseP p:=by
 unfold moreF
 split
 ·rfl
 ·rename_i h
  have h1:¬ 1<dgF p:=h;obtain⟨m,b0⟩:=base_mo hp h0
  have:=dg_mul (base_ev h0) (nextP_pos h0) b0
  have q0:=nextP_pos h0;exact(mo_one_of m (by omega)).symm
def prodE:Nat→List (List Rat)→Rat→Rat
 | _,[],_=>1
 | k,P :: l,x=>evR P x ^ (k+1)*prodE (k+1) l x
theorem yun_loop:∀(n m:Nat) (p b c:List Rat),Mo p→0<dgF p→(∀x,evR p x=evR (nextP p) x*evR b x)→(∀x,evR (derivF p) x=evR (nextP p) x*evR c x)→trimF b=b→dgF p≤n→dgF p≤m→partsU n b c=rpartsU m p∧(∀l ∈ partsU n b c,Mo l∧0<dgF l∧Cop l (derivF l)∧Dv l b)∧(partsU n b c).Pairwise Cop∧∀k x,prodE k (partsU n b c) x=evR p x*evR b x ^ k
 | 0,m,p,b,c,hp,h0,_,_,_,hn,_=>by omega
 | n+1,0,p,b,c,hp,h0,_,_,_,hn,hm=>by omega
 | n+1,m+1,p,b,c,hp,h0,hb,hc,tb,hn,hm=>by
  have q0:=nextP_pos h0;have qm:=nextP_mo p
  rcases Nat.lt_or_ge 1 (dgF p) with h1|h1
  ·obtain⟨P,C,e1,Pm,P0,b1,e2,e3,tC,e4,c1,c2⟩:=yun_step hp h1 hb hc tb
   have ql:=nextP_less h1;obtain⟨Bm,B0⟩:=base_mo qm q0;have hd1:(divF b P).1=baseP (nextP p):=quo_eq P0 Bm.1 e2;have hd2:(divF (subF c (derivF b)) P).1=C:=quo_eq P0 tC e3;obtain⟨i1,i2,i3,i4⟩:=yun_loop n m (nextP p) (baseP (nextP p)) C qm q0 (base_ev q0) e4 Bm.1 (by omega) (by omega)
   have e5:partsU (n+1) b c=P :: partsU n (baseP (nextP p)) C:=by
    show (if 1<(trimF b).length then commonF b (subF c (derivF b)) :: partsU n (divF b (commonF b (subF c (derivF b)))).1 (divF (subF c (derivF b)) (commonF b (subF c (derivF b)))).1 else [])=_
    rw [if_pos (show 1<(trimF b).length from b1),e1,hd1,hd2]
   have e6:rpartsU (m+1) p=P :: rpartsU m (nextP p):=by
    show (if 1<(trimF p).length then monicF (divF (divF p (nextP p)).1 (moreF (nextP p))).1 :: rpartsU m (nextP p) else [])=_
    rw [if_pos (show 1<(trimF p).length from h1),more_base qm q0,show (divF p (nextP p)).1=b from quo_eq q0 tb hb,show (divF b (baseP (nextP p))).1=P from quo_eq B0 Pm.1 fun x=>by rw [e2];grind,Pm.self]
   rw [e5,e6,i1];rw [i1] at i2 i3 i4;refine⟨rfl,fun l hl=>?_,List.pairwise_cons.2 ⟨fun l hl=>?_,i3⟩,fun k x=>?_⟩
   ·rcases List.mem_cons.1 hl with rfl|hl
    ·exact⟨Pm,P0,c1,_,e2⟩
    ·obtain⟨a1,a2,a3,a4⟩:=i2 l hl
     exact⟨a1,a2,a3,a4.trans ⟨P,fun x=>by rw [e2];grind⟩⟩
   ·exact(c2.symm.sub (i2 l hl).2.2.2).symm
   ·show evR P x ^ (k+1)*prodE (k+1) _ x=_
    rw [i4 (k+1) x,hb x,e2 x,mul_pow,pow_add1 (evR P x),pow_add1 (evR (baseP (nextP p)) x)]
    have:=base_ev q0 x
    grind
  ·have hb0:=(dg_parts hb h0).2
   have hd:=dg_mul hb q0 hb0;obtain⟨bm,-⟩:=hp.quo h0 qm tb hb;have hbl:b=[1]:=mo_one_of bm (by omega)
   have e5:partsU (n+1) b c=[]:=by
    unfold partsU;rw [if_neg (show ¬ 1<(trimF b).length from by show ¬ 1<dgF b;omega)]
   have e6:rpartsU (m+1) p=[]:=by
    unfold rpartsU;rw [if_neg (show ¬ 1<(trimF p).length from by show ¬ 1<dgF p;omega)]
   rw [e5,e6];refine⟨rfl,(fun l hl=>by cases hl),List.Pairwise.nil,fun k x=>?_⟩;have hp1:p=[1]:=mo_one_of hp (by omega);rw [hbl,hp1,ev_one]
   show (1:Rat)=1*1 ^ k
   have:∀k:Nat,(1:Rat) ^ k=1:=fun k=>by
    induction k with
    | zero=>rfl
    | succ k ih=>rw [Rat.pow_succ,ih];grind
   rw [this];grind
theorem next_mon (p:List Rat):nextP (monicF p)=nextP p:=by
 rcases Nat.eq_zero_or_pos (dgF p) with h|h
 ·have e1:trimF (monicF p)=trimF p:=trim_ev fun x=>by rw [mon_nil h,dgz h];rfl
  unfold nextP commonF;have h2:=dg_deriv p;have h3:=dg_deriv (monicF p);rw [dg_mon] at h3;rw [mon_nil (p:=derivF p) (by omega),mon_nil (p:=derivF (monicF p)) (by omega),(mo_mon p).self]
  show comU _ _ []=comU _ _ []
  simp [comU]
 ·refine gcd_is ?_ (nextP_mo p)
  obtain⟨g1,g2,s,t,e⟩:=(gcd_gc p (derivF p)).1
  have hd:∀x,evR (derivF (monicF p)) x=evR (derivF p) x*(1 / topF (trimF p)):=fun x=>by
   rw [deriv_prod (p:=p) (q:=[1 / topF (trimF p)]) (fun x=>by rw [ev_const];exact mon_ev h x) x,ev_const]
   have:evR (derivF [1 / topF (trimF p)]) x=0:=dgz (by rw [dg_deriv];have:=dg_len [1 / topF (trimF p)];simp at this;omega) x
   rw [this];grind
  have ht:=inv_ne (top_trim_ne (trim_ne h));refine⟨g1.trans (mon_dv p).2,g2.trans ⟨[1 / topF (trimF p)],fun x=>by rw [ev_const];exact hd x⟩,scaleF s (topF (trimF p)),scaleF t (topF (trimF p)),fun x=>?_⟩;have h2:evR (nextP p) x=_:=e x;rw [h2,ev_scaleF,ev_scaleF,hd,mon_ev h];generalize topF (trimF p)=u at *;generalize 1 / u=v at *;generalize evR s x=A;generalize evR p x=B;generalize evR t x=C;generalize evR (derivF p) x=D;have e1:A*u*(B*v)+C*u*(D*v)=(A*B+C*D)*(u*v):=by grind
  rw [e1,ht];grind
end Go.Proofs.YtaaoleakkaloeaaGreatDoor
set_option linter.unusedVariables false
set_option maxRecDepth 100000
set_option maxHeartbeats 64000000
namespace Go.Proofs.YtaaoleakkaloeaaGreatDoor
set_option linter.unusedSimpArgs false
theorem rest_mon (u v:List Rat) (hv:0<dgF v):∃g:Rat,(∀x,evR u x=evR (divF u v).1 x*evR v x+g*evR (monicF (divF u v).2) x)∧(0<dgF (monicF (divF u v).2)→g≠0):=by
 obtain⟨d1,-,-⟩:=div_ev u v hv
 rcases Nat.eq_zero_or_pos (dgF (divF u v).2) with h|h
 ·refine⟨0,fun x=>?_,fun h2=>?_⟩
  ·rw [d1,dgz h];grind
  ·rw [dg_mon] at h2;omega
 ·refine⟨topF (trimF (divF u v).2),fun x=>?_,fun _=>top_trim_ne (trim_ne h)⟩
  rw [d1 x,mon_back h];grind
inductive Tr:List Rat→List Rat→List Rat→List Rat→Prop
 | one (u v:List Rat):0<dgF v→Tr u v v (monicF (divF u v).2)
 | more (u v x y:List Rat):0<dgF v→Tr v (monicF (divF u v).2) x y→Tr u v x y
theorem Tr.dg {u v x y:List Rat} (h:Tr u v x y):dgF x≤dgF v∧dgF y<dgF x∧Mo y:=by
 induction h with
 | one u v hv=>exact⟨Nat.le_refl _,by rw [dg_mon];exact div_dg u v hv,mo_mon _⟩
 | more u v x y hv _ ih=>
  have:=div_dg u v hv
  rw [dg_mon] at ih;exact⟨by omega,ih.2⟩
theorem Tr.uniq {u v x y:List Rat} (h:Tr u v x y):∀(A B R:List Rat),(∀t,evR R t=evR A t*evR u t+evR B t*evR v t)→dgF R<dgF x→dgF A+dgF x≤dgF v+1→∃c:Rat,(∀t,evR R t=c*evR y t)∧(0<dgF y→dgF R=0→dgF A=0∧dgF B=0):=by
 induction h with
 | one u v hv=>
  intro A B R e hR hA;obtain⟨g,eg,hg⟩:=rest_mon u v hv;have ea:∀t,evR A t=co A 0:=fun t=>ev_dg1 (by omega) t;have hy:=div_dg u v hv;have h1:Dv v (subF R (scaleF (monicF (divF u v).2) (co A 0*g))):=⟨addF (scaleF (divF u v).1 (co A 0)) B,fun t=>by rw [ev_subF,ev_scaleF,ev_addF,ev_scaleF,e,ea,eg];grind⟩;have h2:dgF (subF R (scaleF (monicF (divF u v).2) (co A 0*g)))≤dgF v - 1:=dg_sub (fun t=>ev_subF _ _ t) (by omega) (Nat.le_trans (dg_scale fun t=>ev_scaleF _ _ t) (by rw [dg_mon];omega));have h3:=h1.small (by omega)
  have h4:∀t,evR R t=co A 0*g*evR (monicF (divF u v).2) t:=fun t=>by
   have:=dgz h3 t
   rw [ev_subF,ev_scaleF] at this
   grind
  refine⟨co A 0*g,h4,fun h5 h6=>?_⟩;obtain⟨t0,ht0⟩:=dg_pos h5;have h7:=h4 t0;rw [dgz h6] at h7
  have h8:co A 0=0:=by
   rcases Rat.mul_eq_zero.1 h7.symm with h8|h8
   ·rcases Rat.mul_eq_zero.1 h8 with h9|h9
    ·exact h9
    ·exact absurd h9 (hg h5)
   ·exact absurd h8 ht0
  refine⟨dg_of_zero fun t=>by rw [ea,h8],?_⟩
  rcases Nat.eq_zero_or_pos (dgF B) with h9|h9
  ·exact h9
  ·have:=dg_mul (r:=R) (p:=B) (q:=v) (fun t=>by rw [e,ea,h8];grind) h9 hv
   omega
 | more u v x y hv ht ih=>
  intro A B R e hR hA;obtain⟨g,eg,hg⟩:=rest_mon u v hv;have hd:=ht.dg;have hy:=div_dg u v hv;rw [dg_mon] at hd;have hpos:0<dgF (monicF (divF u v).2):=by rw [dg_mon];omega
  have e1:∀t,evR R t=evR (addF (mulF A (divF u v).1) B) t*evR v t+evR (scaleF A g) t*evR (monicF (divF u v).2) t:=fun t=>by
   rw [ev_addF,ev_mulF,ev_scaleF,e,eg];grind
  have h1:dgF (addF (mulF A (divF u v).1) B)+dgF x≤dgF (monicF (divF u v).2)+1:=by
   rw [dg_mon]
   rcases Nat.eq_zero_or_pos (dgF (addF (mulF A (divF u v).1) B)) with h0|h0
   ·omega
   ·have h2:=dg_mul (r:=mulF (addF (mulF A (divF u v).1) B) v) (fun t=>ev_mulF _ _ t) h0 hv
    have h3:dgF (mulF (scaleF A g) (monicF (divF u v).2))≤dgF A+dgF (divF u v).2 - 1:=by
     rcases Nat.eq_zero_or_pos (dgF (scaleF A g)) with h4|h4
     ·rw [dg_of_zero fun t=>by rw [ev_mulF,dgz h4];grind];omega
     ·rw [dg_mul (fun t=>ev_mulF _ _ t) h4 hpos,dg_mon]
      have:=dg_scale (r:=scaleF A g) (fun t=>ev_scaleF A g t)
      omega
    rcases Nat.le_total (dgF R) (dgF A+dgF (divF u v).2 - 1) with h5|h5
    ·have h6:=dg_sub (r:=mulF (addF (mulF A (divF u v).1) B) v) (p:=R) (q:=mulF (scaleF A g) (monicF (divF u v).2)) (fun t=>by rw [e1,ev_mulF,ev_mulF];grind) h5 h3
     omega
    ·have h6:=dg_sub (r:=mulF (addF (mulF A (divF u v).1) B) v) (p:=R) (q:=mulF (scaleF A g) (monicF (divF u v).2)) (fun t=>by rw [e1,ev_mulF,ev_mulF];grind) (Nat.le_refl _) (Nat.le_trans h3 h5)
     omega
  obtain⟨c,hc,hz⟩:=ih _ _ R e1 hR h1;refine⟨c,hc,fun h5 h6=>?_⟩;obtain⟨z1,z2⟩:=hz h5 h6
  have a0:∀t,evR A t=0:=fun t=>by
   have:=dgz z2 t
   rw [ev_scaleF] at this
   rcases Rat.mul_eq_zero.1 this with h7|h7
   ·exact h7
   ·exact absurd h7 (hg hpos)
  refine⟨dg_of_zero a0,dg_of_zero fun t=>?_⟩
  have:=dgz z1 t
  rw [ev_addF,ev_mulF,a0] at this
  grind
def HF (a:Nat) (p:List Rat):Prop:=∃(D:Int) (n:Nat→Int),D≠0∧D.natAbs<2 ^ a∧∀i,co p i*(D:Rat)=(n i:Rat)∧(n i).natAbs<2 ^ a
theorem HF.mono {a b:Nat} {p:List Rat} (h:HF a p) (k:a≤b):HF b p:=by
 obtain⟨D,n,h0,h1,h2⟩:=h;have h3:2 ^ a≤2 ^ b:=Nat.pow_le_pow_right (by decide) k;exact⟨D,n,h0,by omega,fun i=>⟨(h2 i).1,by have:=(h2 i).2;omega⟩⟩
def ipc (f g:Nat→Int):Nat→Nat→Int
 | 0,_=>0
 | i+1,k=>ipc f g i k+(if i≤k then f i*g (k - i) else 0)
theorem ipc_sub (f h g:Nat→Int) (k:Nat):∀m,ipc (fun j=>f j - h j) g m k=ipc f g m k - ipc h g m k
 | 0=>rfl
 | m+1=>by
  show ipc _ g m k+_=(ipc f g m k+_) - (ipc h g m k+_)
  rw [ipc_sub f h g k m]
  split
  ·rw [Int.sub_mul];omega
  ·omega
theorem ipc_bound {f g:Nat→Int} {K A:Nat} (hf:∀j,(f j).natAbs≤K) (hg:∀j,(g j).natAbs≤A) (k:Nat):∀m,(ipc f g m k).natAbs≤m*K*A
 | 0=>by simp [ipc]
 | m+1=>by
  show (ipc f g m k+(if m≤k then f m*g (k - m) else 0)).natAbs≤_
  have h1:=ipc_bound hf hg k m
  have h2:(if m≤k then f m*g (k - m) else 0:Int).natAbs≤K*A:=by
   split
   ·rw [Int.natAbs_mul];exact Nat.mul_le_mul (hf _) (hg _)
   ·simp
  rw [Nat.add_mul,Nat.add_mul,Nat.one_mul];have h3:=Int.natAbs_add_le (ipc f g m k) (if m≤k then f m*g (k - m) else 0);omega
theorem ipc_cast {f g:Nat→Int} {u v:Nat→Rat} (hv:∀j,v j=(g j:Rat)) (k:Nat):∀m,(∀j,j<m→u j=(f j:Rat))→pcv u v m k=(ipc f g m k:Rat)
 | 0,_=>by show (0:Rat)=((0:Int):Rat);rfl
 | m+1,hu=>by
  show pcv u v m k+(if m≤k then u m*v (k - m) else 0)=((ipc f g m k+(if m≤k then f m*g (k - m) else 0):Int):Rat)
  rw [ipc_cast hv k m fun j hj=>hu j (by omega),Rat.intCast_add]
  split
  ·rw [hu m (by omega),hv,Rat.intCast_mul]
  ·rfl
theorem co_list (f:Nat→Rat) (s i:Nat):co ((List.range s).map f) i=if i<s then f i else 0:=by
 unfold co;rw [List.getElem?_map]
 by_cases h:i<s
 ·rw [List.getElem?_range h,if_pos h];rfl
 ·rw [List.getElem?_eq_none (by simpa using h),if_neg h];rfl
theorem co_scaleF (p:List Rat) (c:Rat) (i:Nat):co (scaleF p c) i=co p i*c:=by unfold scaleF;rw [co_trim,co_map]
theorem dg_mulF_le (p q:List Rat):dgF (mulF p q)≤dgF p+dgF q - 1:=by
 rcases Nat.eq_zero_or_pos (dgF p) with h|h
 ·rw [dg_of_zero fun t=>by rw [ev_mulF,dgz h];grind];omega
 ·rcases Nat.eq_zero_or_pos (dgF q) with k|k
  ·rw [dg_of_zero fun t=>by rw [ev_mulF,dgz k];grind];omega
  ·exact Nat.le_of_eq (dg_mul (fun t=>ev_mulF _ _ t) h k)
theorem co_prod {z n:Nat→Int} {P:List Rat} (hP:∀i,co P i=(n i:Rat)) (s i:Nat):co (mulF ((List.range s).map fun j=>(z j:Rat)) P) i=(ipc z n s i:Rat):=by
 rw [co_mulF,←pcv_all (m:=s) (fun j hj=>by rw [co_list,if_neg (by omega)])];exact ipc_cast (fun j=>hP j) i s fun j hj=>by rw [co_list,if_pos hj]
theorem Tr.small {p q x y:List Rat} (h:Tr p q x y) {a v:Nat} (hp:HF a p) (hq:HF a q) (hy:0<dgF y) (hv:dgF p+dgF q+2≤2 ^ v):HF ((a+v+2)*(dgF p+dgF q+2)) y:=by
 obtain⟨Dp,np,p0,p1,p2⟩:=hp;obtain⟨Dq,nq,q0,q1,q2⟩:=hq;obtain⟨x1,x2,my⟩:=h.dg;obtain⟨s,hs⟩:∃s,dgF q+1 - dgF x=s:=⟨_,rfl⟩;obtain⟨t,ht⟩:∃t,dgF p+1 - dgF x=t:=⟨_,rfl⟩;obtain⟨m,hm⟩:∃m,dgF p+dgF q+1 - 2*dgF x=m:=⟨_,rfl⟩;have hn0:m<s+t:=by omega
 have hnv:s+t≤2 ^ v:=by omega
 have hPc:∀i,co (scaleF p (Dp:Rat)) i=(np i:Rat):=fun i=>by rw [co_scaleF];exact(p2 i).1
 have hQc:∀i,co (scaleF q (Dq:Rat)) i=(nq i:Rat):=fun i=>by rw [co_scaleF];exact(q2 i).1
 have bnd:∀(K:Nat) (z:Nat→Int),(∀j,(z j).natAbs≤K)→∀i,(ipc z np s i+ipc (fun j=>z (s+j)) nq t i).natAbs≤(s+t)*K*2 ^ a:=fun K z hz i=>by
  have h1:=ipc_bound (A:=2 ^ a) hz (fun j=>Nat.le_of_lt (p2 j).2) i s;have h2:=ipc_bound (A:=2 ^ a) (fun j=>hz (s+j)) (fun j=>Nat.le_of_lt (q2 j).2) i t;have h3:=Int.natAbs_add_le (ipc z np s i) (ipc (fun j=>z (s+j)) nq t i);rw [Nat.add_mul,Nat.add_mul];omega
 obtain⟨z,⟨j0,hj0,hz0⟩,hz1,hzK,hzL⟩:=siegel (fun z k=>ipc z np s (dgF x - 1+k)+ipc (fun j=>z (s+j)) nq t (dgF x - 1+k)) (s+t) m (2 ^ ((a+v+2)*(s+t - 1))) ((s+t)*2 ^ ((a+v+2)*(s+t - 1))*2 ^ a)
  (fun f g k=>by
   show ipc (fun j=>f j - g j) np s _+ipc (fun j=>f (s+j) - g (s+j)) nq t _=_
   rw [ipc_sub,ipc_sub (fun j=>f (s+j)) (fun j=>g (s+j))];omega)
  (fun f hf k _=>bnd _ f (fun j=>by have:=hf j;omega) _)
  (siegel_count hn0 hnv (Nat.le_refl _) rfl rfl)
 generalize hA:(List.range s).map (fun j=>(z j:Rat))=A;generalize hB:(List.range t).map (fun j=>(z (s+j):Rat))=B;have cA:∀i,co (mulF A (scaleF p (Dp:Rat))) i=(ipc z np s i:Rat):=fun i=>by rw [←hA];exact co_prod hPc s i
 have cB:∀i,co (mulF B (scaleF q (Dq:Rat))) i=(ipc (fun j=>z (s+j)) nq t i:Rat):=fun i=>by rw [←hB];exact co_prod (z:=fun j=>z (s+j)) hQc t i
 have cR:∀i,co (addF (mulF A (scaleF p (Dp:Rat))) (mulF B (scaleF q (Dq:Rat)))) i=((ipc z np s i+ipc (fun j=>z (s+j)) nq t i:Int):Rat):=fun i=>by
  rw [co_addF,Rat.intCast_add,←cA,←cB]
 have lA:dgF A≤s:=by have:=dg_len A;rw [←hA] at this ⊢;simpa using this
 have lB:dgF B≤t:=by have:=dg_len B;rw [←hB] at this ⊢;simpa using this
 have dP:dgF (scaleF p (Dp:Rat))≤dgF p:=dg_scale fun t=>ev_scaleF _ _ t;have dQ:dgF (scaleF q (Dq:Rat))≤dgF q:=dg_scale fun t=>ev_scaleF _ _ t
 have dR:dgF (addF (mulF A (scaleF p (Dp:Rat))) (mulF B (scaleF q (Dq:Rat))))≤dgF x - 1:=by
  refine dg_le fun i hi=>?_
  rcases Nat.lt_or_ge i (dgF x - 1+m) with h1|h1
  ·rw [cR]
   have h2:=hzL (i - (dgF x - 1)) (by omega);have h3:ipc z np s (dgF x - 1+(i - (dgF x - 1)))+ipc (fun j=>z (s+j)) nq t (dgF x - 1+(i - (dgF x - 1)))=0:=h2;rw [show dgF x - 1+(i - (dgF x - 1))=i by omega] at h3;rw [h3];rfl
  ·have h2:=dg_mulF_le A (scaleF p (Dp:Rat))
   have h3:=dg_mulF_le B (scaleF q (Dq:Rat));rw [co_addF]
   show co (mulF A _) i+co (mulF B _) i=0
   rw [dg_ge (by omega),dg_ge (p:=mulF B _) (by
    rcases Nat.eq_zero_or_pos (dgF B) with h4|h4
    ·rw [dg_of_zero fun t=>by rw [ev_mulF,dgz h4];grind];omega
    ·omega)]
   grind
 obtain⟨c,hc,hnz⟩:=h.uniq (scaleF A (Dp:Rat)) (scaleF B (Dq:Rat)) (addF (mulF A (scaleF p (Dp:Rat))) (mulF B (scaleF q (Dq:Rat)))) (fun t=>by rw [ev_addF,ev_mulF,ev_mulF,ev_scaleF,ev_scaleF,ev_scaleF,ev_scaleF];grind) (by omega) (by have:=dg_scale (r:=scaleF A (Dp:Rat)) (fun t=>ev_scaleF A _ t);omega)
 have hcy:∀i,co (addF (mulF A (scaleF p (Dp:Rat))) (mulF B (scaleF q (Dq:Rat)))) i=co y i*c:=fun i=>by
  rw [←co_scaleF];exact ev_inj (fun t=>by rw [hc,ev_scaleF];grind) i
 have hc0:c≠0:=by
  intro e;have h1:=hnz hy (dg_of_zero fun t=>by rw [hc,e];grind);have nz:∀D:Int,D≠0→(D:Rat)≠0:=fun D hD e=>hD (Rat.intCast_inj.1 (e.trans Rat.intCast_zero.symm))
  rcases Nat.lt_or_ge j0 s with h2|h2
  ·have h3:=ev_inj (p:=scaleF A (Dp:Rat)) (q:=[]) (fun t=>dgz h1.1 t) j0
   rw [co_scaleF,←hA,co_list,if_pos h2] at h3
   rcases Rat.mul_eq_zero.1 h3 with h4|h4
   ·exact nz _ hz0 h4
   ·exact nz _ p0 h4
  ·have h3:=ev_inj (p:=scaleF B (Dq:Rat)) (q:=[]) (fun t=>dgz h1.2 t) (j0 - s)
   rw [co_scaleF,←hB,co_list,if_pos (by omega),show s+(j0 - s)=j0 by omega] at h3
   rcases Rat.mul_eq_zero.1 h3 with h4|h4
   ·exact nz _ hz0 h4
   ·exact nz _ q0 h4
 have ht1:co y (dgF y - 1)=1:=by
  rw [←top_eq my.1];exact my.2.resolve_left fun e=>by rw [e] at hy;cases hy
 have hcI:((ipc z np s (dgF y - 1)+ipc (fun j=>z (s+j)) nq t (dgF y - 1):Int):Rat)=c:=by
  rw [←cR,hcy,ht1];grind
 have hlt:∀i,(ipc z np s i+ipc (fun j=>z (s+j)) nq t i).natAbs<2 ^ ((a+v+2)*(dgF p+dgF q+2)):=fun i=>by
  have h1:=bnd _ z hzK i;have h2:(s+t)*2 ^ ((a+v+2)*(s+t - 1))*2 ^ a≤2 ^ v*2 ^ ((a+v+2)*(s+t - 1))*2 ^ a:=Nat.mul_le_mul_right _ (Nat.mul_le_mul_right _ hnv);rw [←Nat.pow_add,←Nat.pow_add] at h2;have h3:(a+v+2)*(s+t - 1)+(a+v+2)=(a+v+2)*(s+t):=by rw [←Nat.mul_succ,show (s+t - 1).succ=s+t by omega]
  have h4:(a+v+2)*(s+t)≤(a+v+2)*(dgF p+dgF q+2):=Nat.mul_le_mul_left _ (by omega);have h5:2 ^ (v+(a+v+2)*(s+t - 1)+a)<2 ^ ((a+v+2)*(dgF p+dgF q+2)):=Nat.pow_lt_pow_right (by decide) (by omega);omega
 refine⟨_,fun i=>ipc z np s i+ipc (fun j=>z (s+j)) nq t i,?_,hlt (dgF y - 1),fun i=>⟨?_,hlt i⟩⟩
 ·intro e
  rw [e] at hcI;exact hc0 hcI.symm
 ·rw [hcI,←hcy,cR]
end Go.Proofs.YtaaoleakkaloeaaGreatDoor
