/- Changes of sign at infinity: their parity and size, and those of a chain with signs turned. Routh's counts of a polynomial and of its mirror; what no root to the right and on the axis says of the signs. -/
import Derived.Test.YtaaoleakkaloeaaGreatDoorGYz
import Derived.Test.YtaaoleakkaloeaaGreatDoorGYo
set_option linter.unusedVariables false
set_option maxRecDepth 100000
set_option maxHeartbeats 64000000
namespace Go.Proofs.YtaaoleakkaloeaaGreatDoor
set_option linter.unusedSimpArgs false
def Gd (l:List Rat):Prop:=0<dgF l∧trimF l=l
theorem Gd.len {l:List Rat} (h:Gd l):dgF l=l.length:=by unfold dgF;rw [h.2]
def sT (l:List Rat):Int:=(topF l).num.sign
theorem Gd.top {l:List Rat} (h:Gd l):topF l≠0:=by
 have h1:=top_trim_ne (trim_ne h.1);rw [h.2] at h1;exact h1
theorem sT_vals {l:List Rat} (h:Gd l):sT l=1∨sT l = -1:=by
 have h1:=h.top;unfold sT
 rcases rat_tri (topF l) 0 with g|g|g
 ·exact .inr (sign_neg' g)
 ·exact absurd g h1
 ·exact .inl (sign_pos' g)
theorem ends_f (l:List Rat):endsF false l=sT l:=by
 unfold endsF;rw [Bool.false_and,if_neg Bool.false_ne_true];rfl
theorem ends_t (l:List Rat):endsF true l=if l.length % 2=0 then -(sT l) else sT l:=by
 unfold endsF;rw [Bool.true_and]
 by_cases h:l.length % 2=0
 ·rw [decide_eq_true h,if_pos rfl,if_pos h];rfl
 ·rw [decide_eq_false h,if_neg Bool.false_ne_true,if_neg h];rfl
theorem ends_vals (m:Bool) {l:List Rat} (h:Gd l):endsF m l=1∨endsF m l = -1:=by
 have h1:=sT_vals h
 cases m with
 | false=>rw [ends_f];exact h1
 | true=>
  rw [ends_t]
  split <;> omega
def pT (a b:List Rat):Int:=chg (endsF true a) (endsF true b) - chg (endsF false a) (endsF false b)
theorem chg0 (s:Int):chg 0 s=0:=by unfold chg;rw [if_neg (by omega)]
theorem pT_even {a b:List Rat} (ha:Gd a) (hb:Gd b) (h:a.length % 2=b.length % 2):pT a b=0:=by
 unfold pT;rw [ends_t,ends_t,ends_f,ends_f]
 rcases sT_vals ha with e1|e1 <;> rcases sT_vals hb with e2|e2 <;> rw [e1,e2] <;> by_cases g:a.length % 2=0
 all_goals first
  | rw [if_pos g,if_pos (by omega)];rfl
  | rw [if_neg g,if_neg (by omega)];rfl
theorem pT_odd {a b:List Rat} (ha:Gd a) (hb:Gd b) (h:a.length % 2≠b.length % 2):pT a b=sT a*sT b:=by
 unfold pT;rw [ends_t,ends_t,ends_f,ends_f]
 rcases sT_vals ha with e1|e1 <;> rcases sT_vals hb with e2|e2 <;> rw [e1,e2] <;> by_cases g:a.length % 2=0
 all_goals first
  | rw [if_pos g,if_neg (by omega)];rfl
  | rw [if_neg g,if_pos (by omega)];rfl
theorem sT_mul {a b:List Rat} (ha:Gd a) (hb:Gd b):sT a*sT b=1∨sT a*sT b = -1:=by
 rcases sT_vals ha with e1|e1 <;> rcases sT_vals hb with e2|e2 <;> rw [e1,e2] <;> decide
theorem pT_facts {a b:List Rat} (ha:Gd a) (hb:Gd b):-1≤pT a b∧pT a b≤1∧((a.length:Int) - b.length - pT a b) % 2=0:=by
 by_cases h:a.length % 2=b.length % 2
 ·rw [pT_even ha hb h];omega
 ·rw [pT_odd ha hb h]
  rcases sT_mul ha hb with e|e <;> rw [e] <;> omega
def tS:List (List Rat)→Int
 | []=>0
 | [_]=>0
 | a :: b :: l=>pT a b+tS (b :: l)
def lastN:List (List Rat)→Nat
 | []=>0
 | [a]=>a.length
 | _ :: b :: l=>lastN (b :: l)
inductive Dn:List (List Rat)→Prop
 | one {a:List Rat}:Gd a→Dn [a]
 | more {a b:List Rat} {l:List (List Rat)}:Gd a→b.length<a.length→Dn (b :: l)→Dn (a :: b :: l)
theorem Dn.gd {a:List Rat} {l:List (List Rat)} (h:Dn (a :: l)):Gd a:=by
 cases h with
 | one h=>exact h
 | more h _ _=>exact h
theorem dn_bound {c:List (List Rat)} (h:Dn c):∀a l,c=a :: l→lastN c≤a.length∧-((a.length:Int) - lastN c)≤tS c∧tS c≤(a.length:Int) - lastN c∧((a.length:Int) - lastN c - tS c) % 2=0:=by
 induction h with
 | one h=>
  intro a l e
  injection e with e1 e2
  subst e1 e2
  show _∧_∧_∧_
  simp only [lastN,tS]
  omega
 | @more a b l h1 h2 h3 ih=>
  intro a' l' e
  injection e with e1 e2
  subst e1 e2;obtain⟨i1,i2,i3,i4⟩:=ih b l rfl;obtain⟨p1,p2,p3⟩:=pT_facts h1 h3.gd
  show lastN (b :: l)≤_∧-((a.length:Int) - lastN (b :: l))≤pT a b+tS (b :: l)∧pT a b+tS (b :: l)≤(a.length:Int) - lastN (b :: l)∧((a.length:Int) - lastN (b :: l) - (pT a b+tS (b :: l))) % 2=0
  omega
theorem flips_dn {c:List (List Rat)} (h:Dn c):∀a l,c=a :: l→flipsU (endsF true a) (l.map (endsF true)) - flipsU (endsF false a) (l.map (endsF false))=tS c:=by
 induction h with
 | one h=>intro a l e;injection e with e1 e2;subst e1 e2;rfl
 | @more a b l h1 h2 h3 ih=>
  intro a' l' e
  injection e with e1 e2
  subst e1 e2;have i:=ih b l rfl;have v1:=ends_vals true h3.gd;have v2:=ends_vals false h3.gd;rw [List.map_cons,List.map_cons,flips_cons,flips_cons,if_neg (by omega),if_neg (by omega)]
  show _=pT a b+tS (b :: l)
  unfold pT;omega
theorem turn_sum {c:List (List Rat)} (h:Dn c):turnF c=tS c:=by
 cases c with
 | nil=>cases h
 | cons a l=>
  have i:=flips_dn h a l rfl;have v1:=ends_vals true h.gd;have v2:=ends_vals false h.gd;unfold turnF flipsF;rw [List.map_cons,List.map_cons,flips_cons,flips_cons,if_neg (by omega),if_neg (by omega),chg0,chg0];omega
theorem cop_nil {p:List Rat} (h:Cop p []):dgF p=1:=by
 obtain⟨s,t,e⟩:=h
 have h1:Dv p [1]:=⟨s,fun x=>by
  have:=e x
  rw [ev_nil] at this;rw [ev_one];grind⟩
 have h2:=h1.dg (by decide);have h3:dgF [(1:Rat)]=1:=by decide
 omega
theorem next_cop {p q:List Rat} (hc:Cop p q) (hq:0<dgF q):Cop q (smallF (scaleF (divF p q).2 (-1))):=by
 obtain⟨d1,-,-⟩:=div_ev p q hq;have e1:∀x,evR (scaleF (divF p q).2 (-1)) x=evR (divF p q).2 x*(-1):=fun x=>ev_scaleF _ _ x
 rcases Nat.eq_zero_or_pos (dgF (divF p q).2) with h|h
 ·obtain⟨u,v,e⟩:=hc
  refine⟨addF (mulF u (divF p q).1) v,[],fun x=>?_⟩;rw [ev_nil,ev_addF,ev_mulF,←e x,d1 x,dgz h];grind
 ·have dr2:dgF (scaleF (divF p q).2 (-1))=dgF (divF p q).2:=Nat.le_antisymm (dg_scale e1) (dg_scale (c:=-1) fun x=>by rw [e1];grind)
  obtain⟨k,k0,s1,s2,k1⟩:=small_ev (p:=scaleF (divF p q).2 (-1)) (by omega);have g1:Cop q (divF p q).2:=hc.symm.add (c:=scaleF (divF p q).1 (-1)) fun x=>by rw [ev_scaleF,d1 x];grind
  exact g1.scale (c:=1) (d:=-1*k) (by decide) (by grind) (fun x=>by grind) fun x=>by rw [s1,e1];grind
theorem next_dg {p q:List Rat} (hq:0<dgF q):(smallF (scaleF (divF p q).2 (-1))).length<dgF q:=by
 have h1:=div_dg p q hq;have e1:∀x,evR (scaleF (divF p q).2 (-1)) x=evR (divF p q).2 x*(-1):=fun x=>ev_scaleF _ _ x;have h2:=dg_scale e1;have h3:dgF (smallF (scaleF (divF p q).2 (-1)))=(smallF (scaleF (divF p q).2 (-1))).length:=by unfold dgF;rw [small_trim]
 rw [dgSm] at h3;omega
theorem chain_dn:∀(n:Nat) (p q:List Rat),Gd p→trimF q=q→q.length<p.length→q.length≤n→Cop p q→Dn (chainU (n+1) p q)∧lastN (chainU (n+1) p q)=1∧∃l,chainU (n+1) p q=p :: l
 | n,p,[],hp,_,_,_,hc=>by
  rw [chain_one n (ne_of_dg hp.1)];refine⟨.one hp,?_,[],rfl⟩
  show p.length=1
  rw [←hp.len];exact cop_nil hc
 | 0,p,c :: q,hp,_,_,h,_=>by simp at h
 | n+1,p,c :: q,hp,ht,hl,hn,hc=>by
  have hq:0<dgF (c :: q):=by unfold dgF;rw [ht];simp
  have hql:dgF (c :: q)=(c :: q).length:=by unfold dgF;rw [ht]
  rw [chain_two (n+1) (ne_of_dg hp.1) (ne_of_dg hq)];have nd:=next_dg (p:=p) hq;obtain⟨i1,i2,l,i3⟩:=chain_dn n (c :: q) (smallF (scaleF (divF p (c :: q)).2 (-1))) ⟨hq,ht⟩ (small_trim _) (by omega) (by omega) (next_cop hc hq);rw [i3] at i1 i2 ⊢;exact⟨.more hp hl i1,i2,_,rfl⟩
def Ng (ε:Rat) (a b:List Rat):Prop:=∃k,0<k∧∀x,evR b x=evR a x*(ε*k)
theorem Ng.back {ε:Rat} (hε:Pm ε) {a b:List Rat} (h:Ng ε a b):Ng ε b a:=by
 obtain⟨k,k0,e⟩:=h;have h1:=inv_ne (show k≠0 by grind);refine⟨1 / k,?_,fun x=>?_⟩
 ·rcases lt_or_le' 0 (1 / k) with g|g
  ·exact g
  ·exfalso
   have:=Rat.mul_nonneg (Rat.le_of_lt k0) (show 0≤-(1 / k) by grind)
   grind
 ·rw [e]
  have h2:=hε.sq;have h3:evR a x*(ε*k)*(ε*(1 / k))=evR a x*((ε*ε)*(k*(1 / k))):=by generalize 1 / k=w;grind
  rw [h3,h2,h1];grind
theorem Ng.dg {ε:Rat} (hε:Pm ε) {a b:List Rat} (h:Ng ε a b):dgF b=dgF a:=by
 obtain⟨k,k0,e⟩:=h;obtain⟨k',k0',e'⟩:=Ng.back hε ⟨k,k0,e⟩;exact Nat.le_antisymm (dg_scale e) (dg_scale e')
theorem Ng.co {ε:Rat} {a b:List Rat} (h:Ng ε a b):∃k,0<k∧∀i,co b i=co a i*(ε*k):=by
 obtain⟨k,k0,e⟩:=h;refine⟨k,k0,fun i=>?_⟩;rw [←co_scaleF];exact ev_inj (fun x=>by rw [ev_scaleF];exact e x) i
theorem Ng.sT {ε:Rat} (hε:Pm ε) {a b:List Rat} (ha:Gd a) (hb:Gd b) (h:Ng ε a b):Go.Proofs.YtaaoleakkaloeaaGreatDoor.sT b=si ε*Go.Proofs.YtaaoleakkaloeaaGreatDoor.sT a:=by
 have hl:b.length=a.length:=by rw [←ha.len,←hb.len];exact h.dg hε
 obtain⟨k,k0,e⟩:=h.co
 have e2:topF b=topF a*(ε*k):=by
  unfold topF;rw [hl];exact e _
 have h1:=ha.top;unfold Go.Proofs.YtaaoleakkaloeaaGreatDoor.sT;rw [e2]
 rcases rat_tri (topF a) 0 with g|g|g
 ·have g2:=Rat.mul_pos (show 0 < -(topF a) by grind) k0
  rcases hε with rfl|rfl
  ·rw [sign_neg' g,sign_neg' (show topF a*(1*k)<0 by grind)];rfl
  ·rw [sign_neg' g,sign_pos' (show 0<topF a*(-1*k) by grind)];rfl
 ·exact absurd g h1
 ·have g2:=Rat.mul_pos g k0
  rcases hε with rfl|rfl
  ·rw [sign_pos' g,sign_pos' (show 0<topF a*(1*k) by grind)];rfl
  ·rw [sign_pos' g,sign_neg' (show topF a*(-1*k)<0 by grind)];rfl
theorem pT_ng {ε:Rat} (hε:Pm ε) {a b a' b':List Rat} (ha:Gd a) (hb:Gd b) (ha':Gd a') (hb':Gd b') (h:Ng ε a a') (k:Ng (-ε) b b'):pT a' b' = -pT a b:=by
 have l1:a'.length=a.length:=by rw [←ha.len,←ha'.len];exact h.dg hε
 have l2:b'.length=b.length:=by rw [←hb.len,←hb'.len];exact k.dg hε.neg
 by_cases g:a.length % 2=b.length % 2
 ·rw [pT_even ha hb g,pT_even ha' hb' (by omega)];rfl
 ·rw [pT_odd ha hb g,pT_odd ha' hb' (by omega),h.sT hε ha ha',k.sT hε.neg hb hb',(si_not hε).1]
  rcases(si_not hε).2 with e|e <;> rw [e] <;> rcases sT_vals ha with e1|e1 <;> rcases sT_vals hb with e2|e2 <;> rw [e1,e2] <;> decide
theorem rest_ng {ε:Rat} (hε:Pm ε) {p q p' q':List Rat} (hq:0<dgF q) (h:Ng ε p p') (k:Ng (-ε) q q'):∃m,0<m∧∀x,evR (divF p' q').2 x=evR (divF p q).2 x*(ε*m):=by
 have hq':0<dgF q':=by rw [k.dg hε.neg];exact hq
 obtain⟨m,m0,e⟩:=h;obtain⟨u,u0,f⟩:=k;obtain⟨d1,-,-⟩:=div_ev p q hq;obtain⟨d2,-,-⟩:=div_ev p' q' hq';have g1:=div_dg p q hq;have g2:=div_dg p' q' hq';have hqq:dgF q'=dgF q:=Ng.dg hε.neg ⟨u,u0,f⟩;refine⟨m,m0,?_⟩
 have hz:dgF (subF (divF p' q').2 (scaleF (divF p q).2 (ε*m)))=0:=by
  refine Dv.small (d:=q) ⟨subF (scaleF (divF p q).1 (ε*m)) (scaleF (divF p' q').1 (-ε*u)),fun x=>?_⟩ ?_
  ·rw [ev_subF,ev_scaleF,ev_subF,ev_scaleF,ev_scaleF]
   have a1:=d1 x;have a2:=d2 x;rw [e x,f x,a1] at a2
   grind
  ·have:dgF (subF (divF p' q').2 (scaleF (divF p q).2 (ε*m)))≤dgF q - 1:=dg_sub (fun x=>ev_subF _ _ x) (by omega) (Nat.le_trans (dg_scale (fun x=>ev_scaleF _ _ x)) (by omega))
   omega
 intro x;have h3:=dgz hz x;rw [ev_subF,ev_scaleF] at h3
 grind
theorem next_ng {ε:Rat} (hε:Pm ε) {p q p' q':List Rat} (hq:0<dgF q) (h:Ng ε p p') (k:Ng (-ε) q q'):Ng ε (smallF (scaleF (divF p q).2 (-1))) (smallF (scaleF (divF p' q').2 (-1))):=by
 obtain⟨m,m0,e⟩:=rest_ng hε hq h k;have e1:∀x,evR (scaleF (divF p' q').2 (-1)) x=evR (scaleF (divF p q).2 (-1)) x*(ε*m):=fun x=>by rw [ev_scaleF,ev_scaleF,e];grind
 have hd:dgF (scaleF (divF p' q').2 (-1))=dgF (scaleF (divF p q).2 (-1)):=Ng.dg hε ⟨m,m0,e1⟩
 rcases Nat.eq_zero_or_pos (dgF (scaleF (divF p q).2 (-1))) with h0|h0
 ·rw [small_nil h0,small_nil (by omega)]
  exact⟨1,by decide,fun x=>by rw [ev_nil];grind⟩
 ·obtain⟨k1,k10,a1,a2,k11⟩:=small_ev h0
  obtain⟨k2,k20,b1,b2,k21⟩:=small_ev (p:=scaleF (divF p' q').2 (-1)) (by omega);refine⟨k2*(m*(1 / k1)),Rat.mul_pos k20 (Rat.mul_pos m0 k11),fun x=>?_⟩;rw [b1,e1,a2];generalize 1 / k1=w
  grind
theorem chain_ng:∀(n:Nat) (p q p' q':List Rat) (ε:Rat),Pm ε→Gd p→Gd p'→trimF q=q→trimF q'=q'→Ng ε p p'→Ng (-ε) q q'→tS (chainU n p' q') = -tS (chainU n p q)
 | 0,p,q,p',q',ε,_,_,_,_,_,_,_=>rfl
 | n+1,p,q,p',q',ε,hε,hp,hp',hq,hq',h,k=>by
  have hqq:=k.dg hε.neg
  rcases Nat.eq_zero_or_pos (dgF q) with z|z
  ·have e1:q=[]:=by rw [←hq];exact trim_nil z
   have e2:q'=[]:=by rw [←hq'];exact trim_nil (by omega)
   subst e1 e2;rw [chain_one n (ne_of_dg hp.1),chain_one n (ne_of_dg hp'.1)];rfl
  ·rw [chain_two n (ne_of_dg hp.1) (ne_of_dg z),chain_two n (ne_of_dg hp'.1) (ne_of_dg (by omega:0<dgF q'))]
   cases n with
   | zero=>rfl
   | succ n=>
    have i:=chain_ng (n+1) q (smallF (scaleF (divF p q).2 (-1))) q' (smallF (scaleF (divF p' q').2 (-1))) (-ε) hε.neg ⟨z,hq⟩ ⟨by omega,hq'⟩ (small_trim _) (small_trim _) k (by rw [Rat.neg_neg];exact next_ng hε z h k)
    have hd:∀(a b:List Rat),a≠[]→∃l,chainU (n+1) a b=a :: l:=fun a b ha=>by
     by_cases hb:b=[]
     ·subst hb;exact⟨[],chain_one n ha⟩
     ·exact⟨_,chain_two n ha hb⟩
    obtain⟨l,e1⟩:=hd q (smallF (scaleF (divF p q).2 (-1))) (ne_of_dg z);obtain⟨l',e2⟩:=hd q' (smallF (scaleF (divF p' q').2 (-1))) (ne_of_dg (by omega:0<dgF q'));rw [e1,e2] at i ⊢
    show pT p' q'+tS (q' :: l') = -(pT p q+tS (q :: l))
    rw [i,pT_ng hε hp ⟨z,hq⟩ hp' ⟨by omega,hq'⟩ h k];omega
end Go.Proofs.YtaaoleakkaloeaaGreatDoor
set_option linter.unusedVariables false
set_option maxRecDepth 100000
set_option maxHeartbeats 64000000
namespace Go.Proofs.YtaaoleakkaloeaaGreatDoor
set_option linter.unusedSimpArgs false
def sg4:Nat→Rat
 | 0=>1
 | 1=>0
 | n+2=>-sg4 n
theorem sg4_odd:∀n,n % 2=1→sg4 n=0
 | 0,h=>by cases h
 | 1,_=>rfl
 | n+2,h=>by
  show -sg4 n=0
  rw [sg4_odd n (by omega)];grind
theorem sg4_sq:∀n,n % 2=0→sg4 n*sg4 n=1
 | 0,_=>by show (1:Rat)*1=1;grind
 | 1,h=>by cases h
 | n+2,h=>by
  show -sg4 n*-sg4 n=1
  have:=sg4_sq n (by omega)
  grind
theorem sg4_add:∀i j,i % 2=0→sg4 i*sg4 j=sg4 (i+j)
 | 0,j,_=>by rw [Nat.zero_add];show 1*_=_;grind
 | 1,j,h=>by cases h
 | i+2,j,h=>by
  rw [show i+2+j=i+j+2 by omega]
  show -sg4 i*sg4 j = -sg4 (i+j)
  rw [←sg4_add i j (by omega)];grind
theorem co_up (p:List Rat) (i:Nat):co (mulF p [0,1]) i=co (0 :: p) i:=ev_inj (fun x=>by
 rw [ev_mulF]
 show evR p x*((0*x+1)*x+0)=evR p x*x+0
 grind) i
theorem co_none (p:List Rat) (i:Nat):co (mulF p []) i=0:=by
 have:=ev_inj (p:=mulF p []) (q:=[]) (fun x=>by rw [ev_mulF,ev_nil];grind) i
 exact this
theorem along_co:∀(p:List Rat) (i:Nat),co (alongU [] [0,1] p).1 i=sg4 i*co p i∧co (alongU [] [0,1] p).2 i = -sg4 (i+1)*co p i
 | [],i=>by
  show (0:Rat)=_*0∧(0:Rat)=_*0
  constructor <;> grind
 | c :: p,i=>by
  have e1:co (alongU [] [0,1] (c :: p)).1 i = -co (0 :: (alongU [] [0,1] p).2) i+co [c] i:=by
   show co (addF (subF (mulF (alongU [] [0,1] p).1 []) (mulF (alongU [] [0,1] p).2 [0,1])) [c]) i=_
   rw [co_addF]
   show co (subF _ _) i+_=_
   unfold subF;rw [co_addF]
   show co _ i+co (scaleF _ _) i+_=_
   rw [co_scaleF,co_none,co_up];grind
  have e2:co (alongU [] [0,1] (c :: p)).2 i=co (0 :: (alongU [] [0,1] p).1) i:=by
   show co (addF (mulF (alongU [] [0,1] p).1 [0,1]) (mulF (alongU [] [0,1] p).2 [])) i=_
   rw [co_addF]
   show co _ i+co _ i=_
   rw [co_none,co_up];grind
  rw [e1,e2]
  cases i with
  | zero=>
   show -(0:Rat)+c=1*c∧(0:Rat) = -0*c
   constructor <;> grind
  | succ j=>
   obtain⟨i1,i2⟩:=along_co p j;rw [co_succ,co_succ,co_succ,co_succ,i1,i2,co_nil];refine⟨by grind,?_⟩
   show _ = -(-sg4 j)*_
   grind
theorem along_trim (p:List Rat):trimF (alongU [] [0,1] p).1=(alongU [] [0,1] p).1∧trimF (alongU [] [0,1] p).2=(alongU [] [0,1] p).2:=by
 cases p with
 | nil=>exact⟨rfl,rfl⟩
 | cons c p=>exact⟨trim_trim _,trim_trim _⟩
def mirK (P:List Rat) (k:Nat):List Rat:=(List.range k).map fun i=>if i % 2=1 then -co P i else co P i
theorem mirK_succ (P:List Rat) (k:Nat):mirK P (k+1)=mirK P k ++ [if k % 2=1 then -co P k else co P k]:=by
 unfold mirK;rw [List.range_succ,List.map_append];rfl
theorem mirK_len (P:List Rat) (k:Nat):(mirK P k).length=k:=by unfold mirK;simp
def mirF (P:List Rat):List Rat:=mirK P P.length
theorem co_mir (P:List Rat) (i:Nat):co (mirF P) i=if i % 2=1 then -co P i else co P i:=by
 unfold mirF mirK;rw [co_list]
 by_cases h:i<P.length
 ·rw [if_pos h]
 ·rw [if_neg h,co_ge (p:=P) (by omega)]
  split <;> grind
theorem mir_gd {P:List Rat} (h:Gd P):Gd (mirF P):=by
 have h1:=h.top;have hl:=h.len;have hp:=h.1
 have e:dgF (mirF P)=P.length:=by
  refine Nat.le_antisymm (dg_le fun i hi=>?_) ?_
  ·rw [co_mir,co_ge hi];split <;> grind
  ·rcases Nat.lt_or_ge (dgF (mirF P)) P.length with g|g
   ·exfalso
    have h2:=dg_ge (p:=mirF P) (i:=P.length - 1) (by omega);rw [co_mir] at h2;have h3:co P (P.length - 1)=topF P:=rfl;rw [h3] at h2
    split at h2 <;> grind
   ·exact g
 refine⟨by omega,?_⟩;obtain⟨r,hr⟩:∃r,trimF (mirF P)=r:=⟨_,rfl⟩
 have e2:(trimF (mirF P)).length=(mirF P).length:=by
  have:(mirF P).length=P.length:=mirK_len _ _
  unfold dgF at e;omega
 exact List.ext_getElem? fun i=>by
  rcases Nat.lt_or_ge i (mirF P).length with g|g
  ·have h3:=co_trim (mirF P) i
   unfold co at h3;rw [List.getElem?_eq_getElem (by omega),List.getElem?_eq_getElem g] at h3 ⊢;exact congrArg some h3
  ·rw [List.getElem?_eq_none g,List.getElem?_eq_none (by omega)]
theorem far:∀l:List Rat,l≠[]→topF l≠0→∃s t:Rat,Pm s∧Pm t∧sT l=si s∧endsF true l=si t∧∃B e:Rat,0<e∧1≤B∧∀x,(B≤x→e≤s*evR l x)∧(x≤-B→e≤t*evR l x)
 | [],h,_=>absurd rfl h
 | [c],_,h=>by
  have hc:topF [c]=c:=rfl;rw [hc] at h
  rcases rat_tri c 0 with g|g|g
  ·refine⟨-1,-1,.inr rfl,.inr rfl,?_,?_,1,-c,by grind,by grind,fun x=>⟨fun _=>?_,fun _=>?_⟩⟩
   ·unfold sT;rw [hc,sign_neg' g];rfl
   ·rw [ends_t,if_neg (by simp)];unfold sT;rw [hc,sign_neg' g];rfl
   ·rw [ev_const];grind
   ·rw [ev_const];grind
  ·exact absurd g h
  ·refine⟨1,1,.inl rfl,.inl rfl,?_,?_,1,c,g,by grind,fun x=>⟨fun _=>?_,fun _=>?_⟩⟩
   ·unfold sT;rw [hc,sign_pos' g];rfl
   ·rw [ends_t,if_neg (by simp)];unfold sT;rw [hc,sign_pos' g];rfl
   ·rw [ev_const];grind
   ·rw [ev_const];grind
 | a :: b :: l,_,h=>by
  have ht:topF (a :: b :: l)=topF (b :: l):=by
   unfold topF
   show co (a :: b :: l) ((b :: l).length+1 - 1)=co (b :: l) ((b :: l).length - 1)
   rw [show (b :: l).length+1 - 1=(b :: l).length - 1+1 by simp,co_succ]
  rw [ht] at h;obtain⟨s,t,hs,htm,e1,e2,B,e,he,hB,hx⟩:=far (b :: l) (by simp) h;obtain⟨K,hK0,hK⟩:=ab_ex a;obtain⟨n,hn⟩:=arch he (K+e);have es:sT (a :: b :: l)=si s:=by rw [←e1];unfold sT;rw [ht]
  have et:endsF true (a :: b :: l)=si (-t):=by
   rw [(si_not htm).1,←e2,ends_t,ends_t,show (a :: b :: l).length=(b :: l).length+1 from rfl];have es':sT (a :: b :: l)=sT (b :: l):=by rw [es,e1]
   rw [es']
   by_cases g:(b :: l).length % 2=0
   ·rw [if_neg (by omega),if_pos g];omega
   ·rw [if_pos (by omega),if_neg g]
  refine⟨s,-t,hs,htm.neg,es,et,B+(n:Rat),e,he,?_,fun x=>⟨fun h1=>?_,fun h1=>?_⟩⟩
  ·have:(0:Rat)≤(n:Rat):=Rat.natCast_nonneg
   grind
  ·have h0:(0:Rat)≤(n:Rat):=Rat.natCast_nonneg
   have h2:=(hx x).1 (by grind);have h3:=Rat.mul_nonneg (show 0≤s*evR (b :: l) x - e by grind) (show 0≤x by grind);have h4:=Rat.mul_nonneg (show 0≤x - n by grind) (Rat.le_of_lt he);have h5:=hK.pm hs
   show e≤s*(evR (b :: l) x*x+a)
   have h6:=h5.1
   grind
  ·have h0:(0:Rat)≤(n:Rat):=Rat.natCast_nonneg
   have h2:=(hx x).2 (by grind);have h3:=Rat.mul_nonneg (show 0≤t*evR (b :: l) x - e by grind) (show 0≤-x by grind);have h4:=Rat.mul_nonneg (show 0≤-x - n by grind) (Rat.le_of_lt he);have h5:=hK.pm htm
   show e≤-t*(evR (b :: l) x*x+a)
   have h6:=h5.2
   grind
theorem far_all:∀c:List (List Rat),(∀l ∈ c,l≠[]∧topF l≠0)→∃B:Rat,1≤B∧∀x,B≤x→∀l ∈ c,atF x l=endsF false l∧atF (-x) l=endsF true l
 | [],_=>⟨1,by grind,fun _ _ l hl=>by cases hl⟩
 | a :: c,h=>by
  obtain⟨B,hB,hx⟩:=far_all c fun l hl=>h l (List.mem_cons_of_mem _ hl);obtain⟨s,t,hs,ht,e1,e2,C,e,he,hC,hy⟩:=far a (h a List.mem_cons_self).1 (h a List.mem_cons_self).2;refine⟨B+C,by grind,fun x h1 l hl=>?_⟩
  rcases List.mem_cons.1 hl with rfl|hl
  ·rw [ends_f,e1,e2]
   have k1:=(hy x).1 (by grind);have k2:=(hy (-x)).2 (by grind);exact⟨at_si hs (by grind),at_si ht (by grind)⟩
  ·exact hx x (by grind) l hl
theorem dn_all {c:List (List Rat)} (h:Dn c):∀l ∈ c,Gd l:=by
 induction h with
 | one h=>intro l hl;rw [List.mem_singleton] at hl;subst hl;exact h
 | more h _ _ ih=>
  intro l hl
  rcases List.mem_cons.1 hl with rfl|hl
  ·exact h
  ·exact ih l hl
theorem Gd.ne {l:List Rat} (h:Gd l):l≠[]:=ne_of_dg h.1
theorem turn_at {c:List (List Rat)} (h:∀l ∈ c,Gd l):∃B:Rat,1≤B∧turnF c=betweenF c (-B) B:=by
 obtain⟨B,hB,hx⟩:=far_all c fun l hl=>⟨(h l hl).ne,(h l hl).top⟩;refine⟨B,hB,?_⟩;have h1:c.map (endsF true)=c.map (atF (-B)):=List.map_congr_left fun l hl=>((hx B Rat.le_refl l hl).2).symm;have h2:c.map (endsF false)=c.map (atF B):=List.map_congr_left fun l hl=>((hx B Rat.le_refl l hl).1).symm;unfold turnF betweenF flipsF;rw [h1,h2]
theorem small_gd {p:List Rat} (h:0<dgF p):Gd (smallF p):=⟨by rw [dgSm];exact h,small_trim p⟩
theorem smalllen (p:List Rat):(smallF p).length=dgF p:=by rw [←dgSm p];unfold dgF;rw [small_trim]
theorem small_cop {p q:List Rat} (hp:0<dgF p) (h:Cop p q):Cop (smallF p) (smallF q):=by
 obtain⟨k,k0,e1,-,-⟩:=small_ev hp
 rcases Nat.eq_zero_or_pos (dgF q) with z|z
 ·exact h.scale (c:=k) (d:=1) (by grind) (by decide) e1 fun x=>by rw [small_nil z,dgz z x,ev_nil];grind
 ·obtain⟨m,m0,f1,-,-⟩:=small_ev z
  exact h.scale (by grind) (by grind) e1 f1
theorem chain_facts {p q:List Rat} (hp:0<dgF p) (hl:dgF q<dgF p) (h:Cop p q):Dn (chainF p q)∧-((dgF p:Int) - 1)≤turnF (chainF p q)∧turnF (chainF p q)≤(dgF p:Int) - 1∧((dgF p:Int) - 1 - turnF (chainF p q)) % 2=0:=by
 obtain⟨h1,h2,l,h3⟩:=chain_dn (p.length+q.length+1) (smallF p) (smallF q) (small_gd hp) (small_trim q) (by rw [smalllen,smalllen];exact hl) (by rw [smalllen];have:=dg_len q;omega) (small_cop hp h);have h4:=turn_sum h1;obtain⟨-,b1,b2,b3⟩:=dn_bound h1 _ _ h3;rw [h2,smalllen] at b1 b2 b3;unfold chainF;rw [h4];exact⟨h1,by omega,by omega,by omega⟩
theorem own_turn {p:List Rat} (h0:0<dgF p):0≤turnF (ownF p)∧turnF (ownF p)≤(dgF (simpleF p):Int) - 1∧((dgF (simpleF p):Int) - 1 - turnF (ownF p)) % 2=0∧Dn (ownF p):=by
 obtain⟨s0,-,-⟩:=simple_dg h0;have hd:=dg_deriv (simpleF p);obtain⟨c1,c2,c3,c4⟩:=chain_facts (p:=simpleF p) (q:=derivF (simpleF p)) s0 (by omega) (simple_cop h0);obtain⟨B,hB,e⟩:=turn_at (dn_all c1);have h1:=count_pos h0 (x:=-B) (y:=B) (by grind);refine⟨?_,c3,c4,c1⟩
 show 0≤turnF (chainF (simpleF p) (derivF (simpleF p)))
 rw [e];exact h1
theorem simple_sum {p:List Rat} (h0:0<dgF p):dgF p+1=dgF (nextP p)+dgF (simpleF p):=by
 have h1:=nextP_pos h0;have e:∀x,evR p x=evR (nextP p) x*evR (simpleF p) x:=quo_dv h1 (nextP_dv p).1;obtain⟨s0,-,-⟩:=simple_dg h0
 have:=dg_mul e h1 s0
 omega
theorem times_fact:∀(n:Nat) (p:List Rat),0<dgF p→dgF p≤n→0≤timesU n p∧timesU n p≤(dgF p:Int) - 1∧((dgF p:Int) - 1 - timesU n p) % 2=0
 | 0,p,h,k=>by omega
 | n+1,p,h,k=>by
  unfold timesU
  by_cases h1:1<(trimF p).length
  ·rw [if_pos h1]
   have h1':1<dgF p:=h1;have h2:=nextP_less h1';have h3:=simple_sum h;obtain⟨a1,a2,a3,-⟩:=own_turn h;obtain⟨i1,i2,i3⟩:=times_fact n (nextP p) (nextP_pos h) (by omega);unfold nextP at h2 h3 i1 i2 i3;omega
  ·rw [if_neg h1]
   have h1':¬ 1<dgF p:=h1;omega
theorem small_ng {ε:Rat} (hε:Pm ε) {a b:List Rat} (h:Ng ε a b):Ng ε (smallF a) (smallF b):=by
 have hd:=h.dg hε;obtain⟨m,m0,e⟩:=h
 rcases Nat.eq_zero_or_pos (dgF a) with h0|h0
 ·rw [small_nil h0,small_nil (by omega)]
  exact⟨1,by decide,fun x=>by rw [ev_nil];grind⟩
 ·obtain⟨k1,k10,a1,a2,k11⟩:=small_ev h0
  obtain⟨k2,k20,b1,b2,k21⟩:=small_ev (p:=b) (by omega);refine⟨k2*(m*(1 / k1)),Rat.mul_pos k20 (Rat.mul_pos m0 k11),fun x=>?_⟩;rw [b1,e,a2];generalize 1 / k1=w
  grind
theorem turn_ng {ε:Rat} (hε:Pm ε) {p q p' q':List Rat} (hp:0<dgF p) (hl:dgF q<dgF p) (hc:Cop p q) (hc':Cop p' q') (h1:p'.length=p.length) (h2:q'.length=q.length) (h:Ng ε p p') (k:Ng (-ε) q q'):turnF (chainF p' q') = -turnF (chainF p q):=by
 have d1:=h.dg hε;have d2:=k.dg hε.neg;obtain⟨c1,-,-,-⟩:=chain_facts hp hl hc;obtain⟨c2,-,-,-⟩:=chain_facts (p:=p') (q:=q') (by omega) (by omega) hc';rw [turn_sum c1,turn_sum c2];unfold chainF;rw [h1,h2];exact chain_ng _ _ _ _ _ ε hε (small_gd hp) (small_gd (by omega)) (small_trim q) (small_trim q') (small_ng hε h) (small_ng hε.neg k)
end Go.Proofs.YtaaoleakkaloeaaGreatDoor
