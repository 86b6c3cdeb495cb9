/- Hurwitz: what Routh's counts say of a polynomial, its mirror and its signs; the numbers on the way are small. Hurwitz, joined: the counts of a polynomial and of its mirror; the numbers on the way of Routh are small. -/
import Derived.Test.YtaaoleakkaloeaaGreatDoorGMc
import Derived.Test.YtaaoleakkaloeaaGreatDoorGYz
set_option linter.unusedVariables false
set_option maxRecDepth 100000
set_option maxHeartbeats 64000000
namespace Go.Proofs.YtaaoleakkaloeaaGreatDoor
set_option linter.unusedSimpArgs false
def AL (s:Rat) (d:Nat) (c:List Rat):Prop:=∀i,i≤d→∃f:Rat,0<f∧co c i=s*sg4 (d - i)*f
theorem prod_sign {p q:List Rat} {σ:Rat} (hσ:Pm σ) (hp:topF p≠0) (hq:topF q≠0) (h:sT p*sT q=si σ):0<σ*(topF p*topF q):=by
 unfold sT at h
 rcases rat_tri (topF p) 0 with a|a|a
 ·rw [sign_neg' a] at h
  rcases rat_tri (topF q) 0 with b|b|b
  ·rw [sign_neg' b] at h
   have:=Rat.mul_pos (show 0 < -topF p by grind) (show 0 < -topF q by grind)
   rcases hσ with rfl|rfl
   ·grind
   ·exact absurd h (by decide)
  ·exact absurd b hq
  ·rw [sign_pos' b] at h
   have:=Rat.mul_pos (show 0 < -topF p by grind) b
   rcases hσ with rfl|rfl
   ·exact absurd h (by decide)
   ·grind
 ·exact absurd a hp
 ·rw [sign_pos' a] at h
  rcases rat_tri (topF q) 0 with b|b|b
  ·rw [sign_neg' b] at h
   have:=Rat.mul_pos a (show 0 < -topF q by grind)
   rcases hσ with rfl|rfl
   ·exact absurd h (by decide)
   ·grind
  ·exact absurd b hq
  ·rw [sign_pos' b] at h
   have:=Rat.mul_pos a b
   rcases hσ with rfl|rfl
   ·grind
   ·exact absurd h (by decide)
theorem alt:∀(n:Nat) (p q:List Rat) (σ:Rat),Pm σ→Gd p→trimF q=q→q.length<p.length→q.length≤n→Cop p q→(∀i,co p i≠0→(i+1+p.length) % 2=0)→(∀i,co q i≠0→(i+p.length) % 2=0)→tS (chainU (n+1) p q)=si σ*((p.length:Int) - 1)→∃s,Pm s∧AL s (p.length - 1) p∧(q=[]∧p.length=1∨q.length+1=p.length∧AL (σ*s) (q.length - 1) q)
 | n,p,[],σ,hσ,hp,_,_,_,hc,_,_,_=>by
  have h1:p.length=1:=by rw [←hp.len];exact cop_nil hc
  have ht:=hp.top;have h2:topF p=co p 0:=by unfold topF;rw [h1]
  rw [h2] at ht;rw [h1]
  rcases rat_tri (co p 0) 0 with g|g|g
  ·refine⟨-1,.inr rfl,fun i hi=>?_,.inl ⟨rfl,rfl⟩⟩
   obtain rfl:i=0:=by omega
   exact⟨-co p 0,by grind,by show _ = -1*1*_;grind⟩
  ·exact absurd g ht
  ·refine⟨1,.inl rfl,fun i hi=>?_,.inl ⟨rfl,rfl⟩⟩
   obtain rfl:i=0:=by omega
   exact⟨co p 0,g,by show _=1*1*_;grind⟩
 | 0,p,c :: q,σ,_,_,_,_,h,_,_,_,_=>by simp at h
 | n+1,p,c :: q',σ,hσ,hp,ht,hl,hn,hc,pp,pq,hT=>by
  obtain⟨q,hqe⟩:∃q,c :: q'=q:=⟨_,rfl⟩;have hq1:0<q.length:=by rw [←hqe];simp
  rw [hqe] at ht hl hn hc pq hT ⊢;clear hqe;have hq:0<dgF q:=by unfold dgF;rw [ht];exact hq1
  have gq:Gd q:=⟨hq,ht⟩;have hql:=gq.len;have hpl:=hp.len;rw [chain_two (n+1) hp.ne gq.ne] at hT;obtain⟨r,hr⟩:∃r,smallF (scaleF (divF p q).2 (-1))=r:=⟨_,rfl⟩;have hrl:=next_dg (p:=p) hq;have hrc:=next_cop hc hq;have hrt:=small_trim (scaleF (divF p q).2 (-1));rw [hr] at hrl hrc hrt hT;obtain⟨i1,i2,l,i3⟩:=chain_dn n q r gq hrt (by omega) (by omega) hrc;obtain⟨-,b1,b2,-⟩:=dn_bound i1 q l i3;rw [i2] at b1 b2;have pf:=pT_facts hp gq;have hT2:pT p q+tS (chainU (n+1) q r)=si σ*((p.length:Int) - 1):=by rw [i3] at hT ⊢;exact hT
  have hσ2:=(si_not hσ).2
  have hL:p.length=q.length+1:=by
   rcases hσ2 with e|e <;> rw [e] at hT2 <;> omega
  have hpT:pT p q=si σ:=by
   rcases hσ2 with e|e <;> rw [e] at hT2 ⊢ <;> omega
  have hT3:tS (chainU (n+1) q r)=si σ*((q.length:Int) - 1):=by
   rcases hσ2 with e|e <;> rw [e] at hT2 hpT ⊢ <;> omega
  rw [pT_odd hp gq (by omega)] at hpT;have hps:=prod_sign hσ hp.top gq.top hpT;obtain⟨w,hw⟩:∃w,1 / topF q=w:=⟨_,rfl⟩;have hw1:topF q*w=1:=by rw [←hw];exact inv_ne gq.top
  obtain⟨α,hα⟩:∃ α,topF p*w=α:=⟨_,rfl⟩
  have hw2:0<w*w:=by
   have hw0:w≠0:=fun e=>by rw [e] at hw1;grind
   rcases rat_tri w 0 with g|g|g
   ·have:=Rat.mul_pos (show 0 < -w by grind) (show 0 < -w by grind)
    grind
   ·exact absurd g hw0
   ·exact Rat.mul_pos g g
  have hσα:0<σ*α:=by
   have h1:=Rat.mul_pos hps hw2;have h2:σ*(topF p*topF q)*(w*w)=σ*(topF p*w)*(topF q*w):=by grind
   rw [h2,hw1,hα] at h1
   grind
  have htp:topF p=α*topF q:=by
   have e:topF p*w*topF q=topF p*(topF q*w):=by grind
   rw [←hα,e,hw1];grind
  obtain⟨d1,-,-⟩:=div_ev p q hq;have drl:=div_dg p q hq
  have hrest:∀x,evR (divF p q).2 x=evR (subF p (scaleF (0 :: q) α)) x:=by
   have hd:dgF (subF p (scaleF (0 :: q) α))≤q.length - 1:=dg_le fun i hi=>by
    show co (addF p (scaleF (scaleF (0 :: q) α) (-1))) i=0
    rw [co_addF]
    show co p i+co (scaleF (scaleF (0 :: q) α) (-1)) i=0
    rw [co_scaleF,co_scaleF]
    rcases Nat.lt_trichotomy i q.length with g|g|g
    ·have e1:co p i=0:=by
      rcases Classical.em (co p i=0) with z|z
      ·exact z
      ·have:=pp i z;omega
     have e2:co (0 :: q) i=0:=by
      cases i with
      | zero=>rfl
      | succ j=>
       rw [co_succ]
       rcases Classical.em (co q j=0) with z|z
       ·exact z
       ·have:=pq j z;omega
     rw [e1,e2];grind
    ·have e1:co p i=topF p:=by unfold topF;rw [hL,g];rfl
     have e2:co (0 :: q) i=topF q:=by
      unfold topF;rw [show i=q.length - 1+1 by omega,co_succ]
     rw [e1,e2,htp];grind
    ·have e1:co p i=0:=co_ge (by omega)
     have e2:co (0 :: q) i=0:=co_ge (by simp;omega);rw [e1,e2];grind
   have hz:dgF (subF (divF p q).2 (subF p (scaleF (0 :: q) α)))=0:=by
    refine Dv.small (d:=q) ⟨subF (scaleF [0,1] α) (divF p q).1,fun x=>?_⟩ ?_
    ·rw [ev_subF,ev_subF,ev_scaleF,ev_subF,ev_scaleF,d1 x]
     show _ - (_ - (evR q x*x+0)*α)=evR q x*(((0*x+1)*x+0)*α - _)
     grind
    ·have:dgF (subF (divF p q).2 (subF p (scaleF (0 :: q) α)))≤q.length - 1:=dg_sub (fun x=>ev_subF _ _ x) (by omega) hd
     omega
   intro x;have h3:=dgz hz x;rw [ev_subF] at h3
   grind
  have hco:∀i,co (divF p q).2 i=co p i - α*co (0 :: q) i:=fun i=>by
   rw [ev_inj hrest i]
   show co (addF p (scaleF (scaleF (0 :: q) α) (-1))) i=_
   rw [co_addF]
   show co p i+co (scaleF (scaleF (0 :: q) α) (-1)) i=_
   rw [co_scaleF,co_scaleF];grind
  obtain⟨κ,κ0,hκ⟩:∃ κ:Rat,0<κ∧∀i,co (divF p q).2 i = -κ*co r i:=by
   rcases Nat.eq_zero_or_pos (dgF (scaleF (divF p q).2 (-1))) with h0|h0
   ·refine⟨1,by decide,fun i=>?_⟩
    have h1:r=[]:=by rw [←hr];exact small_nil h0
    have h2:=dg_ge (p:=scaleF (divF p q).2 (-1)) (i:=i) (by omega);rw [co_scaleF] at h2;rw [h1,co_nil];grind
   ·obtain⟨k1,k10,a1,a2,k11⟩:=small_ev h0
    refine⟨1 / k1,k11,fun i=>?_⟩;have h2:=ev_inj (p:=scaleF (divF p q).2 (-1)) (q:=scaleF r (1 / k1)) (fun x=>by rw [ev_scaleF r,←hr];exact a2 x) i;rw [co_scaleF,co_scaleF] at h2
    grind
  have hpc:∀i,co p i=α*co (0 :: q) i - κ*co r i:=fun i=>by
   have h1:=hco i;have h2:=hκ i
   grind
  obtain⟨s,hs,A1,A2⟩:=alt n q r σ hσ gq hrt (by omega) (by omega) hrc (fun i hi=>by have:=pq i hi;omega) (fun i hi=>by
   rcases Classical.em (co p i=0) with z|z
   ·rcases Classical.em (co (0 :: q) i=0) with y|y
    ·exfalso
     have h1:=hpc i;rw [z,y] at h1
     have:κ*co r i=0:=by grind
     rcases Rat.mul_eq_zero.1 this with h|h
     ·grind
     ·exact hi h
    ·cases i with
     | zero=>exact absurd rfl y
     | succ j=>have:=pq j y;omega
   ·have:=pp i z;omega) hT3
  have hσσ:=hσ.sq;refine⟨σ*s,hσ.mul hs,fun i hi=>?_,.inr ⟨by omega,?_⟩⟩
  ·have hp1:p.length - 1=q.length:=by omega
   rw [hp1] at hi ⊢
   have hX:∃f:Rat,0≤f∧(0<i→0<f)∧co (0 :: q) i=s*sg4 (q.length - i)*f:=by
    cases i with
    | zero=>exact⟨0,Rat.le_refl,fun h=>absurd h (by decide),by show (0:Rat)=_;grind⟩
    | succ j=>
     obtain⟨f,f0,e⟩:=A1 j (by omega);rw [show q.length - 1 - j=q.length - (j+1) by omega] at e;exact⟨f,Rat.le_of_lt f0,fun _=>f0,e⟩
   have hY:∃f:Rat,0≤f∧(i+2≤q.length→0<f)∧co r i = -(σ*s)*sg4 (q.length - i)*f:=by
    rcases A2 with ⟨h1,h2⟩|⟨h1,h2⟩
    ·exact⟨0,Rat.le_refl,fun h=>by omega,by rw [h1,co_nil];grind⟩
    ·rcases Nat.lt_or_ge (i+1) q.length with g|g
     ·obtain⟨f,f0,e⟩:=h2 i (by omega)
      rw [show r.length - 1 - i=q.length - i - 2 by omega] at e
      have h4:sg4 (q.length - i) = -sg4 (q.length - i - 2):=by
       rw [show q.length - i=q.length - i - 2+2 by omega];rfl
      exact⟨f,Rat.le_of_lt f0,fun _=>f0,by rw [e,h4];grind⟩
     ·exact⟨0,Rat.le_refl,fun h=>by omega,by rw [co_ge (by omega)];grind⟩
   obtain⟨f,f0,f1,eX⟩:=hX;obtain⟨g,g0,g1,eY⟩:=hY;have e:=hpc i;rw [eX,eY] at e;have m1:=Rat.mul_nonneg (Rat.le_of_lt hσα) f0;have m2:=Rat.mul_nonneg (Rat.le_of_lt κ0) g0
   rcases Nat.eq_zero_or_pos i with z|z
   ·rcases Nat.lt_or_ge 1 q.length with y|y
    ·have m3:=Rat.mul_pos κ0 (g1 (by omega))
     refine⟨σ*α*f+κ*g,by grind,?_⟩;rw [e]
     have:σ*s*sg4 (q.length - i)*(σ*α*f+κ*g)=(σ*σ)*(α*(s*sg4 (q.length - i)*f))+κ*(σ*s*sg4 (q.length - i)*g):=by grind
     rw [this,hσσ];grind
    ·refine⟨1,by decide,?_⟩
     rw [e,show q.length - i=1 by omega]
     show α*(s*0*f) - κ*(-(σ*s)*0*g)=σ*s*0*1
     grind
   ·have m3:=Rat.mul_pos hσα (f1 z)
    refine⟨σ*α*f+κ*g,by grind,?_⟩;rw [e]
    have:σ*s*sg4 (q.length - i)*(σ*α*f+κ*g)=(σ*σ)*(α*(s*sg4 (q.length - i)*f))+κ*(σ*s*sg4 (q.length - i)*g):=by grind
    rw [this,hσσ];grind
  ·have:σ*(σ*s)=s:=by
    have:σ*(σ*s)=(σ*σ)*s:=by grind
    rw [this,hσσ];grind
   rw [this];exact A1
theorem AL.scale {s k:Rat} {d:Nat} {c b:List Rat} (h:AL s d c) (hk:0<k) (e:∀x,evR b x=evR c x*k):AL s d b:=fun i hi=>by
 obtain⟨f,f0,g⟩:=h i hi;refine⟨f*k,Rat.mul_pos f0 hk,?_⟩
 have:=ev_inj (p:=b) (q:=scaleF c k) (fun x=>by rw [ev_scaleF];exact e x) i
 rw [this,co_scaleF,g];grind
theorem alt_chain {p q:List Rat} {σ:Rat} (hσ:Pm σ) (hp:0<dgF p) (hl:dgF q<dgF p) (hc:Cop p q) (pp:∀i,co p i≠0→(i+1+dgF p) % 2=0) (pq:∀i,co q i≠0→(i+dgF p) % 2=0) (hT:turnF (chainF p q)=si σ*((dgF p:Int) - 1)):∃s,Pm s∧AL s (dgF p - 1) p∧(dgF q=0∧dgF p=1∨dgF q+1=dgF p∧AL (σ*s) (dgF q - 1) q):=by
 obtain⟨c1,-,-,-⟩:=chain_facts hp hl hc;rw [turn_sum c1] at hT;unfold chainF at hT;obtain⟨k,k0,e1,e2,k1⟩:=small_ev hp
 have pp':∀i,co (smallF p) i≠0→(i+1+(smallF p).length) % 2=0:=fun i hi=>by
  rw [smalllen];refine pp i fun z=>hi ?_
  have:=ev_inj (p:=smallF p) (q:=scaleF p k) (fun x=>by rw [ev_scaleF];exact e1 x) i
  rw [this,co_scaleF,z];grind
 have pq':∀i,co (smallF q) i≠0→(i+(smallF p).length) % 2=0:=fun i hi=>by
  rw [smalllen];refine pq i fun z=>hi ?_
  rcases Nat.eq_zero_or_pos (dgF q) with h0|h0
  ·rw [small_nil h0];rfl
  ·obtain⟨m,m0,f1,-,-⟩:=small_ev h0
   have:=ev_inj (p:=smallF q) (q:=scaleF q m) (fun x=>by rw [ev_scaleF];exact f1 x) i
   rw [this,co_scaleF,z];grind
 obtain⟨s,hs,A1,A2⟩:=alt (p.length+q.length+1) (smallF p) (smallF q) σ hσ (small_gd hp) (small_trim q) (by rw [smalllen,smalllen];exact hl) (by rw [smalllen];have:=dg_len q;omega) (small_cop hp hc) pp' pq' (by rw [smalllen];exact hT);rw [smalllen] at A1 A2;refine⟨s,hs,A1.scale k1 e2,?_⟩
 rcases A2 with ⟨z,a⟩|⟨a,b⟩
 ·refine .inl ⟨?_,a⟩
  have:=smalllen q
  rw [z] at this;exact this.symm
 ·rw [smalllen] at a b
  have h0:dgF q=0∨0<dgF q:=by omega
  rcases h0 with h0|h0
  ·exact .inl ⟨h0,by omega⟩
  ·obtain⟨m,m0,f1,f2,m1⟩:=small_ev h0
   exact .inr ⟨a,b.scale m1 f2⟩
structure Parts2 (re im g R I:List Rat):Prop where
 g0:0<dgF g
 mg:Mo g
 eR:∀x,evR re x=evR g x*evR R x
 eI:∀x,evR im x=evR g x*evR I x
 tR:trimF R=R
 tI:trimF I=I
 cop:Cop R I
theorem parts2 {re im:List Rat} (h:0<dgF re∨0<dgF im):Parts2 re im (commonF re im) (divF re (commonF re im)).1 (divF im (commonF re im)).1:=by
 obtain⟨⟨g1,g2,s,t,e⟩,mg⟩:=gcd_gc re im
 have g0:0<dgF (commonF re im):=by
  rcases h with h|h
  ·exact(g1.dg h).1
  ·exact(g2.dg h).1
 have eR:=quo_dv g0 g1;have eI:=quo_dv g0 g2;refine⟨g0,mg,eR,eI,quo_trim _ _,quo_trim _ _,s,t,fun x=>?_⟩;have h1:=ev_cancel (p:=commonF re im) (q:=addF (mulF s (divF re (commonF re im)).1) (mulF t (divF im (commonF re im)).1)) (r:=[1]) g0 (fun x=>by rw [ev_addF,ev_mulF,ev_mulF,ev_one];have h2:=e x;rw [eR,eI] at h2;grind) x;rw [ev_addF,ev_mulF,ev_mulF,ev_one] at h1;exact h1
theorem Parts2.lenR {re im g R I:List Rat} (h:Parts2 re im g R I):R.length=dgF R∧I.length=dgF I:=⟨by unfold dgF;rw [h.tR],by unfold dgF;rw [h.tI]⟩
theorem quo_dg {a g b:List Rat} (g0:0<dgF g) (e:∀x,evR a x=evR g x*evR b x):(dgF a=0∧dgF b=0)∨(0<dgF b∧dgF a+1=dgF g+dgF b):=by
 rcases Nat.eq_zero_or_pos (dgF b) with z|z
 ·exact .inl ⟨dg_of_zero fun x=>by rw [e,dgz z];grind,z⟩
 ·have:=dg_mul e g0 z
  exact .inr ⟨z,by omega⟩
theorem routh_turn {re im:List Rat} (h:0<dgF re∨0<dgF im) (hne:dgF re≠dgF im):∀R I:List Rat,(divF re (commonF re im)).1=R→(divF im (commonF re im)).1=I→dgF R≠dgF I∧0<max (dgF R) (dgF I)∧max (dgF re) (dgF im)+1=dgF (commonF re im)+max (dgF R) (dgF I)∧-((max (dgF R) (dgF I):Nat) - 1:Int)≤routhT re im (commonF re im)∧routhT re im (commonF re im)≤((max (dgF R) (dgF I):Nat) - 1:Int)∧((max (dgF R) (dgF I):Nat) - 1 - routhT re im (commonF re im):Int) % 2=0∧Dn (routhC re im (commonF re im)):=by
 intro R I hR hI;have P:=parts2 h;rw [hR,hI] at P;obtain⟨lR,lI⟩:=P.lenR;have dR:=quo_dg P.g0 P.eR;have dI:=quo_dg P.g0 P.eI;have hRI:dgF R≠dgF I:=by omega
 unfold routhT routhC;rw [hR,hI,lR,lI]
 by_cases hlt:dgF I<dgF R
 ·rw [if_pos hlt,if_pos hlt]
  obtain⟨c1,c2,c3,c4⟩:=chain_facts (by omega) hlt P.cop;rw [show max (dgF R) (dgF I)=dgF R from by omega];exact⟨hRI,by omega,by omega,by omega,by omega,by omega,c1⟩
 ·rw [if_neg hlt,if_neg hlt]
  obtain⟨c1,c2,c3,c4⟩:=chain_facts (p:=I) (q:=R) (by omega) (by omega) P.cop.symm;rw [show max (dgF R) (dgF I)=dgF I from by omega];exact⟨hRI,by omega,by omega,by omega,by omega,by omega,c1⟩
end Go.Proofs.YtaaoleakkaloeaaGreatDoor
set_option linter.unusedVariables false
set_option maxRecDepth 100000
set_option maxHeartbeats 64000000
namespace Go.Proofs.YtaaoleakkaloeaaGreatDoor
set_option linter.unusedSimpArgs false
set_option maxHeartbeats 2000000
theorem sg4_ne {i:Nat} (h:sg4 i≠0):i % 2=0:=by
 rcases Nat.mod_two_eq_zero_or_one i with g|g
 ·exact g
 ·exact absurd (sg4_odd i g) h
theorem sg4_ne' {i:Nat} (h:i % 2=0):sg4 i≠0:=fun e=>by
 have:=sg4_sq i h
 rw [e] at this
 grind
theorem parts_dg {P:List Rat} (h:Gd P):(P.length % 2=1→dgF (alongU [] [0,1] P).1=P.length∧dgF (alongU [] [0,1] P).2<P.length)∧(P.length % 2=0→dgF (alongU [] [0,1] P).2=P.length∧dgF (alongU [] [0,1] P).1<P.length):=by
 have hl:=h.len;have h0:=h.1;have ht:=h.top;have htt:topF P=co P (P.length - 1):=rfl;rw [htt] at ht
 constructor
 ·intro g
  constructor
  ·have h1:=len_of (p:=(alongU [] [0,1] P).1) (n:=P.length - 1) (fun e=>by
    rw [(along_co P _).1] at e
    rcases Rat.mul_eq_zero.1 e with z|z
    ·exact sg4_ne' (by omega) z
    ·exact ht z) (fun k hk=>by rw [(along_co P _).1,co_ge (p:=P) (by omega)];grind)
   unfold dgF;omega
  ·have:dgF (alongU [] [0,1] P).2≤P.length - 1:=dg_le fun i hi=>by
    rw [(along_co P _).2]
    rcases Nat.lt_or_ge i P.length with k|k
    ·rw [sg4_odd (i+1) (by omega)];grind
    ·rw [co_ge k];grind
   omega
 ·intro g
  constructor
  ·have h1:=len_of (p:=(alongU [] [0,1] P).2) (n:=P.length - 1) (fun e=>by
    rw [(along_co P _).2] at e
    rcases Rat.mul_eq_zero.1 e with z|z
    ·exact sg4_ne' (i:=P.length - 1+1) (by omega) (by grind)
    ·exact ht z) (fun k hk=>by rw [(along_co P _).2,co_ge (p:=P) (by omega)];grind)
   unfold dgF;omega
  ·have:dgF (alongU [] [0,1] P).1≤P.length - 1:=dg_le fun i hi=>by
    rw [(along_co P _).1]
    rcases Nat.lt_or_ge i P.length with k|k
    ·rw [sg4_odd i (by omega)];grind
    ·rw [co_ge k];grind
   omega
theorem half {a:Int} (h:0≤a) (k:a % 2=0):∃b,0≤b∧a=2*b∧a.tdiv 2=b:=⟨a / 2,by omega,by omega,Int.tdiv_eq_ediv_of_nonneg h⟩
theorem routh_mirror {re im im':List Rat} (h:0<dgF re∨0<dgF im) (hne:dgF re≠dgF im) (e:∀x,evR im' x = -evR im x):commonF re im'=commonF re im∧(divF im' (commonF re im)).1.length=(divF im (commonF re im)).1.length∧routhT re im' (commonF re im) = -routhT re im (commonF re im):=by
 obtain⟨⟨g1,g2,s,t,eg⟩,mg⟩:=gcd_gc re im
 have hg:commonF re im'=commonF re im:=by
  refine gcd_is ⟨g1,g2.mul [-1] fun x=>by rw [e,ev_const];grind,s,scaleF t (-1),fun x=>?_⟩ mg;rw [eg,ev_scaleF,e];grind
 have P:=parts2 h
 have P':=parts2 (re:=re) (im:=im') (by
  rcases h with h|h
  ·exact .inl h
  ·refine .inr ?_
   rcases Nat.eq_zero_or_pos (dgF im') with z|z
   ·have:=dg_of_zero (p:=im) fun x=>by have:=e x;rw [dgz z] at this;grind
    omega
   ·exact z)
 rw [hg] at P';obtain⟨lR,lI⟩:=P.lenR;obtain⟨-,lI'⟩:=P'.lenR
 have eI:∀x,evR (divF im' (commonF re im)).1 x=evR (divF im (commonF re im)).1 x*(-1):=fun x=>by
  have h1:=ev_cancel (p:=commonF re im) (q:=(divF im' (commonF re im)).1) (r:=scaleF (divF im (commonF re im)).1 (-1)) P.g0 (fun x=>by
   rw [ev_scaleF];have a1:=P.eI x;have a2:=P'.eI x;have a3:=e x
   grind) x
  rw [ev_scaleF] at h1;exact h1
 have ng:Ng (-1) (divF im (commonF re im)).1 (divF im' (commonF re im)).1:=⟨1,by decide,fun x=>by rw [eI];grind⟩;have dI:dgF (divF im' (commonF re im)).1=dgF (divF im (commonF re im)).1:=ng.dg (.inr rfl);have hll:(divF im' (commonF re im)).1.length=(divF im (commonF re im)).1.length:=by omega
 obtain⟨hRI,hmx,-⟩:=routh_turn h hne _ _ rfl rfl;refine⟨hg,hll,?_⟩;have refl1:∀l:List Rat,Ng 1 l l:=fun l=>⟨1,by decide,fun x=>by grind⟩;unfold routhT routhC;rw [hll]
 by_cases hlt:(divF im (commonF re im)).1.length<(divF re (commonF re im)).1.length
 ·simp only [if_pos hlt]
  rw [turn_ng (.inl rfl) (by omega) (by omega) P.cop P'.cop rfl hll (refl1 _) ng];omega
 ·simp only [if_neg hlt]
  rw [turn_ng (.inr rfl) (by omega) (by omega) P.cop.symm P'.cop.symm hll rfl ng (by rw [Rat.neg_neg];exact refl1 _)];omega
theorem sg4_m {n i:Nat} (h:i % 2=0) (hi:i≤n) {s f a:Rat} (e:sg4 i*a=s*sg4 (n - i)*f):a=s*sg4 n*f:=by
 have h1:=sg4_sq i h;have h2:=sg4_add i (n - i) h;rw [show i+(n - i)=n by omega] at h2;have h3:a=(sg4 i*sg4 i)*a:=by rw [h1];grind
 have h4:(sg4 i*sg4 i)*a=sg4 i*(sg4 i*a):=by grind
 rw [h3,h4,e,←h2];grind
theorem co_sign {a u f:Rat} (hu:Pm u) (hf:0<f) (e:a=u*f):a.num.sign=si u:=by
 rcases hu with rfl|rfl
 ·rw [sign_pos' (by grind)];rfl
 ·rw [sign_neg' (by grind)];decide
theorem sg4_pm {n:Nat} (h:n % 2=0):Pm (sg4 n):=by
 have h1:=sg4_sq n h
 rcases rat_tri (sg4 n) 0 with g|g|g
 ·refine .inr ?_
  have:(sg4 n - 1)*(sg4 n+1)=0:=by grind
  rcases Rat.mul_eq_zero.1 this with k|k <;> grind
 ·exact absurd g (sg4_ne' h)
 ·refine .inl ?_
  have:(sg4 n - 1)*(sg4 n+1)=0:=by grind
  rcases Rat.mul_eq_zero.1 this with k|k <;> grind
theorem signs_alike {P:List Rat} (h:Gd P) (hg:commonF (alongU [] [0,1] P).1 (alongU [] [0,1] P).2=[1]) (hT:routhT (alongU [] [0,1] P).1 (alongU [] [0,1] P).2 [1]=(P.length:Int) - 1):∃u,Pm u∧∀i,i<P.length→(co P i).num.sign=si u:=by
 obtain⟨t1,t2⟩:=along_trim P;have hco:=along_co P;have hp0:=h.1;have hpl:=h.len;obtain⟨d1,d2⟩:=parts_dg h;generalize (alongU [] [0,1] P).1=re at *;generalize (alongU [] [0,1] P).2=im at *;have h1:0<dgF [(1:Rat)]:=by decide
 have qR:(divF re [1]).1=re:=quo_eq h1 t1 fun x=>by rw [ev_one];grind
 have qI:(divF im [1]).1=im:=quo_eq h1 t2 fun x=>by rw [ev_one];grind
 have hc:=cop_of_gcd hg;have lR:re.length=dgF re:=by unfold dgF;rw [t1]
 have lI:im.length=dgF im:=by unfold dgF;rw [t2]
 unfold routhT routhC at hT;rw [qR,qI,lR,lI] at hT
 rcases Nat.mod_two_eq_zero_or_one P.length with g|g
 ·obtain⟨e1,e2⟩:=d2 g
  rw [if_neg (by omega),if_neg (by omega)] at hT
  obtain⟨s,hs,A1,A2⟩:=alt_chain (p:=im) (q:=re) (.inl rfl) (by omega) (by omega) hc.symm (fun i hi=>by
   rw [(hco i).2] at hi
   have:=sg4_ne (i:=i+1) fun z=>hi (by rw [z];grind)
   omega) (fun i hi=>by
   rw [(hco i).1] at hi
   have:=sg4_ne (i:=i) fun z=>hi (by rw [z];grind)
   omega) (by rw [e1,si_one];omega)
  have hs4:Pm (s*sg4 (P.length - 2)):=hs.mul (sg4_pm (by omega))
  have hs5:sg4 P.length = -sg4 (P.length - 2):=by
   rw [show P.length=P.length - 2+2 by omega];rfl
  refine⟨_,hs4,fun i hi=>?_⟩
  rcases Nat.mod_two_eq_zero_or_one i with k|k
  ·rcases A2 with ⟨a,b⟩|⟨a,b⟩
   ·omega
   ·obtain⟨f,f0,e⟩:=b i (by omega)
    rw [(hco i).1,show dgF re - 1 - i=P.length - 2 - i by omega] at e
    have:=sg4_m (n:=P.length - 2) (s:=1*s) k (by omega) e
    exact co_sign hs4 f0 (by rw [this];grind)
  ·obtain⟨f,f0,e⟩:=A1 i (by omega)
   rw [(hco i).2,show dgF im - 1 - i=P.length - (i+1) by omega] at e
   have:=sg4_m (n:=P.length) (i:=i+1) (s:=-s) (a:=co P i) (f:=f) (by omega) (by omega) (by grind)
   exact co_sign hs4 f0 (by rw [this,hs5];grind)
 ·obtain⟨e1,e2⟩:=d1 g
  rw [if_pos (by omega),if_pos (by omega)] at hT
  obtain⟨s,hs,A1,A2⟩:=alt_chain (p:=re) (q:=im) (.inr rfl) (by omega) (by omega) hc (fun i hi=>by
   rw [(hco i).1] at hi
   have:=sg4_ne (i:=i) fun z=>hi (by rw [z];grind)
   omega) (fun i hi=>by
   rw [(hco i).2] at hi
   have:=sg4_ne (i:=i+1) fun z=>hi (by rw [z];grind)
   omega) (by rw [e1,si_neg];omega)
  have hs4:Pm (s*sg4 (P.length - 1)):=hs.mul (sg4_pm (by omega));refine⟨_,hs4,fun i hi=>?_⟩
  rcases Nat.mod_two_eq_zero_or_one i with k|k
  ·obtain⟨f,f0,e⟩:=A1 i (by omega)
   rw [(hco i).1,show dgF re - 1 - i=P.length - 1 - i by omega] at e
   have:=sg4_m (n:=P.length - 1) k (by omega) e
   exact co_sign hs4 f0 this
  ·rcases A2 with ⟨a,b⟩|⟨a,b⟩
   ·omega
   ·obtain⟨f,f0,e⟩:=b i (by omega)
    rw [(hco i).2,show dgF im - 1 - i=P.length - 1 - (i+1) by omega] at e
    have:=sg4_m (n:=P.length - 1) (i:=i+1) (s:=s) (a:=co P i) (f:=f) (by omega) (by omega) (by grind)
    exact co_sign hs4 f0 this
theorem hurwitz {P:List Rat} (h:Gd P):(routhF (mirF P)).2=(routhF P).2∧(routhF (mirF P)).1+(routhF P).1+(routhF P).2=(P.length:Int) - 1∧0≤(routhF (mirF P)).1∧0≤(routhF P).1∧0≤(routhF P).2∧((routhF P).1=0→(routhF P).2=0→∀i,i<P.length→(co P i).num.sign=(co P 0).num.sign):=by
 have hm:=mir_gd h;obtain⟨t1,t2⟩:=along_trim P;obtain⟨t3,t4⟩:=along_trim (mirF P);have hp0:=h.1;have hpl:=h.len;obtain⟨d1,d2⟩:=parts_dg h;have hsg:=signs_alike h
 have e1:(alongU [] [0,1] (mirF P)).1=(alongU [] [0,1] P).1:=by
  rw [←t3,←t1];refine trim_co fun i=>?_;rw [(along_co _ i).1,(along_co _ i).1,co_mir]
  split
  ·rw [sg4_odd i (by omega)];grind
  ·rfl
 have e2:∀x,evR (alongU [] [0,1] (mirF P)).2 x = -evR (alongU [] [0,1] P).2 x:=fun x=>by
  have:=ev_co (p:=(alongU [] [0,1] (mirF P)).2) (q:=scaleF (alongU [] [0,1] P).2 (-1)) (fun i=>by
   rw [co_scaleF,(along_co _ i).2,(along_co _ i).2,co_mir]
   split
   ·grind
   ·rw [sg4_odd (i+1) (by omega)];grind) x
  rw [this,ev_scaleF];grind
 unfold routhF;rw [h.2,hm.2,e1];generalize (alongU [] [0,1] (mirF P)).2=im' at *;generalize (alongU [] [0,1] P).1=re at *;generalize (alongU [] [0,1] P).2=im at *;have hpos:0<dgF re∨0<dgF im:=by omega
 have hne:dgF re≠dgF im:=by omega
 obtain⟨m1,m2,m3⟩:=routh_mirror hpos hne e2;obtain⟨r1,r2,r3,r4,r5,r6,-⟩:=routh_turn hpos hne _ _ rfl rfl;have P2:=parts2 hpos;obtain⟨lR,lI⟩:=P2.lenR;obtain⟨x1,x2,x3⟩:=times_fact ((commonF re im).length+1) (commonF re im) P2.g0 (by have:=dg_len (commonF re im);omega);have hx:timesF (commonF re im)=timesU ((commonF re im).length+1) (commonF re im):=rfl;rw [m1]
 show timesF _=timesF _∧routhG _ _ _ _+routhG _ _ _ _+timesF _=_∧0≤routhG _ _ _ _∧0≤routhG _ _ _ _∧0≤timesF _∧(routhG _ _ _ _=0→timesF _=0→_)
 rw [←hx] at x1 x2 x3;have hgl:(trimF (commonF re im)).length=dgF (commonF re im):=rfl;unfold routhG;rw [m2,m3,lR,lI,hgl];have hmax:max (dgF re) (dgF im)=P.length:=by omega
 rw [hmax] at r3;have hmm:max ((dgF (divF re (commonF re im)).1:Nat):Int) ((dgF (divF im (commonF re im)).1:Nat):Int)=((max (dgF (divF re (commonF re im)).1) (dgF (divF im (commonF re im)).1):Nat):Int):=by omega
 rw [hmm];have hTe:routhT re im (commonF re im)=routhT re im (commonF re im):=rfl;generalize hA:timesF (commonF re im)=ax at *;generalize hTT:routhT re im (commonF re im)=T at *;generalize hMM:max (dgF (divF re (commonF re im)).1) (dgF (divF im (commonF re im)).1)=mx at *;have hg0:=P2.g0;obtain⟨b1,b10,b11,b12⟩:=half (a:=(dgF (commonF re im):Int) - 1 - ax) (by omega) (by omega);obtain⟨b2,b20,b21,b22⟩:=half (a:=(mx:Int) - 1 - T) (by omega) (by omega);obtain⟨b3,b30,b31,b32⟩:=half (a:=(mx:Int) - 1 - -T) (by omega) (by omega);rw [b12,b22,b32];refine⟨rfl,by omega,by omega,by omega,x1,fun z1 z2=>?_⟩;have hd1:dgF (commonF re im)=1:=by omega
 have hg1:=mo_one_of P2.mg hd1;rw [hg1] at hTT;obtain⟨u,hu,hall⟩:=hsg hg1 (by rw [hTT];omega);intro i hi;rw [hall i hi,hall 0 (by omega)]
theorem bq_all {B:Nat} {l:List Rat} (h:∀i,Bq B (co l i)):∀x ∈ l,Bq B x:=fun x hx=>by
 obtain⟨i,hi,e⟩:=List.getElem_of_mem hx
 have:=h i
 unfold co at this;rw [List.getElem?_eq_getElem hi,e] at this;exact this
theorem co_bq {B:Nat} (hB:0<B) {l:List Rat} (h:∀x ∈ l,Bq B x) (i:Nat):Bq B (co l i):=by
 rcases Nat.lt_or_ge i l.length with g|g
 ·refine h _ ?_
  unfold co;rw [List.getElem?_eq_getElem g];exact List.getElem_mem _
 ·rw [co_ge g];exact bq_zero B hB
theorem sg4_vals:∀n,sg4 n=0∨sg4 n=1∨sg4 n = -1
 | 0=>.inr (.inl rfl)
 | 1=>.inl rfl
 | n+2=>by
  show -sg4 n=0∨-sg4 n=1∨-sg4 n = -1
  rcases sg4_vals n with h|h|h <;> rw [h]
  ·exact .inl (by decide)
  ·exact .inr (.inr rfl)
  ·exact .inr (.inl (by decide))
theorem sg4_bq {B:Nat} (hB:0<B) (n:Nat) {c:Rat} (h:Bq B c):Bq B (sg4 n*c):=by
 rcases sg4_vals n with e|e|e <;> rw [e]
 ·rw [show (0:Rat)*c=0 by grind];exact bq_zero B hB
 ·rw [show (1:Rat)*c=c by grind];exact h
 ·rw [show (-1:Rat)*c = -c by grind];exact h.neg
theorem along_bq {B:Nat} (hB:0<B) {p:List Rat} (h:∀x ∈ p,Bq B x):(∀i,Bq B (co (alongU [] [0,1] p).1 i))∧∀i,Bq B (co (alongU [] [0,1] p).2 i):=by
 constructor
 ·intro i;rw [(along_co p i).1];exact sg4_bq hB i (co_bq hB h i)
 ·intro i
  rw [(along_co p i).2,show -sg4 (i+1)*co p i = -(sg4 (i+1)*co p i) by grind];exact(sg4_bq hB (i+1) (co_bq hB h i)).neg
theorem along_len (p:List Rat):(alongU [] [0,1] p).1.length≤p.length∧(alongU [] [0,1] p).2.length≤p.length:=by
 obtain⟨t1,t2⟩:=along_trim p;have h1:dgF (alongU [] [0,1] p).1≤p.length:=dg_le fun i hi=>by rw [(along_co p i).1,co_ge hi];grind
 have h2:dgF (alongU [] [0,1] p).2≤p.length:=dg_le fun i hi=>by rw [(along_co p i).2,co_ge hi];grind
 unfold dgF at h1 h2;rw [t1] at h1;rw [t2] at h2;exact⟨h1,h2⟩
theorem up_bq {B:Nat} (hB:0<B) {l:List Rat} (h:∀i,Bq B (co l i)) (i:Nat):Bq B (co (0 :: l) i):=by
 cases i with
 | zero=>exact bq_zero B hB
 | succ j=>exact h j
theorem alongB_ok {B M:Nat} (hB:0<B) (hM:B≤M):∀p:List Rat,p.length≤100→(∀x ∈ p,Bq B x)→alongB M [] [0,1] p=true
 | [],_,_=>rfl
 | c :: p,hl,h=>by
  have hl':p.length≤99:=by simp at hl;omega
  have h':∀x ∈ p,Bq B x:=fun x hx=>h x (List.mem_cons_of_mem _ hx);have ih:=alongB_ok hB hM p (by omega) h';obtain⟨b1,b2⟩:=along_bq hB h';obtain⟨l1,l2⟩:=along_len p;have sm:∀l:List Rat,(∀i,Bq B (co l i))→smB M l=true:=fun l hl=>of_sm fun x hx=>(bq_all hl x hx).mono hM;have hz:∀l:List Rat,smB M (mulF l [])=true:=fun l=>sm _ fun i=>by rw [co_none];exact bq_zero B hB
  unfold alongB
  rw [ih,of_sm (l:=[c]) (fun x hx=>by rw [List.mem_singleton] at hx;subst hx;exact(h x List.mem_cons_self).mono hM),sm _ b1,sm _ b2,hz,hz,sm _ (fun i=>by rw [co_up];exact up_bq hB b2 i),sm _ (fun i=>by
    unfold subF;rw [co_addF]
    show Bq B (co (mulF _ []) i+co (scaleF _ _) i)
    rw [co_none,co_scaleF,co_up,show (0:Rat)+co (0 :: (alongU [] [0,1] p).2) i*-1 = -co (0 :: (alongU [] [0,1] p).2) i by grind];exact(up_bq hB b2 i).neg),sm _ (fun i=>by rw [co_up];exact up_bq hB b1 i),decide_eq_true (show (alongU [] [0,1] p).1.length≤100 by omega),decide_eq_true (show (alongU [] [0,1] p).2.length≤100 by omega)]
  rfl
theorem own_ne {p:List Rat} {M:Nat} (h0:0<dgF p) (h:ownOk M p=true):neB (ownF p)=true:=by
 obtain⟨-,-,-,d⟩:=own_turn h0;unfold ownOk at h
 simp only [Bool.and_eq_true] at h
 refine List.all_eq_true.2 fun l hl=>?_;have h1:=List.all_eq_true.1 h.2 l hl;rw [Bool.and_eq_true] at h1;have h2:=of_decide_eq_true h1.2;have h3:=(dn_all d l hl).ne;rw [decide_eq_true (show l.length≤100000 by omega),Bool.and_true]
 cases l with
 | nil=>exact absurd rfl h3
 | cons=>rfl
theorem timesB_ok {a M:Nat} {p0:List Rat} (hp0:HF a p0) (m0:Mo p0) (d0:0<dgF p0) (hL:dgF p0≤14) {F H:Nat} (hF:bdF a 14=F) (hO:bdO F 14≤M) (hFM:F≤M) (hH1:(F+6+7+2)*(2*14+2)≤H) (hH2:H+14*(H+1)≤M):∀(n:Nat) (p:List Rat),Mo p→Dv p p0→0<dgF p→dgF p≤n+1→timesB M n p=true
 | 0,p,_,_,_,h=>by
  unfold timesB;exact decide_eq_true h
 | n+1,p,mp,hd,h0,hn=>by
  unfold timesB
  by_cases h1:1<(trimF p).length
  ·rw [if_pos h1]
   have h1':1<dgF p:=h1;have dp:=(hd.dg d0).2;have fp:=factor_dv hp0 m0 mp hd d0 hL (by decide);rw [hF] at fp;have ho:=own_ok fp h0 (show dgF p≤14 by omega) (by decide) hO;have hne:=own_ne h0 ho;have dd:=dg_deriv p;have ql:=nextP_less h1';have hr:=timesB_ok hp0 m0 d0 hL hF hO hFM hH1 hH2 n (nextP p) (nextP_mo p) ((nextP_dv p).1.trans hd) (nextP_pos h0) (by omega);have fd:=fp.deriv (v:=6) (by omega);have hc:=(com_hf (a:=F+6) (w:=7) (N:=14) (H:=H) (M:=M) (fp.mono (Nat.le_add_right _ _)) fd (by omega) (by omega) (by decide) hH1 hH2).1;unfold nextP at hr;rw [ho,hne,fp.sm hFM,hc,hr];rfl
  ·rw [if_neg h1]
theorem routh_ok {M:Nat} (hM:1739600393≤M) {P:List Rat} (h:Gd P) (hl:P.length≤14) (hb:∀x ∈ P,Bq 4001 x):routhOk M P=true:=by
 obtain⟨d1,d2⟩:=parts_dg h;obtain⟨l1,l2⟩:=along_len P;obtain⟨q1,q2⟩:=along_bq (B:=4001) (by decide) hb
 have hal:alongOk M [] [0,1] P=true:=by
  unfold alongOk
  rw [alongB_ok (B:=4001) (M:=M) (by decide) (by omega) P (by omega) hb,of_sm (l:=[]) (fun x hx=>by cases hx),of_sm (l:=[0,1]) (fun x hx=>by
   rcases List.mem_cons.1 hx with rfl|hx
   ·exact(bq_zero 4001 (by decide)).mono (by omega)
   ·rw [List.mem_singleton] at hx
    subst hx;exact(show Bq 64 (1:Rat) from bq_int 1 (by decide) (by decide)).mono (by omega))]
  rfl
 have hp0:=h.1;have hpl:=h.len;unfold routhOk;rw [h.2,hal,Bool.true_and];generalize (alongU [] [0,1] P).1=re at *;generalize (alongU [] [0,1] P).2=im at *;have hpos:0<dgF re∨0<dgF im:=by omega
 have hne:dgF re≠dgF im:=by omega
 have fre:HF 56015 re:=(hf_of_bq re (bq_all q1)).mono (by omega);have fim:HF 56015 im:=(hf_of_bq im (bq_all q2)).mono (by omega);have P2:=parts2 hpos;obtain⟨r1,r2,r3,r4,r5,r6,r7⟩:=routh_turn hpos hne _ _ rfl rfl;obtain⟨⟨g1,g2,-⟩,-⟩:=gcd_gc re im;obtain⟨lR,lI⟩:=P2.lenR;have dre:dgF re≤14:=by omega
 have dim:dgF im≤14:=by omega
 have hg0:=P2.g0;have hg14:dgF (commonF re im)≤14:=by omega
 obtain⟨x1,x2,x3⟩:=times_fact ((commonF re im).length+1) (commonF re im) hg0 (by have:=dg_len (commonF re im);omega);have hx:timesF (commonF re im)=timesU ((commonF re im).length+1) (commonF re im):=rfl;rw [←hx] at x1 x2 x3
 obtain⟨p0,fp0,mp0,dp0,lp0,hdv⟩:∃p0,HF 56015 p0∧Mo p0∧0<dgF p0∧dgF p0≤14∧Dv (commonF re im) p0:=by
  rcases hpos with z|z
  ·exact⟨monicF re,fre.monic,mo_mon re,by rw [dg_mon];exact z,by rw [dg_mon];exact dre,g1.trans (mon_dv re).2⟩
  ·exact⟨monicF im,fim.monic,mo_mon im,by rw [dg_mon];exact z,by rw [dg_mon];exact dim,g2.trans (mon_dv im).2⟩
 have fg:=factor_dv fp0 mp0 P2.mg hdv dp0 lp0 (by decide);rw [show bdF 56015 14=112352 from rfl] at fg;have c1:=(com_hf (a:=56015) (w:=7) (N:=14) (H:=2000000) (M:=M) fre fim dre dim (by decide) (by decide) (by omega)).1;have c2:timesOk M (commonF re im)=true:=timesB_ok fp0 mp0 dp0 lp0 (F:=112352) (H:=3371010) rfl (Nat.le_trans (show bdO 112352 14≤1739600393 by decide +kernel) hM) (by omega) (by decide) (by omega) _ _ P2.mg hdv hg0 (by have:=dg_len (commonF re im);omega)
 have c3:(!(trimF (commonF re im)).isEmpty)=true:=by
  have:=trim_ne hg0
  cases h9:trimF (commonF re im) with
  | nil=>exact absurd h9 this
  | cons x l=>rfl
 obtain⟨c4,fR,-⟩:=div_hf (N:=14) (M:=2000000) fre fg hg0 dre (by decide) (by decide);obtain⟨c5,fI,-⟩:=div_hf (N:=14) (M:=2000000) fim fg hg0 dim (by decide) (by decide);obtain⟨c4',-,-⟩:=div_hf (N:=14) (M:=M) fre fg hg0 dre (by omega) (by omega);obtain⟨c5',-,-⟩:=div_hf (N:=14) (M:=M) fim fg hg0 dim (by omega) (by omega);have c6:=chain_hf (a:=2000000) (w:=7) (N:=14) (H:=70000000) (M:=M) fR fI (by omega) (by omega) (by decide) (by decide) (by omega);have c7:=chain_hf (a:=2000000) (w:=7) (N:=14) (H:=70000000) (M:=M) fI fR (by omega) (by omega) (by decide) (by decide) (by omega)
 have c8:neB (routhC re im (commonF re im))=true:=by
  refine List.all_eq_true.2 fun l hl=>?_;have h3:=dn_all r7 l hl
  have h4:dgF l≤14:=by
   unfold routhC at hl
   split at hl
   ·exact(c6.2 l hl).2.1
   ·exact(c7.2 l hl).2.1
  have h5:=h3.len;rw [decide_eq_true (show l.length≤100000 by omega),Bool.and_true];have h6:=h3.ne
  cases l with
  | nil=>exact absurd rfl h6
  | cons=>rfl
 unfold routhB;rw [decide_eq_true (show re.length≤90 by omega),decide_eq_true (show im.length≤90 by omega),c1,c2,c3,c4',c5',decide_eq_true (show -1000000≤timesF (commonF re im) by omega),decide_eq_true (show timesF (commonF re im)≤1000000 by omega),c6.1,c7.1,c8]
 split <;> rfl
end Go.Proofs.YtaaoleakkaloeaaGreatDoor
