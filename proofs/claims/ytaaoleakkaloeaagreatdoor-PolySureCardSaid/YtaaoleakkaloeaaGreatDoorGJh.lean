/- On a piece of a told length a polynomial without multiple factors keeps its sign, or rises, or falls. What own's chain counts: never less than nothing, at most one on a short piece. Roots by halving: the tree of halves, and that it ends. -/
import Derived.Test.YtaaoleakkaloeaaGreatDoorGJi
import Derived.Test.YtaaoleakkaloeaaGreatDoorGYp
set_option linter.unusedVariables false
set_option maxRecDepth 100000
set_option maxHeartbeats 64000000
namespace Go.Proofs.YtaaoleakkaloeaaGreatDoor
set_option linter.unusedSimpArgs false
def tw (k:Nat):Rat:=((2 ^ k:Nat):Rat)
theorem tw_add (a b:Nat):tw (a+b)=tw a*tw b:=by unfold tw;rw [Nat.pow_add,Rat.natCast_mul]
theorem tw_mono {a b:Nat} (h:a≤b):tw a≤tw b:=Rat.natCast_le_natCast.2 (Nat.pow_le_pow_right (by decide) h)
theorem tw_pos (a:Nat):1≤tw a:=by
 have:tw 0=1:=rfl
 rw [←this];exact tw_mono (Nat.zero_le _)
theorem tw_succ (a:Nat):tw (a+1)=tw a*2:=by rw [tw_add];rfl
theorem mul_le' {a b c d:Rat} (h1:a≤b) (h2:c≤d) (h3:0≤a) (h4:0≤c):a*c≤b*d:=by
 have e1:=Rat.mul_nonneg (show 0≤b - a by grind) h4;have e2:=Rat.mul_nonneg (show 0≤b by grind) (show 0≤d - c by grind)
 grind
theorem ev_n (A X:Rat) (hX:1≤X) (hA:0≤A) {x:Rat} (hx:Ab X x):∀p:List Rat,(∀i,Ab A (co p i))→Ab (((p.length:Nat):Rat)*(A*X ^ p.length)) (evR p x)
 | [],_=>by
  have e:((([]:List Rat).length:Nat):Rat)=0:=rfl;rw [e];exact⟨by show _≤(0:Rat);grind,by show (0:Rat)≤_;grind⟩
 | a :: t,h=>by
  have ih:=ev_n A X hX hA hx t fun i=>h (i+1);have h0:Ab A a:=h 0
  have hp:1≤X ^ (t.length+1):=by
   have:∀n:Nat,1≤X ^ n:=fun n=>by
    induction n with
    | zero=>rw [Rat.pow_zero];exact Rat.le_refl
    | succ n ih=>
     rw [Rat.pow_succ]
     have:=Rat.mul_nonneg (show 0≤X ^ n - 1 by grind) (show 0≤X - 1 by grind)
     grind
   exact this _
  have h1:=(ih.mul hx).add h0;refine(show Ab _ (evR t x*x+a) from h1).mono ?_
  show ((t.length:Nat):Rat)*(A*X ^ t.length)*X+A≤((t.length+1:Nat):Rat)*(A*X ^ (t.length+1))
  rw [Rat.natCast_add,Rat.pow_succ] at *;have e1:((1:Nat):Rat)=1:=rfl;rw [e1]
  have:=Rat.mul_nonneg hA (show 0≤X ^ t.length*X - 1 by grind)
  grind
theorem tw_pow (b:Nat):∀n:Nat,tw b ^ n=tw (b*n)
 | 0=>by rw [Rat.pow_zero];rfl
 | n+1=>by rw [Rat.pow_succ,tw_pow b n,←tw_add];rfl
theorem ev_tw {A v b N:Nat} {p:List Rat} {x:Rat} (h:∀i,Ab (tw A) (co p i)) (hl:p.length≤N) (hN:N≤2 ^ v) (hx:Ab (tw b) x):Ab (tw (A+(v+b*N))) (evR p x):=by
 have h1:=ev_n (tw A) (tw b) (tw_pos b) (by have:=tw_pos A;grind) hx p h;refine h1.mono ?_;rw [tw_pow,←tw_add];have h2:((p.length:Nat):Rat)≤tw v:=Rat.natCast_le_natCast.2 (Nat.le_trans hl hN);have h3:tw (A+b*p.length)≤tw (A+b*N):=tw_mono (Nat.add_le_add_left (Nat.mul_le_mul_left _ hl) _);have h4:=mul_le' h2 h3 Rat.natCast_nonneg (by have:=tw_pos (A+b*p.length);grind);rw [←tw_add] at h4;rw [show A+(v+b*N)=v+(A+b*N) by omega];exact h4
theorem ab_zero {K:Rat} (h:0≤K):Ab K 0:=⟨by grind,h⟩
theorem tw_nonneg (a:Nat):0≤tw a:=by have:=tw_pos a;grind
theorem syn_co {A v b N:Nat} {s:Rat} (hN:N≤2 ^ v) (hs:Ab (tw b) s):∀p:List Rat,(∀i,Ab (tw A) (co p i))→p.length≤N→∀i,Ab (tw (A+(v+b*N))) (co (syn s p) i)
 | [],_,_,i=>ab_zero (tw_nonneg _)
 | [a],_,_,i=>ab_zero (tw_nonneg _)
 | a :: c :: t,h,hl,0=>ev_tw (p:=c :: t) (fun i=>h (i+1)) (by simp at hl ⊢;omega) hN hs
 | a :: c :: t,h,hl,i+1=>syn_co hN hs (c :: t) (fun i=>h (i+1)) (by simp at hl ⊢;omega) i
theorem syn_tw {A v b N:Nat} {p:List Rat} {s x:Rat} (h:∀i,Ab (tw A) (co p i)) (hl:p.length≤N) (hN:N≤2 ^ v) (hs:Ab (tw b) s) (hx:Ab (tw b) x):Ab (tw (A+2*(v+b*N))) (evR (syn s p) x):=by
 have h1:=ev_tw (syn_co hN hs p h hl) (by rw [syn_len];omega:(syn s p).length≤N) hN hx
 rwa [show A+(v+b*N)+(v+b*N)=A+2*(v+b*N) by omega] at h1
theorem syn2_tw {A v b N:Nat} {p:List Rat} {s x:Rat} (h:∀i,Ab (tw A) (co p i)) (hl:p.length≤N) (hN:N≤2 ^ v) (hs:Ab (tw b) s) (hx:Ab (tw b) x):Ab (tw (A+3*(v+b*N))) (evR (syn s (syn s p)) x):=by
 have h1:=syn_tw (syn_co hN hs p h hl) (by rw [syn_len];omega:(syn s p).length≤N) hN hs hx
 rwa [show A+(v+b*N)+2*(v+b*N)=A+3*(v+b*N) by omega] at h1
theorem HF.ab {a:Nat} {p:List Rat} (h:HF a p) (i:Nat):Ab (tw a) (co p i):=by
 obtain⟨D,n,D0,D1,D2⟩:=h.nat;obtain⟨h1,h2⟩:=D2 i
 have h3:(1:Rat)≤(D:Rat):=by
  have:=Rat.natCast_le_natCast.2 (show 1≤D from D0)
  exact this
 have h4:-((2 ^ a:Nat):Int)≤n i∧n i≤((2 ^ a:Nat):Int):=by
  generalize 2 ^ a=Y at *;omega
 have h5:=Rat.intCast_le_intCast.2 h4.1;have h6:=Rat.intCast_le_intCast.2 h4.2;rw [Rat.intCast_neg,Rat.intCast_natCast] at h5;rw [Rat.intCast_natCast] at h6;rw [←h1] at h5 h6;have h7:0≤tw a:=tw_nonneg a
 change -(tw a)≤_ at h5
 change _≤tw a at h6
 generalize (D:Rat)=d at *;generalize co p i=c at *
 constructor
 ·rcases lt_or_le' c 0 with g|g
  ·have:=Rat.mul_nonneg (show 0≤-c by grind) (show 0≤d - 1 by grind)
   grind
  ·grind
 ·rcases lt_or_le' c 0 with g|g
  ·grind
  ·have:=Rat.mul_nonneg g (show 0≤d - 1 by grind)
   grind
def sepG (a v b N:Nat):Nat:=(a+v+(v+1)+2)*(2*N)+(v+b*N)+(a+v)
def sepJ (a v b N:Nat):Nat:=sepG a v b N+4+(a+v+3*(v+b*N))
theorem tw_inv (k:Nat):∃e:Rat,0<e∧e*tw k=1:=by
 have h:=tw_pos k;refine⟨(tw k)⁻¹,Rat.inv_pos.2 (by grind),?_⟩
 have:=Rat.mul_inv_cancel (tw k) (by grind)
 grind
theorem int_ab {D:Int} {a:Nat} (h:D.natAbs<2 ^ a):Ab (tw a) (D:Rat):=by
 have h4:-((2 ^ a:Nat):Int)≤D∧D≤((2 ^ a:Nat):Int):=by
  generalize 2 ^ a=Y at *;omega
 have h5:=Rat.intCast_le_intCast.2 h4.1;have h6:=Rat.intCast_le_intCast.2 h4.2;rw [Rat.intCast_neg,Rat.intCast_natCast] at h5;rw [Rat.intCast_natCast] at h6;exact⟨h5,h6⟩
theorem not_both {s:List Rat} {a v b N:Nat} (hs:HF a s) (hc:Cop s (derivF s)) (h1:1<dgF s) (hl:dgF s≤N) (hN:N≤2 ^ v) {x e:Rat} (hx:Ab (tw b) x) (he:e*tw (sepG a v b N+1)=1) (he0:0<e):(∃ σ,Pm σ∧e≤σ*evR s x)∨∃ σ,Pm σ∧e≤σ*evR (derivF s) x:=by
 have hd:HF (a+v) (derivF s):=hs.deriv (Nat.le_trans hl hN);have dd:=dg_deriv s;obtain⟨Dp,Dq,c,A,B,b1,b2,c0,lA,lB,kA,kB,hev⟩:=bez_small (v:=v+1) (hs.mono (Nat.le_add_right a v)) hd hc h1 (by omega) (by rw [Nat.pow_succ];omega);have hpw:2 ^ ((a+v+(v+1)+2)*(dgF s+dgF (derivF s)))≤2 ^ ((a+v+(v+1)+2)*(2*N)):=Nat.pow_le_pow_right (by decide) (Nat.mul_le_mul_left _ (by omega));have kA':∀i,Ab (tw ((a+v+(v+1)+2)*(2*N))) (co A i):=fun i=>(kA i).mono (Rat.natCast_le_natCast.2 hpw);have kB':∀i,Ab (tw ((a+v+(v+1)+2)*(2*N))) (co B i):=fun i=>(kB i).mono (Rat.natCast_le_natCast.2 hpw);have vA:=(ev_tw kA' (by omega:A.length≤N) hN hx).mul (int_ab b1);have vB:=(ev_tw kB' (by omega:B.length≤N) hN hx).mul (int_ab b2);rw [←tw_add] at vA vB
 change Ab (tw (sepG a v b N)) _ at vA
 change Ab (tw (sepG a v b N)) _ at vB
 obtain⟨σ,hσ,hσs⟩:=pm_of (evR s x);obtain⟨τ,hτ,hτs⟩:=pm_of (evR (derivF s) x)
 rcases lt_or_le' (σ*evR s x) e with g1|g1
 ·rcases lt_or_le' (τ*evR (derivF s) x) e with g2|g2
  ·exfalso
   have u1:Ab (σ*evR s x) (evR s x):=by rcases hσ with rfl|rfl <;> constructor <;> grind
   have u2:Ab (τ*evR (derivF s) x) (evR (derivF s) x):=by rcases hτ with rfl|rfl <;> constructor <;> grind
   have w1:=vA.mul u1;have w2:=vB.mul u2;have hG:=tw_pos (sepG a v b N);rw [tw_succ] at he;have s1:=Rat.mul_pos (show 0<tw (sepG a v b N) by grind) (show 0<e - σ*evR s x by grind);have s2:=Rat.mul_pos (show 0<tw (sepG a v b N) by grind) (show 0<e - τ*evR (derivF s) x by grind);have hsum:=w1.add w2;have e3:evR A x*(Dp:Rat)*evR s x+evR B x*(Dq:Rat)*evR (derivF s) x=(c:Rat):=by rw [←hev x];grind
   rw [e3] at hsum;have q1:=hsum.1;have q2:=hsum.2
   have:(1:Rat)≤(c:Rat)∨(c:Rat)≤-1:=by
    rcases(show 1≤c∨c≤-1 by omega) with h|h
    ·exact .inl (Rat.intCast_le_intCast.2 h)
    ·exact .inr (Rat.intCast_le_intCast.2 h)
   generalize (c:Rat)=cc at *;clear vA vB w1 w2 u1 u2 hev e3 kA kB kA' kB' hsum
   rcases this with h|h <;> grind
  ·exact .inr ⟨τ,hτ,g2⟩
 ·exact .inl ⟨σ,hσ,g1⟩
theorem sep {s:List Rat} {a v b N:Nat} (hs:HF a s) (hc:Cop s (derivF s)) (h1:1<dgF s) (hl:s.length≤N) (hN:N≤2 ^ v) {d:Rat} (hd:d*tw (sepJ a v b N)≤1) (hd0:0≤d) {lo hi:Rat} (h2:Ab (tw b) lo) (h3:Ab (tw b) hi) (h4:lo≤hi) (h5:hi - lo≤d):(∃ σ,Pm σ∧Fx σ s lo hi)∨∃ σ,Pm σ∧Up σ s lo hi:=by
 obtain⟨e,e0,he⟩:=tw_inv (sepG a v b N+1);have hds:HF (a+v) (derivF s):=hs.deriv (Nat.le_trans (dg_len s) (Nat.le_trans hl hN));have hld:(derivF s).length≤N:=Nat.le_trans (deriv_len s) hl;have k1:∀y x,Ab (tw b) y→Ab (tw b) x→Ab (tw (a+v+3*(v+b*N))) (evR (syn y s) x):=fun y x hy hx=>(syn_tw (fun i=>hs.ab i) hl hN hy hx).mono (tw_mono (by omega));have k2:∀y x,Ab (tw b) y→Ab (tw b) x→Ab (tw (a+v+3*(v+b*N))) (evR (syn y (derivF s)) x):=fun y x hy hx=>(syn_tw (fun i=>hds.ab i) hld hN hy hx).mono (tw_mono (by omega));have k3:∀y x,Ab (tw b) y→Ab (tw b) x→Ab (tw (a+v+3*(v+b*N))) (evR (syn y (syn y s)) x):=fun y x hy hx=>(syn2_tw (fun i=>hs.ab i) hl hN hy hx).mono (tw_mono (by omega))
 have hdk:d*tw (a+v+3*(v+b*N))*8≤e:=by
  unfold sepJ at hd;rw [show sepG a v b N+4+(a+v+3*(v+b*N))=(sepG a v b N+1)+(3+(a+v+3*(v+b*N))) by omega,tw_add (sepG a v b N+1),tw_add 3] at hd;have e8:tw 3=8:=rfl;rw [e8] at hd;have hG:=tw_pos (sepG a v b N+1);have hL:=tw_pos (a+v+3*(v+b*N));generalize tw (sepG a v b N+1)=G at *;generalize tw (a+v+3*(v+b*N))=L at *
  rcases lt_or_le' e (d*L*8) with h|h
  ·have:=Rat.mul_pos (show 0<d*L*8 - e by grind) (show 0<G by grind)
   grind
  ·exact h
 generalize tw (a+v+3*(v+b*N))=L at *;have hL0:0≤d*L:=Rat.mul_nonneg hd0 (k1 lo lo h2 h2).nonneg
 rcases not_both hs hc h1 (Nat.le_trans (dg_len s) hl) hN h2 he e0 with ⟨σ,hσ,hp⟩|⟨σ,hσ,hp⟩
 ·exact .inl ⟨σ,hσ,fix_near k1 (show d*L<e by grind) h2 h3 h4 h5 hσ hp⟩
 ·refine .inr ⟨σ,hσ,fun x y hax hxy hyb=>?_⟩
  have hx:Ab (tw b) x:=by
   have q1:=h2.1;have q2:=h3.2
   constructor <;> grind
  have hy:Ab (tw b) y:=by
   have q1:=h2.1;have q2:=h3.2
   constructor <;> grind
  have g1:=ev_syn lo x (derivF s);have g2:=((show Ab d (x - lo) by constructor <;> grind).mul (k2 lo x h2 hx)).pm hσ;have g3:=((show Ab d (y - x) by constructor <;> grind).mul (k3 x y hx hy)).pm hσ;have g4:=taylor x y s
  have pos2:0<σ*(evR (derivF s) x+(y - x)*evR (syn x (syn x s)) y):=by
   have b1:=g2.1;have b2:=g3.1;rw [g1]
   grind
  have pos3:=Rat.mul_pos (show 0<y - x by grind) pos2;rw [g4]
  grind
end Go.Proofs.YtaaoleakkaloeaaGreatDoor
set_option linter.unusedVariables false
set_option maxRecDepth 100000
set_option maxHeartbeats 64000000
namespace Go.Proofs.YtaaoleakkaloeaaGreatDoor
set_option linter.unusedSimpArgs false
theorem pow_zero_of {a:Rat}:∀k:Nat,a ^ (k+1)=0→a=0
 | 0,h=>by
  rw [Rat.pow_succ,Rat.pow_zero] at h
  grind
 | k+1,h=>by
  rw [Rat.pow_succ] at h
  rcases Rat.mul_eq_zero.1 h with h|h
  ·exact pow_zero_of k h
  ·exact h
theorem prodE_zero (x:Rat):∀(l:List (List Rat)) (k:Nat),prodE k l x=0→∃P ∈ l,evR P x=0
 | [],k,h=>by
  exfalso
  have:(1:Rat)=0:=h
  exact absurd this (by decide)
 | P :: l,k,h=>by
  have h1:evR P x ^ (k+1)*prodE (k+1) l x=0:=h
  rcases Rat.mul_eq_zero.1 h1 with h2|h2
  ·exact⟨P,List.mem_cons_self ..,pow_zero_of k h2⟩
  ·obtain⟨Q,hQ,h3⟩:=prodE_zero x l (k+1) h2
   exact⟨Q,List.mem_cons_of_mem _ hQ,h3⟩
theorem root_simple {p:List Rat} (h0:0<dgF p) (x:Rat):evR p x=0↔evR (simpleF p) x=0:=by
 have m0:0<dgF (monicF p):=by rw [dg_mon];exact h0
 have hm:=mo_mon p;have ht:=top_trim_ne (trim_ne h0);have hs:=simple_ev h0 x
 constructor
 ·intro h
  have h1:evR (monicF p) x=0:=by rw [mon_ev h0,h];grind
  obtain⟨-,i2,-,i4⟩:=yun_loop ((monicF p).length+1) (p.length+1) (monicF p) (baseP (monicF p)) (divF (derivF (monicF p)) (nextP (monicF p))).1 hm m0 (base_ev m0) (quo_dv (nextP_pos m0) (nextP_dv _).2) (quo_trim _ _) (by have:=hm.len;omega) (by have:=hm.len;have:=monic_len p;omega);have h2:=i4 0 x;rw [Rat.pow_zero,h1] at h2;obtain⟨P,hP,h3⟩:=prodE_zero x _ 0 (by rw [h2];grind);obtain⟨u,hu⟩:=(i2 P hP).2.2.2;rw [hs,hu,h3];grind
 ·intro h
  have e:evR p x=evR (nextP p) x*evR (simpleF p) x:=quo_dv (nextP_pos h0) (nextP_dv p).1 x;rw [e,h];grind
theorem atF_zero {x:Rat} {p:List Rat}:atF x p=0↔evR p x=0:=by
 rcases at_cases x p with ⟨h1,h2⟩|⟨h1,h2⟩|⟨h1,h2⟩
 ·exact⟨fun _=>h2,fun _=>h1⟩
 ·constructor
  ·intro h;rw [h1] at h;cases h
  ·intro h;rw [h] at h2;exact absurd h2 (by decide)
 ·constructor
  ·intro h;rw [h1] at h;cases h
  ·intro h;rw [h] at h2;exact absurd h2 (by decide)
theorem vF_const {c:List Rat} {k:Rat} (hk:k≠0) (h:∀x,evR c x=k) (x y:Rat):vF [c] x=vF [c] y:=by
 have e:∀x,vF [c] x=0:=fun x=>by
  show flipsU 0 [atF x c]=0
  rw [flips_cons]
  rcases at_cases x c with ⟨e,-⟩|⟨e,-⟩|⟨e,-⟩ <;> rw [e] <;> rfl
 rw [e,e]
theorem between_v (c:List (List Rat)) (x y:Rat):betweenF c x y=vF c x - vF c y:=rfl
theorem between_add (c:List (List Rat)) (x m y:Rat):betweenF c x m+betweenF c m y=betweenF c x y:=by
 rw [between_v,between_v,between_v];omega
theorem count_pos {p:List Rat} (h0:0<dgF p) {x y:Rat} (h:x≤y):0≤betweenF (ownF p) x y:=by
 rw [between_v]
 rcases own_chain h0 with ⟨-,c,e,k,hk,hc⟩|⟨-,p0,q,l,k,μ,e,hc,-,-,hμ,hq⟩
 ·rw [e,vF_const hk hc x y];omega
 ·rw [e]
  have:=v_down hc hμ hq h
  omega
theorem Fx.scale {s k a b:Rat} {p q:List Rat} (h:Fx s p a b) (hk:0<k) (e:∀x,evR q x=evR p x*k):Fx s q a b:=fun x h1 h2=>by
 have:=Rat.mul_pos (h x h1 h2) hk
 rw [e];grind
theorem Up.scale {s k a b:Rat} {p q:List Rat} (h:Up s p a b) (hk:0<k) (e:∀x,evR q x=evR p x*k):Up s q a b:=fun x y h1 h2 h3=>by
 have:=Rat.mul_pos (show 0<s*evR p y - s*evR p x by have:=h x y h1 h2 h3;grind) hk
 rw [e,e];grind
theorem count_fix {p:List Rat} (h0:0<dgF p) {x y s:Rat} (h:x≤y) (hs:Pm s) (hf:Fx s (simpleF p) x y):betweenF (ownF p) x y=0:=by
 rw [between_v]
 rcases own_chain h0 with ⟨-,c,e,k,hk,hc⟩|⟨-,p0,q,l,k,μ,e,hc,hk,hp0,hμ,hq⟩
 ·rw [e,vF_const hk hc x y];omega
 ·rw [e]
  have:=v_fix hc hμ hq h hs (hf.scale hk hp0)
  omega
theorem count_up {p:List Rat} (h0:0<dgF p) {x y s:Rat} (h:x≤y) (hs:Pm s) (hf:Up s (simpleF p) x y):betweenF (ownF p) x y=0∨betweenF (ownF p) x y=1∧evR p x≠0:=by
 rw [between_v]
 rcases own_chain h0 with ⟨-,c,e,k,hk,hc⟩|⟨-,p0,q,l,k,μ,e,hc,hk,hp0,hμ,hq⟩
 ·rw [e,vF_const hk hc x y];exact .inl (by omega)
 ·rw [e]
  have h1:=v_up hc hμ hq h hs (hf.scale hk hp0);have h2:=chg_le (u:=atF x p0) (s:=si s);have h3:=chg_le (u:=atF y p0) (s:=si s)
  have hup:s*evR p0 x≤s*evR p0 y:=by
   rcases lt_or_le' x y with g|g
   ·exact Rat.le_of_lt (hf.scale hk hp0 x y Rat.le_refl g Rat.le_refl)
   ·rw [show x=y by grind];exact Rat.le_refl
  have h4:=chg_up hs hup
  rcases(show chg (atF x p0) (si s)=chg (atF y p0) (si s)∨chg (atF x p0) (si s)=1∧chg (atF y p0) (si s)=0 by omega) with g|⟨g,g2⟩
  ·exact .inl (by omega)
  ·refine .inr ⟨by omega,fun hz=>?_⟩
   have h5:=(root_simple h0 x).1 hz;have h6:atF x p0=0:=atF_zero.2 (by rw [hp0,h5];grind);rw [h6] at g
   have:chg 0 (si s)=0:=rfl
   rw [this] at g
   cases g
theorem count_short {p:List Rat} (h0:0<dgF p) {a v b N:Nat} (hs:HF a (simpleF p)) (hl:(simpleF p).length≤N) (hN:N≤2 ^ v) {d:Rat} (hd:d*tw (sepJ a v b N)≤1) (hd0:0≤d) {lo hi:Rat} (h2:Ab (tw b) lo) (h3:Ab (tw b) hi) (h4:lo≤hi) (h5:hi - lo≤d):betweenF (ownF p) lo hi=0∨betweenF (ownF p) lo hi=1∧evR p lo≠0:=by
 rcases Nat.lt_or_ge 1 (dgF (simpleF p)) with h1|h1
 ·rcases sep hs (simple_cop h0) h1 hl hN hd hd0 h2 h3 h4 h5 with ⟨σ,hσ,hf⟩|⟨σ,hσ,hf⟩
  ·exact .inl (count_fix h0 h4 hσ hf)
  ·exact count_up h0 h4 hσ hf
 ·left
  rw [between_v]
  rcases own_chain h0 with ⟨-,c,e,k,hk,hc⟩|⟨g,-⟩
  ·rw [e,vF_const hk hc lo hi];omega
  ·omega
end Go.Proofs.YtaaoleakkaloeaaGreatDoor
set_option linter.unusedVariables false
set_option maxRecDepth 100000
set_option maxHeartbeats 64000000
namespace Go.Proofs.YtaaoleakkaloeaaGreatDoor
set_option linter.unusedSimpArgs false
theorem sh_half (x:Rat):shQ x (-1)*2=x:=by
 unfold shQ;rw [if_pos (by decide)];have e:(2:Rat)=rat false 2 1:=by decide +kernel
 rw [e,rat_mul];have hs:=rat_self x;have h:=rat_scale (decide (x.num<0)) x.num.natAbs x.den 2 (by decide);rw [show x.den*2 ^ (-1:Int).natAbs*1=x.den*2 by rw [Nat.mul_one];rfl,Bool.bne_false,h,hs]
def midQ (lo hi:Rat):Rat:=shQ (lo+hi) (-1)
theorem mid_two (lo hi:Rat):midQ lo hi*2=lo+hi:=sh_half _
def isoU (p:List Rat) (c:List (List Rat)) (width:Rat):Nat→Rat→Rat→List (Rat × Rat)
 | 0,_,_=>[]
 | n+1,lo,hi=>if betweenF c lo hi=0 then [] else if oneR p c width (lo,hi) then [if (evR p hi).num.sign=0 then (hi,hi) else (lo,hi)] else isoU p c width n lo (midQ lo hi) ++ isoU p c width n (midQ lo hi) hi
theorem iso_succ (p:List Rat) (c:List (List Rat)) (width:Rat) (n:Nat) (lo hi:Rat):isoU p c width (n+1) lo hi=if betweenF c lo hi=0 then [] else if oneR p c width (lo,hi) then [if (evR p hi).num.sign=0 then (hi,hi) else (lo,hi)] else isoU p c width n lo (midQ lo hi) ++ isoU p c width n (midQ lo hi) hi:=rfl
def isoB (p:List Rat) (c:List (List Rat)) (width:Rat):Nat→Rat→Rat→Bool
 | 0,_,_=>false
 | n+1,lo,hi=>decide (betweenF c lo hi=0) || oneR p c width (lo,hi) || (isoB p c width n lo (midQ lo hi) && isoB p c width n (midQ lo hi) hi)
theorem iso_ends {p:List Rat} (h0:0<dgF p) {width d:Rat} {B:Rat} (hd0:0≤d) (hw:d≤width) (short:∀lo hi,Ab B lo→Ab B hi→lo≤hi→hi - lo≤d→betweenF (ownF p) lo hi=0∨betweenF (ownF p) lo hi=1∧evR p lo≠0):∀(n:Nat) (lo hi:Rat),Ab B lo→Ab B hi→lo≤hi→hi - lo≤d*tw n→isoB p (ownF p) width (n+1) lo hi=true
 | n,lo,hi,h1,h2,h3,h4=>by
  unfold isoB
  by_cases hz:betweenF (ownF p) lo hi=0
  ·rw [decide_eq_true hz];rfl
  rw [decide_eq_false hz,Bool.false_or]
  by_cases hone:oneR p (ownF p) width (lo,hi)=true
  ·rw [hone];rfl
  cases n with
  | zero=>
   exfalso
   have e:tw 0=1:=rfl;rw [e] at h4
   rcases short lo hi h1 h2 h3 (by grind) with g|⟨g,g2⟩
   ·exact hz g
   ·apply hone
    unfold oneR
    have f1:¬ width<absQ (hi - lo):=fun h=>by
     have:absQ (hi - lo)=hi - lo:=by
      unfold absQ;rw [if_neg]
      have:=Rat.num_nonneg.2 (show 0≤hi - lo by grind)
      omega
     rw [this] at h
     grind
    have f2:¬(evR p lo).num.sign=0:=fun h=>g2 (Rat.num_eq_zero.1 (Int.sign_eq_zero_iff_zero.1 h))
    show (decide (betweenF (ownF p) lo hi=1) && !decide (width<absQ (hi - lo)) && !decide ((evR p lo).num.sign=0))=true
    rw [decide_eq_true g,decide_eq_false f1,decide_eq_false f2];rfl
  | succ n=>
   have hm:=mid_two lo hi;rw [tw_succ] at h4;have m1:lo≤midQ lo hi:=by grind
   have m2:midQ lo hi≤hi:=by grind
   have m3:Ab B (midQ lo hi):=by
    have q1:=h1.1;have q2:=h2.2
    constructor <;> grind
   rw [iso_ends h0 hd0 hw short n lo (midQ lo hi) h1 m3 m1 (by grind),iso_ends h0 hd0 hw short n (midQ lo hi) hi m3 h2 m2 (by grind)]
   simp
theorem loop_iso (p:List Rat) (c:List (List Rat)) (width:Rat):∀(n:Nat) (lo hi:Rat),isoB p c width n lo hi=true→∃k,∀(f:Nat) (rest out:List (Rat × Rat)),rootsU p c width (k+f) ((lo,hi) :: rest) out=rootsU p c width f rest (out ++ isoU p c width n lo hi)
 | 0,lo,hi,h=>by cases h
 | n+1,lo,hi,h=>by
  unfold isoB at h
  by_cases hz:betweenF c lo hi=0
  ·refine⟨1,fun f rest out=>?_⟩
   rw [Nat.add_comm]
   show (if betweenF c lo hi=0 then rootsU p c width f rest out else _)=_
   rw [iso_succ];rw [if_pos hz,if_pos hz,List.append_nil]
  rw [decide_eq_false hz,Bool.false_or] at h
  by_cases hone:oneR p c width (lo,hi)=true
  ·refine⟨1,fun f rest out=>?_⟩
   rw [Nat.add_comm]
   show (if betweenF c lo hi=0 then _ else if oneR p c width (lo,hi) then rootsU p c width f rest (out ++ [if (evR p hi).num.sign=0 then (hi,hi) else (lo,hi)]) else _)=_
   rw [iso_succ];rw [if_neg hz,if_pos hone,if_neg hz,if_pos hone]
  ·have h2:oneR p c width (lo,hi)=false:=by cases hh:oneR p c width (lo,hi) with|true=>exact absurd hh hone|false=>rfl
   rw [h2,Bool.false_or,Bool.and_eq_true] at h;obtain⟨k1,e1⟩:=loop_iso p c width n lo (midQ lo hi) h.1;obtain⟨k2,e2⟩:=loop_iso p c width n (midQ lo hi) hi h.2;refine⟨1+k1+k2,fun f rest out=>?_⟩;rw [show 1+k1+k2+f=(k1+(k2+f))+1 by omega]
   show (if betweenF c lo hi=0 then _ else if oneR p c width (lo,hi) then _ else rootsU p c width (k1+(k2+f)) ((lo,midQ lo hi) :: (midQ lo hi,hi) :: rest) out)=_
   rw [if_neg hz,if_neg hone,e1,e2];rw [iso_succ];rw [if_neg hz,if_neg hone,List.append_assoc]
theorem iso_len {p:List Rat} (h0:0<dgF p) (width:Rat):∀(n:Nat) (lo hi:Rat),lo≤hi→(((isoU p (ownF p) width n lo hi).length:Nat):Int)≤betweenF (ownF p) lo hi
 | 0,lo,hi,h=>count_pos h0 h
 | n+1,lo,hi,h=>by
  rw [iso_succ]
  by_cases hz:betweenF (ownF p) lo hi=0
  ·rw [if_pos hz,hz];exact Int.le_refl _
  rw [if_neg hz];have hp:=count_pos h0 h
  by_cases hone:oneR p (ownF p) width (lo,hi)=true
  ·rw [if_pos hone]
   show (1:Int)≤_
   omega
  ·rw [if_neg hone,List.length_append]
   have hm:=mid_two lo hi;have e1:=iso_len h0 width n lo (midQ lo hi) (by grind);have e2:=iso_len h0 width n (midQ lo hi) hi (by grind);have e3:=between_add (ownF p) lo (midQ lo hi) hi;omega
end Go.Proofs.YtaaoleakkaloeaaGreatDoor
