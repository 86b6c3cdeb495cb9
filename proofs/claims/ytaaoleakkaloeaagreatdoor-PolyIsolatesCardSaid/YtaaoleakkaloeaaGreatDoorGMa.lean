/- What the spans of roots tell: where no root is, the chain counts none; the spans lie in order, and finer ones within. What PolyIsolates needs of the spans of roots. What the laws on roots need beside the contracts: lists of at most 14 numbers, Bound. -/
import Derived.Test.YtaaoleakkaloeaaGreatDoorGJl
import Derived.Test.YtaaoleakkaloeaaGreatDoorGYw
import Derived.Test.YtaaoleakkaloeaaGreatDoorGYi
set_option linter.unusedVariables false
set_option maxRecDepth 100000
set_option maxHeartbeats 64000000
namespace Go.Proofs.YtaaoleakkaloeaaGreatDoor
set_option linter.unusedSimpArgs false
theorem Pm.mul {s t:Rat} (h:Pm s) (k:Pm t):Pm (s*t):=by
 rcases h with rfl|rfl <;> rcases k with rfl|rfl
 ·exact .inl (by grind)
 ·exact .inr (by grind)
 ·exact .inr (by grind)
 ·exact .inl (by grind)
theorem max_left (a b:Rat):a≤aq a b:=by unfold aq;split <;> grind
theorem max_right (a b:Rat):b≤aq a b:=by unfold aq;split <;> grind
theorem ab_abs (q:Rat):Ab (absQ q) q∧0≤absQ q:=by
 unfold absQ Ab
 split
 ·rename_i h
  have:q<0:=by
   rcases lt_or_le' q 0 with g|g
   ·exact g
   ·have:=Rat.num_nonneg.2 g;omega
  exact⟨⟨by grind,by grind⟩,by grind⟩
 ·rename_i h
  have:0≤q:=Rat.num_nonneg.1 (by omega)
  exact⟨⟨by grind,by grind⟩,by grind⟩
theorem count_far {p:List Rat} (h0:0<dgF p) {x y ε:Rat} (h:x≤y) (he:0<ε) (hf:∀t,x≤t→t≤y→∃s,Pm s∧ε≤s*evR p t):betweenF (ownF p) x y=0:=by
 obtain⟨K1,k1,a1⟩:=ab_ex x;obtain⟨K2,k2,a2⟩:=ab_ex y;obtain⟨B,hB1,hB2⟩:=ab_max (K:=K1) (L:=K2);have b1:=a1.mono hB1;have b2:=a2.mono hB2;have hB:=b1.nonneg;have hin:∀t,x≤t→t≤y→Ab B t:=fun t h1 h2=>⟨Rat.le_trans b1.1 h1,Rat.le_trans h2 b2.2⟩;obtain⟨K,k0,hK⟩:=syn_ab hB (simpleF p);obtain⟨R,r0,hR⟩:=ev_ab hB (nextP p);have ev:∀t,evR p t=evR (nextP p) t*evR (simpleF p) t:=fun t=>quo_dv (nextP_pos h0) (nextP_dv p).1 t;have hR1:0<R+1:=by grind
 have hinv:=Rat.mul_inv_cancel (R+1) (by grind);obtain⟨e,e0,e1⟩:∃e,0<e∧e*(R+1)=ε:=⟨ε*(R+1)⁻¹,Rat.mul_pos he (Rat.inv_pos.2 hR1),by grind⟩
 have hbig:∀t,x≤t→t≤y→∃s,Pm s∧e≤s*evR (simpleF p) t:=by
  intro t h1 h2;obtain⟨s,hs,hp⟩:=hf t h1 h2;obtain⟨σ,hσ,hσp⟩:=pm_of (evR (simpleF p) t);refine⟨σ,hσ,?_⟩
  rcases lt_or_le' (σ*evR (simpleF p) t) e with g|g
  ·exfalso
   have hr:=(hR t (hin t h1 h2)).pm (hs.mul hσ)
   have e2:s*evR p t=(s*σ)*evR (nextP p) t*(σ*evR (simpleF p) t):=by
    rw [ev t]
    have:=hσ.sq
    grind
   have e3:(s*σ)*evR (nextP p) t*(σ*evR (simpleF p) t)≤R*(σ*evR (simpleF p) t):=by
    have:=Rat.mul_nonneg (show 0≤R - (s*σ)*evR (nextP p) t by have:=hr.2;grind) hσp
    grind
   have e4:R*(σ*evR (simpleF p) t)≤R*e:=by
    have:=Rat.mul_nonneg r0 (show 0≤e - σ*evR (simpleF p) t by grind)
    grind
   grind
  ·exact g
 obtain⟨d,d0,dK,-⟩:=small_ex e0 k0 (show (0:Rat)<1 by grind);obtain⟨n,hn⟩:=arch d0 (y - x);refine by_pieces d0 (fun a b=>betweenF (ownF p) a b=0) (fun t=>by rw [between_v];omega) (fun a b c _ _ h1 h2=>by rw [←between_add _ a b c,h1,h2];rfl) (lo:=x) (hi:=y) (fun a b h1 h2 h3 h4=>?_) n x y Rat.le_refl h Rat.le_refl hn;obtain⟨s,hs,hp⟩:=hbig a h1 (Rat.le_trans h2 h3);exact count_fix h0 h2 hs (fix_near hK dK (hin a h1 (Rat.le_trans h2 h3)) (hin b (Rat.le_trans h1 h2) h3) h2 h4 hs hp)
theorem cauchy (m x:Rat) (hm:0≤m) (hx:∃s,Pm s∧m+1≤s*x):∀l:List Rat,l≠[]→co l (l.length - 1)=1→(∀i,i+1<l.length→Ab m (co l i))→∃s,Pm s∧1≤s*evR l x
 | [],h,_,_=>absurd rfl h
 | [a],_,h,_=>⟨1,.inl rfl,by
   have:a=1:=h
   show (1:Rat)≤1*(0*x+a)
   grind⟩
 | a :: b :: t,_,h,hk=>by
  obtain⟨s,hs,he⟩:=cauchy m x hm hx (b :: t) (by simp) (by
   have e:(a :: b :: t).length - 1=((b :: t).length - 1)+1:=by simp
   rw [e] at h;exact h) (fun i hi=>hk (i+1) (by simp at hi ⊢;omega))
  obtain⟨σ,hσ,hx'⟩:=hx;refine⟨s*σ,hs.mul hσ,?_⟩;have ha:=(hk 0 (by simp)).pm (hs.mul hσ)
  have e:s*σ*evR (a :: b :: t) x=(σ*x)*(s*evR (b :: t) x)+s*σ*a:=by
   show s*σ*(evR (b :: t) x*x+a)=_
   grind
  rw [e];have h1:=Rat.mul_nonneg (show 0≤s*evR (b :: t) x - 1 by grind) (show 0≤σ*x by grind);have h2:-m≤s*σ*a:=ha.1;generalize s*evR (b :: t) x=u at *;generalize σ*x=v at *;generalize s*σ*a=w at *
  grind
theorem most_ge (l:List Rat):∀(n:Nat) (i:Nat),i<n→n≤l.length→Ab (mostF l n) (co l i)∧0≤mostF l n
 | 0,i,h,_=>by omega
 | n+1,i,h,hl=>by
  have hq:=List.getElem?_eq_getElem (show n<l.length by omega);have hc:co l n=l[n]:=by unfold co;rw [hq];rfl
  have h1:absQ l[n]≤mostF l (n+1)∧mostF l n≤mostF l (n+1):=by
   rw [most_succ l n _ hq];exact⟨max_right _ _,max_left _ _⟩
  have h2:Ab (absQ l[n]) l[n]∧0≤absQ l[n]:=ab_abs _
  rcases Nat.lt_or_ge i n with h3|h3
  ·obtain⟨a1,a2⟩:=most_ge l n i h3 (by omega)
   exact⟨a1.mono h1.2,Rat.le_trans a2 h1.2⟩
  ·obtain rfl:i=n:=by omega
   rw [hc];exact⟨h2.1.mono h1.1,Rat.le_trans h2.2 h1.1⟩
theorem most_pos (l:List Rat) (n:Nat) (h:n≤l.length):0≤mostF l n:=by
 rcases Nat.eq_zero_or_pos n with e|e
 ·subst e;exact Rat.le_refl
 ·exact(most_ge l n 0 e h).2
theorem bound_pos (p:List Rat):1≤boundF p:=by
 have:=most_pos (monicF p) ((monicF p).length - 1) (Nat.sub_le _ _)
 unfold boundF
 grind
theorem bound_far {p:List Rat} (h0:0<dgF p) {x:Rat} (hx:∃s,Pm s∧boundF p≤s*x):∃s,Pm s∧1≤s*evR (monicF p) x:=by
 have hm0:0<dgF (monicF p):=by rw [dg_mon];exact h0
 have hne:=ne_of_dg hm0;refine cauchy _ x (most_pos (monicF p) ((monicF p).length - 1) (Nat.sub_le _ _)) hx _ hne ?_ (fun i hi=>(most_ge _ _ i (by omega) (Nat.sub_le _ _)).1)
 rcases(mo_mon p).2 with h|h
 ·exact absurd h hne
 ·exact h
theorem bound_zero {p:List Rat} (h0:0<dgF p) {x y s:Rat} (hs:Pm s) (h:x≤y) (hx:boundF p≤s*x) (hy:boundF p≤s*y):betweenF (ownF p) x y=0:=by
 have ht:=top_trim_ne (trim_ne h0);obtain⟨σ,hσ,h1⟩:=pm_of (topF (trimF p))
 have h2:0<σ*topF (trimF p):=by
  rcases lt_or_le' 0 (σ*topF (trimF p)) with g|g
  ·exact g
  ·exfalso
   have:σ*topF (trimF p)=0:=by grind
   have h3:=hσ.sq
   apply ht
   have:σ*(σ*topF (trimF p))=0:=by rw [this];grind
   grind
 refine count_far h0 h h2 fun t t1 t2=>?_;have hb:boundF p≤s*t:=by rcases hs with rfl|rfl <;> grind
 obtain⟨u,hu,h3⟩:=bound_far h0 ⟨s,hs,hb⟩;refine⟨u*σ,hu.mul hσ,?_⟩;rw [mon_back h0 t]
 have:=Rat.mul_nonneg (show 0≤u*evR (monicF p) t - 1 by grind) h1
 grind
theorem bound_all {p:List Rat} (h0:0<dgF p) {B:Rat} (hB:boundF p≤B):betweenF (ownF p) (-B) B=betweenF (ownF p) (-(boundF p)) (boundF p):=by
 have hb:=bound_pos p;have e1:=between_add (ownF p) (-B) (-(boundF p)) B;have e2:=between_add (ownF p) (-(boundF p)) (boundF p) B;have z1:=bound_zero h0 (s:=-1) (.inr rfl) (x:=-B) (y:=-(boundF p)) (by grind) (by grind) (by grind);have z2:=bound_zero h0 (s:=1) (.inl rfl) (x:=boundF p) (y:=B) hB (by grind) (by grind);omega
theorem root_count {p:List Rat} (h0:0<dgF p) {x y:Rat} (h:x<y) (hr:evR p y=0):1≤betweenF (ownF p) x y:=by
 have hs:=(root_simple h0 y).1 hr
 rcases own_chain h0 with ⟨d1,c,e,k,hk,hc⟩|⟨-,p0,q,l,k,μ,e,hc,hk,hp0,hμ,hq⟩
 ·exfalso
  obtain⟨A,B,hAB⟩:=simple_cop h0;have z:evR (derivF (simpleF p)) y=0:=dgz (by have:=dg_deriv (simpleF p);omega) y
  have:=hAB y
  rw [hs,z] at this
  grind
 ·obtain⟨K1,k1,a1⟩:=ab_ex x
  obtain⟨K2,k2,a2⟩:=ab_ex y;obtain⟨B,hB1,hB2⟩:=ab_max (K:=K1) (L:=K2);have b1:=a1.mono hB1;have b2:=a2.mono hB2;obtain⟨d,d0,hd⟩:=piece b1.nonneg hc hμ hq
  obtain⟨z,z1,z2,z3⟩:∃z,x≤z∧z<y∧y - z≤d:=by
   rcases lt_or_le' (y - d) x with g|g
   ·exact⟨x,Rat.le_refl,h,by grind⟩
   ·exact⟨y - d,g,by grind,by grind⟩
  have hy0:evR p0 y=0:=by rw [hp0,hs];grind
  have h1:1≤betweenF (ownF p) z y:=by
   rw [e,between_v]
   rcases hd z y ⟨Rat.le_trans b1.1 z1,Rat.le_trans (Rat.le_of_lt z2) b2.2⟩ b2 (Rat.le_of_lt z2) z3 with ⟨s,hs',hf,-⟩|⟨s,hs',hu,N,hN⟩
   ·have:=hf y (Rat.le_of_lt z2) Rat.le_refl
    rw [hy0] at this
    grind
   ·rw [hN z Rat.le_refl (Rat.le_of_lt z2),hN y (Rat.le_of_lt z2) Rat.le_refl]
    have h2:=hu z y Rat.le_refl z2 Rat.le_refl;rw [hy0] at h2;have h3:atF z p0=si (-s):=at_si hs'.neg (by grind);have h4:atF y p0=0:=atF_zero.2 hy0;rw [h3,h4,(si_not hs').1];have c1:chg (-(si s)) (si s)=1:=by rcases(si_not hs').2 with g|g <;> rw [g] <;> rfl
    have c2:chg 0 (si s)=0:=by rcases(si_not hs').2 with g|g <;> rw [g] <;> rfl
    omega
  have h2:=count_pos h0 z1
  have:=between_add (ownF p) x z y
  omega
theorem mid_in {lo hi:Rat} (h:lo≤hi):lo≤midQ lo hi∧midQ lo hi≤hi:=by
 have:=mid_two lo hi
 constructor <;> grind
theorem iso_cnt {p:List Rat} (h0:0<dgF p) (width:Rat):∀(n:Nat) (lo hi:Rat),lo≤hi→isoB p (ownF p) width n lo hi=true→(((isoU p (ownF p) width n lo hi).length:Nat):Int)=betweenF (ownF p) lo hi
 | 0,lo,hi,_,h=>by cases h
 | n+1,lo,hi,h,hb=>by
  rw [iso_succ];unfold isoB at hb
  by_cases hz:betweenF (ownF p) lo hi=0
  ·rw [if_pos hz,hz];rfl
  rw [if_neg hz];rw [decide_eq_false hz,Bool.false_or] at hb
  by_cases hone:oneR p (ownF p) width (lo,hi)=true
  ·rw [if_pos hone]
   unfold oneR at hone
   simp only [Bool.and_eq_true,decide_eq_true_eq] at hone
   rw [hone.1.1];rfl
  ·rw [if_neg hone,List.length_append]
   rw [Bool.eq_false_iff.2 hone,Bool.false_or,Bool.and_eq_true] at hb;obtain⟨m1,m2⟩:=mid_in h;have e1:=iso_cnt h0 width n lo (midQ lo hi) m1 hb.1;have e2:=iso_cnt h0 width n (midQ lo hi) hi m2 hb.2
   have:=between_add (ownF p) lo (midQ lo hi) hi
   omega
theorem iso_in {p:List Rat} {c:List (List Rat)} {width:Rat}:∀(n:Nat) (lo hi:Rat),lo≤hi→∀a ∈ isoU p c width n lo hi,lo≤a.1∧a.1≤a.2∧a.2≤hi
 | 0,lo,hi,_,a,h=>by cases h
 | n+1,lo,hi,h,a,ha=>by
  rw [iso_succ] at ha
  split at ha
  ·cases ha
  ·split at ha
   ·rw [List.mem_singleton.1 ha]
    split
    ·exact⟨h,Rat.le_refl,Rat.le_refl⟩
    ·exact⟨Rat.le_refl,h,Rat.le_refl⟩
   ·obtain⟨m1,m2⟩:=mid_in h
    rcases List.mem_append.1 ha with g|g
    ·obtain⟨h1,h2,h3⟩:=iso_in n _ _ m1 a g
     exact⟨h1,h2,Rat.le_trans h3 m2⟩
    ·obtain⟨h1,h2,h3⟩:=iso_in n _ _ m2 a g
     exact⟨Rat.le_trans m1 h1,h2,h3⟩
theorem iso_sort {p:List Rat} {c:List (List Rat)} {width:Rat}:∀(n:Nat) (lo hi:Rat),lo≤hi→(isoU p c width n lo hi).Pairwise fun a b=>a.2≤b.1
 | 0,lo,hi,_=>List.Pairwise.nil
 | n+1,lo,hi,h=>by
  rw [iso_succ]
  split
  ·exact List.Pairwise.nil
  ·split
   ·exact List.pairwise_singleton _ _
   ·obtain⟨m1,m2⟩:=mid_in h
    exact List.pairwise_append.2 ⟨iso_sort n _ _ m1,iso_sort n _ _ m2,fun a ha b hb=>Rat.le_trans (iso_in n _ _ m1 a ha).2.2 (iso_in n _ _ m2 b hb).1⟩
theorem iso_one {p:List Rat} {c:List (List Rat)} {width:Rat}:∀(n:Nat) (lo hi:Rat),∀a ∈ isoU p c width n lo hi,(a.1=a.2∧evR p a.2=0)∨(betweenF c a.1 a.2=1∧evR p a.1≠0∧evR p a.2≠0)
 | 0,lo,hi,a,h=>by cases h
 | n+1,lo,hi,a,ha=>by
  rw [iso_succ] at ha
  split at ha
  ·cases ha
  ·split at ha
   ·rename_i hone
    unfold oneR at hone
    simp only [Bool.and_eq_true,decide_eq_true_eq,Bool.not_eq_true',decide_eq_false_iff_not] at hone
    rw [List.mem_singleton.1 ha]
    split
    ·rename_i h1
     exact .inl ⟨rfl,atF_zero.1 h1⟩
    ·rename_i h1
     exact .inr ⟨hone.1.1,fun e=>hone.2 (atF_zero.2 e),fun e=>h1 (atF_zero.2 e)⟩
   ·rcases List.mem_append.1 ha with g|g
    ·exact iso_one n _ _ a g
    ·exact iso_one n _ _ a g
theorem iso_end {p:List Rat} (h0:0<dgF p) {width:Rat}:∀(n:Nat) (lo hi:Rat),lo<hi→evR p hi=0→isoB p (ownF p) width n lo hi=true→(hi,hi) ∈ isoU p (ownF p) width n lo hi
 | 0,lo,hi,_,_,h=>by cases h
 | n+1,lo,hi,h,hr,hb=>by
  rw [iso_succ];unfold isoB at hb;have hz:¬ betweenF (ownF p) lo hi=0:=by have:=root_count h0 h hr;omega
  rw [if_neg hz];rw [decide_eq_false hz,Bool.false_or] at hb
  by_cases hone:oneR p (ownF p) width (lo,hi)=true
  ·rw [if_pos hone,if_pos (show (evR p hi).num.sign=0 from atF_zero.2 hr)];exact List.mem_singleton.2 rfl
  ·rw [if_neg hone]
   rw [Bool.eq_false_iff.2 hone,Bool.false_or,Bool.and_eq_true] at hb
   have:=mid_two lo hi
   exact List.mem_append.2 (.inr (iso_end h0 n _ _ (by grind) hr hb.2))
theorem one_wide {p:List Rat} {c:List (List Rat)} {w w':Rat} (h:w'≤w) {a:Rat × Rat} (h1:oneR p c w' a=true):oneR p c w a=true:=by
 unfold oneR at h1 ⊢
 simp only [Bool.and_eq_true,decide_eq_true_eq,Bool.not_eq_true',decide_eq_false_iff_not] at h1 ⊢
 exact⟨⟨h1.1.1,fun e=>h1.1.2 (by grind)⟩,h1.2⟩
theorem iso_wide {p:List Rat} {c:List (List Rat)} {w w':Rat} (hw:w'≤w):∀(n:Nat) (lo hi:Rat),isoB p c w' n lo hi=true→isoB p c w n lo hi=true
 | 0,lo,hi,h=>by cases h
 | n+1,lo,hi,h=>by
  unfold isoB at h ⊢;rw [Bool.or_eq_true,Bool.or_eq_true,Bool.and_eq_true] at h ⊢
  rcases h with (h|h)|h
  ·exact .inl (.inl h)
  ·exact .inl (.inr (one_wide hw h))
  ·exact .inr ⟨iso_wide hw n _ _ h.1,iso_wide hw n _ _ h.2⟩
theorem iso_cntw {p:List Rat} (h0:0<dgF p) {w w':Rat} (hw:w'≤w) (n:Nat) (lo hi:Rat) (h:lo≤hi) (hb:isoB p (ownF p) w' n lo hi=true):(((isoU p (ownF p) w n lo hi).length:Nat):Int)=betweenF (ownF p) lo hi:=iso_cnt h0 w n lo hi h (iso_wide hw n lo hi hb)
theorem iso_fine {p:List Rat} (h0:0<dgF p) {w w':Rat} (hw:w'≤w):∀(n:Nat) (lo hi:Rat),lo≤hi→isoB p (ownF p) w' n lo hi=true→∀(i:Nat) (a b:Rat × Rat),(isoU p (ownF p) w n lo hi)[i]?=some a→(isoU p (ownF p) w' n lo hi)[i]?=some b→a.1≤b.1∧b.2≤a.2
 | 0,lo,hi,_,h=>by cases h
 | n+1,lo,hi,h,hb=>by
  intro i a b ha hb';have hb0:=hb;have hcnt:=iso_cnt h0 w' (n+1) lo hi h hb;have hbm:=iso_in (n+1) lo hi h b (List.mem_of_getElem? hb');rw [iso_succ] at ha;unfold isoB at hb
  by_cases hz:betweenF (ownF p) lo hi=0
  ·rw [if_pos hz] at ha;cases ha
  rw [if_neg hz] at ha;rw [decide_eq_false hz,Bool.false_or] at hb
  by_cases hone:oneR p (ownF p) w (lo,hi)=true
  ·rw [if_pos hone] at ha
   have h1:betweenF (ownF p) lo hi=1:=by
    unfold oneR at hone
    simp only [Bool.and_eq_true,decide_eq_true_eq] at hone
    exact hone.1.1
   obtain rfl:i=0:=by
    cases i with
    | zero=>rfl
    | succ i=>simp at ha
   by_cases hr:(evR p hi).num.sign=0
   ·rw [if_pos hr] at ha
    obtain rfl:(hi,hi)=a:=Option.some.inj ha
    have hlt:lo<hi:=by
     rcases lt_or_le' lo hi with g|g
     ·exact g
     ·obtain rfl:lo=hi:=by grind
      rw [between_v] at h1;omega
    have hmem:=iso_end h0 (n+1) lo hi hlt (atF_zero.1 hr) hb0;generalize isoU p (ownF p) w' (n+1) lo hi=L at *;have hl:L.length=1:=by omega
    match L,hl with
    | [c],_=>
     obtain rfl:c=b:=Option.some.inj hb';rw [←List.mem_singleton.1 hmem];exact⟨Rat.le_refl,Rat.le_refl⟩
   ·rw [if_neg hr] at ha
    obtain rfl:(lo,hi)=a:=Option.some.inj ha;exact⟨hbm.1,hbm.2.2⟩
  ·rw [if_neg hone] at ha
   have hone':¬ oneR p (ownF p) w' (lo,hi)=true:=fun e=>hone (one_wide hw e);rw [Bool.eq_false_iff.2 hone',Bool.false_or,Bool.and_eq_true] at hb;rw [iso_succ,if_neg hz,if_neg hone'] at hb';obtain⟨m1,m2⟩:=mid_in h;have c1:=iso_cnt h0 w' n lo (midQ lo hi) m1 hb.1;have c2:=iso_cntw h0 hw n lo (midQ lo hi) m1 hb.1
   rcases Nat.lt_or_ge i (isoU p (ownF p) w n lo (midQ lo hi)).length with g|g
   ·rw [List.getElem?_append_left g] at ha
    rw [List.getElem?_append_left (by omega)] at hb';exact iso_fine h0 hw n _ _ m1 hb.1 i a b ha hb'
   ·rw [List.getElem?_append_right g] at ha
    rw [List.getElem?_append_right (by omega)] at hb';have e:(isoU p (ownF p) w' n lo (midQ lo hi)).length=(isoU p (ownF p) w n lo (midQ lo hi)).length:=by omega
    rw [e] at hb';exact iso_fine h0 hw n _ _ m2 hb.2 _ a b ha hb'
end Go.Proofs.YtaaoleakkaloeaaGreatDoor
set_option linter.unusedVariables false
set_option maxRecDepth 100000
set_option maxHeartbeats 64000000
namespace Go.Proofs.YtaaoleakkaloeaaGreatDoor
set_option linter.unusedSimpArgs false
theorem iso_gr {p:List Rat} {c:List (List Rat)} {width:Rat} {b:Nat}:∀(n j:Nat) (lo hi:Rat),Gr b j lo→Gr b j hi→∀a ∈ isoU p c width n lo hi,∃i,i≤j+n∧Gr b i a.1∧Gr b i a.2
 | 0,j,lo,hi,_,_,a,h=>by cases h
 | n+1,j,lo,hi,g1,g2,a,ha=>by
  rw [iso_succ] at ha
  split at ha
  ·cases ha
  ·split at ha
   ·rw [List.mem_singleton.1 ha]
    split
    ·exact⟨j,by omega,g2,g2⟩
    ·exact⟨j,by omega,g1,g2⟩
   ·rcases List.mem_append.1 ha with g|g
    ·obtain⟨i,h1,h2⟩:=iso_gr n (j+1) _ _ g1.up (g1.mid g2) a g
     exact⟨i,by omega,h2⟩
    ·obtain⟨i,h1,h2⟩:=iso_gr n (j+1) _ _ (g1.mid g2) g2.up a g
     exact⟨i,by omega,h2⟩
theorem width_nat (m:Nat):powF (-(m:Int))*tw m=1:=by
 unfold powF
 rcases Nat.eq_zero_or_pos m with h|h
 ·subst h
  rw [if_neg (by omega)]
  show pw2 0*tw 0=1
  rw [pw_tw]
  have:tw 0=1:=rfl
  rw [this];grind
 ·rw [if_pos (by omega),Int.natAbs_neg,Int.natAbs_natCast,pw_tw]
  have h1:=tw_pos m
  have h2:tw m≠0:=by
   generalize tw m=v at *
   grind
  rw [Rat.mul_comm];exact inv_ne h2
theorem width_mono {a b:Int} (h0:0≤a) (h:a≤b) (hb:b≤1000):widthF b≤widthF a:=by
 obtain⟨m,rfl⟩:∃m:Nat,a=(m:Int):=⟨a.toNat,by omega⟩;obtain⟨n,rfl⟩:∃n:Nat,b=(n:Int):=⟨b.toNat,by omega⟩;unfold widthF;rw [show min (max (n:Int) 0) 1000=(n:Int) by omega,show min (max (m:Int) 0) 1000=(m:Int) by omega];have h1:=width_nat m;have h2:=width_nat n;have h3:=tw_mono (show m≤n by omega);have h4:=tw_pos m;generalize tw m=u at *;generalize tw n=v at *;generalize powF (-(m:Int))=x at *;generalize powF (-(n:Int))=y at *
 rcases lt_or_le' x y with g|g
 ·exfalso
  have e1:=Rat.mul_pos (show 0<y - x by grind) (show 0<u by grind)
  have hy:0<y:=by
   rcases lt_or_le' 0 y with k|k
   ·exact k
   ·have:=Rat.mul_nonneg (show 0≤-y by grind) (show 0≤v by grind)
    grind
  have e2:=Rat.mul_nonneg (show 0≤y by grind) (show 0≤v - u by grind)
  grind
 ·exact g
structure IsoF (M:Nat) (p:List Rat) (L L':List (Rat × Rat)):Prop where
 same:L'.length=L.length
 cnt:((L.length:Nat):Int)=betweenF (ownF p) (-(boundF p)) (boundF p)
 small:L.length≤10000
 one:∀(i:Nat) (a:Rat × Rat),L[i]?=some a→a.1≤a.2∧Bq M a.1∧Bq M a.2∧((a.1=a.2∧evR p a.2=0)∨(a.1≠a.2∧betweenF (ownF p) a.1 a.2=1∧evR p a.1≠0∧evR p a.2≠0))
 sort:∀(i:Nat) (a b:Rat × Rat),L[i]?=some a→L[i+1]?=some b→a.2≤b.1
 fine:∀(i:Nat) (a b:Rat × Rat),L[i]?=some a→L'[i]?=some b→a.1≤b.1∧b.2≤a.2∧Bq M b.1∧Bq M b.2
theorem iso_facts {M:Nat} (hM:1739600393≤M) {p:List Rat} (hb:∀x ∈ p,Bq 4001 x) (hl:p.length≤60) (hz:askF p=0) {b1 b2:Int} (h0:0≤b1) (h1:b1≤b2) (h2:b2≤1000):IsoF M p (rootL p b1) (rootL p b2):=by
 obtain⟨K,i1⟩:=iso_all hM hb hz b1;obtain⟨K',i2⟩:=iso_all hM hb hz b2;obtain rfl:K=K':=i1.st.symm.trans i2.st;have hw:=width_mono h0 h1 h2;have e1:rootL p b1=isoU p (ownF p) (widthF b1) (deepF p+1) (-(tw K)) (tw K):=by unfold rootL;rw [i1.st,i1.pk]
 have e2:rootL p b2=isoU p (ownF p) (widthF b2) (deepF p+1) (-(tw K)) (tw K):=by unfold rootL;rw [i1.st,i1.pk]
 have c1:=iso_cnt i1.pos (widthF b1) _ _ _ i1.le i1.iso;have c2:=iso_cnt i1.pos (widthF b2) _ _ _ i1.le i2.iso;have hdeep:=i1.deep
 have hgr:∀(w:Rat) (a:Rat × Rat),a ∈ isoU p (ownF p) w (deepF p+1) (-(tw K)) (tw K)→Bq M a.1∧Bq M a.2:=fun w a ha=>by
  obtain⟨i,hi,g1,g2⟩:=iso_gr (deepF p+1) 0 _ _ i1.lo i1.hi a ha;exact⟨g1.bq.mono (by omega),g2.bq.mono (by omega)⟩
 have hfl:((isoU p (ownF p) (widthF b1) (deepF p+1) (-(tw K)) (tw K)).length)≤10000:=by
  have h2:betweenF (ownF p) (-(tw K)) (tw K)≤((ownF p).map (atF (-(tw K)))).length:=by
   have f1:=flips_bound 0 ((ownF p).map (atF (-(tw K))));have f2:=flips_bound 0 ((ownF p).map (atF (tw K)));have e:betweenF (ownF p) (-(tw K)) (tw K)=flipsU 0 ((ownF p).map (atF (-(tw K)))) - flipsU 0 ((ownF p).map (atF (tw K))):=rfl;omega
  rw [List.length_map] at h2;have h3:=own_len p;omega
 rw [e1,e2];refine⟨by omega,?_,hfl,fun i a ha=>?_,fun i a b ha hb'=>?_,fun i a b ha hb'=>?_⟩
 ·rw [c1,bound_all i1.pos i1.big]
 ·have hm:=List.mem_of_getElem? ha
  obtain⟨g1,g2⟩:=hgr _ a hm;refine⟨(iso_in _ _ _ i1.le a hm).2.1,g1,g2,?_⟩
  rcases iso_one _ _ _ a hm with h|⟨h,h'⟩
  ·exact .inl h
  ·refine .inr ⟨fun e=>?_,h,h'⟩
   rw [e,between_v] at h;omega
 ·have hs:=iso_sort (p:=p) (c:=ownF p) (width:=widthF b1) (deepF p+1) _ _ i1.le
  obtain⟨l1,r1⟩:=List.getElem?_eq_some_iff.1 ha;obtain⟨l2,r2⟩:=List.getElem?_eq_some_iff.1 hb'
  have:=List.pairwise_iff_getElem.1 hs i (i+1) l1 l2 (by omega)
  rw [r1,r2] at this;exact this
 ·obtain⟨f1,f2⟩:=iso_fine i1.pos hw _ _ _ i1.le i2.iso i a b ha hb'
  obtain⟨g1,g2⟩:=hgr _ b (List.mem_of_getElem? hb');exact⟨f1,f2,g1,g2⟩
end Go.Proofs.YtaaoleakkaloeaaGreatDoor
set_option linter.unusedVariables false
set_option maxRecDepth 100000
set_option maxHeartbeats 64000000
namespace Go.Proofs.YtaaoleakkaloeaaGreatDoor
open Go Go.RowKit
set_option linter.unusedSimpArgs false
theorem list_14 (v:Value) (ls:List (List UInt8)) (w:World) (h:Stl w v ls) (hn:ls.length≤14):Calls Tryz.prog 8 #[v] w fun e w'=>∃va vx,e=.returned (.tuple #[va,vx])∧Px w' va (listF ls) 14 4001∧Ext w w':=by
 refine(list_n v ls (by omega) w h).mono ?_;rintro e w' ⟨va,vx,rfl,hp,hr,k⟩;refine⟨va,vx,rfl,⟨hp,by unfold listF;rw [List.length_map];exact hn,fun x hx=>?_⟩,k⟩;unfold listF at hx;obtain⟨s,-,rfl⟩:=List.mem_map.1 hx;exact av s
def boundE (p:List Rat):Rat × Int:=if askF p=0 then (boundF p,0) else (0,askF p)
theorem bound_bq {p:List Rat} (h:∀x ∈ p,Bq 4001 x):Bq 8067 (boundF p):=by
 unfold boundF;exact((bq_most (by decide) (bq_monic h) _).add (show Bq 64 (1:Rat) from bq_int 1 (by decide) (by decide))).mono (by decide)
theorem mon_ne {p:List Rat} (h:askF p=0):monicF p≠[]:=by
 have h1:=(ask_zero h).2;exact ne_of_dg (by rw [dg_mon];exact List.length_pos_iff.2 h1)
theorem bound_ok {M:Nat} (hM:8002≤M) {p:List Rat} (hb:∀x ∈ p,Bq 4001 x):boundOk M p=true:=by
 unfold boundOk;rw [of_sm fun x hx=>(hb x hx).mono (show 4001≤M by omega),of_sm fun x hx=>(bq_monic hb x hx).mono (show 8002≤M by omega)];rfl
theorem boundx_p (v:Value) (p:List Rat) (hlp:p.length≤100000) (w:World) (hp:Pl w v p) (hb:∀x ∈ p,Bq 4001 x) (D:Rat × Int) (hD:boundE p=D):Calls Tryz.prog 15 #[v] w fun e w'=>∃v',e=.returned (.tuple #[v',.int .i64 D.2])∧Nm w' v' D.1∧Ext w w':=by
 have HP:=ZZ hp;have HLP:=ZZ hlp;have HB:=ZZ hb;have HD:=ZZ hD;have e1:=ac w (.cells #[.bool false,.slice none 0 0,.slice none 0 0] 36);have hz:=heap_alloc_new w (.cells #[.bool false,.slice none 0 0,.slice none 0 0] 36);have HZ:=ZZ hz;have EW:=ZZ e1;have LE:=ZZ (Nat.le_refl w.heap.size);obtain⟨z,hz⟩:∃z,askF p=z:=⟨_,rfl⟩;have HA:=ZZ hz;clear hp hlp hb hD e1 hz
 go_enter Tryz.func15,Tryz.ntmps15
 go_wp2_with fail;refine(asked_p _ p (by have:=HLP.out;omega) _ (HP.out.mono EW.out) z HA.out).mono ?_
 rintro e w3 ⟨rfl,k3⟩;have E3:=ZZ (al EW.out k3);have hz3:=(k3.block _ (lt_of_block HZ.out)).trans HZ.out;have HZ3:=ZZ hz3;clear k3
 by_cases h0:z=0
 ·subst h0
  have HDE:=ZZ (show D=(boundF p,0) from by rw [←HD.out];unfold boundE;rw [if_pos HA.out]);clear hz3;go_wp2_with fail;refine(bound_p 8067 (by decide) (by decide) _ p HLP.out _ (HP.out.mono E3.out) (mon_ne HA.out) (bound_ok (by decide) HB.out)).mono ?_;rintro e w4 ⟨v4,rfl,h4,k4⟩;obtain⟨s4,A4,k4',ca4,B4,l4,cb4,rfl⟩:=h4.form2;have E4:=ZZ (al E3.out k4);have H4:=ZZ h4;have hz4:=(k4.block _ (lt_of_block HZ3.out)).trans HZ3.out;have HZ4:=ZZ hz4;obtain⟨z0,z1,z2,zf0,zf1,zf2⟩:=aj hz4;clear h4 k4 hz4;go_wp2_with fail;refine bodyPost_ret (v:=.tuple #[.agg #[.bool s4,.slice A4 k4' ca4,.slice B4 l4 cb4],.int .i64 0]) (by simp [results,Tryz.f15];go_simp) rfl ?_;rw [HDE.out];exact⟨_,rfl,H4.out.put3 HZ4.out,am E4.out LE.out _ _ _⟩
 ·have q1:(z != 0)=true:=by rw [bne_iff_ne];exact h0
  have q2:(z == 0)=false:=by rw [beq_eq_false_iff_ne];exact h0
  have HDE:=ZZ (show D=(0,z) from by rw [←HD.out];unfold boundE;rw [if_neg (by rw [HA.out];exact h0),HA.out]);obtain⟨z0,z1,z2,zf0,zf1,zf2⟩:=aj hz3;clear hz3 h0;go_wp2_with fail;refine bodyPost_ret (v:=.tuple #[.agg #[.bool false,.slice none 0 0,.slice none 0 0],.int .i64 z]) (by simp [results,Tryz.f15];go_simp) rfl ?_;rw [HDE.out];exact⟨_,rfl,(Nm.zero _).put3 HZ3.out,am E3.out LE.out _ _ _⟩
end Go.Proofs.YtaaoleakkaloeaaGreatDoor
