/- The chains that the program makes are Sturm chains. Gauss's lemma: the numbers of a factor of a polynomial are as small as those of the polynomial, nearly. A polynomial with small values at many whole numbers has small numbers; so a factor has. -/
import Derived.Test.YtaaoleakkaloeaaGreatDoorGJc
import Derived.Test.YtaaoleakkaloeaaGreatDoorGYh
set_option linter.unusedVariables false
set_option maxRecDepth 100000
set_option maxHeartbeats 64000000
namespace Go.Proofs.YtaaoleakkaloeaaGreatDoor
set_option linter.unusedSimpArgs false
theorem base_sq:∀(n:Nat) (p:List Rat),Mo p→0<dgF p→dgF p≤n→Cop (baseP p) (derivF (baseP p))
 | 0,p,_,h0,hn=>by omega
 | n+1,p,hp,h0,hn=>by
  rcases Nat.lt_or_ge 1 (dgF p) with h1|h1
  ·obtain⟨P,C,e1,Pm,P0,b1,e2,e3,tC,e4,c1,c2⟩:=yun_step hp h1 (base_ev h0) (quo_dv (nextP_pos h0) (nextP_dv p).2) (quo_trim _ _)
   have ih:=base_sq n (nextP p) (nextP_mo p) (nextP_pos h0) (by have:=nextP_less h1;omega);have hd:=deriv_prod e2;have f1:Cop P (mulF (derivF P) (baseP (nextP p))):=c1.mul c2 fun x=>ev_mulF _ _ x;have f2:Cop P (derivF (baseP p)):=f1.add (c:=derivF (baseP (nextP p))) fun x=>by rw [ev_mulF,hd]
   have f3:Cop (baseP (nextP p)) (mulF P (derivF (baseP (nextP p)))):=c2.symm.mul ih fun x=>ev_mulF _ _ x;have f4:Cop (baseP (nextP p)) (derivF (baseP p)):=f3.add (c:=derivF P) fun x=>by rw [ev_mulF,hd];grind
   exact(f2.symm.mul f4.symm e2).symm
  ·obtain⟨m,b0⟩:=base_mo hp h0
   have hb:=dg_mul (base_ev h0) (nextP_pos h0) b0;have q0:=nextP_pos h0;rw [mo_one_of m (by omega)];exact⟨[1],[],fun x=>by rw [ev_one,ev_nil];grind⟩
theorem Cop.scale {p q r s:List Rat} {c d:Rat} (h:Cop p q) (hc:c≠0) (hd:d≠0) (hr:∀x,evR r x=evR p x*c) (hs:∀x,evR s x=evR q x*d):Cop r s:=by
 obtain⟨u,v,e⟩:=h;refine⟨scaleF u (1 / c),scaleF v (1 / d),fun x=>?_⟩;rw [ev_scaleF,ev_scaleF,hr,hs];have h1:=inv_ne hc;have h2:=inv_ne hd;have h3:=e x;generalize 1 / c=c' at *;generalize 1 / d=d' at *
 have:evR u x*c'*(evR p x*c)+evR v x*d'*(evR q x*d)=evR u x*evR p x*(c*c')+evR v x*evR q x*(d*d'):=by grind
 rw [this,h1,h2];grind
theorem simple_ev {p:List Rat} (h0:0<dgF p) (x:Rat):evR (simpleF p) x=evR (baseP (monicF p)) x*topF (trimF p):=by
 have q0:=nextP_pos h0;have m0:0<dgF (monicF p):=by rw [dg_mon];exact h0
 have hb:=base_ev m0;rw [next_mon] at hb
 have:=ev_cancel (p:=nextP p) (q:=simpleF p) (r:=scaleF (baseP (monicF p)) (topF (trimF p))) q0 (fun x=>by
  have e:evR p x=evR (nextP p) x*evR (simpleF p) x:=quo_dv q0 (nextP_dv p).1 x;rw [←e,ev_scaleF,mon_back h0,hb];grind) x
 rw [this,ev_scaleF]
theorem simple_cop {p:List Rat} (h0:0<dgF p):Cop (simpleF p) (derivF (simpleF p)):=by
 have m0:0<dgF (monicF p):=by rw [dg_mon];exact h0
 have ht:=top_trim_ne (trim_ne h0);refine(base_sq _ (monicF p) (mo_mon p) m0 (Nat.le_refl _)).scale ht ht (simple_ev h0) fun x=>?_;rw [deriv_prod (p:=baseP (monicF p)) (q:=[topF (trimF p)]) (fun x=>by rw [ev_const];exact simple_ev h0 x),ev_const];have z:evR (derivF [topF (trimF p)]) x=0:=dgz (by rw [dg_deriv];have:=dg_len [topF (trimF p)];simp at this;omega) x;rw [z];grind
theorem simple_dg {p:List Rat} (h0:0<dgF p):0<dgF (simpleF p)∧trimF (simpleF p)=simpleF p∧dgF (simpleF p)≤dgF p:=by
 have e:∀x,evR p x=evR (nextP p) x*evR (simpleF p) x:=fun x=>quo_dv (nextP_pos h0) (nextP_dv p).1 x;have h1:=(dg_parts e h0).2;have h2:=dg_mul e (nextP_pos h0) h1;have h3:=nextP_pos h0;exact⟨h1,quo_trim _ _,by omega⟩
theorem absQ_pos {x:Rat} (h:x≠0):0<absQ x:=by
 unfold absQ
 split
 ·rename_i h1
  rcases Rat.le_total (a:=0) (b:=x) with h2|h2
  ·have:=Rat.num_nonneg.2 h2
   omega
  ·grind
 ·rename_i h1
  have:=Rat.num_nonneg.1 (show 0≤x.num by omega)
  grind
theorem small_ev {p:List Rat} (h:0<dgF p):∃k,0<k∧(∀x,evR (smallF p) x=evR p x*k)∧(∀x,evR p x=evR (smallF p) x*(1 / k))∧0<1 / k:=by
 have ht:=top_trim_ne (trim_ne h);have h1:=absQ_pos ht;have h2:0<(absQ (topF (trimF p)))⁻¹:=Rat.inv_pos.2 h1;have h3:0<1 / absQ (topF (trimF p)):=by rw [Rat.div_def];grind
 refine⟨1 / absQ (topF (trimF p)),h3,fun x=>?_,fun x=>?_,?_⟩
 ·unfold smallF
  rw [if_neg (trim_ne h),ev_scaleF,ev_trim]
 ·unfold smallF
  rw [if_neg (trim_ne h),ev_scaleF,ev_trim]
  have:=inv_ne (show (1 / absQ (topF (trimF p)))≠0 by grind)
  grind
 ·rw [Rat.div_def]
  have:=Rat.inv_pos.2 h3
  grind
theorem small_nil {p:List Rat} (h:dgF p=0):smallF p=[]:=by unfold smallF;rw [if_pos (trim_nil h)]
theorem small_trim (p:List Rat):trimF (smallF p)=smallF p:=by
 unfold smallF
 split
 ·rfl
 ·exact trim_trim _
theorem dgSm (p:List Rat):dgF (smallF p)=dgF p:=by
 rcases Nat.eq_zero_or_pos (dgF p) with h|h
 ·rw [small_nil h,h];rfl
 ·obtain⟨k,k0,h1,h2,-⟩:=small_ev h
  exact Nat.le_antisymm (dg_scale h1) (dg_scale h2)
theorem chain_one (n:Nat) {p:List Rat} (h:p≠[]):chainU (n+1) p []=[p]:=by
 show (if p=[] then [] else if ([]:List Rat)=[] then [p] else _)=_
 rw [if_neg h,if_pos rfl]
theorem chain_two (n:Nat) {p q:List Rat} (h:p≠[]) (hq:q≠[]):chainU (n+1) p q=p :: chainU n q (smallF (scaleF (divF p q).2 (-1))):=by
 show (if p=[] then [] else if q=[] then [p] else _)=_
 rw [if_neg h,if_neg hq]
theorem ne_of_dg {p:List Rat} (h:0<dgF p):p≠[]:=fun e=>by rw [e] at h;exact absurd h (by decide)
theorem chn_of:∀(n:Nat) (p q:List Rat),0<dgF p→0<dgF q→dgF q<n→Cop p q→Chn (chainU (n+1) p q)∧∃l,chainU (n+1) p q=p :: q :: l
 | 0,p,q,_,_,h,_=>by omega
 | n+1,p,q,hp,hq,hn,hc=>by
  rw [chain_two (n+1) (ne_of_dg hp) (ne_of_dg hq)];obtain⟨d1,-,-⟩:=div_ev p q hq;have dr:=div_dg p q hq;have e1:∀x,evR (scaleF (divF p q).2 (-1)) x=evR (divF p q).2 x*(-1):=fun x=>ev_scaleF _ _ x;have dr2:dgF (scaleF (divF p q).2 (-1))=dgF (divF p q).2:=Nat.le_antisymm (dg_scale e1) (dg_scale (c:=-1) fun x=>by rw [e1];grind)
  rcases Nat.eq_zero_or_pos (dgF (divF p q).2) with h|h
  ·rw [small_nil (by omega),chain_one n (ne_of_dg hq)]
   refine⟨.two hc ?_,[],rfl⟩;obtain⟨u,v,e⟩:=hc
   have h1:Dv q [1]:=⟨addF (mulF u (divF p q).1) v,fun x=>by
    rw [ev_one,ev_addF,ev_mulF,←e x,d1 x,dgz h];grind⟩
   have h2:=(h1.dg (by decide)).2;have h3:dgF [(1:Rat)]=1:=by decide
   have h4:∀x,evR q x=co q 0:=fun x=>ev_dg1 (by omega) x;refine .one (k:=co q 0) (fun z=>?_) h4
   have:=dg_of_zero (p:=q) fun x=>by rw [h4,z]
   omega
  ·obtain⟨k,k0,s1,s2,k1⟩:=small_ev (p:=scaleF (divF p q).2 (-1)) (by omega)
   have dr3:dgF (smallF (scaleF (divF p q).2 (-1)))=dgF (divF p q).2:=by rw [dgSm,dr2]
   have rel:∀x,evR p x=evR (divF p q).1 x*evR q x - 1 / k*evR (smallF (scaleF (divF p q).2 (-1))) x:=fun x=>by
    have f1:=s2 x;rw [e1] at f1;rw [d1 x]
    grind
   have hc2:Cop q (smallF (scaleF (divF p q).2 (-1))):=by
    have g1:Cop q (divF p q).2:=hc.symm.add (c:=scaleF (divF p q).1 (-1)) fun x=>by rw [ev_scaleF,d1 x];grind
    exact g1.scale (c:=1) (d:=-1*k) (by decide) (by grind) (fun x=>by grind) fun x=>by rw [s1,e1];grind
   obtain⟨i1,l,i2⟩:=chn_of n q (smallF (scaleF (divF p q).2 (-1))) hq (by omega) (by omega) hc2;refine⟨?_,chainU n (smallF (scaleF (divF p q).2 (-1))) (smallF (scaleF (divF q (smallF (scaleF (divF p q).2 (-1)))).2 (-1))),?_⟩
   ·rw [i2] at i1 ⊢
    exact .more hc k1 rel i1
   ·rw [chain_two n (ne_of_dg hq) (ne_of_dg (by omega))]
theorem own_chain {p:List Rat} (h0:0<dgF p):(dgF (simpleF p)=1∧∃c,ownF p=[c]∧∃k,k≠0∧∀x,evR c x=k)∨(1<dgF (simpleF p)∧∃p0 q l k μ,ownF p=p0 :: q :: l∧Chn (p0 :: q :: l)∧0<k∧(∀x,evR p0 x=evR (simpleF p) x*k)∧0<μ∧∀x,evR q x=μ*evR (derivF p0) x):=by
 obtain⟨s0,st,-⟩:=simple_dg h0;have hc:=simple_cop h0;unfold ownF chainF;have hsl:dgF (simpleF p)=(simpleF p).length:=by unfold dgF;rw [st]
 generalize simpleF p=s at *;obtain⟨k,k0,e1,e2,k1⟩:=small_ev s0
 rcases Nat.lt_or_ge 1 (dgF s) with h1|h1
 ·have d0:0<dgF (derivF s):=by rw [dg_deriv];omega
  obtain⟨m,m0,f1,f2,m1⟩:=small_ev d0;obtain⟨i1,l,i2⟩:=chn_of (s.length+(derivF s).length+1) (smallF s) (smallF (derivF s)) (by rw [dgSm];exact s0) (by rw [dgSm];exact d0) (by rw [dgSm,dg_deriv];omega) (hc.scale (by grind) (by grind) e1 f1);refine .inr ⟨h1,smallF s,smallF (derivF s),l,k,m*(1 / k),i2,i2 ▸ i1,k0,e1,Rat.mul_pos m0 k1,fun x=>?_⟩
  have hd:evR (derivF (smallF s)) x=evR (derivF s) x*k:=by
   rw [deriv_prod (p:=s) (q:=[k]) (fun x=>by rw [ev_const];exact e1 x),ev_const];have z:evR (derivF [k]) x=0:=dgz (by rw [dg_deriv];have:=dg_len [k];simp at this;omega) x;rw [z];grind
  rw [f1,hd]
  have:=inv_ne (show k≠0 by grind)
  generalize 1 / k=k' at *;have e3:m*k'*(evR (derivF s) x*k)=m*evR (derivF s) x*(k*k'):=by grind
  rw [e3,this];grind
 ·refine .inl ⟨by omega,smallF s,?_,co (smallF s) 0,?_,fun x=>ev_dg1 (by rw [dgSm];omega) x⟩
  ·rw [small_nil (p:=derivF s) (by rw [dg_deriv];omega)]
   exact chain_one _ (ne_of_dg (by rw [dgSm];exact s0))
  ·intro z
   have:=dg_of_zero (p:=smallF s) fun x=>by rw [ev_dg1 (by rw [dgSm];omega) x,z]
   rw [dgSm] at this;omega
end Go.Proofs.YtaaoleakkaloeaaGreatDoor
set_option linter.unusedVariables false
set_option maxRecDepth 100000
set_option maxHeartbeats 64000000
namespace Go.Proofs.YtaaoleakkaloeaaGreatDoor
set_option linter.unusedSimpArgs false
def ci (p:List Int) (i:Nat):Int:=(p[i]?).getD 0
theorem ci_mem {p:List Int} {d:Int} (h:∀i,d ∣ ci p i):∀x ∈ p,d ∣ x:=fun x hx=>by
 obtain⟨i,hi⟩:=List.getElem?_of_mem hx
 have:=h i
 unfold ci at this
 rwa [hi] at this
def pc:List Int→List Int→Nat→Int
 | [],_,_=>0
 | g :: _,H,0=>g*ci H 0
 | g :: G,H,k+1=>g*ci H (k+1)+pc G H k
theorem pc_right (h:Int) (H:List Int):∀(G:List Int) (k:Nat),pc G (h :: H) (k+1)=h*ci G (k+1)+pc G H k
 | [],k=>by show (0:Int)=h*0+0;grind
 | g :: G,0=>by
  show g*ci H 0+pc G (h :: H) 0=h*ci G 0+g*ci H 0
  have e:pc G (h :: H) 0=h*ci G 0:=by
   cases G with
   | nil=>show (0:Int)=h*0;grind
   | cons a G=>show a*h=h*a;grind
  rw [e];grind
 | g :: G,k+1=>by
  show g*ci H (k+1)+pc G (h :: H) (k+1)=h*ci G (k+1)+(g*ci H (k+1)+pc G H k)
  rw [pc_right h H G k];grind
theorem ci_map (c:Int) (p:List Int) (i:Nat):ci (p.map (c*·)) i=c*ci p i:=by
 unfold ci;rw [List.getElem?_map]
 cases p[i]? with
 | none=>show (0:Int)=c*0;grind
 | some x=>rfl
theorem pc_mapl (c:Int) (H:List Int):∀(G:List Int) (k:Nat),pc (G.map (c*·)) H k=c*pc G H k
 | [],k=>by show (0:Int)=c*0;grind
 | g :: G,0=>by show c*g*ci H 0=c*(g*ci H 0);grind
 | g :: G,k+1=>by
  show c*g*ci H (k+1)+pc (G.map (c*·)) H k=c*(g*ci H (k+1)+pc G H k)
  rw [pc_mapl c H G k];grind
theorem pc_mapr (c:Int) (H:List Int):∀(G:List Int) (k:Nat),pc G (H.map (c*·)) k=c*pc G H k
 | [],k=>by show (0:Int)=c*0;grind
 | g :: G,0=>by show g*ci (H.map (c*·)) 0=c*(g*ci H 0);rw [ci_map];grind
 | g :: G,k+1=>by
  show g*ci (H.map (c*·)) (k+1)+pc G (H.map (c*·)) k=c*(g*ci H (k+1)+pc G H k)
  rw [pc_mapr c H G k,ci_map];grind
def Eu (l:Int):Prop:=∀a b:Int,l ∣ a*b→l ∣ a∨l ∣ b
theorem gauss {l:Int} (he:Eu l):∀(n:Nat) (G H:List Int),G.length+H.length≤n→(∀k,l ∣ pc G H k)→(∀i,l ∣ ci G i)∨(∀i,l ∣ ci H i)
 | n,[],H,_,_=>.inl fun i=>Int.dvd_zero l
 | n,_ :: _,[],_,_=>.inr fun i=>Int.dvd_zero l
 | 0,g :: G,h :: H,hn,_=>by simp at hn
 | n+1,g :: G,h :: H,hn,hk=>by
  have h0:l ∣ g*h:=hk 0
  rcases he g h h0 with hg|hh
  ·have h1:∀k,l ∣ pc G (h :: H) k:=fun k=>by
    have h2:l ∣ g*ci (h :: H) (k+1)+pc G (h :: H) k:=hk (k+1);exact(Int.dvd_add_right (Int.dvd_mul_of_dvd_left hg)).1 h2
   rcases gauss he n G (h :: H) (by simp at hn ⊢;omega) h1 with h3|h3
   ·refine .inl fun i=>?_
    cases i with
    | zero=>exact hg
    | succ i=>exact h3 i
   ·exact .inr h3
  ·have h1:∀k,l ∣ pc (g :: G) H k:=fun k=>by
    have h2:l ∣ pc (g :: G) (h :: H) (k+1):=hk (k+1);rw [pc_right] at h2;exact(Int.dvd_add_right (Int.dvd_mul_of_dvd_left hh)).1 h2
   rcases gauss he n (g :: G) H (by simp at hn ⊢;omega) h1 with h3|h3
   ·exact .inl h3
   ·refine .inr fun i=>?_
    cases i with
    | zero=>exact hh
    | succ i=>exact h3 i
theorem prime_dv:∀(n c:Nat),c≤n→1<c→∃l,1<l∧l ∣ c∧∀d,d ∣ l→d=1∨d=l
 | 0,c,hn,h=>by omega
 | n+1,c,hn,h=>by
  by_cases hp:∀d,d ∣ c→d=1∨d=c
  ·exact⟨c,h,Nat.dvd_refl c,hp⟩
  ·obtain⟨d,hd⟩:=Classical.not_forall.1 hp
   obtain⟨d1,d2⟩:=Classical.not_imp.1 hd;have d3:d≠1:=fun e=>d2 (.inl e);have d4:d≠c:=fun e=>d2 (.inr e);have d5:d≠0:=fun e=>by rw [e] at d1;have:=Nat.eq_zero_of_zero_dvd d1;omega
   have d6:=Nat.le_of_dvd (by omega) d1;obtain⟨l,l1,l2,l3⟩:=prime_dv n d (by omega) (by omega);exact⟨l,l1,Nat.dvd_trans l2 d1,l3⟩
theorem prime_eu {l:Nat} (h:∀d,d ∣ l→d=1∨d=l):Eu (l:Int):=fun a b hab=>by
 rw [Int.ofNat_dvd_left,Int.natAbs_mul] at hab;rw [Int.ofNat_dvd_left,Int.ofNat_dvd_left]
 rcases h (Nat.gcd l a.natAbs) (Nat.gcd_dvd_left _ _) with h1|h1
 ·exact .inr (Nat.Coprime.dvd_of_dvd_mul_left h1 hab)
 ·refine .inl ?_
  rw [←h1];exact Nat.gcd_dvd_right _ _
theorem map_div {p:List Int} {d:Int} (h:∀i,d ∣ ci p i):∃q:List Int,p=q.map (d*·):=by
 refine⟨p.map (· / d),?_⟩;rw [List.map_map];have h1:=ci_mem h;clear h
 induction p with
 | nil=>rfl
 | cons a p ih=>
  have h2:=ih fun x hx=>h1 x (List.mem_cons_of_mem _ hx);have h3:d*(a / d)=a:=Int.mul_ediv_cancel' (h1 a (List.mem_cons_self ..));rw [List.map_cons,←h2]
  show a :: p=d*(a / d) :: p
  rw [h3]
theorem content:∀(n c e:Nat) (G H:List Int) (j:Nat),c*e≤n→0<c→0<e→(∀k,((c*e:Nat):Int) ∣ pc G H k)→ci H j=(e:Int)→∀i,(c:Int) ∣ ci G i
 | 0,c,e,G,H,j,hn,hc,he,_,_,i=>by have:=Nat.mul_pos hc he;omega
 | n+1,c,e,G,H,j,hn,hc,he,hk,hj,i=>by
  by_cases h1:c=1
  ·subst h1;exact Int.one_dvd _
  obtain⟨l,l1,⟨c',hc'⟩,l3⟩:=prime_dv c c (Nat.le_refl _) (by omega);have hl:(l:Int)≠0:=by omega
  have hk1:∀k,(l:Int) ∣ pc G H k:=fun k=>Int.dvd_trans (Int.natCast_dvd_natCast.2 ⟨c'*e,by rw [hc',Nat.mul_assoc]⟩) (hk k);have hc0:0<c':=Nat.pos_of_ne_zero fun e=>by rw [e,Nat.mul_zero] at hc';omega
  rcases gauss (prime_eu l3) _ G H (Nat.le_refl _) hk1 with h2|h2
  ·obtain⟨G',rfl⟩:=map_div h2
   have h3:=content n c' e G' H j (by
     have h5:c'*e<c*e:=Nat.mul_lt_mul_of_pos_right (by rw [hc'];exact(Nat.lt_mul_iff_one_lt_left hc0).2 l1) he
     omega) hc0 he (fun k=>by
     have h4:=hk k;rw [pc_mapl,show ((c*e:Nat):Int)=(l:Int)*((c'*e:Nat):Int) by rw [hc',←Int.natCast_mul,Nat.mul_assoc]] at h4;exact Int.dvd_of_mul_dvd_mul_left hl h4) hj i
   rw [ci_map,hc',Int.natCast_mul];exact Int.mul_dvd_mul_left _ h3
  ·have h2j:=h2 j
   obtain⟨H',rfl⟩:=map_div h2;rw [hj] at h2j;obtain⟨e',he'⟩:=Int.natCast_dvd_natCast.1 h2j;have he0:0<e':=Nat.pos_of_ne_zero fun e=>by rw [e,Nat.mul_zero] at he';omega
   refine content n c e' G H' j (by
     have h5:c*e'<c*e:=Nat.mul_lt_mul_of_pos_left (by rw [he'];exact(Nat.lt_mul_iff_one_lt_left he0).2 l1) hc
     omega) hc he0 (fun k=>by
     have h4:=hk k;rw [pc_mapr,show ((c*e:Nat):Int)=(l:Int)*((c*e':Nat):Int) by rw [he',←Int.natCast_mul];congr 1;rw [Nat.mul_left_comm]] at h4
     exact Int.dvd_of_mul_dvd_mul_left hl h4) (by
     rw [ci_map,he',Int.natCast_mul] at hj;exact Int.eq_of_mul_eq_mul_left hl hj) i
def toR (p:List Int):List Rat:=p.map fun z:Int=>(z:Rat)
theorem co_toR (p:List Int) (i:Nat):co (toR p) i=(ci p i:Rat):=by
 unfold co ci toR;rw [List.getElem?_map]
 cases p[i]? <;> rfl
theorem mul_cons (g:Rat) (G H:List Rat) (k:Nat):co (mulF (g :: G) H) k=g*co H k+co (0 :: mulF G H) k:=by
 rw [ev_inj (q:=zipA (H.map (·*g)) (0 :: mulF G H)) (fun x=>by
  rw [ev_mulF,ev_zip,ev_map]
  show (evR G x*x+g)*_=_+(evR (mulF G H) x*x+0)
  rw [ev_mulF];grind),co_zip,co_map]
 grind
theorem co_pc (H:List Int):∀(G:List Int) (k:Nat),(pc G H k:Rat)=co (mulF (toR G) (toR H)) k
 | [],k=>by
  rw [ev_inj (q:=[]) (fun x=>by rw [ev_mulF];show 0*_=(0:Rat);grind)]
  show ((0:Int):Rat)=0
  exact Rat.intCast_zero
 | g :: G,0=>by
  show ((g*ci H 0:Int):Rat)=co (mulF ((g:Rat) :: toR G) (toR H)) 0
  rw [mul_cons,co_toR,Rat.intCast_mul]
  show _=_+(0:Rat)
  grind
 | g :: G,k+1=>by
  show ((g*ci H (k+1)+pc G H k:Int):Rat)=co (mulF ((g:Rat) :: toR G) (toR H)) (k+1)
  rw [mul_cons,co_toR,Rat.intCast_add,Rat.intCast_mul,co_pc H G k]
  rfl
theorem HF.nat {a:Nat} {p:List Rat} (h:HF a p):∃(D:Nat) (n:Nat→Int),0<D∧D<2 ^ a∧∀i,co p i*(D:Rat)=(n i:Rat)∧(n i).natAbs<2 ^ a:=by
 obtain⟨D,n,h0,h1,h2⟩:=h;refine⟨D.natAbs,fun i=>D.sign*n i,by omega,h1,fun i=>⟨?_,?_⟩⟩
 ·have e:((D.natAbs:Nat):Rat)=(D.sign:Rat)*(D:Rat):=by
   rw [←Rat.intCast_mul,Int.mul_comm,Int.mul_sign_self,Rat.intCast_natCast]
  rw [e,Rat.intCast_mul,←(h2 i).1];grind
 ·rw [Int.natAbs_mul,Int.natAbs_sign_of_ne_zero h0,Nat.one_mul];exact(h2 i).2
theorem bq_ex (c:Rat):∃M,Bq M c:=by
 have h1:=Nat.lt_two_pow_self (n:=c.num.natAbs);have h2:=Nat.lt_two_pow_self (n:=c.den);exact⟨c.num.natAbs+c.den,Nat.lt_of_lt_of_le h1 (Nat.pow_le_pow_right (by decide) (by omega)),Nat.lt_of_lt_of_le h2 (Nat.pow_le_pow_right (by decide) (by omega))⟩
theorem hf_ex:∀p:List Rat,∃a,HF a p
 | []=>⟨1,HF.nil (by omega)⟩
 | c :: p=>by
  obtain⟨a,h⟩:=hf_ex p;obtain⟨M,k⟩:=bq_ex c;exact⟨a+M,h.cons k⟩
theorem factor_int {f h p:List Rat} {D:Nat} {n:Nat→Int} (e:∀x,evR p x=evR f x*evR h x) (hh:Mo h) (hh0:0<dgF h) (hD:0<D) (hn:∀i,co p i*(D:Rat)=(n i:Rat)):∃m:Nat→Int,∀i,co f i*(D:Rat)=(m i:Rat):=by
 obtain⟨a,haf⟩:=hf_ex f;obtain⟨b,hbh⟩:=hf_ex h;obtain⟨c,nf,c0,-,c2⟩:=haf.nat;obtain⟨d,nh,d0,-,d2⟩:=hbh.nat
 have hG:∀i,ci ((List.range f.length).map fun i=>(D:Int)*nf i) i=(D:Int)*nf i:=fun i=>by
  unfold ci;rw [List.getElem?_map]
  rcases Nat.lt_or_ge i f.length with h|h
  ·rw [List.getElem?_range h];rfl
  ·rw [List.getElem?_eq_none (by simpa using h)]
   have h1:=(c2 i).1;rw [co_ge h] at h1;have h2:nf i=0:=Rat.intCast_inj.1 (h1.symm.trans (by rw [Rat.intCast_zero];grind));rw [h2];rfl
 have hH:∀i,ci ((List.range h.length).map nh) i=nh i:=fun i=>by
  unfold ci;rw [List.getElem?_map]
  rcases Nat.lt_or_ge i h.length with k|k
  ·rw [List.getElem?_range k];rfl
  ·rw [List.getElem?_eq_none (by simpa using k)]
   have h1:=(d2 i).1;rw [co_ge k] at h1;have h2:nh i=0:=Rat.intCast_inj.1 (h1.symm.trans (by rw [Rat.intCast_zero];grind));rw [h2];rfl
 generalize (List.range f.length).map (fun i=>(D:Int)*nf i)=G at hG;generalize (List.range h.length).map nh=H at hH
 have eG:∀x,evR (toR G) x=evR f x*((c:Rat)*(D:Rat)):=fun x=>by
  rw [←ev_map];refine ev_co (fun i=>?_) x;rw [co_toR,hG,co_map,Rat.intCast_mul,←(c2 i).1,Rat.intCast_natCast];grind
 have eH:∀x,evR (toR H) x=evR h x*(d:Rat):=fun x=>by
  rw [←ev_map];refine ev_co (fun i=>?_) x;rw [co_toR,hH,co_map,←(d2 i).1]
 have hk:∀k,((c*d:Nat):Int) ∣ pc G H k:=fun k=>by
  refine⟨n k,?_⟩
  apply Rat.intCast_inj.1
  rw [co_pc,ev_inj (q:=p.map (·*((c:Rat)*(D:Rat)*(d:Rat)))) (fun x=>by rw [ev_mulF,eG,eH,ev_map,e];grind),co_map,Rat.intCast_mul,←hn k,Rat.intCast_natCast,Rat.natCast_mul]
  grind
 have hj:ci H (dgF h - 1)=(d:Int):=by
  rw [hH]
  apply Rat.intCast_inj.1
  rw [←(d2 _).1]
  have:topF h=1:=hh.2.resolve_left fun e=>by rw [e] at hh0;cases hh0
  rw [top_eq hh.1] at this;rw [this,Rat.intCast_natCast];grind
 have hc:=content _ c d G H (dgF h - 1) (Nat.le_refl _) c0 d0 hk hj;obtain⟨m,hm⟩:∃m:Nat→Int,∀i,ci G i=(c:Int)*m i:=⟨fun i=>(hc i).choose,fun i=>(hc i).choose_spec⟩;refine⟨m,fun i=>?_⟩;have h1:=hm i;rw [hG] at h1;have h2:=congrArg (fun z:Int=>(z:Rat)) h1
 simp only [Rat.intCast_mul,Rat.intCast_natCast] at h2
 rw [←(c2 i).1] at h2;have hc0:(c:Rat)≠0:=fun e=>by have:=Rat.natCast_eq_zero_iff.1 e;omega
 have h3:=Rat.mul_inv_cancel (c:Rat) hc0;generalize (m i:Rat)=z at *;have h4:(c:Rat)*(co f i*(D:Rat))=(c:Rat)*z:=by rw [←h2];grind
 have h5:(c:Rat)⁻¹*((c:Rat)*(co f i*(D:Rat)))=(c:Rat)⁻¹*((c:Rat)*z):=by rw [h4]
 grind
end Go.Proofs.YtaaoleakkaloeaaGreatDoor
set_option linter.unusedVariables false
set_option maxRecDepth 100000
set_option maxHeartbeats 64000000
namespace Go.Proofs.YtaaoleakkaloeaaGreatDoor
set_option linter.unusedSimpArgs false
def evI:List Int→Int→Int
 | [],_=>0
 | a :: t,x=>evI t x*x+a
def synI (s:Int):List Int→List Int
 | []=>[]
 | [_]=>[]
 | _ :: b :: t=>evI (b :: t) s :: synI s (b :: t)
theorem synI_len (s:Int):∀p:List Int,(synI s p).length=p.length - 1
 | []=>rfl
 | [_]=>rfl
 | _ :: b :: t=>by
  show (synI s (b :: t)).length+1=_
  rw [synI_len s (b :: t)];simp
theorem evI_syn (s x:Int):∀p:List Int,evI p x=evI p s+(x - s)*evI (synI s p) x
 | []=>by show (0:Int)=0+(x - s)*0;grind
 | [a]=>by show (0*x+a:Int)=(0*s+a)+(x - s)*0;grind
 | a :: b :: t=>by
  have h:=evI_syn s x (b :: t)
  show evI (b :: t) x*x+a=(evI (b :: t) s*s+a)+(x - s)*(evI (synI s (b :: t)) x*x+evI (b :: t) s)
  generalize evI (b :: t) x=u at *;generalize evI (b :: t) s=v at *;generalize evI (synI s (b :: t)) x=z at *
  grind
theorem ci_syn0 (s a:Int) (t:List Int):ci (a :: t) 0=evI (a :: t) s - s*ci (synI s (a :: t)) 0:=by
 cases t with
 | nil=>show a=0*s+a - s*0;grind
 | cons b t=>show a=evI (b :: t) s*s+a - s*evI (b :: t) s;grind
theorem ci_syn (s:Int):∀(p:List Int) (i:Nat),ci p (i+1)=ci (synI s p) i - s*ci (synI s p) (i+1)
 | [],i=>by show (0:Int)=0 - s*0;grind
 | [a],i=>by show (0:Int)=0 - s*0;grind
 | a :: b :: t,0=>by
  show b=evI (b :: t) s - s*ci (synI s (b :: t)) 0
  have:=ci_syn0 s b t
  exact this
 | a :: b :: t,i+1=>ci_syn s (b :: t) i
theorem sub_abs {a b:Int} {A B:Nat} (ha:a.natAbs≤A) (hb:b.natAbs≤B):(a - b).natAbs≤A+B:=by
 have:=Int.natAbs_sub_le a b
 omega
theorem interp (X:Nat):∀(pts:List Nat) (p:List Int) (V:Nat),p.length≤pts.length→pts.Nodup→(∀x ∈ pts,x≤X)→(∀x ∈ pts,(evI p (x:Int)).natAbs≤V)→∀i,(ci p i).natAbs≤V*(2*X+3) ^ pts.length
 | [],p,V,hl,_,_,_,i=>by
  have:p=[]:=List.length_eq_zero_iff.1 (Nat.le_zero.1 hl)
  subst this;exact Nat.zero_le _
 | s :: pts,p,V,hl,hd,hX,hV,i=>by
  have hd':=List.nodup_cons.1 hd;have hs:=hV s (List.mem_cons_self ..);have hsX:=hX s (List.mem_cons_self ..)
  have ih:=interp X pts (synI (s:Int) p) (2*V) (by rw [synI_len];simp at hl;omega) hd'.2 (fun x hx=>hX x (List.mem_cons_of_mem _ hx)) (fun x hx=>by
   have h1:=hV x (List.mem_cons_of_mem _ hx);have h2:=evI_syn (s:Int) (x:Int) p;have h3:((x:Int) - (s:Int))*evI (synI (s:Int) p) (x:Int)=evI p (x:Int) - evI p (s:Int):=by omega
   have h4:=congrArg Int.natAbs h3;rw [Int.natAbs_mul] at h4;have h5:=sub_abs h1 hs
   have h6:0<((x:Int) - (s:Int)).natAbs:=by
    have:x≠s:=fun e=>hd'.1 (e ▸ hx)
    omega
   have h7:=Nat.le_mul_of_pos_left (evI (synI (s:Int) p) (x:Int)).natAbs h6
   omega)
  generalize hK:(2*X+3) ^ pts.length=K at ih;have hK1:1≤K:=by rw [←hK];exact Nat.pow_pos (by omega)
  have hVK:V≤V*K:=Nat.le_mul_of_pos_right V hK1
  have e:V*(2*X+3) ^ (s :: pts).length=2*(X*(V*K))+3*(V*K):=by
   rw [List.length_cons,Nat.pow_succ,hK];grind
  have hsm:∀z:Int,z.natAbs≤2*V*K→((s:Int)*z).natAbs≤2*(X*(V*K)):=fun z hz=>by
   rw [Int.natAbs_mul,Int.natAbs_natCast];have h1:=Nat.mul_le_mul hsX hz;have h2:X*(2*V*K)=2*(X*(V*K)):=by grind
   omega
  have e2:2*V*K=2*(V*K):=Nat.mul_assoc ..;rw [e]
  cases i with
  | zero=>
   cases p with
   | nil=>exact Nat.zero_le _
   | cons a t=>
    rw [ci_syn0 (s:Int) a t]
    have:=sub_abs hs (hsm _ (ih 0))
    omega
  | succ i=>
   rw [ci_syn (s:Int) p i]
   have:=sub_abs (ih i) (hsm _ (ih (i+1)))
   omega
theorem evI_le (A X x:Nat) (hx:x≤X):∀p:List Int,(∀i,(ci p i).natAbs≤A)→(evI p (x:Int)).natAbs≤A*(X+1) ^ p.length
 | [],_=>Nat.zero_le _
 | a :: t,h=>by
  have ih:=evI_le A X x hx t fun i=>h (i+1);have h0:a.natAbs≤A:=h 0
  show (evI t (x:Int)*(x:Int)+a).natAbs≤A*(X+1) ^ (t.length+1)
  have h1:=Int.natAbs_add_le (evI t (x:Int)*(x:Int)) a;rw [Int.natAbs_mul,Int.natAbs_natCast] at h1;generalize hK:(X+1) ^ t.length=K at ih;have hK1:1≤K:=by rw [←hK];exact Nat.pow_pos (by omega)
  have h2:=Nat.mul_le_mul ih hx;have h3:A≤A*K:=Nat.le_mul_of_pos_right A hK1;have e:A*(X+1) ^ (t.length+1)=A*K*X+A*K:=by rw [Nat.pow_succ,hK];grind
  omega
theorem filt_two {α:Type} (f:α→Bool):∀l:List α,l.length=(l.filter f).length+(l.filter fun a=>!f a).length
 | []=>rfl
 | a :: l=>by
  have ih:=filt_two f l;rw [List.filter_cons,List.filter_cons]
  cases f a
  ·simp only [Bool.not_false,if_true,List.length_cons]
   simp only [Bool.false_eq_true,if_false]
   omega
  ·simp only [if_true,List.length_cons,Bool.not_true,Bool.false_eq_true,if_false]
   omega
theorem evI_toR (x:Int):∀p:List Int,evR (toR p) (x:Rat)=(evI p x:Rat)
 | []=>Rat.intCast_zero.symm
 | a :: t=>by
  show evR (toR t) (x:Rat)*(x:Rat)+(a:Rat)=((evI t x*x+a:Int):Rat)
  rw [evI_toR x t,Rat.intCast_add,Rat.intCast_mul]
theorem co_rg (n:Nat→Int) (f:List Rat) (D:Nat) (h:∀i,co f i*(D:Rat)=(n i:Rat)):∀i,ci ((List.range f.length).map n) i=n i:=fun i=>by
 unfold ci;rw [List.getElem?_map]
 rcases Nat.lt_or_ge i f.length with k|k
 ·rw [List.getElem?_range k];rfl
 ·rw [List.getElem?_eq_none (by simpa using k)]
  have h1:=h i;rw [co_ge k] at h1;have h2:n i=0:=Rat.intCast_inj.1 (h1.symm.trans (by rw [Rat.intCast_zero];grind));rw [h2];rfl
theorem ev_rg {n:Nat→Int} {f:List Rat} {D:Nat} (h:∀i,co f i*(D:Rat)=(n i:Rat)) (x:Nat):(evI ((List.range f.length).map n) (x:Int):Rat)=evR f (x:Rat)*(D:Rat):=by
 rw [←evI_toR,Rat.intCast_natCast,←ev_map];refine ev_co (fun i=>?_) _;rw [co_toR,co_rg n f D h,co_map,h]
theorem factor_hf {a L:Nat} {f h p:List Rat} (hp:HF a p) (e:∀x,evR p x=evR f x*evR h x) (hf:Mo f) (hh:Mo h) (hp0:0<dgF p) (hL:dgF p≤L) (h63:L≤63):HF (2*a+23*L) f:=by
 obtain⟨hf0,hh0⟩:=dg_parts e hp0;have hdg:=dg_mul e hf0 hh0;obtain⟨D,n,D0,D1,D2⟩:=hp.nat;obtain⟨m,hm⟩:=factor_int e hh hh0 D0 fun i=>(D2 i).1;obtain⟨k,hk⟩:=factor_int (f:=h) (h:=f) (p:=p) (fun x=>by rw [e];grind) hf hf0 D0 fun i=>(D2 i).1;have tn:∀i,co (trimF p) i*(D:Rat)=(n i:Rat):=fun i=>by rw [co_trim];exact(D2 i).1
 have eP:∀x:Nat,(evI ((List.range (trimF p).length).map n) (x:Int):Rat)=evR p (x:Rat)*(D:Rat):=fun x=>by rw [ev_rg tn,ev_trim]
 have eF:=fun x:Nat=>ev_rg hm x;have eK:=fun x:Nat=>ev_rg hk x;have cP:=co_rg n (trimF p) D tn;have cF:=co_rg m f D hm;have lP:((List.range (trimF p).length).map n).length≤L:=by rw [List.length_map,List.length_range];exact hL
 have lF:((List.range f.length).map m).length≤L:=by
  have:=hf.len
  rw [List.length_map,List.length_range];omega
 generalize (List.range (trimF p).length).map n=P at eP cP lP;generalize (List.range f.length).map m=F at eF cF lF;generalize (List.range h.length).map k=K at eK
 have hfk:∀x:Nat,evI F (x:Int)*evI K (x:Int)=(D:Int)*evI P (x:Int):=fun x=>by
  apply Rat.intCast_inj.1
  rw [Rat.intCast_mul,Rat.intCast_mul,eF,eK,eP,e,Rat.intCast_natCast];grind
 have hroot:((List.range (2*L)).filter fun x=>decide (evI P ((x:Nat):Int)=0)).length<L:=by
  rcases Nat.lt_or_ge ((List.range (2*L)).filter fun x=>decide (evI P ((x:Nat):Int)=0)).length L with h1|h1
  ·exact h1
  ·exfalso
   have h2:=interp (2*L) _ P 0 (Nat.le_trans lP h1) (List.nodup_range.filter _) (fun x hx=>by
    have:=List.mem_range.1 (List.mem_filter.1 hx).1
    omega) (fun x hx=>by
    have:=of_decide_eq_true (List.mem_filter.1 hx).2
    rw [this];exact Nat.le_refl _) (dgF p - 1)
   rw [cP,Nat.zero_mul] at h2;have h3:=(D2 (dgF p - 1)).1;have h4:n (dgF p - 1)=0:=by omega
   rw [h4] at h3
   rcases Rat.mul_eq_zero.1 h3 with h5|h5
   ·exact dg_top hp0 h5
   ·have:=Rat.natCast_eq_zero_iff.1 h5
    omega
 have htwo:=filt_two (fun x:Nat=>decide (evI P (x:Int)=0)) (List.range (2*L));rw [List.length_range] at htwo;have hPv:∀x:Nat,x≤2*L→(evI P (x:Int)).natAbs≤2 ^ a*(2*L+1) ^ P.length:=fun x hx=>evI_le (2 ^ a) (2*L) x hx P fun i=>by rw [cP];exact Nat.le_of_lt (D2 i).2
 have hb:=interp (2*L) ((List.range (2*L)).filter fun x=>!decide (evI P ((x:Nat):Int)=0)) F (2 ^ a*(2 ^ a*(2*L+1) ^ L)) (by omega) (List.nodup_range.filter _) (fun x hx=>by
  have:=List.mem_range.1 (List.mem_filter.1 hx).1
  omega) (fun x hx=>by
  have h1:=List.mem_range.1 (List.mem_filter.1 hx).1;have h2:¬ evI P (x:Int)=0:=by simpa using (List.mem_filter.1 hx).2
  have h3:=congrArg Int.natAbs (hfk x);rw [Int.natAbs_mul,Int.natAbs_mul,Int.natAbs_natCast] at h3
  have h4:0<(evI K (x:Int)).natAbs:=by
   refine Nat.pos_of_ne_zero fun e0=>?_;rw [e0,Nat.mul_zero] at h3
   rcases Nat.mul_eq_zero.1 h3.symm with h5|h5
   ·omega
   ·omega
  have h5:=Nat.le_mul_of_pos_right (evI F (x:Int)).natAbs h4;have h6:=hPv x (by omega);have h7:(2*L+1) ^ P.length≤(2*L+1) ^ L:=Nat.pow_le_pow_right (by omega) lP;have h8:=Nat.mul_le_mul (Nat.le_of_lt D1) (Nat.le_trans h6 (Nat.mul_le_mul_left (2 ^ a) h7))
  omega)
 have hlen:((List.range (2*L)).filter fun x=>!decide (evI P ((x:Nat):Int)=0)).length≤2*L:=by omega
 have hpow:2 ^ a*(2 ^ a*(2*L+1) ^ L)*(2*(2*L)+3) ^ ((List.range (2*L)).filter fun x=>!decide (evI P ((x:Nat):Int)=0)).length<2 ^ (2*a+23*L):=by
  have L0:0<L:=by omega
  have h1:(2*(2*L)+3) ^ ((List.range (2*L)).filter fun x=>!decide (evI P ((x:Nat):Int)=0)).length≤(2 ^ 8) ^ (2*L):=
   Nat.le_trans (Nat.pow_le_pow_left (by omega) _) (Nat.pow_le_pow_right (by decide) hlen)
  have h2:(2*L+1) ^ L<(2 ^ 7) ^ L:=Nat.pow_lt_pow_left (by omega) (by omega)
  have e1:2 ^ (2*a+23*L)=2 ^ a*(2 ^ a*(2 ^ 7) ^ L)*(2 ^ 8) ^ (2*L):=by
   rw [←Nat.pow_mul,←Nat.pow_mul,←Nat.pow_add,←Nat.pow_add,←Nat.pow_add]
   congr 1;omega
  rw [e1];have h3:2 ^ a*(2 ^ a*(2*L+1) ^ L)<2 ^ a*(2 ^ a*(2 ^ 7) ^ L):=Nat.mul_lt_mul_of_pos_left (Nat.mul_lt_mul_of_pos_left h2 (Nat.pow_pos (by decide))) (Nat.pow_pos (by decide));exact Nat.lt_of_le_of_lt (Nat.mul_le_mul_left _ h1) (Nat.mul_lt_mul_of_pos_right h3 (Nat.pow_pos (Nat.pow_pos (by decide))))
 refine⟨(D:Int),m,by omega,?_,fun i=>⟨?_,?_⟩⟩
 ·rw [Int.natAbs_natCast]
  exact Nat.lt_of_lt_of_le D1 (Nat.pow_le_pow_right (by decide) (by omega))
 ·rw [←hm i,Rat.intCast_natCast]
 ·have:=hb i
  rw [cF] at this;exact Nat.lt_of_le_of_lt this hpow
theorem HF.sub {a b:Nat} {p q:List Rat} (hp:HF a p) (hq:HF b q):HF (a+b+1) (subF p q):=by
 obtain⟨D,n,D0,D1,D2⟩:=hp;obtain⟨E,m,E0,E1,E2⟩:=hq;have hw:2 ^ (a+b+1)=2 ^ a*2 ^ b*2:=by rw [Nat.pow_succ,Nat.pow_add]
 refine⟨D*E,fun i=>n i*E - m i*D,Int.mul_ne_zero D0 E0,?_,fun i=>⟨?_,?_⟩⟩
 ·rw [Int.natAbs_mul]
  have:=Nat.mul_lt_mul'' D1 E1
  omega
 ·rw [ev_inj (q:=zipA p (q.map (·*(-1)))) (fun x=>by rw [ev_subF,ev_zip,ev_map];grind),co_zip,co_map,Rat.intCast_sub,Rat.intCast_mul,Rat.intCast_mul,Rat.intCast_mul,←(D2 i).1,←(E2 i).1]
  grind
 ·show (n i*E - m i*D).natAbs<_
  have h1:=Int.natAbs_sub_le (n i*E) (m i*D);rw [Int.natAbs_mul,Int.natAbs_mul] at h1;have h2:=Nat.mul_lt_mul'' (D2 i).2 E1;have h3:=Nat.mul_lt_mul'' (E2 i).2 D1;rw [Nat.mul_comm (2 ^ b)] at h3;omega
theorem HF.deriv {a v:Nat} {p:List Rat} (hp:HF a p) (hv:dgF p≤2 ^ v):HF (a+v) (derivF p):=by
 obtain⟨D,n,D0,D1,D2⟩:=hp;have hw:2 ^ (a+v)=2 ^ a*2 ^ v:=Nat.pow_add ..;refine⟨D,fun i=>if i+1<dgF p then n (i+1)*((i+1:Nat):Int) else 0,D0,Nat.lt_of_lt_of_le D1 (Nat.pow_le_pow_right (by decide) (by omega)),fun i=>⟨?_,?_⟩⟩
 ·rw [co_deriv]
  show co p (i+1)*((i+1:Nat):Rat)*_=((if i+1<dgF p then n (i+1)*((i+1:Nat):Int) else 0:Int):Rat)
  split
  ·rw [Rat.intCast_mul,←(D2 _).1,Rat.intCast_natCast];grind
  ·rw [dg_ge (by omega),Rat.intCast_zero];grind
 ·show (if i+1<dgF p then n (i+1)*((i+1:Nat):Int) else 0).natAbs<_
  split
  ·rw [Int.natAbs_mul,Int.natAbs_natCast,hw]
   exact Nat.mul_lt_mul'' (D2 _).2 (by omega)
  ·exact Nat.pow_pos (by decide)
theorem HF.scale {a M:Nat} {p:List Rat} {c:Rat} (hp:HF a p) (hc:Bq M c):HF (a+M) (scaleF p c):=by
 obtain⟨D,n,D0,D1,D2⟩:=hp;have hw:2 ^ (a+M)=2 ^ a*2 ^ M:=Nat.pow_add ..;have hden:0<c.den:=Nat.pos_of_ne_zero c.den_nz;refine⟨D*c.den,fun i=>n i*c.num,Int.mul_ne_zero D0 (by omega),?_,fun i=>⟨?_,?_⟩⟩
 ·rw [Int.natAbs_mul,Int.natAbs_natCast,hw]
  exact Nat.mul_lt_mul'' D1 hc.2
 ·rw [co_scaleF,Rat.intCast_mul,Rat.intCast_mul,←(D2 i).1,←den_num c,Rat.intCast_natCast];grind
 ·rw [Int.natAbs_mul,hw]
  exact Nat.mul_lt_mul'' (D2 i).2 hc.1
theorem HF.mul {a b v:Nat} {p q:List Rat} (hp:HF a p) (hq:HF b q) (hv:p.length≤2 ^ v):HF (a+b+v+1) (mulF p q):=by
 obtain⟨D,n,D0,D1,D2⟩:=hp;obtain⟨E,m,E0,E1,E2⟩:=hq
 have hw:2 ^ (a+b+v+1)=2 ^ v*(2 ^ a*2 ^ b)*2:=by
  rw [Nat.pow_succ,Nat.mul_comm (2 ^ v),←Nat.pow_add,←Nat.pow_add]
 have hv1:1≤2 ^ v:=Nat.pow_pos (by decide);refine⟨D*E,fun i=>ipc n m p.length i,Int.mul_ne_zero D0 E0,?_,fun i=>⟨?_,?_⟩⟩
 ·rw [Int.natAbs_mul]
  have h1:=Nat.mul_lt_mul'' D1 E1;have h2:1*(2 ^ a*2 ^ b)≤2 ^ v*(2 ^ a*2 ^ b):=Nat.mul_le_mul_right _ hv1;omega
 ·have e:=co_prod (z:=n) (n:=m) (P:=q.map (·*(E:Rat))) (fun i=>by rw [co_map];exact(E2 i).1) p.length i
  rw [←e,ev_inj (p:=mulF ((List.range p.length).map fun j=>(n j:Rat)) (q.map (·*(E:Rat)))) (q:=(mulF p q).map (·*((D:Rat)*(E:Rat)))) (fun x=>?_),co_map,Rat.intCast_mul];rw [ev_mulF,ev_map,ev_map,ev_mulF]
  have e2:evR ((List.range p.length).map fun j=>(n j:Rat)) x=evR p x*(D:Rat):=by
   rw [←ev_map];refine ev_co (fun i=>?_) x;rw [co_list,co_map,(D2 i).1]
   split
   ·rfl
   ·rw [←(D2 i).1,co_ge (by omega)];grind
  rw [e2];grind
 ·show (ipc n m p.length i).natAbs<_
  have h1:=ipc_bound (f:=n) (g:=m) (K:=2 ^ a) (A:=2 ^ b) (fun j=>Nat.le_of_lt (D2 j).2) (fun j=>Nat.le_of_lt (E2 j).2) i p.length
  have h2:p.length*2 ^ a*2 ^ b≤2 ^ v*(2 ^ a*2 ^ b):=by
   rw [Nat.mul_assoc];exact Nat.mul_le_mul_right _ hv
  have h3:0<2 ^ v*(2 ^ a*2 ^ b):=Nat.mul_pos hv1 (Nat.mul_pos (Nat.pow_pos (by decide)) (Nat.pow_pos (by decide)));omega
end Go.Proofs.YtaaoleakkaloeaaGreatDoor
