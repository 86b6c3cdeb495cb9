/- Cauchy's index on a short piece of a side is what the point turns. -/
import Derived.Test.YtkoaakefgacokaaGreatDoorGZs
import Derived.Test.YtkoaakefgacokaaGreatDoorGZc
set_option linter.unusedVariables false
set_option linter.unusedSimpArgs false
set_option maxRecDepth 100000
set_option maxHeartbeats 64000000
namespace Go.Proofs.YtkoaakefgacokaaGreatDoor
def gap (a b:Int):Int:=max (b - a) (-(b - a))
theorem steps_cons (a b:Int) (l:List Int):stepsU (a :: b :: l)=gap a b+stepsU (b :: l):=rfl
theorem gap_pm {s:Rat} (hs:Pm s) {v:Int} (h1:-1≤v) (h2:v≤1):gap v (si s)=1 - si s*v∧gap (si s) v=1 - si s*v:=by
 unfold gap
 rcases(si_not hs).2 with e|e <;> rw [e] <;> omega
theorem Gt.steps {a b s:Rat} {c:List (List Rat)} (h:Gt a b s c):∃N:Int,∀x,a≤x→x≤b→∀last,stepsU (last :: c.map (atF x))=gap last (si s)+N:=by
 induction h with
 | one hs hf=>
  refine⟨0,fun x h1 h2 last=>?_⟩;rw [List.map_cons,List.map_nil,at_si hs (hf x h1 h2),steps_cons,stepsU_short (by simp)]
 | @next s t p q l hs hf hg ih=>
  obtain⟨N,hN⟩:=ih;refine⟨gap (si s) (si t)+N,fun x h1 h2 last=>?_⟩;rw [List.map_cons,at_si hs (hf x h1 h2),List.map_cons,steps_cons];have h3:=hN x h1 h2 (si s);rw [List.map_cons] at h3;rw [h3]
 | @skip s p q r l hs hf hg ih=>
  obtain⟨N,hN⟩:=ih;refine⟨2+N,fun x h1 h2 last=>?_⟩;rw [List.map_cons,at_si hs (hf x h1 h2),List.map_cons,steps_cons,List.map_cons,steps_cons];have h3:=hN x h1 h2 (atF x q);rw [List.map_cons] at h3;rw [h3];obtain⟨r1,r2⟩:=at_range x q;rw [(gap_pm hs r1 r2).2,(gap_pm hs.neg r1 r2).1,(si_not hs).1]
  rcases(si_not hs).2 with e|e <;> rw [e] <;> omega
theorem Gt.stepsC {a b s:Rat} {c:List (List Rat)} (h:Gt a b s c):∃N:Int,∀x,a≤x→x≤b→stepsF c x=N:=by
 cases h with
 | one hs hf=>exact⟨0,fun x _ _=>stepsU_short (by simp)⟩
 | @next _ t p q l hs hf hg=>
  obtain⟨N,hN⟩:=hg.steps;refine⟨gap (si s) (si t)+N,fun x h1 h2=>?_⟩;have h3:=hN x h1 h2 (si s)
  show stepsU (atF x p :: (q :: l).map (atF x))=_
  rw [at_si hs (hf x h1 h2),h3]
 | @skip _ p q r l hs hf hg=>
  obtain⟨N,hN⟩:=hg.steps;refine⟨2+N,fun x h1 h2=>?_⟩;have h3:=hN x h1 h2 (atF x q)
  show stepsU (atF x p :: atF x q :: (r :: l).map (atF x))=_
  rw [at_si hs (hf x h1 h2),steps_cons,h3];obtain⟨r1,r2⟩:=at_range x q;rw [(gap_pm hs r1 r2).2,(gap_pm hs.neg r1 r2).1,(si_not hs).1]
  rcases(si_not hs).2 with e|e <;> rw [e] <;> omega
theorem Gt.stepsH {a b s:Rat} {p:List Rat} {c:List (List Rat)} (h:Gt a b s c):∃N:Int,∀x,a≤x→x≤b→stepsF (p :: c) x=gap (atF x p) (si s)+N:=by
 obtain⟨N,hN⟩:=h.steps;exact⟨N,fun x h1 h2=>hN x h1 h2 (atF x p)⟩
theorem piece_steps {B:Rat} (hB:0≤B) {p q:List Rat} {l:List (List Rat)} (hc:Chn (p :: q :: l)):∃d,0<d∧∀a b,Ab B a→Ab B b→a≤b→b - a≤d→(∃s,Pm s∧Fx s p a b∧stepsF (p :: q :: l) a=stepsF (p :: q :: l) b)∨(∃s,Pm s∧Fx s q a b∧stepsF (p :: q :: l) a - stepsF (p :: q :: l) b=si s*(atF b p - atF a p)):=by
 obtain⟨κ,κ0,hη⟩:=hc.loc hB _ _ rfl;obtain⟨d1,e,d10,e0,-,h1⟩:=hη 1 (by decide);refine⟨d1,d10,fun a b ha hb hab hba=>?_⟩;obtain⟨t1,t2⟩:=h1 a b ha hb hab hba;obtain⟨σ,hσ,hσp⟩:=pm_of (evR p a)
 rcases lt_or_le' (σ*evR p a) e with h|h
 ·obtain⟨q',m,s,hl,hs,hsq,hg⟩:=t2 (by rcases hσ with rfl|rfl <;> grind) (by rcases hσ with rfl|rfl <;> grind)
  injection hl with hl1 hl2
  subst hl1 hl2;obtain⟨N,hN⟩:=hg.stepsH (p:=p);refine .inr ⟨s,hs,?_,?_⟩
  ·cases hg with
   | one _ hf=>exact hf
   | next _ hf _=>exact hf
   | skip _ hf _=>exact hf
  ·rw [hN a Rat.le_refl hab,hN b hab Rat.le_refl]
   obtain⟨r1,r2⟩:=at_range a p;obtain⟨r3,r4⟩:=at_range b p;rw [(gap_pm hs r1 r2).1,(gap_pm hs r3 r4).1]
   rcases(si_not hs).2 with e|e <;> rw [e] <;> omega
 ·obtain⟨N,hN⟩:=(t1 σ hσ h).stepsC
  refine .inl ⟨σ,hσ,?_,by rw [hN a Rat.le_refl hab,hN b hab Rat.le_refl]⟩
  have:=t1 σ hσ h
  cases this with
  | next _ hf _=>exact hf
  | skip _ hf _=>exact hf
theorem gap_si {σ:Rat} (hσ:Pm σ) (u v:Int):gap (si σ*u) (si σ*v)=gap u v:=by
 unfold gap
 rcases(si_not hσ).2 with e|e <;> rw [e] <;> omega
theorem Tm.steps {D:List Rat} {c m:List (List Rat)} (h:Tm D c m) {x:Rat} (hD:evR D x≠0):stepsF c x=stepsF m x:=by
 obtain⟨σ,hσ,h1⟩:=pm_of (evR D x);have h2:0<σ*evR D x:=by rcases hσ with rfl|rfl <;> grind
 have hmap:c.map (atF x)=(m.map (atF x)).map (si σ*·):=by
  induction h with
  | nil=>rfl
  | cons e h ih=>rw [List.map_cons,List.map_cons,List.map_cons,ih,at_times hσ h2 (e x)]
 unfold stepsF;rw [hmap];generalize m.map (atF x)=l
 induction l with
 | nil=>rfl
 | cons u l ih=>
  cases l with
  | nil=>rfl
  | cons v l=>
   rw [List.map_cons] at ih;rw [List.map_cons,List.map_cons,steps_cons,steps_cons,gap_si hσ,ih]
def Far2 (f h:List Rat) (x y:Rat):Prop:=∃ ε,0<ε∧∀t,x≤t→t≤y→ε≤evR f t*evR f t+evR h t*evR h t
theorem Far2.div {f h D f' h':List Rat} {x y:Rat} (hf:Far2 f h x y) (hxy:x≤y) (e1:∀t,evR f t=evR D t*evR f' t) (e2:∀t,evR h t=evR D t*evR h' t):Low D x y:=by
 obtain⟨ε,he,hf⟩:=hf;have hL:Low (addF (mulF f f) (mulF h h)) x y:=⟨1,ε,.inl rfl,he,fun t h1 h2=>by rw [ev_addF,ev_mulF,ev_mulF];have:=hf t h1 h2;grind⟩;exact hL.fac (b:=mulF D (addF (mulF f' f') (mulF h' h'))) hxy fun t=>by rw [ev_addF,ev_mulF,ev_mulF,ev_mulF,ev_addF,ev_mulF,ev_mulF,e1,e2];grind
theorem Far2.close {f h:List Rat} {x y:Rat} (hf:Far2 f h x y):∃d,0<d∧∀a b,x≤a→a≤b→b≤y→b - a≤d→0<dotq (evR f a) (evR h a) (evR f b) (evR h b):=by
 obtain⟨ε,he,hf⟩:=hf;obtain⟨B,hB,hin⟩:=ab_two x y;obtain⟨K1,k1,h1⟩:=ev_ab hB f;obtain⟨K2,k2,h2⟩:=ev_ab hB h;obtain⟨S1,s1,g1⟩:=syn_ab hB f;obtain⟨S2,s2,g2⟩:=syn_ab hB h;obtain⟨d,d0,dK,-⟩:=small_ex (e:=ε) (K:=K1*S1+K2*S2) (n:=1) he (by have:=Rat.mul_nonneg k1 s1;have:=Rat.mul_nonneg k2 s2;grind) (by decide);refine⟨d,d0,fun a b ha hab hb hba=>?_⟩;have ia:=hin a ha (Rat.le_trans hab hb);have ib:=hin b (Rat.le_trans ha hab) hb;have e1:=ev_syn a b f;have e2:=ev_syn a b h;have q1:=(h1 a ia).mul ((show Ab d (b - a) by constructor <;> grind).mul (g1 a b ia ib));have q2:=(h2 a ia).mul ((show Ab d (b - a) by constructor <;> grind).mul (g2 a b ia ib));have q3:=hf a ha (Rat.le_trans hab hb);have q4:=q1.1;have q5:=q2.1;unfold dotq;rw [e1,e2]
 grind
theorem side_piece {f h:List Rat} {x y:Rat} (hxy:x≤y) (hf:Far2 f h x y):∃d,0<d∧∀a b,x≤a→a≤b→b≤y→b - a≤d→0<dotq (evR f a) (evR h a) (evR f b) (evR h b)∧(if trimF h=[] then 0 else stepsF (chainF h f) a - stepsF (chainF h f) b)=Lf (Qd (evR f a) (evR h a)+dQ (evR f a) (evR h a) (evR f b) (evR h b)) - Lf (Qd (evR f a) (evR h a)):=by
 obtain⟨d1,d10,hcl⟩:=hf.close;obtain⟨B,hB,hin⟩:=ab_two x y;have sgat:∀(p:List Rat) (t:Rat),sgq (evR p t)=atF t p:=fun _ _=>rfl
 by_cases h0:trimF h=[]
 ·have hz:∀t,evR h t=0:=dgz (by unfold dgF;rw [h0];rfl)
  have hL:Low (mulF f f) x y:=by
   obtain⟨ε,he,hf⟩:=hf;exact⟨1,ε,.inl rfl,he,fun t h1 h2=>by rw [ev_mulF];have:=hf t h1 h2;rw [hz] at this;grind⟩
  obtain⟨σ,hσ,hfx⟩:=(hL.fac hxy (fun t=>ev_mulF f f t)).fx;refine⟨d1,d10,fun a b ha hab hb hba=>?_⟩;have hd:=hcl a b ha hab hb hba;refine⟨hd,?_⟩;have s1:=at_si hσ (hfx a ha (Rat.le_trans hab hb));have s2:=at_si hσ (hfx b (Rat.le_trans ha hab) hb);have hne:=(si_not hσ).2;rw [if_pos h0,dQ_cross hd (by rw [sgat,sgat,s1,s2]) (by rw [sgat,s1];omega),hz,hz];omega
 ·by_cases f0:trimF f=[]
  ·have fz:∀t,evR f t=0:=dgz (by unfold dgF;rw [f0];rfl)
   have hL:Low (mulF h h) x y:=by
    obtain⟨ε,he,hf⟩:=hf;exact⟨1,ε,.inl rfl,he,fun t h1 h2=>by rw [ev_mulF];have:=hf t h1 h2;rw [fz] at this;grind⟩
   obtain⟨σ,hσ,hfx⟩:=(hL.fac hxy (fun t=>ev_mulF h h t)).fx;refine⟨d1,d10,fun a b ha hab hb hba=>?_⟩;have hd:=hcl a b ha hab hb hba;refine⟨hd,?_⟩;have s1:=at_si hσ (hfx a ha (Rat.le_trans hab hb));have s2:=at_si hσ (hfx b (Rat.le_trans ha hab) hb);have hne:=(si_not hσ).2;rw [if_neg h0,dQ_same hd (by rw [sgat,sgat,s1,s2]) (by rw [sgat,s1];omega)]
   have hc:chainF h f=[smallF h]:=by
    unfold chainF;rw [small_nil (p:=f) (by unfold dgF;rw [f0];rfl)];exact chain_one _ (ne_of_dg (by rw [dgSm];exact List.length_pos_iff.2 h0))
   rw [hc]
   show stepsU _ - stepsU _=_
   rw [stepsU_short (by simp),stepsU_short (by simp)];omega
  ·have hh0:0<dgF h:=List.length_pos_iff.2 h0
   have hf0:0<dgF f:=List.length_pos_iff.2 f0;obtain⟨k1,k10,a1,a2,k11⟩:=small_ev hh0;obtain⟨k2,k20,b1,b2,k21⟩:=small_ev hf0;obtain⟨⟨Ds,-,-⟩,-⟩:=gcd_gc (smallF h) (smallF f);obtain⟨D0,-⟩:=Ds.dg (by rw [dgSm];exact hh0);obtain⟨P,Q,hPQ,eP,eQ⟩:=gcd_out D0;generalize commonF (smallF h) (smallF f)=D at *;obtain⟨l,hch,htm⟩:=chn_gen (h.length+f.length+1) (smallF h) (smallF f) D P Q (by rw [dgSm];exact hh0) (by rw [dgSm];exact hf0) (by rw [dgSm];have:=dg_len f;omega) D0 eP eQ hPQ;have htm:Tm D (chainF h f) (P :: Q :: l):=htm;have eh:∀t,evR h t=evR D t*evR (scaleF P (1 / k1)) t:=fun t=>by rw [a2,eP,ev_scaleF];grind
   have ef:∀t,evR f t=evR D t*evR (scaleF Q (1 / k2)) t:=fun t=>by rw [b2,eQ,ev_scaleF];grind
   obtain⟨ρ,hρ,hDx⟩:=(hf.div hxy ef eh).fx;have hD:∀t,x≤t→t≤y→evR D t≠0:=fun t g1 g2 e=>by have:=hDx t g1 g2;rw [e] at this;grind
   have ath:∀t,x≤t→t≤y→atF t h=si ρ*atF t P:=fun t g1 g2=>by
    have e:atF t h=atF t (scaleF h k1):=by
     have:=at_times (D:=[k1]) (a:=scaleF h k1) (b:=h) (σ:=1) (x:=t) (.inl rfl) (by rw [ev_const];grind) (by rw [ev_scaleF,ev_const];grind)
     rw [this,si_one];omega
    rw [e];exact at_times hρ (hDx t g1 g2) (by rw [ev_scaleF,←a1,eP])
   have atf:∀t,x≤t→t≤y→atF t f=si ρ*atF t Q:=fun t g1 g2=>by
    have e:atF t f=atF t (scaleF f k2):=by
     have:=at_times (D:=[k2]) (a:=scaleF f k2) (b:=f) (σ:=1) (x:=t) (.inl rfl) (by rw [ev_const];grind) (by rw [ev_scaleF,ev_const];grind)
     rw [this,si_one];omega
    rw [e];exact at_times hρ (hDx t g1 g2) (by rw [ev_scaleF,←b1,eQ])
   obtain⟨d2,d20,hps⟩:=piece_steps hB hch;obtain⟨d,d0,dd1,dd2⟩:=min_ex d10 d20;refine⟨d,d0,fun a b ha hab hb hba=>?_⟩;have ha':=Rat.le_trans hab hb;have hb':=Rat.le_trans ha hab;have hd:=hcl a b ha hab hb (Rat.le_trans hba dd1);refine⟨hd,?_⟩;rw [if_neg h0,htm.steps (hD a ha ha'),htm.steps (hD b hb' hb)];have hρ2:=(si_not hρ).2
   rcases hps a b (hin a ha ha') (hin b hb' hb) hab (Rat.le_trans hba dd2) with ⟨s,hs,hfx,e⟩|⟨s,hs,hfx,e⟩
   ·have s1:=at_si hs (hfx a Rat.le_refl hab)
    have s2:=at_si hs (hfx b hab Rat.le_refl);have hs2:=(si_not hs).2;rw [dQ_same hd (by rw [sgat,sgat,ath a ha ha',ath b hb' hb,s1,s2]) (by rw [sgat,ath a ha ha',s1];rcases hρ2 with g|g <;> rcases hs2 with k|k <;> rw [g,k] <;> decide),e];omega
   ·have s1:=at_si hs (hfx a Rat.le_refl hab)
    have s2:=at_si hs (hfx b hab Rat.le_refl);have hs2:=(si_not hs).2;rw [dQ_cross hd (by rw [sgat,sgat,atf a ha ha',atf b hb' hb,s1,s2]) (by rw [sgat,atf a ha ha',s1];rcases hρ2 with g|g <;> rcases hs2 with k|k <;> rw [g,k] <;> decide),e];rw [sgat,sgat,sgat,atf a ha ha',s1,ath a ha ha',ath b hb' hb]
    rcases hρ2 with g|g <;> rcases hs2 with k|k <;> rw [g,k] <;> omega
def Qp (f h:List Rat) (t:Rat):Int:=Qd (evR f t) (evR h t)
def idx (f h:List Rat) (u v:Rat):Int:=if trimF h=[] then 0 else stepsF (chainF h f) u - stepsF (chainF h f) v
theorem idx_add (f h:List Rat) (u m v:Rat):idx f h u m+idx f h m v=idx f h u v:=by
 unfold idx
 split <;> omega
theorem idx_rev (f h:List Rat) (u v:Rat):idx f h v u = -idx f h u v:=by
 unfold idx
 split <;> omega
def T1 (f h:List Rat) (u v:Rat) (w:Int):Prop:=(Qp f h v - Qp f h u - w) % 8=0∧idx f h u v=Lf (Qp f h u+w) - Lf (Qp f h u)
theorem T1.refl (f h:List Rat) (u:Rat):T1 f h u u 0:=by
 refine⟨by omega,?_⟩
 have:=idx_add f h u u u
 rw [Int.add_zero];omega
theorem Lf_mod {a b w:Int} (h:(b - a) % 8=0):Lf (b+w) - Lf b=Lf (a+w) - Lf a:=by
 obtain⟨k,hk⟩:∃k,b=a+8*k:=⟨(b - a) / 8,by omega⟩;have h1:=Lf_add (a+w) k;have h2:=Lf_add a k;rw [hk,show a+8*k+w=a+w+8*k by omega,h1,h2];omega
theorem T1.trans {f h:List Rat} {u m v:Rat} {w w':Int} (a:T1 f h u m w) (b:T1 f h m v w'):T1 f h u v (w+w'):=by
 obtain⟨a1,a2⟩:=a;obtain⟨b1,b2⟩:=b;refine⟨by omega,?_⟩;rw [←idx_add f h u m v,a2,b2,Lf_mod (a:=Qp f h u+w) (b:=Qp f h m) (w:=w') (by omega),show Qp f h u+(w+w')=Qp f h u+w+w' by omega];omega
theorem T1.rev {f h:List Rat} {u v:Rat} {w:Int} (a:T1 f h u v w):T1 f h v u (-w):=by
 obtain⟨a1,a2⟩:=a;refine⟨by omega,?_⟩;rw [idx_rev,a2,Lf_mod (a:=Qp f h u+w) (b:=Qp f h v) (w:=-w) (by omega),show Qp f h u+w+-w=Qp f h u by omega];omega
theorem T1.piece {f h:List Rat} {a b:Rat} (e:idx f h a b=Lf (Qd (evR f a) (evR h a)+dQ (evR f a) (evR h a) (evR f b) (evR h b)) - Lf (Qd (evR f a) (evR h a))):T1 f h a b (dQ (evR f a) (evR h a) (evR f b) (evR h b)):=
 ⟨rep8_mod _,e⟩
def Prd (f1 h1 f2 h2 f3 h3:List Rat):Prop:=∀t,evR f3 t=evR f1 t*evR f2 t - evR h1 t*evR h2 t∧evR h3 t=evR f1 t*evR h2 t+evR h1 t*evR f2 t
def dl (f1 h1 f2 h2:List Rat) (t:Rat):Int:=dlt (evR f1 t) (evR h1 t) (evR f2 t) (evR h2 t)
theorem Far2.low {f h:List Rat} {x y:Rat} (hf:Far2 f h x y):Low (addF (mulF f f) (mulF h h)) x y:=by
 obtain⟨ε,he,hf⟩:=hf;exact⟨1,ε,.inl rfl,he,fun t h1 h2=>by rw [ev_addF,ev_mulF,ev_mulF];have:=hf t h1 h2;grind⟩
theorem Far2.of_low {f h:List Rat} {x y:Rat} (hxy:x≤y) (hL:Low (addF (mulF f f) (mulF h h)) x y):Far2 f h x y:=by
 obtain⟨σ,ε,hσ,he,hf⟩:=hL;refine⟨ε,he,fun t h1 h2=>?_⟩;have h3:=hf t h1 h2;rw [ev_addF,ev_mulF,ev_mulF] at h3;have h4:=sq_nn (evR f t);have h5:=sq_nn (evR h t)
 rcases hσ with rfl|rfl <;> grind
theorem Prd.norm {f1 h1 f2 h2 f3 h3:List Rat} (e:Prd f1 h1 f2 h2 f3 h3) (t:Rat):evR (addF (mulF f3 f3) (mulF h3 h3)) t=evR (addF (mulF f1 f1) (mulF h1 h1)) t*evR (addF (mulF f2 f2) (mulF h2 h2)) t:=by
 obtain⟨e1,e2⟩:=e t
 simp only [ev_addF,ev_mulF]
 rw [e1,e2];grind
theorem Prd.far {f1 h1 f2 h2 f3 h3:List Rat} (e:Prd f1 h1 f2 h2 f3 h3) {x y:Rat} (hxy:x≤y):Far2 f3 h3 x y↔Far2 f1 h1 x y∧Far2 f2 h2 x y:=by
 constructor
 ·intro h
  refine⟨.of_low hxy (h.low.fac hxy e.norm),.of_low hxy (h.low.fac (b:=addF (mulF f1 f1) (mulF h1 h1)) hxy fun t=>by rw [e.norm];grind)⟩
 ·rintro⟨h,k⟩
  exact .of_low hxy (h.low.mul k.low e.norm)
def R3 (f1 h1 f2 h2 f3 h3:List Rat) (u v:Rat):Prop:=∃w1 w2 w3,T1 f1 h1 u v w1∧T1 f2 h2 u v w2∧T1 f3 h3 u v w3∧w3 - w1 - w2=dl f1 h1 f2 h2 v - dl f1 h1 f2 h2 u
theorem R3.rev {f1 h1 f2 h2 f3 h3:List Rat} {u v:Rat} (a:R3 f1 h1 f2 h2 f3 h3 u v):R3 f1 h1 f2 h2 f3 h3 v u:=by
 obtain⟨w1,w2,w3,a1,a2,a3,a4⟩:=a;exact⟨-w1,-w2,-w3,a1.rev,a2.rev,a3.rev,by omega⟩
theorem side_prod {f1 h1 f2 h2 f3 h3:List Rat} {x y:Rat} (hxy:x≤y) (e:Prd f1 h1 f2 h2 f3 h3) (F1:Far2 f1 h1 x y) (F2:Far2 f2 h2 x y):R3 f1 h1 f2 h2 f3 h3 x y:=by
 have F3:=(e.far hxy).2 ⟨F1,F2⟩;obtain⟨d1,d10,p1⟩:=side_piece hxy F1;obtain⟨d2,d20,p2⟩:=side_piece hxy F2;obtain⟨d3,d30,p3⟩:=side_piece hxy F3;obtain⟨m,m0,m1,m2⟩:=min_ex d10 d20;obtain⟨d,d0,dm,dd3⟩:=min_ex m0 d30;obtain⟨n,hn⟩:=arch d0 (y - x);refine by_pieces d0 (R3 f1 h1 f2 h2 f3 h3) (fun a=>⟨0,0,0,.refl _ _ _,.refl _ _ _,.refl _ _ _,by omega⟩) (fun a b c _ _ r1 r2=>?_) (lo:=x) (hi:=y) (fun a b g1 g2 g3 g4=>?_) n x y Rat.le_refl hxy Rat.le_refl hn
 ·obtain⟨w1,w2,w3,a1,a2,a3,a4⟩:=r1
  obtain⟨v1,v2,v3,b1,b2,b3,b4⟩:=r2;exact⟨w1+v1,w2+v2,w3+v3,a1.trans b1,a2.trans b2,a3.trans b3,by omega⟩
 ·obtain⟨c1,i1⟩:=p1 a b g1 g2 g3 (Rat.le_trans g4 (Rat.le_trans dm m1))
  obtain⟨c2,i2⟩:=p2 a b g1 g2 g3 (Rat.le_trans g4 (Rat.le_trans dm m2));obtain⟨c3,i3⟩:=p3 a b g1 g2 g3 (Rat.le_trans g4 dd3);refine⟨_,_,_,.piece i1,.piece i2,.piece i3,?_⟩;obtain⟨ea,eb⟩:=e a;obtain⟨fa,fb⟩:=e b;rw [ea,eb,fa,fb] at c3 ⊢;exact dQ_prod c1 c2 c3
theorem min_le'' (x y:Rat):aq x y≤ar x y∧((aq x y=x∧ar x y=y)∨(aq x y=y∧ar x y=x)):=by
 unfold aq ar
 split <;> split <;> grind
theorem side_prod' {f1 h1 f2 h2 f3 h3:List Rat} {x y:Rat} (e:Prd f1 h1 f2 h2 f3 h3) (F1:Far2 f1 h1 (aq x y) (ar x y)) (F2:Far2 f2 h2 (aq x y) (ar x y)):R3 f1 h1 f2 h2 f3 h3 x y:=by
 have h:=side_prod (min_le'' x y).1 e F1 F2
 rcases(min_le'' x y).2 with ⟨a,b⟩|⟨a,b⟩ <;> rw [a,b] at h
 ·exact h
 ·exact h.rev
theorem along_tr (X Y p:List Rat):trimF (alongU X Y p).1=(alongU X Y p).1∧trimF (alongU X Y p).2=(alongU X Y p).2:=by
 cases p with
 | nil=>exact⟨rfl,rfl⟩
 | cons c p=>exact⟨trim_trim _,trim_trim _⟩
theorem turnS_idx (p:List Rat) (s:Side):turnS p s=idx (alongU s.1 s.2.1 p).1 (alongU s.1 s.2.1 p).2 s.2.2.1 s.2.2.2:=by
 unfold turnS idx;rw [(along_tr s.1 s.2.1 p).2]
theorem ev_line (t:Rat):evR [0,1] t=t:=by show (0*t+1)*t+0=t;grind
theorem side_at (p X Y:List Rat) (t:Rat):Qp (alongU X Y p).1 (alongU X Y p).2 t=Qd (cvR p (evR X t) (evR Y t)).1 (cvR p (evR X t) (evR Y t)).2:=by
 unfold Qp;rw [(along_ev X Y t p).1,(along_ev X Y t p).2]
theorem along_prd (X Y p q:List Rat):Prd (alongU X Y p).1 (alongU X Y p).2 (alongU X Y q).1 (alongU X Y q).2 (alongU X Y (mulF p q)).1 (alongU X Y (mulF p q)).2:=fun t=>by
 obtain⟨a1,a2⟩:=along_ev X Y t p;obtain⟨b1,b2⟩:=along_ev X Y t q;obtain⟨c1,c2⟩:=along_ev X Y t (mulF p q);obtain⟨m1,m2⟩:=cv_mul p q (evR X t) (evR Y t);rw [a1,a2,b1,b2,c1,c2];exact⟨m1,m2⟩
theorem loop4 {q1 q2 q3 q4 i1 i2 i3 i4 w1 w2 w3 w4:Int} (a1:(q2 - q1 - w1) % 8=0) (b1:i1=Lf (q1+w1) - Lf q1) (a2:(q3 - q2 - w2) % 8=0) (b2:i2=Lf (q2+w2) - Lf q2) (a3:(q4 - q3 - w3) % 8=0) (b3:i3=Lf (q3+w3) - Lf q3) (a4:(q1 - q4 - w4) % 8=0) (b4:i4=Lf (q4+w4) - Lf q4):∃k,w1+w2+w3+w4=8*k∧i1+i2+i3+i4=4*k:=by
 obtain⟨k,hk⟩:∃k,w1+w2+w3+w4=8*k:=⟨(w1+w2+w3+w4) / 8,by omega⟩;refine⟨k,hk,?_⟩;have e2:=Lf_mod (a:=q1+w1) (b:=q2) (w:=w2) (by omega);have e3:=Lf_mod (a:=q1+w1+w2) (b:=q3) (w:=w3) (by omega);have e4:=Lf_mod (a:=q1+w1+w2+w3) (b:=q4) (w:=w4) (by omega);have e5:=Lf_add q1 k;rw [show q1+w1+w2+w3+w4=q1+8*k by omega] at e4;omega
def totS (p:List Rat) (l:List Side):Int:=(l.map (turnS p)).foldr (·+·) 0
def SFar (p:List Rat) (s:Side):Prop:=Far2 (alongU s.1 s.2.1 p).1 (alongU s.1 s.2.1 p).2 (aq s.2.2.1 s.2.2.2) (ar s.2.2.1 s.2.2.2)
theorem SFar.mul {p q:List Rat} {s:Side}:SFar (mulF p q) s↔SFar p s∧SFar q s:=(along_prd s.1 s.2.1 p q).far (min_le'' _ _).1
theorem tot4 (p:List Rat) (lo hi dn up:Rat):totS p (sidesF lo hi dn up)=turnS p ([0,1],[dn],lo,hi)+turnS p ([hi],[0,1],dn,up)+turnS p ([0,1],[up],hi,lo)+turnS p ([lo],[0,1],up,dn):=by
 show turnS _ _+(turnS _ _+(turnS _ _+(turnS _ _+0)))=_
 omega
theorem rect_prod {p q:List Rat} {lo hi dn up:Rat} (hp:∀s ∈ sidesF lo hi dn up,SFar p s) (hq:∀s ∈ sidesF lo hi dn up,SFar q s):∃k l,totS p (sidesF lo hi dn up)=4*k∧totS q (sidesF lo hi dn up)=4*l∧totS (mulF p q) (sidesF lo hi dn up)=4*(k+l):=by
 have R:∀s ∈ sidesF lo hi dn up,R3 (alongU s.1 s.2.1 p).1 (alongU s.1 s.2.1 p).2 (alongU s.1 s.2.1 q).1 (alongU s.1 s.2.1 q).2 (alongU s.1 s.2.1 (mulF p q)).1 (alongU s.1 s.2.1 (mulF p q)).2 s.2.2.1 s.2.2.2:=fun s hs=>
  side_prod' (along_prd s.1 s.2.1 p q) (hp s hs) (hq s hs)
 obtain⟨w1,v1,z1,a1,b1,c1,d1⟩:=R ([0,1],[dn],lo,hi) (by simp [sidesF]);obtain⟨w2,v2,z2,a2,b2,c2,d2⟩:=R ([hi],[0,1],dn,up) (by simp [sidesF]);obtain⟨w3,v3,z3,a3,b3,c3,d3⟩:=R ([0,1],[up],hi,lo) (by simp [sidesF]);obtain⟨w4,v4,z4,a4,b4,c4,d4⟩:=R ([lo],[0,1],up,dn) (by simp [sidesF])
 have tot:∀(r:List Rat) (x1 x2 x3 x4:Int),T1 (alongU [0,1] [dn] r).1 (alongU [0,1] [dn] r).2 lo hi x1→T1 (alongU [hi] [0,1] r).1 (alongU [hi] [0,1] r).2 dn up x2→T1 (alongU [0,1] [up] r).1 (alongU [0,1] [up] r).2 hi lo x3→T1 (alongU [lo] [0,1] r).1 (alongU [lo] [0,1] r).2 up dn x4→∃k,x1+x2+x3+x4=8*k∧totS r (sidesF lo hi dn up)=4*k:=fun r x1 x2 x3 x4 t1 t2 t3 t4=>by
  obtain⟨m1,n1⟩:=t1;obtain⟨m2,n2⟩:=t2;obtain⟨m3,n3⟩:=t3;obtain⟨m4,n4⟩:=t4;rw [side_at,side_at,ev_line,ev_line,ev_const,ev_const] at m1;rw [side_at,side_at,ev_line,ev_line,ev_const,ev_const] at m2;rw [side_at,side_at,ev_line,ev_line,ev_const,ev_const] at m3;rw [side_at,side_at,ev_line,ev_line,ev_const,ev_const] at m4;rw [side_at,ev_line,ev_const] at n1 n2 n3 n4;rw [tot4,turnS_idx,turnS_idx,turnS_idx,turnS_idx];exact loop4 m1 n1 m2 n2 m3 n3 m4 n4
 obtain⟨k,k1,k2⟩:=tot p w1 w2 w3 w4 a1 a2 a3 a4;obtain⟨l,l1,l2⟩:=tot q v1 v2 v3 v4 b1 b2 b3 b4;obtain⟨m,m1,m2⟩:=tot (mulF p q) z1 z2 z3 z4 c1 c2 c3 c4;refine⟨k,l,k2,l2,?_⟩;rw [m2]
 have cor:∀(X Y X' Y':List Rat) (t t':Rat),evR X t=evR X' t'→evR Y t=evR Y' t'→dl (alongU X Y p).1 (alongU X Y p).2 (alongU X Y q).1 (alongU X Y q).2 t=dl (alongU X' Y' p).1 (alongU X' Y' p).2 (alongU X' Y' q).1 (alongU X' Y' q).2 t':=fun X Y X' Y' t t' e1 e2=>by
  unfold dl;rw [(along_ev X Y t p).1,(along_ev X Y t p).2,(along_ev X Y t q).1,(along_ev X Y t q).2,(along_ev X' Y' t' p).1,(along_ev X' Y' t' p).2,(along_ev X' Y' t' q).1,(along_ev X' Y' t' q).2,e1,e2]
 have g1:=cor [0,1] [dn] [hi] [0,1] hi dn (by rw [ev_line,ev_const]) (by rw [ev_line,ev_const]);have g2:=cor [hi] [0,1] [0,1] [up] up hi (by rw [ev_line,ev_const]) (by rw [ev_line,ev_const]);have g3:=cor [0,1] [up] [lo] [0,1] lo up (by rw [ev_line,ev_const]) (by rw [ev_line,ev_const]);have g4:=cor [lo] [0,1] [0,1] [dn] dn lo (by rw [ev_line,ev_const]) (by rw [ev_line,ev_const])
 dsimp only at d1 d2 d3 d4
 omega
end Go.Proofs.YtkoaakefgacokaaGreatDoor
