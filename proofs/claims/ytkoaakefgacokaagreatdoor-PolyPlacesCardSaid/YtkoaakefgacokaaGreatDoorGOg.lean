/- Routh of a product. -/
import Derived.Test.YtkoaakefgacokaaGreatDoorGOd
import Derived.Test.YtkoaakefgacokaaGreatDoorGYo
set_option linter.unusedVariables false
set_option linter.unusedSimpArgs false
set_option maxRecDepth 100000
set_option maxHeartbeats 64000000
namespace Go.Proofs.YtkoaakefgacokaaGreatDoor
def evenB (P:List Rat):Bool:=decide (P.length % 2=1)
theorem routh_form {P:List Rat} (h:Gd P):∀re im g R I:List Rat,(alongU [] [0,1] P).1=re→(alongU [] [0,1] P).2=im→commonF re im=g→(divF re g).1=R→(divF im g).1=I→∃T:Int,(routhF P).2=Tt g∧2*(routhF P).1+(routhF P).2+T=(P.length:Int) - 1∧Parts2 re im g R I∧∃B0:Rat,1≤B0∧∀B,B0≤B→if evenB P then Dm I R B∧Dm I R (-B)∧idx I R (-B) B=2*-T else Dm R I B∧Dm R I (-B)∧idx R I (-B) B=2*T:=by
 intro re im g R I hre him hg hR hI;obtain⟨d1,d2⟩:=parts_dg h;rw [hre,him] at d1 d2;have hp0:=h.1;have hpl:=h.len;have hpos:0<dgF re∨0<dgF im:=by omega
 have hne:dgF re≠dgF im:=by omega
 obtain⟨r1,r2,r3,r4,r5,r6,r7⟩:=routh_turn hpos hne R I (by rw [hg];exact hR) (by rw [hg];exact hI);have P2:=parts2 hpos;rw [hg,hR,hI] at P2;rw [hg] at r3 r4 r5 r6 r7;obtain⟨lR,lI⟩:=P2.lenR;have dR:=quo_dg P2.g0 P2.eR;have dI:=quo_dg P2.g0 P2.eI;have hx:timesF g=Tt g:=Tt_of P2.g0;obtain⟨x1,x2,x3⟩:=times_fact (g.length+1) g P2.g0 (by have:=dg_len g;omega);have hx':timesF g=timesU (g.length+1) g:=rfl;rw [←hx'] at x1 x2 x3;have hgl:(trimF g).length=dgF g:=rfl;have hmm:max ((dgF R:Nat):Int) ((dgF I:Nat):Int)=((max (dgF R) (dgF I):Nat):Int):=by omega
 have hmax:max (dgF re) (dgF im)=P.length:=by omega
 have hrf:routhF P=(routhG re im g (timesF g),timesF g):=by unfold routhF;rw [h.2,hre,him,hg]
 refine⟨routhT re im g,by rw [hrf];exact hx,?_,P2,?_⟩
 ·rw [hrf]
  show 2*routhG re im g (timesF g)+timesF g+routhT re im g=_
  unfold routhG;rw [hR,hI,lR,lI,hgl,hmm];have hg0:=P2.g0;obtain⟨b1,b10,b11,b12⟩:=half (a:=(dgF g:Int) - 1 - timesF g) (by omega) (by omega);obtain⟨b2,b20,b21,b22⟩:=half (a:=((max (dgF R) (dgF I):Nat):Int) - 1 - routhT re im g) (by omega) (by omega);rw [b12,b22];omega
 ·unfold routhC at r7
  unfold routhT routhC;rw [hR,hI,lR,lI] at r7 ⊢
  rcases Nat.mod_two_eq_zero_or_one P.length with e|e
  ·have hlt:¬ dgF I<dgF R:=by omega
   simp only [if_neg hlt] at r7 ⊢
   obtain⟨B1,hB1,t1⟩:=turn_far (dn_all r7);obtain⟨B2,hB2,t2⟩:=dominate (f:=R) (h:=I) ⟨by omega,P2.tI⟩ (by omega);refine⟨B1+B2,by grind,fun B hB=>?_⟩;have he:evenB P=false:=decide_eq_false (by omega);rw [he,if_neg Bool.false_ne_true];obtain⟨k1,k2⟩:=t2 B (by grind);refine⟨k1,k2,?_⟩;rw [idx_between P2.cop.symm (by omega) (dm_ne k2) (dm_ne k1),t1 B (by grind)];omega
  ·have hlt:dgF I<dgF R:=by omega
   simp only [if_pos hlt] at r7 ⊢
   obtain⟨B1,hB1,t1⟩:=turn_far (dn_all r7);obtain⟨B2,hB2,t2⟩:=dominate (f:=I) (h:=R) ⟨by omega,P2.tR⟩ (by omega);refine⟨B1+B2,by grind,fun B hB=>?_⟩;have he:evenB P=true:=decide_eq_true e;rw [he,if_pos rfl];obtain⟨k1,k2⟩:=t2 B (by grind);refine⟨k1,k2,?_⟩;rw [idx_between P2.cop (by omega) (dm_ne k2) (dm_ne k1),t1 B (by grind)];omega
theorem turned {R I:List Rat} {B w T:Int} {b:Rat} (e:Bool) (t:T2 R I (-b) b w) (k:if e then Dm I R b∧Dm I R (-b)∧idx I R (-b) b=2*-T else Dm R I b∧Dm R I (-b)∧idx R I (-b) b=2*T):w=4*T+sgm e R I b - sgm e R I (-b):=by
 cases e with
 | true=>
  obtain⟨k1,k2,k3⟩:=(show Dm I R b∧Dm I R (-b)∧idx I R (-b) b=2*-T from k)
  have:=turn_ends t.2 k3 (dm_ne k2) (dm_ne k1)
  show w=4*T+sgq (evR R b)*sgq (evR I b) - sgq (evR R (-b))*sgq (evR I (-b))
  rw [Int.mul_comm (sgq (evR R b)),Int.mul_comm (sgq (evR R (-b)))];omega
 | false=>
  obtain⟨k1,k2,k3⟩:=(show Dm R I b∧Dm R I (-b)∧idx R I (-b) b=2*T from k);exact turn_ends t.1 k3 (dm_ne k2) (dm_ne k1)
theorem sgm_fac {f3 h3 f4 h4 g:List Rat} {t:Rat} (e:Bool) (e1:evR f3 t=evR f4 t*evR g t) (e2:evR h3 t=evR h4 t*evR g t) (hg:evR g t≠0):sgm e f3 h3 t=sgm e f4 h4 t:=by
 have h:sgq (evR f3 t)*sgq (evR h3 t)=sgq (evR f4 t)*sgq (evR h4 t):=by
  rw [e1,e2,sgq_mul,sgq_mul]
  rcases sgq_vals (evR g t) with ⟨a,k⟩|⟨a,k⟩|⟨a,k⟩
  ·exact absurd k hg
  ·rw [a,Int.mul_one,Int.mul_one]
  ·rw [a]
   have:=Int.neg_mul_neg (sgq (evR f4 t)) (sgq (evR h4 t))
   rw [show sgq (evR f4 t)*-1 = -sgq (evR f4 t) by omega,show sgq (evR h4 t)*-1 = -sgq (evR h4 t) by omega];exact this
 unfold sgm;rw [h]
theorem routh_mul {P Q:List Rat} (hP:Gd P) (hQ:Gd Q) (hM:Gd (mulF P Q)):(routhF (mulF P Q)).1=(routhF P).1+(routhF Q).1∧(routhF (mulF P Q)).2=(routhF P).2+(routhF Q).2:=by
 obtain⟨T1',x1,s1,p1,B1,b1,k1⟩:=routh_form hP _ _ _ _ _ rfl rfl rfl rfl rfl;obtain⟨T2',x2,s2,p2,B2,b2,k2⟩:=routh_form hQ _ _ _ _ _ rfl rfl rfl rfl rfl;obtain⟨T3',x3,s3,p3,B3,b3,k3⟩:=routh_form hM _ _ _ _ _ rfl rfl rfl rfl rfl;have hprd:=along_prd [] [0,1] P Q
 have hlen:(mulF P Q).length+1=P.length+Q.length:=by
  have h1:=dg_mul (r:=mulF P Q) (fun x=>ev_mulF P Q x) hP.1 hQ.1;rw [hP.len,hQ.len,hM.len] at h1
  have:=hP.1
  have:=hP.len
  have:=hQ.1
  have:=hQ.len
  omega
 generalize (alongU [] [0,1] P).1=r1 at *;generalize (alongU [] [0,1] P).2=i1 at *;generalize (alongU [] [0,1] Q).1=r2 at *;generalize (alongU [] [0,1] Q).2=i2 at *;generalize (alongU [] [0,1] (mulF P Q)).1=r3 at *;generalize (alongU [] [0,1] (mulF P Q)).2=i3 at *;obtain⟨g1,hg1⟩:∃g,commonF r1 i1=g:=⟨_,rfl⟩;obtain⟨g2,hg2⟩:∃g,commonF r2 i2=g:=⟨_,rfl⟩;obtain⟨g3,hg3⟩:∃g,commonF r3 i3=g:=⟨_,rfl⟩;rw [hg1] at x1 p1 k1;rw [hg2] at x2 p2 k2;rw [hg3] at x3 p3 k3;generalize (divF r1 g1).1=R1 at *;generalize (divF i1 g1).1=I1 at *;generalize (divF r2 g2).1=R2 at *;generalize (divF i2 g2).1=I2 at *;generalize (divF r3 g3).1=R3 at *;generalize (divF i3 g3).1=I3 at *;obtain⟨f,hf⟩:∃l,subF (mulF R1 R2) (mulF I1 I2)=l:=⟨_,rfl⟩;obtain⟨k,hk⟩:∃l,addF (mulF R1 I2) (mulF I1 R2)=l:=⟨_,rfl⟩;have ef:∀x,evR f x=evR R1 x*evR R2 x - evR I1 x*evR I2 x:=fun x=>by rw [←hf,ev_subF,ev_mulF,ev_mulF]
 have ek:∀x,evR k x=evR R1 x*evR I2 x+evR I1 x*evR R2 x:=fun x=>by rw [←hk,ev_addF,ev_mulF,ev_mulF]
 have hpf:Prd R1 I1 R2 I2 f k:=fun t=>⟨ef t,ek t⟩;have er:∀x,evR r3 x=evR g1 x*evR g2 x*evR f x:=fun x=>by rw [(hprd x).1,p1.eR,p2.eR,p1.eI,p2.eI,ef];grind
 have ei:∀x,evR i3 x=evR g1 x*evR g2 x*evR k x:=fun x=>by rw [(hprd x).2,p1.eR,p2.eR,p1.eI,p2.eI,ek];grind
 obtain⟨⟨q1,q2,s,t,es⟩,qm⟩:=gcd_gc f k
 have c0:0<dgF (commonF f k):=by
  rcases Nat.eq_zero_or_pos (dgF (commonF f k)) with z|z
  ·exfalso
   obtain⟨u,hu⟩:=q1;obtain⟨v,hv⟩:=q2
   have z3:∀x,evR g3 x=0:=by
    have hr3:∀x,evR r3 x=0:=fun x=>by rw [er,hu,dgz z];grind
    have hi3:∀x,evR i3 x=0:=fun x=>by rw [ei,hv,dgz z];grind
    obtain⟨⟨-,-,a,b,eab⟩,-⟩:=gcd_gc r3 i3;intro x;rw [←hg3,eab,hr3,hi3];grind
   have:=dg_of_zero z3
   have:=p3.g0
   omega
  ·exact z
 have hgg:g3=mulF (mulF g1 g2) (commonF f k):=by
  rw [←hg3];obtain⟨u,hu⟩:=q1;obtain⟨v,hv⟩:=q2;refine gcd_is ⟨⟨u,fun x=>by rw [er,hu,ev_mulF,ev_mulF];grind⟩,⟨v,fun x=>by rw [ei,hv,ev_mulF,ev_mulF];grind⟩,s,t,fun x=>by rw [ev_mulF,ev_mulF,es,er,ei];grind⟩ ?_;exact(p1.mg.mul p2.mg p1.g0 p2.g0).mul qm (by have:=dg_mul (r:=mulF g1 g2) (fun x=>ev_mulF g1 g2 x) p1.g0 p2.g0;have:=p1.g0;have:=p2.g0;omega) c0
 have hG0:0<dgF (mulF g1 g2):=by have:=dg_mul (r:=mulF g1 g2) (fun x=>ev_mulF g1 g2 x) p1.g0 p2.g0;have:=p1.g0;have:=p2.g0;omega
 have efg:∀x,evR f x=evR R3 x*evR (commonF f k) x:=by
  have:=ev_cancel (p:=mulF g1 g2) (q:=f) (r:=mulF R3 (commonF f k)) hG0 (fun x=>by
   have h1:=er x;rw [p3.eR,hgg,ev_mulF,ev_mulF] at h1;rw [ev_mulF,ev_mulF];grind)
  intro x;rw [this,ev_mulF]
 have ekg:∀x,evR k x=evR I3 x*evR (commonF f k) x:=by
  have:=ev_cancel (p:=mulF g1 g2) (q:=k) (r:=mulF I3 (commonF f k)) hG0 (fun x=>by
   have h1:=ei x;rw [p3.eI,hgg,ev_mulF,ev_mulF] at h1;rw [ev_mulF,ev_mulF];grind)
  intro x;rw [this,ev_mulF]
 have hlow:∀x y,x≤y→Low (commonF f k) x y:=fun x y hxy=>
  ((hpf.far hxy).2 ⟨cop_far p1.cop hxy,cop_far p2.cop hxy⟩).div (f':=R3) (h':=I3) hxy (fun t=>by rw [efg];grind) (fun t=>by rw [ekg];grind)
 have hax:Tt g3=Tt g1+Tt g2:=by
  have hG:=p1.mg.mul p2.mg p1.g0 p2.g0;rw [hgg,Tt_mul _ _ _ hG qm hG0 c0 (Nat.le_refl _),Tt_mul _ _ _ p1.mg p2.mg p1.g0 p2.g0 (Nat.le_refl _),Tt_low _ _ c0 (Nat.le_refl _) hlow];omega
 have hB0:-(B1+B2+B3)≤B1+B2+B3:=by grind
 have j1:=k1 (B1+B2+B3) (by grind);have j2:=k2 (B1+B2+B3) (by grind);have j3:=k3 (B1+B2+B3) (by grind);obtain⟨w1,w2,w3,t1,t2,t3,hw⟩:=line_prod hB0 hpf (fun x=>⟨efg x,ekg x⟩) (hlow _ _ hB0) (cop_far p1.cop hB0) (cop_far p2.cop hB0) (cop_far p3.cop hB0);have v1:=turned (B:=0) (evenB P) t1 j1;have v2:=turned (B:=0) (evenB Q) t2 j2;have v3:=turned (B:=0) (evenB (mulF P Q)) t3 j3
 have hev:evenB (mulF P Q)=(evenB P == evenB Q):=by
  unfold evenB
  rcases Nat.mod_two_eq_zero_or_one P.length with a|a <;> rcases Nat.mod_two_eq_zero_or_one Q.length with b|b
  ·rw [decide_eq_false (show ¬ P.length % 2=1 by omega),decide_eq_false (show ¬ Q.length % 2=1 by omega),decide_eq_true (show (mulF P Q).length % 2=1 by omega)];rfl
  ·rw [decide_eq_false (show ¬ P.length % 2=1 by omega),decide_eq_true b,decide_eq_false (show ¬(mulF P Q).length % 2=1 by omega)];rfl
  ·rw [decide_eq_true a,decide_eq_false (show ¬ Q.length % 2=1 by omega),decide_eq_false (show ¬(mulF P Q).length % 2=1 by omega)];rfl
  ·rw [decide_eq_true a,decide_eq_true b,decide_eq_true (show (mulF P Q).length % 2=1 by omega)];rfl
 have dom:∀(e:Bool) (R I:List Rat) (B:Rat) (T:Int),(if e then Dm I R B∧Dm I R (-B)∧idx I R (-B) B=2*-T else Dm R I B∧Dm R I (-B)∧idx R I (-B) B=2*T)→(if e then Dm I R B else Dm R I B)∧(if e then Dm I R (-B) else Dm R I (-B)):=fun e R I B T hh=>by
  cases e with
  | true=>exact⟨(show Dm I R B∧_ from hh).1,(show Dm I R B∧Dm I R (-B)∧_ from hh).2.1⟩
  | false=>exact⟨(show Dm R I B∧_ from hh).1,(show Dm R I B∧Dm R I (-B)∧_ from hh).2.1⟩
 obtain⟨a1,a2⟩:=dom _ _ _ _ _ j1;obtain⟨c1,c2⟩:=dom _ _ _ _ _ j2;have z1:=dl_ends hpf (evenB P) (evenB Q) a1 c1;have z2:=dl_ends hpf (evenB P) (evenB Q) a2 c2;obtain⟨n1,n2⟩:=low_at (hlow _ _ hB0) hB0;rw [sgm_fac (evenB P == evenB Q) (efg _) (ekg _) n2,←hev] at z1;rw [sgm_fac (evenB P == evenB Q) (efg _) (ekg _) n1,←hev] at z2;rw [z1,z2] at hw;have hTT:T3'=T1'+T2':=by omega
 rw [x1] at s1 ⊢;rw [x2] at s2 ⊢;rw [x3] at s3 ⊢
 constructor <;> omega
theorem routhF_trim (p:List Rat):routhF (trimF p)=routhF p:=by unfold routhF;rw [trim_trim]
theorem mul_trim (p q:List Rat):mulF (trimF p) (trimF q)=mulF p q:=by
 have h:trimF (mulF (trimF p) (trimF q))=trimF (mulF p q):=trim_ev fun x=>by rw [ev_mulF,ev_mulF,ev_trim,ev_trim]
 have h1:trimF (mulF (trimF p) (trimF q))=mulF (trimF p) (trimF q):=trim_trim _;have h2:trimF (mulF p q)=mulF p q:=trim_trim _;rw [h1,h2] at h;exact h
theorem gd_trim {p:List Rat} (h:trimF p≠[]):Gd (trimF p):=⟨by rw [dg_trim];exact List.length_pos_iff.2 h,trim_trim p⟩
theorem gd_mul {p q:List Rat} (hp:trimF p≠[]) (hq:trimF q≠[]):Gd (mulF p q):=by
 have h1:=dg_mul (r:=mulF p q) (fun x=>ev_mulF p q x) (List.length_pos_iff.2 hp:0<dgF p) (List.length_pos_iff.2 hq:0<dgF q);have h2:0<dgF p:=List.length_pos_iff.2 hp;have h3:0<dgF q:=List.length_pos_iff.2 hq;exact⟨by omega,trim_trim _⟩
theorem mul_none {p q:List Rat} (h:trimF p=[]∨trimF q=[]):mulF p q=[]:=by
 have h2:trimF (mulF p q)=mulF p q:=trim_trim _;rw [←h2];refine trim_zero fun i=>?_;refine ev_inj (q:=[]) (fun x=>?_) i;rw [ev_mulF,ev_nil]
 rcases h with h|h
 ·rw [dgz (p:=p) (by unfold dgF;rw [h];rfl)];grind
 ·rw [dgz (p:=q) (by unfold dgF;rw [h];rfl)];grind
theorem ask_two {p:List Rat} (hl:p.length≤41):(trimF p=[]∧askF p=8)∨(trimF p≠[]∧askF p=0):=by
 unfold askF;rw [show bigF p=false from not_big' hl,if_neg Bool.false_ne_true]
 by_cases h:trimF p=[]
 ·exact .inl ⟨h,by rw [if_pos h]⟩
 ·exact .inr ⟨h,by rw [if_neg h]⟩
theorem places_routh {p q:List Rat} (hp:trimF p≠[]) (hq:trimF q≠[]):routhF (mulF p q)=((routhF p).1+(routhF q).1,(routhF p).2+(routhF q).2):=by
 obtain⟨h1,h2⟩:=routh_mul (gd_trim hp) (gd_trim hq) (by rw [mul_trim];exact gd_mul hp hq);rw [mul_trim,routhF_trim,routhF_trim] at h1 h2;exact Prod.ext h1 h2
theorem places_rect {p q:List Rat} (hp:askF p=0) (hq:askF q=0) (hm:askF (mulF p q)=0) (x y u v:Rat):∃i k r,∃e f g,rectE p x y u v=(i,e)∧rectE q x y u v=(k,f)∧rectE (mulF p q) x y u v=(r,g)∧(e=0→f=0→g=0∧r=i+k)∧((e=120∨f=120)↔g=120):=by
 have tp:=(ask_zero hp).2;have tq:=(ask_zero hq).2;unfold rectE;rw [hp,hq,hm]
 simp only [if_neg (show ¬(0:Int)≠0 from fun h=>h rfl)]
 by_cases hc:cmpQ x y=0∨cmpQ u v=0
 ·simp only [if_pos hc]
  exact⟨0,0,0,7,7,7,rfl,rfl,rfl,by omega,by omega⟩
 ·simp only [if_neg hc]
  have h:=rect_law (gd_trim tp) (gd_trim tq) (by rw [mul_trim];exact gd_mul tp tq) (aq x y) (ar x y) (aq u v) (ar u v);rw [mul_trim] at h;obtain⟨i,k,r,e,f,g,a,b,c,-,-,-,d1,d2⟩:=h;have ht:trimF (mulF p q)=mulF p q:=trim_trim _;rw [ht];exact⟨i,k,r,e,f,g,a,b,c,d1,d2⟩
theorem places_square {p:List Rat} (hp:askF p=0) (ht:trimF p=p):rectE p (-(boundF p)) (boundF p) (-(boundF p)) (boundF p)=((p.length:Int) - 1,0):=by
 have tp:=(ask_zero hp).2;have hg:=gd_trim tp;rw [ht] at hg;have hb:=bound_pos p
 have hc:¬(cmpQ (-(boundF p)) (boundF p)=0∨cmpQ (-(boundF p)) (boundF p)=0):=fun h=>by
  have:-(boundF p)=boundF p:=by rcases h with h|h <;> exact(cmpQ_zero _ _).1 h
  grind
 obtain⟨m1,m2⟩:=min_of_le (show -(boundF p)≤boundF p by grind);unfold rectE;rw [hp,if_neg (fun h=>h rfl),if_neg hc,m1,m2,ht];exact square_bound hg
theorem three_pow {x y z:Int} {A b:Nat} (h1:x.natAbs<2 ^ (A+b)) (h2:y.natAbs<2 ^ (A+b)) (h3:z.natAbs<2 ^ (A+b)):(x - y+z).natAbs<2 ^ (A+(b+2)):=by
 have e:2 ^ (A+(b+2))=2 ^ (A+b)*4:=by rw [←Nat.add_assoc,Nat.pow_add]
 rw [e];omega
theorem mul_pow2 {x y:Int} {A b:Nat} (h1:x.natAbs<2 ^ A) (h2:y.natAbs<2 ^ b):(y*x).natAbs<2 ^ (A+b):=by
 rw [Int.natAbs_mul,Nat.pow_add,Nat.mul_comm];have h3:0<2 ^ A:=Nat.pow_pos (by decide);have h4:0<2 ^ b:=Nat.pow_pos (by decide);exact Nat.lt_of_le_of_lt (Nat.mul_le_mul_right _ (Nat.le_of_lt h1)) (Nat.mul_lt_mul_of_pos_left h2 h3)
theorem pow_abs {T:Int} {b:Nat} (h:T.natAbs<2 ^ b):∀k:Nat,(T ^ k).natAbs≤2 ^ (b*k)
 | 0=>by simp
 | k+1=>by
  rw [Int.pow_succ,Int.natAbs_mul,Nat.mul_succ,Nat.pow_add];exact Nat.mul_le_mul (pow_abs h k) (Nat.le_of_lt h)
theorem le_pow2 {x:Int} {y:Int} {a e:Nat} (h1:x.natAbs<2 ^ a) (h2:y.natAbs≤2 ^ e):(x*y).natAbs<2 ^ (a+e):=by
 rw [Int.natAbs_mul,Nat.pow_add];have h4:0<2 ^ e:=Nat.pow_pos (by decide);exact Nat.lt_of_le_of_lt (Nat.mul_le_mul_left _ h2) (Nat.mul_lt_mul_of_pos_right h1 h4)
theorem along_hd {X Y:List Rat} {d:Rat} (hl:(X=[0,1]∧Y=[d])∨(Y=[0,1]∧X=[d])) {a b:Nat} {D:Int} (hb:Bq b d):∀p:List Rat,(∀c ∈ p,∃z:Int,c*(D:Rat)=(z:Rat)∧z.natAbs<2 ^ a)→HD (a+p.length*(b+2)) (D*(d.den:Int) ^ p.length) (alongU X Y p).1∧HD (a+p.length*(b+2)) (D*(d.den:Int) ^ p.length) (alongU X Y p).2
 | [],_=>⟨fun i=>⟨0,by show (0:Rat)*_=_;rw [Rat.zero_mul];rfl,Nat.pow_pos (by decide)⟩,fun i=>⟨0,by show (0:Rat)*_=_;rw [Rat.zero_mul];rfl,Nat.pow_pos (by decide)⟩⟩
 | c :: p,h=>by
  obtain⟨i1,i2⟩:=along_hd hl (D:=D) hb p fun x hx=>h x (List.mem_cons_of_mem _ hx);obtain⟨z,hz1,hz2⟩:=h c List.mem_cons_self;have hdn:=den_num d;have hT:((d.den:Int)).natAbs<2 ^ b:=by rw [Int.natAbs_natCast];exact hb.2
  have hN:d.num.natAbs<2 ^ b:=hb.1;have hTr:(((d.den:Int)):Rat)=(d.den:Rat):=Rat.intCast_natCast _
  have hE:((D*(d.den:Int) ^ (c :: p).length:Int):Rat)=((D*(d.den:Int) ^ p.length:Int):Rat)*(d.den:Rat):=by
   rw [List.length_cons,Int.pow_succ,←Int.mul_assoc,Rat.intCast_mul,hTr]
  have hK:(c :: p).length*(b+2)=p.length*(b+2)+(b+2):=by rw [List.length_cons,Nat.succ_mul]
  rw [hK,←Nat.add_assoc]
  have hc0:∀i,∃m:Int,co [c] i*((D*(d.den:Int) ^ (c :: p).length:Int):Rat)=(m:Rat)∧m.natAbs<2 ^ (a+p.length*(b+2)+b):=fun i=>by
   cases i with
   | zero=>
    refine⟨z*(d.den:Int) ^ (p.length+1),?_,?_⟩
    ·show c*_=_
     rw [List.length_cons,Rat.intCast_mul,Rat.intCast_mul,←hz1];grind
    ·have:=le_pow2 hz2 (pow_abs hT (p.length+1))
     refine Nat.lt_of_lt_of_le this (Nat.pow_le_pow_right (by decide) ?_);have e1:b*(p.length+1)=p.length*b+b:=by rw [Nat.mul_succ,Nat.mul_comm]
     have e2:p.length*(b+2)=p.length*b+p.length*2:=Nat.mul_add _ _ _;omega
   | succ i=>exact⟨0,by show (0:Rat)*_=_;rw [Rat.zero_mul];rfl,Nat.pow_pos (by decide)⟩
  have up:∀(l:List Rat),HD (a+p.length*(b+2)) (D*(d.den:Int) ^ p.length) l→∀i,∃m:Int,co (mulF l [0,1]) i*((D*(d.den:Int) ^ (c :: p).length:Int):Rat)=(m:Rat)∧m.natAbs<2 ^ (a+p.length*(b+2)+b):=fun l hl i=>by
   rw [co_up]
   cases i with
   | zero=>exact⟨0,by show (0:Rat)*_=_;rw [Rat.zero_mul];rfl,Nat.pow_pos (by decide)⟩
   | succ i=>
    obtain⟨m,m1,m2⟩:=hl i;refine⟨(d.den:Int)*m,?_,mul_pow2 m2 hT⟩;rw [co_succ,hE,Rat.intCast_mul (d.den:Int) m,hTr,←m1];grind
  have nb:∀(l:List Rat),HD (a+p.length*(b+2)) (D*(d.den:Int) ^ p.length) l→∀i,∃m:Int,co (mulF l [d]) i*((D*(d.den:Int) ^ (c :: p).length:Int):Rat)=(m:Rat)∧m.natAbs<2 ^ (a+p.length*(b+2)+b):=fun l hl i=>by
   obtain⟨m,m1,m2⟩:=hl i;refine⟨d.num*m,?_,mul_pow2 m2 hN⟩;rw [co_const,hE,Rat.intCast_mul d.num m,←m1,←hdn];grind
  have all:∀(u v w:List Rat),(∀i,∃m:Int,co u i*((D*(d.den:Int) ^ (c :: p).length:Int):Rat)=(m:Rat)∧m.natAbs<2 ^ (a+p.length*(b+2)+b))→(∀i,∃m:Int,co v i*((D*(d.den:Int) ^ (c :: p).length:Int):Rat)=(m:Rat)∧m.natAbs<2 ^ (a+p.length*(b+2)+b))→(∀i,∃m:Int,co w i*((D*(d.den:Int) ^ (c :: p).length:Int):Rat)=(m:Rat)∧m.natAbs<2 ^ (a+p.length*(b+2)+b))→∀(l:List Rat),(∀i,co l i=co u i - co v i+co w i)→HD (a+p.length*(b+2)+(b+2)) (D*(d.den:Int) ^ (c :: p).length) l:=fun u v w hu hv hw l el i=>by
   obtain⟨m1,e1,b1⟩:=hu i;obtain⟨m2,e2,b2⟩:=hv i;obtain⟨m3,e3,b3⟩:=hw i;refine⟨m1 - m2+m3,?_,three_pow b1 b2 b3⟩;rw [el,Rat.intCast_add,Rat.intCast_sub,←e1,←e2,←e3];grind
  have zero:∀i,∃m:Int,co [] i*((D*(d.den:Int) ^ (c :: p).length:Int):Rat)=(m:Rat)∧m.natAbs<2 ^ (a+p.length*(b+2)+b):=fun i=>⟨0,by show (0:Rat)*_=_;rw [Rat.zero_mul];rfl,Nat.pow_pos (by decide)⟩
  have f1:∀i,co (alongU X Y (c :: p)).1 i=co (mulF (alongU X Y p).1 X) i - co (mulF (alongU X Y p).2 Y) i+co [c] i:=fun i=>by
   show co (addF (subF (mulF (alongU X Y p).1 X) (mulF (alongU X Y p).2 Y)) [c]) i=_
   rw [co_addF]
   show co (subF _ _) i+_=_
   rw [co_subF]
  have f2:∀i,co (alongU X Y (c :: p)).2 i=co (mulF (alongU X Y p).1 Y) i - co [] i+co (mulF (alongU X Y p).2 X) i:=fun i=>by
   show co (addF (mulF (alongU X Y p).1 Y) (mulF (alongU X Y p).2 X)) i=_
   rw [co_addF,co_nil];grind
  rcases hl with ⟨rfl,rfl⟩|⟨rfl,rfl⟩
  ·exact⟨all _ _ _ (up _ i1) (nb _ i2) hc0 _ f1,all _ _ _ (nb _ i1) zero (up _ i2) _ f2⟩
  ·exact⟨all _ _ _ (nb _ i1) (up _ i2) hc0 _ f1,all _ _ _ (up _ i1) zero (nb _ i2) _ f2⟩
theorem along_hf {X Y:List Rat} {d:Rat} (hl:(X=[0,1]∧Y=[d])∨(Y=[0,1]∧X=[d])) {a b n:Nat} {p:List Rat} (hp:HF a p) (hb:Bq b d) (hn:p.length≤n):HF (a+n*(b+2)) (alongU X Y p).1∧HF (a+n*(b+2)) (alongU X Y p).2:=by
 obtain⟨D,D0,Da,hD⟩:=hp.hd
 obtain⟨h1,h2⟩:=along_hd hl (a:=a) (D:=D) hb p fun c hc=>by
  obtain⟨i,hi,e⟩:=List.getElem_of_mem hc;obtain⟨m,m1,m2⟩:=hD i;refine⟨m,?_,m2⟩;rw [←m1];unfold co;rw [List.getElem?_eq_getElem hi,e];rfl
 have hT:((d.den:Int)).natAbs<2 ^ b:=by rw [Int.natAbs_natCast];exact hb.2
 have hT0:(d.den:Int)≠0:=by have:=d.den_nz;omega
 have ne:D*(d.den:Int) ^ p.length≠0:=Int.mul_ne_zero D0 (Int.pow_ne_zero hT0);have hle:p.length*(b+2)≤n*(b+2):=Nat.mul_le_mul_right _ hn
 have hlt:(D*(d.den:Int) ^ p.length).natAbs<2 ^ (a+p.length*(b+2)):=by
  refine Nat.lt_of_lt_of_le (le_pow2 Da (pow_abs hT p.length)) (Nat.pow_le_pow_right (by decide) ?_);have e2:p.length*(b+2)=p.length*b+p.length*2:=Nat.mul_add _ _ _;have e3:b*p.length=p.length*b:=Nat.mul_comm _ _;omega
 exact⟨(h1.hf ne hlt (Nat.le_refl _)).mono (by omega),(h2.hf ne hlt (Nat.le_refl _)).mono (by omega)⟩
end Go.Proofs.YtkoaakefgacokaaGreatDoor
