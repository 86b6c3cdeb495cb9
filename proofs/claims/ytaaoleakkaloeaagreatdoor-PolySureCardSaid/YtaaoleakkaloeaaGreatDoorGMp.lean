/- Tarski's query and the common divisor on a span with one root of p. What PolySure needs of signs on spans, and the numbers on the way. -/
import Derived.Test.YtaaoleakkaloeaaGreatDoorGZb
import Derived.Test.YtaaoleakkaloeaaGreatDoorGYm
set_option linter.unusedVariables false
set_option maxRecDepth 100000
set_option maxHeartbeats 64000000
namespace Go.Proofs.YtaaoleakkaloeaaGreatDoor
set_option linter.unusedSimpArgs false
theorem cop_dv_deriv {s D:List Rat} (h:Cop s (derivF s)) (k:Dv D s):Cop D (derivF D):=by
 obtain⟨u,w,e⟩:=h;obtain⟨f,hf⟩:=k;refine⟨addF (mulF u f) (mulF w (derivF f)),mulF w f,fun x=>?_⟩;rw [ev_addF,ev_mulF,ev_mulF,ev_mulF,←e x,deriv_prod hf,hf];grind
theorem simple_self {D:List Rat} (h:Cop D (derivF D)) (ht:trimF D=D):simpleF D=D:=by
 unfold simpleF;rw [h.gcd];exact quo_eq (by decide) ht fun x=>by rw [ev_one];grind
theorem pow_comb {D s b X Y:List Rat} (e:∀x,evR D x=evR X x*evR s x+evR Y x*evR b x):∀m:Nat,∃A C:List Rat,∀x,evR (pwrF D m) x=evR A x*evR (pwrF s m) x+evR C x*evR b x
 | 0=>⟨[1],[],fun x=>by rw [ev_pwrF,ev_pwrF,ev_one,ev_nil,Rat.pow_zero,Rat.pow_zero];grind⟩
 | m+1=>by
  obtain⟨A,C,h⟩:=pow_comb e m;refine⟨mulF A X,addF (mulF C (mulF X s)) (addF (mulF (mulF C Y) b) (mulF (mulF A (pwrF s m)) Y)),fun x=>?_⟩;have h1:=h x;rw [ev_pwrF,ev_pwrF] at h1;rw [ev_pwrF,ev_pwrF,pow_add1,pow_add1,h1,e]
  simp only [ev_addF,ev_mulF,ev_pwrF]
  generalize evR s x ^ m=w
  grind
theorem sign_mul {σ τ a b:Rat} (hσ:Pm σ) (hτ:Pm τ) (ha:0<σ*a) (hb:0<τ*(a*b)):0<σ*τ*b:=by
 have h1:=hσ.sq;refine pos_of_mul' (b:=σ*a) ?_ ha;rw [show σ*τ*b*(σ*a)=(σ*σ)*(τ*(a*b)) by grind,h1];grind
theorem low_at {p:List Rat} {x y:Rat} (h:Low p x y) (hxy:x≤y):evR p x≠0∧evR p y≠0:=by
 obtain⟨σ,ε,hσ,he,hf⟩:=h;have h1:=hf x Rat.le_refl hxy;have h2:=hf y hxy Rat.le_refl
 constructor
 ·intro e;rw [e] at h1;grind
 ·intro e;rw [e] at h2;grind
theorem query {p b:List Rat} (h0:0<dgF p) (hb0:0<dgF b) {u v:Rat} (huv:u≤v) (hN:betweenF (ownF p) u v=1) (hu:evR p u≠0) (hv:evR p v≠0):∃t,betweenF (chainF (simpleF p) (mulF (derivF (simpleF p)) b)) u v=t∧evR (commonF p b) u≠0∧(t=0∧betweenF (ownF (commonF p b)) u v=1∨t≠0∧betweenF (ownF (commonF p b)) u v=0)∧(betweenF (ownF b) u v=0→evR b u≠0→t=atF u b):=by
 refine⟨_,rfl,?_⟩;obtain⟨B,hB,hin⟩:=ab_two u v;obtain⟨s0,st,sd⟩:=simple_dg h0;have hsc:=simple_cop h0;have hev:∀t,evR p t=evR (nextP p) t*evR (simpleF p) t:=fun t=>quo_dv (nextP_pos h0) (nextP_dv p).1 t;have hev':∀t,evR p t=evR (simpleF p) t*evR (nextP p) t:=fun t=>by rw [hev];grind
 have h1s:1<dgF (simpleF p):=by
  rcases own_chain h0 with ⟨d1,c,e,k,hk,hc⟩|⟨h1,-⟩
  ·rw [e,between_v,vF_const hk hc u v] at hN
   omega
  ·exact h1
 obtain⟨kp,hp,hpow⟩:=simple_pow h0;obtain⟨δ1,e1,F1⟩:=flip01 h0 hB;obtain⟨⟨gp,gb,gs,gt,ge⟩,gm⟩:=gcd_gc p b;have hgg:=@gcd_great;obtain⟨g0,-⟩:=gp.dg h0;have hgr:∀d:List Rat,Dv d p→Dv d b→Dv d (commonF p b):=fun d k1 k2=>gcd_great k1 k2;generalize commonF p b=g at *;obtain⟨s,hs⟩:∃s,simpleF p=s:=⟨_,rfl⟩;rw [hs] at s0 st hsc hev hev' h1s hpow F1 ⊢;have d0:0<dgF (derivF s):=by rw [dg_deriv];omega
 obtain⟨q,hq⟩:∃q,mulF (derivF s) b=q:=⟨_,rfl⟩;have eq:∀x,evR q x=evR (derivF s) x*evR b x:=fun x=>by rw [←hq,ev_mulF]
 rw [hq];have q0:0<dgF q:=by have:=dg_mul eq d0 hb0;omega
 obtain⟨k1,k10,a1,a2,k11⟩:=small_ev s0;obtain⟨k2,k20,b1,b2,k21⟩:=small_ev q0;obtain⟨⟨Ds,Dq,X,Y,De⟩,Dm⟩:=gcd_gc (smallF s) (smallF q);obtain⟨D0,-⟩:=Ds.dg (by rw [dgSm];exact s0);obtain⟨P,Q,hPQ,eP,eQ⟩:=gcd_out D0;generalize commonF (smallF s) (smallF q)=D at *;obtain⟨l,hch,htm⟩:=chn_gen (s.length+q.length+1) (smallF s) (smallF q) D P Q (by rw [dgSm];exact s0) (by rw [dgSm];exact q0) (by rw [dgSm];have:=dg_len q;omega) D0 eP eQ hPQ;have htm:Tm D (chainF s q) (P :: Q :: l):=htm;have Dvs:Dv D s:=Ds.mul [1 / k1] fun x=>by rw [ev_const,a2];grind
 have Dvq:Dv D q:=Dq.mul [1 / k2] fun x=>by rw [ev_const,b2];grind
 have Dvp:Dv D p:=Dvs.trans ⟨nextP p,hev'⟩;have Dvb:Dv D b:=(hsc.sub Dvs).dv eq Dvq;have Dvg:Dv D g:=hgr D Dvp Dvb;have Dsq:=cop_dv_deriv hsc Dvs;have Dself:=simple_self Dsq Dm.1;obtain⟨hg,egp⟩:=gp;obtain⟨hD,eDp⟩:=Dvp;obtain⟨hDg,eDg⟩:=Dvg;obtain⟨hDb,eDb⟩:=Dvb;have gu:evR g u≠0:=fun e=>hu (by rw [egp,e];grind);have Du:evR D u≠0:=fun e=>hu (by rw [eDp,e];grind);have Dv':evR D v≠0:=fun e=>hv (by rw [eDp,e];grind);refine⟨gu,?_⟩;obtain⟨δ2,e2,F2⟩:=flip01 g0 hB;obtain⟨δ3,e3,F3⟩:=flip01 D0 hB;obtain⟨δ4,e4,F4⟩:=piece2 hB hch;obtain⟨m1,m10,m11,m12⟩:=min_ex e1 e2;obtain⟨m2,m20,m21,m22⟩:=min_ex e3 e4;obtain⟨m3,m30,m31,m32⟩:=min_ex m10 m20;obtain⟨a,c,ha,hac,hc,hlen,na,nc,N1,N2,N3⟩:=iso_small h0 huv m30 hN hu hv;have ba:=hin a ha (Rat.le_trans hac hc);have bc:=hin c (Rat.le_trans ha hac) hc;have L1:=low_keep h0 ha N1 hu;have L2:=low_keep h0 hc N3 nc;have lowd:∀ {r h:List Rat},(∀x,evR p x=evR r x*evR h x)→Low r u a∧Low r c v:=fun e=>⟨L1.fac ha e,L2.fac hc e⟩
 have cnt:∀ {r h:List Rat},0<dgF r→(∀x,evR p x=evR r x*evR h x)→betweenF (ownF r) u v=betweenF (ownF r) a c:=fun r0 e=>by
  obtain⟨l1,l2⟩:=lowd e;have z1:=l1.count r0 ha;have z2:=l2.count r0 hc;rw [←between_add _ u a v,←between_add _ a c v,z1,z2];omega
 have cg:=cnt g0 egp;have cD:=cnt D0 eDp
 have ePp:∀x,evR p x=evR P x*evR (scaleF (mulF D (nextP p)) (1 / k1)) x:=fun x=>by
  rw [hev',a2,eP,ev_scaleF,ev_mulF];generalize 1 / k1=w
  grind
 obtain⟨LP1,LP2⟩:=lowd ePp;obtain⟨LD1,LD2⟩:=lowd eDp;obtain⟨π1,hπ1,fπ1⟩:=LP1.fx;obtain⟨π2,hπ2,fπ2⟩:=LP2.fx;have V1:=v_fix2 hch ha hπ1 fπ1;have V2:=v_fix2 hch hc hπ2 fπ2;have Pa:=(low_at LP1 ha).2;have Pc:=(low_at LP2 hc).1;have Da:=(low_at LD1 ha).2;have Dc:=(low_at LD2 hc).1;have ga:=(low_at (lowd egp).1 ha).2;have gc:=(low_at (lowd egp).2 hc).1
 have ht:betweenF (chainF s q) u v=vF (P :: Q :: l) a - vF (P :: Q :: l) c:=by
  rw [between_v,htm.v Du,htm.v Dv',V1,V2]
 obtain⟨σ,hσ,sa,sc,sf⟩:∃ σ,Pm σ∧0 < -σ*evR s a∧0<σ*evR s c∧Fx σ (derivF s) a c:=by
  rcases F1 a c ba bc hac (by grind) na nc with ⟨z,-⟩|⟨-,h⟩
  ·omega
  ·exact h
 have sa':0 < -σ*(evR D a*evR P a):=by
  rw [←eP,a1,←Rat.mul_assoc];exact Rat.mul_pos sa k10
 have sc':0<σ*(evR D c*evR P c):=by
  rw [←eP,a1,←Rat.mul_assoc];exact Rat.mul_pos sc k10
 have fD:=F3 a c ba bc hac (by grind) Da Dc;rw [Dself] at fD;have fg:=F2 a c ba bc hac (by grind) ga gc;have fP:=F4 a c ba bc hac (by grind)
 have eqv:betweenF (ownF D) a c=0↔betweenF (ownF g) a c=0:=by
  constructor
  ·intro z
   have LD:=low_keep D0 huv (by omega) Du
   obtain⟨A,C,hAC⟩:=pow_comb (D:=D) (s:=s) (b:=b) (X:=scaleF X k1) (Y:=mulF (scaleF Y k2) (derivF s)) (fun x=>by
    rw [De,a1,b1,eq,ev_mulF,ev_scaleF,ev_scaleF];grind) kp
   have hgD:Dv g (pwrF D kp):=by
    obtain⟨hb',egb⟩:=gb;refine⟨addF (mulF A (mulF hg hp)) (mulF C hb'),fun x=>?_⟩;rw [hAC,hpow,egp,egb,ev_addF,ev_mulF,ev_mulF,ev_mulF];grind
   obtain⟨hh,ehh⟩:=hgD;have Lg:=(LD.pwr kp).fac huv ehh
   have:=Lg.count g0 huv
   omega
  ·intro z
   have Lg:=low_keep g0 huv (by omega) gu;have LD:=Lg.fac huv eDg
   have:=LD.count D0 huv
   omega
 rw [ht,cg]
 rcases fD with ⟨zD,ρ,hρ,r1,r2⟩|⟨zD,ρ,hρ,r1,r2,-⟩
 ·
  have hg0:=eqv.1 zD;have p1:=sign_mul hρ hσ.neg r1 sa';have p2:=sign_mul hρ hσ r2 sc';have hρσ:Pm (ρ*σ):=hρ.mul hσ;have p1':0 < -(ρ*σ)*evR P a:=by grind
  rcases fP with ⟨τ,hτ,hfx,-⟩|⟨τ,hτ,hfx,N,hV⟩
  ·exfalso
   have f1:=hfx a Rat.le_refl hac;have f2:=hfx c hac Rat.le_refl
   rcases hτ with rfl|rfl <;> rcases hρσ with e|e <;> rw [e] at p1' p2 <;> grind
  ·have w1:=hV a Rat.le_refl hac
   have w2:=hV c hac Rat.le_refl;rw [at_si hρσ.neg p1',chg_vals _ _ hρσ.neg hτ] at w1;rw [at_si hρσ p2,chg_vals _ _ hρσ hτ] at w2
   have hval:vF (P :: Q :: l) a - vF (P :: Q :: l) c=si (ρ*σ*τ):=by
    rw [w1,w2]
    rcases hρσ with e|e <;> rw [e] <;> rcases hτ with rfl|rfl
    ·rw [if_neg (by decide),if_pos rfl,show (1:Rat)*1=1 by grind,si_one];omega
    ·rw [if_pos (by decide),if_neg (by decide),show (1:Rat)*-1 = -1 by grind,si_neg];omega
    ·rw [if_pos (by decide),if_neg (by decide),show (-1:Rat)*1 = -1 by grind,si_neg];omega
    ·rw [if_neg (by decide),if_pos rfl,show (-1:Rat)*-1=1 by grind,si_one];omega
   have hpm:Pm (ρ*σ*τ):=hρσ.mul hτ;have hne:=(si_not hpm).2;refine⟨.inr ⟨by omega,hg0⟩,fun zb bu=>?_⟩;rw [hval];obtain⟨τ0,ε,hτ0,he,hf⟩:=low_keep hb0 huv zb bu;have f1:0<τ0*evR b u:=by have:=hf u Rat.le_refl huv;grind
   have f2:0<τ0*evR b c:=by have:=hf c (Rat.le_trans ha hac) hc;grind
   rw [at_si hτ0 f1];have f3:=hfx c hac Rat.le_refl;have f4:=sf c hac Rat.le_refl
   have f5:0<ρ*τ*(evR D c*evR Q c):=by
    have:=Rat.mul_pos r2 f3
    grind
   rw [←eQ,b1,eq,show ρ*τ*(evR (derivF s) c*evR b c*k2)=ρ*τ*(evR (derivF s) c*evR b c)*k2 by grind] at f5;have f6:=sign_mul hσ (hρ.mul hτ) f4 (pos_of_mul' f5 k20)
   have:ρ*σ*τ=τ0:=by
    have e9:σ*(ρ*τ)=ρ*σ*τ:=by grind
    rw [e9] at f6
    rcases hpm with e|e <;> rw [e] at f6 ⊢ <;> rcases hτ0 with rfl|rfl <;> first|rfl|(exfalso;grind)
   rw [this]
 ·
  have hg1:betweenF (ownF g) a c≠0:=fun z=>by
   have:=eqv.2 z
   omega
  have hg1':betweenF (ownF g) a c=1:=by
   rcases fg with ⟨z,-⟩|⟨z,-⟩
   ·exact absurd z hg1
   ·exact z
  have p1:=sign_mul hρ.neg hσ.neg r1 sa';have p2:=sign_mul hρ hσ r2 sc';have hρσ:Pm (ρ*σ):=hρ.mul hσ;have p1':0<(ρ*σ)*evR P a:=by grind
  have hz:vF (P :: Q :: l) a - vF (P :: Q :: l) c=0:=by
   rcases fP with ⟨τ,hτ,hfx,N,hV⟩|⟨τ,hτ,hfx,N,hV⟩
   ·rw [hV a Rat.le_refl hac,hV c hac Rat.le_refl];omega
   ·rw [hV a Rat.le_refl hac,hV c hac Rat.le_refl,at_si hρσ p1',at_si hρσ p2];omega
  refine⟨.inl ⟨hz,hg1'⟩,fun zb bu=>?_⟩
  exfalso
  have Lb:=low_keep hb0 huv zb bu;have LD:=Lb.fac huv eDb
  have:=LD.count D0 huv
  omega
end Go.Proofs.YtaaoleakkaloeaaGreatDoor
set_option linter.unusedVariables false
set_option maxRecDepth 100000
set_option maxHeartbeats 64000000
namespace Go.Proofs.YtaaoleakkaloeaaGreatDoor
set_option linter.unusedSimpArgs false
theorem min_le' (x y:Rat):aq x y≤ar x y∧aq x y≤x∧x≤ar x y∧aq x y≤y∧y≤ar x y:=by
 unfold aq ar
 split <;> split <;> grind
theorem min_of_le {x y:Rat} (h:x≤y):aq x y=x∧ar x y=y:=by
 have h1:=min_le' x y;unfold aq ar at *
 split at*<;> split at*<;> grind
theorem sz {p:List Rat} {t:Rat}:(evR p t).num.sign=0↔evR p t=0:=atF_zero
theorem low_sign {p:List Rat} {x y:Rat} (h:Low p x y):∃ σ,Pm σ∧∀t,x≤t→t≤y→(evR p t).num.sign=si σ:=by
 obtain⟨σ,ε,hσ,he,hf⟩:=h;exact⟨σ,hσ,fun t h1 h2=>at_si hσ (by have:=hf t h1 h2;grind)⟩
theorem inside_low {p:List Rat} (h0:0<dgF p) {x y:Rat} (h:¬ 0<insideF p x y):betweenF (ownF p) (aq x y) (ar x y)=0∧evR p (aq x y)≠0:=by
 have hle:=(min_le' x y).1;have h1:=count_pos h0 hle;unfold insideF at h
 by_cases g:(evR p (aq x y)).num.sign=0
 ·rw [if_pos g] at h;omega
 ·rw [if_neg g] at h
  exact⟨by omega,fun e=>g (sz.2 e)⟩
theorem pos_facts {p:List Rat} (hbig:bigF p=false) (x y:Rat):∃s,positiveE p x y=(s,0)∧(s≠0→trimF p≠[]∧¬ 0<insideF p x y∧∀t,aq x y≤t→t≤ar x y→(evR p t).num.sign=s)∧(s=0→trimF p≠[]→betweenF (ownF p) (aq x y) (ar x y)=0→(evR p (aq x y)).num.sign=0):=by
 unfold positiveE;rw [hbig,if_neg Bool.false_ne_true]
 by_cases h1:trimF p=[]
 ·rw [if_pos h1]
  exact⟨0,rfl,fun h=>absurd rfl h,fun _ h=>absurd h1 h⟩
 ·rw [if_neg h1]
  have h0:0<dgF p:=List.length_pos_iff.2 h1
  by_cases h2:0<insideF p x y
  ·rw [if_pos h2]
   refine⟨0,rfl,fun h=>absurd rfl h,fun _ _ hz=>?_⟩;unfold insideF at h2;rw [hz] at h2
   by_cases g:(evR p (aq x y)).num.sign=0
   ·exact g
   ·rw [if_neg g] at h2;omega
  ·rw [if_neg h2]
   obtain⟨z1,z2⟩:=inside_low h0 h2;obtain⟨h3,h4,h5,h6,h7⟩:=min_le' x y;obtain⟨σ,hσ,hs⟩:=low_sign (low_keep h0 h3 z1 z2);have hx:=hs x h4 h5;refine⟨_,rfl,fun _=>⟨h1,h2,fun t k1 k2=>by rw [hs t k1 k2,hx]⟩,fun hz=>?_⟩
   have:=(si_not hσ).2
   omega
theorem not_big' {l:List Rat} (h:l.length≤41):bigF l=false:=decide_eq_false (by have:=trim_le l;omega)
theorem g_not_big {p q:List Rat} (hp:p.length≤14) (hq:q.length≤14):bigF (commonF p q)=false:=not_big' (Nat.le_trans (common_len p q 14 hp hq) (by decide))
theorem ask_of {p:List Rat} (h:bigF p=false) (k:trimF p≠[]):askF p=0:=by unfold askF;rw [h,if_neg Bool.false_ne_true,if_neg k]
theorem sign_ok_snd {g:List Rat} {u v:Rat} {p:List Rat} (h1:bigF p=false) (h2:askF g=0):((insideF g u v=1∧(signE g u v p).2=0)∨(insideF g u v≠1∧signE g u v p=(0,7))):=by
 unfold signE;rw [h1,if_neg Bool.false_ne_true,h2,if_neg (by decide)]
 by_cases h:insideF g u v=1
 ·rw [if_neg (by omega)]
  refine .inl ⟨h,?_⟩
  split <;> rfl
 ·rw [if_pos h]
  exact .inr ⟨h,rfl⟩
theorem sure_facts {p q:List Rat} (lp:p.length≤14) (lq:q.length≤14) (hz:askF p=0) {u v:Rat} (huv:u≤v) (hor:(u=v∧evR p v=0)∨(u≠v∧betweenF (ownF p) u v=1∧evR p u≠0∧evR p v≠0)):∃t t' h s,signE p u v q=(t,0)∧signE (commonF p q) u v p=(t',h)∧(trimF q≠[]→(t=0↔h=0))∧positiveE q u v=(s,0)∧(s≠0→t=s):=by
 have bp:bigF p=false:=not_big' (by omega);have bq:bigF q=false:=not_big' (by omega);have bg:=g_not_big lp lq;have tp:=(ask_zero hz).2;have h0:0<dgF p:=List.length_pos_iff.2 tp;obtain⟨⟨⟨gh,eg⟩,⟨qh,eq⟩,gs,gt,ge⟩,gm⟩:=gcd_gc p q;have g0:0<dgF (commonF p q):=(Dv.dg ⟨gh,eg⟩ h0).1;have hg:=ask_of bg (trim_ne g0);obtain⟨e1,e2⟩:=min_of_le huv;obtain⟨s,hs,hs1,-⟩:=pos_facts bq u v;obtain⟨⟨t',h⟩,hr⟩:∃z,signE (commonF p q) u v p=z:=⟨_,rfl⟩;have hsg:=sign_ok_snd (g:=commonF p q) (u:=u) (v:=v) bp hg
 rcases hor with ⟨rfl,hu⟩|⟨hne,hN,hu,hv⟩
 ·have hi:insideF p u u=1:=by
   unfold insideF;rw [e1,e2,between_self,if_pos (sz.2 hu)];rfl
  have ht:signE p u u q=((evR q u).num.sign,0):=by
   unfold signE;rw [bq,if_neg Bool.false_ne_true,hz,if_neg (by decide),if_neg (by omega),List.find?_cons,decide_eq_true (sz.2 hu:(evR p u).num.sign=0)]
  have hig:insideF (commonF p q) u u=if evR (commonF p q) u=0 then 1 else 0:=by
   unfold insideF;rw [e1,e2,between_self]
   by_cases z:evR (commonF p q) u=0
   ·rw [if_pos (sz.2 z),if_pos z];rfl
   ·rw [if_neg fun k=>z (sz.1 k),if_neg z];rfl
  have hgq:evR (commonF p q) u=0↔evR q u=0:=by
   constructor
   ·intro z;rw [eq,z];grind
   ·intro z;rw [ge,hu,z];grind
  refine⟨_,t',h,s,ht,hr,fun hq=>?_,hs,fun hne=>?_⟩
  ·rw [show (evR q u).num.sign=0↔evR q u=0 from sz,←hgq]
   rw [hig,hr] at hsg
   by_cases z:evR (commonF p q) u=0
   ·rw [if_pos z] at hsg
    rcases hsg with ⟨-,k⟩|⟨k,-⟩
    ·exact⟨fun _=>k,fun _=>z⟩
    ·exact absurd rfl k
   ·rw [if_neg z] at hsg
    rcases hsg with ⟨k,-⟩|⟨-,k⟩
    ·exact absurd k (by decide)
    ·injection k with k1 k2
     exact⟨fun k=>absurd k z,fun k=>by rw [k2] at k;exact absurd k (by decide)⟩
  ·obtain⟨-,-,h5⟩:=hs1 hne
   exact h5 u (by rw [e1];exact Rat.le_refl) (by rw [e2];exact Rat.le_refl)
 ·have hi:insideF p u v=1:=by
   unfold insideF;rw [e1,e2,hN,if_neg fun k=>hu (sz.1 k)];rfl
  have ht:signE p u v q=(tarskiF p q u v,0):=by
   unfold signE
   rw [bq,if_neg Bool.false_ne_true,hz,if_neg (by decide),if_neg (by omega),find_none2 (fun c hc=>decide_eq_false fun k=>by
    rcases List.mem_cons.1 hc with rfl|hc
    ·exact hu (sz.1 k)
    ·rw [List.mem_singleton] at hc
     subst hc;exact hv (sz.1 k)),e1,e2]
  refine⟨_,t',h,s,ht,hr,fun hq=>?_,hs,fun hne=>?_⟩
  ·obtain⟨t,e,gu,hd,-⟩:=query h0 (List.length_pos_iff.2 hq:0<dgF q) huv hN hu hv
   rw [show tarskiF p q u v=t from e]
   have hig:insideF (commonF p q) u v=betweenF (ownF (commonF p q)) u v:=by
    unfold insideF;rw [e1,e2,if_neg fun k=>gu (sz.1 k)];omega
   rw [hig,hr] at hsg
   rcases hd with ⟨z,k⟩|⟨z,k⟩
   ·rcases hsg with ⟨-,m⟩|⟨m,-⟩
    ·exact⟨fun _=>m,fun _=>z⟩
    ·exact absurd k m
   ·rcases hsg with ⟨m,-⟩|⟨-,m⟩
    ·omega
    ·injection m with m1 m2
     exact⟨fun y=>absurd y z,fun y=>by rw [m2] at y;exact absurd y (by decide)⟩
  ·obtain⟨h3,h4,h5⟩:=hs1 hne
   have hq0:0<dgF q:=List.length_pos_iff.2 h3;obtain⟨z1,z2⟩:=inside_low hq0 h4;rw [e1,e2] at z1;rw [e1] at z2;obtain⟨t,e,gu,-,hd⟩:=query h0 hq0 huv hN hu hv;rw [show tarskiF p q u v=t from e,hd z1 z2];exact h5 u (by rw [e1];exact Rat.le_refl) (by rw [e2];exact huv)
theorem own_ok' {a M:Nat} {p:List Rat} (hp:HF a p) (h0:0<dgF p) (hL:dgF p≤14) (hM:bdO a 14≤M):ownOk M p=true:=own_ok hp h0 hL (by decide) hM
theorem sign_ok {a b F H M:Nat} {p q:List Rat} (hp:HF a p) (hq:HF b q) (h0:0<dgF p) (hL:dgF p≤14) (lq:q.length≤14) (hF:bdS a 14=F) (hO:bdO a 14≤M) (hFM:F+6≤M) (hH:(F+6+b+5+6+2)*(2*27+2)≤H) (hH2:H+27*(H+1)≤M):signOk M p q=true∧(derivF (simpleF p)).length≤100:=by
 have ho:=own_ok' hp h0 hL hO;unfold ownOk at ho
 simp only [Bool.and_eq_true] at ho
 have hs:=simple_hf hp h0 hL (by decide);rw [hF] at hs;obtain⟨s0,st,sd⟩:=simple_dg h0
 have hsl:(simpleF p).length≤14:=by
  have:dgF (simpleF p)=(simpleF p).length:=by unfold dgF;rw [st]
  omega
 have hd:HF (F+6) (derivF (simpleF p)):=hs.deriv (v:=6) (by omega);have hdl:=deriv_len (simpleF p);have hm:HF (F+6+b+4+1) (mulF (derivF (simpleF p)) q):=hd.mul hq (v:=4) (by omega);have hdd:=dg_deriv (simpleF p);have hml:=dg_mulF_le (derivF (simpleF p)) q;have hql:=dg_len q;have hc:=chain_hf (a:=F+6+b+5) (w:=6) (N:=27) (H:=H) (M:=M) (hs.mono (by omega)) (hm.mono (by omega)) (by omega) (by omega) (by decide) hH hH2
 have hcB:cB M (chainF (simpleF p) (mulF (derivF (simpleF p)) q))=true:=by
  refine List.all_eq_true.2 fun l hl=>?_;obtain⟨f1,f2,f3⟩:=hc.2 l hl;rw [f1.sm (by omega),Bool.true_and]
  have:dgF l=l.length:=by unfold dgF;rw [f3]
  exact decide_eq_true (by omega)
 unfold signOk;rw [ho.1.1.1,ho.1.1.2,hd.sm hFM,hc.1,hcB];exact⟨rfl,by omega⟩
structure SureN (M:Nat) (p q:List Rat):Prop where
 ownp:ownOk M p=true
 ownq:trimF q≠[]→ownOk M q=true
 owng:ownOk M (commonF p q)=true
 com:comOk M p q=true
 s1:signOk M p q=true
 s2:signOk M (commonF p q) p=true
 l1:(derivF (simpleF p)).length≤100
 l2:(derivF (simpleF (commonF p q))).length≤100
 bp:∀c ∈ p,Bq M c
 bq:∀c ∈ q,Bq M c
 bg:∀c ∈ commonF p q,Bq M c
 lg:(commonF p q).length≤14
theorem sure_n {M:Nat} (hM:1739600393≤M) {p q:List Rat} (lp:p.length≤14) (lq:q.length≤14) (hp:∀c ∈ p,Bq 4001 c) (hq:∀c ∈ q,Bq 4001 c) (h0:0<dgF p):SureN M p q:=by
 have fp:HF 56015 p:=(hf_of_bq p hp).mono (by omega);have fq:HF 56015 q:=(hf_of_bq q hq).mono (by omega);obtain⟨⟨g1,-,-⟩,gm⟩:=gcd_gc p q;have g0:=(g1.dg h0).1;have gl:=(g1.dg h0).2;have dp:=dg_len p;have dq:=dg_len q;have fg:=factor_dv fp.monic (mo_mon p) gm (g1.trans (mon_dv p).2) (by rw [dg_mon];exact h0) (by rw [dg_mon];omega:dgF (monicF p)≤14) (by decide);rw [show bdF 56015 14=112352 from rfl] at fg;obtain⟨a1,a2⟩:=sign_ok (F:=168367) (H:=14000000) (M:=M) fp fq h0 (by omega) lq rfl (Nat.le_trans (show bdO 56015 14≤1739600393 by decide +kernel) hM) (by omega) (by decide) (by omega);obtain⟨b1,b2⟩:=sign_ok (F:=337378) (H:=30000000) (M:=M) fg fp g0 (by omega) lp rfl (Nat.le_trans (show bdO 112352 14≤1739600393 by decide +kernel) hM) (by omega) (by decide) (by omega);exact⟨own_ok' fp h0 (by omega) (Nat.le_trans (show bdO 56015 14≤1739600393 by decide +kernel) hM),fun h=>own_ok' fq (List.length_pos_iff.2 h) (by omega) (Nat.le_trans (show bdO 56015 14≤1739600393 by decide +kernel) hM),own_ok' fg g0 (by omega) (Nat.le_trans (show bdO 112352 14≤1739600393 by decide +kernel) hM),(com_hf (a:=56015) (w:=7) (N:=14) (H:=2000000) (M:=M) fp fq (by omega) (by omega) (by decide) (by decide) (by omega)).1,a1,b1,a2,b2,fun c hc=>(hp c hc).mono (by omega),fun c hc=>(hq c hc).mono (by omega),fun c hc=>(fg.bq c hc).mono (by omega),common_len p q 14 lp lq⟩
end Go.Proofs.YtaaoleakkaloeaaGreatDoor
