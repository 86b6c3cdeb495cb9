/- Real roots with their multiplicities: of a product they are those of both. -/
import Derived.Test.YtkoaakefgacokaaGreatDoorGOa
set_option linter.unusedVariables false
set_option linter.unusedSimpArgs false
set_option maxRecDepth 100000
set_option maxHeartbeats 64000000
namespace Go.Proofs.YtkoaakefgacokaaGreatDoor
theorem timesU_small (n:Nat) {p:List Rat} (h:dgF p≤1):timesU n p=0:=by
 cases n with
 | zero=>rfl
 | succ n=>
  unfold timesU;rw [if_neg (show ¬ 1<(trimF p).length from by unfold dgF at h;omega)]
theorem timesU_step (n:Nat) {p:List Rat} (h:1<dgF p):timesU (n+1) p=turnF (ownF p)+timesU n (nextP p):=by
 show (if 1<(trimF p).length then _ else _)=_
 rw [if_pos (show 1<(trimF p).length from h)];rfl
theorem timesU_eq:∀(n m:Nat) (p:List Rat),0<dgF p→dgF p≤n→dgF p≤m→timesU n p=timesU m p
 | 0,m,p,h,h1,_=>by omega
 | n+1,m,p,h,h1,h2=>by
  obtain⟨m,rfl⟩:∃k,m=k+1:=⟨m - 1,by omega⟩
  rcases Nat.lt_or_ge 1 (dgF p) with g|g
  ·have:=nextP_less g
   rw [timesU_step n g,timesU_step m g,timesU_eq n m (nextP p) (nextP_pos h) (by omega) (by omega)]
  ·rw [timesU_small _ g,timesU_small _ g]
def Tt (p:List Rat):Int:=timesU (dgF p) p
theorem Tt_of {p:List Rat} (h:0<dgF p):timesF p=Tt p:=timesU_eq _ _ p h (by have:=dg_len p;omega) (Nat.le_refl _)
theorem Tt_one {p:List Rat} (h:dgF p≤1):Tt p=0:=timesU_small _ h
theorem Tt_step {p:List Rat} (h:1<dgF p):Tt p=turnF (ownF p)+Tt (nextP p):=by
 unfold Tt;obtain⟨n,hn⟩:∃n,dgF p=n+1:=⟨dgF p - 1,by omega⟩
 have:=nextP_less h
 rw [hn,timesU_step n h,timesU_eq n (dgF (nextP p)) (nextP p) (nextP_pos (by omega)) (by omega) (Nat.le_refl _)]
theorem turn_one {p:List Rat} (h:dgF p=1):turnF (ownF p)=0:=by
 obtain⟨a1,a2,-,-⟩:=own_turn (p:=p) (by omega);obtain⟨-,-,b⟩:=simple_dg (p:=p) (by omega);omega
theorem Mo.of_ev {a b:List Rat} (ha:trimF a=a) (hb:trimF b=b) (e:∀x,evR a x=evR b x):a=b:=by rw [←ha,←hb];exact trim_ev e
theorem base_sqf {p:List Rat} (h:Mo p) (h0:0<dgF p):Sqf (baseP p):=by
 obtain⟨m,m0⟩:=base_mo h h0;exact⟨m0,m.1,base_sq _ p h h0 (Nat.le_refl _)⟩
theorem own_base {p:List Rat} (h:Mo p) (h0:0<dgF p):ownF p=ownF (baseP p):=by
 show chainF (simpleF p) (derivF (simpleF p))=chainF (simpleF (baseP p)) (derivF (simpleF (baseP p)))
 rw [(base_sqf h h0).simple];rfl
theorem cop_unit {g b:List Rat} (h:Cop g b) (k:Dv g b):dgF g=1:=by
 obtain⟨s,t,e⟩:=h;obtain⟨u,hu⟩:=k;have h1:Dv g [1]:=⟨addF s (mulF t u),fun x=>by rw [ev_one,ev_addF,ev_mulF,←e x,hu];grind⟩
 have:=h1.dg (by decide)
 have h3:dgF [(1:Rat)]=1:=by decide
 omega
theorem cop_of_unit {e y:List Rat} (h:dgF (commonF e y)=1):Cop e y:=cop_of_gcd (mo_one_of (gcd_gc e y).2 h)
theorem cop_pwr {e y:List Rat} (h:Cop e y):∀m,Cop e (pwrF y m)
 | 0=>⟨[],[1],fun x=>by rw [ev_pwrF,ev_nil,ev_one,Rat.pow_zero];grind⟩
 | m+1=>(cop_pwr h m).mul h fun x=>by rw [ev_pwrF,ev_pwrF,pow_add1]
theorem sqf_cop {z D e:List Rat} (h:Cop z (derivF z)) (k:∀x,evR z x=evR D x*evR e x):Cop D e:=by
 obtain⟨u,w,hu⟩:=h;refine⟨addF (mulF u e) (mulF w (derivF e)),mulF w (derivF D),fun x=>?_⟩;rw [ev_addF,ev_mulF,ev_mulF,ev_mulF,←hu x,deriv_prod k,k];grind
theorem sqf_dv {z y:List Rat} (hz:Cop z (derivF z)) (z0:0<dgF z) {m:Nat} (h:Dv z (pwrF y m)):Dv z y:=by
 obtain⟨⟨D1,D2,-⟩,Dm⟩:=gcd_gc z y;obtain⟨D0,-⟩:=D1.dg z0;obtain⟨e,he⟩:=D1;have e0:=(dg_parts he z0).2;have hDe:=sqf_cop hz he
 have hey:Cop e y:=by
  obtain⟨⟨g1,g2,-⟩,gm⟩:=gcd_gc e y;have gD:Dv (commonF e y) (commonF z y):=gcd_great (g1.trans ⟨commonF z y,fun x=>by rw [he];grind⟩) g2;exact cop_of_unit (cop_unit (hDe.sub gD) g1)
 have e1:dgF e=1:=cop_unit (cop_pwr hey m) ((show Dv e z from ⟨commonF z y,fun x=>by rw [he];grind⟩).trans h);have hc:∀x,evR e x=co e 0:=ev_dg1 (by omega)
 have hc0:co e 0≠0:=fun g=>by
  have:=dg_of_zero (p:=e) fun x=>by rw [hc,g]
  omega
 refine Dv.trans (b:=commonF z y) ⟨[1 / co e 0],fun x=>?_⟩ D2;rw [ev_const,he,hc]
 have:=inv_ne hc0
 generalize 1 / co e 0=w at *
 grind
theorem sqf_mul {a b c:List Rat} (ha:Cop a (derivF a)) (hb:Cop b (derivF b)) (hab:Cop a b) (e:∀x,evR c x=evR a x*evR b x):Cop c (derivF c):=by
 have h1:Cop a (derivF c):=(ha.mul hab (p:=mulF (derivF a) b) (fun x=>ev_mulF _ _ x)).add (c:=derivF b) fun x=>by rw [deriv_prod e,ev_mulF]
 have h2:Cop b (derivF c):=(hb.mul hab.symm (p:=mulF (derivF b) a) (fun x=>ev_mulF _ _ x)).add (c:=derivF a) fun x=>by rw [deriv_prod e,ev_mulF];grind
 exact(h1.symm.mul h2.symm e).symm
theorem parts_mul {f h:List Rat} (mf:Mo f) (mh:Mo h) (f0:0<dgF f) (h0:0<dgF h):∃b,Sqf b∧Mo b∧Cop (baseP f) b∧Cop (commonF (baseP f) (baseP h)) b∧(∀x,evR (baseP h) x=evR (commonF (baseP f) (baseP h)) x*evR b x)∧(∀x,evR (baseP (mulF f h)) x=evR (baseP f) x*evR b x)∧nextP (mulF f h)=mulF (mulF (nextP f) (nextP h)) (commonF (baseP f) (baseP h)):=by
 have sf:=base_sqf mf f0;have sh:=base_sqf mh h0;obtain⟨bf,-⟩:=base_mo mf f0;obtain⟨bh,-⟩:=base_mo mh h0;have mp:=mf.mul mh f0 h0;have p0:0<dgF (mulF f h):=by have:=dg_mul (r:=mulF f h) (fun x=>ev_mulF f h x) f0 h0;omega
 obtain⟨bp,bp0⟩:=base_mo mp p0;have sp:=base_sqf mp p0;obtain⟨⟨c1,c2,-⟩,cm⟩:=gcd_gc (baseP f) (baseP h);obtain⟨c0,-⟩:=c1.dg sf.pos;obtain⟨b',hb'⟩:∃b',(divF (baseP h) (commonF (baseP f) (baseP h))).1=b':=⟨_,rfl⟩;have eb:∀x,evR (baseP h) x=evR (commonF (baseP f) (baseP h)) x*evR b' x:=by rw [←hb'];exact quo_dv c0 c2
 have tb:trimF b'=b':=by rw [←hb'];exact quo_trim _ _
 obtain⟨mb,b0⟩:=bh.quo sh.pos cm tb eb;have hcb:Cop (commonF (baseP f) (baseP h)) b':=sqf_cop sh.cop eb;have bdv:Dv b' (baseP h):=⟨commonF (baseP f) (baseP h),fun x=>by rw [eb];grind⟩;have sb:Sqf b':=⟨b0,tb,cop_dv_deriv sh.cop bdv⟩
 have hfb:Cop (baseP f) b':=by
  obtain⟨⟨g1,g2,-⟩,gm⟩:=gcd_gc (baseP f) b';have gc:Dv (commonF (baseP f) b') (commonF (baseP f) (baseP h)):=gcd_great g1 (g2.trans bdv);exact cop_of_unit (cop_unit (hcb.sub gc) g2)
 obtain⟨y,hy⟩:∃y,mulF (baseP f) b'=y:=⟨_,rfl⟩;have ey:∀x,evR y x=evR (baseP f) x*evR b' x:=fun x=>by rw [←hy,ev_mulF]
 have my:Mo y:=by rw [←hy];exact bf.mul mb sf.pos b0
 have sy:Cop y (derivF y):=sqf_mul sf.cop sb.cop hfb ey
 have y0:0<dgF y:=by
  have q1:=sf.pos;have q2:=b0;have q3:=dg_mul ey sf.pos b0;rw [q3];omega
 have fy:Dv (baseP f) y:=⟨b',ey⟩
 have hyd:Dv (baseP h) y:=by
  obtain⟨u,hu⟩:=c1;exact⟨u,fun x=>by rw [ey,hu,eb];grind⟩
 have yp:Dv y (mulF f h):=by
  obtain⟨u,hu⟩:=bdv;refine⟨mulF (mulF (nextP f) (nextP h)) u,fun x=>?_⟩;rw [ev_mulF,ev_mulF,ev_mulF,ey,base_ev f0,base_ev h0,hu];grind
 have dpow:∀ {a b:List Rat} (k:Nat),Dv a b→Dv (pwrF a k) (pwrF b k):=fun k ⟨u,hu⟩=>⟨pwrF u k,fun x=>by rw [ev_pwrF,ev_pwrF,ev_pwrF,hu,mul_pow]⟩
 have py:∃k,Dv (mulF f h) (pwrF y k):=by
  obtain⟨k,u,e1⟩:=base_pow _ f mf f0 (Nat.le_refl _);obtain⟨l,v,e2⟩:=base_pow _ h mh h0 (Nat.le_refl _);refine⟨k+l,?_⟩;have d1:Dv f (pwrF y k):=Dv.trans ⟨u,fun x=>by rw [ev_pwrF,e1]⟩ (dpow k fy);have d2:Dv h (pwrF y l):=Dv.trans ⟨v,fun x=>by rw [ev_pwrF,e2]⟩ (dpow l hyd);obtain⟨u',hu'⟩:=d1;obtain⟨v',hv'⟩:=d2;refine⟨mulF u' v',fun x=>?_⟩;have q1:=hu' x;have q2:=hv' x;rw [ev_pwrF] at q1 q2;rw [ev_pwrF,rpow_add,q1,q2,ev_mulF,ev_mulF];grind
 obtain⟨k,hk⟩:=py;obtain⟨l,v,e2⟩:=base_pow _ (mulF f h) mp p0 (Nat.le_refl _)
 have hzy:baseP (mulF f h)=y:=by
  refine bp.uniq my ?_ ?_
  ·exact sqf_dv sp.cop sp.pos ((show Dv (baseP (mulF f h)) (mulF f h) from ⟨nextP (mulF f h),fun x=>by rw [base_ev p0];grind⟩).trans hk)
  ·exact sqf_dv sy y0 (m:=l) (yp.trans ⟨v,fun x=>by rw [ev_pwrF,e2]⟩)
 refine⟨b',sb,mb,hfb,hcb,eb,fun x=>by rw [hzy];exact ey x,?_⟩;refine Mo.of_ev (nextP_mo _).1 (trim_trim _) fun x=>?_;refine ev_cancel (p:=y) (q:=nextP (mulF f h)) (r:=mulF (mulF (nextP f) (nextP h)) (commonF (baseP f) (baseP h))) y0 (fun x=>?_) x;have q1:=base_ev p0 x;rw [hzy,ev_mulF,base_ev f0,base_ev h0,eb] at q1;rw [ev_mulF,ev_mulF,ey];rw [ey] at q1
 grind
theorem Tt_sqf {c:List Rat} (h:Sqf c) (m:Mo c):Tt c=turnF (ownF c):=by
 rcases Nat.lt_or_ge 1 (dgF c) with g|g
 ·rw [Tt_step g]
  have:nextP c=[1]:=h.cop.gcd
  rw [this,Tt_one (show dgF [(1:Rat)]≤1 by decide)];omega
 ·have:=h.pos
  rw [Tt_one g,turn_one (by omega)]
theorem Tt_mul:∀(N:Nat) (f h:List Rat),Mo f→Mo h→0<dgF f→0<dgF h→dgF f+dgF h≤N→Tt (mulF f h)=Tt f+Tt h
 | 0,f,h,_,_,f0,h0,hN=>by omega
 | N+1,f,h,mf,mh,f0,h0,hN=>by
  have hdm:=dg_mul (r:=mulF f h) (fun x=>ev_mulF f h x) f0 h0
  rcases Nat.lt_or_ge 1 (dgF f) with gf|gf
  ·rcases Nat.lt_or_ge 1 (dgF h) with gh|gh
   ·obtain⟨b,sb,mb,hfb,hcb,eb,ez,en⟩:=parts_mul mf mh f0 h0
    have mp:=mf.mul mh f0 h0;have p0:0<dgF (mulF f h):=by omega
    have sf:=base_sqf mf f0;have sh:=base_sqf mh h0;have sp:=base_sqf mp p0;obtain⟨⟨c1,-,-⟩,cm⟩:=gcd_gc (baseP f) (baseP h);obtain⟨c0,-⟩:=c1.dg sf.pos;have sc:Sqf (commonF (baseP f) (baseP h)):=⟨c0,cm.1,cop_dv_deriv sf.cop c1⟩;have n1:=turn_mul sf sb sp ez hfb;have n2:=turn_mul sc sb sh eb hcb;have nf0:=nextP_pos f0;have nh0:=nextP_pos h0;have hnl:=nextP_less (p:=mulF f h) (by omega);have d1:=dg_mul (r:=mulF (nextP f) (nextP h)) (fun x=>ev_mulF _ _ x) nf0 nh0;have d2:=dg_mul (r:=mulF (mulF (nextP f) (nextP h)) (commonF (baseP f) (baseP h))) (fun x=>ev_mulF _ _ x) (by omega) c0;rw [en] at hnl;have l1:=nextP_less gf;have l2:=nextP_less gh;have i1:=Tt_mul N (mulF (nextP f) (nextP h)) (commonF (baseP f) (baseP h)) ((nextP_mo f).mul (nextP_mo h) nf0 nh0) cm (by omega) c0 (by omega);have i2:=Tt_mul N (nextP f) (nextP h) (nextP_mo f) (nextP_mo h) nf0 nh0 (by omega);rw [Tt_step (p:=mulF f h) (by omega),Tt_step gf,Tt_step gh,en,i1,i2,Tt_sqf sc cm,own_base mp p0,own_base mf f0,own_base mh h0,n1,n2];omega
   ·have:h=[1]:=mo_one_of mh (by omega)
    have e:mulF f h=f:=Mo.of_ev (trim_trim _) mf.1 fun x=>by rw [ev_mulF,this,ev_one];grind
    rw [e,Tt_one gh];omega
  ·have:f=[1]:=mo_one_of mf (by omega)
   have e:mulF f h=h:=Mo.of_ev (trim_trim _) mh.1 fun x=>by rw [ev_mulF,this,ev_one];grind
   rw [e,Tt_one gf];omega
theorem Tt_low:∀(N:Nat) (p:List Rat),0<dgF p→dgF p≤N→(∀x y,x≤y→Low p x y)→Tt p=0
 | 0,p,h,hN,_=>by omega
 | N+1,p,h,hN,hL=>by
  rcases Nat.lt_or_ge 1 (dgF p) with g|g
  ·have l1:=nextP_less g
   rw [Tt_step g,Tt_low N (nextP p) (nextP_pos h) (by omega) fun x y hxy=>(hL x y hxy).fac hxy fun t=>quo_dv (nextP_pos h) (nextP_dv p).1 t];obtain⟨B,hB,e⟩:=turn_far (dn_all (own_turn h).2.2.2);rw [e B Rat.le_refl,(hL (-B) B (by grind)).count h (by grind)];rfl
  ·exact Tt_one g
def Cbd (B L:Rat) (p:List Rat):Prop:=1≤B∧0<L∧topF p*topF p=L*L∧∀i,i+1<p.length→Ab ((B - 1)*L) (co p i)
theorem Cbd.tail {B L c:Rat} {q:List Rat} (h:Cbd B L (c :: q)) (hq:q≠[]):Cbd B L q∧Ab ((B - 1)*L) c:=by
 obtain⟨h1,h2,h3,h4⟩:=h;have hl:0<q.length:=List.length_pos_iff.2 hq
 have ht:topF (c :: q)=topF q:=by
  unfold topF;rw [List.length_cons,show q.length+1 - 1=q.length - 1+1 by omega,co_succ]
 rw [ht] at h3;exact⟨⟨h1,h2,h3,fun i hi=>h4 (i+1) (by simp;omega)⟩,h4 0 (by simp;omega)⟩
theorem cv_line (x y:Rat):cvR [0,1] x y=(x,y):=Prod.ext (by show (0*x - 0*y+1)*x - (0*y+0*x)*y+0=x;grind) (by show (0*x - 0*y+1)*y+(0*y+0*x)*x=y;grind)
theorem plane_far {B L x y:Rat} (hz:B*B≤x*x+y*y):∀p:List Rat,p≠[]→Cbd B L p→L*L≤(cvR p x y).1*(cvR p x y).1+(cvR p x y).2*(cvR p x y).2
 | [],h,_=>absurd rfl h
 | [c],_,h=>by
  obtain⟨h1,h2,h3,h4⟩:=h;have e:topF [c]=c:=rfl;rw [e] at h3
  show L*L≤(0*x - 0*y+c)*(0*x - 0*y+c)+(0*y+0*x)*(0*y+0*x)
  rw [←h3];grind
 | c :: d :: q,_,h=>by
  obtain⟨hq,hc⟩:=h.tail (by simp);have ih:=plane_far hz (d :: q) (by simp) hq;obtain⟨h1,h2,-,-⟩:=h
  show L*L≤((cvR (d :: q) x y).1*x - (cvR (d :: q) x y).2*y+c)*((cvR (d :: q) x y).1*x - (cvR (d :: q) x y).2*y+c)+((cvR (d :: q) x y).1*y+(cvR (d :: q) x y).2*x)*((cvR (d :: q) x y).1*y+(cvR (d :: q) x y).2*x)
  generalize (cvR (d :: q) x y).1=u at *;generalize (cvR (d :: q) x y).2=v at *;have r0:=Rat.mul_nonneg (show 0≤B - 1 by grind) (Rat.le_of_lt h2)
  have hN:(B*L)*(B*L)≤(u*x - v*y)*(u*x - v*y)+(u*y+v*x)*(u*y+v*x):=by
   have e:(u*x - v*y)*(u*x - v*y)+(u*y+v*x)*(u*y+v*x)=(x*x+y*y)*(u*u+v*v):=by grind
   have e2:(B*L)*(B*L)=(B*B)*(L*L):=by grind
   rw [e,e2];exact mul_le' hz ih (sq_nn B) (sq_nn L)
  have:=far_add (R:=B*L) (r:=(B - 1)*L) r0 (by grind) hN hc
  have e3:B*L - (B - 1)*L=L:=by grind
  rw [e3] at this;exact this
theorem plane_dot {B L c x y:Rat} {q:List Rat} (hz:B*B≤x*x+y*y) (hq:q≠[]) (h:Cbd B L (c :: q)):0<dotq (cvR (c :: q) x y).1 (cvR (c :: q) x y).2 (cvR (mulF [0,1] q) x y).1 (cvR (mulF [0,1] q) x y).2:=by
 obtain⟨hq',hc⟩:=h.tail hq;have ih:=plane_far hz q hq hq';obtain⟨h1,h2,-,-⟩:=h;obtain⟨m1,m2⟩:=cv_mul [0,1] q x y;rw [cv_line] at m1 m2;rw [m1,m2]
 show 0<dotq ((cvR q x y).1*x - (cvR q x y).2*y+c) ((cvR q x y).1*y+(cvR q x y).2*x) _ _
 generalize (cvR q x y).1=u at *;generalize (cvR q x y).2=v at *;have r0:=Rat.mul_nonneg (show 0≤B - 1 by grind) (Rat.le_of_lt h2)
 have hN:(B*L)*(B*L)≤(u*x - v*y)*(u*x - v*y)+(u*y+v*x)*(u*y+v*x):=by
  have e:(u*x - v*y)*(u*x - v*y)+(u*y+v*x)*(u*y+v*x)=(x*x+y*y)*(u*u+v*v):=by grind
  have e2:(B*L)*(B*L)=(B*B)*(L*L):=by grind
  rw [e,e2];exact mul_le' hz ih (sq_nn B) (sq_nn L)
 have:=far_dot (R:=B*L) (r:=(B - 1)*L) r0 (by grind) hN hc
 unfold dotq
 show 0<(u*x - v*y+c)*(x*u - y*v)+(u*y+v*x)*(x*v+y*u)
 grind
theorem square_far {B:Rat}:∀s ∈ sidesF (-B) B (-B) B,∀t,B*B≤evR s.1 t*evR s.1 t+evR s.2.1 t*evR s.2.1 t:=by
 intro s hs t;have h1:=sq_nn t;unfold sidesF at hs
 simp only [List.mem_cons,List.mem_nil_iff,or_false] at hs
 rcases hs with rfl|rfl|rfl|rfl
 ·show B*B≤evR [0,1] t*evR [0,1] t+evR [-B] t*evR [-B] t
  rw [ev_line,ev_const];grind
 ·show B*B≤evR [B] t*evR [B] t+evR [0,1] t*evR [0,1] t
  rw [ev_line,ev_const];grind
 ·show B*B≤evR [0,1] t*evR [0,1] t+evR [B] t*evR [B] t
  rw [ev_line,ev_const];grind
 ·show B*B≤evR [-B] t*evR [-B] t+evR [0,1] t*evR [0,1] t
  rw [ev_line,ev_const];grind
theorem square_sfar {B L:Rat} {p:List Rat} (hp:p≠[]) (h:Cbd B L p):∀s ∈ sidesF (-B) B (-B) B,SFar p s:=fun s hs=>by
 refine⟨L*L,Rat.mul_pos h.2.1 h.2.1,fun t _ _=>?_⟩;rw [(along_ev s.1 s.2.1 t p).1,(along_ev s.1 s.2.1 t p).2];exact plane_far (square_far s hs t) p hp h
theorem lift_side {f h:List Rat} {x y:Rat} (hxy:x≤y) (F:Far2 f h x y) (Λ:Rat→Int) (hΛ:∀a b,dQ (evR f a) (evR h a) (evR f b) (evR h b)=Λ b - Λ a):T1 f h x y (Λ y - Λ x):=by
 obtain⟨d,d0,p1⟩:=side_piece hxy F;obtain⟨n,hn⟩:=arch d0 (y - x);refine by_pieces d0 (fun a b=>T1 f h a b (Λ b - Λ a)) (fun a=>by rw [Int.sub_self];exact .refl _ _ _) (fun a b c _ _ r1 r2=>?_) (lo:=x) (hi:=y) (fun a b g1 g2 g3 g4=>?_) n x y Rat.le_refl hxy Rat.le_refl hn
 ·have:=r1.trans r2
  rw [show Λ b - Λ a+(Λ c - Λ b)=Λ c - Λ a by omega] at this;exact this
 ·obtain⟨c1,i1⟩:=p1 a b g1 g2 g3 g4
  have:=T1.piece i1
  rw [hΛ] at this;exact this
theorem four_fin:∀b ∈ tri3,∀e ∈ tri3,rep8 (Qi e (-1) - Qi b (-1))=e - b∧rep8 (Qi e 1 - Qi b 1) = -e - -b∧rep8 (Qi (-1) e - Qi (-1) b) = -e - -b:=by decide +kernel
theorem square_line {B:Rat} (hB:0<B):totS [0,1] (sidesF (-B) B (-B) B)=4:=by
 have hf:∀s ∈ sidesF (-B) B (-B) B,SFar [0,1] s:=fun s hs=>by
  refine⟨B*B,Rat.mul_pos hB hB,fun t _ _=>?_⟩;rw [(along_ev s.1 s.2.1 t [0,1]).1,(along_ev s.1 s.2.1 t [0,1]).2,cv_line];exact square_far s hs t
 have hm:aq (-B) B = -B∧ar (-B) B=B:=min_of_le (by grind)
 have hm2:aq B (-B) = -B∧ar B (-B)=B:=by
  have h1:=min_le' B (-B);unfold aq ar at *
  split at*<;> split at*<;> grind
 have hle:-B≤B:=by grind
 have f1:=hf ([0,1],[-B],-B,B) (by simp [sidesF]);have f2:=hf ([B],[0,1],-B,B) (by simp [sidesF]);have f3:=hf ([0,1],[B],B,-B) (by simp [sidesF]);have f4:=hf ([-B],[0,1],B,-B) (by simp [sidesF]);unfold SFar at f1 f2 f3 f4
 dsimp only at f1 f2 f3 f4
 rw [hm.1,hm.2] at f1 f2;rw [hm2.1,hm2.2] at f3 f4
 have at1:∀X Y t,evR (alongU X Y [0,1]).1 t=evR X t∧evR (alongU X Y [0,1]).2 t=evR Y t:=fun X Y t=>by
  rw [(along_ev X Y t [0,1]).1,(along_ev X Y t [0,1]).2,cv_line];exact⟨rfl,rfl⟩
 have sB:sgq B=1:=sgq_pos hB;have sB':sgq (-B) = -1:=by rw [sgq_min,sB]
 have t1:=lift_side hle f1 (fun t=>sgq t) (fun a b=>by
  rw [(at1 _ _ a).1,(at1 _ _ a).2,(at1 _ _ b).1,(at1 _ _ b).2,ev_line,ev_line,ev_const,ev_const];unfold dQ Qd;rw [sB'];exact(four_fin _ (sgq_in a) _ (sgq_in b)).1)
 have t2:=lift_side hle f2 (fun t=>sgq t) (fun a b=>by
  rw [(at1 _ _ a).1,(at1 _ _ a).2,(at1 _ _ b).1,(at1 _ _ b).2,ev_line,ev_line,ev_const,ev_const];unfold dQ Qd;rw [sB];exact right_fin _ (sgq_in a) _ (sgq_in b))
 have t3:=(lift_side hle f3 (fun t=>-sgq t) (fun a b=>by
  rw [(at1 _ _ a).1,(at1 _ _ a).2,(at1 _ _ b).1,(at1 _ _ b).2,ev_line,ev_line,ev_const,ev_const];unfold dQ Qd;rw [sB];exact(four_fin _ (sgq_in a) _ (sgq_in b)).2.1)).rev
 have t4:=(lift_side hle f4 (fun t=>-sgq t) (fun a b=>by
  rw [(at1 _ _ a).1,(at1 _ _ a).2,(at1 _ _ b).1,(at1 _ _ b).2,ev_line,ev_line,ev_const,ev_const];unfold dQ Qd;rw [sB'];exact(four_fin _ (sgq_in a) _ (sgq_in b)).2.2)).rev
 try dsimp only at t1 t2 t3 t4
 rw [sB,sB'] at t1 t2 t3 t4;obtain⟨m1,n1⟩:=t1;obtain⟨m2,n2⟩:=t2;obtain⟨m3,n3⟩:=t3;obtain⟨m4,n4⟩:=t4;rw [side_at,side_at,ev_line,ev_line,ev_const,ev_const] at m1;rw [side_at,side_at,ev_line,ev_line,ev_const,ev_const] at m2;rw [side_at,side_at,ev_line,ev_line,ev_const,ev_const] at m3;rw [side_at,side_at,ev_line,ev_line,ev_const,ev_const] at m4;rw [side_at,ev_line,ev_const] at n1 n2 n3 n4;rw [tot4,turnS_idx,turnS_idx,turnS_idx,turnS_idx];obtain⟨k,k1,k2⟩:=loop4 m1 n1 m2 n2 m3 n3 m4 n4;have hk:k=1:=by omega
 rw [hk] at k2;exact k2
theorem tot_const (c:Rat) (l:List Side):totS [c] l=0:=by
 have h:∀s:Side,turnS [c] s=0:=fun s=>by
  unfold turnS
  have e:(alongU s.1 s.2.1 [c]).2=[]:=by
   have h1:=(along_tr s.1 s.2.1 [c]).2;rw [←h1];refine trim_zero fun i=>?_
   show co (addF (mulF [] s.2.1) (mulF [] s.1)) i=0
   rw [co_addF];have n:∀X:List Rat,co (mulF [] X) i=0:=fun X=>ev_inj (p:=mulF [] X) (q:=[]) (fun x=>by rw [ev_mulF,ev_nil];grind) i
   show co _ i+co _ i=0
   rw [n,n];grind
  rw [if_pos e]
 induction l with
 | nil=>rfl
 | cons s l ih=>
  show turnS [c] s+totS [c] l=0
  rw [h,ih];rfl
theorem square_deg {B L:Rat}:∀p:List Rat,p≠[]→Cbd B L p→totS p (sidesF (-B) B (-B) B)=4*((p.length:Int) - 1)
 | [],h,_=>absurd rfl h
 | [c],_,_=>by rw [tot_const];rfl
 | c :: d :: q,_,h=>by
  obtain⟨hq,hc⟩:=h.tail (by simp);have ih:=square_deg (d :: q) (by simp) hq;have hB:0<B:=by have:=h.1;grind
  have fp:=square_sfar (p:=c :: d :: q) (by simp) h;have fq:=square_sfar (p:=d :: q) (by simp) hq
  have fl:∀s ∈ sidesF (-B) B (-B) B,SFar [0,1] s:=fun s hs=>by
   refine⟨B*B,Rat.mul_pos hB hB,fun t _ _=>?_⟩;rw [(along_ev s.1 s.2.1 t [0,1]).1,(along_ev s.1 s.2.1 t [0,1]).2,cv_line];exact square_far s hs t
  have e1:=rect_near (p:=c :: d :: q) (q:=mulF [0,1] (d :: q)) fp (fun s hs=>SFar.mul.2 ⟨fl s hs,fq s hs⟩) (fun s hs t _ _=>plane_dot (square_far s hs t) (by simp) h);obtain⟨k,l,k1,k2,k3⟩:=rect_prod (p:=[0,1]) (q:=d :: q) fl fq;rw [square_line hB] at k1;rw [ih] at k2;rw [e1,k3]
  simp only [List.length_cons] at k2 ⊢
  omega
theorem square_bound {p:List Rat} (hp:Gd p):rectU p (sidesF (-(boundF p)) (boundF p) (-(boundF p)) (boundF p)) 0=((p.length:Int) - 1,0):=by
 have hlen:=hp.len;have h0:=hp.1
 have hcb:Cbd (boundF p) (absQ (topF p)) p:=by
  refine⟨bound_pos p,absQ_pos hp.top,?_,fun i hi=>?_⟩
  ·unfold absQ;split <;> grind
  ·have hm:Ab (mostF (monicF p) ((monicF p).length - 1)) (co (monicF p) i):=by
    have hml:(monicF p).length=p.length:=by rw [←(mo_mon p).len,dg_mon,hlen]
    exact(most_ge (monicF p) ((monicF p).length - 1) i (by omega) (by omega)).1
   have e:co p i=co (monicF p) i*topF p:=by
    have:=ev_inj (p:=p) (q:=scaleF (monicF p) (topF (trimF p))) (fun x=>by rw [ev_scaleF];exact mon_back h0 x) i
    rw [this,co_scaleF,hp.2]
   rw [e];have hb:boundF p - 1=mostF (monicF p) ((monicF p).length - 1):=by unfold boundF;grind
   rw [hb];exact hm.mul (ab_abs (topF p)).1
 have hd:=square_deg p hp.ne hcb
 rcases rectU_val p (sidesF (-(boundF p)) (boundF p) (-(boundF p)) (boundF p)) 0 with ⟨⟨s,hs,he⟩,-⟩|⟨-,b⟩
 ·exact absurd he ((edge_s hp (sides_line s hs)).2 (square_sfar hp.ne hcb s hs))
 ·rw [b,hd,tdiv4]
def zA (p:List Rat) (x:Rat):Int:=if atF x p=0 then 1 else 0
theorem flips_zero (l:List Int):flipsU 0 (0 :: l)=flipsU 0 l:=by rw [flips_cons,if_pos rfl]
theorem flips_first {u:Int} (h:u≠0) (l:List Int):flipsU 0 (u :: l)=flipsU u l:=by rw [flips_cons,if_neg h,chg0];omega
theorem gap_chg {u v:Int} (hu:u=1∨u = -1) (hv:v=1∨v = -1):gap u v=2*chg u v:=by
 rcases hu with rfl|rfl <;> rcases hv with rfl|rfl <;> decide
theorem chn_steps (x:Rat) {c:List (List Rat)} (h:Chn c):∀p l,c=p :: l→stepsF c x=2*vF c x+zA p x:=by
 have vals:∀p:List Rat,atF x p≠0→atF x p=1∨atF x p = -1:=fun p hp=>by
  rcases at_cases x p with ⟨e,-⟩|⟨e,-⟩|⟨e,-⟩ <;> omega
 induction h with
 | @one p k hk hc=>
  intro p' l e
  injection e with e1 e2
  subst e1 e2;have hp:atF x p≠0:=fun z=>hk ((hc x).symm.trans (atF_zero.1 z))
  show stepsU [atF x p]=2*flipsU 0 [atF x p]+zA p x
  unfold zA;rw [stepsU_short (by simp),flips_first hp,if_neg hp];rfl
 | @two p q hc hq ih=>
  intro p' l e
  injection e with e1 e2
  subst e1 e2;have ih:=ih q [] rfl
  have hq0:atF x q≠0:=by
   cases hq with
   | one hk hcq=>exact fun z=>hk ((hcq x).symm.trans (atF_zero.1 z))
  have ih':stepsU [atF x q]=2*flipsU 0 [atF x q]+zA q x:=ih;unfold zA at ih';rw [if_neg hq0,flips_first hq0] at ih'
  show stepsU (atF x p :: atF x q :: [])=2*flipsU 0 (atF x p :: atF x q :: [])+zA p x
  unfold zA;rw [steps_cons]
  by_cases hp:atF x p=0
  ·rw [if_pos hp,hp,flips_zero,flips_first hq0]
   have:gap 0 (atF x q)=1:=by rcases vals q hq0 with e|e <;> rw [e] <;> decide
   omega
  ·rw [if_neg hp,flips_first hp,flips_cons,if_neg hq0,gap_chg (vals p hp) (vals q hq0)]
   omega
 | @more p q r s k l hc hk hr hq ih=>
  intro p' l' e
  injection e with e1 e2
  subst e1 e2;have ih':stepsU (atF x q :: atF x r :: l.map (atF x))=2*flipsU 0 (atF x q :: atF x r :: l.map (atF x))+zA q x:=ih q (r :: l) rfl
  show stepsU (atF x p :: atF x q :: atF x r :: l.map (atF x))=2*flipsU 0 (atF x p :: atF x q :: atF x r :: l.map (atF x))+zA p x
  rw [steps_cons,ih'];unfold zA;obtain⟨u,v,huv⟩:=hc
  by_cases hp:atF x p=0
  ·have hq0:atF x q≠0:=fun z=>by
    have h1:=huv x;rw [atF_zero.1 hp,atF_zero.1 z] at h1
    grind
   rw [if_pos hp,if_neg hq0,hp,flips_zero]
   have:gap 0 (atF x q)=1:=by rcases vals q hq0 with e|e <;> rw [e] <;> decide
   omega
  ·rw [if_neg hp,flips_first hp]
   by_cases hq0:atF x q=0
   ·have h1:=hr x
    rw [atF_zero.1 hq0] at h1
    have hpr:atF x r = -atF x p:=by
     rcases at_cases x p with ⟨e,h2⟩|⟨e,h2⟩|⟨e,h2⟩
     ·exact absurd e hp
     ·have:evR r x<0:=by
       rcases lt_or_le' (evR r x) 0 with g|g
       ·exact g
       ·have:=Rat.mul_nonneg (Rat.le_of_lt hk) g;grind
      rw [e];exact sign_neg' this
     ·have:0<evR r x:=by
       rcases lt_or_le' 0 (evR r x) with g|g
       ·exact g
       ·have:=Rat.mul_nonneg (Rat.le_of_lt hk) (show 0≤-evR r x by grind);grind
      rw [e];exact sign_pos' this
    have hr0:atF x r≠0:=by omega
    rw [if_pos hq0,hq0,flips_zero,flips_first hr0,flips_cons,if_pos rfl,flips_cons,if_neg hr0];have g1:gap (atF x p) 0=1:=by rcases vals p hp with e|e <;> rw [e] <;> decide
    have g2:chg (atF x p) (atF x r)=1:=by rw [hpr];rcases vals p hp with e|e <;> rw [e] <;> decide
    omega
   ·have h9:=flips_first hq0 (atF x r :: l.map (atF x))
    rw [if_neg hq0,h9,flips_cons (atF x p),if_neg hq0,gap_chg (vals p hp) (vals q hq0)];omega
theorem small_at {h:List Rat} (h0:0<dgF h) (t:Rat):atF t (smallF h)=atF t h:=by
 obtain⟨k,k0,e,-,-⟩:=small_ev h0
 have:=at_times (D:=[k]) (a:=smallF h) (b:=h) (σ:=1) (x:=t) (.inl rfl) (by rw [ev_const];grind) (by rw [ev_const,e];grind)
 rw [this,si_one];omega
theorem idx_between {f h:List Rat} (hc:Cop h f) (h0:0<dgF h) {u v:Rat} (hu:evR h u≠0) (hv:evR h v≠0):idx f h u v=2*betweenF (chainF h f) u v:=by
 have hz:∀t,evR h t≠0→zA (smallF h) t=0:=fun t ht=>by
  unfold zA;rw [small_at h0,if_neg fun z=>ht (atF_zero.1 z)]
 unfold idx;rw [if_neg (trim_ne h0),between_v]
 rcases Nat.eq_zero_or_pos (dgF f) with z|z
 ·have e:chainF h f=[smallF h]:=by
   unfold chainF;rw [small_nil z];exact chain_one _ (ne_of_dg (by rw [dgSm];exact h0))
  rw [e]
  have n:∀t,vF [smallF h] t=0:=fun t=>by
   show flipsU 0 [atF t (smallF h)]=0
   rw [flips_cons,chg0];split <;> rfl
  rw [n,n]
  show stepsU _ - stepsU _=_
  rw [stepsU_short (by simp),stepsU_short (by simp)];rfl
 ·obtain⟨c1,l,c2⟩:=chn_of (h.length+f.length+1) (smallF h) (smallF f) (by rw [dgSm];exact h0) (by rw [dgSm];exact z) (by rw [dgSm];have:=dg_len f;omega) (small_cop h0 hc)
  have e:chainF h f=smallF h :: smallF f :: l:=c2;have c3:Chn (chainF h f):=c1;rw [chn_steps u c3 _ _ e,chn_steps v c3 _ _ e,hz u hu,hz v hv];omega
def T2 (f h:List Rat) (u v:Rat) (w:Int):Prop:=T1 f h u v w∧T1 h f u v (-w)
theorem swap_fin:∀a ∈ tri3,∀b ∈ tri3,∀c ∈ tri3,∀e ∈ tri3,(a*c=1∨b*e=1)→rep8 (Qi e c - Qi b a) = -rep8 (Qi c e - Qi a b):=by decide +kernel
theorem dQ_swap {x y u v:Rat} (h:0<dotq x y u v):dQ y x v u = -dQ x y u v:=swap_fin _ (sgq_in x) _ (sgq_in y) _ (sgq_in u) _ (sgq_in v) (dotq_sg h)
theorem neg_fin:∀a ∈ tri3,∀b ∈ tri3,∀c ∈ tri3,∀e ∈ tri3,(a*c=1∨b*e=1)→rep8 (Qi (-c) (-e) - Qi (-a) (-b))=rep8 (Qi c e - Qi a b):=by decide +kernel
theorem dQ_fac {x y u v k l:Rat} {ρ:Rat} (hρ:Pm ρ) (hk:0<ρ*k) (hl:0<ρ*l) (h:0<dotq x y u v):dQ (x*k) (y*k) (u*l) (v*l)=dQ x y u v:=by
 unfold dQ
 rcases hρ with rfl|rfl
 ·rw [Qd_scale (by grind),Qd_scale (by grind)]
 ·have e1:Qd (x*k) (y*k)=Qd (-x) (-y):=by rw [show x*k = -x*-k by grind,show y*k = -y*-k by grind];exact Qd_scale (by grind)
  have e2:Qd (u*l) (v*l)=Qd (-u) (-v):=by rw [show u*l = -u*-l by grind,show v*l = -v*-l by grind];exact Qd_scale (by grind)
  rw [e1,e2];unfold Qd;rw [sgq_min,sgq_min,sgq_min,sgq_min];exact neg_fin _ (sgq_in x) _ (sgq_in y) _ (sgq_in u) _ (sgq_in v) (dotq_sg h)
theorem line_prod {f1 h1 f2 h2 f3 h3 f4 h4 g:List Rat} {x y:Rat} (hxy:x≤y) (e:Prd f1 h1 f2 h2 f3 h3) (eg:∀t,evR f3 t=evR f4 t*evR g t∧evR h3 t=evR h4 t*evR g t) (hg:Low g x y) (F1:Far2 f1 h1 x y) (F2:Far2 f2 h2 x y) (F4:Far2 f4 h4 x y):∃w1 w2 w4,T2 f1 h1 x y w1∧T2 f2 h2 x y w2∧T2 f4 h4 x y w4∧w4 - w1 - w2=dl f1 h1 f2 h2 y - dl f1 h1 f2 h2 x:=by
 have sw:∀ {f h:List Rat},Far2 f h x y→Far2 h f x y:=fun ⟨ε,he,k⟩=>⟨ε,he,fun t a b=>by have:=k t a b;grind⟩;obtain⟨d1,d10,p1⟩:=side_piece hxy F1;obtain⟨d2,d20,p2⟩:=side_piece hxy F2;obtain⟨d4,d40,p4⟩:=side_piece hxy F4;obtain⟨c1,c10,s1⟩:=side_piece hxy (sw F1);obtain⟨c2,c20,s2⟩:=side_piece hxy (sw F2);obtain⟨c4,c40,s4⟩:=side_piece hxy (sw F4);obtain⟨d3,d30,p3⟩:=((e.far hxy).2 ⟨F1,F2⟩).close;obtain⟨ρ,hρ,hgx⟩:=hg.fx;obtain⟨m1,a1,b1,b1'⟩:=min_ex d10 d20;obtain⟨m2,a2,b2,b2'⟩:=min_ex d30 d40;obtain⟨m3,a3,b3,b3'⟩:=min_ex c10 c20;obtain⟨m4,a4,b4,b4'⟩:=min_ex a1 a2;obtain⟨m5,a5,b5,b5'⟩:=min_ex a3 c40;obtain⟨d,d0,b6,b6'⟩:=min_ex a4 a5;obtain⟨n,hn⟩:=arch d0 (y - x);refine by_pieces d0 (fun u v=>∃w1 w2 w4,T2 f1 h1 u v w1∧T2 f2 h2 u v w2∧T2 f4 h4 u v w4∧w4 - w1 - w2=dl f1 h1 f2 h2 v - dl f1 h1 f2 h2 u) (fun a=>⟨0,0,0,⟨.refl _ _ _,.refl _ _ _⟩,⟨.refl _ _ _,.refl _ _ _⟩,⟨.refl _ _ _,.refl _ _ _⟩,by omega⟩) (fun a b c _ _ r1 r2=>?_) (lo:=x) (hi:=y) (fun a b g1 g2 g3 g4=>?_) n x y Rat.le_refl hxy Rat.le_refl hn
 ·obtain⟨w1,w2,w4,⟨x1,x1'⟩,⟨x2,x2'⟩,⟨x4,x4'⟩,xe⟩:=r1
  obtain⟨v1,v2,v4,⟨y1,y1'⟩,⟨y2,y2'⟩,⟨y4,y4'⟩,ye⟩:=r2
  have tr:∀ {f h:List Rat} {w v:Int},T1 f h a b (-w)→T1 f h b c (-v)→T1 f h a c (-(w+v)):=fun p q=>by
   have:=p.trans q
   rw [show -(_+_) = -_+-_ from Int.neg_add];exact this
  exact⟨w1+v1,w2+v2,w4+v4,⟨x1.trans y1,tr x1' y1'⟩,⟨x2.trans y2,tr x2' y2'⟩,⟨x4.trans y4,tr x4' y4'⟩,by omega⟩
 ·obtain⟨k1,i1⟩:=p1 a b g1 g2 g3 (by grind)
  obtain⟨k2,i2⟩:=p2 a b g1 g2 g3 (by grind);obtain⟨k4,i4⟩:=p4 a b g1 g2 g3 (by grind);obtain⟨-,j1⟩:=s1 a b g1 g2 g3 (by grind);obtain⟨-,j2⟩:=s2 a b g1 g2 g3 (by grind);obtain⟨-,j4⟩:=s4 a b g1 g2 g3 (by grind);have k3:=p3 a b g1 g2 g3 (by grind)
  have bk:∀ {f h:List Rat},0<dotq (evR f a) (evR h a) (evR f b) (evR h b)→idx h f a b=Lf (Qd (evR h a) (evR f a)+dQ (evR h a) (evR f a) (evR h b) (evR f b)) - Lf (Qd (evR h a) (evR f a))→T1 h f a b (-dQ (evR f a) (evR h a) (evR f b) (evR h b)):=fun hd hi=>by
   rw [←dQ_swap hd];exact .piece hi
  refine⟨_,_,_,⟨.piece i1,bk k1 j1⟩,⟨.piece i2,bk k2 j2⟩,⟨.piece i4,bk k4 j4⟩,?_⟩;obtain⟨ea,eb⟩:=e a;obtain⟨fa,fb⟩:=e b;have hq:=dQ_fac hρ (hgx a g1 (Rat.le_trans g2 g3)) (hgx b (Rat.le_trans g1 g2) g3) k4;rw [←(eg a).1,←(eg a).2,←(eg b).1,←(eg b).2] at hq;rw [←hq];rw [ea,eb,fa,fb] at k3 ⊢;exact dQ_prod k1 k2 k3
def Dm (f h:List Rat) (t:Rat):Prop:=evR f t*evR f t<evR h t*evR h t
theorem dominate {f h:List Rat} (hh:Gd h) (hl:dgF f<dgF h):∃B:Rat,1≤B∧∀x,B≤x→Dm f h x∧Dm f h (-x):=by
 have hlen:=hh.len;have hh0:=hh.1
 have top:∀(l:List Rat) (σ:Rat),(∀i,co l i=co h i+σ*co f i)→trimF l=l→Gd l∧l.length=h.length∧topF l=topF h:=fun l σ e ht=>by
  have h1:co l (h.length - 1)=topF h:=by
   rw [e,dg_ge (p:=f) (i:=h.length - 1) (by omega)]
   show co h (h.length - 1)+_=co h (h.length - 1)
   grind
  have h2:=hh.top
  have h3:dgF l=h.length:=by
   have:=len_of (p:=l) (n:=h.length - 1) (by rw [h1];exact h2) (fun k hk=>by rw [e,dg_ge (p:=f) (by omega),co_ge (p:=h) (by omega)];grind)
   unfold dgF;omega
  have h4:l.length=h.length:=by unfold dgF at h3;rw [ht] at h3;exact h3
  exact⟨⟨by omega,ht⟩,h4,by unfold topF;rw [h4];exact h1⟩
 obtain⟨g1,l1,t1⟩:=top (addF h f) 1 (fun i=>by rw [co_addF];grind) (trim_trim _);obtain⟨g2,l2,t2⟩:=top (subF h f) (-1) (fun i=>by rw [co_subF];grind) (trim_trim _)
 obtain⟨B,hB,hx⟩:=far_all [h,addF h f,subF h f] (fun l hl=>by
  simp only [List.mem_cons,List.mem_nil_iff,or_false] at hl
  rcases hl with rfl|rfl|rfl
  ·exact⟨hh.ne,hh.top⟩
  ·exact⟨g1.ne,g1.top⟩
  ·exact⟨g2.ne,g2.top⟩)
 have fin:∀t,atF t (addF h f)=atF t (subF h f)→atF t (addF h f)≠0→Dm f h t:=fun t e1 e2=>by
  unfold Dm
  have h1:0<evR (addF h f) t*evR (subF h f) t:=by
   rcases at_cases t (addF h f) with ⟨a,b⟩|⟨a,b⟩|⟨a,b⟩
   ·exact absurd a e2
   ·rcases at_cases t (subF h f) with ⟨c,d⟩|⟨c,d⟩|⟨c,d⟩
    ·omega
    ·exact Rat.mul_pos b d
    ·omega
   ·rcases at_cases t (subF h f) with ⟨c,d⟩|⟨c,d⟩|⟨c,d⟩
    ·omega
    ·omega
    ·have:=Rat.mul_pos (show 0 < -evR (addF h f) t by grind) (show 0 < -evR (subF h f) t by grind);grind
  rw [ev_addF,ev_subF] at h1
  grind
 refine⟨B,hB,fun x hxB=>?_⟩;have q1:=hx x hxB (addF h f) (by simp);have q2:=hx x hxB (subF h f) (by simp);have s12:sT (addF h f)=sT (subF h f):=by unfold sT;rw [t1,t2]
 have v1:=sT_vals g1
 constructor
 ·refine fin x ?_ ?_
  ·rw [q1.1,q2.1,ends_f,ends_f,s12]
  ·rw [q1.1,ends_f];omega
 ·refine fin (-x) ?_ ?_
  ·rw [q1.2,q2.2,ends_t,ends_t,l1,l2,s12]
  ·rw [q1.2,ends_t];split <;> omega
theorem dm_ne {f h:List Rat} {t:Rat} (k:Dm f h t):evR h t≠0:=fun e=>by
 unfold Dm at k;rw [e] at k
 have:=sq_nn (evR f t)
 grind
theorem sgq_dom {x y:Rat} (h:y*y<x*x):sgq (x+y)=sgq x∧sgq (x - y)=sgq x∧sgq (y+x)=sgq x∧sgq (y - x) = -sgq x:=by
 have hp:0<(x+y)*(x - y):=by grind
 have hy:=sq_nn y
 rcases sgq_vals x with ⟨a,k⟩|⟨a,k⟩|⟨a,k⟩
 ·exfalso;rw [k] at h;grind
 ·have h1:0<x+y:=by
   rcases lt_or_le' 0 (x+y) with g|g
   ·exact g
   ·exfalso
    have:=Rat.mul_nonneg (show 0≤-(x+y) by grind) (show 0≤x - y by grind)
    grind
  have h2:0<x - y:=by
   rcases lt_or_le' 0 (x - y) with g|g
   ·exact g
   ·exfalso
    have:=Rat.mul_nonneg (Rat.le_of_lt h1) (show 0≤-(x - y) by grind)
    grind
  rw [a];exact⟨sgq_pos h1,sgq_pos h2,sgq_pos (by grind),sgq_neg (by grind)⟩
 ·have h1:x+y<0:=by
   rcases lt_or_le' (x+y) 0 with g|g
   ·exact g
   ·exfalso
    have:=Rat.mul_nonneg g (show 0≤-(x - y) by grind)
    grind
  have h2:x - y<0:=by
   rcases lt_or_le' (x - y) 0 with g|g
   ·exact g
   ·exfalso
    have:=Rat.mul_nonneg (show 0≤-(x+y) by grind) g
    grind
  rw [a];exact⟨sgq_neg h1,sgq_neg h2,sgq_neg (by grind),sgq_pos (by grind)⟩
theorem sq_mul_lt {a b c d:Rat} (h:a*a<b*b) (k:c*c<d*d):(a*c)*(a*c)<(b*d)*(b*d):=by
 have h1:=sq_nn a;have h2:=sq_nn c;have h3:=Rat.mul_nonneg h1 (show 0≤d*d - c*c by grind);have h4:=Rat.mul_pos (show 0<b*b - a*a by grind) (show 0<d*d by grind)
 grind
def sgm (even:Bool) (f h:List Rat) (t:Rat):Int:=if even then sgq (evR f t)*sgq (evR h t) else -(sgq (evR f t)*sgq (evR h t))
theorem end_fin:∀a ∈ tri3,∀b ∈ tri3,(b≠0→∃m ∈ [(0:Int),1],Qi a b=4*m+2 - a*b):=by decide +kernel
theorem end_at {x y:Rat} (h:y≠0):∃m,Qd x y=4*m+2 - sgq x*sgq y:=by
 obtain⟨m,-,e⟩:=end_fin _ (sgq_in x) _ (sgq_in y) (by rcases sgq_vals y with ⟨a,k⟩|⟨a,k⟩|⟨a,k⟩ <;> first|exact absurd k h|omega);exact⟨m,e⟩
theorem prod_le (x y:Rat):-1≤sgq x*sgq y∧sgq x*sgq y≤1:=by
 rcases sgq_vals x with ⟨a,-⟩|⟨a,-⟩|⟨a,-⟩ <;> rcases sgq_vals y with ⟨b,-⟩|⟨b,-⟩|⟨b,-⟩ <;> rw [a,b] <;> decide
theorem Lf_end {m s:Int} (h1:-1≤s) (h2:s≤1):Lf (4*m+2+s)=2*m+1:=by
 unfold Lf;have e1:(4*m+2+s) / 4=m:=by omega
 have e2:(4*m+2+s) % 4≠0:=by omega
 rw [e1,if_neg e2]
theorem turn_ends {f h:List Rat} {u v:Rat} {w T:Int} (a:T1 f h u v w) (hT:idx f h u v=2*T) (hu:evR h u≠0) (hv:evR h v≠0):w=4*T+-(sgq (evR f v)*sgq (evR h v)) - -(sgq (evR f u)*sgq (evR h u)):=by
 obtain⟨a1,a2⟩:=a;obtain⟨m,hm⟩:=end_at (x:=evR f u) hu;obtain⟨k,hk⟩:=end_at (x:=evR f v) hv;obtain⟨b1,b2⟩:=prod_le (evR f u) (evR h u);obtain⟨b3,b4⟩:=prod_le (evR f v) (evR h v);have e1:Qp f h u=4*m+2 - sgq (evR f u)*sgq (evR h u):=hm;have e2:Qp f h v=4*k+2 - sgq (evR f v)*sgq (evR h v):=hk;rw [hT] at a2;generalize sgq (evR f u)*sgq (evR h u)=s at *;generalize sgq (evR f v)*sgq (evR h v)=r at *;obtain⟨j,hj⟩:∃j,Qp f h u+w=4*j+2+-r:=⟨(Qp f h u+w+r - 2) / 4,by omega⟩;have l1:=Lf_end (m:=j) (s:=-r) (by omega) (by omega);have l2:=Lf_end (m:=m) (s:=-s) (by omega) (by omega);rw [hj,l1,e1,show 4*m+2 - s=4*m+2+-s by omega,l2] at a2;omega
theorem dom1:∀a ∈ tri3,∀b ∈ tri3,∀c ∈ tri3,∀e ∈ tri3,∀m ∈ tri3,∀n ∈ tri3,a≠0→c≠0→m=a*c→SumS (a*e) (b*c) n→rep8 (Qi m n - Qi a b - Qi c e)=m*n - a*b - c*e:=by decide +kernel
theorem dom2:∀a ∈ tri3,∀b ∈ tri3,∀c ∈ tri3,∀e ∈ tri3,∀m ∈ tri3,∀n ∈ tri3,b≠0→e≠0→m = -(b*e)→SumS (a*e) (b*c) n→rep8 (Qi m n - Qi a b - Qi c e)=m*n - -(a*b) - -(c*e):=by decide +kernel
theorem dom3:∀a ∈ tri3,∀b ∈ tri3,∀c ∈ tri3,∀e ∈ tri3,∀m ∈ tri3,∀n ∈ tri3,a≠0→e≠0→n=a*e→SumS (a*c) (-(b*e)) m→rep8 (Qi m n - Qi a b - Qi c e) = -(m*n) - a*b - -(c*e):=by decide +kernel
theorem dom4:∀a ∈ tri3,∀b ∈ tri3,∀c ∈ tri3,∀e ∈ tri3,∀m ∈ tri3,∀n ∈ tri3,b≠0→c≠0→n=b*c→SumS (a*c) (-(b*e)) m→rep8 (Qi m n - Qi a b - Qi c e) = -(m*n) - -(a*b) - c*e:=by decide +kernel
theorem sg_ne {x:Rat} (h:x≠0):sgq x≠0:=by rcases sgq_vals x with ⟨a,k⟩|⟨a,k⟩|⟨a,k⟩ <;> first|exact absurd k h|omega
theorem dl_ends {f1 h1 f2 h2 f3 h3:List Rat} {t:Rat} (p:Prd f1 h1 f2 h2 f3 h3) (e1 e2:Bool) (d1:if e1 then Dm h1 f1 t else Dm f1 h1 t) (d2:if e2 then Dm h2 f2 t else Dm f2 h2 t):dl f1 h1 f2 h2 t=sgm (e1 == e2) f3 h3 t - sgm e1 f1 h1 t - sgm e2 f2 h2 t:=by
 obtain⟨p1,p2⟩:=p t;unfold dl dlt;rw [←p1,←p2];have s1:=sum_s (evR f1 t*evR f2 t) (-(evR h1 t*evR h2 t));rw [sgq_min,sgq_mul,sgq_mul,show evR f1 t*evR f2 t+-(evR h1 t*evR h2 t)=evR f3 t by rw [p1];grind] at s1;have s2:=sum_s (evR f1 t*evR h2 t) (evR h1 t*evR f2 t);rw [sgq_mul,sgq_mul,←p2] at s2
 cases e1 <;> cases e2
 ·have k1:Dm f1 h1 t:=d1
  have k2:Dm f2 h2 t:=d2;have q:=(sgq_dom (sq_mul_lt k1 k2)).2.2.2;rw [←p1,sgq_mul] at q;exact dom2 _ (sgq_in (evR f1 t)) _ (sgq_in (evR h1 t)) _ (sgq_in (evR f2 t)) _ (sgq_in (evR h2 t)) _ (sgq_in (evR f3 t)) _ (sgq_in (evR h3 t)) (sg_ne (dm_ne k1)) (sg_ne (dm_ne k2)) q s2
 ·have k1:Dm f1 h1 t:=d1
  have k2:Dm h2 f2 t:=d2;have q:=(sgq_dom (sq_mul_lt k1 k2)).2.2.1;rw [←p2,sgq_mul] at q;exact dom4 _ (sgq_in (evR f1 t)) _ (sgq_in (evR h1 t)) _ (sgq_in (evR f2 t)) _ (sgq_in (evR h2 t)) _ (sgq_in (evR f3 t)) _ (sgq_in (evR h3 t)) (sg_ne (dm_ne k1)) (sg_ne (dm_ne k2)) q s1
 ·have k1:Dm h1 f1 t:=d1
  have k2:Dm f2 h2 t:=d2;have q:=(sgq_dom (sq_mul_lt k1 k2)).1;rw [show evR f1 t*evR h2 t+evR h1 t*evR f2 t=evR h3 t from p2.symm,sgq_mul] at q;exact dom3 _ (sgq_in (evR f1 t)) _ (sgq_in (evR h1 t)) _ (sgq_in (evR f2 t)) _ (sgq_in (evR h2 t)) _ (sgq_in (evR f3 t)) _ (sgq_in (evR h3 t)) (sg_ne (dm_ne k1)) (sg_ne (dm_ne k2)) q s1
 ·have k1:Dm h1 f1 t:=d1
  have k2:Dm h2 f2 t:=d2;have q:=(sgq_dom (sq_mul_lt k1 k2)).2.1;rw [←p1,sgq_mul] at q;exact dom1 _ (sgq_in (evR f1 t)) _ (sgq_in (evR h1 t)) _ (sgq_in (evR f2 t)) _ (sgq_in (evR h2 t)) _ (sgq_in (evR f3 t)) _ (sgq_in (evR h3 t)) (sg_ne (dm_ne k1)) (sg_ne (dm_ne k2)) q s2
end Go.Proofs.YtkoaakefgacokaaGreatDoor
