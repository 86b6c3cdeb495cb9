/- Rectangles: what Rect reckons, in plain words. -/
import Derived.Test.YtkoaakefgacokaaGreatDoorGZc
import Derived.Test.YtkoaakefgacokaaGreatDoorGYm
import Derived.Test.YtkoaakefgacokaaGreatDoorGZb
import Derived.Test.YtkoaakefgacokaaGreatDoorGYo
set_option linter.unusedVariables false
set_option linter.unusedSimpArgs false
set_option maxRecDepth 100000
set_option maxHeartbeats 64000000
namespace Go.Proofs.YtkoaakefgacokaaGreatDoor
open Go.RowKit
abbrev Side:Type:=List Rat × List Rat × Rat × Rat
def sidesF (lo hi dn up:Rat):List Side:=[([0,1],[dn],lo,hi),([hi],[0,1],dn,up),([0,1],[up],hi,lo),([lo],[0,1],up,dn)]
def turnS (p:List Rat) (s:Side):Int:=if (alongU s.1 s.2.1 p).2=[] then 0 else stepsF (chainF (alongU s.1 s.2.1 p).2 (alongU s.1 s.2.1 p).1) s.2.2.1 - stepsF (chainF (alongU s.1 s.2.1 p).2 (alongU s.1 s.2.1 p).1) s.2.2.2
def rectU (p:List Rat):List Side→Int→Int × Int
 | [],t=>(t.tdiv 4,0)
 | s :: r,t=>if 0<insideF (commonF (alongU s.1 s.2.1 p).1 (alongU s.1 s.2.1 p).2) s.2.2.1 s.2.2.2 then (0,120) else rectU p r (t+turnS p s)
def rectB1 (M:Nat) (p:List Rat) (s:Side):Bool:=
 alongOk M s.1 s.2.1 p && decide ((alongU s.1 s.2.1 p).1.length≤100) && decide ((alongU s.1 s.2.1 p).2.length≤100) && comOk M (alongU s.1 s.2.1 p).1 (alongU s.1 s.2.1 p).2 &&
 decide ((commonF (alongU s.1 s.2.1 p).1 (alongU s.1 s.2.1 p).2).length≤100) && smB M (commonF (alongU s.1 s.2.1 p).1 (alongU s.1 s.2.1 p).2) && ownOk M (commonF (alongU s.1 s.2.1 p).1 (alongU s.1 s.2.1 p).2) &&
 chainOk M (alongU s.1 s.2.1 p).2 (alongU s.1 s.2.1 p).1 && cB M (chainF (alongU s.1 s.2.1 p).2 (alongU s.1 s.2.1 p).1)
def rectB (M:Nat) (p:List Rat) (l:List Side):Bool:=l.all (rectB1 M p)
def rectE (p:List Rat) (x y u v:Rat):Int × Int:=if askF p≠0 then (0,askF p) else if cmpQ x y=0∨cmpQ u v=0 then (0,7) else rectU (trimF p) (sidesF (aq x y) (ar x y) (aq u v) (ar u v)) 0
def cvR:List Rat→Rat→Rat→Rat × Rat
 | [],_,_=>(0,0)
 | c :: p,x,y=>((cvR p x y).1*x - (cvR p x y).2*y+c,(cvR p x y).1*y+(cvR p x y).2*x)
theorem along_ev (X Y:List Rat) (t:Rat):∀p:List Rat,evR (alongU X Y p).1 t=(cvR p (evR X t) (evR Y t)).1∧evR (alongU X Y p).2 t=(cvR p (evR X t) (evR Y t)).2
 | []=>⟨rfl,rfl⟩
 | c :: p=>by
  obtain⟨h1,h2⟩:=along_ev X Y t p
  constructor
  ·show evR (addF (subF (mulF (alongU X Y p).1 X) (mulF (alongU X Y p).2 Y)) [c]) t=_
   rw [ev_addF,ev_subF,ev_mulF,ev_mulF,ev_const,h1,h2];rfl
  ·show evR (addF (mulF (alongU X Y p).1 Y) (mulF (alongU X Y p).2 X)) t=_
   rw [ev_addF,ev_mulF,ev_mulF,h1,h2];rfl
theorem cv_zero {x y:Rat}:∀p:List Rat,(∀i,co p i=0)→cvR p x y=(0,0)
 | [],_=>rfl
 | c :: p,h=>by
  have h0:c=0:=h 0;have ih:=cv_zero (x:=x) (y:=y) p fun i=>h (i+1)
  show ((cvR p x y).1*x - (cvR p x y).2*y+c,(cvR p x y).1*y+(cvR p x y).2*x)=_
  rw [ih,h0];exact Prod.ext (by show (0:Rat)*x - 0*y+0=0;grind) (by show (0:Rat)*y+0*x=0;grind)
theorem cv_co {x y:Rat}:∀p q:List Rat,(∀i,co p i=co q i)→cvR p x y=cvR q x y
 | [],q,h=>(cv_zero q fun i=>(h i).symm).symm
 | c :: p,[],h=>cv_zero (c :: p) h
 | c :: p,d :: q,h=>by
  have h0:c=d:=h 0;have ih:=cv_co (x:=x) (y:=y) p q fun i=>h (i+1)
  show ((cvR p x y).1*x - (cvR p x y).2*y+c,(cvR p x y).1*y+(cvR p x y).2*x)=((cvR q x y).1*x - (cvR q x y).2*y+d,(cvR q x y).1*y+(cvR q x y).2*x)
  rw [ih,h0]
theorem cv_trim (p:List Rat) (x y:Rat):cvR (trimF p) x y=cvR p x y:=cv_co _ _ (co_trim p)
theorem cv_zip (x y:Rat):∀p q:List Rat,(cvR (zipA p q) x y).1=(cvR p x y).1+(cvR q x y).1∧(cvR (zipA p q) x y).2=(cvR p x y).2+(cvR q x y).2
 | [],q=>by
  show (cvR q x y).1=0+_∧(cvR q x y).2=0+_
  constructor <;> grind
 | a :: p,[]=>by
  show (cvR (a :: p) x y).1=_+0∧(cvR (a :: p) x y).2=_+0
  constructor <;> grind
 | a :: p,b :: q=>by
  obtain⟨h1,h2⟩:=cv_zip x y p q
  show (cvR (zipA p q) x y).1*x - (cvR (zipA p q) x y).2*y+(a+b)=(cvR p x y).1*x - (cvR p x y).2*y+a+((cvR q x y).1*x - (cvR q x y).2*y+b)∧(cvR (zipA p q) x y).1*y+(cvR (zipA p q) x y).2*x=(cvR p x y).1*y+(cvR p x y).2*x+((cvR q x y).1*y+(cvR q x y).2*x)
  rw [h1,h2]
  constructor <;> grind
theorem cv_map (c x y:Rat):∀p:List Rat,(cvR (p.map (·*c)) x y).1=(cvR p x y).1*c∧(cvR (p.map (·*c)) x y).2=(cvR p x y).2*c
 | []=>by
  show (0:Rat)=0*c∧(0:Rat)=0*c
  constructor <;> grind
 | a :: p=>by
  obtain⟨h1,h2⟩:=cv_map c x y p
  show (cvR (p.map (·*c)) x y).1*x - (cvR (p.map (·*c)) x y).2*y+a*c=((cvR p x y).1*x - (cvR p x y).2*y+a)*c∧(cvR (p.map (·*c)) x y).1*y+(cvR (p.map (·*c)) x y).2*x=((cvR p x y).1*y+(cvR p x y).2*x)*c
  rw [h1,h2]
  constructor <;> grind
theorem cv_mulR (q:List Rat) (x y:Rat):∀p:List Rat,(cvR (mulR p q) x y).1=(cvR p x y).1*(cvR q x y).1 - (cvR p x y).2*(cvR q x y).2∧(cvR (mulR p q) x y).2=(cvR p x y).1*(cvR q x y).2+(cvR p x y).2*(cvR q x y).1
 | []=>by
  show (0:Rat)=0*_ - 0*_∧(0:Rat)=0*_+0*_
  constructor <;> grind
 | a :: p=>by
  obtain⟨h1,h2⟩:=cv_mulR q x y p;obtain⟨z1,z2⟩:=cv_zip x y (q.map (·*a)) (0 :: mulR p q);obtain⟨m1,m2⟩:=cv_map a x y q
  show (cvR (zipA (q.map (·*a)) (0 :: mulR p q)) x y).1=((cvR p x y).1*x - (cvR p x y).2*y+a)*(cvR q x y).1 - ((cvR p x y).1*y+(cvR p x y).2*x)*(cvR q x y).2∧(cvR (zipA (q.map (·*a)) (0 :: mulR p q)) x y).2=((cvR p x y).1*x - (cvR p x y).2*y+a)*(cvR q x y).2+((cvR p x y).1*y+(cvR p x y).2*x)*(cvR q x y).1
  rw [z1,z2,m1,m2]
  show (cvR q x y).1*a+((cvR (mulR p q) x y).1*x - (cvR (mulR p q) x y).2*y+0)=_∧(cvR q x y).2*a+((cvR (mulR p q) x y).1*y+(cvR (mulR p q) x y).2*x)=_
  rw [h1,h2]
  constructor <;> grind
theorem cv_mul (p q:List Rat) (x y:Rat):(cvR (mulF p q) x y).1=(cvR p x y).1*(cvR q x y).1 - (cvR p x y).2*(cvR q x y).2∧(cvR (mulF p q) x y).2=(cvR p x y).1*(cvR q x y).2+(cvR p x y).2*(cvR q x y).1:=by
 unfold mulF;rw [cv_trim];exact cv_mulR q x y p
theorem pos_of_mul' {a b:Rat} (h:0<a*b) (hb:0<b):0<a:=by
 rcases lt_or_le' 0 a with g|g
 ·exact g
 ·exfalso
  have:=Rat.mul_nonneg (show 0≤-a by grind) (Rat.le_of_lt hb)
  grind
theorem between_self (c:List (List Rat)) (x:Rat):betweenF c x x=0:=by rw [between_v];omega
inductive Tm (D:List Rat):List (List Rat)→List (List Rat)→Prop
 | nil:Tm D [] []
 | cons {a b:List Rat} {l m:List (List Rat)}:(∀x,evR a x=evR D x*evR b x)→Tm D l m→Tm D (a :: l) (b :: m)
theorem at_times {D a b:List Rat} {σ x:Rat} (hσ:Pm σ) (hD:0<σ*evR D x) (e:evR a x=evR D x*evR b x):atF x a=si σ*atF x b:=by
 rcases at_cases x b with ⟨e1,h⟩|⟨e1,h⟩|⟨e1,h⟩
 ·rw [e1]
  rw [h] at e
  have:evR a x=0:=by grind
  rw [(atF_zero).2 this];omega
 ·rw [e1]
  have h2:=Rat.mul_pos hD h
  have:=at_si (p:=a) hσ (x:=x) (by rw [e];grind)
  rw [this];omega
 ·rw [e1]
  have h2:=Rat.mul_pos hD (show 0 < -evR b x by grind)
  have:=at_si (p:=a) hσ.neg (x:=x) (by rw [e];grind)
  rw [this,(si_not hσ).1];omega
theorem chg_si {σ:Rat} (hσ:Pm σ) (u v:Int):chg (si σ*u) (si σ*v)=chg u v:=by
 unfold chg
 rcases(si_not hσ).2 with e|e <;> rw [e]
 ·rw [Int.one_mul,Int.one_mul]
 ·have:((-1*u=1∧-1*v = -1)∨(-1*u = -1∧-1*v=1))↔((u=1∧v = -1)∨(u = -1∧v=1)):=by omega
  by_cases h:(u=1∧v = -1)∨(u = -1∧v=1)
  ·rw [if_pos h,if_pos (this.2 h)]
  ·rw [if_neg h,if_neg fun k=>h (this.1 k)]
theorem Tm.flips {D:List Rat} {c m:List (List Rat)} (h:Tm D c m) {σ x:Rat} (hσ:Pm σ) (hD:0<σ*evR D x):∀last,flipsU (si σ*last) (c.map (atF x))=flipsU last (m.map (atF x)):=by
 induction h with
 | nil=>intro last;rfl
 | @cons a b l m e h ih=>
  intro last;rw [List.map_cons,List.map_cons,flips_cons,flips_cons,at_times hσ hD (e x)]
  rcases at_cases x b with ⟨e1,-⟩|⟨e1,-⟩|⟨e1,-⟩
  ·rw [e1,if_pos rfl,if_pos (by omega),ih]
  ·have h1:=(si_not hσ).2
   have h2:¬(si σ*1=0):=by omega
   rw [e1,if_neg h2,if_neg (by decide),chg_si hσ,ih]
  ·have h1:=(si_not hσ).2
   have h2:¬(si σ*-1=0):=by omega
   rw [e1,if_neg h2,if_neg (by decide),chg_si hσ,ih]
theorem Tm.v {D:List Rat} {c m:List (List Rat)} (h:Tm D c m) {x:Rat} (hD:evR D x≠0):vF c x=vF m x:=by
 obtain⟨σ,hσ,h1⟩:=pm_of (evR D x)
 have:=h.flips hσ (x:=x) (by rcases hσ with rfl|rfl <;> grind) 0
 rw [Int.mul_zero] at this;exact this
theorem chn_gen:∀(n:Nat) (p q D P Q:List Rat),0<dgF p→0<dgF q→dgF q<n→0<dgF D→(∀x,evR p x=evR D x*evR P x)→(∀x,evR q x=evR D x*evR Q x)→Cop P Q→∃l,Chn (P :: Q :: l)∧Tm D (chainU (n+1) p q) (P :: Q :: l)
 | 0,p,q,D,P,Q,_,_,h,_,_,_,_=>by omega
 | n+1,p,q,D,P,Q,hp,hq,hn,hD,eP,eQ,hc=>by
  have P0:=(dg_parts eP hp).2;have Q0:=(dg_parts eQ hq).2;rw [chain_two (n+1) (ne_of_dg hp) (ne_of_dg hq)];obtain⟨d1,-,-⟩:=div_ev p q hq;have dr:=div_dg p q hq;have e1:∀x,evR (scaleF (divF p q).2 (-1)) x=evR (divF p q).2 x*(-1):=fun x=>ev_scaleF _ _ x;have dr2:dgF (scaleF (divF p q).2 (-1))=dgF (divF p q).2:=Nat.le_antisymm (dg_scale e1) (dg_scale (c:=-1) fun x=>by rw [e1];grind);obtain⟨R,hR⟩:∃R,subF P (mulF (divF p q).1 Q)=R:=⟨_,rfl⟩;have eR:∀x,evR R x=evR P x - evR (divF p q).1 x*evR Q x:=fun x=>by rw [←hR,ev_subF,ev_mulF]
  have er:∀x,evR (divF p q).2 x=evR D x*evR R x:=fun x=>by
   have h1:=d1 x;rw [eP,eQ] at h1;rw [eR];grind
  rcases Nat.eq_zero_or_pos (dgF (divF p q).2) with h|h
  ·rw [small_nil (by omega),chain_one n (ne_of_dg hq)]
   refine⟨[],.two hc ?_,.cons eP (.cons eQ .nil)⟩
   have hR0:∀x,evR R x=0:=by
    have:=ev_cancel (p:=D) (q:=R) (r:=[]) hD (fun x=>by rw [←er,dgz h,ev_nil];grind)
    intro x;rw [this,ev_nil]
   obtain⟨u,v,e⟩:=hc
   have h1:Dv Q [1]:=⟨addF (mulF u (divF p q).1) v,fun x=>by
    have h2:=eR x;rw [hR0] at h2;rw [ev_one,ev_addF,ev_mulF,←e x,show evR P x=evR (divF p q).1 x*evR Q x by grind];grind⟩
   have h2:=(h1.dg (by decide)).2;have h3:dgF [(1:Rat)]=1:=by decide
   have h4:∀x,evR Q x=co Q 0:=fun x=>ev_dg1 (by omega) x;refine .one (k:=co Q 0) (fun z=>?_) h4
   have:=dg_of_zero (p:=Q) fun x=>by rw [h4,z]
   omega
  ·obtain⟨k,k0,s1,s2,k1⟩:=small_ev (p:=scaleF (divF p q).2 (-1)) (by omega)
   obtain⟨r,hr⟩:∃r,smallF (scaleF (divF p q).2 (-1))=r:=⟨_,rfl⟩;have dr3:dgF r=dgF (divF p q).2:=by rw [←hr,dgSm,dr2]
   rw [hr] at s1 s2 ⊢;have eS:∀x,evR (scaleF R (-k)) x=evR R x*(-k):=fun x=>ev_scaleF _ _ x;have e3:∀x,evR r x=evR D x*evR (scaleF R (-k)) x:=fun x=>by rw [s1,e1,er,eS];grind
   have rel:∀x,evR P x=evR (divF p q).1 x*evR Q x - 1 / k*evR (scaleF R (-k)) x:=fun x=>by
    have f1:=inv_ne (show k≠0 by grind);rw [eS];have f2:=eR x;generalize 1 / k=w at *;have f3:w*(evR R x*-k) = -(evR R x*(k*w)):=by grind
    rw [f3,f1];grind
   have hc2:Cop Q (scaleF R (-k)):=by
    have g1:Cop Q R:=hc.symm.add (c:=scaleF (divF p q).1 (-1)) fun x=>by rw [ev_scaleF,eR];grind
    exact g1.scale (c:=1) (d:=-k) (by decide) (by grind) (fun x=>by grind) eS
   obtain⟨l,i1,i2⟩:=chn_gen n q r D Q (scaleF R (-k)) hq (by omega) (by omega) hD eQ e3 hc2;exact⟨_,.more hc k1 rel i1,.cons eP i2⟩
theorem cop_dv_deriv {s D:List Rat} (h:Cop s (derivF s)) (k:Dv D s):Cop D (derivF D):=by
 obtain⟨u,w,e⟩:=h;obtain⟨f,hf⟩:=k;refine⟨addF (mulF u f) (mulF w (derivF f)),mulF w f,fun x=>?_⟩;rw [ev_addF,ev_mulF,ev_mulF,ev_mulF,←e x,deriv_prod hf,hf];grind
theorem simple_self {D:List Rat} (h:Cop D (derivF D)) (ht:trimF D=D):simpleF D=D:=by
 unfold simpleF;rw [h.gcd];exact quo_eq (by decide) ht fun x=>by rw [ev_one];grind
theorem sign_mul {σ τ a b:Rat} (hσ:Pm σ) (hτ:Pm τ) (ha:0<σ*a) (hb:0<τ*(a*b)):0<σ*τ*b:=by
 have h1:=hσ.sq;refine pos_of_mul' (b:=σ*a) ?_ ha;rw [show σ*τ*b*(σ*a)=(σ*σ)*(τ*(a*b)) by grind,h1];grind
theorem low_at {p:List Rat} {x y:Rat} (h:Low p x y) (hxy:x≤y):evR p x≠0∧evR p y≠0:=by
 obtain⟨σ,ε,hσ,he,hf⟩:=h;have h1:=hf x Rat.le_refl hxy;have h2:=hf y hxy Rat.le_refl
 constructor
 ·intro e;rw [e] at h1;grind
 ·intro e;rw [e] at h2;grind
theorem min_le' (x y:Rat):aq x y≤ar x y∧aq x y≤x∧x≤ar x y∧aq x y≤y∧y≤ar x y:=by
 unfold aq ar
 split <;> split <;> grind
theorem min_of_le {x y:Rat} (h:x≤y):aq x y=x∧ar x y=y:=by
 have h1:=min_le' x y;unfold aq ar at *
 split at*<;> split at*<;> grind
theorem sz {p:List Rat} {t:Rat}:(evR p t).num.sign=0↔evR p t=0:=atF_zero
theorem inside_low {p:List Rat} (h0:0<dgF p) {x y:Rat} (h:¬ 0<insideF p x y):betweenF (ownF p) (aq x y) (ar x y)=0∧evR p (aq x y)≠0:=by
 have hle:=(min_le' x y).1;have h1:=count_pos h0 hle;unfold insideF at h
 by_cases g:(evR p (aq x y)).num.sign=0
 ·rw [if_pos g] at h;omega
 ·rw [if_neg g] at h
  exact⟨by omega,fun e=>g (sz.2 e)⟩
theorem not_big' {l:List Rat} (h:l.length≤41):bigF l=false:=decide_eq_false (by have:=trim_le l;omega)
def Gd (l:List Rat):Prop:=0<dgF l∧trimF l=l
theorem Gd.len {l:List Rat} (h:Gd l):dgF l=l.length:=by unfold dgF;rw [h.2]
def sT (l:List Rat):Int:=(topF l).num.sign
theorem Gd.top {l:List Rat} (h:Gd l):topF l≠0:=by
 have h1:=top_trim_ne (trim_ne h.1);rw [h.2] at h1;exact h1
theorem sT_vals {l:List Rat} (h:Gd l):sT l=1∨sT l = -1:=by
 have h1:=h.top;unfold sT
 rcases rat_tri (topF l) 0 with g|g|g
 ·exact .inr (sign_neg' g)
 ·exact absurd g h1
 ·exact .inl (sign_pos' g)
theorem ends_f (l:List Rat):endsF false l=sT l:=by
 unfold endsF;rw [Bool.false_and,if_neg Bool.false_ne_true];rfl
theorem ends_t (l:List Rat):endsF true l=if l.length % 2=0 then -(sT l) else sT l:=by
 unfold endsF;rw [Bool.true_and]
 by_cases h:l.length % 2=0
 ·rw [decide_eq_true h,if_pos rfl,if_pos h];rfl
 ·rw [decide_eq_false h,if_neg Bool.false_ne_true,if_neg h];rfl
theorem ends_vals (m:Bool) {l:List Rat} (h:Gd l):endsF m l=1∨endsF m l = -1:=by
 have h1:=sT_vals h
 cases m with
 | false=>rw [ends_f];exact h1
 | true=>
  rw [ends_t]
  split <;> omega
def pT (a b:List Rat):Int:=chg (endsF true a) (endsF true b) - chg (endsF false a) (endsF false b)
theorem chg0 (s:Int):chg 0 s=0:=by unfold chg;rw [if_neg (by omega)]
theorem pT_even {a b:List Rat} (ha:Gd a) (hb:Gd b) (h:a.length % 2=b.length % 2):pT a b=0:=by
 unfold pT;rw [ends_t,ends_t,ends_f,ends_f]
 rcases sT_vals ha with e1|e1 <;> rcases sT_vals hb with e2|e2 <;> rw [e1,e2] <;> by_cases g:a.length % 2=0
 all_goals first
  | rw [if_pos g,if_pos (by omega)];rfl
  | rw [if_neg g,if_neg (by omega)];rfl
theorem pT_odd {a b:List Rat} (ha:Gd a) (hb:Gd b) (h:a.length % 2≠b.length % 2):pT a b=sT a*sT b:=by
 unfold pT;rw [ends_t,ends_t,ends_f,ends_f]
 rcases sT_vals ha with e1|e1 <;> rcases sT_vals hb with e2|e2 <;> rw [e1,e2] <;> by_cases g:a.length % 2=0
 all_goals first
  | rw [if_pos g,if_neg (by omega)];rfl
  | rw [if_neg g,if_pos (by omega)];rfl
theorem sT_mul {a b:List Rat} (ha:Gd a) (hb:Gd b):sT a*sT b=1∨sT a*sT b = -1:=by
 rcases sT_vals ha with e1|e1 <;> rcases sT_vals hb with e2|e2 <;> rw [e1,e2] <;> decide
theorem pT_facts {a b:List Rat} (ha:Gd a) (hb:Gd b):-1≤pT a b∧pT a b≤1∧((a.length:Int) - b.length - pT a b) % 2=0:=by
 by_cases h:a.length % 2=b.length % 2
 ·rw [pT_even ha hb h];omega
 ·rw [pT_odd ha hb h]
  rcases sT_mul ha hb with e|e <;> rw [e] <;> omega
def tS:List (List Rat)→Int
 | []=>0
 | [_]=>0
 | a :: b :: l=>pT a b+tS (b :: l)
def lastN:List (List Rat)→Nat
 | []=>0
 | [a]=>a.length
 | _ :: b :: l=>lastN (b :: l)
inductive Dn:List (List Rat)→Prop
 | one {a:List Rat}:Gd a→Dn [a]
 | more {a b:List Rat} {l:List (List Rat)}:Gd a→b.length<a.length→Dn (b :: l)→Dn (a :: b :: l)
theorem Dn.gd {a:List Rat} {l:List (List Rat)} (h:Dn (a :: l)):Gd a:=by
 cases h with
 | one h=>exact h
 | more h _ _=>exact h
theorem dn_bound {c:List (List Rat)} (h:Dn c):∀a l,c=a :: l→lastN c≤a.length∧-((a.length:Int) - lastN c)≤tS c∧tS c≤(a.length:Int) - lastN c∧((a.length:Int) - lastN c - tS c) % 2=0:=by
 induction h with
 | one h=>
  intro a l e
  injection e with e1 e2
  subst e1 e2
  show _∧_∧_∧_
  simp only [lastN,tS]
  omega
 | @more a b l h1 h2 h3 ih=>
  intro a' l' e
  injection e with e1 e2
  subst e1 e2;obtain⟨i1,i2,i3,i4⟩:=ih b l rfl;obtain⟨p1,p2,p3⟩:=pT_facts h1 h3.gd
  show lastN (b :: l)≤_∧-((a.length:Int) - lastN (b :: l))≤pT a b+tS (b :: l)∧pT a b+tS (b :: l)≤(a.length:Int) - lastN (b :: l)∧((a.length:Int) - lastN (b :: l) - (pT a b+tS (b :: l))) % 2=0
  omega
theorem flips_dn {c:List (List Rat)} (h:Dn c):∀a l,c=a :: l→flipsU (endsF true a) (l.map (endsF true)) - flipsU (endsF false a) (l.map (endsF false))=tS c:=by
 induction h with
 | one h=>intro a l e;injection e with e1 e2;subst e1 e2;rfl
 | @more a b l h1 h2 h3 ih=>
  intro a' l' e
  injection e with e1 e2
  subst e1 e2;have i:=ih b l rfl;have v1:=ends_vals true h3.gd;have v2:=ends_vals false h3.gd;rw [List.map_cons,List.map_cons,flips_cons,flips_cons,if_neg (by omega),if_neg (by omega)]
  show _=pT a b+tS (b :: l)
  unfold pT;omega
theorem turn_sum {c:List (List Rat)} (h:Dn c):turnF c=tS c:=by
 cases c with
 | nil=>cases h
 | cons a l=>
  have i:=flips_dn h a l rfl;have v1:=ends_vals true h.gd;have v2:=ends_vals false h.gd;unfold turnF flipsF;rw [List.map_cons,List.map_cons,flips_cons,flips_cons,if_neg (by omega),if_neg (by omega),chg0,chg0];omega
theorem cop_nil {p:List Rat} (h:Cop p []):dgF p=1:=by
 obtain⟨s,t,e⟩:=h
 have h1:Dv p [1]:=⟨s,fun x=>by
  have:=e x
  rw [ev_nil] at this;rw [ev_one];grind⟩
 have h2:=h1.dg (by decide);have h3:dgF [(1:Rat)]=1:=by decide
 omega
theorem next_cop {p q:List Rat} (hc:Cop p q) (hq:0<dgF q):Cop q (smallF (scaleF (divF p q).2 (-1))):=by
 obtain⟨d1,-,-⟩:=div_ev p q hq;have e1:∀x,evR (scaleF (divF p q).2 (-1)) x=evR (divF p q).2 x*(-1):=fun x=>ev_scaleF _ _ x
 rcases Nat.eq_zero_or_pos (dgF (divF p q).2) with h|h
 ·obtain⟨u,v,e⟩:=hc
  refine⟨addF (mulF u (divF p q).1) v,[],fun x=>?_⟩;rw [ev_nil,ev_addF,ev_mulF,←e x,d1 x,dgz h];grind
 ·have dr2:dgF (scaleF (divF p q).2 (-1))=dgF (divF p q).2:=Nat.le_antisymm (dg_scale e1) (dg_scale (c:=-1) fun x=>by rw [e1];grind)
  obtain⟨k,k0,s1,s2,k1⟩:=small_ev (p:=scaleF (divF p q).2 (-1)) (by omega);have g1:Cop q (divF p q).2:=hc.symm.add (c:=scaleF (divF p q).1 (-1)) fun x=>by rw [ev_scaleF,d1 x];grind
  exact g1.scale (c:=1) (d:=-1*k) (by decide) (by grind) (fun x=>by grind) fun x=>by rw [s1,e1];grind
theorem next_dg {p q:List Rat} (hq:0<dgF q):(smallF (scaleF (divF p q).2 (-1))).length<dgF q:=by
 have h1:=div_dg p q hq;have e1:∀x,evR (scaleF (divF p q).2 (-1)) x=evR (divF p q).2 x*(-1):=fun x=>ev_scaleF _ _ x;have h2:=dg_scale e1;have h3:dgF (smallF (scaleF (divF p q).2 (-1)))=(smallF (scaleF (divF p q).2 (-1))).length:=by unfold dgF;rw [small_trim]
 rw [dgSm] at h3;omega
theorem chain_dn:∀(n:Nat) (p q:List Rat),Gd p→trimF q=q→q.length<p.length→q.length≤n→Cop p q→Dn (chainU (n+1) p q)∧lastN (chainU (n+1) p q)=1∧∃l,chainU (n+1) p q=p :: l
 | n,p,[],hp,_,_,_,hc=>by
  rw [chain_one n (ne_of_dg hp.1)];refine⟨.one hp,?_,[],rfl⟩
  show p.length=1
  rw [←hp.len];exact cop_nil hc
 | 0,p,c :: q,hp,_,_,h,_=>by simp at h
 | n+1,p,c :: q,hp,ht,hl,hn,hc=>by
  have hq:0<dgF (c :: q):=by unfold dgF;rw [ht];simp
  have hql:dgF (c :: q)=(c :: q).length:=by unfold dgF;rw [ht]
  rw [chain_two (n+1) (ne_of_dg hp.1) (ne_of_dg hq)];have nd:=next_dg (p:=p) hq;obtain⟨i1,i2,l,i3⟩:=chain_dn n (c :: q) (smallF (scaleF (divF p (c :: q)).2 (-1))) ⟨hq,ht⟩ (small_trim _) (by omega) (by omega) (next_cop hc hq);rw [i3] at i1 i2 ⊢;exact⟨.more hp hl i1,i2,_,rfl⟩
def Ng (ε:Rat) (a b:List Rat):Prop:=∃k,0<k∧∀x,evR b x=evR a x*(ε*k)
theorem Ng.back {ε:Rat} (hε:Pm ε) {a b:List Rat} (h:Ng ε a b):Ng ε b a:=by
 obtain⟨k,k0,e⟩:=h;have h1:=inv_ne (show k≠0 by grind);refine⟨1 / k,?_,fun x=>?_⟩
 ·rcases lt_or_le' 0 (1 / k) with g|g
  ·exact g
  ·exfalso
   have:=Rat.mul_nonneg (Rat.le_of_lt k0) (show 0≤-(1 / k) by grind)
   grind
 ·rw [e]
  have h2:=hε.sq;have h3:evR a x*(ε*k)*(ε*(1 / k))=evR a x*((ε*ε)*(k*(1 / k))):=by generalize 1 / k=w;grind
  rw [h3,h2,h1];grind
theorem Ng.dg {ε:Rat} (hε:Pm ε) {a b:List Rat} (h:Ng ε a b):dgF b=dgF a:=by
 obtain⟨k,k0,e⟩:=h;obtain⟨k',k0',e'⟩:=Ng.back hε ⟨k,k0,e⟩;exact Nat.le_antisymm (dg_scale e) (dg_scale e')
theorem Ng.co {ε:Rat} {a b:List Rat} (h:Ng ε a b):∃k,0<k∧∀i,co b i=co a i*(ε*k):=by
 obtain⟨k,k0,e⟩:=h;refine⟨k,k0,fun i=>?_⟩;rw [←co_scaleF];exact ev_inj (fun x=>by rw [ev_scaleF];exact e x) i
theorem Ng.sT {ε:Rat} (hε:Pm ε) {a b:List Rat} (ha:Gd a) (hb:Gd b) (h:Ng ε a b):Go.Proofs.YtkoaakefgacokaaGreatDoor.sT b=si ε*Go.Proofs.YtkoaakefgacokaaGreatDoor.sT a:=by
 have hl:b.length=a.length:=by rw [←ha.len,←hb.len];exact h.dg hε
 obtain⟨k,k0,e⟩:=h.co
 have e2:topF b=topF a*(ε*k):=by
  unfold topF;rw [hl];exact e _
 have h1:=ha.top;unfold Go.Proofs.YtkoaakefgacokaaGreatDoor.sT;rw [e2]
 rcases rat_tri (topF a) 0 with g|g|g
 ·have g2:=Rat.mul_pos (show 0 < -(topF a) by grind) k0
  rcases hε with rfl|rfl
  ·rw [sign_neg' g,sign_neg' (show topF a*(1*k)<0 by grind)];rfl
  ·rw [sign_neg' g,sign_pos' (show 0<topF a*(-1*k) by grind)];rfl
 ·exact absurd g h1
 ·have g2:=Rat.mul_pos g k0
  rcases hε with rfl|rfl
  ·rw [sign_pos' g,sign_pos' (show 0<topF a*(1*k) by grind)];rfl
  ·rw [sign_pos' g,sign_neg' (show topF a*(-1*k)<0 by grind)];rfl
def sg4:Nat→Rat
 | 0=>1
 | 1=>0
 | n+2=>-sg4 n
theorem sg4_odd:∀n,n % 2=1→sg4 n=0
 | 0,h=>by cases h
 | 1,_=>rfl
 | n+2,h=>by
  show -sg4 n=0
  rw [sg4_odd n (by omega)];grind
theorem sg4_sq:∀n,n % 2=0→sg4 n*sg4 n=1
 | 0,_=>by show (1:Rat)*1=1;grind
 | 1,h=>by cases h
 | n+2,h=>by
  show -sg4 n*-sg4 n=1
  have:=sg4_sq n (by omega)
  grind
theorem co_up (p:List Rat) (i:Nat):co (mulF p [0,1]) i=co (0 :: p) i:=ev_inj (fun x=>by
 rw [ev_mulF]
 show evR p x*((0*x+1)*x+0)=evR p x*x+0
 grind) i
theorem co_none (p:List Rat) (i:Nat):co (mulF p []) i=0:=by
 have:=ev_inj (p:=mulF p []) (q:=[]) (fun x=>by rw [ev_mulF,ev_nil];grind) i
 exact this
theorem along_co:∀(p:List Rat) (i:Nat),co (alongU [] [0,1] p).1 i=sg4 i*co p i∧co (alongU [] [0,1] p).2 i = -sg4 (i+1)*co p i
 | [],i=>by
  show (0:Rat)=_*0∧(0:Rat)=_*0
  constructor <;> grind
 | c :: p,i=>by
  have e1:co (alongU [] [0,1] (c :: p)).1 i = -co (0 :: (alongU [] [0,1] p).2) i+co [c] i:=by
   show co (addF (subF (mulF (alongU [] [0,1] p).1 []) (mulF (alongU [] [0,1] p).2 [0,1])) [c]) i=_
   rw [co_addF]
   show co (subF _ _) i+_=_
   unfold subF;rw [co_addF]
   show co _ i+co (scaleF _ _) i+_=_
   rw [co_scaleF,co_none,co_up];grind
  have e2:co (alongU [] [0,1] (c :: p)).2 i=co (0 :: (alongU [] [0,1] p).1) i:=by
   show co (addF (mulF (alongU [] [0,1] p).1 [0,1]) (mulF (alongU [] [0,1] p).2 [])) i=_
   rw [co_addF]
   show co _ i+co _ i=_
   rw [co_none,co_up];grind
  rw [e1,e2]
  cases i with
  | zero=>
   show -(0:Rat)+c=1*c∧(0:Rat) = -0*c
   constructor <;> grind
  | succ j=>
   obtain⟨i1,i2⟩:=along_co p j;rw [co_succ,co_succ,co_succ,co_succ,i1,i2,co_nil];refine⟨by grind,?_⟩
   show _ = -(-sg4 j)*_
   grind
theorem along_trim (p:List Rat):trimF (alongU [] [0,1] p).1=(alongU [] [0,1] p).1∧trimF (alongU [] [0,1] p).2=(alongU [] [0,1] p).2:=by
 cases p with
 | nil=>exact⟨rfl,rfl⟩
 | cons c p=>exact⟨trim_trim _,trim_trim _⟩
theorem far:∀l:List Rat,l≠[]→topF l≠0→∃s t:Rat,Pm s∧Pm t∧sT l=si s∧endsF true l=si t∧∃B e:Rat,0<e∧1≤B∧∀x,(B≤x→e≤s*evR l x)∧(x≤-B→e≤t*evR l x)
 | [],h,_=>absurd rfl h
 | [c],_,h=>by
  have hc:topF [c]=c:=rfl;rw [hc] at h
  rcases rat_tri c 0 with g|g|g
  ·refine⟨-1,-1,.inr rfl,.inr rfl,?_,?_,1,-c,by grind,by grind,fun x=>⟨fun _=>?_,fun _=>?_⟩⟩
   ·unfold sT;rw [hc,sign_neg' g];rfl
   ·rw [ends_t,if_neg (by simp)];unfold sT;rw [hc,sign_neg' g];rfl
   ·rw [ev_const];grind
   ·rw [ev_const];grind
  ·exact absurd g h
  ·refine⟨1,1,.inl rfl,.inl rfl,?_,?_,1,c,g,by grind,fun x=>⟨fun _=>?_,fun _=>?_⟩⟩
   ·unfold sT;rw [hc,sign_pos' g];rfl
   ·rw [ends_t,if_neg (by simp)];unfold sT;rw [hc,sign_pos' g];rfl
   ·rw [ev_const];grind
   ·rw [ev_const];grind
 | a :: b :: l,_,h=>by
  have ht:topF (a :: b :: l)=topF (b :: l):=by
   unfold topF
   show co (a :: b :: l) ((b :: l).length+1 - 1)=co (b :: l) ((b :: l).length - 1)
   rw [show (b :: l).length+1 - 1=(b :: l).length - 1+1 by simp,co_succ]
  rw [ht] at h;obtain⟨s,t,hs,htm,e1,e2,B,e,he,hB,hx⟩:=far (b :: l) (by simp) h;obtain⟨K,hK0,hK⟩:=ab_ex a;obtain⟨n,hn⟩:=arch he (K+e);have es:sT (a :: b :: l)=si s:=by rw [←e1];unfold sT;rw [ht]
  have et:endsF true (a :: b :: l)=si (-t):=by
   rw [(si_not htm).1,←e2,ends_t,ends_t,show (a :: b :: l).length=(b :: l).length+1 from rfl];have es':sT (a :: b :: l)=sT (b :: l):=by rw [es,e1]
   rw [es']
   by_cases g:(b :: l).length % 2=0
   ·rw [if_neg (by omega),if_pos g];omega
   ·rw [if_pos (by omega),if_neg g]
  refine⟨s,-t,hs,htm.neg,es,et,B+(n:Rat),e,he,?_,fun x=>⟨fun h1=>?_,fun h1=>?_⟩⟩
  ·have:(0:Rat)≤(n:Rat):=Rat.natCast_nonneg
   grind
  ·have h0:(0:Rat)≤(n:Rat):=Rat.natCast_nonneg
   have h2:=(hx x).1 (by grind);have h3:=Rat.mul_nonneg (show 0≤s*evR (b :: l) x - e by grind) (show 0≤x by grind);have h4:=Rat.mul_nonneg (show 0≤x - n by grind) (Rat.le_of_lt he);have h5:=hK.pm hs
   show e≤s*(evR (b :: l) x*x+a)
   have h6:=h5.1
   grind
  ·have h0:(0:Rat)≤(n:Rat):=Rat.natCast_nonneg
   have h2:=(hx x).2 (by grind);have h3:=Rat.mul_nonneg (show 0≤t*evR (b :: l) x - e by grind) (show 0≤-x by grind);have h4:=Rat.mul_nonneg (show 0≤-x - n by grind) (Rat.le_of_lt he);have h5:=hK.pm htm
   show e≤-t*(evR (b :: l) x*x+a)
   have h6:=h5.2
   grind
theorem far_all:∀c:List (List Rat),(∀l ∈ c,l≠[]∧topF l≠0)→∃B:Rat,1≤B∧∀x,B≤x→∀l ∈ c,atF x l=endsF false l∧atF (-x) l=endsF true l
 | [],_=>⟨1,by grind,fun _ _ l hl=>by cases hl⟩
 | a :: c,h=>by
  obtain⟨B,hB,hx⟩:=far_all c fun l hl=>h l (List.mem_cons_of_mem _ hl);obtain⟨s,t,hs,ht,e1,e2,C,e,he,hC,hy⟩:=far a (h a List.mem_cons_self).1 (h a List.mem_cons_self).2;refine⟨B+C,by grind,fun x h1 l hl=>?_⟩
  rcases List.mem_cons.1 hl with rfl|hl
  ·rw [ends_f,e1,e2]
   have k1:=(hy x).1 (by grind);have k2:=(hy (-x)).2 (by grind);exact⟨at_si hs (by grind),at_si ht (by grind)⟩
  ·exact hx x (by grind) l hl
theorem dn_all {c:List (List Rat)} (h:Dn c):∀l ∈ c,Gd l:=by
 induction h with
 | one h=>intro l hl;rw [List.mem_singleton] at hl;subst hl;exact h
 | more h _ _ ih=>
  intro l hl
  rcases List.mem_cons.1 hl with rfl|hl
  ·exact h
  ·exact ih l hl
theorem Gd.ne {l:List Rat} (h:Gd l):l≠[]:=ne_of_dg h.1
theorem turn_at {c:List (List Rat)} (h:∀l ∈ c,Gd l):∃B:Rat,1≤B∧turnF c=betweenF c (-B) B:=by
 obtain⟨B,hB,hx⟩:=far_all c fun l hl=>⟨(h l hl).ne,(h l hl).top⟩;refine⟨B,hB,?_⟩;have h1:c.map (endsF true)=c.map (atF (-B)):=List.map_congr_left fun l hl=>((hx B Rat.le_refl l hl).2).symm;have h2:c.map (endsF false)=c.map (atF B):=List.map_congr_left fun l hl=>((hx B Rat.le_refl l hl).1).symm;unfold turnF betweenF flipsF;rw [h1,h2]
theorem small_gd {p:List Rat} (h:0<dgF p):Gd (smallF p):=⟨by rw [dgSm];exact h,small_trim p⟩
theorem smalllen (p:List Rat):(smallF p).length=dgF p:=by rw [←dgSm p];unfold dgF;rw [small_trim]
theorem small_cop {p q:List Rat} (hp:0<dgF p) (h:Cop p q):Cop (smallF p) (smallF q):=by
 obtain⟨k,k0,e1,-,-⟩:=small_ev hp
 rcases Nat.eq_zero_or_pos (dgF q) with z|z
 ·exact h.scale (c:=k) (d:=1) (by grind) (by decide) e1 fun x=>by rw [small_nil z,dgz z x,ev_nil];grind
 ·obtain⟨m,m0,f1,-,-⟩:=small_ev z
  exact h.scale (by grind) (by grind) e1 f1
theorem chain_facts {p q:List Rat} (hp:0<dgF p) (hl:dgF q<dgF p) (h:Cop p q):Dn (chainF p q)∧-((dgF p:Int) - 1)≤turnF (chainF p q)∧turnF (chainF p q)≤(dgF p:Int) - 1∧((dgF p:Int) - 1 - turnF (chainF p q)) % 2=0:=by
 obtain⟨h1,h2,l,h3⟩:=chain_dn (p.length+q.length+1) (smallF p) (smallF q) (small_gd hp) (small_trim q) (by rw [smalllen,smalllen];exact hl) (by rw [smalllen];have:=dg_len q;omega) (small_cop hp h);have h4:=turn_sum h1;obtain⟨-,b1,b2,b3⟩:=dn_bound h1 _ _ h3;rw [h2,smalllen] at b1 b2 b3;unfold chainF;rw [h4];exact⟨h1,by omega,by omega,by omega⟩
theorem own_turn {p:List Rat} (h0:0<dgF p):0≤turnF (ownF p)∧turnF (ownF p)≤(dgF (simpleF p):Int) - 1∧((dgF (simpleF p):Int) - 1 - turnF (ownF p)) % 2=0∧Dn (ownF p):=by
 obtain⟨s0,-,-⟩:=simple_dg h0;have hd:=dg_deriv (simpleF p);obtain⟨c1,c2,c3,c4⟩:=chain_facts (p:=simpleF p) (q:=derivF (simpleF p)) s0 (by omega) (simple_cop h0);obtain⟨B,hB,e⟩:=turn_at (dn_all c1);have h1:=count_pos h0 (x:=-B) (y:=B) (by grind);refine⟨?_,c3,c4,c1⟩
 show 0≤turnF (chainF (simpleF p) (derivF (simpleF p)))
 rw [e];exact h1
theorem simple_sum {p:List Rat} (h0:0<dgF p):dgF p+1=dgF (nextP p)+dgF (simpleF p):=by
 have h1:=nextP_pos h0;have e:∀x,evR p x=evR (nextP p) x*evR (simpleF p) x:=quo_dv h1 (nextP_dv p).1;obtain⟨s0,-,-⟩:=simple_dg h0
 have:=dg_mul e h1 s0
 omega
theorem times_fact:∀(n:Nat) (p:List Rat),0<dgF p→dgF p≤n→0≤timesU n p∧timesU n p≤(dgF p:Int) - 1∧((dgF p:Int) - 1 - timesU n p) % 2=0
 | 0,p,h,k=>by omega
 | n+1,p,h,k=>by
  unfold timesU
  by_cases h1:1<(trimF p).length
  ·rw [if_pos h1]
   have h1':1<dgF p:=h1;have h2:=nextP_less h1';have h3:=simple_sum h;obtain⟨a1,a2,a3,-⟩:=own_turn h;obtain⟨i1,i2,i3⟩:=times_fact n (nextP p) (nextP_pos h) (by omega);unfold nextP at h2 h3 i1 i2 i3;omega
  ·rw [if_neg h1]
   have h1':¬ 1<dgF p:=h1;omega
def AL (s:Rat) (d:Nat) (c:List Rat):Prop:=∀i,i≤d→∃f:Rat,0<f∧co c i=s*sg4 (d - i)*f
theorem AL.scale {s k:Rat} {d:Nat} {c b:List Rat} (h:AL s d c) (hk:0<k) (e:∀x,evR b x=evR c x*k):AL s d b:=fun i hi=>by
 obtain⟨f,f0,g⟩:=h i hi;refine⟨f*k,Rat.mul_pos f0 hk,?_⟩
 have:=ev_inj (p:=b) (q:=scaleF c k) (fun x=>by rw [ev_scaleF];exact e x) i
 rw [this,co_scaleF,g];grind
structure Parts2 (re im g R I:List Rat):Prop where
 g0:0<dgF g
 mg:Mo g
 eR:∀x,evR re x=evR g x*evR R x
 eI:∀x,evR im x=evR g x*evR I x
 tR:trimF R=R
 tI:trimF I=I
 cop:Cop R I
theorem parts2 {re im:List Rat} (h:0<dgF re∨0<dgF im):Parts2 re im (commonF re im) (divF re (commonF re im)).1 (divF im (commonF re im)).1:=by
 obtain⟨⟨g1,g2,s,t,e⟩,mg⟩:=gcd_gc re im
 have g0:0<dgF (commonF re im):=by
  rcases h with h|h
  ·exact(g1.dg h).1
  ·exact(g2.dg h).1
 have eR:=quo_dv g0 g1;have eI:=quo_dv g0 g2;refine⟨g0,mg,eR,eI,quo_trim _ _,quo_trim _ _,s,t,fun x=>?_⟩;have h1:=ev_cancel (p:=commonF re im) (q:=addF (mulF s (divF re (commonF re im)).1) (mulF t (divF im (commonF re im)).1)) (r:=[1]) g0 (fun x=>by rw [ev_addF,ev_mulF,ev_mulF,ev_one];have h2:=e x;rw [eR,eI] at h2;grind) x;rw [ev_addF,ev_mulF,ev_mulF,ev_one] at h1;exact h1
theorem Parts2.lenR {re im g R I:List Rat} (h:Parts2 re im g R I):R.length=dgF R∧I.length=dgF I:=⟨by unfold dgF;rw [h.tR],by unfold dgF;rw [h.tI]⟩
theorem quo_dg {a g b:List Rat} (g0:0<dgF g) (e:∀x,evR a x=evR g x*evR b x):(dgF a=0∧dgF b=0)∨(0<dgF b∧dgF a+1=dgF g+dgF b):=by
 rcases Nat.eq_zero_or_pos (dgF b) with z|z
 ·exact .inl ⟨dg_of_zero fun x=>by rw [e,dgz z];grind,z⟩
 ·have:=dg_mul e g0 z
  exact .inr ⟨z,by omega⟩
theorem routh_turn {re im:List Rat} (h:0<dgF re∨0<dgF im) (hne:dgF re≠dgF im):∀R I:List Rat,(divF re (commonF re im)).1=R→(divF im (commonF re im)).1=I→dgF R≠dgF I∧0<max (dgF R) (dgF I)∧max (dgF re) (dgF im)+1=dgF (commonF re im)+max (dgF R) (dgF I)∧-((max (dgF R) (dgF I):Nat) - 1:Int)≤routhT re im (commonF re im)∧routhT re im (commonF re im)≤((max (dgF R) (dgF I):Nat) - 1:Int)∧((max (dgF R) (dgF I):Nat) - 1 - routhT re im (commonF re im):Int) % 2=0∧Dn (routhC re im (commonF re im)):=by
 intro R I hR hI;have P:=parts2 h;rw [hR,hI] at P;obtain⟨lR,lI⟩:=P.lenR;have dR:=quo_dg P.g0 P.eR;have dI:=quo_dg P.g0 P.eI;have hRI:dgF R≠dgF I:=by omega
 unfold routhT routhC;rw [hR,hI,lR,lI]
 by_cases hlt:dgF I<dgF R
 ·rw [if_pos hlt,if_pos hlt]
  obtain⟨c1,c2,c3,c4⟩:=chain_facts (by omega) hlt P.cop;rw [show max (dgF R) (dgF I)=dgF R from by omega];exact⟨hRI,by omega,by omega,by omega,by omega,by omega,c1⟩
 ·rw [if_neg hlt,if_neg hlt]
  obtain⟨c1,c2,c3,c4⟩:=chain_facts (p:=I) (q:=R) (by omega) (by omega) P.cop.symm;rw [show max (dgF R) (dgF I)=dgF I from by omega];exact⟨hRI,by omega,by omega,by omega,by omega,by omega,c1⟩
end Go.Proofs.YtkoaakefgacokaaGreatDoor
