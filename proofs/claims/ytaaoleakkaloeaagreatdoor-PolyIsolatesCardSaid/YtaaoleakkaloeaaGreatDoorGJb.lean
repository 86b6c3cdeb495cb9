/- Changes of sign in a chain, on a short piece. Gauss's lemma: the numbers of a factor of a polynomial are as small as those of the polynomial, nearly. -/
import Derived.Test.YtaaoleakkaloeaaGreatDoorGYw
import Derived.Test.YtaaoleakkaloeaaGreatDoorGYh
import Derived.Test.YtaaoleakkaloeaaGreatDoorGHf
set_option linter.unusedVariables false
set_option maxRecDepth 100000
set_option maxHeartbeats 64000000
namespace Go.Proofs.YtaaoleakkaloeaaGreatDoor
set_option linter.unusedSimpArgs false
def chg (u v:Int):Int:=if (u=1∧v = -1)∨(u = -1∧v=1) then 1 else 0
theorem flips_cons (last s:Int) (l:List Int):flipsU last (s :: l)=if s=0 then flipsU last l else chg last s+flipsU s l:=rfl
def si (s:Rat):Int:=if s=1 then 1 else -1
theorem si_one:si 1=1:=rfl
theorem si_neg:si (-1) = -1:=by decide
def Pm (s:Rat):Prop:=s=1∨s = -1
theorem Pm.neg {s:Rat} (h:Pm s):Pm (-s):=by
 rcases h with rfl|rfl
 ·exact .inr rfl
 ·exact .inl (by decide)
theorem si_not {s:Rat} (h:Pm s):si (-s) = -si s∧(si s=1∨si s = -1):=by
 rcases h with rfl|rfl
 ·exact⟨by decide,.inl rfl⟩
 ·exact⟨by decide,.inr (by decide)⟩
theorem num_pos' {q:Rat} (h:0<q):0<q.num:=by
 have h1:0≤q.num:=Rat.num_nonneg.2 (Rat.le_of_lt h);have h2:q.num≠0:=fun e=>by rw [Rat.num_eq_zero.1 e] at h;exact absurd h (by decide)
 omega
theorem sign_pos' {q:Rat} (h:0<q):q.num.sign=1:=Int.sign_eq_one_of_pos (num_pos' h)
theorem sign_neg' {q:Rat} (h:q<0):q.num.sign = -1:=by
 have h1:0 < -q:=by grind
 have h2:=num_pos' h1;rw [Rat.neg_num] at h2;exact Int.sign_eq_neg_one_of_neg (by omega)
theorem lt_or_le' (x y:Rat):x<y∨y≤x:=by
 rcases Rat.le_total (a:=x) (b:=y) with h|h
 ·by_cases e:x=y
  ·exact .inr (by grind)
  ·exact .inl (by grind)
 ·exact .inr h
theorem at_si {s x:Rat} {p:List Rat} (hs:Pm s) (h:0<s*evR p x):atF x p=si s:=by
 unfold atF
 rcases hs with rfl|rfl
 ·exact sign_pos' (by grind)
 ·rw [si_neg];exact sign_neg' (by grind)
theorem at_cases (x:Rat) (p:List Rat):atF x p=0∧evR p x=0∨atF x p=1∧0<evR p x∨atF x p = -1∧evR p x<0:=by
 unfold atF
 by_cases h0:evR p x=0
 ·exact .inl ⟨by rw [h0];rfl,h0⟩
 ·rcases Rat.le_total (a:=0) (b:=evR p x) with h|h
  ·exact .inr (.inl ⟨sign_pos' (by grind),by grind⟩)
  ·exact .inr (.inr ⟨sign_neg' (by grind),by grind⟩)
inductive Gt (a b:Rat):Rat→List (List Rat)→Prop
 | one {s:Rat} {p:List Rat}:Pm s→Fx s p a b→Gt a b s [p]
 | next {s t:Rat} {p q:List Rat} {l:List (List Rat)}:Pm s→Fx s p a b→Gt a b t (q :: l)→Gt a b s (p :: q :: l)
 | skip {s:Rat} {p q r:List Rat} {l:List (List Rat)}:Pm s→Fx s p a b→Gt a b (-s) (r :: l)→Gt a b s (p :: q :: r :: l)
theorem Gt.pm {a b s:Rat} {c:List (List Rat)} (h:Gt a b s c):Pm s:=by
 cases h with
 | one h _=>exact h
 | next h _ _=>exact h
 | skip h _ _=>exact h
theorem chg_neg {u:Int} (h:u=1∨u = -1):chg u (-u)=1:=by rcases h with rfl|rfl <;> rfl
theorem Gt.const {a b s:Rat} {c:List (List Rat)} (h:Gt a b s c):∃N:Int,∀x,a≤x→x≤b→∀last,flipsU last (c.map (atF x))=chg last (si s)+N:=by
 induction h with
 | one hs hf=>
  refine⟨0,fun x h1 h2 last=>?_⟩;have h3:=at_si hs (hf x h1 h2);have h4:=(si_not hs).2;rw [List.map_cons,flips_cons,h3,if_neg (by omega)]
  rfl
 | @next s t p q l hs hf hg ih=>
  obtain⟨N,hN⟩:=ih;refine⟨chg (si s) (si t)+N,fun x h1 h2 last=>?_⟩;have h3:=at_si hs (hf x h1 h2);have h4:=(si_not hs).2;rw [List.map_cons,flips_cons,h3,if_neg (by omega),hN x h1 h2]
 | @skip s p q r l hs hf hg ih=>
  obtain⟨N,hN⟩:=ih;refine⟨1+N,fun x h1 h2 last=>?_⟩;have h3:=at_si hs (hf x h1 h2);obtain⟨h5,h4⟩:=si_not hs;rw [List.map_cons,flips_cons,h3,if_neg (by omega),List.map_cons,flips_cons];have h6:=hN x h1 h2
  rcases at_cases x q with ⟨e,-⟩|⟨e,-⟩|⟨e,-⟩
  ·rw [e,if_pos rfl,h6,h5,chg_neg h4]
  ·rw [e,if_neg (by decide),h6,h5]
   have k1:chg 1 1=0:=rfl;have k2:chg 1 (-1)=1:=rfl;have k3:chg (-1) 1=1:=rfl;have k4:chg (-1) (-1)=0:=rfl;have k5:(-(-1):Int)=1:=rfl
   rcases h4 with e2|e2
   ·rw [e2];omega
   ·rw [e2,k5];omega
  ·rw [e,if_neg (by decide),h6,h5]
   have k1:chg 1 1=0:=rfl;have k2:chg 1 (-1)=1:=rfl;have k3:chg (-1) 1=1:=rfl;have k4:chg (-1) (-1)=0:=rfl;have k5:(-(-1):Int)=1:=rfl
   rcases h4 with e2|e2
   ·rw [e2];omega
   ·rw [e2,k5];omega
def vF (c:List (List Rat)) (x:Rat):Int:=flipsF c (atF x)
theorem Gt.same {a b s:Rat} {c:List (List Rat)} (h:Gt a b s c):∃N:Int,∀x,a≤x→x≤b→vF c x=N:=by
 obtain⟨N,hN⟩:=h.const;refine⟨N,fun x h1 h2=>?_⟩
 have:=hN x h1 h2 0
 have e:chg 0 (si s)=0:=rfl;rw [e,Int.zero_add] at this;exact this
theorem Gt.head {a b s:Rat} {p:List Rat} {c:List (List Rat)} (h:Gt a b s c):∃N:Int,∀x,a≤x→x≤b→vF (p :: c) x=chg (atF x p) (si s)+N:=by
 obtain⟨N,hN⟩:=h.const;refine⟨N,fun x h1 h2=>?_⟩
 show flipsU 0 (atF x p :: c.map (atF x))=_
 rw [flips_cons]
 rcases at_cases x p with ⟨e,-⟩|⟨e,-⟩|⟨e,-⟩
 ·rw [e,if_pos rfl,hN x h1 h2]
 ·rw [e,if_neg (by decide),hN x h1 h2]
  have e2:chg 0 1=0:=rfl;rw [e2];omega
 ·rw [e,if_neg (by decide),hN x h1 h2]
  have e2:chg 0 (-1)=0:=rfl;rw [e2];omega
theorem small_ex {e K n:Rat} (he:0<e) (hK:0≤K) (hn:0<n):∃d,0<d∧d*K<e∧d≤n:=by
 have h1:0<K+1:=by grind
 have h2:0<(K+1)⁻¹:=Rat.inv_pos.2 h1;have h3:=Rat.mul_inv_cancel (K+1) (by grind);have h4:0<e*(K+1)⁻¹:=Rat.mul_pos he h2
 have h5:e*(K+1)⁻¹*K<e:=by
  have:e*(K+1)⁻¹*K=e*((K+1)*(K+1)⁻¹) - e*(K+1)⁻¹:=by grind
  rw [this,h3];grind
 rcases Rat.le_total (a:=e*(K+1)⁻¹) (b:=n) with h|h
 ·exact⟨_,h4,h5,h⟩
 ·refine⟨n,hn,?_,Rat.le_refl⟩
  have h6:=Rat.mul_nonneg (show 0≤e*(K+1)⁻¹ - n by grind) hK
  grind
inductive Chn:List (List Rat)→Prop
 | one {p:List Rat} {k:Rat}:k≠0→(∀x,evR p x=k)→Chn [p]
 | two {p q:List Rat}:Cop p q→Chn [q]→Chn [p,q]
 | more {p q r s:List Rat} {k:Rat} {l:List (List Rat)}:Cop p q→0<k→(∀x,evR p x=evR s x*evR q x - k*evR r x)→Chn (q :: r :: l)→Chn (p :: q :: r :: l)
theorem pm_of (x:Rat):∃s,Pm s∧0≤s*x:=by
 rcases Rat.le_total (a:=0) (b:=x) with h|h
 ·exact⟨1,.inl rfl,by grind⟩
 ·exact⟨-1,.inr rfl,by grind⟩
theorem Pm.sq {s:Rat} (h:Pm s):s*s=1:=by rcases h with rfl|rfl <;> grind
theorem Ab.pm {K x s:Rat} (h:Ab K x) (hs:Pm s):Ab K (s*x):=by
 have h1:=h.1;have h2:=h.2
 rcases hs with rfl|rfl <;> constructor <;> grind
def Loc (B:Rat) (p:List Rat) (l:List (List Rat)):Prop:=∃ κ:Rat,0<κ∧∀ η:Rat,0<η→∃d e:Rat,0<d∧0<e∧e≤η∧∀a b,Ab B a→Ab B b→a≤b→b - a≤d→(∀s,Pm s→e≤s*evR p a→Gt a b s (p :: l))∧(-e<evR p a→evR p a<e→∃q m s,l=q :: m∧Pm s∧κ≤s*evR q a∧Gt a b s l)
theorem loc_step {B:Rat} (hB:0≤B) {p q:List Rat} {l:List (List Rat)} (hc:Cop p q) (ih:Loc B q l) (hr:∀r m,l=r :: m→∃(S:List Rat) (k:Rat),0<k∧∀x,evR p x=evR S x*evR q x - k*evR r x):Loc B p (q :: l):=by
 obtain⟨u,v,huv⟩:=hc;obtain⟨Ku,ku0,ku⟩:=ev_ab hB u;obtain⟨Kv,kv0,kv⟩:=ev_ab hB v;obtain⟨Kp,kp0,kp⟩:=syn_ab hB p;obtain⟨κ',κ0,ihη⟩:=ih;obtain⟨c,c0,c1,-⟩:=small_ex (e:=1) (K:=2*Ku+2*Kv) (n:=1) (by decide) (by grind) (by decide)
 obtain⟨g,g0,hg⟩:∃g:Rat,0<g∧∀r m,l=r :: m→∃(S:List Rat) (k K:Rat),0<k∧(∀x,evR p x=evR S x*evR q x - k*evR r x)∧(∀x,Ab B x→Ab K (evR S x))∧g*K<k*κ':=by
  cases l with
  | nil=>exact⟨1,by decide,fun r m h=>by cases h⟩
  | cons r m=>
   obtain⟨S,k,k0,hS⟩:=hr r m rfl;obtain⟨K,K0,hK⟩:=ev_ab hB S;obtain⟨g,g0,g1,-⟩:=small_ex (e:=k*κ') (K:=K) (n:=1) (Rat.mul_pos k0 κ0) K0 (by decide);exact⟨g,g0,fun r' m' h=>by injection h with h1 h2;subst h1;exact⟨S,k,K,k0,hS,hK,g1⟩⟩
 refine⟨c,c0,fun η hη=>?_⟩;obtain⟨η',hη0,-,hη1⟩:=small_ex (e:=1) (K:=0) (n:=min c g) (by decide) Rat.le_refl (by rw [Rat.min_def];split <;> assumption);have hηc:η'≤c:=Rat.le_trans hη1 (by rw [Rat.min_def];split <;> grind);have hηg:η'≤g:=Rat.le_trans hη1 (by rw [Rat.min_def];split <;> grind);obtain⟨dq,eq,dq0,eq0,eqη,hq⟩:=ihη η' hη0;obtain⟨e,e0,-,e1⟩:=small_ex (e:=1) (K:=0) (n:=min η c) (by decide) Rat.le_refl (by rw [Rat.min_def];split <;> assumption);have he1:e≤η:=Rat.le_trans e1 (by rw [Rat.min_def];split <;> grind);have he2:e≤c:=Rat.le_trans e1 (by rw [Rat.min_def];split <;> grind);obtain⟨d,d0,d1,d2⟩:=small_ex (e:=e) (K:=Kp) (n:=dq) e0 kp0 dq0;refine⟨d,e,d0,e0,he1,fun a b ha hb hab hba=>?_⟩;obtain⟨t1,t2⟩:=hq a b ha hb hab (Rat.le_trans hba d2)
 constructor
 ·intro s hs hp
  have hfx:Fx s p a b:=fix_near kp d1 ha hb hab hba hs hp;obtain⟨σ,hσ,hσq⟩:=pm_of (evR q a)
  rcases Rat.le_total (a:=eq) (b:=σ*evR q a) with h|h
  ·exact .next hs hfx (t1 σ hσ h)
  ·rcases lt_or_le' (σ*evR q a) eq with h2|h2
   ·obtain⟨r,m,τ,hl,hτ,hτr,hgt⟩:=t2 (by rcases hσ with rfl|rfl <;> grind) (by rcases hσ with rfl|rfl <;> grind)
    obtain⟨S,k,K,k0,hS,hK,gK⟩:=hg r m hl;subst hl
    have hne:τ = -s:=by
     rcases hs with rfl|rfl
     ·rcases hτ with rfl|rfl
      ·exfalso
       have f1:=hS a;have f2:=(hK a ha).mul (show Ab g (evR q a) from ⟨by rcases hσ with rfl|rfl <;> grind,by rcases hσ with rfl|rfl <;> grind⟩);have f3:=f2.2;have f4:=Rat.mul_nonneg (show 0≤k by grind) (show 0≤1*evR r a - κ' by grind)
       grind
      ·rfl
     ·rcases hτ with rfl|rfl
      ·grind
      ·exfalso
       have f1:=hS a;have f2:=(hK a ha).mul (show Ab g (evR q a) from ⟨by rcases hσ with rfl|rfl <;> grind,by rcases hσ with rfl|rfl <;> grind⟩);have f3:=f2.1;have f4:=Rat.mul_nonneg (show 0≤k by grind) (show 0≤-1*evR r a - κ' by grind)
       grind
    rw [hne] at hgt;exact .skip hs hfx hgt
   ·exact .next hs hfx (t1 σ hσ h2)
 ·intro h1 h2
  obtain⟨σ,hσ,hσq⟩:=pm_of (evR q a);have f1:=huv a;have f2:=(ku a ha).mul (show Ab c (evR p a) from ⟨by grind,by grind⟩)
  have hbig:c≤σ*evR q a:=by
   rcases lt_or_le' (σ*evR q a) c with h3|h3
   ·exfalso
    have f3:=(kv a ha).mul (show Ab c (evR q a) from ⟨by rcases hσ with rfl|rfl <;> grind,by rcases hσ with rfl|rfl <;> grind⟩);have f4:=f2.2;have f5:=f3.2
    grind
   ·exact h3
  exact⟨q,l,σ,rfl,hσ,hbig,t1 σ hσ (by grind)⟩
theorem loc_one {B:Rat} {p:List Rat} {k:Rat} (hk:k≠0) (h:∀x,evR p x=k):Loc B p []:=by
 obtain⟨σ,hσ,hσk⟩:=pm_of k;have hpos:0<σ*k:=by rcases hσ with rfl|rfl <;> grind
 refine⟨1,by decide,fun η hη=>?_⟩;obtain⟨e,e0,-,e1⟩:=small_ex (e:=1) (K:=0) (n:=min η (σ*k)) (by decide) Rat.le_refl (by rw [Rat.min_def];split <;> assumption);have he1:e≤η:=Rat.le_trans e1 (by rw [Rat.min_def];split <;> grind);have he2:e≤σ*k:=Rat.le_trans e1 (by rw [Rat.min_def];split <;> grind);refine⟨1,e,by decide,e0,he1,fun a b ha hb hab hba=>⟨fun s hs hp=>.one hs fun x _ _=>?_,fun h1 h2=>?_⟩⟩
 ·rw [h] at hp ⊢
  grind
 ·exfalso
  rw [h] at h1 h2
  rcases hσ with rfl|rfl <;> grind
theorem Chn.loc {B:Rat} (hB:0≤B) {c:List (List Rat)} (h:Chn c):∀p l,c=p :: l→Loc B p l:=by
 induction h with
 | one hk h=>intro p l e;injection e with e1 e2;subst e1 e2;exact loc_one hk h
 | two hc hq ih=>intro p l e;injection e with e1 e2;subst e1 e2;exact loc_step hB hc (ih _ _ rfl) fun r m h=>by cases h
 | more hc hk hr hq ih=>intro p l e;injection e with e1 e2;subst e1 e2;exact loc_step hB hc (ih _ _ rfl) fun r m h=>by injection h with h1 h2;subst h1;exact⟨_,_,hk,hr⟩
end Go.Proofs.YtaaoleakkaloeaaGreatDoor
set_option linter.unusedVariables false
set_option maxRecDepth 100000
set_option maxHeartbeats 64000000
namespace Go.Proofs.YtaaoleakkaloeaaGreatDoor
set_option linter.unusedSimpArgs false
def ci (p:List Int) (i:Nat):Int:=(p[i]?).getD 0
theorem ci_mem {p:List Int} {d:Int} (h:∀i,d ∣ ci p i):∀x ∈ p,d ∣ x:=fun x hx=>by
 obtain⟨i,hi⟩:=List.getElem?_of_mem hx
 have:=h i
 unfold ci at this
 rwa [hi] at this
def pc:List Int→List Int→Nat→Int
 | [],_,_=>0
 | g :: _,H,0=>g*ci H 0
 | g :: G,H,k+1=>g*ci H (k+1)+pc G H k
theorem pc_right (h:Int) (H:List Int):∀(G:List Int) (k:Nat),pc G (h :: H) (k+1)=h*ci G (k+1)+pc G H k
 | [],k=>by show (0:Int)=h*0+0;grind
 | g :: G,0=>by
  show g*ci H 0+pc G (h :: H) 0=h*ci G 0+g*ci H 0
  have e:pc G (h :: H) 0=h*ci G 0:=by
   cases G with
   | nil=>show (0:Int)=h*0;grind
   | cons a G=>show a*h=h*a;grind
  rw [e];grind
 | g :: G,k+1=>by
  show g*ci H (k+1)+pc G (h :: H) (k+1)=h*ci G (k+1)+(g*ci H (k+1)+pc G H k)
  rw [pc_right h H G k];grind
theorem ci_map (c:Int) (p:List Int) (i:Nat):ci (p.map (c*·)) i=c*ci p i:=by
 unfold ci;rw [List.getElem?_map]
 cases p[i]? with
 | none=>show (0:Int)=c*0;grind
 | some x=>rfl
theorem pc_mapl (c:Int) (H:List Int):∀(G:List Int) (k:Nat),pc (G.map (c*·)) H k=c*pc G H k
 | [],k=>by show (0:Int)=c*0;grind
 | g :: G,0=>by show c*g*ci H 0=c*(g*ci H 0);grind
 | g :: G,k+1=>by
  show c*g*ci H (k+1)+pc (G.map (c*·)) H k=c*(g*ci H (k+1)+pc G H k)
  rw [pc_mapl c H G k];grind
theorem pc_mapr (c:Int) (H:List Int):∀(G:List Int) (k:Nat),pc G (H.map (c*·)) k=c*pc G H k
 | [],k=>by show (0:Int)=c*0;grind
 | g :: G,0=>by show g*ci (H.map (c*·)) 0=c*(g*ci H 0);rw [ci_map];grind
 | g :: G,k+1=>by
  show g*ci (H.map (c*·)) (k+1)+pc G (H.map (c*·)) k=c*(g*ci H (k+1)+pc G H k)
  rw [pc_mapr c H G k,ci_map];grind
def Eu (l:Int):Prop:=∀a b:Int,l ∣ a*b→l ∣ a∨l ∣ b
theorem gauss {l:Int} (he:Eu l):∀(n:Nat) (G H:List Int),G.length+H.length≤n→(∀k,l ∣ pc G H k)→(∀i,l ∣ ci G i)∨(∀i,l ∣ ci H i)
 | n,[],H,_,_=>.inl fun i=>Int.dvd_zero l
 | n,_ :: _,[],_,_=>.inr fun i=>Int.dvd_zero l
 | 0,g :: G,h :: H,hn,_=>by simp at hn
 | n+1,g :: G,h :: H,hn,hk=>by
  have h0:l ∣ g*h:=hk 0
  rcases he g h h0 with hg|hh
  ·have h1:∀k,l ∣ pc G (h :: H) k:=fun k=>by
    have h2:l ∣ g*ci (h :: H) (k+1)+pc G (h :: H) k:=hk (k+1);exact(Int.dvd_add_right (Int.dvd_mul_of_dvd_left hg)).1 h2
   rcases gauss he n G (h :: H) (by simp at hn ⊢;omega) h1 with h3|h3
   ·refine .inl fun i=>?_
    cases i with
    | zero=>exact hg
    | succ i=>exact h3 i
   ·exact .inr h3
  ·have h1:∀k,l ∣ pc (g :: G) H k:=fun k=>by
    have h2:l ∣ pc (g :: G) (h :: H) (k+1):=hk (k+1);rw [pc_right] at h2;exact(Int.dvd_add_right (Int.dvd_mul_of_dvd_left hh)).1 h2
   rcases gauss he n (g :: G) H (by simp at hn ⊢;omega) h1 with h3|h3
   ·exact .inl h3
   ·refine .inr fun i=>?_
    cases i with
    | zero=>exact hh
    | succ i=>exact h3 i
theorem prime_dv:∀(n c:Nat),c≤n→1<c→∃l,1<l∧l ∣ c∧∀d,d ∣ l→d=1∨d=l
 | 0,c,hn,h=>by omega
 | n+1,c,hn,h=>by
  by_cases hp:∀d,d ∣ c→d=1∨d=c
  ·exact⟨c,h,Nat.dvd_refl c,hp⟩
  ·obtain⟨d,hd⟩:=Classical.not_forall.1 hp
   obtain⟨d1,d2⟩:=Classical.not_imp.1 hd;have d3:d≠1:=fun e=>d2 (.inl e);have d4:d≠c:=fun e=>d2 (.inr e);have d5:d≠0:=fun e=>by rw [e] at d1;have:=Nat.eq_zero_of_zero_dvd d1;omega
   have d6:=Nat.le_of_dvd (by omega) d1;obtain⟨l,l1,l2,l3⟩:=prime_dv n d (by omega) (by omega);exact⟨l,l1,Nat.dvd_trans l2 d1,l3⟩
theorem prime_eu {l:Nat} (h:∀d,d ∣ l→d=1∨d=l):Eu (l:Int):=fun a b hab=>by
 rw [Int.ofNat_dvd_left,Int.natAbs_mul] at hab;rw [Int.ofNat_dvd_left,Int.ofNat_dvd_left]
 rcases h (Nat.gcd l a.natAbs) (Nat.gcd_dvd_left _ _) with h1|h1
 ·exact .inr (Nat.Coprime.dvd_of_dvd_mul_left h1 hab)
 ·refine .inl ?_
  rw [←h1];exact Nat.gcd_dvd_right _ _
theorem map_div {p:List Int} {d:Int} (h:∀i,d ∣ ci p i):∃q:List Int,p=q.map (d*·):=by
 refine⟨p.map (· / d),?_⟩;rw [List.map_map];have h1:=ci_mem h;clear h
 induction p with
 | nil=>rfl
 | cons a p ih=>
  have h2:=ih fun x hx=>h1 x (List.mem_cons_of_mem _ hx);have h3:d*(a / d)=a:=Int.mul_ediv_cancel' (h1 a (List.mem_cons_self ..));rw [List.map_cons,←h2]
  show a :: p=d*(a / d) :: p
  rw [h3]
theorem content:∀(n c e:Nat) (G H:List Int) (j:Nat),c*e≤n→0<c→0<e→(∀k,((c*e:Nat):Int) ∣ pc G H k)→ci H j=(e:Int)→∀i,(c:Int) ∣ ci G i
 | 0,c,e,G,H,j,hn,hc,he,_,_,i=>by have:=Nat.mul_pos hc he;omega
 | n+1,c,e,G,H,j,hn,hc,he,hk,hj,i=>by
  by_cases h1:c=1
  ·subst h1;exact Int.one_dvd _
  obtain⟨l,l1,⟨c',hc'⟩,l3⟩:=prime_dv c c (Nat.le_refl _) (by omega);have hl:(l:Int)≠0:=by omega
  have hk1:∀k,(l:Int) ∣ pc G H k:=fun k=>Int.dvd_trans (Int.natCast_dvd_natCast.2 ⟨c'*e,by rw [hc',Nat.mul_assoc]⟩) (hk k);have hc0:0<c':=Nat.pos_of_ne_zero fun e=>by rw [e,Nat.mul_zero] at hc';omega
  rcases gauss (prime_eu l3) _ G H (Nat.le_refl _) hk1 with h2|h2
  ·obtain⟨G',rfl⟩:=map_div h2
   have h3:=content n c' e G' H j (by
     have h5:c'*e<c*e:=Nat.mul_lt_mul_of_pos_right (by rw [hc'];exact(Nat.lt_mul_iff_one_lt_left hc0).2 l1) he
     omega) hc0 he (fun k=>by
     have h4:=hk k;rw [pc_mapl,show ((c*e:Nat):Int)=(l:Int)*((c'*e:Nat):Int) by rw [hc',←Int.natCast_mul,Nat.mul_assoc]] at h4;exact Int.dvd_of_mul_dvd_mul_left hl h4) hj i
   rw [ci_map,hc',Int.natCast_mul];exact Int.mul_dvd_mul_left _ h3
  ·have h2j:=h2 j
   obtain⟨H',rfl⟩:=map_div h2;rw [hj] at h2j;obtain⟨e',he'⟩:=Int.natCast_dvd_natCast.1 h2j;have he0:0<e':=Nat.pos_of_ne_zero fun e=>by rw [e,Nat.mul_zero] at he';omega
   refine content n c e' G H' j (by
     have h5:c*e'<c*e:=Nat.mul_lt_mul_of_pos_left (by rw [he'];exact(Nat.lt_mul_iff_one_lt_left he0).2 l1) hc
     omega) hc he0 (fun k=>by
     have h4:=hk k;rw [pc_mapr,show ((c*e:Nat):Int)=(l:Int)*((c*e':Nat):Int) by rw [he',←Int.natCast_mul];congr 1;rw [Nat.mul_left_comm]] at h4
     exact Int.dvd_of_mul_dvd_mul_left hl h4) (by
     rw [ci_map,he',Int.natCast_mul] at hj;exact Int.eq_of_mul_eq_mul_left hl hj) i
def toR (p:List Int):List Rat:=p.map fun z:Int=>(z:Rat)
theorem co_toR (p:List Int) (i:Nat):co (toR p) i=(ci p i:Rat):=by
 unfold co ci toR;rw [List.getElem?_map]
 cases p[i]? <;> rfl
theorem mul_cons (g:Rat) (G H:List Rat) (k:Nat):co (mulF (g :: G) H) k=g*co H k+co (0 :: mulF G H) k:=by
 rw [ev_inj (q:=zipA (H.map (·*g)) (0 :: mulF G H)) (fun x=>by
  rw [ev_mulF,ev_zip,ev_map]
  show (evR G x*x+g)*_=_+(evR (mulF G H) x*x+0)
  rw [ev_mulF];grind),co_zip,co_map]
 grind
theorem co_pc (H:List Int):∀(G:List Int) (k:Nat),(pc G H k:Rat)=co (mulF (toR G) (toR H)) k
 | [],k=>by
  rw [ev_inj (q:=[]) (fun x=>by rw [ev_mulF];show 0*_=(0:Rat);grind)]
  show ((0:Int):Rat)=0
  exact Rat.intCast_zero
 | g :: G,0=>by
  show ((g*ci H 0:Int):Rat)=co (mulF ((g:Rat) :: toR G) (toR H)) 0
  rw [mul_cons,co_toR,Rat.intCast_mul]
  show _=_+(0:Rat)
  grind
 | g :: G,k+1=>by
  show ((g*ci H (k+1)+pc G H k:Int):Rat)=co (mulF ((g:Rat) :: toR G) (toR H)) (k+1)
  rw [mul_cons,co_toR,Rat.intCast_add,Rat.intCast_mul,co_pc H G k]
  rfl
theorem HF.nat {a:Nat} {p:List Rat} (h:HF a p):∃(D:Nat) (n:Nat→Int),0<D∧D<2 ^ a∧∀i,co p i*(D:Rat)=(n i:Rat)∧(n i).natAbs<2 ^ a:=by
 obtain⟨D,n,h0,h1,h2⟩:=h;refine⟨D.natAbs,fun i=>D.sign*n i,by omega,h1,fun i=>⟨?_,?_⟩⟩
 ·have e:((D.natAbs:Nat):Rat)=(D.sign:Rat)*(D:Rat):=by
   rw [←Rat.intCast_mul,Int.mul_comm,Int.mul_sign_self,Rat.intCast_natCast]
  rw [e,Rat.intCast_mul,←(h2 i).1];grind
 ·rw [Int.natAbs_mul,Int.natAbs_sign_of_ne_zero h0,Nat.one_mul];exact(h2 i).2
theorem bq_ex (c:Rat):∃M,Bq M c:=by
 have h1:=Nat.lt_two_pow_self (n:=c.num.natAbs);have h2:=Nat.lt_two_pow_self (n:=c.den);exact⟨c.num.natAbs+c.den,Nat.lt_of_lt_of_le h1 (Nat.pow_le_pow_right (by decide) (by omega)),Nat.lt_of_lt_of_le h2 (Nat.pow_le_pow_right (by decide) (by omega))⟩
theorem hf_ex:∀p:List Rat,∃a,HF a p
 | []=>⟨1,HF.nil (by omega)⟩
 | c :: p=>by
  obtain⟨a,h⟩:=hf_ex p;obtain⟨M,k⟩:=bq_ex c;exact⟨a+M,h.cons k⟩
theorem factor_int {f h p:List Rat} {D:Nat} {n:Nat→Int} (e:∀x,evR p x=evR f x*evR h x) (hh:Mo h) (hh0:0<dgF h) (hD:0<D) (hn:∀i,co p i*(D:Rat)=(n i:Rat)):∃m:Nat→Int,∀i,co f i*(D:Rat)=(m i:Rat):=by
 obtain⟨a,haf⟩:=hf_ex f;obtain⟨b,hbh⟩:=hf_ex h;obtain⟨c,nf,c0,-,c2⟩:=haf.nat;obtain⟨d,nh,d0,-,d2⟩:=hbh.nat
 have hG:∀i,ci ((List.range f.length).map fun i=>(D:Int)*nf i) i=(D:Int)*nf i:=fun i=>by
  unfold ci;rw [List.getElem?_map]
  rcases Nat.lt_or_ge i f.length with h|h
  ·rw [List.getElem?_range h];rfl
  ·rw [List.getElem?_eq_none (by simpa using h)]
   have h1:=(c2 i).1;rw [co_ge h] at h1;have h2:nf i=0:=Rat.intCast_inj.1 (h1.symm.trans (by rw [Rat.intCast_zero];grind));rw [h2];rfl
 have hH:∀i,ci ((List.range h.length).map nh) i=nh i:=fun i=>by
  unfold ci;rw [List.getElem?_map]
  rcases Nat.lt_or_ge i h.length with k|k
  ·rw [List.getElem?_range k];rfl
  ·rw [List.getElem?_eq_none (by simpa using k)]
   have h1:=(d2 i).1;rw [co_ge k] at h1;have h2:nh i=0:=Rat.intCast_inj.1 (h1.symm.trans (by rw [Rat.intCast_zero];grind));rw [h2];rfl
 generalize (List.range f.length).map (fun i=>(D:Int)*nf i)=G at hG;generalize (List.range h.length).map nh=H at hH
 have eG:∀x,evR (toR G) x=evR f x*((c:Rat)*(D:Rat)):=fun x=>by
  rw [←ev_map];refine ev_co (fun i=>?_) x;rw [co_toR,hG,co_map,Rat.intCast_mul,←(c2 i).1,Rat.intCast_natCast];grind
 have eH:∀x,evR (toR H) x=evR h x*(d:Rat):=fun x=>by
  rw [←ev_map];refine ev_co (fun i=>?_) x;rw [co_toR,hH,co_map,←(d2 i).1]
 have hk:∀k,((c*d:Nat):Int) ∣ pc G H k:=fun k=>by
  refine⟨n k,?_⟩
  apply Rat.intCast_inj.1
  rw [co_pc,ev_inj (q:=p.map (·*((c:Rat)*(D:Rat)*(d:Rat)))) (fun x=>by rw [ev_mulF,eG,eH,ev_map,e];grind),co_map,Rat.intCast_mul,←hn k,Rat.intCast_natCast,Rat.natCast_mul]
  grind
 have hj:ci H (dgF h - 1)=(d:Int):=by
  rw [hH]
  apply Rat.intCast_inj.1
  rw [←(d2 _).1]
  have:topF h=1:=hh.2.resolve_left fun e=>by rw [e] at hh0;cases hh0
  rw [top_eq hh.1] at this;rw [this,Rat.intCast_natCast];grind
 have hc:=content _ c d G H (dgF h - 1) (Nat.le_refl _) c0 d0 hk hj;obtain⟨m,hm⟩:∃m:Nat→Int,∀i,ci G i=(c:Int)*m i:=⟨fun i=>(hc i).choose,fun i=>(hc i).choose_spec⟩;refine⟨m,fun i=>?_⟩;have h1:=hm i;rw [hG] at h1;have h2:=congrArg (fun z:Int=>(z:Rat)) h1
 simp only [Rat.intCast_mul,Rat.intCast_natCast] at h2
 rw [←(c2 i).1] at h2;have hc0:(c:Rat)≠0:=fun e=>by have:=Rat.natCast_eq_zero_iff.1 e;omega
 have h3:=Rat.mul_inv_cancel (c:Rat) hc0;generalize (m i:Rat)=z at *;have h4:(c:Rat)*(co f i*(D:Rat))=(c:Rat)*z:=by rw [←h2];grind
 have h5:(c:Rat)⁻¹*((c:Rat)*(co f i*(D:Rat)))=(c:Rat)⁻¹*((c:Rat)*z):=by rw [h4]
 grind
end Go.Proofs.YtaaoleakkaloeaaGreatDoor
