/- What the law PolyRing needs beside the contracts. How great the numbers of square-free parts are, on both ways to them. How great the numbers are that PolyDivides looks at. Polynomials on a bounded piece: how great values are, how fast they change. Changes of sign in a chain, on a short piece. -/
import Derived.Test.YtaaoleakkaloeaaGreatDoorGYy
import Derived.Test.YtaaoleakkaloeaaGreatDoorGZa
import Derived.Test.YtaaoleakkaloeaaGreatDoorGHj
import Derived.Test.YtaaoleakkaloeaaGreatDoorGRk
import Derived.Test.YtaaoleakkaloeaaGreatDoorGYh
set_option linter.unusedVariables false
set_option maxRecDepth 100000
set_option maxHeartbeats 64000000
namespace Go.Proofs.YtaaoleakkaloeaaGreatDoor
open Go Go.RowKit
set_option linter.unusedSimpArgs false
def Px (w:World) (v:Value) (p:List Rat) (N M:Nat):Prop:=Pl w v p∧p.length≤N∧∀x ∈ p,Bq M x
theorem Px.mono {w w':World} {v:Value} {p:List Rat} {N M:Nat} (h:Px w v p N M) (k:Ext w w'):Px w' v p N M:=⟨h.1.mono k,h.2⟩
theorem Px.up {w:World} {v:Value} {p:List Rat} {N M N' M':Nat} (h:Px w v p N M) (hN:N≤N') (hM:M≤M'):Px w v p N' M':=⟨h.1,Nat.le_trans h.2.1 hN,fun x hx=>(h.2.2 x hx).mono hM⟩
theorem lt_of_block' {W:World} {k:Nat} {o:Obj} (h:W.heap[k]?=some o):k<W.heap.size:=(Array.getElem?_eq_some_iff.1 h).1
structure RgS (W0 W:World) (ks:List (Nat × Obj)) (ns:List (Value × Rat)):Prop where
 ext:Ext W0 W
 keep:∀p ∈ ks,W0.heap.size≤p.1∧W.heap[p.1]?=some p.2
 nn:∀y ∈ ns,Nm W y.1 y.2
theorem RgS.start (W:World):RgS W W [] []:=⟨af _,(fun p hp=>by cases hp),(fun p hp=>by cases hp)⟩
theorem RgS.mono {W0 W W':World} {ks:List (Nat × Obj)} {ns:List (Value × Rat)} (h:RgS W0 W ks ns) (k:Ext W W'):RgS W0 W' ks ns:=
 ⟨al h.ext k,(fun p hp=>⟨(h.keep p hp).1,(k.block _ (lt_of_block' (h.keep p hp).2)).trans (h.keep p hp).2⟩),(fun y hy=>(h.nn y hy).mono k)⟩
theorem RgS.alloc {W0 W:World} {ks:List (Nat × Obj)} {ns:List (Value × Rat)} (h:RgS W0 W ks ns) (o:Obj):RgS W0 (W.alloc o) ((W.heap.size,o) :: ks) ns:=by
 have hm:=h.mono (ac W o);refine⟨hm.ext,fun p hp=>?_,hm.nn⟩
 rcases List.mem_cons.1 hp with rfl|hp
 ·exact⟨h.ext.size,heap_alloc_new _ _⟩
 ·exact hm.keep p hp
theorem RgS.num {W0 W:World} {ks:List (Nat × Obj)} {ns:List (Value × Rat)} {v:Value} {q:Rat} (h:RgS W0 W ks ns) (hq:Nm W v q):RgS W0 W ks ((v,q) :: ns):=
 ⟨h.ext,h.keep,fun y hy=>by
  rcases List.mem_cons.1 hy with rfl|hy
  ·exact hq
  ·exact h.nn y hy⟩
theorem RgS.sub {W0 W:World} {ks ks':List (Nat × Obj)} {ns:List (Value × Rat)} (h:RgS W0 W ks ns) (hs:∀p ∈ ks',p ∈ ks):RgS W0 W ks' ns:=⟨h.ext,(fun p hp=>h.keep p (hs p hp)),h.nn⟩
theorem RgS.put {W0 W:World} {ks:List (Nat × Obj)} {ns:List (Value × Rat)} {g:Nat} {s:Bool} {A B:Option Addr} {k ca l cb:Nat} {T:TypeId} (h:RgS W0 W ks ns) (hg:(g,.cells #[.bool s,.slice A k ca,.slice B l cb] T) ∈ ks) (a b c:Value):RgS W0 (put3at W g 0 a b c) (ks.map fun p=>if p.1=g then (g,.cells #[a,b,c] T) else p) ns:=by
 obtain⟨hge,hr⟩:=h.keep _ hg;refine⟨((h.ext.setCell hge _).setCell hge _).setCell hge _,fun p hp=>?_,fun y hy=>nm_put3b (h.nn y hy) hr a b c⟩;obtain⟨p0,h0,rfl⟩:=List.mem_map.1 hp
 by_cases hpg:p0.1=g
 ·rw [if_pos hpg];exact⟨hge,put3b_row hr a b c⟩
 ·rw [if_neg hpg];exact⟨(h.keep p0 h0).1,(put3b_other a b c hpg).trans (h.keep p0 h0).2⟩
section
variable {P:Program} {md:Region.Mode} {ops:Array Oper} {Q:Exit→Act→World→Prop} {S:World→Prop}
end
def BoxN (W:World) (p:Value) (x:Rat):Prop:=∃g s A k ca B l cb,p=.pointer (some ⟨g,0,none⟩)∧W.heap[g]?=some (.cells #[.bool s,.slice A k ca,.slice B l cb] 36 (0,0))∧Nm W (.agg #[.bool s,.slice A k ca,.slice B l cb]) x
theorem RgS.boxn {W0 W:World} {ks:List (Nat × Obj)} {ns:List (Value × Rat)} {g:Nat} {s:Bool} {A B:Option Addr} {k ca l cb:Nat} {x:Rat} (h:RgS W0 W ks ns) (hg:(g,.cells #[.bool s,.slice A k ca,.slice B l cb] 36) ∈ ks) (hn:(.agg #[.bool s,.slice A k ca,.slice B l cb],x) ∈ ns):BoxN W (.pointer (some ⟨g,0,none⟩)) x:=⟨g,s,A,k,ca,B,l,cb,rfl,(h.keep _ hg).2,h.nn _ hn⟩
theorem RgS.put6 {W0 W:World} {ks:List (Nat × Obj)} {ns:List (Value × Rat)} {g:Nat} {s:Bool} {A:Option Addr} {k ca:Nat} {B:Option Addr} {l cb:Nat} {s':Bool} {A':Option Addr} {k' ca':Nat} {B':Option Addr} {l' cb':Nat} {T:TypeId} (h:RgS W0 W ks ns) (hg:(g,.cells #[.bool s,.slice A k ca,.slice B l cb,.bool s',.slice A' k' ca',.slice B' l' cb'] T) ∈ ks) (a b c d e f:Value):RgS W0 (Proofs.YtaaoleakkaloeaaGreatDoor.put6 W g a b c d e f) (ks.map fun p=>if p.1=g then (g,.cells #[a,b,c,d,e,f] T) else p) ns:=by
 obtain⟨hge,hr⟩:=h.keep _ hg;refine⟨ag h.ext hge ..,fun p hp=>?_,fun y hy=>(h.nn y hy).put6 hr ..⟩;obtain⟨p0,h0,rfl⟩:=List.mem_map.1 hp
 by_cases hpg:p0.1=g
 ·rw [if_pos hpg];exact⟨hge,ah hr ..⟩
 ·rw [if_neg hpg];exact⟨(h.keep p0 h0).1,(put6_oth _ _ _ _ _ _ hpg).trans (h.keep p0 h0).2⟩
end Go.Proofs.YtaaoleakkaloeaaGreatDoor
set_option linter.unusedVariables false
set_option maxRecDepth 100000
set_option maxHeartbeats 64000000
namespace Go.Proofs.YtaaoleakkaloeaaGreatDoor
set_option linter.unusedSimpArgs false
def bdF (a L:Nat):Nat:=2*a+23*L
theorem factor_dv {a L:Nat} {f p:List Rat} (hp:HF a p) (mp:Mo p) (mf:Mo f) (h:Dv f p) (hp0:0<dgF p) (hL:dgF p≤L) (h63:L≤63):HF (bdF a L) f:=by
 have f0:=(h.dg hp0).1;have e:=quo_dv f0 h;obtain⟨mh,-⟩:=mp.quo hp0 mf (quo_trim _ _) e;exact factor_hf hp e mf mh hp0 hL h63
theorem pow6 {L:Nat} (h:L≤63) {n:Nat} (k:n≤L):n≤2 ^ 6:=by omega
end Go.Proofs.YtaaoleakkaloeaaGreatDoor
set_option linter.unusedVariables false
set_option maxRecDepth 100000
set_option maxHeartbeats 64000000
namespace Go.Proofs.YtaaoleakkaloeaaGreatDoor
set_option linter.unusedSimpArgs false
theorem hf_list {p:List Rat} {M N:Nat} (h:∀x ∈ p,Bq M x) (hd:dgF p≤N):HF (N*M+1) p:=by
 have h1:=hf_of_bq (trimF p) fun c hc=>h c (trim_mem hc);have h2:(trimF p).length*M≤N*M:=Nat.mul_le_mul_right _ hd;exact(h1.mono (by omega)).eqv fun i=>(co_trim p i).symm
theorem big_le {p:List Rat} (h:bigF p=false):dgF p≤41:=by
 have:=of_decide_eq_false h
 show (trimF p).length≤41
 omega
theorem ask_zero {p:List Rat} (h:askF p=0):bigF p=false∧trimF p≠[]:=by
 unfold askF at h
 split at h
 ·cases h
 ·rename_i h1
  split at h
  ·cases h
  ·rename_i h2
   exact⟨by cases hb:bigF p with|true=>exact absurd hb h1|false=>rfl,h2⟩
end Go.Proofs.YtaaoleakkaloeaaGreatDoor
set_option linter.unusedVariables false
set_option maxRecDepth 100000
set_option maxHeartbeats 64000000
namespace Go.Proofs.YtaaoleakkaloeaaGreatDoor
set_option linter.unusedSimpArgs false
def Ab (K x:Rat):Prop:=-K≤x∧x≤K
theorem Ab.nonneg {K x:Rat} (h:Ab K x):0≤K:=by have h1:=h.1;have h2:=h.2;grind
theorem Ab.mono {K L x:Rat} (h:Ab K x) (k:K≤L):Ab L x:=by have h1:=h.1;have h2:=h.2;constructor <;> grind
theorem Ab.add {K L x y:Rat} (h:Ab K x) (k:Ab L y):Ab (K+L) (x+y):=by
 have h1:=h.1;have h2:=h.2;have k1:=k.1;have k2:=k.2
 constructor <;> grind
theorem Ab.sub {K L x y:Rat} (h:Ab K x) (k:Ab L y):Ab (K+L) (x - y):=by
 have h1:=h.1;have h2:=h.2;have k1:=k.1;have k2:=k.2
 constructor <;> grind
theorem Ab.mul {K L x y:Rat} (h:Ab K x) (k:Ab L y):Ab (K*L) (x*y):=by
 have a1:0≤K - x:=by have:=h.2;grind
 have a2:0≤K+x:=by have:=h.1;grind
 have b1:0≤L - y:=by have:=k.2;grind
 have b2:0≤L+y:=by have:=k.1;grind
 have m1:=Rat.mul_nonneg a1 b1;have m2:=Rat.mul_nonneg a1 b2;have m3:=Rat.mul_nonneg a2 b1;have m4:=Rat.mul_nonneg a2 b2
 constructor <;> grind
theorem ab_ex (x:Rat):∃K,0≤K∧Ab K x:=by
 rcases Rat.le_total (a:=0) (b:=x) with h|h
 ·exact⟨x,h,by constructor <;> grind⟩
 ·exact⟨-x,by grind,by constructor <;> grind⟩
theorem ab_max {K L:Rat}:∃M,K≤M∧L≤M:=by
 rcases Rat.le_total (a:=K) (b:=L) with h|h
 ·exact⟨L,h,Rat.le_refl⟩
 ·exact⟨K,Rat.le_refl,h⟩
theorem ev_ab {B:Rat} (hB:0≤B):∀p:List Rat,∃K,0≤K∧∀x,Ab B x→Ab K (evR p x)
 | []=>⟨0,Rat.le_refl,fun x _=>⟨by show -(0:Rat)≤0;grind,Rat.le_refl⟩⟩
 | a :: t=>by
  obtain⟨K,h0,h⟩:=ev_ab hB t;obtain⟨A,hA0,hA⟩:=ab_ex a;refine⟨K*B+A,?_,fun x hx=>?_⟩
  ·have:=Rat.mul_nonneg h0 hB
   grind
  ·show Ab _ (evR t x*x+a)
   exact((h x hx).mul hx).add hA
theorem syn_ab {B:Rat} (hB:0≤B):∀p:List Rat,∃K,0≤K∧∀s x,Ab B s→Ab B x→Ab K (evR (syn s p) x)
 | []=>⟨0,Rat.le_refl,fun s x _ _=>⟨by show -(0:Rat)≤0;grind,Rat.le_refl⟩⟩
 | [a]=>⟨0,Rat.le_refl,fun s x _ _=>⟨by show -(0:Rat)≤0;grind,Rat.le_refl⟩⟩
 | a :: b :: t=>by
  obtain⟨K,h0,h⟩:=syn_ab hB (b :: t);obtain⟨L,l0,l⟩:=ev_ab hB (b :: t);refine⟨K*B+L,?_,fun s x hs hx=>?_⟩
  ·have:=Rat.mul_nonneg h0 hB
   grind
  ·show Ab _ (evR (syn s (b :: t)) x*x+evR (b :: t) s)
   exact((h s x hs hx).mul hx).add (l s hs)
theorem syn2_ab {B:Rat} (hB:0≤B):∀p:List Rat,∃K,0≤K∧∀s x,Ab B s→Ab B x→Ab K (evR (syn s (syn s p)) x)
 | []=>⟨0,Rat.le_refl,fun s x _ _=>⟨by show -(0:Rat)≤0;grind,Rat.le_refl⟩⟩
 | [a]=>⟨0,Rat.le_refl,fun s x _ _=>⟨by show -(0:Rat)≤0;grind,Rat.le_refl⟩⟩
 | [a,b]=>⟨0,Rat.le_refl,fun s x _ _=>⟨by show -(0:Rat)≤0;grind,Rat.le_refl⟩⟩
 | a :: b :: c :: t=>by
  obtain⟨K,h0,h⟩:=syn2_ab hB (b :: c :: t);obtain⟨L,l0,l⟩:=syn_ab hB (b :: c :: t);refine⟨K*B+L,?_,fun s x hs hx=>?_⟩
  ·have:=Rat.mul_nonneg h0 hB
   grind
  ·show Ab _ (evR (syn s (syn s (b :: c :: t))) x*x+evR (syn s (b :: c :: t)) s)
   exact((h s x hs hx).mul hx).add (l s s hs hs)
theorem ev_deriv (x:Rat):∀p:List Rat,evR (derivF p) x=evR (syn x p) x
 | []=>dgz (by rw [dg_deriv];rfl) x
 | [a]=>dgz (by rw [dg_deriv];have:=dg_len [a];simp at this;omega) x
 | a :: b :: t=>by
  have h:=ev_deriv x (b :: t)
  have e:∀y,evR (a :: b :: t) y=evR (addF (mulF (b :: t) [0,1]) [a]) y:=fun y=>by
   rw [ev_addF,ev_mulF,ev_const]
   show evR (b :: t) y*y+a=evR (b :: t) y*((0*y+1)*y+0)+a
   grind
  have e2:evR (derivF (a :: b :: t)) x=evR (derivF (b :: t)) x*x+evR (b :: t) x:=by
   have hd:∀y,evR (derivF (addF (mulF (b :: t) [0,1]) [a])) y=evR (derivF (mulF (b :: t) [0,1])) y+evR (derivF [a]) y:=fun y=>by
    rw [←ev_addF];refine ev_co (fun i=>?_) y;have f1:co (derivF (addF (mulF (b :: t) [0,1]) [a])) i=co (addF (mulF (b :: t) [0,1]) [a]) (i+1)*((i+1:Nat):Rat):=by rw [co_deriv];rfl
    have f2:co (derivF (mulF (b :: t) [0,1])) i=co (mulF (b :: t) [0,1]) (i+1)*((i+1:Nat):Rat):=by rw [co_deriv];rfl
    have f3:co (derivF [a]) i=co [a] (i+1)*((i+1:Nat):Rat):=by rw [co_deriv];rfl
    have f4:co (addF (mulF (b :: t) [0,1]) [a]) (i+1)=co (mulF (b :: t) [0,1]) (i+1)+co [a] (i+1):=by rw [co_addF]
    have f5:co (addF (derivF (mulF (b :: t) [0,1])) (derivF [a])) i=co (derivF (mulF (b :: t) [0,1])) i+co (derivF [a]) i:=by rw [co_addF]
    rw [f1,f4,f5,f2,f3];grind
   rw [deriv_ev e,hd,deriv_prod (p:=b :: t) (q:=[0,1]) (fun y=>ev_mulF _ _ y)];have z:evR (derivF [a]) x=0:=dgz (by rw [dg_deriv];have:=dg_len [a];simp at this;omega) x
   have z2:evR (derivF [0,1]) x=1:=by
    have:derivF [0,1]=[1]:=by decide +kernel
    rw [this,ev_const]
   rw [z,z2]
   show evR (derivF (b :: t)) x*((0*x+1)*x+0)+evR (b :: t) x*1+0=_
   grind
  rw [e2,h]
  show _=evR (syn x (b :: t)) x*x+evR (b :: t) x
  rfl
theorem taylor (x y:Rat) (p:List Rat):evR p y=evR p x+(y - x)*(evR (derivF p) x+(y - x)*evR (syn x (syn x p)) y):=by
 rw [ev_syn x y p,ev_syn x y (syn x p),ev_deriv]
def Fx (s:Rat) (p:List Rat) (a b:Rat):Prop:=∀x,a≤x→x≤b→0<s*evR p x
theorem Fx.sub {s:Rat} {p:List Rat} {a b c d:Rat} (h:Fx s p a b) (h1:a≤c) (h2:d≤b):Fx s p c d:=fun x k1 k2=>h x (Rat.le_trans h1 k1) (Rat.le_trans k2 h2)
theorem fix_near {B K e d:Rat} {p:List Rat} (hK:∀s x,Ab B s→Ab B x→Ab K (evR (syn s p) x)) (hd:d*K<e) {a b:Rat} (ha:Ab B a) (hb:Ab B b) (hab:a≤b) (hba:b - a≤d) {s:Rat} (hs:s=1∨s = -1) (hp:e≤s*evR p a):Fx s p a b:=fun x h1 h2=>by
 have hx:Ab B x:=by
  have q1:=ha.1;have q2:=hb.2
  constructor <;> grind
 have h3:=hK a x ha hx;have h4:Ab d (x - a):=by constructor <;> grind
 have h5:=h4.mul h3;have h6:=ev_syn a x p;have q1:=h5.1;have q2:=h5.2
 rcases hs with rfl|rfl
 ·grind
 ·grind
end Go.Proofs.YtaaoleakkaloeaaGreatDoor
set_option linter.unusedVariables false
set_option maxRecDepth 100000
set_option maxHeartbeats 64000000
namespace Go.Proofs.YtaaoleakkaloeaaGreatDoor
set_option linter.unusedSimpArgs false
def chg (u v:Int):Int:=if (u=1∧v = -1)∨(u = -1∧v=1) then 1 else 0
theorem flips_cons (last s:Int) (l:List Int):flipsU last (s :: l)=if s=0 then flipsU last l else chg last s+flipsU s l:=rfl
def si (s:Rat):Int:=if s=1 then 1 else -1
theorem si_one:si 1=1:=rfl
theorem si_neg:si (-1) = -1:=by decide
def Pm (s:Rat):Prop:=s=1∨s = -1
theorem Pm.neg {s:Rat} (h:Pm s):Pm (-s):=by
 rcases h with rfl|rfl
 ·exact .inr rfl
 ·exact .inl (by decide)
theorem si_not {s:Rat} (h:Pm s):si (-s) = -si s∧(si s=1∨si s = -1):=by
 rcases h with rfl|rfl
 ·exact⟨by decide,.inl rfl⟩
 ·exact⟨by decide,.inr (by decide)⟩
theorem num_pos' {q:Rat} (h:0<q):0<q.num:=by
 have h1:0≤q.num:=Rat.num_nonneg.2 (Rat.le_of_lt h);have h2:q.num≠0:=fun e=>by rw [Rat.num_eq_zero.1 e] at h;exact absurd h (by decide)
 omega
theorem sign_pos' {q:Rat} (h:0<q):q.num.sign=1:=Int.sign_eq_one_of_pos (num_pos' h)
theorem sign_neg' {q:Rat} (h:q<0):q.num.sign = -1:=by
 have h1:0 < -q:=by grind
 have h2:=num_pos' h1;rw [Rat.neg_num] at h2;exact Int.sign_eq_neg_one_of_neg (by omega)
theorem lt_or_le' (x y:Rat):x<y∨y≤x:=by
 rcases Rat.le_total (a:=x) (b:=y) with h|h
 ·by_cases e:x=y
  ·exact .inr (by grind)
  ·exact .inl (by grind)
 ·exact .inr h
theorem at_si {s x:Rat} {p:List Rat} (hs:Pm s) (h:0<s*evR p x):atF x p=si s:=by
 unfold atF
 rcases hs with rfl|rfl
 ·exact sign_pos' (by grind)
 ·rw [si_neg];exact sign_neg' (by grind)
theorem at_cases (x:Rat) (p:List Rat):atF x p=0∧evR p x=0∨atF x p=1∧0<evR p x∨atF x p = -1∧evR p x<0:=by
 unfold atF
 by_cases h0:evR p x=0
 ·exact .inl ⟨by rw [h0];rfl,h0⟩
 ·rcases Rat.le_total (a:=0) (b:=evR p x) with h|h
  ·exact .inr (.inl ⟨sign_pos' (by grind),by grind⟩)
  ·exact .inr (.inr ⟨sign_neg' (by grind),by grind⟩)
inductive Gt (a b:Rat):Rat→List (List Rat)→Prop
 | one {s:Rat} {p:List Rat}:Pm s→Fx s p a b→Gt a b s [p]
 | next {s t:Rat} {p q:List Rat} {l:List (List Rat)}:Pm s→Fx s p a b→Gt a b t (q :: l)→Gt a b s (p :: q :: l)
 | skip {s:Rat} {p q r:List Rat} {l:List (List Rat)}:Pm s→Fx s p a b→Gt a b (-s) (r :: l)→Gt a b s (p :: q :: r :: l)
theorem Gt.pm {a b s:Rat} {c:List (List Rat)} (h:Gt a b s c):Pm s:=by
 cases h with
 | one h _=>exact h
 | next h _ _=>exact h
 | skip h _ _=>exact h
theorem chg_neg {u:Int} (h:u=1∨u = -1):chg u (-u)=1:=by rcases h with rfl|rfl <;> rfl
theorem Gt.const {a b s:Rat} {c:List (List Rat)} (h:Gt a b s c):∃N:Int,∀x,a≤x→x≤b→∀last,flipsU last (c.map (atF x))=chg last (si s)+N:=by
 induction h with
 | one hs hf=>
  refine⟨0,fun x h1 h2 last=>?_⟩;have h3:=at_si hs (hf x h1 h2);have h4:=(si_not hs).2;rw [List.map_cons,flips_cons,h3,if_neg (by omega)]
  rfl
 | @next s t p q l hs hf hg ih=>
  obtain⟨N,hN⟩:=ih;refine⟨chg (si s) (si t)+N,fun x h1 h2 last=>?_⟩;have h3:=at_si hs (hf x h1 h2);have h4:=(si_not hs).2;rw [List.map_cons,flips_cons,h3,if_neg (by omega),hN x h1 h2]
 | @skip s p q r l hs hf hg ih=>
  obtain⟨N,hN⟩:=ih;refine⟨1+N,fun x h1 h2 last=>?_⟩;have h3:=at_si hs (hf x h1 h2);obtain⟨h5,h4⟩:=si_not hs;rw [List.map_cons,flips_cons,h3,if_neg (by omega),List.map_cons,flips_cons];have h6:=hN x h1 h2
  rcases at_cases x q with ⟨e,-⟩|⟨e,-⟩|⟨e,-⟩
  ·rw [e,if_pos rfl,h6,h5,chg_neg h4]
  ·rw [e,if_neg (by decide),h6,h5]
   have k1:chg 1 1=0:=rfl;have k2:chg 1 (-1)=1:=rfl;have k3:chg (-1) 1=1:=rfl;have k4:chg (-1) (-1)=0:=rfl;have k5:(-(-1):Int)=1:=rfl
   rcases h4 with e2|e2
   ·rw [e2];omega
   ·rw [e2,k5];omega
  ·rw [e,if_neg (by decide),h6,h5]
   have k1:chg 1 1=0:=rfl;have k2:chg 1 (-1)=1:=rfl;have k3:chg (-1) 1=1:=rfl;have k4:chg (-1) (-1)=0:=rfl;have k5:(-(-1):Int)=1:=rfl
   rcases h4 with e2|e2
   ·rw [e2];omega
   ·rw [e2,k5];omega
def vF (c:List (List Rat)) (x:Rat):Int:=flipsF c (atF x)
theorem Gt.same {a b s:Rat} {c:List (List Rat)} (h:Gt a b s c):∃N:Int,∀x,a≤x→x≤b→vF c x=N:=by
 obtain⟨N,hN⟩:=h.const;refine⟨N,fun x h1 h2=>?_⟩
 have:=hN x h1 h2 0
 have e:chg 0 (si s)=0:=rfl;rw [e,Int.zero_add] at this;exact this
theorem Gt.head {a b s:Rat} {p:List Rat} {c:List (List Rat)} (h:Gt a b s c):∃N:Int,∀x,a≤x→x≤b→vF (p :: c) x=chg (atF x p) (si s)+N:=by
 obtain⟨N,hN⟩:=h.const;refine⟨N,fun x h1 h2=>?_⟩
 show flipsU 0 (atF x p :: c.map (atF x))=_
 rw [flips_cons]
 rcases at_cases x p with ⟨e,-⟩|⟨e,-⟩|⟨e,-⟩
 ·rw [e,if_pos rfl,hN x h1 h2]
 ·rw [e,if_neg (by decide),hN x h1 h2]
  have e2:chg 0 1=0:=rfl;rw [e2];omega
 ·rw [e,if_neg (by decide),hN x h1 h2]
  have e2:chg 0 (-1)=0:=rfl;rw [e2];omega
theorem small_ex {e K n:Rat} (he:0<e) (hK:0≤K) (hn:0<n):∃d,0<d∧d*K<e∧d≤n:=by
 have h1:0<K+1:=by grind
 have h2:0<(K+1)⁻¹:=Rat.inv_pos.2 h1;have h3:=Rat.mul_inv_cancel (K+1) (by grind);have h4:0<e*(K+1)⁻¹:=Rat.mul_pos he h2
 have h5:e*(K+1)⁻¹*K<e:=by
  have:e*(K+1)⁻¹*K=e*((K+1)*(K+1)⁻¹) - e*(K+1)⁻¹:=by grind
  rw [this,h3];grind
 rcases Rat.le_total (a:=e*(K+1)⁻¹) (b:=n) with h|h
 ·exact⟨_,h4,h5,h⟩
 ·refine⟨n,hn,?_,Rat.le_refl⟩
  have h6:=Rat.mul_nonneg (show 0≤e*(K+1)⁻¹ - n by grind) hK
  grind
inductive Chn:List (List Rat)→Prop
 | one {p:List Rat} {k:Rat}:k≠0→(∀x,evR p x=k)→Chn [p]
 | two {p q:List Rat}:Cop p q→Chn [q]→Chn [p,q]
 | more {p q r s:List Rat} {k:Rat} {l:List (List Rat)}:Cop p q→0<k→(∀x,evR p x=evR s x*evR q x - k*evR r x)→Chn (q :: r :: l)→Chn (p :: q :: r :: l)
theorem pm_of (x:Rat):∃s,Pm s∧0≤s*x:=by
 rcases Rat.le_total (a:=0) (b:=x) with h|h
 ·exact⟨1,.inl rfl,by grind⟩
 ·exact⟨-1,.inr rfl,by grind⟩
theorem Pm.sq {s:Rat} (h:Pm s):s*s=1:=by rcases h with rfl|rfl <;> grind
theorem Ab.pm {K x s:Rat} (h:Ab K x) (hs:Pm s):Ab K (s*x):=by
 have h1:=h.1;have h2:=h.2
 rcases hs with rfl|rfl <;> constructor <;> grind
def Loc (B:Rat) (p:List Rat) (l:List (List Rat)):Prop:=∃ κ:Rat,0<κ∧∀ η:Rat,0<η→∃d e:Rat,0<d∧0<e∧e≤η∧∀a b,Ab B a→Ab B b→a≤b→b - a≤d→(∀s,Pm s→e≤s*evR p a→Gt a b s (p :: l))∧(-e<evR p a→evR p a<e→∃q m s,l=q :: m∧Pm s∧κ≤s*evR q a∧Gt a b s l)
theorem loc_step {B:Rat} (hB:0≤B) {p q:List Rat} {l:List (List Rat)} (hc:Cop p q) (ih:Loc B q l) (hr:∀r m,l=r :: m→∃(S:List Rat) (k:Rat),0<k∧∀x,evR p x=evR S x*evR q x - k*evR r x):Loc B p (q :: l):=by
 obtain⟨u,v,huv⟩:=hc;obtain⟨Ku,ku0,ku⟩:=ev_ab hB u;obtain⟨Kv,kv0,kv⟩:=ev_ab hB v;obtain⟨Kp,kp0,kp⟩:=syn_ab hB p;obtain⟨κ',κ0,ihη⟩:=ih;obtain⟨c,c0,c1,-⟩:=small_ex (e:=1) (K:=2*Ku+2*Kv) (n:=1) (by decide) (by grind) (by decide)
 obtain⟨g,g0,hg⟩:∃g:Rat,0<g∧∀r m,l=r :: m→∃(S:List Rat) (k K:Rat),0<k∧(∀x,evR p x=evR S x*evR q x - k*evR r x)∧(∀x,Ab B x→Ab K (evR S x))∧g*K<k*κ':=by
  cases l with
  | nil=>exact⟨1,by decide,fun r m h=>by cases h⟩
  | cons r m=>
   obtain⟨S,k,k0,hS⟩:=hr r m rfl;obtain⟨K,K0,hK⟩:=ev_ab hB S;obtain⟨g,g0,g1,-⟩:=small_ex (e:=k*κ') (K:=K) (n:=1) (Rat.mul_pos k0 κ0) K0 (by decide);exact⟨g,g0,fun r' m' h=>by injection h with h1 h2;subst h1;exact⟨S,k,K,k0,hS,hK,g1⟩⟩
 refine⟨c,c0,fun η hη=>?_⟩;obtain⟨η',hη0,-,hη1⟩:=small_ex (e:=1) (K:=0) (n:=min c g) (by decide) Rat.le_refl (by rw [Rat.min_def];split <;> assumption);have hηc:η'≤c:=Rat.le_trans hη1 (by rw [Rat.min_def];split <;> grind);have hηg:η'≤g:=Rat.le_trans hη1 (by rw [Rat.min_def];split <;> grind);obtain⟨dq,eq,dq0,eq0,eqη,hq⟩:=ihη η' hη0;obtain⟨e,e0,-,e1⟩:=small_ex (e:=1) (K:=0) (n:=min η c) (by decide) Rat.le_refl (by rw [Rat.min_def];split <;> assumption);have he1:e≤η:=Rat.le_trans e1 (by rw [Rat.min_def];split <;> grind);have he2:e≤c:=Rat.le_trans e1 (by rw [Rat.min_def];split <;> grind);obtain⟨d,d0,d1,d2⟩:=small_ex (e:=e) (K:=Kp) (n:=dq) e0 kp0 dq0;refine⟨d,e,d0,e0,he1,fun a b ha hb hab hba=>?_⟩;obtain⟨t1,t2⟩:=hq a b ha hb hab (Rat.le_trans hba d2)
 constructor
 ·intro s hs hp
  have hfx:Fx s p a b:=fix_near kp d1 ha hb hab hba hs hp;obtain⟨σ,hσ,hσq⟩:=pm_of (evR q a)
  rcases Rat.le_total (a:=eq) (b:=σ*evR q a) with h|h
  ·exact .next hs hfx (t1 σ hσ h)
  ·rcases lt_or_le' (σ*evR q a) eq with h2|h2
   ·obtain⟨r,m,τ,hl,hτ,hτr,hgt⟩:=t2 (by rcases hσ with rfl|rfl <;> grind) (by rcases hσ with rfl|rfl <;> grind)
    obtain⟨S,k,K,k0,hS,hK,gK⟩:=hg r m hl;subst hl
    have hne:τ = -s:=by
     rcases hs with rfl|rfl
     ·rcases hτ with rfl|rfl
      ·exfalso
       have f1:=hS a;have f2:=(hK a ha).mul (show Ab g (evR q a) from ⟨by rcases hσ with rfl|rfl <;> grind,by rcases hσ with rfl|rfl <;> grind⟩);have f3:=f2.2;have f4:=Rat.mul_nonneg (show 0≤k by grind) (show 0≤1*evR r a - κ' by grind)
       grind
      ·rfl
     ·rcases hτ with rfl|rfl
      ·grind
      ·exfalso
       have f1:=hS a;have f2:=(hK a ha).mul (show Ab g (evR q a) from ⟨by rcases hσ with rfl|rfl <;> grind,by rcases hσ with rfl|rfl <;> grind⟩);have f3:=f2.1;have f4:=Rat.mul_nonneg (show 0≤k by grind) (show 0≤-1*evR r a - κ' by grind)
       grind
    rw [hne] at hgt;exact .skip hs hfx hgt
   ·exact .next hs hfx (t1 σ hσ h2)
 ·intro h1 h2
  obtain⟨σ,hσ,hσq⟩:=pm_of (evR q a);have f1:=huv a;have f2:=(ku a ha).mul (show Ab c (evR p a) from ⟨by grind,by grind⟩)
  have hbig:c≤σ*evR q a:=by
   rcases lt_or_le' (σ*evR q a) c with h3|h3
   ·exfalso
    have f3:=(kv a ha).mul (show Ab c (evR q a) from ⟨by rcases hσ with rfl|rfl <;> grind,by rcases hσ with rfl|rfl <;> grind⟩);have f4:=f2.2;have f5:=f3.2
    grind
   ·exact h3
  exact⟨q,l,σ,rfl,hσ,hbig,t1 σ hσ (by grind)⟩
theorem loc_one {B:Rat} {p:List Rat} {k:Rat} (hk:k≠0) (h:∀x,evR p x=k):Loc B p []:=by
 obtain⟨σ,hσ,hσk⟩:=pm_of k;have hpos:0<σ*k:=by rcases hσ with rfl|rfl <;> grind
 refine⟨1,by decide,fun η hη=>?_⟩;obtain⟨e,e0,-,e1⟩:=small_ex (e:=1) (K:=0) (n:=min η (σ*k)) (by decide) Rat.le_refl (by rw [Rat.min_def];split <;> assumption);have he1:e≤η:=Rat.le_trans e1 (by rw [Rat.min_def];split <;> grind);have he2:e≤σ*k:=Rat.le_trans e1 (by rw [Rat.min_def];split <;> grind);refine⟨1,e,by decide,e0,he1,fun a b ha hb hab hba=>⟨fun s hs hp=>.one hs fun x _ _=>?_,fun h1 h2=>?_⟩⟩
 ·rw [h] at hp ⊢
  grind
 ·exfalso
  rw [h] at h1 h2
  rcases hσ with rfl|rfl <;> grind
theorem Chn.loc {B:Rat} (hB:0≤B) {c:List (List Rat)} (h:Chn c):∀p l,c=p :: l→Loc B p l:=by
 induction h with
 | one hk h=>intro p l e;injection e with e1 e2;subst e1 e2;exact loc_one hk h
 | two hc hq ih=>intro p l e;injection e with e1 e2;subst e1 e2;exact loc_step hB hc (ih _ _ rfl) fun r m h=>by cases h
 | more hc hk hr hq ih=>intro p l e;injection e with e1 e2;subst e1 e2;exact loc_step hB hc (ih _ _ rfl) fun r m h=>by injection h with h1 h2;subst h1;exact⟨_,_,hk,hr⟩
end Go.Proofs.YtaaoleakkaloeaaGreatDoor
