/- Hurwitz, joined: the counts of a polynomial and of its mirror; the numbers on the way of Routh are small. -/
import Derived.Test.YtkoaakefgacokaaGreatDoorGZs
import Derived.Test.YtkoaakefgacokaaGreatDoorGZb
import Derived.Test.YtkoaakefgacokaaGreatDoorGMv
set_option linter.unusedVariables false
set_option linter.unusedSimpArgs false
set_option maxRecDepth 100000
set_option maxHeartbeats 64000000
namespace Go.Proofs.YtkoaakefgacokaaGreatDoor
theorem sg4_ne' {i:Nat} (h:i % 2=0):sg4 i≠0:=fun e=>by
 have:=sg4_sq i h
 rw [e] at this
 grind
theorem parts_dg {P:List Rat} (h:Gd P):(P.length % 2=1→dgF (alongU [] [0,1] P).1=P.length∧dgF (alongU [] [0,1] P).2<P.length)∧(P.length % 2=0→dgF (alongU [] [0,1] P).2=P.length∧dgF (alongU [] [0,1] P).1<P.length):=by
 have hl:=h.len;have h0:=h.1;have ht:=h.top;have htt:topF P=co P (P.length - 1):=rfl;rw [htt] at ht
 constructor
 ·intro g
  constructor
  ·have h1:=len_of (p:=(alongU [] [0,1] P).1) (n:=P.length - 1) (fun e=>by
    rw [(along_co P _).1] at e
    rcases Rat.mul_eq_zero.1 e with z|z
    ·exact sg4_ne' (by omega) z
    ·exact ht z) (fun k hk=>by rw [(along_co P _).1,co_ge (p:=P) (by omega)];grind)
   unfold dgF;omega
  ·have:dgF (alongU [] [0,1] P).2≤P.length - 1:=dg_le fun i hi=>by
    rw [(along_co P _).2]
    rcases Nat.lt_or_ge i P.length with k|k
    ·rw [sg4_odd (i+1) (by omega)];grind
    ·rw [co_ge k];grind
   omega
 ·intro g
  constructor
  ·have h1:=len_of (p:=(alongU [] [0,1] P).2) (n:=P.length - 1) (fun e=>by
    rw [(along_co P _).2] at e
    rcases Rat.mul_eq_zero.1 e with z|z
    ·exact sg4_ne' (i:=P.length - 1+1) (by omega) (by grind)
    ·exact ht z) (fun k hk=>by rw [(along_co P _).2,co_ge (p:=P) (by omega)];grind)
   unfold dgF;omega
  ·have:dgF (alongU [] [0,1] P).1≤P.length - 1:=dg_le fun i hi=>by
    rw [(along_co P _).1]
    rcases Nat.lt_or_ge i P.length with k|k
    ·rw [sg4_odd i (by omega)];grind
    ·rw [co_ge k];grind
   omega
theorem half {a:Int} (h:0≤a) (k:a % 2=0):∃b,0≤b∧a=2*b∧a.tdiv 2=b:=⟨a / 2,by omega,by omega,Int.tdiv_eq_ediv_of_nonneg h⟩
theorem bq_all {B:Nat} {l:List Rat} (h:∀i,Bq B (co l i)):∀x ∈ l,Bq B x:=fun x hx=>by
 obtain⟨i,hi,e⟩:=List.getElem_of_mem hx
 have:=h i
 unfold co at this;rw [List.getElem?_eq_getElem hi,e] at this;exact this
theorem co_bq {B:Nat} (hB:0<B) {l:List Rat} (h:∀x ∈ l,Bq B x) (i:Nat):Bq B (co l i):=by
 rcases Nat.lt_or_ge i l.length with g|g
 ·refine h _ ?_
  unfold co;rw [List.getElem?_eq_getElem g];exact List.getElem_mem _
 ·rw [co_ge g];exact bq_zero B hB
theorem sg4_vals:∀n,sg4 n=0∨sg4 n=1∨sg4 n = -1
 | 0=>.inr (.inl rfl)
 | 1=>.inl rfl
 | n+2=>by
  show -sg4 n=0∨-sg4 n=1∨-sg4 n = -1
  rcases sg4_vals n with h|h|h <;> rw [h]
  ·exact .inl (by decide)
  ·exact .inr (.inr rfl)
  ·exact .inr (.inl (by decide))
theorem sg4_bq {B:Nat} (hB:0<B) (n:Nat) {c:Rat} (h:Bq B c):Bq B (sg4 n*c):=by
 rcases sg4_vals n with e|e|e <;> rw [e]
 ·rw [show (0:Rat)*c=0 by grind];exact bq_zero B hB
 ·rw [show (1:Rat)*c=c by grind];exact h
 ·rw [show (-1:Rat)*c = -c by grind];exact h.neg
theorem along_bq {B:Nat} (hB:0<B) {p:List Rat} (h:∀x ∈ p,Bq B x):(∀i,Bq B (co (alongU [] [0,1] p).1 i))∧∀i,Bq B (co (alongU [] [0,1] p).2 i):=by
 constructor
 ·intro i;rw [(along_co p i).1];exact sg4_bq hB i (co_bq hB h i)
 ·intro i
  rw [(along_co p i).2,show -sg4 (i+1)*co p i = -(sg4 (i+1)*co p i) by grind];exact(sg4_bq hB (i+1) (co_bq hB h i)).neg
theorem along_len (p:List Rat):(alongU [] [0,1] p).1.length≤p.length∧(alongU [] [0,1] p).2.length≤p.length:=by
 obtain⟨t1,t2⟩:=along_trim p;have h1:dgF (alongU [] [0,1] p).1≤p.length:=dg_le fun i hi=>by rw [(along_co p i).1,co_ge hi];grind
 have h2:dgF (alongU [] [0,1] p).2≤p.length:=dg_le fun i hi=>by rw [(along_co p i).2,co_ge hi];grind
 unfold dgF at h1 h2;rw [t1] at h1;rw [t2] at h2;exact⟨h1,h2⟩
theorem up_bq {B:Nat} (hB:0<B) {l:List Rat} (h:∀i,Bq B (co l i)) (i:Nat):Bq B (co (0 :: l) i):=by
 cases i with
 | zero=>exact bq_zero B hB
 | succ j=>exact h j
theorem alongB_ok {B M:Nat} (hB:0<B) (hM:B≤M):∀p:List Rat,p.length≤100→(∀x ∈ p,Bq B x)→alongB M [] [0,1] p=true
 | [],_,_=>rfl
 | c :: p,hl,h=>by
  have hl':p.length≤99:=by simp at hl;omega
  have h':∀x ∈ p,Bq B x:=fun x hx=>h x (List.mem_cons_of_mem _ hx);have ih:=alongB_ok hB hM p (by omega) h';obtain⟨b1,b2⟩:=along_bq hB h';obtain⟨l1,l2⟩:=along_len p;have sm:∀l:List Rat,(∀i,Bq B (co l i))→smB M l=true:=fun l hl=>of_sm fun x hx=>(bq_all hl x hx).mono hM;have hz:∀l:List Rat,smB M (mulF l [])=true:=fun l=>sm _ fun i=>by rw [co_none];exact bq_zero B hB
  unfold alongB
  rw [ih,of_sm (l:=[c]) (fun x hx=>by rw [List.mem_singleton] at hx;subst hx;exact(h x List.mem_cons_self).mono hM),sm _ b1,sm _ b2,hz,hz,sm _ (fun i=>by rw [co_up];exact up_bq hB b2 i),sm _ (fun i=>by
    unfold subF;rw [co_addF]
    show Bq B (co (mulF _ []) i+co (scaleF _ _) i)
    rw [co_none,co_scaleF,co_up,show (0:Rat)+co (0 :: (alongU [] [0,1] p).2) i*-1 = -co (0 :: (alongU [] [0,1] p).2) i by grind];exact(up_bq hB b2 i).neg),sm _ (fun i=>by rw [co_up];exact up_bq hB b1 i),decide_eq_true (show (alongU [] [0,1] p).1.length≤100 by omega),decide_eq_true (show (alongU [] [0,1] p).2.length≤100 by omega)]
  rfl
theorem own_ne {p:List Rat} {M:Nat} (h0:0<dgF p) (h:ownOk M p=true):neB (ownF p)=true:=by
 obtain⟨-,-,-,d⟩:=own_turn h0;unfold ownOk at h
 simp only [Bool.and_eq_true] at h
 refine List.all_eq_true.2 fun l hl=>?_;have h1:=List.all_eq_true.1 h.2 l hl;rw [Bool.and_eq_true] at h1;have h2:=of_decide_eq_true h1.2;have h3:=(dn_all d l hl).ne;rw [decide_eq_true (show l.length≤100000 by omega),Bool.and_true]
 cases l with
 | nil=>exact absurd rfl h3
 | cons=>rfl
theorem chg_fin:∀s ∈ [(1:Int),-1],∀u ∈ tri3,∀v ∈ tri3,s*u≤s*v→chg u s - chg v s=if u=0∨v=u then 0 else 1:=by decide +kernel
theorem at_le {p:List Rat} {x y:Rat} (h:evR p x≤evR p y):atF x p≤atF y p:=by
 rcases at_cases x p with ⟨a1,b1⟩|⟨a1,b1⟩|⟨a1,b1⟩ <;> rcases at_cases y p with ⟨a2,b2⟩|⟨a2,b2⟩|⟨a2,b2⟩ <;> rw [a1,a2] <;> first|decide|(exfalso;grind)
theorem flipZ {p:List Rat} (h0:0<dgF p) {B:Rat} (hB:0≤B):∃d,0<d∧∀a b,Ab B a→Ab B b→a≤b→b - a≤d→betweenF (ownF p) a b=if atF a (simpleF p)=0∨atF b (simpleF p)=atF a (simpleF p) then 0 else 1:=by
 rcases own_chain h0 with ⟨d1,c,e,k,hk,hc⟩|⟨-,p0,q,l,k,μ,e,hc,hk,hp0,hμ,hq⟩
 ·refine⟨1,by decide,fun a b _ _ _ _=>?_⟩
  have h1:∀t,evR (simpleF p) t=co (simpleF p) 0:=fun t=>ev_dg1 (by omega) t;rw [e,between_v,vF_const hk hc a b,if_pos (.inr (by unfold atF;rw [h1,h1]))];omega
 ·obtain⟨d,ε,d0,ε0,hp⟩:=piece3 hB hc hμ hq
  refine⟨d,d0,fun a b ha hb hab hba=>?_⟩
  have hat:∀t,atF t p0=atF t (simpleF p):=fun t=>by
   have:=at_times (D:=[k]) (a:=p0) (b:=simpleF p) (σ:=1) (x:=t) (.inl rfl) (by rw [ev_const];grind) (by rw [ev_const,hp0];grind)
   rw [this,si_one];omega
  rw [←hat,←hat,between_v,e]
  rcases hp a b ha hb hab hba with ⟨s,hs,hlo,N,hV⟩|⟨s,hs,hup,hfx,N,hV⟩
  ·have s1:=at_si (p:=p0) hs (x:=a) (by have:=hlo a Rat.le_refl hab;grind)
   have s2:=at_si (p:=p0) hs (x:=b) (by have:=hlo b hab Rat.le_refl;grind);rw [hV a Rat.le_refl hab,hV b hab Rat.le_refl,s1,s2,if_pos (.inr rfl)];omega
  ·rw [hV a Rat.le_refl hab,hV b hab Rat.le_refl]
   have hle:s*evR p0 a≤s*evR p0 b:=by
    rcases lt_or_le' a b with g|g
    ·exact Rat.le_of_lt (hup a b Rat.le_refl g Rat.le_refl)
    ·rw [show a=b by grind];exact Rat.le_refl
   have hfin:=chg_fin (si s) (by rcases(si_not hs).2 with g|g <;> rw [g] <;> decide) (atF a p0) (sgq_in _) (atF b p0) (sgq_in _) (by
    rcases hs with rfl|rfl
    ·have:=at_le (p:=p0) (x:=a) (y:=b) (by grind)
     rw [si_one];omega
    ·have:=at_le (p:=p0) (x:=b) (y:=a) (by grind)
     rw [si_neg];omega)
   rw [←hfin];omega
theorem at_prod {a b c:List Rat} {t:Rat} (e:evR c t=evR a t*evR b t):atF t c=atF t a*atF t b:=by
 have:=sgq_mul (evR a t) (evR b t)
 rw [←e] at this;exact this
structure Sqf (a:List Rat):Prop where
 pos:0<dgF a
 tr:trimF a=a
 cop:Cop a (derivF a)
theorem Sqf.simple {a:List Rat} (h:Sqf a):simpleF a=a:=simple_self h.cop h.tr
theorem count_mul {a b c:List Rat} (ha:Sqf a) (hb:Sqf b) (hc:Sqf c) (e:∀t,evR c t=evR a t*evR b t) (hab:Cop a b) {x y:Rat} (hxy:x≤y):betweenF (ownF c) x y=betweenF (ownF a) x y+betweenF (ownF b) x y:=by
 have hF:Far2 a b x y:=by
  obtain⟨u,v,huv⟩:=hab
  have hL:Low (mulF (addF (mulF a a) (mulF b b)) (addF (mulF u u) (mulF v v))) x y:=⟨1,1,.inl rfl,by decide,fun t _ _=>by
   rw [ev_mulF,ev_addF,ev_mulF,ev_mulF,ev_addF,ev_mulF,ev_mulF];have h1:=huv t;have h2:=sq_nn (evR u t*evR b t - evR v t*evR a t);have h3:(evR a t*evR a t+evR b t*evR b t)*(evR u t*evR u t+evR v t*evR v t)=(evR u t*evR a t+evR v t*evR b t)*(evR u t*evR a t+evR v t*evR b t)+(evR u t*evR b t - evR v t*evR a t)*(evR u t*evR b t - evR v t*evR a t):=by grind
   rw [h3,h1];grind⟩
  obtain⟨σ,ε,hσ,he,hf⟩:=hL.fac hxy fun t=>ev_mulF _ _ t;refine⟨ε,he,fun t h1 h2=>?_⟩;have h3:=hf t h1 h2;rw [ev_addF,ev_mulF,ev_mulF] at h3;have h4:=sq_nn (evR a t);have h5:=sq_nn (evR b t)
  rcases hσ with rfl|rfl <;> grind
 obtain⟨B,hB,hin⟩:=ab_two x y;obtain⟨d1,d10,f1⟩:=flipZ ha.pos hB;obtain⟨d2,d20,f2⟩:=flipZ hb.pos hB;obtain⟨d3,d30,f3⟩:=flipZ hc.pos hB;obtain⟨d4,d40,f4⟩:=hF.close;rw [ha.simple] at f1;rw [hb.simple] at f2;rw [hc.simple] at f3;obtain⟨m1,m10,m11,m12⟩:=min_ex d10 d20;obtain⟨m2,m20,m21,m22⟩:=min_ex d30 d40;obtain⟨d,d0,dm1,dm2⟩:=min_ex m10 m20;obtain⟨n,hn⟩:=arch d0 (y - x)
 refine by_pieces d0 (fun u v=>betweenF (ownF c) u v=betweenF (ownF a) u v+betweenF (ownF b) u v) (fun u=>by rw [between_self,between_self,between_self];rfl) (fun u v w _ _ h1 h2=>by
  rw [←between_add _ u v w,←between_add _ u v w,←between_add _ u v w,h1,h2];omega) (lo:=x) (hi:=y) (fun u v g1 g2 g3 g4=>?_) n x y Rat.le_refl hxy Rat.le_refl hn
 have iu:=hin u g1 (Rat.le_trans g2 g3);have iv:=hin v (Rat.le_trans g1 g2) g3;rw [f1 u v iu iv g2 (by grind),f2 u v iu iv g2 (by grind),f3 u v iu iv g2 (by grind),at_prod (e u),at_prod (e v)]
 rcases dotq_sg (f4 u v g1 g2 g3 (by grind)) with h|h
 ·have h':atF u a*atF v a=1:=h
  rcases at_cases u a with ⟨a1,-⟩|⟨a1,-⟩|⟨a1,-⟩ <;> rcases at_cases v a with ⟨a2,-⟩|⟨a2,-⟩|⟨a2,-⟩ <;> rw [a1,a2] at h' ⊢ <;> rcases at_cases u b with ⟨b1,-⟩|⟨b1,-⟩|⟨b1,-⟩ <;> rcases at_cases v b with ⟨b2,-⟩|⟨b2,-⟩|⟨b2,-⟩ <;> rw [b1,b2] <;> first|omega|decide
 ·have h':atF u b*atF v b=1:=h
  rcases at_cases u b with ⟨a1,-⟩|⟨a1,-⟩|⟨a1,-⟩ <;> rcases at_cases v b with ⟨a2,-⟩|⟨a2,-⟩|⟨a2,-⟩ <;> rw [a1,a2] at h' ⊢ <;> rcases at_cases u a with ⟨b1,-⟩|⟨b1,-⟩|⟨b1,-⟩ <;> rcases at_cases v a with ⟨b2,-⟩|⟨b2,-⟩|⟨b2,-⟩ <;> rw [b1,b2] <;> first|omega|decide
theorem turn_far {c:List (List Rat)} (h:∀l ∈ c,Gd l):∃B:Rat,1≤B∧∀x,B≤x→turnF c=betweenF c (-x) x:=by
 obtain⟨B,hB,hx⟩:=far_all c fun l hl=>⟨(h l hl).ne,(h l hl).top⟩;refine⟨B,hB,fun x hxB=>?_⟩;have h1:c.map (endsF true)=c.map (atF (-x)):=List.map_congr_left fun l hl=>((hx x hxB l hl).2).symm;have h2:c.map (endsF false)=c.map (atF x):=List.map_congr_left fun l hl=>((hx x hxB l hl).1).symm;unfold turnF betweenF flipsF;rw [h1,h2]
theorem turn_mul {a b c:List Rat} (ha:Sqf a) (hb:Sqf b) (hc:Sqf c) (e:∀t,evR c t=evR a t*evR b t) (hab:Cop a b):turnF (ownF c)=turnF (ownF a)+turnF (ownF b):=by
 obtain⟨B1,b1,t1⟩:=turn_far (dn_all (own_turn ha.pos).2.2.2);obtain⟨B2,b2,t2⟩:=turn_far (dn_all (own_turn hb.pos).2.2.2);obtain⟨B3,b3,t3⟩:=turn_far (dn_all (own_turn hc.pos).2.2.2);rw [t1 (B1+B2+B3) (by grind),t2 (B1+B2+B3) (by grind),t3 (B1+B2+B3) (by grind)];exact count_mul ha hb hc e hab (by grind)
def LineS (X Y:List Rat):Prop:=(X=[0,1]∧∃d,Y=[d])∨(Y=[0,1]∧∃d,X=[d])
theorem co_const (p:List Rat) (d:Rat) (i:Nat):co (mulF p [d]) i=co p i*d:=by
 have:=ev_inj (p:=mulF p [d]) (q:=scaleF p d) (fun x=>by rw [ev_mulF,ev_const,ev_scaleF]) i
 rw [this,co_scaleF]
theorem co_subF (p q:List Rat) (i:Nat):co (subF p q) i=co p i - co q i:=by
 show co (addF p (scaleF q (-1))) i=_
 rw [co_addF]
 show co p i+co (scaleF q (-1)) i=_
 rw [co_scaleF];grind
theorem along_top {X Y:List Rat} (hl:LineS X Y):∀(p:List Rat),(∀i,p.length≤i→co (alongU X Y p).1 i=0∧co (alongU X Y p).2 i=0)∧(∀c,p[p.length - 1]?=some c→co (alongU X Y p).1 (p.length - 1)*co (alongU X Y p).1 (p.length - 1)+co (alongU X Y p).2 (p.length - 1)*co (alongU X Y p).2 (p.length - 1)=c*c)
 | []=>⟨fun i _=>⟨rfl,rfl⟩,fun c h=>by simp at h⟩
 | a :: p=>by
  obtain⟨h1,h2⟩:=along_top hl p
  have e1:∀i,co (alongU X Y (a :: p)).1 i=co (mulF (alongU X Y p).1 X) i - co (mulF (alongU X Y p).2 Y) i+co [a] i:=fun i=>by
   show co (addF (subF (mulF (alongU X Y p).1 X) (mulF (alongU X Y p).2 Y)) [a]) i=_
   rw [co_addF]
   show co (subF _ _) i+_=_
   rw [co_subF]
  have e2:∀i,co (alongU X Y (a :: p)).2 i=co (mulF (alongU X Y p).1 Y) i+co (mulF (alongU X Y p).2 X) i:=fun i=>by
   show co (addF (mulF (alongU X Y p).1 Y) (mulF (alongU X Y p).2 X)) i=_
   rw [co_addF]
  have up:∀(q:List Rat) (j:Nat),co (mulF q [0,1]) (j+1)=co q j:=fun q j=>by rw [co_up,co_succ]
  have z1:∀j,co [a] (j+1)=0:=fun j=>rfl
  constructor
  ·intro i hi
   obtain⟨j,rfl⟩:∃j,i=j+1:=⟨i - 1,by simp at hi;omega⟩;have hj:p.length≤j:=by simp at hi;omega
   rw [e1,e2,z1]
   rcases hl with ⟨rfl,d,rfl⟩|⟨rfl,d,rfl⟩
   ·rw [up,up,co_const,co_const,(h1 j hj).1,(h1 j hj).2,(h1 (j+1) (by omega)).1,(h1 (j+1) (by omega)).2]
    constructor <;> grind
   ·rw [up,up,co_const,co_const,(h1 j hj).1,(h1 j hj).2,(h1 (j+1) (by omega)).1,(h1 (j+1) (by omega)).2]
    constructor <;> grind
  ·intro c hc
   rcases Nat.eq_zero_or_pos p.length with z|z
   ·have:p=[]:=List.length_eq_zero_iff.1 z
    subst this;obtain rfl:a=c:=by simpa using hc
    show co (alongU X Y [a]).1 0*co (alongU X Y [a]).1 0+co (alongU X Y [a]).2 0*co (alongU X Y [a]).2 0=a*a
    rw [e1,e2];have n1:∀i,co (mulF (alongU X Y []).1 X) i=0:=fun i=>ev_inj (p:=mulF [] X) (q:=[]) (fun x=>by rw [ev_mulF,ev_nil];grind) i;have n2:∀i,co (mulF (alongU X Y []).2 Y) i=0:=fun i=>ev_inj (p:=mulF [] Y) (q:=[]) (fun x=>by rw [ev_mulF,ev_nil];grind) i;have n3:∀i,co (mulF (alongU X Y []).1 Y) i=0:=n2;have n4:∀i,co (mulF (alongU X Y []).2 X) i=0:=n1;rw [n1,n2,n3,n4]
    show (0 - 0+a)*(0 - 0+a)+(0+0)*(0+0)=a*a
    grind
   ·obtain⟨m,hm⟩:∃m,p.length=m+1:=⟨p.length - 1,by omega⟩
    have hc':p[p.length - 1]?=some c:=by
     rw [hm];rw [List.length_cons,hm] at hc
     simpa using hc
    have h3:=h2 c hc';rw [hm,show m+1 - 1=m by omega] at h3;rw [List.length_cons,hm,show m+1+1 - 1=m+1 by omega,e1,e2,z1];have t1:=h1 (m+1) (by omega)
    rcases hl with ⟨rfl,d,rfl⟩|⟨rfl,d,rfl⟩
    ·rw [up,up,co_const,co_const,t1.1,t1.2];grind
    ·rw [up,up,co_const,co_const,t1.1,t1.2];grind
theorem along_nz {X Y p:List Rat} (hl:LineS X Y) (h:Gd p):0<dgF (alongU X Y p).1∨0<dgF (alongU X Y p).2:=by
 obtain⟨-,h2⟩:=along_top hl p;have hlen:0<p.length:=by have:=h.len;have:=h.1;omega
 have ht:=h.top
 have htt:p[p.length - 1]?=some (topF p):=by
  unfold topF co;rw [List.getElem?_eq_getElem (show p.length - 1<p.length by omega)];rfl
 have h3:=h2 _ htt
 rcases Nat.eq_zero_or_pos (dgF (alongU X Y p).1) with z1|z1
 ·rcases Nat.eq_zero_or_pos (dgF (alongU X Y p).2) with z2|z2
  ·exfalso
   rw [dg_ge (p:=(alongU X Y p).1) (by omega),dg_ge (p:=(alongU X Y p).2) (by omega)] at h3
   have:=sq_pos ht
   grind
  ·exact .inr z2
 ·exact .inl z1
theorem cop_far {f h:List Rat} (hc:Cop f h) {x y:Rat} (hxy:x≤y):Far2 f h x y:=by
 obtain⟨u,v,e⟩:=hc
 have hL:Low (mulF (addF (mulF f f) (mulF h h)) (addF (mulF u u) (mulF v v))) x y:=⟨1,1,.inl rfl,by decide,fun t _ _=>by
  rw [ev_mulF,ev_addF,ev_mulF,ev_mulF,ev_addF,ev_mulF,ev_mulF];have h1:=e t;have h2:=sq_nn (evR u t*evR h t - evR v t*evR f t);have h3:(evR f t*evR f t+evR h t*evR h t)*(evR u t*evR u t+evR v t*evR v t)=(evR u t*evR f t+evR v t*evR h t)*(evR u t*evR f t+evR v t*evR h t)+(evR u t*evR h t - evR v t*evR f t)*(evR u t*evR h t - evR v t*evR f t):=by grind
  rw [h3,h1];grind⟩
 exact .of_low hxy (hL.fac hxy fun t=>ev_mulF _ _ t)
theorem edge_far {f h:List Rat} (hnz:0<dgF f∨0<dgF h) {x y:Rat}:¬ 0<insideF (commonF f h) x y↔Far2 f h (aq x y) (ar x y):=by
 have hxy:=(min_le'' x y).1;have P:=parts2 hnz
 constructor
 ·intro hi
  obtain⟨z1,z2⟩:=inside_low P.g0 hi;have hL:=low_keep P.g0 hxy z1 z2;have hF:=(cop_far P.cop hxy).low;refine .of_low hxy (((hL.mul hL (fun t=>ev_mulF _ _ t)).mul hF (c:=addF (mulF f f) (mulF h h)) fun t=>?_))
  simp only [ev_addF,ev_mulF]
  rw [P.eR,P.eI];grind
 ·intro hF hi
  have hL:=hF.div hxy P.eR P.eI;have h1:=hL.count P.g0 hxy;have h2:=(low_at hL hxy).1;unfold insideF at hi;rw [h1,if_neg fun e=>h2 (sz.1 e)] at hi;omega
theorem sides_line {lo hi dn up:Rat}:∀s ∈ sidesF lo hi dn up,LineS s.1 s.2.1:=by
 intro s hs;unfold sidesF at hs
 simp only [List.mem_cons,List.mem_nil_iff,or_false] at hs
 rcases hs with rfl|rfl|rfl|rfl
 ·exact .inl ⟨rfl,_,rfl⟩
 ·exact .inr ⟨rfl,_,rfl⟩
 ·exact .inl ⟨rfl,_,rfl⟩
 ·exact .inr ⟨rfl,_,rfl⟩
def EdgeS (p:List Rat) (s:Side):Prop:=0<insideF (commonF (alongU s.1 s.2.1 p).1 (alongU s.1 s.2.1 p).2) s.2.2.1 s.2.2.2
theorem edge_s {p:List Rat} (hp:Gd p) {s:Side} (hs:LineS s.1 s.2.1):¬ EdgeS p s↔SFar p s:=edge_far (along_nz hs hp)
theorem rectU_val (p:List Rat):∀(l:List Side) (t:Int),((∃s ∈ l,EdgeS p s)∧rectU p l t=(0,120))∨((∀s ∈ l,¬ EdgeS p s)∧rectU p l t=((t+totS p l).tdiv 4,0))
 | [],t=>.inr ⟨fun s h=>(by cases h),(by show (t.tdiv 4,0)=((t+0).tdiv 4,0);rw [Int.add_zero])⟩
 | s :: r,t=>by
  unfold rectU
  by_cases h:EdgeS p s
  ·have h':0<insideF (commonF (alongU s.1 s.2.1 p).1 (alongU s.1 s.2.1 p).2) s.2.2.1 s.2.2.2:=h
   rw [if_pos h'];exact .inl ⟨⟨s,List.mem_cons_self,h⟩,rfl⟩
  ·have h':¬ 0<insideF (commonF (alongU s.1 s.2.1 p).1 (alongU s.1 s.2.1 p).2) s.2.2.1 s.2.2.2:=h
   rw [if_neg h']
   rcases rectU_val p r (t+turnS p s) with ⟨⟨a,ha,he⟩,k⟩|⟨k1,k2⟩
   ·exact .inl ⟨⟨a,List.mem_cons_of_mem _ ha,he⟩,k⟩
   ·refine .inr ⟨fun a ha=>?_,?_⟩
    ·rcases List.mem_cons.1 ha with rfl|ha
     ·exact h
     ·exact k1 a ha
    ·rw [k2]
     show _=((t+(turnS p s+totS p r)).tdiv 4,0)
     rw [Int.add_assoc]
theorem tdiv4 (k:Int):(0+4*k).tdiv 4=k:=by rw [Int.zero_add];exact Int.mul_tdiv_cancel_left k (by decide)
theorem rect_law {p q:List Rat} (hp:Gd p) (hq:Gd q) (hm:Gd (mulF p q)) (lo hi dn up:Rat):∃i k r,∃e f g,rectU p (sidesF lo hi dn up) 0=(i,e)∧rectU q (sidesF lo hi dn up) 0=(k,f)∧rectU (mulF p q) (sidesF lo hi dn up) 0=(r,g)∧(e=0∨e=120)∧(f=0∨f=120)∧(g=0∨g=120)∧(e=0→f=0→g=0∧r=i+k)∧((e=120∨f=120)↔g=120):=by
 have hl:∀s ∈ sidesF lo hi dn up,LineS s.1 s.2.1:=sides_line
 rcases rectU_val p (sidesF lo hi dn up) 0 with ⟨⟨s,hs,he⟩,a⟩|⟨hpe,a⟩
 ·rcases rectU_val (mulF p q) (sidesF lo hi dn up) 0 with ⟨-,c⟩|⟨hme,c⟩
  ·rcases rectU_val q (sidesF lo hi dn up) 0 with ⟨-,b⟩|⟨-,b⟩
   ·exact⟨_,_,_,_,_,_,a,b,c,by omega,by omega,by omega,by omega,by omega⟩
   ·exact⟨_,_,_,_,_,_,a,b,c,by omega,by omega,by omega,by omega,by omega⟩
  ·exact absurd he ((edge_s hp (hl s hs)).2 (SFar.mul.1 ((edge_s hm (hl s hs)).1 (hme s hs))).1)
 ·rcases rectU_val q (sidesF lo hi dn up) 0 with ⟨⟨s,hs,he⟩,b⟩|⟨hqe,b⟩
  ·rcases rectU_val (mulF p q) (sidesF lo hi dn up) 0 with ⟨-,c⟩|⟨hme,c⟩
   ·exact⟨_,_,_,_,_,_,a,b,c,by omega,by omega,by omega,by omega,by omega⟩
   ·exact absurd he ((edge_s hq (hl s hs)).2 (SFar.mul.1 ((edge_s hm (hl s hs)).1 (hme s hs))).2)
  ·rcases rectU_val (mulF p q) (sidesF lo hi dn up) 0 with ⟨⟨s,hs,he⟩,c⟩|⟨hme,c⟩
   ·exact absurd he ((edge_s hm (hl s hs)).2 (SFar.mul.2 ⟨(edge_s hp (hl s hs)).1 (hpe s hs),(edge_s hq (hl s hs)).1 (hqe s hs)⟩))
   ·obtain⟨k,l,k1,k2,k3⟩:=rect_prod (p:=p) (q:=q) (fun s hs=>(edge_s hp (hl s hs)).1 (hpe s hs)) (fun s hs=>(edge_s hq (hl s hs)).1 (hqe s hs))
    rw [k1,tdiv4] at a;rw [k2,tdiv4] at b;rw [k3,tdiv4] at c;exact⟨_,_,_,_,_,_,a,b,c,by omega,by omega,by omega,by omega,by omega⟩
theorem right_fin:∀b ∈ tri3,∀e ∈ tri3,rep8 (Qi 1 e - Qi 1 b)=e - b:=by decide +kernel
theorem Qd_scale {x y k:Rat} (hk:0<k):Qd (x*k) (y*k)=Qd x y:=by
 unfold Qd;rw [sgq_mul,sgq_mul,sgq_pos hk,Int.mul_one,Int.mul_one]
theorem side_near {f1 h1 f2 h2:List Rat} {x y:Rat} (hxy:x≤y) (F1:Far2 f1 h1 x y) (F2:Far2 f2 h2 x y) (hd:∀t,x≤t→t≤y→0<dotq (evR f1 t) (evR h1 t) (evR f2 t) (evR h2 t)):∃w1 w2,T1 f1 h1 x y w1∧T1 f2 h2 x y w2∧w1 - w2=(dlt (evR f1 y*evR f2 y+evR h1 y*evR h2 y) (evR h1 y*evR f2 y - evR f1 y*evR h2 y) (evR f2 y) (evR h2 y)+sgq (evR h1 y*evR f2 y - evR f1 y*evR h2 y)) - (dlt (evR f1 x*evR f2 x+evR h1 x*evR h2 x) (evR h1 x*evR f2 x - evR f1 x*evR h2 x) (evR f2 x) (evR h2 x)+sgq (evR h1 x*evR f2 x - evR f1 x*evR h2 x)):=by
 obtain⟨fs,hfs⟩:∃l,addF (mulF f1 f2) (mulF h1 h2)=l:=⟨_,rfl⟩;obtain⟨hs,hhs⟩:∃l,subF (mulF h1 f2) (mulF f1 h2)=l:=⟨_,rfl⟩;have efs:∀t,evR fs t=evR f1 t*evR f2 t+evR h1 t*evR h2 t:=fun t=>by rw [←hfs,ev_addF,ev_mulF,ev_mulF]
 have ehs:∀t,evR hs t=evR h1 t*evR f2 t - evR f1 t*evR h2 t:=fun t=>by rw [←hhs,ev_subF,ev_mulF,ev_mulF]
 have FS:Far2 fs hs x y:=by
  refine .of_low hxy (F1.low.mul F2.low fun t=>?_)
  simp only [ev_addF,ev_mulF]
  rw [efs,ehs];grind
 obtain⟨d1,d10,p1⟩:=side_piece hxy F1;obtain⟨d2,d20,p2⟩:=side_piece hxy F2;obtain⟨d3,d30,p3⟩:=FS.close;obtain⟨m,m0,m1,m2⟩:=min_ex d10 d20;obtain⟨d,d0,dm,dd3⟩:=min_ex m0 d30;obtain⟨n,hn⟩:=arch d0 (y - x);obtain⟨Φ,hΦ⟩:∃ Φ:Rat→Int,∀t,Φ t=dlt (evR f1 t*evR f2 t+evR h1 t*evR h2 t) (evR h1 t*evR f2 t - evR f1 t*evR h2 t) (evR f2 t) (evR h2 t)+sgq (evR h1 t*evR f2 t - evR f1 t*evR h2 t):=⟨_,fun _=>rfl⟩;rw [←hΦ,←hΦ];refine by_pieces d0 (fun a b=>∃w1 w2,T1 f1 h1 a b w1∧T1 f2 h2 a b w2∧w1 - w2=Φ b - Φ a) (fun a=>⟨0,0,.refl _ _ _,.refl _ _ _,by omega⟩) (fun a b c _ _ r1 r2=>?_) (lo:=x) (hi:=y) (fun a b g1 g2 g3 g4=>?_) n x y Rat.le_refl hxy Rat.le_refl hn
 ·obtain⟨w1,w2,a1,a2,a4⟩:=r1
  obtain⟨v1,v2,b1,b2,b4⟩:=r2;exact⟨w1+v1,w2+v2,a1.trans b1,a2.trans b2,by omega⟩
 ·obtain⟨c1,i1⟩:=p1 a b g1 g2 g3 (Rat.le_trans g4 (Rat.le_trans dm m1))
  obtain⟨c2,i2⟩:=p2 a b g1 g2 g3 (Rat.le_trans g4 (Rat.le_trans dm m2));have c3:=p3 a b g1 g2 g3 (Rat.le_trans g4 dd3);refine⟨_,_,.piece i1,.piece i2,?_⟩;have ha:=hd a g1 (Rat.le_trans g2 g3);have hb:=hd b (Rat.le_trans g1 g2) g3;have na:0<evR f2 a*evR f2 a+evR h2 a*evR h2 a:=norm_pos (dotq_nz ha).2;have nb:0<evR f2 b*evR f2 b+evR h2 b*evR h2 b:=norm_pos (dotq_nz hb).2;have ka1:evR fs a*evR f2 a - evR hs a*evR h2 a=evR f1 a*(evR f2 a*evR f2 a+evR h2 a*evR h2 a):=by rw [efs,ehs];grind
  have ka2:evR fs a*evR h2 a+evR hs a*evR f2 a=evR h1 a*(evR f2 a*evR f2 a+evR h2 a*evR h2 a):=by rw [efs,ehs];grind
  have kb1:evR fs b*evR f2 b - evR hs b*evR h2 b=evR f1 b*(evR f2 b*evR f2 b+evR h2 b*evR h2 b):=by rw [efs,ehs];grind
  have kb2:evR fs b*evR h2 b+evR hs b*evR f2 b=evR h1 b*(evR f2 b*evR f2 b+evR h2 b*evR h2 b):=by rw [efs,ehs];grind
  have c4:0<dotq (evR fs a*evR f2 a - evR hs a*evR h2 a) (evR fs a*evR h2 a+evR hs a*evR f2 a) (evR fs b*evR f2 b - evR hs b*evR h2 b) (evR fs b*evR h2 b+evR hs b*evR f2 b):=by
   rw [ka1,ka2,kb1,kb2]
   have:=Rat.mul_pos (Rat.mul_pos c1 na) nb
   unfold dotq at this ⊢
   grind
  have hp:=dQ_prod c3 c2 c4
  have hq:dQ (evR fs a*evR f2 a - evR hs a*evR h2 a) (evR fs a*evR h2 a+evR hs a*evR f2 a) (evR fs b*evR f2 b - evR hs b*evR h2 b) (evR fs b*evR h2 b+evR hs b*evR f2 b)=dQ (evR f1 a) (evR h1 a) (evR f1 b) (evR h1 b):=by
   rw [ka1,ka2,kb1,kb2];unfold dQ;rw [Qd_scale na,Qd_scale nb]
  have hr:dQ (evR fs a) (evR hs a) (evR fs b) (evR hs b)=sgq (evR hs b) - sgq (evR hs a):=by
   have s1:sgq (evR fs a)=1:=sgq_pos (by rw [efs];exact ha);have s2:sgq (evR fs b)=1:=sgq_pos (by rw [efs];exact hb);unfold dQ Qd;rw [s1,s2];exact right_fin _ (sgq_in _) _ (sgq_in _)
  rw [hq,hr] at hp;rw [hΦ,hΦ,←efs,←efs,←ehs,←ehs];omega
theorem rect_near {p q:List Rat} {lo hi dn up:Rat} (hp:∀s ∈ sidesF lo hi dn up,SFar p s) (hq:∀s ∈ sidesF lo hi dn up,SFar q s) (hd:∀s ∈ sidesF lo hi dn up,∀t,aq s.2.2.1 s.2.2.2≤t→t≤ar s.2.2.1 s.2.2.2→0<dotq (cvR p (evR s.1 t) (evR s.2.1 t)).1 (cvR p (evR s.1 t) (evR s.2.1 t)).2 (cvR q (evR s.1 t) (evR s.2.1 t)).1 (cvR q (evR s.1 t) (evR s.2.1 t)).2):totS p (sidesF lo hi dn up)=totS q (sidesF lo hi dn up):=by
 obtain⟨Ψ,hΨ⟩:∃ Ψ:Rat × Rat→Rat × Rat→Int,∀a b,Ψ a b=dlt (a.1*b.1+a.2*b.2) (a.2*b.1 - a.1*b.2) b.1 b.2+sgq (a.2*b.1 - a.1*b.2):=⟨_,fun _ _=>rfl⟩
 have R:∀s ∈ sidesF lo hi dn up,∃w1 w2,T1 (alongU s.1 s.2.1 p).1 (alongU s.1 s.2.1 p).2 s.2.2.1 s.2.2.2 w1∧T1 (alongU s.1 s.2.1 q).1 (alongU s.1 s.2.1 q).2 s.2.2.1 s.2.2.2 w2∧w1 - w2=Ψ (cvR p (evR s.1 s.2.2.2) (evR s.2.1 s.2.2.2)) (cvR q (evR s.1 s.2.2.2) (evR s.2.1 s.2.2.2)) - Ψ (cvR p (evR s.1 s.2.2.1) (evR s.2.1 s.2.2.1)) (cvR q (evR s.1 s.2.2.1) (evR s.2.1 s.2.2.1)):=fun s hs=>by
  have h:=side_near (min_le'' s.2.2.1 s.2.2.2).1 (hp s hs) (hq s hs) (fun t k1 k2=>by
   rw [(along_ev _ _ t p).1,(along_ev _ _ t p).2,(along_ev _ _ t q).1,(along_ev _ _ t q).2];exact hd s hs t k1 k2)
  obtain⟨w1,w2,a1,a2,a3⟩:=h;rw [(along_ev s.1 s.2.1 _ p).1,(along_ev s.1 s.2.1 _ p).2,(along_ev s.1 s.2.1 _ q).1,(along_ev s.1 s.2.1 _ q).2,←hΨ,(along_ev s.1 s.2.1 _ p).1,(along_ev s.1 s.2.1 _ p).2,(along_ev s.1 s.2.1 _ q).1,(along_ev s.1 s.2.1 _ q).2,←hΨ] at a3
  rcases(min_le'' s.2.2.1 s.2.2.2).2 with ⟨e1,e2⟩|⟨e1,e2⟩
  ·rw [e1,e2] at a1 a2 a3
   exact⟨w1,w2,a1,a2,a3⟩
  ·rw [e1,e2] at a1 a2 a3
   exact⟨-w1,-w2,a1.rev,a2.rev,by omega⟩
 obtain⟨w1,v1,a1,b1,d1⟩:=R ([0,1],[dn],lo,hi) (by simp [sidesF]);obtain⟨w2,v2,a2,b2,d2⟩:=R ([hi],[0,1],dn,up) (by simp [sidesF]);obtain⟨w3,v3,a3,b3,d3⟩:=R ([0,1],[up],hi,lo) (by simp [sidesF]);obtain⟨w4,v4,a4,b4,d4⟩:=R ([lo],[0,1],up,dn) (by simp [sidesF])
 have tot:∀(r:List Rat) (x1 x2 x3 x4:Int),T1 (alongU [0,1] [dn] r).1 (alongU [0,1] [dn] r).2 lo hi x1→T1 (alongU [hi] [0,1] r).1 (alongU [hi] [0,1] r).2 dn up x2→T1 (alongU [0,1] [up] r).1 (alongU [0,1] [up] r).2 hi lo x3→T1 (alongU [lo] [0,1] r).1 (alongU [lo] [0,1] r).2 up dn x4→∃k,x1+x2+x3+x4=8*k∧totS r (sidesF lo hi dn up)=4*k:=fun r x1 x2 x3 x4 t1 t2 t3 t4=>by
  obtain⟨m1,n1⟩:=t1;obtain⟨m2,n2⟩:=t2;obtain⟨m3,n3⟩:=t3;obtain⟨m4,n4⟩:=t4;rw [side_at,side_at,ev_line,ev_line,ev_const,ev_const] at m1;rw [side_at,side_at,ev_line,ev_line,ev_const,ev_const] at m2;rw [side_at,side_at,ev_line,ev_line,ev_const,ev_const] at m3;rw [side_at,side_at,ev_line,ev_line,ev_const,ev_const] at m4;rw [side_at,ev_line,ev_const] at n1 n2 n3 n4;rw [tot4,turnS_idx,turnS_idx,turnS_idx,turnS_idx];exact loop4 m1 n1 m2 n2 m3 n3 m4 n4
 obtain⟨k,k1,k2⟩:=tot p w1 w2 w3 w4 a1 a2 a3 a4;obtain⟨l,l1,l2⟩:=tot q v1 v2 v3 v4 b1 b2 b3 b4
 dsimp only at d1 d2 d3 d4
 rw [ev_line,ev_line,ev_const,ev_const] at d1 d2 d3 d4;rw [k2,l2];omega
theorem far_add {a b c R r:Rat} (hR:0≤r) (hr:r≤R) (hN:R*R≤a*a+b*b) (hc:Ab r c):(R - r)*(R - r)≤(a+c)*(a+c)+b*b:=by
 obtain⟨σ,hσ,h1⟩:=pm_of a;obtain⟨τ,hτ,h2⟩:=pm_of c;have hcr:τ*c≤r:=by have:=(hc.pm hτ).2;exact this
 have e1:(σ*a)*(σ*a)=a*a:=by rcases hσ with rfl|rfl <;> grind
 have e2:(τ*c)*(τ*c)=c*c:=by rcases hτ with rfl|rfl <;> grind
 have h3:-(σ*a*(τ*c))≤a*c:=by
  have:=Rat.mul_nonneg h1 h2
  rcases hσ with rfl|rfl <;> rcases hτ with rfl|rfl <;> grind
 generalize σ*a=A at *;generalize τ*c=C at *;have hbb:=sq_nn b
 have key:(R - C)*(R - C)≤(a+c)*(a+c)+b*b:=by
  rcases Rat.le_total (a:=A) (b:=R) with g|g
  ·have:=Rat.mul_nonneg h2 (show 0≤R - A by grind)
   grind
  ·have q1:=Rat.mul_nonneg (show 0≤A - R by grind) (show 0≤A+R - 2*C by grind)
   grind
 have q2:=Rat.mul_nonneg (show 0≤r - C by grind) (show 0≤2*R - r - C by grind)
 grind
theorem far_dot {a b c R r:Rat} (h0:0≤r) (hr:r<R) (hN:R*R≤a*a+b*b) (hc:Ab r c):0<(a+c)*a+b*b:=by
 obtain⟨σ,hσ,h1⟩:=pm_of a;have e1:(σ*a)*(σ*a)=a*a:=by rcases hσ with rfl|rfl <;> grind
 have hc':=hc.pm hσ
 have h3:-(r*(σ*a))≤c*a:=by
  have:=Rat.mul_nonneg h1 (show 0≤r+σ*c by have:=hc'.1;grind)
  rcases hσ with rfl|rfl <;> grind
 generalize σ*a=A at *;have hbb:=sq_nn b
 rcases Rat.le_total (a:=A) (b:=R) with g|g
 ·have q1:=Rat.mul_nonneg h0 (show 0≤R - A by grind)
  have q2:=Rat.mul_pos (show 0<R - r by grind) (show 0<R by grind)
  grind
 ·have q1:=Rat.mul_pos (show 0<A by grind) (show 0<A - r by grind)
  grind
end Go.Proofs.YtkoaakefgacokaaGreatDoor
