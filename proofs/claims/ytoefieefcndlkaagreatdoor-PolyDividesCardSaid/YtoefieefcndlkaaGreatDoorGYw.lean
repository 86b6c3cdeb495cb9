/- What the law PolyRing needs beside the contracts. How great the numbers of square-free parts are, on both ways to them. How great the numbers are that PolyDivides looks at. The reference's greatest common divisors, and what asks for them. Printed by gen_kq.py. -/
import Derived.Test.YtoefieefcndlkaaGreatDoorGYz
import Derived.Test.YtoefieefcndlkaaGreatDoorGHh
import Derived.Test.YtoefieefcndlkaaGreatDoorGKm
import Derived.Test.YtoefieefcndlkaaGreatDoorGQz
import Derived.Test.YtoefieefcndlkaaGreatDoorGKp
set_option linter.unusedVariables false
set_option maxRecDepth 100000
set_option maxHeartbeats 64000000
namespace Go.Proofs.YtoefieefcndlkaaGreatDoor
open Go Go.RowKit
set_option linter.unusedSimpArgs false
def Px (w:World) (v:Value) (p:List Rat) (N M:Nat):Prop:=Pl w v p∧p.length≤N∧∀x ∈ p,Bq M x
theorem Px.mono {w w':World} {v:Value} {p:List Rat} {N M:Nat} (h:Px w v p N M) (k:Ext w w'):Px w' v p N M:=⟨h.1.mono k,h.2⟩
theorem Px.up {w:World} {v:Value} {p:List Rat} {N M N' M':Nat} (h:Px w v p N M) (hN:N≤N') (hM:M≤M'):Px w v p N' M':=⟨h.1,Nat.le_trans h.2.1 hN,fun x hx=>(h.2.2 x hx).mono hM⟩
theorem great_len {LL:List (Value × List (List UInt8))} (h:greatF LL=false):∀y ∈ LL,y.2.length≤60:=by
 intro y hy;have h1:=List.any_eq_false.1 h y hy;rw [Bool.or_eq_true,not_or] at h1
 have:=h1.1
 rw [decide_eq_true_eq] at this;omega
theorem lt_of_block' {W:World} {k:Nat} {o:Obj} (h:W.heap[k]?=some o):k<W.heap.size:=(Array.getElem?_eq_some_iff.1 h).1
structure RgS (W0 W:World) (ks:List (Nat × Obj)) (ns:List (Value × Rat)):Prop where
 ext:Ext W0 W
 keep:∀p ∈ ks,W0.heap.size≤p.1∧W.heap[p.1]?=some p.2
 nn:∀y ∈ ns,Nm W y.1 y.2
theorem RgS.start (W:World):RgS W W [] []:=⟨ae _,(fun p hp=>by cases hp),(fun p hp=>by cases hp)⟩
theorem RgS.mono {W0 W W':World} {ks:List (Nat × Obj)} {ns:List (Value × Rat)} (h:RgS W0 W ks ns) (k:Ext W W'):RgS W0 W' ks ns:=
 ⟨ak h.ext k,(fun p hp=>⟨(h.keep p hp).1,(k.block _ (lt_of_block' (h.keep p hp).2)).trans (h.keep p hp).2⟩),(fun y hy=>(h.nn y hy).mono k)⟩
theorem RgS.alloc {W0 W:World} {ks:List (Nat × Obj)} {ns:List (Value × Rat)} (h:RgS W0 W ks ns) (o:Obj):RgS W0 (W.alloc o) ((W.heap.size,o) :: ks) ns:=by
 have hm:=h.mono (ab W o);refine⟨hm.ext,fun p hp=>?_,hm.nn⟩
 rcases List.mem_cons.1 hp with rfl|hp
 ·exact⟨h.ext.size,heap_alloc_new _ _⟩
 ·exact hm.keep p hp
theorem RgS.num {W0 W:World} {ks:List (Nat × Obj)} {ns:List (Value × Rat)} {v:Value} {q:Rat} (h:RgS W0 W ks ns) (hq:Nm W v q):RgS W0 W ks ((v,q) :: ns):=
 ⟨h.ext,h.keep,fun y hy=>by
  rcases List.mem_cons.1 hy with rfl|hy
  ·exact hq
  ·exact h.nn y hy⟩
theorem RgS.sub {W0 W:World} {ks ks':List (Nat × Obj)} {ns:List (Value × Rat)} (h:RgS W0 W ks ns) (hs:∀p ∈ ks',p ∈ ks):RgS W0 W ks' ns:=⟨h.ext,(fun p hp=>h.keep p (hs p hp)),h.nn⟩
theorem RgS.put {W0 W:World} {ks:List (Nat × Obj)} {ns:List (Value × Rat)} {g:Nat} {s:Bool} {A B:Option Addr} {k ca l cb:Nat} {T:TypeId} (h:RgS W0 W ks ns) (hg:(g,.cells #[.bool s,.slice A k ca,.slice B l cb] T) ∈ ks) (a b c:Value):RgS W0 (put3at W g 0 a b c) (ks.map fun p=>if p.1=g then (g,.cells #[a,b,c] T) else p) ns:=by
 obtain⟨hge,hr⟩:=h.keep _ hg;refine⟨((h.ext.setCell hge _).setCell hge _).setCell hge _,fun p hp=>?_,fun y hy=>nm_put3b (h.nn y hy) hr a b c⟩;obtain⟨p0,h0,rfl⟩:=List.mem_map.1 hp
 by_cases hpg:p0.1=g
 ·rw [if_pos hpg];exact⟨hge,put3b_row hr a b c⟩
 ·rw [if_neg hpg];exact⟨(h.keep p0 h0).1,(put3b_other a b c hpg).trans (h.keep p0 h0).2⟩
section
variable {P:Program} {md:Region.Mode} {ops:Array Oper} {Q:Exit→Act→World→Prop} {S:World→Prop}
end
theorem RgS.put6 {W0 W:World} {ks:List (Nat × Obj)} {ns:List (Value × Rat)} {g:Nat} {s:Bool} {A:Option Addr} {k ca:Nat} {B:Option Addr} {l cb:Nat} {s':Bool} {A':Option Addr} {k' ca':Nat} {B':Option Addr} {l' cb':Nat} {T:TypeId} (h:RgS W0 W ks ns) (hg:(g,.cells #[.bool s,.slice A k ca,.slice B l cb,.bool s',.slice A' k' ca',.slice B' l' cb'] T) ∈ ks) (a b c d e f:Value):RgS W0 (Proofs.YtoefieefcndlkaaGreatDoor.put6 W g a b c d e f) (ks.map fun p=>if p.1=g then (g,.cells #[a,b,c,d,e,f] T) else p) ns:=by
 obtain⟨hge,hr⟩:=h.keep _ hg;refine⟨af h.ext hge ..,fun p hp=>?_,fun y hy=>(h.nn y hy).put6 hr ..⟩;obtain⟨p0,h0,rfl⟩:=List.mem_map.1 hp
 by_cases hpg:p0.1=g
 ·rw [if_pos hpg];exact⟨hge,ag hr ..⟩
 ·rw [if_neg hpg];exact⟨(h.keep p0 h0).1,(put6_oth _ _ _ _ _ _ hpg).trans (h.keep p0 h0).2⟩
end Go.Proofs.YtoefieefcndlkaaGreatDoor
set_option linter.unusedVariables false
set_option maxRecDepth 100000
set_option maxHeartbeats 64000000
namespace Go.Proofs.YtoefieefcndlkaaGreatDoor
set_option linter.unusedSimpArgs false
def bdF (a L:Nat):Nat:=2*a+23*L
def bdC (a L:Nat):Nat:=bdF a L+6+L*(bdF a L+1)
def bdR (a L:Nat):Nat:=bdC a L+(bdF a L+6)+1
def bdH (a L:Nat):Nat:=(bdR a L+9)*(2*L+2)
def bdM (a L:Nat):Nat:=bdH a L+L*(bdH a L+1)
theorem le_bounds (a L:Nat):bdF a L+6≤bdC a L∧bdC a L+L*(bdF a L+1)≤bdM a L∧bdR a L+L*(bdF a L+1)≤bdM a L∧bdR a L≤bdH a L∧bdH a L≤bdM a L:=by
 have h1:(bdR a L+9)*2≤(bdR a L+9)*(2*L+2):=Nat.mul_le_mul_left _ (by omega);have h2:bdH a L=(bdR a L+9)*(2*L+2):=rfl;have h3:bdM a L=bdH a L+L*(bdH a L+1):=rfl;have h4:bdR a L=bdC a L+(bdF a L+6)+1:=rfl;have h5:bdC a L=bdF a L+6+L*(bdF a L+1):=rfl;generalize L*(bdF a L+1)=T at *;generalize L*(bdH a L+1)=U at *;generalize (bdR a L+9)*(2*L+2)=V at *;omega
theorem factor_dv {a L:Nat} {f p:List Rat} (hp:HF a p) (mp:Mo p) (mf:Mo f) (h:Dv f p) (hp0:0<dgF p) (hL:dgF p≤L) (h63:L≤63):HF (bdF a L) f:=by
 have f0:=(h.dg hp0).1;have e:=quo_dv f0 h;obtain⟨mh,-⟩:=mp.quo hp0 mf (quo_trim _ _) e;exact factor_hf hp e mf mh hp0 hL h63
theorem pow6 {L:Nat} (h:L≤63) {n:Nat} (k:n≤L):n≤2 ^ 6:=by omega
theorem partsB_hf {a L M:Nat} {p0:List Rat} (hp0:HF a p0) (m0:Mo p0) (d0:0<dgF p0) (hL:dgF p0≤L) (h63:L≤63) (hM:bdM a L≤M):∀(n:Nat) (p b c:List Rat),Mo p→Dv p p0→0<dgF p→(∀x,evR p x=evR (nextP p) x*evR b x)→(∀x,evR (derivF p) x=evR (nextP p) x*evR c x)→trimF b=b→HF (bdC a L) c→dgF p≤n→partsB M n b c=true
 | 0,p,b,c,hp,hd,h0,_,_,_,_,hn=>by omega
 | n+1,p,b,c,hp,hd,h0,hb,hc,tb,hC,hn=>by
  have q0:=nextP_pos h0;have qm:=nextP_mo p
  rcases Nat.lt_or_ge 1 (dgF p) with h1|h1
  ·obtain⟨P,C,e1,Pm,P0,b1,e2,e3,tC,e4,c1,c2⟩:=yun_step hp h1 hb hc tb
   have ql:=nextP_less h1;obtain⟨Bm,B0⟩:=base_mo qm q0;have hd1:(divF b P).1=baseP (nextP p):=quo_eq P0 Bm.1 e2;have hd2:(divF (subF c (derivF b)) P).1=C:=quo_eq P0 tC e3;have qd:Dv (nextP p) p0:=Dv.trans ⟨b,hb⟩ hd;obtain⟨bm,b0⟩:=hp.quo h0 qm tb hb;have bd:Dv b p0:=Dv.trans ⟨nextP p,fun x=>by rw [hb];grind⟩ hd;have Pd:Dv P p0:=Dv.trans ⟨baseP (nextP p),e2⟩ bd;have qq0:=nextP_pos q0;have qqd:Dv (nextP (nextP p)) p0:=(nextP_dv (nextP p)).1.trans qd;have Fb:=factor_dv hp0 m0 bm bd d0 hL h63;have FP:=factor_dv hp0 m0 Pm Pd d0 hL h63;have Fq:=factor_dv hp0 m0 qm qd d0 hL h63;have Fqq:=factor_dv hp0 m0 (nextP_mo (nextP p)) qqd d0 hL h63;obtain⟨l1,l2,l3,l4,l5⟩:=le_bounds a L;have dp:=(hd.dg d0).2;have db:=(bd.dg d0).2;have dq:=(qd.dg d0).2;have Fb':=Fb.deriv (v:=6) (pow6 h63 (by omega));have FR:HF (bdR a L) (subF c (derivF b)):=(hC.sub Fb').mono (by unfold bdR;omega)
   have dgc:dgF c≤L:=by
    rcases Nat.eq_zero_or_pos (dgF c) with z|z
    ·omega
    ·have:=dg_mul hc q0 z
     have:=dg_deriv p
     omega
   have dgr:dgF (subF c (derivF b))≤L:=dg_sub (fun x=>ev_subF _ _ x) dgc (by rw [dg_deriv];omega);have k1:=(com_hf (a:=bdR a L) (w:=7) (N:=L) (H:=bdH a L) (M:=M) (Fb.mono (by unfold bdR;omega)) FR (by omega) dgr (by omega) (Nat.le_refl _) hM).1;have k2:=(div_hf (N:=L) (M:=M) Fb FP P0 (by omega) (by omega) (by omega)).1;have k3:=(div_hf (N:=L) (M:=M) FR FP P0 dgr (by omega) (by omega)).1;have k4:=(div_hf (N:=L) (M:=bdC a L) (Fq.deriv (v:=6) (pow6 h63 (by omega))) Fqq qq0 (by rw [dg_deriv];omega) (Nat.le_refl _) (by omega)).2.1;have eC:(divF (derivF (nextP p)) (nextP (nextP p))).1=C:=quo_eq qq0 tC e4;rw [eC] at k4;have i1:=partsB_hf hp0 m0 d0 hL h63 hM n (nextP p) (baseP (nextP p)) C qm qd q0 (base_ev q0) e4 Bm.1 k4 (by omega);unfold partsB;rw [if_pos (show 1<(trimF b).length from b1),e1,hd1,hd2,Fb.sm (by omega),hC.sm (by omega),Fb'.sm (by omega),k1,k2,k3,i1]
   have:(!(trimF P).isEmpty)=true:=by
    have:=trim_ne P0
    cases h9:trimF P with
    | nil=>exact absurd h9 this
    | cons x l=>rfl
   rw [this];rfl
  ·have hb0:=(dg_parts hb h0).2
   have:=dg_mul hb q0 hb0
   unfold partsB;rw [if_neg (show ¬ 1<(trimF b).length from by show ¬ 1<dgF b;omega)]
theorem parts_hf {a L M:Nat} {p:List Rat} (hp:HF a p) (h0:0<dgF p) (hL:dgF p≤L) (h63:L≤63) (hM:bdM a L≤M):partsOk M p=true∧∀l ∈ partsF p,HF (bdF a L) l:=by
 have hm:=hp.monic;have mm:=mo_mon p;have m0:0<dgF (monicF p):=by rw [dg_mon];exact h0
 have mL:dgF (monicF p)≤L:=by rw [dg_mon];exact hL
 have q0:=nextP_pos m0;have qd:=(nextP_dv (monicF p)).1;have Fq:=factor_dv hm mm (nextP_mo _) qd m0 mL h63;have Fm:=factor_dv hm mm mm (Dv.refl _) m0 mL h63;have Fm':=Fm.deriv (v:=6) (pow6 h63 (by omega));obtain⟨l1,l2,l3,l4,l5⟩:=le_bounds a L;have dd:dgF (derivF (monicF p))≤L:=by rw [dg_deriv];omega
 have ha:a≤bdF a L:=by unfold bdF;omega
 have k1:=(com_hf (a:=bdR a L) (w:=7) (N:=L) (H:=bdH a L) (M:=M) (Fm.mono (by unfold bdR;omega)) (Fm'.mono (by unfold bdR;omega)) mL dd (by omega) (Nat.le_refl _) hM).1;have k2:=(div_hf (N:=L) (M:=M) Fm Fq q0 mL (by omega) (by omega)).1;have k3:=(div_hf (N:=L) (M:=M) Fm' Fq q0 dd (by omega) (by omega)).1;have k4:=(div_hf (N:=L) (M:=bdC a L) Fm' Fq q0 dd (Nat.le_refl _) (by omega)).2.1;have hl:dgF (monicF p)=(monicF p).length:=mm.len;have k5:=partsB_hf hm mm m0 mL h63 hM ((monicF p).length+1) (monicF p) (baseP (monicF p)) _ mm (Dv.refl _) m0 (base_ev m0) (quo_dv q0 (nextP_dv _).2) (quo_trim _ _) k4 (by omega);refine⟨?_,fun l hl=>?_⟩
 ·unfold partsOk
  rw [hp.sm (by omega),hm.sm (by omega)];have e:commonF (monicF p) (derivF (monicF p))=nextP (monicF p):=rfl
  have:(!(trimF (nextP (monicF p))).isEmpty)=true:=by
   have:=trim_ne q0
   cases h9:trimF (nextP (monicF p)) with
   | nil=>exact absurd h9 this
   | cons x l=>rfl
  rw [k1,e,k2,k3,this,show partsB M ((monicF p).length+1) (divF (monicF p) (nextP (monicF p))).1 (divF (derivF (monicF p)) (nextP (monicF p))).1=true from k5];rfl
 ·obtain⟨a1,a2,-,a4⟩:=(yun h0).2.1 l hl
  exact factor_dv hm mm a1 (a4.trans (mon_dv p).2) m0 mL h63
def rpartsB (M:Nat):Nat→List Rat→Bool
 | 0,_=>true
 | n+1,p=>if 1<(trimF p).length then smB M p && smB M (derivF p) && comOk M p (derivF p) && divOk M p (commonF p (derivF p)) &&
   (if 1<(trimF (commonF p (derivF p))).length then smB M (derivF (commonF p (derivF p))) && comOk M (commonF p (derivF p)) (derivF (commonF p (derivF p))) && divOk M (commonF p (derivF p)) (commonF (commonF p (derivF p)) (derivF (commonF p (derivF p)))) else true) &&
   divOk M (divF p (commonF p (derivF p))).1 (moreF (commonF p (derivF p))) && smB M (divF (divF p (commonF p (derivF p))).1 (moreF (commonF p (derivF p)))).1 && rpartsB M n (commonF p (derivF p)) else true
theorem rpartsB_hf {a L M:Nat} {p0:List Rat} (hp0:HF a p0) (m0:Mo p0) (d0:0<dgF p0) (hL:dgF p0≤L) (h63:L≤63) (hM:bdM a L≤M):∀(n:Nat) (p:List Rat),Dv p p0→0<dgF p→HF (bdF a L) p→rpartsB M n p=true
 | 0,p,_,_,_=>rfl
 | n+1,p,hd,h0,Fp=>by
  show (if 1<(trimF p).length then smB M p && smB M (derivF p) && comOk M p (derivF p) && divOk M p (nextP p) && (if 1<(trimF (nextP p)).length then smB M (derivF (nextP p)) && comOk M (nextP p) (derivF (nextP p)) && divOk M (nextP p) (nextP (nextP p)) else true) && divOk M (divF p (nextP p)).1 (moreF (nextP p)) && smB M (divF (divF p (nextP p)).1 (moreF (nextP p))).1 && rpartsB M n (nextP p) else true)=true
  by_cases h1:1<(trimF p).length
  ·rw [if_pos h1]
   have q0:=nextP_pos h0;have qm:=nextP_mo p;have qd:Dv (nextP p) p0:=(nextP_dv p).1.trans hd;have qq0:=nextP_pos q0;have qqd:Dv (nextP (nextP p)) p0:=(nextP_dv (nextP p)).1.trans qd;obtain⟨Bm,B0⟩:=base_mo qm q0;have Bd:Dv (baseP (nextP p)) p0:=Dv.trans ⟨nextP (nextP p),fun x=>by rw [base_ev q0];grind⟩ qd;have Fq:=factor_dv hp0 m0 qm qd d0 hL h63;have Fqq:=factor_dv hp0 m0 (nextP_mo (nextP p)) qqd d0 hL h63;have FB:=factor_dv hp0 m0 Bm Bd d0 hL h63;obtain⟨l1,l2,l3,l4,l5⟩:=le_bounds a L;have dp:=(hd.dg d0).2;have dq:=(qd.dg d0).2;have Fp':=Fp.deriv (v:=6) (pow6 h63 (by omega));have Fq':=Fq.deriv (v:=6) (pow6 h63 (by omega));have k1:=(com_hf (a:=bdR a L) (w:=7) (N:=L) (H:=bdH a L) (M:=M) (Fp.mono (by unfold bdR;omega)) (Fp'.mono (by unfold bdR;omega)) (by omega) (by rw [dg_deriv];omega) (by omega) (Nat.le_refl _) hM).1;have k2:=(com_hf (a:=bdR a L) (w:=7) (N:=L) (H:=bdH a L) (M:=M) (Fq.mono (by unfold bdR;omega)) (Fq'.mono (by unfold bdR;omega)) (by omega) (by rw [dg_deriv];omega) (by omega) (Nat.le_refl _) hM).1;have k3:=(div_hf (N:=L) (M:=M) Fp Fq q0 (by omega) (by omega) (by omega)).1;have k4:=(div_hf (N:=L) (M:=bdC a L) Fp Fq q0 (by omega) (by unfold bdC;omega) (by omega)).2.1;have k5:=(div_hf (N:=L) (M:=M) Fq Fqq qq0 (by omega) (by omega) (by omega)).1
   have b0:dgF (divF p (nextP p)).1≤L:=by
    have:=quo_dv q0 (nextP_dv p).1
    have:=dg_mul this q0 (dg_parts this h0).2
    omega
   have k6:=div_hf (N:=L) (M:=M) k4 FB B0 b0 (by omega) (by omega);rw [more_base qm q0];have i1:=rpartsB_hf hp0 m0 d0 hL h63 hM n (nextP p) qd q0 Fq;rw [Fp.sm (by omega),Fp'.sm (by omega),k1,k3,k6.1,k6.2.1.sm (Nat.le_refl _),i1,Fq'.sm (by omega),k2,k5]
   simp
  ·rw [if_neg h1]
theorem rparts_hf {a L M:Nat} {p:List Rat} (n:Nat) (hp:HF a p) (h0:0<dgF p) (hL:dgF p≤L) (h63:L≤63) (hM:bdM a L≤M):rpartsB M n p=true:=
 rpartsB_hf hp.monic (mo_mon p) (by rw [dg_mon];exact h0) (by rw [dg_mon];exact hL) h63 hM n p (mon_dv p).2 h0 (hp.mono (by unfold bdF;omega))
end Go.Proofs.YtoefieefcndlkaaGreatDoor
set_option linter.unusedVariables false
set_option maxRecDepth 100000
set_option maxHeartbeats 64000000
namespace Go.Proofs.YtoefieefcndlkaaGreatDoor
set_option linter.unusedSimpArgs false
theorem hf_list {p:List Rat} {M N:Nat} (h:∀x ∈ p,Bq M x) (hd:dgF p≤N):HF (N*M+1) p:=by
 have h1:=hf_of_bq (trimF p) fun c hc=>h c (trim_mem hc);have h2:(trimF p).length*M≤N*M:=Nat.mul_le_mul_right _ hd;exact(h1.mono (by omega)).eqv fun i=>(co_trim p i).symm
theorem big_le {p:List Rat} (h:bigF p=false):dgF p≤41:=by
 have:=of_decide_eq_false h
 show (trimF p).length≤41
 omega
theorem ask_zero {p:List Rat} (h:askF p=0):bigF p=false∧trimF p≠[]:=by
 unfold askF at h
 split at h
 ·cases h
 ·rename_i h1
  split at h
  ·cases h
  ·rename_i h2
   exact⟨by cases hb:bigF p with|true=>exact absurd hb h1|false=>rfl,h2⟩
theorem small_div {M:Nat} (hM:49914934313≤M) {a b:List Rat} (ha:∀x ∈ a,Bq 4001 x) (hb:∀x ∈ b,Bq 4001 x) (h:(bigF a || bigF b)=false) (h0:trimF b≠[]):divOk M a b=true∧(∀x ∈ (divF a b).1,Bq M x)∧∀x ∈ (divF a b).2,Bq M x:=by
 rw [Bool.or_eq_false_iff] at h;have h1:=div_hf (M:=M) (N:=41) (hf_list ha (big_le h.1)) (hf_list hb (big_le h.2)) (List.length_pos_iff.2 h0) (big_le h.1) (by omega) (by omega);exact⟨h1.1,h1.2.1.bq,h1.2.2.bq⟩
theorem small_gcd {M:Nat} (hM:49914934313≤M) {a b:List Rat} (ha:∀x ∈ a,Bq 4001 x) (hb:∀x ∈ b,Bq 4001 x) (h:(bigF a || bigF b)=false):comOk M a b=true∧∀x ∈ commonF a b,Bq M x:=by
 rw [Bool.or_eq_false_iff] at h;have h1:=com_hf (M:=M) (N:=41) (w:=7) (H:=1188450816) (hf_list ha (big_le h.1)) (hf_list hb (big_le h.2)) (big_le h.1) (big_le h.2) (by decide) (by decide) (by omega);exact⟨h1.1,(h1.2.mono (by omega)).bq⟩
theorem small_parts {M:Nat} (hM:49914934313≤M) {a:List Rat} (ha:∀x ∈ a,Bq 4001 x) (h:askF a=0):partsOk M a=true∧rpartsB M (a.length+1) a=true∧(∀l ∈ partsF a,l.length≤60∧∀x ∈ l,Bq M x)∧rpartsU (a.length+1) a=partsF a:=by
 obtain⟨h1,h2⟩:=ask_zero h;have h3:=big_le h1;have h0:0<dgF a:=List.length_pos_iff.2 h2;have hf:=hf_list ha h3;obtain⟨k1,k2⟩:=parts_hf hf h0 h3 (by decide) (Nat.le_trans (show bdM (41*4001+1) 41≤49914934313 by decide) hM);have y:=yun h0;refine⟨k1,rparts_hf _ hf h0 h3 (by decide) (Nat.le_trans (show bdM (41*4001+1) 41≤49914934313 by decide) hM),fun l hl=>⟨?_,((k2 l hl).mono (Nat.le_trans (show bdF (41*4001+1) 41≤49914934313 by decide) hM)).bq⟩,by rw [y.1];exact rparts_mon _ h0⟩;obtain⟨m1,m2,-,m4⟩:=y.2.1 l hl
 have:=(m4.dg h0).2
 rw [m1.len] at this;omega
theorem divE_small {M:Nat} (hM:49914934313≤M) {a b:List Rat} (la:a.length≤60) (ha:∀x ∈ a,Bq 4001 x) (hb:∀x ∈ b,Bq 4001 x):((divE a b).1.length≤100∧∀x ∈ (divE a b).1,Bq M x)∧(divE a b).2.1.length≤100∧∀x ∈ (divE a b).2.1,Bq M x:=by
 have nil:([]:List Rat).length≤100∧∀x ∈ ([]:List Rat),Bq M x:=⟨by decide,fun x hx=>by cases hx⟩;unfold divE
 split
 ·exact⟨nil,nil⟩
 ·rename_i h
  split
  ·exact⟨nil,nil⟩
  ·rename_i h0
   have h1:=small_div hM ha hb (by cases hh:(bigF a || bigF b) with|true=>exact absurd hh h|false=>rfl) h0;have h2:=div_len a b;exact⟨⟨by show (divF a b).1.length≤100;omega,h1.2.1⟩,by show (divF a b).2.length≤100;omega,h1.2.2⟩
theorem gcdE_small {M:Nat} (hM:49914934313≤M) {a b:List Rat} (la:a.length≤60) (lb:b.length≤60) (ha:∀x ∈ a,Bq 4001 x) (hb:∀x ∈ b,Bq 4001 x):(gcdE a b).1.length≤100∧∀x ∈ (gcdE a b).1,Bq M x:=by
 unfold gcdE
 split
 ·exact⟨by decide,fun x hx=>by cases hx⟩
 ·rename_i h
  have h1:=small_gcd hM ha hb (by cases hh:(bigF a || bigF b) with|true=>exact absurd hh h|false=>rfl);exact⟨Nat.le_trans (common_len a b 60 la lb) (by decide),h1.2⟩
end Go.Proofs.YtoefieefcndlkaaGreatDoor
set_option linter.unusedVariables false
set_option maxRecDepth 100000
set_option maxHeartbeats 64000000
namespace Go.Proofs.YtoefieefcndlkaaGreatDoor
open Go Go.RowKit
set_option linter.unusedSimpArgs false
theorem pmonic_n (M:Nat) (hM0:0<M) (hM:M+64≤274877906944) (vp:Value) (p:List Rat) (hlp:p.length≤100000) (w:World) (hp:PlR w vp p) (hbp:∀x ∈ p,Bq M x):Calls Tryz.prog 94 #[vp] w fun e w'=>∃v',e=.returned v'∧PlR w' v' (monicF p)∧Ext w w':=by
 have HP:=ZZ hp;have HLP:=ZZ hlp;have HBP:=ZZ hbp;have HM:=ZZ hM;have HM0:=ZZ hM0;have hun:undef=.tuple #[]:=rfl;clear hp hlp hbp hM hM0
 go_enter Tryz.func94,Tryz.ntmps94
 go_wp2_with fail;refine(trim_n _ p (by have:=HLP.out;omega) _ HP.out).mono ?_
 rintro e w3 ⟨v3,rfl,h3,k3⟩;obtain⟨A,cap,e3⟩:=h3.form;obtain⟨n,hn⟩:∃n,(trimF p).length=n:=⟨_,rfl⟩;rw [hn] at e3;subst e3;have HN:=ZZ hn;have H3:=ZZ h3;have K3:=ZZ k3;have HT:=ZZ (show n≤p.length by rw [←hn];exact trim_le p);clear h3 k3 hn
 rcases Nat.eq_zero_or_pos n with h0|h0
 ·subst h0
  go_wp2_with fail;go_ret
  have e0:trimF p=[]:=List.length_eq_zero_iff.1 HN.out;refine⟨_,rfl,?_,K3.out⟩;rw [show monicF p=[] from if_pos e0];exact PlR.nil _
 ·obtain⟨k,rfl⟩:∃k,n=k+1:=⟨n - 1,by omega⟩
  have z0:(((k+1:Nat):Int) == 0)=false:=by rw [beq_eq_false_iff_ne];omega
  have z1:((k:Int)+1 == 0)=false:=by rw [beq_eq_false_iff_ne];omega
  have HNE:=ZZ (show trimF p≠[] from fun e=>by have:=HN.out;rw [e] at this;simp at this);have HTOP:=ZZ (top_get HN.out);have HT0:=ZZ (top_trim_ne HNE.out);have BT:=ZZ (HBP.out _ (trim_mem (List.mem_of_getElem? HTOP.out)));have BONE:=ZZ (show Bq 64 (1:Rat) from bq_int 1 (by decide) (by decide))
  have q3:IntKind.i64.wrap ((k:Int)+1 - 1)=(k:Int):=by
   have h1:=HT.out;have h2:=HLP.out;rw [show (k:Int)+1 - 1=(k:Int) by omega];exact IntWalk.i64_in _ (by omega)
  have q3':IntKind.i64.wrap (k:Int)=(k:Int):=by
   have h1:=HT.out;have h2:=HLP.out;exact IntWalk.i64_in _ (by omega)
  have q4:(k:Int)<(k:Int)+1:=by omega
  have q5:(0:Int)≤(k:Int):=by omega
  obtain⟨b,o,q,rfl,hq,htri⟩:=H3.out.at_ (show k<k+1 by omega);rw [HTOP.out] at hq;obtain rfl:topF (trimF p)=q:=Option.some.inj hq;obtain⟨s1,A1,k1,ca1,B1,l1,cb1,c0,c1,c2,hn1⟩:=htri;have NT:=ZZ hn1;have HC:=ZZ (show ∀W,Ext w3 W→W.cell? ⟨b,o+k*3,none⟩=some (.int .i64 s1)∧W.cell? ⟨b,o+k*3+1,none⟩=some (.slice A1 k1 ca1)∧W.cell? ⟨b,o+k*3+2,none⟩=some (.slice B1 l1 cb1) from fun W k=>⟨am k c0,am k c1,am k c2⟩);clear h0 hq hn1 c0 c1 c2
  go_upto_region 4 with (fail)
  refine wp_region_noPanic ?_;refine wp_region_held_drew (S:=fun W=>W.cell? ⟨b,o+k*3,none⟩=some (.int .i64 s1)∧W.cell? ⟨b,o+k*3+1,none⟩=some (.slice A1 k1 ca1)∧W.cell? ⟨b,o+k*3+2,none⟩=some (.slice B1 l1 cb1)) (by kernel_rfl) (HC.out _ (ac _)) (fun hHeld=>?_);refine take_a 0 8 ?_;refine take_a 2 10 ?_;refine take_a 3 11 ?_;refine take_a 4 12 ?_;refine take_a 5 13 ?_;refine take_a 6 14 ?_;refine take_a 7 15 ?_;refine call_p (i:=1) (some 9) rfl rfl (by kernel_rfl) (fun K hK=>?_)
  go_simp
  go_at_call 98
  refine(int_n 1 (by decide) (by decide) _).mono ?_;rintro e w4 ⟨v4,rfl,h4,kk4⟩;obtain⟨s4,A4,k4,ca4,B4,l4,cb4,rfl,-⟩:=h4.form;have H4:=ZZ (show Nr w4 (.agg #[.int .i64 s4,.slice A4 k4 ca4,.slice B4 l4 cb4]) 1 from h4);have hx1:=ZZ (show Ext w3 w4 from ak (ac _) kk4);clear h4 kk4
  try go_wp2_with fail
  refine hK.out _ _ (HC.out _ hx1.out) (fun hHeld=>?_);clear hK K
  try simp only [Act.put,lyA,lyB,lyC]
  refine call_p (i:=8) (some 16) rfl rfl (by kernel_rfl) (fun K hK=>?_)
  go_simp
  go_at_call 90
  refine(over_f (M+64) (by have:=HM.out;omega) _ _ 1 (topF (trimF p)) _ H4.out (NT.out.mono hx1.out) (BONE.out.mono (by omega)) (BT.out.mono (by omega)) HT0.out).mono ?_;rintro e w5 ⟨v5,rfl,h5,kk5,-⟩;obtain⟨s5,A5,k5,ca5,B5,l5,cb5,rfl,-⟩:=h5.form;have H5:=ZZ h5;have hx2:=ZZ (ak hx1.out kk5);clear h5 kk5
  try go_wp2_with fail
  refine hK.out _ _ (HC.out _ hx2.out) (fun hHeld=>?_);clear hK K
  try simp only [Act.put,lyA,lyB,lyC]
  refine call_p (i:=9) (some 17) rfl rfl (by kernel_rfl) (fun K hK=>?_)
  go_simp
  go_at_call 141
  refine(pscale_n M HM0.out (by have:=HM.out;omega) _ _ (trimF p) (1 / topF (trimF p)) (by rw [HN.out];exact Nat.le_trans HT.out HLP.out) _ (H3.out.mono hx2.out) H5.out (fun x hx=>HBP.out x (trim_mem hx)) (bq_inv2 BT.out HT0.out)).mono ?_;rintro e w6 ⟨v6,rfl,h6,kk6⟩;have H6:=ZZ h6;have hx3:=ZZ (ak hx2.out kk6);clear h6 kk6
  try go_wp2_with fail
  refine hK.out _ _ (HC.out _ hx3.out) (fun hHeld=>?_);clear hK K
  try simp only [Act.put,lyA,lyB,lyC]
  refine take_a 10 2 ?_;refine wpAnyH_done (by kernel_rfl) ?_ _;refine NoPanic.normal ?_;go_wp2_with fail;go_ret;refine⟨_,rfl,?_,ak K3.out hx3.out⟩;rw [show monicF p=scaleF (trimF p) (1 / topF (trimF p)) from if_neg HNE.out];exact H6.out
theorem pdivisor_n (M:Nat) (hM0:0<M) (hM:3*M+64≤274877906944) (vp vq:Value) (p q:List Rat) (hlp:p.length≤100000) (hlq:q.length≤100000) (w:World) (hp:PlR w vp p) (hq:PlR w vq q) (hok:comOk M p q=true):Calls Tryz.prog 37 #[vp,vq] w fun e w'=>∃v,e=.returned v∧PlR w' v (commonF p q)∧Ext w w':=by
 unfold comOk at hok;rw [Bool.and_eq_true,Bool.and_eq_true] at hok;obtain⟨⟨hsp,hsq⟩,hcb⟩:=hok;obtain⟨D,hD⟩:∃D,commonF p q=D:=⟨_,rfl⟩;have HD:=ZZ hD;have HP:=ZZ hp;have HQ:=ZZ hq;have HLP:=ZZ hlp;have HLQ:=ZZ hlq;have HSP:=ZZ (sm_of hsp);have HSQ:=ZZ (sm_of hsq);have HCB:=ZZ hcb;have HM0:=ZZ hM0;have HM:=ZZ hM;clear hp hq hlp hlq hsp hsq hcb hM0 hM;rw [hD];clear hD
 go_enter Tryz.func37,Tryz.ntmps37
 go_wp2_with fail;refine(pmonic_n M HM0.out (by have:=HM.out;omega) _ p HLP.out _ HP.out HSP.out).mono ?_
 rintro e w1 ⟨v1,rfl,h1,k1⟩;have H1:=ZZ h1;have K1:=ZZ k1;clear h1 k1;go_wp2_with fail;refine(pmonic_n M HM0.out (by have:=HM.out;omega) _ q HLQ.out _ (HQ.out.mono K1.out) HSQ.out).mono ?_;rintro e w2 ⟨v2,rfl,h2,k2⟩;have H2:=ZZ h2;have H1':=ZZ (H1.out.mono k2);have K2:=ZZ (ak K1.out k2);clear h2 k2;go_wp2_with fail
 go_loopg [0,1] (q.length+1) (fun k a b wr=>∃(P Q:List Rat),Hid (trimF Q=Q)∧Hid (P.length≤100000)∧Hid (Q.length≤100000)∧Hid (comB M k P Q=true)∧Hid (comU k P Q=D)∧Hid (PlR wr a P)∧Hid (PlR wr b Q)∧Hid (Ext w wr))
 case atStart=>exact⟨monicF p,monicF q,ZZ (trim_monic q),ZZ (Nat.le_trans (monic_len p) HLP.out),ZZ (Nat.le_trans (monic_len q) HLQ.out),HCB,HD,H1',H2,K2⟩
 case round=>
  obtain⟨P,Q,HTQ,HPL,HQL,HB,HU,HPP,HPQ,HE⟩:=hrel;rename World=>WR;obtain⟨Aq,cq,eq_⟩:=HPQ.out.form;subst eq_;obtain⟨lq,hlq⟩:∃l,Q.length=l:=⟨_,rfl⟩;rw [hlq] at HPQ ⊢;have HLQ1:=ZZ hlq;clear hlq
  rcases Nat.eq_zero_or_pos lq with hz|hz
  ·subst hz
   have HQ0:=ZZ (List.length_eq_zero_iff.1 HLQ1.out)
   have HDP:=ZZ (show P=D from by
    rw [←HU.out]
    cases gk with
    | zero=>rfl
    | succ k=>exact(if_pos HQ0.out).symm)
   go_wp2_with fail;go_ret
   exact⟨_,rfl,by rw [←HDP.out];exact HPP.out,HE.out⟩
  ·have hne:Q≠[]:=fun e=>by have:=HLQ1.out;rw [e] at this;simp at this;omega
   have hie:Q.isEmpty=false:=by cases Q with|nil=>exact absurd rfl hne|cons a l=>rfl
   obtain⟨ko,rfl⟩:∃k,gk=k+1:=⟨gk - 1,by
    rcases Nat.eq_zero_or_pos gk with h|h
    ·subst h
     have h1:Q.isEmpty=true:=HB.out;rw [hie] at h1;cases h1
    ·omega⟩
   have hb2:(Q.isEmpty || (divOk M P Q && smB M (divF P Q).2 && comB M ko Q (monicF (divF P Q).2)))=true:=HB.out;rw [hie,Bool.false_or,Bool.and_eq_true,Bool.and_eq_true] at hb2;have HB2:=ZZ hb2
   have HU2:=ZZ (show comU ko Q (monicF (divF P Q).2)=D from by
    have h:(if Q=[] then P else comU ko Q (monicF (divF P Q).2))=D:=HU.out;rw [if_neg hne] at h;exact h)
   have HNE:=ZZ hne;have q1:decide ((0:Int)<(lq:Int))=true:=decide_eq_true (by omega);have q1':decide (0<lq)=true:=decide_eq_true hz;clear hne hie hb2 hz;go_wp2_with fail;refine(pdivided_n M HM0.out (by have:=HM.out;omega) _ _ P Q HPL.out HQL.out _ HPP.out HPQ.out (by rw [HTQ.out];exact HNE.out) HB2.out.1.1).mono ?_;rintro e w3 ⟨v3,v4,rfl,h3,h4,k3⟩;have H4:=ZZ h4;have K3:=ZZ k3;clear h3 h4 k3;go_wp2_with fail;refine(pmonic_n M HM0.out (by have:=HM.out;omega) _ (divF P Q).2 (by have h1:=(div_len P Q).2;have h2:=HPL.out;omega) _ H4.out (sm_of HB2.out.1.2)).mono ?_;rintro e w5 ⟨v5,rfl,h5,k5⟩;have H5:=ZZ h5;have K5:=ZZ (ak K3.out k5);clear h5 k5;go_wp2_with fail
   go_roundg ko
   case measure=>omega
   case rel=>exact⟨Q,monicF (divF P Q).2,ZZ (trim_monic _),HQL,ZZ (Nat.le_trans (monic_len _) (Nat.le_trans (div_len P Q).2 HPL.out)),ZZ HB2.out.2,HU2,ZZ (HPQ.out.mono K5.out),H5,ZZ (ak HE.out K5.out)⟩
theorem plong_n (vp:Value) (p:List Rat) (hlp:p.length≤100000) (w:World) (hp:PlR w vp p) (b:Bool) (hb:bigF p=b):Calls Tryz.prog 32 #[vp] w fun e w'=>e=.returned (.bool b)∧Ext w w':=by
 have HP:=ZZ hp;have HLP:=ZZ hlp;obtain⟨d,hd⟩:∃d:Int,((trimF p).length:Int) - 1=d:=⟨_,rfl⟩;have HD:=ZZ hd;have q1:decide ((40:Int)<d)=b:=by rw [←hb,←hd];unfold bigF;exact decide_eq_decide.2 (by omega)
 clear hp hlp hb hd
 go_enter Tryz.func32,Tryz.ntmps32
 go_wp2_with fail;refine(deg_n _ p (by have:=HLP.out;omega) _ HP.out d HD.out).mono ?_
 rintro e w3 ⟨rfl,k3⟩;have K3:=ZZ k3;clear k3;go_wp2_with fail;go_ret;exact⟨rfl,K3.out⟩
theorem pasked_n (vp:Value) (p:List Rat) (hlp:p.length≤100000) (w:World) (hp:PlR w vp p) (z:Int) (hz:askF p=z):Calls Tryz.prog 42 #[vp] w fun e w'=>e=.returned (.int .i64 z)∧Ext w w':=by
 have HP:=ZZ hp;have HLP:=ZZ hlp;obtain⟨d,hd⟩:∃d:Int,((trimF p).length:Int) - 1=d:=⟨_,rfl⟩;have HD:=ZZ hd;obtain⟨b,hb⟩:∃b,bigF p=b:=⟨_,rfl⟩;have HB:=ZZ hb;have HZ:=ZZ hz;clear hp hlp hb hd hz
 go_enter Tryz.func42,Tryz.ntmps42
 go_wp2_with fail;refine(plong_n _ p HLP.out _ HP.out b HB.out).mono ?_
 rintro e w3 ⟨rfl,k3⟩;have K3:=ZZ k3;clear k3
 cases b with
 | true=>
  have HZ3:=ZZ (show z=3 from by rw [←HZ.out];unfold askF;rw [HB.out];rfl);go_wp2_with fail;go_ret;exact⟨by rw [HZ3.out];rfl,K3.out⟩
 | false=>
  go_wp2_with fail;refine(deg_n _ p (by have:=HLP.out;omega) _ (HP.out.mono K3.out) d HD.out).mono ?_
  rintro e w4 ⟨rfl,k4⟩;have K4:=ZZ (ak K3.out k4);clear k4
  by_cases h0:trimF p=[]
  ·have q1:decide (d<(0:Int))=true:=decide_eq_true (by have:=HD.out;rw [h0] at this;simp at this;omega)
   have HZ8:=ZZ (show z=8 from by rw [←HZ.out];unfold askF;rw [HB.out,if_pos h0];rfl);go_wp2_with fail;go_ret;exact⟨by rw [HZ8.out];rfl,K4.out⟩
  ·have q1:decide (d<(0:Int))=false:=decide_eq_false (by have:=HD.out;have h1:=List.length_pos_iff.2 h0;omega)
   have HZ0:=ZZ (show z=0 from by rw [←HZ.out];unfold askF;rw [HB.out,if_neg h0];rfl);clear h0;go_wp2_with fail;go_ret;exact⟨by rw [HZ0.out];rfl,K4.out⟩
theorem pdiv_n (M:Nat) (hM0:0<M) (hM:3*M+64≤274877906944) (vp vq:Value) (p q:List Rat) (hlp:p.length≤100000) (hlq:q.length≤100000) (w:World) (hp:PlR w vp p) (hq:PlR w vq q) (hok:(bigF p || bigF q)=false→trimF q≠[]→divOk M p q=true) (D:List Rat × List Rat × Int) (hD:divE p q=D):Calls Tryz.prog 9 #[vp,vq] w fun e w'=>∃v1 v2,e=.returned (.tuple #[v1,v2,.int .i64 D.2.2])∧PlR w' v1 D.1∧PlR w' v2 D.2.1∧Ext w w':=by
 have HP:=ZZ hp;have HQ:=ZZ hq;have HLP:=ZZ hlp;have HLQ:=ZZ hlq;have HOK:=ZZ hok;have HM:=ZZ hM;have HM0:=ZZ hM0;have HD:=ZZ hD;obtain⟨b,hb⟩:∃b,bigF p=b:=⟨_,rfl⟩;obtain⟨c,hc⟩:∃b,bigF q=b:=⟨_,rfl⟩;have HB:=ZZ hb;have HC:=ZZ hc;have hun:undef=.tuple #[]:=rfl;clear hp hq hlp hlq hok hM hM0 hD hb hc
 go_enter Tryz.func9,Tryz.ntmps9
 go_wp2_with fail;refine(plong_n _ p HLP.out _ HP.out b HB.out).mono ?_
 rintro e w3 ⟨rfl,k3⟩;have K3:=ZZ k3;clear k3
 cases b with
 | true=>
  have HZ:=ZZ (show D=([],[],3) from by rw [←HD.out];unfold divE;rw [HB.out];rfl);go_wp2_with fail;refine bodyPost_ret (v:=.tuple #[.slice none 0 0,.slice none 0 0,.int .i64 3]) (by simp [results,Tryz.f9]) rfl ?_;rw [HZ.out];exact⟨_,_,rfl,PlR.nil _,PlR.nil _,K3.out⟩
 | false=>
  go_wp2_with fail;refine(plong_n _ q HLQ.out _ (HQ.out.mono K3.out) c HC.out).mono ?_
  rintro e w4 ⟨rfl,k4⟩;have K4:=ZZ (ak K3.out k4);clear k4
  cases c with
  | true=>
   have HZ:=ZZ (show D=([],[],3) from by rw [←HD.out];unfold divE;rw [HB.out,HC.out];rfl);go_wp2_with fail;refine bodyPost_ret (v:=.tuple #[.slice none 0 0,.slice none 0 0,.int .i64 3]) (by simp [results,Tryz.f9]) rfl ?_;rw [HZ.out];exact⟨_,_,rfl,PlR.nil _,PlR.nil _,K4.out⟩
  | false=>
   obtain⟨d,hd⟩:∃d:Int,((trimF q).length:Int) - 1=d:=⟨_,rfl⟩;have HDD:=ZZ hd;clear hd;go_wp2_with fail;refine(deg_n _ q (by have:=HLQ.out;omega) _ (HQ.out.mono K4.out) d HDD.out).mono ?_;rintro e w5 ⟨rfl,k5⟩;have K5:=ZZ (ak K4.out k5);clear k5
   by_cases h0:trimF q=[]
   ·have q1:decide (d<(0:Int))=true:=decide_eq_true (by have:=HDD.out;rw [h0] at this;simp at this;omega)
    have HZ:=ZZ (show D=([],[],8) from by rw [←HD.out];unfold divE;rw [HB.out,HC.out,if_pos h0];rfl);clear h0;go_wp2_with fail;refine bodyPost_ret (v:=.tuple #[.slice none 0 0,.slice none 0 0,.int .i64 8]) (by simp [results,Tryz.f9]) rfl ?_;rw [HZ.out];exact⟨_,_,rfl,PlR.nil _,PlR.nil _,K5.out⟩
   ·have q1:decide (d<(0:Int))=false:=decide_eq_false (by have:=HDD.out;have h1:=List.length_pos_iff.2 h0;omega)
    have HZ:=ZZ (show D=((divF p q).1,(divF p q).2,0) from by rw [←HD.out];unfold divE;rw [HB.out,HC.out,if_neg h0];rfl);have HNE:=ZZ h0;clear h0;go_wp2_with fail;refine(pdivided_n M HM0.out (by have:=HM.out;omega) _ _ p q HLP.out HLQ.out _ (HP.out.mono K5.out) (HQ.out.mono K5.out) HNE.out (HOK.out (by rw [HB.out,HC.out];rfl) HNE.out)).mono ?_;rintro e w6 ⟨v1,v2,rfl,h1,h2,k6⟩;have H1:=ZZ h1;have H2:=ZZ h2;have K6:=ZZ (ak K5.out k6);clear h1 h2 k6;go_wp2_with fail;refine bodyPost_ret (v:=.tuple #[v1,v2,.int .i64 0]) (by simp [results,Tryz.f9]) rfl ?_;rw [HZ.out];exact⟨_,_,rfl,H1.out,H2.out,K6.out⟩
theorem pgcd_n (M:Nat) (hM0:0<M) (hM:3*M+64≤274877906944) (vp vq:Value) (p q:List Rat) (hlp:p.length≤100000) (hlq:q.length≤100000) (w:World) (hp:PlR w vp p) (hq:PlR w vq q) (hok:(bigF p || bigF q)=false→comOk M p q=true) (D:List Rat × Int) (hD:gcdE p q=D):Calls Tryz.prog 12 #[vp,vq] w fun e w'=>∃v1,e=.returned (.tuple #[v1,.int .i64 D.2])∧PlR w' v1 D.1∧Ext w w':=by
 have HP:=ZZ hp;have HQ:=ZZ hq;have HLP:=ZZ hlp;have HLQ:=ZZ hlq;have HOK:=ZZ hok;have HM:=ZZ hM;have HM0:=ZZ hM0;have HD:=ZZ hD;obtain⟨b,hb⟩:∃b,bigF p=b:=⟨_,rfl⟩;obtain⟨c,hc⟩:∃b,bigF q=b:=⟨_,rfl⟩;have HB:=ZZ hb;have HC:=ZZ hc;have hun:undef=.tuple #[]:=rfl;clear hp hq hlp hlq hok hM hM0 hD hb hc
 go_enter Tryz.func12,Tryz.ntmps12
 go_wp2_with fail;refine(plong_n _ p HLP.out _ HP.out b HB.out).mono ?_
 rintro e w3 ⟨rfl,k3⟩;have K3:=ZZ k3;clear k3
 cases b with
 | true=>
  have HZ:=ZZ (show D=([],3) from by rw [←HD.out];unfold gcdE;rw [HB.out];rfl);go_wp2_with fail;refine bodyPost_ret (v:=.tuple #[.slice none 0 0,.int .i64 3]) (by simp [results,Tryz.f12]) rfl ?_;rw [HZ.out];exact⟨_,rfl,PlR.nil _,K3.out⟩
 | false=>
  go_wp2_with fail;refine(plong_n _ q HLQ.out _ (HQ.out.mono K3.out) c HC.out).mono ?_
  rintro e w4 ⟨rfl,k4⟩;have K4:=ZZ (ak K3.out k4);clear k4
  cases c with
  | true=>
   have HZ:=ZZ (show D=([],3) from by rw [←HD.out];unfold gcdE;rw [HB.out,HC.out];rfl);go_wp2_with fail;refine bodyPost_ret (v:=.tuple #[.slice none 0 0,.int .i64 3]) (by simp [results,Tryz.f12]) rfl ?_;rw [HZ.out];exact⟨_,rfl,PlR.nil _,K4.out⟩
  | false=>
   have HBC:=ZZ (show (bigF p || bigF q)=false from by rw [HB.out,HC.out];rfl);have HZ:=ZZ (show D=(commonF p q,0) from by rw [←HD.out];unfold gcdE;rw [HBC.out];rfl);go_wp2_with fail;refine(pdivisor_n M HM0.out HM.out _ _ p q HLP.out HLQ.out _ (HP.out.mono K4.out) (HQ.out.mono K4.out) (HOK.out HBC.out)).mono ?_;rintro e w6 ⟨v1,rfl,h1,k6⟩;have H1:=ZZ h1;have K6:=ZZ (ak K4.out k6);clear h1 k6;go_wp2_with fail;refine bodyPost_ret (v:=.tuple #[v1,.int .i64 0]) (by simp [results,Tryz.f12]) rfl ?_;rw [HZ.out];exact⟨_,rfl,H1.out,K6.out⟩
end Go.Proofs.YtoefieefcndlkaaGreatDoor
