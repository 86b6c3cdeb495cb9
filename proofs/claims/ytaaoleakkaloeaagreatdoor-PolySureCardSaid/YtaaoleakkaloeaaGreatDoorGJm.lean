/- Roots: all that it looks at is small, and it ends, for every polynomial that the laws admit. What Roots returns, for every polynomial that the laws admit. What the spans of roots tell: where no root is, the chain counts none; the spans lie in order, and finer ones within. -/
import Derived.Test.YtaaoleakkaloeaaGreatDoorGJi
import Derived.Test.YtaaoleakkaloeaaGreatDoorGJh
import Derived.Test.YtaaoleakkaloeaaGreatDoorGYw
set_option linter.unusedVariables false
set_option maxRecDepth 100000
set_option maxHeartbeats 64000000
namespace Go.Proofs.YtaaoleakkaloeaaGreatDoor
set_option linter.unusedSimpArgs false
def bdS (a L:Nat):Nat:=bdF a L+a
def bdO (a L:Nat):Nat:=(bdS a L+6+9)*(2*L+2)+L*((bdS a L+6+9)*(2*L+2)+1)
theorem simple_hf {a L:Nat} {p:List Rat} (hp:HF a p) (h0:0<dgF p) (hL:dgF p≤L) (h63:L≤63):HF (bdS a L) (simpleF p):=by
 have m0:0<dgF (monicF p):=by rw [dg_mon];exact h0
 have mL:dgF (monicF p)≤L:=by rw [dg_mon];exact hL
 have hb:=factor_dv hp.monic (mo_mon p) (base_mo (mo_mon p) m0).1 ⟨nextP (monicF p),fun x=>by rw [base_ev m0];grind⟩ m0 mL h63
 have hbt:Bq a (topF (trimF p)):=by
  refine hp.trim.bq _ ?_;have h1:0<(trimF p).length:=h0;unfold topF co;rw [List.getElem?_eq_getElem (by omega)];exact List.getElem_mem _
 exact(hb.scale hbt).eqv (ev_inj fun x=>by rw [simple_ev h0,ev_scaleF])
theorem own_ok {a L M:Nat} {p:List Rat} (hp:HF a p) (h0:0<dgF p) (hL:dgF p≤L) (h63:L≤63) (hM:bdO a L≤M):ownOk M p=true:=by
 have hs:=simple_hf hp h0 hL h63;obtain⟨s0,st,sd⟩:=simple_dg h0;have hs':HF (bdS a L+6) (derivF (simpleF p)):=hs.deriv (v:=6) (pow6 h63 (by omega));have hp':HF (a+6) (derivF p):=hp.deriv (v:=6) (pow6 h63 hL);have dd:=dg_deriv p;have ds:=dg_deriv (simpleF p);have ha:a≤bdS a L:=by unfold bdS;omega
 have k1:=(com_hf (a:=bdS a L+6) (w:=7) (N:=L) (H:=(bdS a L+6+9)*(2*L+2)) (M:=M) (hp.mono (by omega)) (hp'.mono (by omega)) hL (by omega) (by omega) (Nat.le_refl _) hM).1;have m0:0<dgF (monicF p):=by rw [dg_mon];exact h0
 have fq:=factor_dv hp.monic (mo_mon p) (nextP_mo p) ((nextP_dv p).1.trans (mon_dv p).2) m0 (by rw [dg_mon];exact hL) h63
 have hbig:bdS a L+6≤(bdS a L+6+9)*(2*L+2):=by
  have:(bdS a L+6+9)*1≤(bdS a L+6+9)*(2*L+2):=Nat.mul_le_mul_left _ (by omega)
  omega
 have hbM:(bdS a L+6+9)*(2*L+2)+L*(bdF a L+1)≤M:=by
  have h1:L*(bdF a L+1)≤L*((bdS a L+6+9)*(2*L+2)+1):=Nat.mul_le_mul_left _ (by unfold bdS at hbig ⊢;omega);unfold bdO at hM;omega
 have hFS:bdF a L≤bdS a L:=by unfold bdS;omega
 have k2:=(div_hf (N:=L) (M:=M) hp fq (nextP_pos h0) hL (by omega) (by omega)).1;have k3:=chain_hf (a:=bdS a L+6) (w:=7) (N:=L) (H:=(bdS a L+6+9)*(2*L+2)) (M:=M) (hs.mono (by omega)) hs' (by omega) (by omega) (by omega) (Nat.le_refl _) hM;have hHM:(bdS a L+6+9)*(2*L+2)≤M:=by unfold bdO at hM;omega
 have k4:cB M (ownF p)=true:=by
  refine List.all_eq_true.2 fun l hl=>?_;obtain⟨f1,f2,f3⟩:=k3.2 l hl;rw [f1.sm hHM,Bool.true_and]
  have:dgF l=l.length:=by unfold dgF;rw [f3]
  exact decide_eq_true (by omega)
 have k5:(!(trimF (commonF p (derivF p))).isEmpty)=true:=by
  have:=trim_ne (nextP_pos h0)
  cases h9:trimF (commonF p (derivF p)) with
  | nil=>exact absurd h9 this
  | cons x l=>rfl
 unfold ownOk simpleOk;rw [hp.sm (by omega),k1,k5,show divOk M p (commonF p (derivF p))=true from k2,hs.sm (by omega),k3.1,k4];rfl
theorem ab_of_bq {B:Nat} {x:Rat} (h:Bq B x):Ab (tw B) x:=by
 have h1:=den_num x;have h2:=int_ab h.1;have h3:(1:Rat)≤(x.den:Rat):=Rat.natCast_le_natCast.2 (Nat.pos_of_ne_zero x.den_nz);rw [←h1] at h2;have q1:=h2.1;have q2:=h2.2;have h7:=tw_nonneg B;generalize (x.den:Rat)=d at *
 constructor
 ·rcases lt_or_le' x 0 with g|g
  ·have:=Rat.mul_nonneg (show 0≤-x by grind) (show 0≤d - 1 by grind)
   grind
  ·grind
 ·rcases lt_or_le' x 0 with g|g
  ·grind
  ·have:=Rat.mul_nonneg g (show 0≤d - 1 by grind)
   grind
theorem pw_tw (n:Nat):pw2 n=tw n:=by unfold pw2 tw;rw [Rat.intCast_natCast]
theorem powF_nat (n:Nat):powF (n:Int)=tw n:=by
 unfold powF;rw [if_neg (by omega),Int.natAbs_natCast,pw_tw]
theorem start_ok (p:List Rat):∀(n k:Nat),¬ powF ((k+n:Nat):Int)<boundF p→startB p n k=true∧startU p n k≤k+n
 | 0,k,h=>⟨by
   show (!decide (powF k<boundF p))=true
   rw [decide_eq_false (show ¬ powF k<boundF p from h)];rfl,Nat.le_refl _⟩
 | n+1,k,h=>by
  show (if powF k<boundF p then startB p n (k+1) else true)=true∧(if powF k<boundF p then startU p n (k+1) else k)≤_
  by_cases hk:powF k<boundF p
  ·rw [if_pos hk,if_pos hk]
   have:=start_ok p n (k+1) (by rwa [show k+1+n=k+(n+1) by omega])
   exact⟨this.1,by omega⟩
  ·rw [if_neg hk,if_neg hk]
   exact⟨rfl,by omega⟩
def Gr (b j:Nat) (x:Rat):Prop:=Ab (tw b) x∧∃z:Int,x*tw j=(z:Rat)
theorem Gr.up {b j:Nat} {x:Rat} (h:Gr b j x):Gr b (j+1) x:=by
 obtain⟨h1,z,h2⟩:=h;refine⟨h1,z*2,?_⟩;rw [tw_succ,Rat.intCast_mul,←h2]
 show x*(tw j*2)=x*tw j*2
 grind
theorem Gr.mid {b j:Nat} {x y:Rat} (h:Gr b j x) (k:Gr b j y):Gr b (j+1) (midQ x y):=by
 obtain⟨h1,z,h2⟩:=h;obtain⟨k1,w,k2⟩:=k;have hm:=mid_two x y;refine⟨?_,z+w,?_⟩
 ·have q1:=h1.1
  have q2:=h1.2;have q3:=k1.1;have q4:=k1.2
  constructor <;> grind
 ·rw [tw_succ,Rat.intCast_add,←h2,←k2]
  have:midQ x y*(tw j*2)=midQ x y*2*tw j:=by grind
  rw [this,hm];grind
theorem Gr.bq {b j:Nat} {x:Rat} (h:Gr b j x):Bq (b+j+1) x:=by
 obtain⟨h1,z,h2⟩:=h
 have hz:Ab (tw (b+j)) (z:Rat):=by
  rw [←h2,tw_add];exact h1.mul ⟨by have:=tw_pos j;grind,Rat.le_refl⟩
 have q1:=hz.1;have q2:=hz.2
 have e1:z≤((2 ^ (b+j):Nat):Int):=by
  apply Rat.intCast_le_intCast.1
  rw [Rat.intCast_natCast];exact q2
 have e2:-((2 ^ (b+j):Nat):Int)≤z:=by
  apply Rat.intCast_le_intCast.1
  rw [Rat.intCast_neg,Rat.intCast_natCast];exact q1
 have hp:2 ^ (b+j)<2 ^ (b+j+1):=Nat.pow_lt_pow_right (by decide) (by omega);have hj:2 ^ j≤2 ^ (b+j):=Nat.pow_le_pow_right (by decide) (by omega);have hj0:0<2 ^ j:=Nat.pow_pos (by decide);refine bq_of_mul (D:=((2 ^ j:Nat):Int)) (n:=z) (by omega) (by rw [Rat.intCast_natCast];exact h2) (by rw [Int.natAbs_natCast];omega) (by omega)
theorem loop_ok {p:List Rat} {c:List (List Rat)} {width:Rat} {M b:Nat} (hc:∀n lo hi,lo≤hi→(((isoU p c width n lo hi).length:Nat):Int)≤betweenF c lo hi):∀(n j:Nat) (lo hi:Rat),isoB p c width n lo hi=true→Gr b j lo→Gr b j hi→b+j+n+1≤M→∃k,∀(f:Nat) (rest:List (Rat × Rat)) (o:Nat),rest.length+n≤1000000000→o+(isoU p c width n lo hi).length≤10000→rootsB M p c width f rest (o+(isoU p c width n lo hi).length)=true→rootsB M p c width (k+f) ((lo,hi) :: rest) o=true
 | 0,j,lo,hi,h,_,_,_=>by cases h
 | n+1,j,lo,hi,h,g1,g2,hM=>by
  have hsm:smB M [lo,hi,shQ (lo+hi) (-1)]=true:=of_sm fun x hx=>by
   rcases List.mem_cons.1 hx with rfl|hx
   ·exact g1.bq.mono (by omega)
   ·rcases List.mem_cons.1 hx with rfl|hx
    ·exact g2.bq.mono (by omega)
    ·rw [List.mem_singleton.1 hx]
     exact(g1.mid g2).bq.mono (by omega)
  unfold isoB at h
  by_cases hz:betweenF c lo hi=0
  ·refine⟨1,fun f rest o hr ho hf=>?_⟩
   rw [iso_succ,if_pos hz] at hf ho;rw [Nat.add_comm]
   show (smB M [lo,hi,shQ (lo+hi) (-1)] && decide (rest.length≤1000000000) && decide (o≤10000) && if betweenF c lo hi=0 then rootsB M p c width f rest o else _)=true
   rw [hsm,decide_eq_true (show rest.length≤1000000000 by omega),decide_eq_true (show o≤10000 by simp at ho;omega),if_pos hz]
   simpa using hf
  rw [decide_eq_false hz,Bool.false_or] at h
  by_cases hone:oneR p c width (lo,hi)=true
  ·refine⟨1,fun f rest o hr ho hf=>?_⟩
   rw [iso_succ,if_neg hz,if_pos hone] at hf ho;rw [Nat.add_comm]
   show (smB M [lo,hi,shQ (lo+hi) (-1)] && decide (rest.length≤1000000000) && decide (o≤10000) && if betweenF c lo hi=0 then _ else if oneR p c width (lo,hi) then rootsB M p c width f rest (o+1) else _)=true
   rw [hsm,decide_eq_true (show rest.length≤1000000000 by omega),decide_eq_true (show o≤10000 by simp at ho;omega),if_neg hz,if_pos hone]
   simpa using hf
  ·have h2:oneR p c width (lo,hi)=false:=by cases hh:oneR p c width (lo,hi) with|true=>exact absurd hh hone|false=>rfl
   rw [h2,Bool.false_or,Bool.and_eq_true] at h;obtain⟨k1,e1⟩:=loop_ok (M:=M) (b:=b) hc n (j+1) lo (midQ lo hi) h.1 g1.up (g1.mid g2) (by omega);obtain⟨k2,e2⟩:=loop_ok (M:=M) (b:=b) hc n (j+1) (midQ lo hi) hi h.2 (g1.mid g2) g2.up (by omega);refine⟨1+k1+k2,fun f rest o hr ho hf=>?_⟩;rw [iso_succ,if_neg hz,if_neg hone,List.length_append] at hf ho;rw [show 1+k1+k2+f=(k1+(k2+f))+1 by omega]
   show (smB M [lo,hi,shQ (lo+hi) (-1)] && decide (rest.length≤1000000000) && decide (o≤10000) && if betweenF c lo hi=0 then _ else if oneR p c width (lo,hi) then _ else rootsB M p c width (k1+(k2+f)) ((lo,midQ lo hi) :: (midQ lo hi,hi) :: rest) o)=true
   rw [hsm,decide_eq_true (show rest.length≤1000000000 by omega),decide_eq_true (show o≤10000 by omega),if_neg hz,if_neg hone]
   have:=e1 (k2+f) ((midQ lo hi,hi) :: rest) o (by rw [List.length_cons];omega) (by omega) (e2 f rest _ (by omega) (by omega) (by rw [Nat.add_assoc];exact hf))
   rw [this];rfl
end Go.Proofs.YtaaoleakkaloeaaGreatDoor
set_option linter.unusedVariables false
set_option maxRecDepth 100000
set_option maxHeartbeats 64000000
namespace Go.Proofs.YtaaoleakkaloeaaGreatDoor
set_option linter.unusedSimpArgs false
def sepS:Nat:=bdS (41*4001+1) 41
def sepD:Nat:=sepJ sepS 6 8100 41
theorem sepD_le:sepD≤100000000:=by decide +kernel
def deepF (p:List Rat):Nat:=sepD+1000+startU p 8100 0+1
def rootL (p:List Rat) (bits:Int):List (Rat × Rat):=isoU p (ownF p) (widthF bits) (deepF p+1) (-(powF (startU p 8100 0))) (powF (startU p 8100 0))
theorem bq_monic {p:List Rat} (h:∀x ∈ p,Bq 4001 x):∀x ∈ monicF p,Bq 8002 x:=by
 intro x hx;unfold monicF at hx
 split at hx
 ·cases hx
 ·rename_i h1
  have ht:=top_trim_ne h1;have h2:0<(trimF p).length:=List.length_pos_iff.2 h1
  have hbt:Bq 4001 (topF (trimF p)):=by
   refine h _ (trim_mem ?_);unfold topF co;rw [List.getElem?_eq_getElem (by omega)];exact List.getElem_mem _
  obtain⟨y,hy,rfl⟩:=List.mem_map.1 (trim_mem hx);exact((h y (trim_mem hy)).mul (bq_inv2 hbt ht)).mono (by decide)
theorem bound_le {p:List Rat} (h:∀x ∈ p,Bq 4001 x):¬ powF ((0+8100:Nat):Int)<boundF p:=by
 have h1:Bq 8067 (boundF p):=by
  unfold boundF;exact((bq_most (by decide) (bq_monic h) _).add (show Bq 64 (1:Rat) from bq_int 1 (by decide) (by decide))).mono (by decide)
 have h2:=(ab_of_bq h1).2;rw [powF_nat];have h3:=tw_mono (show 8067≤0+8100 by decide);intro h4;generalize tw 8067=u at *;generalize tw (0+8100)=v at *
 grind
theorem width_ge (bits:Int) {d:Rat} (hd:d*tw 1000≤1) (h0:0≤d):d≤widthF bits:=by
 obtain⟨m,hm,h1⟩:∃m:Nat,min (max bits 0) 1000=(m:Int)∧m≤1000:=⟨(min (max bits 0) 1000).toNat,by omega,by omega⟩;unfold widthF;rw [hm]
 have h2:d*tw m≤1:=by
  have:=mul_le' (Rat.le_refl (a:=d)) (tw_mono h1) h0 (tw_nonneg m)
  generalize tw 1000=u at *;generalize tw m=v at *
  grind
 rcases Nat.eq_zero_or_pos m with h3|h3
 ·subst h3
  have e:powF (-((0:Nat):Int))=1:=by decide +kernel
  have e2:tw 0=1:=rfl;rw [e2] at h2;rw [e];grind
 ·have e:powF (-(m:Int))=1 / tw m:=by
   unfold powF;rw [if_pos (by omega),Int.natAbs_neg,Int.natAbs_natCast,pw_tw]
  rw [e];have h4:=tw_pos m;have h5:=inv_ne (show tw m≠0 by generalize tw m=v at *;grind);generalize tw m=v at *;generalize 1 / v=w at *
  rcases lt_or_le' w d with g|g
  ·have:=Rat.mul_pos (show 0<d - w by grind) (show 0<v by grind)
   grind
  ·exact g
theorem start_big (p:List Rat):∀(n k:Nat),startB p n k=true→¬ powF ((startU p n k:Nat):Int)<boundF p
 | 0,k,h=>by
  have h1:(!decide (powF k<boundF p))=true:=h
  show ¬ powF (k:Int)<boundF p
  simpa using h1
 | n+1,k,h=>by
  have h1:(if powF k<boundF p then startB p n (k+1) else true)=true:=h
  show ¬ powF ((if powF k<boundF p then startU p n (k+1) else k:Nat):Int)<boundF p
  by_cases hk:powF k<boundF p
  ·rw [if_pos hk] at h1 ⊢
   exact start_big p n (k+1) h1
  ·rw [if_neg hk];exact hk
structure IsoAll (M:Nat) (p:List Rat) (bits:Int) (K:Nat):Prop where
 pos:0<dgF p
 own:ownOk M p=true
 st:startU p 8100 0=K
 sb:startB p 8100 0=true
 pk:powF (K:Int)=tw K
 big:boundF p≤tw K
 lo:Gr 8100 0 (-(tw K))
 hi:Gr 8100 0 (tw K)
 le:-(tw K)≤tw K
 iso:isoB p (ownF p) (widthF bits) (deepF p+1) (-(tw K)) (tw K)=true
 deep:deepF p≤900000000
theorem iso_all {M:Nat} (hM:1739600393≤M) {p:List Rat} (hb:∀x ∈ p,Bq 4001 x) (hz:askF p=0) (bits:Int):∃K,IsoAll M p bits K:=by
 obtain⟨z1,z2⟩:=ask_zero hz;have hL:=big_le z1;have h0:0<dgF p:=List.length_pos_iff.2 z2;have hp:HF (41*4001+1) p:=hf_list hb hL;have hown:=own_ok hp h0 hL (by decide) (Nat.le_trans (show bdO (41*4001+1) 41≤1739600393 by decide) hM);obtain⟨S,hS⟩:∃S,bdS (41*4001+1) 41=S:=⟨_,rfl⟩;have hsim:HF S (simpleF p):=hS ▸ simple_hf hp h0 hL (by decide);have hJ:sepD=sepJ S 6 8100 41:=by unfold sepD sepS;rw [hS]
 have hJl:=sepD_le;obtain⟨J,hJJ⟩:∃J,sepD=J:=⟨_,rfl⟩;rw [hJJ] at hJ hJl;obtain⟨s0,st,sd⟩:=simple_dg h0
 have hsl:(simpleF p).length≤41:=by
  have:dgF (simpleF p)=(simpleF p).length:=by unfold dgF;rw [st]
  omega
 obtain⟨sB,sU⟩:=start_ok p 8100 0 (bound_le hb);obtain⟨K,hK⟩:∃K,startU p 8100 0=K:=⟨_,rfl⟩;rw [hK] at sU;have hpk:powF (K:Int)=tw K:=powF_nat K
 have hbig:boundF p≤tw K:=by
  have:=start_big p 8100 0 sB
  rw [hK,hpk] at this;generalize tw K=u at *
  grind
 have hKb:tw K≤tw 8100:=tw_mono (by omega);have hK1:=tw_pos K
 have glo:Gr 8100 0 (-(tw K)):=⟨⟨by generalize tw K=u at *;generalize tw 8100=v at *;grind,by generalize tw K=u at *;generalize tw 8100=v at *;grind⟩,-((2 ^ K:Nat):Int),by
  rw [Rat.intCast_neg,Rat.intCast_natCast]
  show -(tw K)*1 = -(tw K)
  grind⟩
 have ghi:Gr 8100 0 (tw K):=⟨⟨by generalize tw K=u at *;generalize tw 8100=v at *;grind,hKb⟩,((2 ^ K:Nat):Int),by
  rw [Rat.intCast_natCast]
  show tw K*1=tw K
  grind⟩
 have hle:-(tw K)≤tw K:=by generalize tw K=u at *;grind
 obtain⟨d,d0,hd⟩:=tw_inv (J+1000)
 have hd1:d*tw (J)≤1:=by
  have:=mul_le' (Rat.le_refl (a:=d)) (tw_mono (Nat.le_add_right (J) 1000)) (by grind) (tw_nonneg _)
  rw [hd] at this;exact this
 have hd2:d*tw 1000≤1:=by
  have:=mul_le' (Rat.le_refl (a:=d)) (tw_mono (Nat.le_add_left 1000 (J))) (by grind) (tw_nonneg _)
  rw [hd] at this;exact this
 have hiso:isoB p (ownF p) (widthF bits) (deepF p+1) (-(tw K)) (tw K)=true:=by
  refine iso_ends h0 (d:=d) (B:=tw 8100) (by grind) (width_ge bits hd2 (by grind)) (fun lo hi a1 a2 a3 a4=>count_short h0 hsim hsl (by decide) (hJ ▸ hd1) (by grind) a1 a2 a3 a4) (deepF p) _ _ glo.1 ghi.1 hle ?_;unfold deepF;rw [hK,hJJ,show J+1000+K+1=(J+1000)+(K+1) by omega,tw_add];have e:d*(tw (J+1000)*tw (K+1))=d*tw (J+1000)*tw (K+1):=by grind
  rw [e,hd,tw_succ];generalize tw K=u at *
  grind
 have hdeep:deepF p≤900000000:=by
  unfold deepF;rw [hK,hJJ];omega
 exact⟨K,h0,hown,hK,sB,hpk,hbig,glo,ghi,hle,hiso,hdeep⟩
theorem roots_all {M:Nat} (hM:1739600393≤M) {p:List Rat} (hb:∀x ∈ p,Bq 4001 x) (hl:p.length≤60) (hz:askF p=0) (bits:Int):∃L,rootsOk M 8100 L p bits=true∧rootsE 8100 L p bits=(rootL p bits,0):=by
 obtain⟨K,h0,hown,hK,sB,hpk,hbig,glo,ghi,hle,hiso,hdeep⟩:=iso_all hM hb hz bits
 have hlen:(isoU p (ownF p) (widthF bits) (deepF p+1) (-(tw K)) (tw K)).length≤10000:=by
  have h1:=iso_len h0 (widthF bits) (deepF p+1) (-(tw K)) (tw K) hle
  have h2:betweenF (ownF p) (-(tw K)) (tw K)≤((ownF p).map (atF (-(tw K)))).length:=by
   have f1:=flips_bound 0 ((ownF p).map (atF (-(tw K))));have f2:=flips_bound 0 ((ownF p).map (atF (tw K)));have e:betweenF (ownF p) (-(tw K)) (tw K)=flipsU 0 ((ownF p).map (atF (-(tw K)))) - flipsU 0 ((ownF p).map (atF (tw K))):=rfl;omega
  rw [List.length_map] at h2;have h3:=own_len p;omega
 obtain⟨k1,e1⟩:=loop_ok (M:=M) (b:=8100) (fun n lo hi h=>iso_len h0 (widthF bits) n lo hi h) (deepF p+1) 0 (-(tw K)) (tw K) hiso glo ghi (by omega);obtain⟨k2,e2⟩:=loop_iso p (ownF p) (widthF bits) (deepF p+1) (-(tw K)) (tw K) hiso;refine⟨k1+k2+1,?_,?_⟩
 ·unfold rootsOk
  rw [hK,hpk,sB,hown,decide_eq_true (show 8100≤90000 by decide)]
  have b1:boundOk M p=true:=by
   unfold boundOk;rw [of_sm fun x hx=>(hb x hx).mono (show 4001≤M by omega),of_sm fun x hx=>(bq_monic hb x hx).mono (show 8002≤M by omega)];rfl
  have b2:(!(monicF p).isEmpty)=true:=by
   have:0<dgF (monicF p):=by rw [dg_mon];exact h0
   have:=ne_of_dg this
   cases h9:monicF p with
   | nil=>exact absurd h9 this
   | cons x l=>rfl
  have b3:=e1 (k2+1) [] 0 (by simp;omega) (by omega) (by
   cases k2 <;> rfl)
  rw [b1,b2,of_sm fun x hx=>(hb x hx).mono (show 4001≤M by omega),show k1+k2+1=k1+(k2+1) by omega,b3];rfl
 ·unfold rootsE rootsF rootL
  rw [if_pos hz,hK,hpk,show k1+k2+1=k2+(k1+1) by omega,e2]
  rfl
end Go.Proofs.YtaaoleakkaloeaaGreatDoor
set_option linter.unusedVariables false
set_option maxRecDepth 100000
set_option maxHeartbeats 64000000
namespace Go.Proofs.YtaaoleakkaloeaaGreatDoor
set_option linter.unusedSimpArgs false
theorem Pm.mul {s t:Rat} (h:Pm s) (k:Pm t):Pm (s*t):=by
 rcases h with rfl|rfl <;> rcases k with rfl|rfl
 ·exact .inl (by grind)
 ·exact .inr (by grind)
 ·exact .inr (by grind)
 ·exact .inl (by grind)
theorem max_left (a b:Rat):a≤ar a b:=by unfold ar;split <;> grind
theorem max_right (a b:Rat):b≤ar a b:=by unfold ar;split <;> grind
theorem ab_abs (q:Rat):Ab (absQ q) q∧0≤absQ q:=by
 unfold absQ Ab
 split
 ·rename_i h
  have:q<0:=by
   rcases lt_or_le' q 0 with g|g
   ·exact g
   ·have:=Rat.num_nonneg.2 g;omega
  exact⟨⟨by grind,by grind⟩,by grind⟩
 ·rename_i h
  have:0≤q:=Rat.num_nonneg.1 (by omega)
  exact⟨⟨by grind,by grind⟩,by grind⟩
theorem count_far {p:List Rat} (h0:0<dgF p) {x y ε:Rat} (h:x≤y) (he:0<ε) (hf:∀t,x≤t→t≤y→∃s,Pm s∧ε≤s*evR p t):betweenF (ownF p) x y=0:=by
 obtain⟨K1,k1,a1⟩:=ab_ex x;obtain⟨K2,k2,a2⟩:=ab_ex y;obtain⟨B,hB1,hB2⟩:=ab_max (K:=K1) (L:=K2);have b1:=a1.mono hB1;have b2:=a2.mono hB2;have hB:=b1.nonneg;have hin:∀t,x≤t→t≤y→Ab B t:=fun t h1 h2=>⟨Rat.le_trans b1.1 h1,Rat.le_trans h2 b2.2⟩;obtain⟨K,k0,hK⟩:=syn_ab hB (simpleF p);obtain⟨R,r0,hR⟩:=ev_ab hB (nextP p);have ev:∀t,evR p t=evR (nextP p) t*evR (simpleF p) t:=fun t=>quo_dv (nextP_pos h0) (nextP_dv p).1 t;have hR1:0<R+1:=by grind
 have hinv:=Rat.mul_inv_cancel (R+1) (by grind);obtain⟨e,e0,e1⟩:∃e,0<e∧e*(R+1)=ε:=⟨ε*(R+1)⁻¹,Rat.mul_pos he (Rat.inv_pos.2 hR1),by grind⟩
 have hbig:∀t,x≤t→t≤y→∃s,Pm s∧e≤s*evR (simpleF p) t:=by
  intro t h1 h2;obtain⟨s,hs,hp⟩:=hf t h1 h2;obtain⟨σ,hσ,hσp⟩:=pm_of (evR (simpleF p) t);refine⟨σ,hσ,?_⟩
  rcases lt_or_le' (σ*evR (simpleF p) t) e with g|g
  ·exfalso
   have hr:=(hR t (hin t h1 h2)).pm (hs.mul hσ)
   have e2:s*evR p t=(s*σ)*evR (nextP p) t*(σ*evR (simpleF p) t):=by
    rw [ev t]
    have:=hσ.sq
    grind
   have e3:(s*σ)*evR (nextP p) t*(σ*evR (simpleF p) t)≤R*(σ*evR (simpleF p) t):=by
    have:=Rat.mul_nonneg (show 0≤R - (s*σ)*evR (nextP p) t by have:=hr.2;grind) hσp
    grind
   have e4:R*(σ*evR (simpleF p) t)≤R*e:=by
    have:=Rat.mul_nonneg r0 (show 0≤e - σ*evR (simpleF p) t by grind)
    grind
   grind
  ·exact g
 obtain⟨d,d0,dK,-⟩:=small_ex e0 k0 (show (0:Rat)<1 by grind);obtain⟨n,hn⟩:=arch d0 (y - x);refine by_pieces d0 (fun a b=>betweenF (ownF p) a b=0) (fun t=>by rw [between_v];omega) (fun a b c _ _ h1 h2=>by rw [←between_add _ a b c,h1,h2];rfl) (lo:=x) (hi:=y) (fun a b h1 h2 h3 h4=>?_) n x y Rat.le_refl h Rat.le_refl hn;obtain⟨s,hs,hp⟩:=hbig a h1 (Rat.le_trans h2 h3);exact count_fix h0 h2 hs (fix_near hK dK (hin a h1 (Rat.le_trans h2 h3)) (hin b (Rat.le_trans h1 h2) h3) h2 h4 hs hp)
theorem cauchy (m x:Rat) (hm:0≤m) (hx:∃s,Pm s∧m+1≤s*x):∀l:List Rat,l≠[]→co l (l.length - 1)=1→(∀i,i+1<l.length→Ab m (co l i))→∃s,Pm s∧1≤s*evR l x
 | [],h,_,_=>absurd rfl h
 | [a],_,h,_=>⟨1,.inl rfl,by
   have:a=1:=h
   show (1:Rat)≤1*(0*x+a)
   grind⟩
 | a :: b :: t,_,h,hk=>by
  obtain⟨s,hs,he⟩:=cauchy m x hm hx (b :: t) (by simp) (by
   have e:(a :: b :: t).length - 1=((b :: t).length - 1)+1:=by simp
   rw [e] at h;exact h) (fun i hi=>hk (i+1) (by simp at hi ⊢;omega))
  obtain⟨σ,hσ,hx'⟩:=hx;refine⟨s*σ,hs.mul hσ,?_⟩;have ha:=(hk 0 (by simp)).pm (hs.mul hσ)
  have e:s*σ*evR (a :: b :: t) x=(σ*x)*(s*evR (b :: t) x)+s*σ*a:=by
   show s*σ*(evR (b :: t) x*x+a)=_
   grind
  rw [e];have h1:=Rat.mul_nonneg (show 0≤s*evR (b :: t) x - 1 by grind) (show 0≤σ*x by grind);have h2:-m≤s*σ*a:=ha.1;generalize s*evR (b :: t) x=u at *;generalize σ*x=v at *;generalize s*σ*a=w at *
  grind
theorem most_ge (l:List Rat):∀(n:Nat) (i:Nat),i<n→n≤l.length→Ab (mostF l n) (co l i)∧0≤mostF l n
 | 0,i,h,_=>by omega
 | n+1,i,h,hl=>by
  have hq:=List.getElem?_eq_getElem (show n<l.length by omega);have hc:co l n=l[n]:=by unfold co;rw [hq];rfl
  have h1:absQ l[n]≤mostF l (n+1)∧mostF l n≤mostF l (n+1):=by
   rw [most_succ l n _ hq];exact⟨max_right _ _,max_left _ _⟩
  have h2:Ab (absQ l[n]) l[n]∧0≤absQ l[n]:=ab_abs _
  rcases Nat.lt_or_ge i n with h3|h3
  ·obtain⟨a1,a2⟩:=most_ge l n i h3 (by omega)
   exact⟨a1.mono h1.2,Rat.le_trans a2 h1.2⟩
  ·obtain rfl:i=n:=by omega
   rw [hc];exact⟨h2.1.mono h1.1,Rat.le_trans h2.2 h1.1⟩
theorem most_pos (l:List Rat) (n:Nat) (h:n≤l.length):0≤mostF l n:=by
 rcases Nat.eq_zero_or_pos n with e|e
 ·subst e;exact Rat.le_refl
 ·exact(most_ge l n 0 e h).2
theorem bound_pos (p:List Rat):1≤boundF p:=by
 have:=most_pos (monicF p) ((monicF p).length - 1) (Nat.sub_le _ _)
 unfold boundF
 grind
theorem bound_far {p:List Rat} (h0:0<dgF p) {x:Rat} (hx:∃s,Pm s∧boundF p≤s*x):∃s,Pm s∧1≤s*evR (monicF p) x:=by
 have hm0:0<dgF (monicF p):=by rw [dg_mon];exact h0
 have hne:=ne_of_dg hm0;refine cauchy _ x (most_pos (monicF p) ((monicF p).length - 1) (Nat.sub_le _ _)) hx _ hne ?_ (fun i hi=>(most_ge _ _ i (by omega) (Nat.sub_le _ _)).1)
 rcases(mo_mon p).2 with h|h
 ·exact absurd h hne
 ·exact h
theorem bound_zero {p:List Rat} (h0:0<dgF p) {x y s:Rat} (hs:Pm s) (h:x≤y) (hx:boundF p≤s*x) (hy:boundF p≤s*y):betweenF (ownF p) x y=0:=by
 have ht:=top_trim_ne (trim_ne h0);obtain⟨σ,hσ,h1⟩:=pm_of (topF (trimF p))
 have h2:0<σ*topF (trimF p):=by
  rcases lt_or_le' 0 (σ*topF (trimF p)) with g|g
  ·exact g
  ·exfalso
   have:σ*topF (trimF p)=0:=by grind
   have h3:=hσ.sq
   apply ht
   have:σ*(σ*topF (trimF p))=0:=by rw [this];grind
   grind
 refine count_far h0 h h2 fun t t1 t2=>?_;have hb:boundF p≤s*t:=by rcases hs with rfl|rfl <;> grind
 obtain⟨u,hu,h3⟩:=bound_far h0 ⟨s,hs,hb⟩;refine⟨u*σ,hu.mul hσ,?_⟩;rw [mon_back h0 t]
 have:=Rat.mul_nonneg (show 0≤u*evR (monicF p) t - 1 by grind) h1
 grind
theorem bound_all {p:List Rat} (h0:0<dgF p) {B:Rat} (hB:boundF p≤B):betweenF (ownF p) (-B) B=betweenF (ownF p) (-(boundF p)) (boundF p):=by
 have hb:=bound_pos p;have e1:=between_add (ownF p) (-B) (-(boundF p)) B;have e2:=between_add (ownF p) (-(boundF p)) (boundF p) B;have z1:=bound_zero h0 (s:=-1) (.inr rfl) (x:=-B) (y:=-(boundF p)) (by grind) (by grind) (by grind);have z2:=bound_zero h0 (s:=1) (.inl rfl) (x:=boundF p) (y:=B) hB (by grind) (by grind);omega
theorem root_count {p:List Rat} (h0:0<dgF p) {x y:Rat} (h:x<y) (hr:evR p y=0):1≤betweenF (ownF p) x y:=by
 have hs:=(root_simple h0 y).1 hr
 rcases own_chain h0 with ⟨d1,c,e,k,hk,hc⟩|⟨-,p0,q,l,k,μ,e,hc,hk,hp0,hμ,hq⟩
 ·exfalso
  obtain⟨A,B,hAB⟩:=simple_cop h0;have z:evR (derivF (simpleF p)) y=0:=dgz (by have:=dg_deriv (simpleF p);omega) y
  have:=hAB y
  rw [hs,z] at this
  grind
 ·obtain⟨K1,k1,a1⟩:=ab_ex x
  obtain⟨K2,k2,a2⟩:=ab_ex y;obtain⟨B,hB1,hB2⟩:=ab_max (K:=K1) (L:=K2);have b1:=a1.mono hB1;have b2:=a2.mono hB2;obtain⟨d,d0,hd⟩:=piece b1.nonneg hc hμ hq
  obtain⟨z,z1,z2,z3⟩:∃z,x≤z∧z<y∧y - z≤d:=by
   rcases lt_or_le' (y - d) x with g|g
   ·exact⟨x,Rat.le_refl,h,by grind⟩
   ·exact⟨y - d,g,by grind,by grind⟩
  have hy0:evR p0 y=0:=by rw [hp0,hs];grind
  have h1:1≤betweenF (ownF p) z y:=by
   rw [e,between_v]
   rcases hd z y ⟨Rat.le_trans b1.1 z1,Rat.le_trans (Rat.le_of_lt z2) b2.2⟩ b2 (Rat.le_of_lt z2) z3 with ⟨s,hs',hf,-⟩|⟨s,hs',hu,N,hN⟩
   ·have:=hf y (Rat.le_of_lt z2) Rat.le_refl
    rw [hy0] at this
    grind
   ·rw [hN z Rat.le_refl (Rat.le_of_lt z2),hN y (Rat.le_of_lt z2) Rat.le_refl]
    have h2:=hu z y Rat.le_refl z2 Rat.le_refl;rw [hy0] at h2;have h3:atF z p0=si (-s):=at_si hs'.neg (by grind);have h4:atF y p0=0:=atF_zero.2 hy0;rw [h3,h4,(si_not hs').1];have c1:chg (-(si s)) (si s)=1:=by rcases(si_not hs').2 with g|g <;> rw [g] <;> rfl
    have c2:chg 0 (si s)=0:=by rcases(si_not hs').2 with g|g <;> rw [g] <;> rfl
    omega
  have h2:=count_pos h0 z1
  have:=between_add (ownF p) x z y
  omega
theorem mid_in {lo hi:Rat} (h:lo≤hi):lo≤midQ lo hi∧midQ lo hi≤hi:=by
 have:=mid_two lo hi
 constructor <;> grind
theorem iso_cnt {p:List Rat} (h0:0<dgF p) (width:Rat):∀(n:Nat) (lo hi:Rat),lo≤hi→isoB p (ownF p) width n lo hi=true→(((isoU p (ownF p) width n lo hi).length:Nat):Int)=betweenF (ownF p) lo hi
 | 0,lo,hi,_,h=>by cases h
 | n+1,lo,hi,h,hb=>by
  rw [iso_succ];unfold isoB at hb
  by_cases hz:betweenF (ownF p) lo hi=0
  ·rw [if_pos hz,hz];rfl
  rw [if_neg hz];rw [decide_eq_false hz,Bool.false_or] at hb
  by_cases hone:oneR p (ownF p) width (lo,hi)=true
  ·rw [if_pos hone]
   unfold oneR at hone
   simp only [Bool.and_eq_true,decide_eq_true_eq] at hone
   rw [hone.1.1];rfl
  ·rw [if_neg hone,List.length_append]
   rw [Bool.eq_false_iff.2 hone,Bool.false_or,Bool.and_eq_true] at hb;obtain⟨m1,m2⟩:=mid_in h;have e1:=iso_cnt h0 width n lo (midQ lo hi) m1 hb.1;have e2:=iso_cnt h0 width n (midQ lo hi) hi m2 hb.2
   have:=between_add (ownF p) lo (midQ lo hi) hi
   omega
theorem iso_in {p:List Rat} {c:List (List Rat)} {width:Rat}:∀(n:Nat) (lo hi:Rat),lo≤hi→∀a ∈ isoU p c width n lo hi,lo≤a.1∧a.1≤a.2∧a.2≤hi
 | 0,lo,hi,_,a,h=>by cases h
 | n+1,lo,hi,h,a,ha=>by
  rw [iso_succ] at ha
  split at ha
  ·cases ha
  ·split at ha
   ·rw [List.mem_singleton.1 ha]
    split
    ·exact⟨h,Rat.le_refl,Rat.le_refl⟩
    ·exact⟨Rat.le_refl,h,Rat.le_refl⟩
   ·obtain⟨m1,m2⟩:=mid_in h
    rcases List.mem_append.1 ha with g|g
    ·obtain⟨h1,h2,h3⟩:=iso_in n _ _ m1 a g
     exact⟨h1,h2,Rat.le_trans h3 m2⟩
    ·obtain⟨h1,h2,h3⟩:=iso_in n _ _ m2 a g
     exact⟨Rat.le_trans m1 h1,h2,h3⟩
theorem iso_sort {p:List Rat} {c:List (List Rat)} {width:Rat}:∀(n:Nat) (lo hi:Rat),lo≤hi→(isoU p c width n lo hi).Pairwise fun a b=>a.2≤b.1
 | 0,lo,hi,_=>List.Pairwise.nil
 | n+1,lo,hi,h=>by
  rw [iso_succ]
  split
  ·exact List.Pairwise.nil
  ·split
   ·exact List.pairwise_singleton _ _
   ·obtain⟨m1,m2⟩:=mid_in h
    exact List.pairwise_append.2 ⟨iso_sort n _ _ m1,iso_sort n _ _ m2,fun a ha b hb=>Rat.le_trans (iso_in n _ _ m1 a ha).2.2 (iso_in n _ _ m2 b hb).1⟩
theorem iso_one {p:List Rat} {c:List (List Rat)} {width:Rat}:∀(n:Nat) (lo hi:Rat),∀a ∈ isoU p c width n lo hi,(a.1=a.2∧evR p a.2=0)∨(betweenF c a.1 a.2=1∧evR p a.1≠0∧evR p a.2≠0)
 | 0,lo,hi,a,h=>by cases h
 | n+1,lo,hi,a,ha=>by
  rw [iso_succ] at ha
  split at ha
  ·cases ha
  ·split at ha
   ·rename_i hone
    unfold oneR at hone
    simp only [Bool.and_eq_true,decide_eq_true_eq,Bool.not_eq_true',decide_eq_false_iff_not] at hone
    rw [List.mem_singleton.1 ha]
    split
    ·rename_i h1
     exact .inl ⟨rfl,atF_zero.1 h1⟩
    ·rename_i h1
     exact .inr ⟨hone.1.1,fun e=>hone.2 (atF_zero.2 e),fun e=>h1 (atF_zero.2 e)⟩
   ·rcases List.mem_append.1 ha with g|g
    ·exact iso_one n _ _ a g
    ·exact iso_one n _ _ a g
theorem iso_end {p:List Rat} (h0:0<dgF p) {width:Rat}:∀(n:Nat) (lo hi:Rat),lo<hi→evR p hi=0→isoB p (ownF p) width n lo hi=true→(hi,hi) ∈ isoU p (ownF p) width n lo hi
 | 0,lo,hi,_,_,h=>by cases h
 | n+1,lo,hi,h,hr,hb=>by
  rw [iso_succ];unfold isoB at hb;have hz:¬ betweenF (ownF p) lo hi=0:=by have:=root_count h0 h hr;omega
  rw [if_neg hz];rw [decide_eq_false hz,Bool.false_or] at hb
  by_cases hone:oneR p (ownF p) width (lo,hi)=true
  ·rw [if_pos hone,if_pos (show (evR p hi).num.sign=0 from atF_zero.2 hr)];exact List.mem_singleton.2 rfl
  ·rw [if_neg hone]
   rw [Bool.eq_false_iff.2 hone,Bool.false_or,Bool.and_eq_true] at hb
   have:=mid_two lo hi
   exact List.mem_append.2 (.inr (iso_end h0 n _ _ (by grind) hr hb.2))
theorem one_wide {p:List Rat} {c:List (List Rat)} {w w':Rat} (h:w'≤w) {a:Rat × Rat} (h1:oneR p c w' a=true):oneR p c w a=true:=by
 unfold oneR at h1 ⊢
 simp only [Bool.and_eq_true,decide_eq_true_eq,Bool.not_eq_true',decide_eq_false_iff_not] at h1 ⊢
 exact⟨⟨h1.1.1,fun e=>h1.1.2 (by grind)⟩,h1.2⟩
theorem iso_wide {p:List Rat} {c:List (List Rat)} {w w':Rat} (hw:w'≤w):∀(n:Nat) (lo hi:Rat),isoB p c w' n lo hi=true→isoB p c w n lo hi=true
 | 0,lo,hi,h=>by cases h
 | n+1,lo,hi,h=>by
  unfold isoB at h ⊢;rw [Bool.or_eq_true,Bool.or_eq_true,Bool.and_eq_true] at h ⊢
  rcases h with (h|h)|h
  ·exact .inl (.inl h)
  ·exact .inl (.inr (one_wide hw h))
  ·exact .inr ⟨iso_wide hw n _ _ h.1,iso_wide hw n _ _ h.2⟩
theorem iso_cntw {p:List Rat} (h0:0<dgF p) {w w':Rat} (hw:w'≤w) (n:Nat) (lo hi:Rat) (h:lo≤hi) (hb:isoB p (ownF p) w' n lo hi=true):(((isoU p (ownF p) w n lo hi).length:Nat):Int)=betweenF (ownF p) lo hi:=iso_cnt h0 w n lo hi h (iso_wide hw n lo hi hb)
theorem iso_fine {p:List Rat} (h0:0<dgF p) {w w':Rat} (hw:w'≤w):∀(n:Nat) (lo hi:Rat),lo≤hi→isoB p (ownF p) w' n lo hi=true→∀(i:Nat) (a b:Rat × Rat),(isoU p (ownF p) w n lo hi)[i]?=some a→(isoU p (ownF p) w' n lo hi)[i]?=some b→a.1≤b.1∧b.2≤a.2
 | 0,lo,hi,_,h=>by cases h
 | n+1,lo,hi,h,hb=>by
  intro i a b ha hb';have hb0:=hb;have hcnt:=iso_cnt h0 w' (n+1) lo hi h hb;have hbm:=iso_in (n+1) lo hi h b (List.mem_of_getElem? hb');rw [iso_succ] at ha;unfold isoB at hb
  by_cases hz:betweenF (ownF p) lo hi=0
  ·rw [if_pos hz] at ha;cases ha
  rw [if_neg hz] at ha;rw [decide_eq_false hz,Bool.false_or] at hb
  by_cases hone:oneR p (ownF p) w (lo,hi)=true
  ·rw [if_pos hone] at ha
   have h1:betweenF (ownF p) lo hi=1:=by
    unfold oneR at hone
    simp only [Bool.and_eq_true,decide_eq_true_eq] at hone
    exact hone.1.1
   obtain rfl:i=0:=by
    cases i with
    | zero=>rfl
    | succ i=>simp at ha
   by_cases hr:(evR p hi).num.sign=0
   ·rw [if_pos hr] at ha
    obtain rfl:(hi,hi)=a:=Option.some.inj ha
    have hlt:lo<hi:=by
     rcases lt_or_le' lo hi with g|g
     ·exact g
     ·obtain rfl:lo=hi:=by grind
      rw [between_v] at h1;omega
    have hmem:=iso_end h0 (n+1) lo hi hlt (atF_zero.1 hr) hb0;generalize isoU p (ownF p) w' (n+1) lo hi=L at *;have hl:L.length=1:=by omega
    match L,hl with
    | [c],_=>
     obtain rfl:c=b:=Option.some.inj hb';rw [←List.mem_singleton.1 hmem];exact⟨Rat.le_refl,Rat.le_refl⟩
   ·rw [if_neg hr] at ha
    obtain rfl:(lo,hi)=a:=Option.some.inj ha;exact⟨hbm.1,hbm.2.2⟩
  ·rw [if_neg hone] at ha
   have hone':¬ oneR p (ownF p) w' (lo,hi)=true:=fun e=>hone (one_wide hw e);rw [Bool.eq_false_iff.2 hone',Bool.false_or,Bool.and_eq_true] at hb;rw [iso_succ,if_neg hz,if_neg hone'] at hb';obtain⟨m1,m2⟩:=mid_in h;have c1:=iso_cnt h0 w' n lo (midQ lo hi) m1 hb.1;have c2:=iso_cntw h0 hw n lo (midQ lo hi) m1 hb.1
   rcases Nat.lt_or_ge i (isoU p (ownF p) w n lo (midQ lo hi)).length with g|g
   ·rw [List.getElem?_append_left g] at ha
    rw [List.getElem?_append_left (by omega)] at hb';exact iso_fine h0 hw n _ _ m1 hb.1 i a b ha hb'
   ·rw [List.getElem?_append_right g] at ha
    rw [List.getElem?_append_right (by omega)] at hb';have e:(isoU p (ownF p) w' n lo (midQ lo hi)).length=(isoU p (ownF p) w n lo (midQ lo hi)).length:=by omega
    rw [e] at hb';exact iso_fine h0 hw n _ _ m2 hb.2 _ a b ha hb'
end Go.Proofs.YtaaoleakkaloeaaGreatDoor
