/- Plain laws of numbers with sign, numerator and denominator. Sizes of numbers. Numbers in lowest terms. Numbers: the denominator; sums, products. -/
import Derived.Test.YtaaoleakkaloeaaGreatDoorGWj
import Derived.Deep.RegionHeld3
set_option linter.unusedVariables false
set_option maxRecDepth 100000
set_option maxHeartbeats 64000000
namespace Go.Proofs.YtaaoleakkaloeaaGreatDoor
open Go.RowKit
theorem sg_mul (a b:Bool) (n m:Nat):sg a n*sg b m=sg (a != b) (n*m):=by
 cases a <;> cases b <;> simp [sg,Int.neg_mul,Int.mul_neg]
theorem rat_mul (a b:Bool) (n m d e:Nat):rat a n d*rat b m e=rat (a != b) (n*m) (d*e):=by
 unfold rat;rw [Rat.mkRat_mul_mkRat,sg_mul]
theorem sg_mul_nat (a:Bool) (n m:Nat):sg a n*(m:Int)=sg a (n*m):=by
 cases a <;> simp [sg,Int.neg_mul]
theorem sg_add (a:Bool) (n m:Nat):sg a n+sg a m=sg a (n+m):=by
 cases a <;> simp [sg] <;> omega
theorem sg_sub (a:Bool) (n m:Nat) (h:m≤n):sg a n+sg (!a) m=sg a (n - m):=by
 cases a <;> simp [sg] <;> omega
theorem sg_sub' (a:Bool) (n m:Nat) (h:n≤m):sg a n+sg (!a) m=sg (!a) (m - n):=by
 cases a <;> simp [sg] <;> omega
theorem rat_add_same (a:Bool) (n m d e:Nat) (hd:d≠0) (he:e≠0):rat a n d+rat a m e=rat a (n*e+m*d) (d*e):=by
 unfold rat;rw [Rat.mkRat_add_mkRat _ _ hd he,sg_mul_nat,sg_mul_nat,sg_add]
theorem rat_add_more (a:Bool) (n m d e:Nat) (hd:d≠0) (he:e≠0) (h:m*d≤n*e):rat a n d+rat (!a) m e=rat a (n*e - m*d) (d*e):=by
 unfold rat;rw [Rat.mkRat_add_mkRat _ _ hd he,sg_mul_nat,sg_mul_nat,sg_sub a _ _ h]
theorem rat_add_less (a:Bool) (n m d e:Nat) (hd:d≠0) (he:e≠0) (h:n*e≤m*d):rat a n d+rat (!a) m e=rat (!a) (m*d - n*e) (d*e):=by
 unfold rat;rw [Rat.mkRat_add_mkRat _ _ hd he,sg_mul_nat,sg_mul_nat,sg_sub' a _ _ h]
theorem rat_scale (a:Bool) (n d k:Nat) (hk:k≠0):rat a (n*k) (d*k)=rat a n d:=by
 unfold rat;rw [←sg_mul_nat,Rat.mkRat_mul_right hk]
theorem mul_parts (x y:Rat):rat (decide (x.num<0) != decide (y.num<0)) (x.num.natAbs*y.num.natAbs) (x.den*y.den)=x*y:=by
 rw [←rat_mul,rat_self,rat_self]
theorem add_same (x y:Rat) (h:decide (x.num<0)=decide (y.num<0)):rat (decide (x.num<0)) (x.num.natAbs*y.den+y.num.natAbs*x.den) (x.den*y.den)=x+y:=by
 rw [←rat_add_same _ _ _ _ _ x.den_nz y.den_nz,rat_self,h,rat_self]
theorem add_more (x y:Rat) (h:decide (x.num<0)=!decide (y.num<0)) (hl:y.num.natAbs*x.den≤x.num.natAbs*y.den):rat (decide (x.num<0)) (x.num.natAbs*y.den - y.num.natAbs*x.den) (x.den*y.den)=x+y:=by
 rw [←rat_add_more _ _ _ _ _ x.den_nz y.den_nz hl,rat_self];rw [h,Bool.not_not,rat_self]
theorem add_less (x y:Rat) (h:decide (x.num<0)=!decide (y.num<0)) (hl:x.num.natAbs*y.den≤y.num.natAbs*x.den):rat (decide (y.num<0)) (y.num.natAbs*x.den - x.num.natAbs*y.den) (x.den*y.den)=x+y:=by
 have h':decide (y.num<0)=!decide (x.num<0):=by rw [h,Bool.not_not]
 rw [h',←rat_add_less _ _ _ _ _ x.den_nz y.den_nz hl,rat_self,←h',rat_self]
theorem rat_cancel (a b:Bool) (n d e m:Nat) (he:e≠0) (hm:m≠0):rat (a != b) (n*e) (d*m)*rat b m e=rat a n d:=by
 rw [rat_mul,Nat.mul_assoc,Nat.mul_assoc,Nat.mul_comm e m,Nat.mul_comm m e,rat_scale _ _ _ _ (Nat.mul_ne_zero (by omega) (by omega))]
 cases a <;> cases b <;> rfl
theorem div_parts (x y:Rat) (hy:y≠0):rat (decide (x.num<0) != decide (y.num<0)) (x.num.natAbs*y.den) (x.den*y.num.natAbs)=x / y:=by
 have h:=rat_cancel (decide (x.num<0)) (decide (y.num<0)) x.num.natAbs x.den y.den y.num.natAbs y.den_nz (by rw [Ne,Int.natAbs_eq_zero,Rat.num_eq_zero];exact hy);rw [rat_self,rat_self] at h;rw [←h,Rat.mul_div_cancel hy,h]
def cmpQ (x y:Rat):Int:=(x.num*y.den - y.num*x.den).sign
theorem cmpQ_neg (x y:Rat):cmpQ x y = -1↔x<y:=by
 unfold cmpQ;rw [Rat.lt_iff,Int.sign_eq_neg_one_iff_neg];omega
theorem cmpQ_pos (x y:Rat):cmpQ x y=1↔y<x:=by
 unfold cmpQ;rw [Rat.lt_iff,Int.sign_eq_one_iff_pos];omega
theorem cmpQ_sign (x y:Rat) (h:x.num.sign≠y.num.sign):cmpQ x y=max (-1) (min 1 (x.num.sign - y.num.sign)):=by
 have hx:(0:Int)<x.den:=by have:=x.den_pos;omega
 have hy:(0:Int)<y.den:=by have:=y.den_pos;omega
 have e1:(x.num*y.den).sign=x.num.sign:=by rw [Int.sign_mul,Int.sign_eq_one_of_pos hy,Int.mul_one]
 have e2:(y.num*x.den).sign=y.num.sign:=by rw [Int.sign_mul,Int.sign_eq_one_of_pos hx,Int.mul_one]
 unfold cmpQ;generalize x.num*y.den=a at *;generalize y.num*x.den=b at *;rw [←e1,←e2] at h ⊢
 rcases Int.lt_trichotomy a 0 with ha|ha|ha <;> rcases Int.lt_trichotomy b 0 with hb|hb|hb
 ·rw [Int.sign_eq_neg_one_of_neg ha,Int.sign_eq_neg_one_of_neg hb] at h;exact absurd rfl h
 ·rw [hb,Int.sign_eq_neg_one_of_neg ha,Int.sign_eq_neg_one_of_neg (by omega)];rfl
 ·rw [Int.sign_eq_neg_one_of_neg ha,Int.sign_eq_one_of_pos hb,Int.sign_eq_neg_one_of_neg (by omega)];rfl
 ·rw [ha,Int.sign_eq_neg_one_of_neg hb,Int.sign_eq_one_of_pos (by omega)];rfl
 ·rw [ha,hb] at h;exact absurd rfl h
 ·rw [ha,Int.sign_eq_one_of_pos hb,Int.sign_eq_neg_one_of_neg (by omega)];rfl
 ·rw [Int.sign_eq_one_of_pos ha,Int.sign_eq_neg_one_of_neg hb,Int.sign_eq_one_of_pos (by omega)];rfl
 ·rw [hb,Int.sign_eq_one_of_pos ha,Int.sign_eq_one_of_pos (by omega)];rfl
 ·rw [Int.sign_eq_one_of_pos ha,Int.sign_eq_one_of_pos hb] at h;exact absurd rfl h
theorem clamp_cmp (m n:Nat) (c:Int) (h1:c<0↔m<n) (h2:0<c↔n<m):max (-1) (min 1 c)=((m:Int) - n).sign:=by
 rcases Nat.lt_trichotomy m n with h|h|h
 ·rw [Int.sign_eq_neg_one_of_neg (by omega)];have:=h1.2 h;omega
 ·subst h;have a:¬ c<0:=fun e=>by have:=h1.1 e;omega
  have b:¬ 0<c:=fun e=>by have:=h2.1 e;omega
  rw [show ((m:Int) - m)=0 by omega];simp;omega
 ·rw [Int.sign_eq_one_of_pos (by omega)];have:=h2.2 h;omega
theorem cmpQ_same (x y:Rat) (c:Int) (h:x.num.sign=y.num.sign) (h1:c<0↔x.num.natAbs*y.den<y.num.natAbs*x.den) (h2:0<c↔y.num.natAbs*x.den<x.num.natAbs*y.den):cmpQ x y=x.num.sign*max (-1) (min 1 c):=by
 rw [clamp_cmp _ _ c h1 h2];unfold cmpQ
 rcases Int.lt_trichotomy x.num 0 with hx|hx|hx
 ·have sx:=Int.sign_eq_neg_one_of_neg hx
  have hy:y.num<0:=Int.sign_eq_neg_one_iff_neg.1 (h ▸ sx)
  rw [sx,show (x.num*y.den - y.num*x.den) = -(((x.num.natAbs*y.den:Nat):Int) - ((y.num.natAbs*x.den:Nat):Int)) by
   push_cast
   rw [show (x.num.natAbs:Int) = -x.num by omega,show (y.num.natAbs:Int) = -y.num by omega,Int.neg_mul,Int.neg_mul];omega,Int.sign_neg]
  omega
 ·have sx:x.num.sign=0:=by rw [hx];rfl
  have hy:y.num=0:=Int.sign_eq_zero_iff_zero.1 (h ▸ sx);rw [hx,hy];simp
 ·have sx:=Int.sign_eq_one_of_pos hx
  have hy:0<y.num:=Int.sign_eq_one_iff_pos.1 (h ▸ sx)
  rw [sx,show (x.num*y.den - y.num*x.den)=(((x.num.natAbs*y.den:Nat):Int) - ((y.num.natAbs*x.den:Nat):Int)) by
   push_cast
   rw [show (x.num.natAbs:Int)=x.num by omega,show (y.num.natAbs:Int)=y.num by omega]]
  omega
end Go.Proofs.YtaaoleakkaloeaaGreatDoor
set_option linter.unusedVariables false
set_option maxRecDepth 100000
set_option maxHeartbeats 64000000
namespace Go.Proofs.YtaaoleakkaloeaaGreatDoor
open Go.RowKit
theorem sm_of_lt {n B:Nat} (h:n<2 ^ B) (hB:B≤35184372088832):Sm n:=by
 unfold Sm dg
 have h1:n<B64 ^ (B / 64+1):=by
  have:B64=2 ^ 64:=rfl
  rw [this,←Nat.pow_mul];exact Nat.lt_of_lt_of_le h (Nat.pow_le_pow_right (by decide) (by omega))
 have h2:=dig_length_le B64_two h1;omega
theorem lt_mul {m n A B:Nat} (h:m<2 ^ A) (k:n<2 ^ B):m*n<2 ^ (A+B):=by
 rw [Nat.pow_add]
 rcases Nat.eq_zero_or_pos n with h0|h0
 ·subst h0
  rw [Nat.mul_zero];exact Nat.mul_pos (Nat.pow_pos (by decide)) (Nat.pow_pos (by decide))
 ·calc m*n<2 ^ A*n:=Nat.mul_lt_mul_of_pos_right h h0
   _≤2 ^ A*2 ^ B:=Nat.mul_le_mul_left _ (Nat.le_of_lt k)
theorem lt_add {m n A:Nat} (h:m<2 ^ A) (k:n<2 ^ A):m+n<2 ^ (A+1):=by
 rw [Nat.pow_succ];omega
theorem lt_mono {m A B:Nat} (h:m<2 ^ A) (k:A≤B):m<2 ^ B:=
 Nat.lt_of_lt_of_le h (Nat.pow_le_pow_right (by decide) k)
def Bq (B:Nat) (q:Rat):Prop:=q.num.natAbs<2 ^ B∧q.den<2 ^ B
theorem Bq.mono {A B:Nat} {q:Rat} (h:Bq A q) (k:A≤B):Bq B q:=⟨lt_mono h.1 k,lt_mono h.2 k⟩
theorem bq_rat {b:Bool} {n d B:Nat} (hn:n<2 ^ B) (hd:d<2 ^ B) (h0:d≠0):Bq B (rat b n d):=
 ⟨by rw [rat_natAbs _ _ _ h0];exact Nat.lt_of_le_of_lt (Nat.div_le_self _ _) hn,by rw [rat_den _ _ _ h0];exact Nat.lt_of_le_of_lt (Nat.div_le_self _ _) hd⟩
theorem bq_zero (B:Nat) (h:0<B):Bq B 0:=⟨by simp;exact Nat.pow_pos (by decide),by
 show 1<2 ^ B
 exact Nat.one_lt_two_pow (by omega)⟩
theorem Bq.neg {B:Nat} {q:Rat} (h:Bq B q):Bq B (-q):=⟨by rw [Rat.neg_num,Int.natAbs_neg];exact h.1,by rw [Rat.neg_den];exact h.2⟩
theorem Bq.mul {A B:Nat} {x y:Rat} (h:Bq A x) (k:Bq B y):Bq (A+B) (x*y):=by
 rw [←mul_parts x y];exact bq_rat (lt_mul h.1 k.1) (lt_mul h.2 k.2) (Nat.mul_ne_zero x.den_nz y.den_nz)
theorem Bq.add {A B:Nat} {x y:Rat} (h:Bq A x) (k:Bq B y):Bq (A+B+1) (x+y):=by
 have h1:=lt_mul h.1 k.2;have h2:=lt_mul k.1 h.2;rw [Nat.add_comm B A] at h2;have h3:=lt_mul h.2 k.2;have h4:x.den*y.den<2 ^ (A+B+1):=lt_mono h3 (by omega);have h0:=Nat.mul_ne_zero x.den_nz y.den_nz
 by_cases hs:decide (x.num<0)=decide (y.num<0)
 ·rw [←add_same x y hs]
  exact bq_rat (lt_add h1 h2) h4 h0
 ·have hs':decide (x.num<0)=!decide (y.num<0):=by
   revert hs;cases decide (x.num<0) <;> cases decide (y.num<0) <;> simp
  rcases Nat.le_total (y.num.natAbs*x.den) (x.num.natAbs*y.den) with hl|hl
  ·rw [←add_more x y hs' hl]
   exact bq_rat (Nat.lt_of_le_of_lt (Nat.sub_le _ _) (lt_mono h1 (by omega))) h4 h0
  ·rw [←add_less x y hs' hl]
   exact bq_rat (Nat.lt_of_le_of_lt (Nat.sub_le _ _) (lt_mono h2 (by omega))) h4 h0
theorem Bq.sub {A B:Nat} {x y:Rat} (h:Bq A x) (k:Bq B y):Bq (A+B+1) (x - y):=by
 rw [Rat.sub_eq_add_neg];exact h.add k.neg
theorem Bq.div {A B:Nat} {x y:Rat} (h:Bq A x) (k:Bq B y) (hy:y≠0):Bq (A+B) (x / y):=by
 rw [←div_parts x y hy];have hn:y.num.natAbs≠0:=by rw [Ne,Int.natAbs_eq_zero,Rat.num_eq_zero];exact hy
 exact bq_rat (lt_mul h.1 k.2) (lt_mul h.2 k.1) (Nat.mul_ne_zero x.den_nz hn)
theorem Bq.sm {M:Nat} {x:Rat} (h:Bq M x) (hM:M≤1099511627776):Sm x.num.natAbs∧Sm x.den:=
 ⟨sm_of_lt h.1 (by omega),sm_of_lt h.2 (by omega)⟩
theorem Bq.sm2 {M:Nat} {x y:Rat} (h:Bq M x) (k:Bq M y) (hM:M≤1099511627776):Sm (x.num.natAbs*y.num.natAbs)∧Sm (x.den*y.den)∧Sm (x.num.natAbs*y.den)∧Sm (y.num.natAbs*x.den)∧Sm (x.den*y.num.natAbs)∧Sm (x.num.natAbs*y.den+y.num.natAbs*x.den):=
 ⟨sm_of_lt (lt_mul h.1 k.1) (by omega),sm_of_lt (lt_mul h.2 k.2) (by omega),sm_of_lt (lt_mul h.1 k.2) (by omega),sm_of_lt (lt_mul k.1 h.2) (by omega),sm_of_lt (lt_mul h.2 k.1) (by omega),sm_of_lt (lt_add (lt_mul h.1 k.2) (lt_mul k.1 h.2)) (by omega)⟩
end Go.Proofs.YtaaoleakkaloeaaGreatDoor
set_option linter.unusedVariables false
set_option maxRecDepth 100000
set_option maxHeartbeats 64000000
namespace Go.Proofs.YtaaoleakkaloeaaGreatDoor
open Go.RowKit
theorem Wd.form {w:World} {v:Value} {n:Nat} (h:Wd w v n):∃A c,v=.slice A (dg n).length c:=by
 obtain⟨A,c,e,-⟩:=h;exact⟨A,c,e⟩
theorem Wd.form' {w:World} {v:Value} {n:Nat} (h:Wd w v n):∃A k c,v=.slice A k c:=by
 obtain⟨A,c,e,-⟩:=h;exact⟨A,_,c,e⟩
theorem row3 {w W:World} {x y z:Value} (h:Ext (w.alloc (.cells #[x,y,z] 36)) W):W.heap[w.heap.size]?=some (.cells #[x,y,z] 36 (0,0)):=
 (h.block _ (by simp)).trans (heap_alloc_new w _)
theorem aj {W:World} {g:Nat} {x y z:Value} {T:TypeId} (h:W.heap[g]?=some (.cells #[x,y,z] T (0,0))):W.cell? ⟨g,0,none⟩=some x∧W.cell? ⟨g,1,none⟩=some y∧W.cell? ⟨g,2,none⟩=some z∧W.frozen? ⟨g,0,none⟩=false∧W.frozen? ⟨g,1,none⟩=false∧W.frozen? ⟨g,2,none⟩=false:=by
 refine⟨?_,?_,?_,?_,?_,?_⟩ <;> simp [World.cell?,World.frozen?,h]
theorem nm_mk {W:World} {b:Bool} {vn vd:Value} {n d n' d':Nat} {q:Rat} (hq:q=rat b n d) (hn:0<n) (hd:0<d) (h1:n'=n / Nat.gcd n d) (h2:d'=d / Nat.gcd n d) (ha:Wd W vn n') (hb:Wd W vd (if d'=1 then 0 else d')):Nm W (.agg #[.bool b,vn,vd]) q:=by
 subst hq;have e1:=rat_natAbs b n d (by omega);have e2:=rat_den b n d (by omega);refine⟨vn,vd,by rw [rat_neg b n d (by omega) hn],by rw [e1,←h1];exact ha,?_⟩;unfold dn;rw [e2,←h2];exact hb
theorem Wd.put3 {W:World} {v:Value} {n g:Nat} {b0:Bool} {A0 B0:Option Addr} {k0 c0 k1 c1:Nat} {T:TypeId} (h:Wd W v n) (hg:W.heap[g]?=some (.cells #[.bool b0,.slice A0 k0 c0,.slice B0 k1 c1] T (0,0))) (a b c:Value):Wd (((W.setCell ⟨g,0,none⟩ a).setCell ⟨g,1,none⟩ b).setCell ⟨g,2,none⟩ c) v n:=by
 obtain⟨A,cc,e,hc,hcl⟩:=h;refine⟨A,cc,e,hc,?_⟩
 rcases Nat.eq_zero_or_pos (dg n).length with h0|h0
 ·left;rw [List.length_eq_zero_iff.1 h0];rfl
 ·obtain⟨bl,o,hA,hce⟩:=hcl.at_ (by simpa using h0)
  right
  refine⟨bl,o,hA,fun j hj=>?_⟩;have hj':j<(dg n).length:=by simpa using hj
  have h1:=hce j hj
  have hne:bl≠g:=by
   intro hb;subst hb;rw [getD_map_u64 _ _ hj'] at h1
   simp only [World.cell?,hg] at h1
   rcases Nat.lt_or_ge (o+j) 3 with h3|h3
   ·rcases(show o+j=0∨o+j=1∨o+j=2 by omega) with e|e|e <;> rw [e] at h1 <;> simp at h1
   ·rw [Array.getElem?_eq_none (by simpa using h3)] at h1
    simp at h1
  rw [←h1]
  apply World.cell?_of_block
  rw [Below.heap_setCell _ _ _ _ hne,Below.heap_setCell _ _ _ _ hne,Below.heap_setCell _ _ _ _ hne]
theorem am {w W:World} {g:Nat} (h:Ext w W) (hg:w.heap.size≤g) (a b c:Value):Ext w (((W.setCell ⟨g,0,none⟩ a).setCell ⟨g,1,none⟩ b).setCell ⟨g,2,none⟩ c):=
 ((h.setCell hg _).setCell hg _).setCell hg _
theorem reduced_c (b:Bool) (vn vd:Value) (n d:Nat) (w:World) (ha:Wd w vn n) (hb:Wd w vd d) (sa:Sm n) (sb:Sm d) (hd:0<d):Calls Tryz.prog 58 #[.bool b,vn,vd] w fun e w'=>∃v,e=.returned v∧Nm w' v (rat b n d)∧Ext w w':=by
 obtain⟨A,ca,rfl⟩:=ha.form;obtain⟨B,q,cb,rfl⟩:=hb.form';have Hb:=ZZ hb;have Sa:=ZZ sa;have Sb:=ZZ sb;have Hd:=ZZ hd;obtain⟨p,hp⟩:∃p,(dg n).length=p:=⟨_,rfl⟩
 have hz:n=0↔p=0:=by
  rw [←hp,List.length_eq_zero_iff];exact(dig_eq_nil B64_two).symm
 rw [hp] at ha ⊢;have Ha:=ZZ ha;clear hp ha hb sa sb hd
 rcases Nat.eq_zero_or_pos p with h|h
 ·have hn:n=0:=hz.2 h
  subst hn;subst h;clear hz
  go_enter Tryz.func58,Tryz.ntmps58
  go_wp2_with fail;refine bodyPost_ret (v:=.agg #[.bool false,.slice none 0 0,.slice none 0 0]) (by simp [results,Tryz.f58];go_simp) rfl ?_
  exact⟨_,rfl,by rw [rat_zero];exact Nm.zero _,ac _ _⟩
 ·have t1:((p:Int) == 0)=false:=by simp;omega
  have hn:0<n:=by
   rcases Nat.eq_zero_or_pos n with h'|h'
   ·have:=hz.1 h';omega
   ·exact h'
  have Hn:=ZZ hn;clear hz hn
  go_enter Tryz.func58,Tryz.ntmps58
  go_wp2_with fail
  rcases hn1:decide (n=1) with _|_
  ·refine(is1_c _ n false hn1 _ (Ha.out.mono (ac _ _))).mono ?_
   rintro e w1 ⟨rfl,rfl⟩;have Hn1:=ZZ (show ¬ n=1 by simpa using hn1);clear hn1;go_wp2_with fail
   rcases hd0:decide (d=1) with _|_
   ·refine(is1_c _ d false hd0 _ (Hb.out.mono (ac _ _))).mono ?_
    rintro e w1 ⟨rfl,rfl⟩;have Hd0:=ZZ (show ¬ d=1 by simpa using hd0);clear hd0;go_wp2_with fail;refine(divisor_c _ _ n d _ (Ha.out.mono (ac _ _)) (Hb.out.mono (ac _ _)) Sa.out Sb.out Hn.out).mono ?_;rintro e w2 ⟨vg,rfl,hvg,hx2⟩;have hgd:Nat.gcd n d≤n:=Nat.gcd_le_left _ Hn.out;have hgp:0<Nat.gcd n d:=Nat.gcd_pos_of_pos_left _ Hn.out;obtain⟨G,kg,cg,rfl⟩:=hvg.form';have Hvg:=ZZ hvg;have Hx2:=ZZ hx2;have Hgd:=ZZ hgd;have Hgp:=ZZ hgp;clear hvg hx2 hgd hgp;go_wp2_with fail
    rcases hg1:decide (Nat.gcd n d=1) with _|_
    ·refine(is1_c _ _ false hg1 _ Hvg.out).mono ?_
     rintro e w3 ⟨rfl,rfl⟩;clear hg1;go_wp2_with fail;refine(div_c _ _ n (Nat.gcd n d) _ ((Ha.out.mono (ac w (.cells #[.bool false,.slice none 0 0,.slice none 0 0] 36))).mono Hx2.out) Hvg.out Sa.out (sm_lt Hgd.out Sa.out) Hgp.out).mono ?_;rintro e w3 ⟨q1,r1,rfl,hq1,-,hx3⟩;obtain⟨Q1,k1,c1,rfl⟩:=hq1.form';have Hq1:=ZZ hq1;have Hx3:=ZZ hx3;clear hq1 hx3;go_wp2_with fail;refine(div_c _ _ d (Nat.gcd n d) _ (((Hb.out.mono (ac w (.cells #[.bool false,.slice none 0 0,.slice none 0 0] 36))).mono Hx2.out).mono Hx3.out) (Hvg.out.mono Hx3.out) Sb.out (sm_lt Hgd.out Sa.out) Hgp.out).mono ?_;rintro e w4 ⟨q2,r2,rfl,hq2,-,hx4⟩;obtain⟨Q2,k2,c2,rfl⟩:=hq2.form';have HB:=ZZ hq2;have HA:=ZZ (Hq1.out.mono hx4);have Hx:=ZZ (al Hx2.out (al Hx3.out hx4));clear hq2 hx4;go_wp2_with fail;have hrow:=row3 Hx.out;obtain⟨hc0,hc1,hc2,hf0,hf1,hf2⟩:=aj hrow;have Hrow:=ZZ hrow;have Hxw:=ZZ (al (ac w (.cells #[.bool false,.slice none 0 0,.slice none 0 0] 36)) Hx.out);clear hrow
     rcases hd1:decide (d / Nat.gcd n d=1) with _|_
     ·refine(is1_c _ (d / Nat.gcd n d) false hd1 _ HB.out).mono ?_
      rintro e w9 ⟨rfl,rfl⟩;have Hd1:=ZZ (show ¬(d / Nat.gcd n d)=1 by simpa using hd1);clear hd1;go_wp2_with fail;refine bodyPost_ret (v:=.agg #[.bool b,.slice Q1 k1 c1,.slice Q2 k2 c2]) (by simp [results,Tryz.f58];go_simp) rfl ?_;exact⟨_,rfl,nm_mk (n':=n / Nat.gcd n d) (d':=d / Nat.gcd n d) rfl Hn.out Hd.out rfl rfl (HA.out.put3 Hrow.out _ _ _) (by rw [if_neg Hd1.out];exact(HB.out.put3 Hrow.out _ _ _)),am Hxw.out (Nat.le_refl _) _ _ _⟩
     ·refine(is1_c _ (d / Nat.gcd n d) true hd1 _ HB.out).mono ?_
      rintro e w9 ⟨rfl,rfl⟩;have Hd1:=ZZ (show (d / Nat.gcd n d)=1 by simpa using hd1);clear hd1;go_wp2_with fail;refine bodyPost_ret (v:=.agg #[.bool b,.slice Q1 k1 c1,.slice none 0 0]) (by simp [results,Tryz.f58];go_simp) rfl ?_;exact⟨_,rfl,nm_mk (n':=n / Nat.gcd n d) (d':=d / Nat.gcd n d) rfl Hn.out Hd.out rfl rfl (HA.out.put3 Hrow.out _ _ _) (by rw [if_pos Hd1.out];exact Wd.zero _),am Hxw.out (Nat.le_refl _) _ _ _⟩
    ·have Hg1:=ZZ (show Nat.gcd n d=1 by simpa using hg1)
     refine(is1_c _ _ true hg1 _ Hvg.out).mono ?_;rintro e w3 ⟨rfl,rfl⟩;clear hg1;go_wp2_with fail;have Hx:=ZZ Hx2.out;have HA:=ZZ ((Ha.out.mono (ac w (.cells #[.bool false,.slice none 0 0,.slice none 0 0] 36))).mono Hx2.out);have HB:=ZZ ((Hb.out.mono (ac w (.cells #[.bool false,.slice none 0 0,.slice none 0 0] 36))).mono Hx2.out);have hrow:=row3 Hx.out;obtain⟨hc0,hc1,hc2,hf0,hf1,hf2⟩:=aj hrow;have Hrow:=ZZ hrow;have Hxw:=ZZ (al (ac w (.cells #[.bool false,.slice none 0 0,.slice none 0 0] 36)) Hx.out);clear hrow
     rcases hd1:decide (d=1) with _|_
     ·refine(is1_c _ (d) false hd1 _ HB.out).mono ?_
      rintro e w9 ⟨rfl,rfl⟩;have Hd1:=ZZ (show ¬(d)=1 by simpa using hd1);clear hd1;go_wp2_with fail;refine bodyPost_ret (v:=.agg #[.bool b,.slice A p ca,.slice B q cb]) (by simp [results,Tryz.f58];go_simp) rfl ?_;exact⟨_,rfl,nm_mk (n':=n) (d':=d) rfl Hn.out Hd.out (by rw [Hg1.out,Nat.div_one]) (by rw [Hg1.out,Nat.div_one]) (HA.out.put3 Hrow.out _ _ _) (by rw [if_neg Hd1.out];exact(HB.out.put3 Hrow.out _ _ _)),am Hxw.out (Nat.le_refl _) _ _ _⟩
     ·refine(is1_c _ (d) true hd1 _ HB.out).mono ?_
      rintro e w9 ⟨rfl,rfl⟩;have Hd1:=ZZ (show (d)=1 by simpa using hd1);clear hd1;go_wp2_with fail;refine bodyPost_ret (v:=.agg #[.bool b,.slice A p ca,.slice none 0 0]) (by simp [results,Tryz.f58];go_simp) rfl ?_;exact⟨_,rfl,nm_mk (n':=n) (d':=d) rfl Hn.out Hd.out (by rw [Hg1.out,Nat.div_one]) (by rw [Hg1.out,Nat.div_one]) (HA.out.put3 Hrow.out _ _ _) (by rw [if_pos Hd1.out];exact Wd.zero _),am Hxw.out (Nat.le_refl _) _ _ _⟩
   ·refine(is1_c _ d true hd0 _ (Hb.out.mono (ac _ _))).mono ?_
    rintro e w1 ⟨rfl,rfl⟩;have Hd0:=ZZ (show d=1 by simpa using hd0);clear hd0;go_wp2_with fail;have Hx:Hid (Ext _ _):=af (w.alloc (.cells #[.bool false,.slice none 0 0,.slice none 0 0] 36));have HA:Hid (Wd _ _ _):=Ha.out.mono (ac w (.cells #[.bool false,.slice none 0 0,.slice none 0 0] 36));have HB:Hid (Wd _ _ _):=Hb.out.mono (ac w (.cells #[.bool false,.slice none 0 0,.slice none 0 0] 36));have hrow:=row3 Hx.out;obtain⟨hc0,hc1,hc2,hf0,hf1,hf2⟩:=aj hrow;have Hrow:=ZZ hrow;have Hxw:=ZZ (al (ac w (.cells #[.bool false,.slice none 0 0,.slice none 0 0] 36)) Hx.out);clear hrow
    rcases hd1:decide (d=1) with _|_
    ·refine(is1_c _ (d) false hd1 _ HB.out).mono ?_
     rintro e w9 ⟨rfl,rfl⟩;have Hd1:=ZZ (show ¬(d)=1 by simpa using hd1);clear hd1;go_wp2_with fail;refine bodyPost_ret (v:=.agg #[.bool b,.slice A p ca,.slice B q cb]) (by simp [results,Tryz.f58];go_simp) rfl ?_;exact⟨_,rfl,nm_mk (n':=n) (d':=d) rfl Hn.out Hd.out (by rw [Hd0.out,Nat.gcd_one_right,Nat.div_one]) (by rw [Hd0.out,Nat.gcd_one_right,Nat.div_one]) (Ha.out.mono (ac _ _)) (by rw [if_neg Hd1.out];exact(Hb.out.mono (ac _ _))),ac _ _⟩
    ·refine(is1_c _ (d) true hd1 _ HB.out).mono ?_
     rintro e w9 ⟨rfl,rfl⟩;have Hd1:=ZZ (show (d)=1 by simpa using hd1);clear hd1;go_wp2_with fail;refine bodyPost_ret (v:=.agg #[.bool b,.slice A p ca,.slice none 0 0]) (by simp [results,Tryz.f58];go_simp) rfl ?_;exact⟨_,rfl,nm_mk (n':=n) (d':=d) rfl Hn.out Hd.out (by rw [Hd0.out,Nat.gcd_one_right,Nat.div_one]) (by rw [Hd0.out,Nat.gcd_one_right,Nat.div_one]) (Ha.out.mono (ac _ _)) (by rw [if_pos Hd1.out];exact Wd.zero _),ac _ _⟩
  ·refine(is1_c _ n true hn1 _ (Ha.out.mono (ac _ _))).mono ?_
   rintro e w1 ⟨rfl,rfl⟩;have Hn1:=ZZ (show n=1 by simpa using hn1);clear hn1;go_wp2_with fail;have Hx:Hid (Ext _ _):=af (w.alloc (.cells #[.bool false,.slice none 0 0,.slice none 0 0] 36));have HA:Hid (Wd _ _ _):=Ha.out.mono (ac w (.cells #[.bool false,.slice none 0 0,.slice none 0 0] 36));have HB:Hid (Wd _ _ _):=Hb.out.mono (ac w (.cells #[.bool false,.slice none 0 0,.slice none 0 0] 36));have hrow:=row3 Hx.out;obtain⟨hc0,hc1,hc2,hf0,hf1,hf2⟩:=aj hrow;have Hrow:=ZZ hrow;have Hxw:=ZZ (al (ac w (.cells #[.bool false,.slice none 0 0,.slice none 0 0] 36)) Hx.out);clear hrow
   rcases hd1:decide (d=1) with _|_
   ·refine(is1_c _ (d) false hd1 _ HB.out).mono ?_
    rintro e w9 ⟨rfl,rfl⟩;have Hd1:=ZZ (show ¬(d)=1 by simpa using hd1);clear hd1;go_wp2_with fail;refine bodyPost_ret (v:=.agg #[.bool b,.slice A p ca,.slice B q cb]) (by simp [results,Tryz.f58];go_simp) rfl ?_;exact⟨_,rfl,nm_mk (n':=n) (d':=d) rfl Hn.out Hd.out (by rw [Hn1.out,Nat.gcd_one_left]) (by rw [Hn1.out,Nat.gcd_one_left,Nat.div_one]) (Ha.out.mono (ac _ _)) (by rw [if_neg Hd1.out];exact(Hb.out.mono (ac _ _))),ac _ _⟩
   ·refine(is1_c _ (d) true hd1 _ HB.out).mono ?_
    rintro e w9 ⟨rfl,rfl⟩;have Hd1:=ZZ (show (d)=1 by simpa using hd1);clear hd1;go_wp2_with fail;refine bodyPost_ret (v:=.agg #[.bool b,.slice A p ca,.slice none 0 0]) (by simp [results,Tryz.f58];go_simp) rfl ?_;exact⟨_,rfl,nm_mk (n':=n) (d':=d) rfl Hn.out Hd.out (by rw [Hn1.out,Nat.gcd_one_left]) (by rw [Hn1.out,Nat.gcd_one_left,Nat.div_one]) (Ha.out.mono (ac _ _)) (by rw [if_pos Hd1.out];exact Wd.zero _),ac _ _⟩
end Go.Proofs.YtaaoleakkaloeaaGreatDoor
set_option linter.unusedVariables false
set_option maxRecDepth 100000
set_option maxHeartbeats 64000000
namespace Go.Proofs.YtaaoleakkaloeaaGreatDoor
open Go.RowKit
theorem dg_len_zero {n:Nat}:(dg n).length=0↔n=0:=by
 rw [List.length_eq_zero_iff];exact dig_eq_nil B64_two
theorem Nm.form {w:World} {v:Value} {q:Rat} (h:Nm w v q):∃A k c B l d,v=.agg #[.bool (decide (q.num<0)),.slice A k c,.slice B l d]∧Wd w (.slice A k c) q.num.natAbs∧Wd w (.slice B l d) (dn q)∧(k=0↔q=0)∧(l=0↔q.den=1):=by
 obtain⟨vn,vd,rfl,h1,h2⟩:=h;obtain⟨A,c,rfl⟩:=h1.form;obtain⟨B,d,rfl⟩:=h2.form;refine⟨A,_,c,B,_,d,rfl,h1,h2,?_,?_⟩
 ·rw [dg_len_zero,Int.natAbs_eq_zero];exact Rat.num_eq_zero
 ·rw [dg_len_zero]
  unfold dn
  have:=q.den_nz
  split <;> simp_all
theorem under_c (v:Value) (q:Rat) (w:World) (h:Nm w v q):Calls Tryz.prog 47 #[v] w fun e w'=>∃v',e=.returned v'∧Wd w' v' q.den∧Ext w w':=by
 obtain⟨A,k,c,B,l,d,rfl,h1,h2,-,hl⟩:=h.form;have H2:=ZZ h2;have Hl:=ZZ hl;clear h1 h2 hl h
 rcases Nat.eq_zero_or_pos l with h0|h0
 ·subst h0
  go_enter Tryz.func47,Tryz.ntmps47
  go_wp2_with fail;refine(one_c _).mono ?_
  rintro e w1 ⟨v1,rfl,hv,hx⟩;have Hv:=ZZ hv;have Hx:=ZZ hx;clear hv hx;go_wp2_with fail;go_ret;refine⟨_,rfl,?_,al (ac _ _) Hx.out⟩;rw [Hl.out.1 (by first|rfl|trivial)];exact Hv.out
 ·have t1:((l:Int) == 0)=false:=by simp;omega
  go_enter Tryz.func47,Tryz.ntmps47
  go_wp2_with fail;go_ret
  refine⟨_,rfl,?_,ac _ _⟩;have h3:¬ q.den=1:=fun h=>by have:=Hl.out.2 h;omega
  have h4:=H2.out.mono (ac w (.cells #[.bool (decide (q.num<0)),.slice A k c,.slice B l d] 36));unfold dn at h4;rw [if_neg h3] at h4;exact h4
end Go.Proofs.YtaaoleakkaloeaaGreatDoor
