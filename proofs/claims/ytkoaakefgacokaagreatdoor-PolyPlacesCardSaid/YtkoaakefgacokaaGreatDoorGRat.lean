/- Plain laws of numbers with sign, numerator and denominator. -/
import Derived.Test.YtkoaakefgacokaaGreatDoorGWj
import Derived.Test.YtkoaakefgacokaaGreatDoorGRd
import Derived.Deep.RegionHeld3
set_option linter.unusedVariables false
set_option maxRecDepth 100000
set_option maxHeartbeats 64000000
namespace Go.Proofs.YtkoaakefgacokaaGreatDoor
open Go.RowKit
theorem sg_mul (a b:Bool) (n m:Nat):sg a n*sg b m=sg (a != b) (n*m):=by
 cases a <;> cases b <;> simp [sg,Int.neg_mul,Int.mul_neg]
theorem rat_mul (a b:Bool) (n m d e:Nat):rat a n d*rat b m e=rat (a != b) (n*m) (d*e):=by
 unfold rat;rw [Rat.mkRat_mul_mkRat,sg_mul]
theorem sg_mul_nat (a:Bool) (n m:Nat):sg a n*(m:Int)=sg a (n*m):=by
 cases a <;> simp [sg,Int.neg_mul]
theorem sg_add (a:Bool) (n m:Nat):sg a n+sg a m=sg a (n+m):=by
 cases a <;> simp [sg] <;> omega
theorem sg_sub (a:Bool) (n m:Nat) (h:m≤n):sg a n+sg (!a) m=sg a (n - m):=by
 cases a <;> simp [sg] <;> omega
theorem sg_sub' (a:Bool) (n m:Nat) (h:n≤m):sg a n+sg (!a) m=sg (!a) (m - n):=by
 cases a <;> simp [sg] <;> omega
theorem rat_add_same (a:Bool) (n m d e:Nat) (hd:d≠0) (he:e≠0):rat a n d+rat a m e=rat a (n*e+m*d) (d*e):=by
 unfold rat;rw [Rat.mkRat_add_mkRat _ _ hd he,sg_mul_nat,sg_mul_nat,sg_add]
theorem rat_add_more (a:Bool) (n m d e:Nat) (hd:d≠0) (he:e≠0) (h:m*d≤n*e):rat a n d+rat (!a) m e=rat a (n*e - m*d) (d*e):=by
 unfold rat;rw [Rat.mkRat_add_mkRat _ _ hd he,sg_mul_nat,sg_mul_nat,sg_sub a _ _ h]
theorem rat_add_less (a:Bool) (n m d e:Nat) (hd:d≠0) (he:e≠0) (h:n*e≤m*d):rat a n d+rat (!a) m e=rat (!a) (m*d - n*e) (d*e):=by
 unfold rat;rw [Rat.mkRat_add_mkRat _ _ hd he,sg_mul_nat,sg_mul_nat,sg_sub' a _ _ h]
theorem rat_scale (a:Bool) (n d k:Nat) (hk:k≠0):rat a (n*k) (d*k)=rat a n d:=by
 unfold rat;rw [←sg_mul_nat,Rat.mkRat_mul_right hk]
theorem mul_parts (x y:Rat):rat (decide (x.num<0) != decide (y.num<0)) (x.num.natAbs*y.num.natAbs) (x.den*y.den)=x*y:=by
 rw [←rat_mul,rat_self,rat_self]
theorem add_same (x y:Rat) (h:decide (x.num<0)=decide (y.num<0)):rat (decide (x.num<0)) (x.num.natAbs*y.den+y.num.natAbs*x.den) (x.den*y.den)=x+y:=by
 rw [←rat_add_same _ _ _ _ _ x.den_nz y.den_nz,rat_self,h,rat_self]
theorem add_more (x y:Rat) (h:decide (x.num<0)=!decide (y.num<0)) (hl:y.num.natAbs*x.den≤x.num.natAbs*y.den):rat (decide (x.num<0)) (x.num.natAbs*y.den - y.num.natAbs*x.den) (x.den*y.den)=x+y:=by
 rw [←rat_add_more _ _ _ _ _ x.den_nz y.den_nz hl,rat_self];rw [h,Bool.not_not,rat_self]
theorem add_less (x y:Rat) (h:decide (x.num<0)=!decide (y.num<0)) (hl:x.num.natAbs*y.den≤y.num.natAbs*x.den):rat (decide (y.num<0)) (y.num.natAbs*x.den - x.num.natAbs*y.den) (x.den*y.den)=x+y:=by
 have h':decide (y.num<0)=!decide (x.num<0):=by rw [h,Bool.not_not]
 rw [h',←rat_add_less _ _ _ _ _ x.den_nz y.den_nz hl,rat_self,←h',rat_self]
theorem rat_cancel (a b:Bool) (n d e m:Nat) (he:e≠0) (hm:m≠0):rat (a != b) (n*e) (d*m)*rat b m e=rat a n d:=by
 rw [rat_mul,Nat.mul_assoc,Nat.mul_assoc,Nat.mul_comm e m,Nat.mul_comm m e,rat_scale _ _ _ _ (Nat.mul_ne_zero (by omega) (by omega))]
 cases a <;> cases b <;> rfl
theorem div_parts (x y:Rat) (hy:y≠0):rat (decide (x.num<0) != decide (y.num<0)) (x.num.natAbs*y.den) (x.den*y.num.natAbs)=x / y:=by
 have h:=rat_cancel (decide (x.num<0)) (decide (y.num<0)) x.num.natAbs x.den y.den y.num.natAbs y.den_nz (by rw [Ne,Int.natAbs_eq_zero,Rat.num_eq_zero];exact hy);rw [rat_self,rat_self] at h;rw [←h,Rat.mul_div_cancel hy,h]
def cmpQ (x y:Rat):Int:=(x.num*y.den - y.num*x.den).sign
theorem cmpQ_neg (x y:Rat):cmpQ x y = -1↔x<y:=by
 unfold cmpQ;rw [Rat.lt_iff,Int.sign_eq_neg_one_iff_neg];omega
theorem cmpQ_pos (x y:Rat):cmpQ x y=1↔y<x:=by
 unfold cmpQ;rw [Rat.lt_iff,Int.sign_eq_one_iff_pos];omega
theorem cmpQ_zero (x y:Rat):cmpQ x y=0↔x=y:=by
 unfold cmpQ;rw [Rat.eq_iff_mul_eq_mul,Int.sign_eq_zero_iff_zero];omega
theorem rat_tri (x y:Rat):x<y∨x=y∨y<x:=by
 rcases @Rat.le_total x y with h|h
 ·rcases Rat.le_iff_lt_or_eq.1 h with h|h
  ·exact .inl h
  ·exact .inr (.inl h)
 ·rcases Rat.le_iff_lt_or_eq.1 h with h|h
  ·exact .inr (.inr h)
  ·exact .inr (.inl h.symm)
theorem cmpQ_sign (x y:Rat) (h:x.num.sign≠y.num.sign):cmpQ x y=max (-1) (min 1 (x.num.sign - y.num.sign)):=by
 have hx:(0:Int)<x.den:=by have:=x.den_pos;omega
 have hy:(0:Int)<y.den:=by have:=y.den_pos;omega
 have e1:(x.num*y.den).sign=x.num.sign:=by rw [Int.sign_mul,Int.sign_eq_one_of_pos hy,Int.mul_one]
 have e2:(y.num*x.den).sign=y.num.sign:=by rw [Int.sign_mul,Int.sign_eq_one_of_pos hx,Int.mul_one]
 unfold cmpQ;generalize x.num*y.den=a at *;generalize y.num*x.den=b at *;rw [←e1,←e2] at h ⊢
 rcases Int.lt_trichotomy a 0 with ha|ha|ha <;> rcases Int.lt_trichotomy b 0 with hb|hb|hb
 ·rw [Int.sign_eq_neg_one_of_neg ha,Int.sign_eq_neg_one_of_neg hb] at h;exact absurd rfl h
 ·rw [hb,Int.sign_eq_neg_one_of_neg ha,Int.sign_eq_neg_one_of_neg (by omega)];rfl
 ·rw [Int.sign_eq_neg_one_of_neg ha,Int.sign_eq_one_of_pos hb,Int.sign_eq_neg_one_of_neg (by omega)];rfl
 ·rw [ha,Int.sign_eq_neg_one_of_neg hb,Int.sign_eq_one_of_pos (by omega)];rfl
 ·rw [ha,hb] at h;exact absurd rfl h
 ·rw [ha,Int.sign_eq_one_of_pos hb,Int.sign_eq_neg_one_of_neg (by omega)];rfl
 ·rw [Int.sign_eq_one_of_pos ha,Int.sign_eq_neg_one_of_neg hb,Int.sign_eq_one_of_pos (by omega)];rfl
 ·rw [hb,Int.sign_eq_one_of_pos ha,Int.sign_eq_one_of_pos (by omega)];rfl
 ·rw [Int.sign_eq_one_of_pos ha,Int.sign_eq_one_of_pos hb] at h;exact absurd rfl h
theorem clamp_cmp (m n:Nat) (c:Int) (h1:c<0↔m<n) (h2:0<c↔n<m):max (-1) (min 1 c)=((m:Int) - n).sign:=by
 rcases Nat.lt_trichotomy m n with h|h|h
 ·rw [Int.sign_eq_neg_one_of_neg (by omega)];have:=h1.2 h;omega
 ·subst h;have a:¬ c<0:=fun e=>by have:=h1.1 e;omega
  have b:¬ 0<c:=fun e=>by have:=h2.1 e;omega
  rw [show ((m:Int) - m)=0 by omega];simp;omega
 ·rw [Int.sign_eq_one_of_pos (by omega)];have:=h2.2 h;omega
theorem cmpQ_same (x y:Rat) (c:Int) (h:x.num.sign=y.num.sign) (h1:c<0↔x.num.natAbs*y.den<y.num.natAbs*x.den) (h2:0<c↔y.num.natAbs*x.den<x.num.natAbs*y.den):cmpQ x y=x.num.sign*max (-1) (min 1 c):=by
 rw [clamp_cmp _ _ c h1 h2];unfold cmpQ
 rcases Int.lt_trichotomy x.num 0 with hx|hx|hx
 ·have sx:=Int.sign_eq_neg_one_of_neg hx
  have hy:y.num<0:=Int.sign_eq_neg_one_iff_neg.1 (h ▸ sx)
  rw [sx,show (x.num*y.den - y.num*x.den) = -(((x.num.natAbs*y.den:Nat):Int) - ((y.num.natAbs*x.den:Nat):Int)) by
   push_cast
   rw [show (x.num.natAbs:Int) = -x.num by omega,show (y.num.natAbs:Int) = -y.num by omega,Int.neg_mul,Int.neg_mul];omega,Int.sign_neg]
  omega
 ·have sx:x.num.sign=0:=by rw [hx];rfl
  have hy:y.num=0:=Int.sign_eq_zero_iff_zero.1 (h ▸ sx);rw [hx,hy];simp
 ·have sx:=Int.sign_eq_one_of_pos hx
  have hy:0<y.num:=Int.sign_eq_one_iff_pos.1 (h ▸ sx)
  rw [sx,show (x.num*y.den - y.num*x.den)=(((x.num.natAbs*y.den:Nat):Int) - ((y.num.natAbs*x.den:Nat):Int)) by
   push_cast
   rw [show (x.num.natAbs:Int)=x.num by omega,show (y.num.natAbs:Int)=y.num by omega]]
  omega
theorem dg_len_zero {n:Nat}:(dg n).length=0↔n=0:=by
 rw [List.length_eq_zero_iff];exact dig_eq_nil B64_two
theorem Nm.form {w:World} {v:Value} {q:Rat} (h:Nm w v q):∃A k c B l d,v=.agg #[.bool (decide (q.num<0)),.slice A k c,.slice B l d]∧Wd w (.slice A k c) q.num.natAbs∧Wd w (.slice B l d) (dn q)∧(k=0↔q=0)∧(l=0↔q.den=1):=by
 obtain⟨vn,vd,rfl,h1,h2⟩:=h;obtain⟨A,c,rfl⟩:=h1.form;obtain⟨B,d,rfl⟩:=h2.form;refine⟨A,_,c,B,_,d,rfl,h1,h2,?_,?_⟩
 ·rw [dg_len_zero,Int.natAbs_eq_zero];exact Rat.num_eq_zero
 ·rw [dg_len_zero]
  unfold dn
  have:=q.den_nz
  split <;> simp_all
theorem under_c (v:Value) (q:Rat) (w:World) (h:Nm w v q):Calls Tryz.prog 63 #[v] w fun e w'=>∃v',e=.returned v'∧Wd w' v' q.den∧Ext w w':=by
 obtain⟨A,k,c,B,l,d,rfl,h1,h2,-,hl⟩:=h.form;have H2:=ZZ h2;have Hl:=ZZ hl;clear h1 h2 hl h
 rcases Nat.eq_zero_or_pos l with h0|h0
 ·subst h0
  go_enter Tryz.func63,Tryz.ntmps63
  go_wp2_with fail;refine(one_c _).mono ?_
  rintro e w1 ⟨v1,rfl,hv,hx⟩;have Hv:=ZZ hv;have Hx:=ZZ hx;clear hv hx;go_wp2_with fail;go_ret;refine⟨_,rfl,?_,al (ab _ _) Hx.out⟩;rw [Hl.out.1 (by first|rfl|trivial)];exact Hv.out
 ·have t1:((l:Int) == 0)=false:=by simp;omega
  go_enter Tryz.func63,Tryz.ntmps63
  go_wp2_with fail;go_ret
  refine⟨_,rfl,?_,ab _ _⟩;have h3:¬ q.den=1:=fun h=>by have:=Hl.out.2 h;omega
  have h4:=H2.out.mono (ab w (.cells #[.bool (decide (q.num<0)),.slice A k c,.slice B l d] 38));unfold dn at h4;rw [if_neg h3] at h4;exact h4
theorem sm_of_lt {n B:Nat} (h:n<2 ^ B) (hB:B≤35184372088832):Sm n:=by
 unfold Sm dg
 have h1:n<B64 ^ (B / 64+1):=by
  have:B64=2 ^ 64:=rfl
  rw [this,←Nat.pow_mul];exact Nat.lt_of_lt_of_le h (Nat.pow_le_pow_right (by decide) (by omega))
 have h2:=dig_length_le B64_two h1;omega
theorem lt_mul {m n A B:Nat} (h:m<2 ^ A) (k:n<2 ^ B):m*n<2 ^ (A+B):=by
 rw [Nat.pow_add]
 rcases Nat.eq_zero_or_pos n with h0|h0
 ·subst h0
  rw [Nat.mul_zero];exact Nat.mul_pos (Nat.pow_pos (by decide)) (Nat.pow_pos (by decide))
 ·calc m*n<2 ^ A*n:=Nat.mul_lt_mul_of_pos_right h h0
   _≤2 ^ A*2 ^ B:=Nat.mul_le_mul_left _ (Nat.le_of_lt k)
theorem lt_add {m n A:Nat} (h:m<2 ^ A) (k:n<2 ^ A):m+n<2 ^ (A+1):=by
 rw [Nat.pow_succ];omega
theorem lt_mono {m A B:Nat} (h:m<2 ^ A) (k:A≤B):m<2 ^ B:=
 Nat.lt_of_lt_of_le h (Nat.pow_le_pow_right (by decide) k)
def Bq (B:Nat) (q:Rat):Prop:=q.num.natAbs<2 ^ B∧q.den<2 ^ B
theorem Bq.mono {A B:Nat} {q:Rat} (h:Bq A q) (k:A≤B):Bq B q:=⟨lt_mono h.1 k,lt_mono h.2 k⟩
theorem bq_rat {b:Bool} {n d B:Nat} (hn:n<2 ^ B) (hd:d<2 ^ B) (h0:d≠0):Bq B (rat b n d):=
 ⟨by rw [rat_natAbs _ _ _ h0];exact Nat.lt_of_le_of_lt (Nat.div_le_self _ _) hn,by rw [rat_den _ _ _ h0];exact Nat.lt_of_le_of_lt (Nat.div_le_self _ _) hd⟩
theorem bq_zero (B:Nat) (h:0<B):Bq B 0:=⟨by simp;exact Nat.pow_pos (by decide),by
 show 1<2 ^ B
 exact Nat.one_lt_two_pow (by omega)⟩
theorem Bq.neg {B:Nat} {q:Rat} (h:Bq B q):Bq B (-q):=⟨by rw [Rat.neg_num,Int.natAbs_neg];exact h.1,by rw [Rat.neg_den];exact h.2⟩
theorem Bq.mul {A B:Nat} {x y:Rat} (h:Bq A x) (k:Bq B y):Bq (A+B) (x*y):=by
 rw [←mul_parts x y];exact bq_rat (lt_mul h.1 k.1) (lt_mul h.2 k.2) (Nat.mul_ne_zero x.den_nz y.den_nz)
theorem Bq.add {A B:Nat} {x y:Rat} (h:Bq A x) (k:Bq B y):Bq (A+B+1) (x+y):=by
 have h1:=lt_mul h.1 k.2;have h2:=lt_mul k.1 h.2;rw [Nat.add_comm B A] at h2;have h3:=lt_mul h.2 k.2;have h4:x.den*y.den<2 ^ (A+B+1):=lt_mono h3 (by omega);have h0:=Nat.mul_ne_zero x.den_nz y.den_nz
 by_cases hs:decide (x.num<0)=decide (y.num<0)
 ·rw [←add_same x y hs]
  exact bq_rat (lt_add h1 h2) h4 h0
 ·have hs':decide (x.num<0)=!decide (y.num<0):=by
   revert hs;cases decide (x.num<0) <;> cases decide (y.num<0) <;> simp
  rcases Nat.le_total (y.num.natAbs*x.den) (x.num.natAbs*y.den) with hl|hl
  ·rw [←add_more x y hs' hl]
   exact bq_rat (Nat.lt_of_le_of_lt (Nat.sub_le _ _) (lt_mono h1 (by omega))) h4 h0
  ·rw [←add_less x y hs' hl]
   exact bq_rat (Nat.lt_of_le_of_lt (Nat.sub_le _ _) (lt_mono h2 (by omega))) h4 h0
theorem Bq.sub {A B:Nat} {x y:Rat} (h:Bq A x) (k:Bq B y):Bq (A+B+1) (x - y):=by
 rw [Rat.sub_eq_add_neg];exact h.add k.neg
theorem Bq.div {A B:Nat} {x y:Rat} (h:Bq A x) (k:Bq B y) (hy:y≠0):Bq (A+B) (x / y):=by
 rw [←div_parts x y hy];have hn:y.num.natAbs≠0:=by rw [Ne,Int.natAbs_eq_zero,Rat.num_eq_zero];exact hy
 exact bq_rat (lt_mul h.1 k.2) (lt_mul h.2 k.1) (Nat.mul_ne_zero x.den_nz hn)
theorem Bq.sm {M:Nat} {x:Rat} (h:Bq M x) (hM:M≤1099511627776):Sm x.num.natAbs∧Sm x.den:=
 ⟨sm_of_lt h.1 (by omega),sm_of_lt h.2 (by omega)⟩
theorem Bq.sm2 {M:Nat} {x y:Rat} (h:Bq M x) (k:Bq M y) (hM:M≤1099511627776):Sm (x.num.natAbs*y.num.natAbs)∧Sm (x.den*y.den)∧Sm (x.num.natAbs*y.den)∧Sm (y.num.natAbs*x.den)∧Sm (x.den*y.num.natAbs)∧Sm (x.num.natAbs*y.den+y.num.natAbs*x.den):=
 ⟨sm_of_lt (lt_mul h.1 k.1) (by omega),sm_of_lt (lt_mul h.2 k.2) (by omega),sm_of_lt (lt_mul h.1 k.2) (by omega),sm_of_lt (lt_mul k.1 h.2) (by omega),sm_of_lt (lt_mul h.2 k.1) (by omega),sm_of_lt (lt_add (lt_mul h.1 k.2) (lt_mul k.1 h.2)) (by omega)⟩
theorem setup2 (w:World) (x0 x1 x2 y0 y1 y2:Value):(∀W,Ext ((w.alloc (.cells #[x0,x1,x2] 38)).alloc (.cells #[y0,y1,y2] 38)) W→W.cell? ⟨w.heap.size,0,none⟩=some x0∧W.cell? ⟨w.heap.size,1,none⟩=some x1∧W.cell? ⟨w.heap.size,2,none⟩=some x2∧W.cell? ⟨w.heap.size+1,0,none⟩=some y0∧W.cell? ⟨w.heap.size+1,1,none⟩=some y1∧W.cell? ⟨w.heap.size+1,2,none⟩=some y2)∧(∀W,Ext (((w.alloc (.cells #[x0,x1,x2] 38)).alloc (.cells #[y0,y1,y2] 38)).alloc (.cells #[.bool false,.slice none 0 0,.slice none 0 0] 38)) W→W.heap[w.heap.size+1+1]?=some (.cells #[.bool false,.slice none 0 0,.slice none 0 0] 38 (0,0)))∧Ext w ((w.alloc (.cells #[x0,x1,x2] 38)).alloc (.cells #[y0,y1,y2] 38))∧Ext ((w.alloc (.cells #[x0,x1,x2] 38)).alloc (.cells #[y0,y1,y2] 38)) (((w.alloc (.cells #[x0,x1,x2] 38)).alloc (.cells #[y0,y1,y2] 38)).alloc (.cells #[.bool false,.slice none 0 0,.slice none 0 0] 38))∧w.heap.size≤w.heap.size+1+1∧((w.alloc (.cells #[x0,x1,x2] 38)).alloc (.cells #[y0,y1,y2] 38)).heap.size≤w.heap.size+1+1:=by
 have z0:(w.alloc (.cells #[x0,x1,x2] 38)).heap.size=w.heap.size+1:=by simp
 have z1:((w.alloc (.cells #[x0,x1,x2] 38)).alloc (.cells #[y0,y1,y2] 38)).heap.size=w.heap.size+1+1:=by simp
 have e0:Ext w (w.alloc (.cells #[x0,x1,x2] 38)):=ab _ _;generalize hw0:w.alloc (.cells #[x0,x1,x2] 38)=w0 at *;have e1:Ext w0 (w0.alloc (.cells #[y0,y1,y2] 38)):=ab _ _;refine⟨fun W h=>?_,fun W h=>?_,al e0 e1,ab _ _,by omega,Nat.le_of_eq z1⟩
 ·have r0:=row3 (hw0 ▸ (al e1 h):Ext (w.alloc (.cells #[x0,x1,x2] 38)) W)
  have r1:=row3 h;rw [z0] at r1;obtain⟨a,b,c,-⟩:=aj r0;obtain⟨a',b',c',-⟩:=aj r1;exact⟨a,b,c,a',b',c'⟩
 ·have r2:=row3 h
  rw [z1] at r2;exact r2
theorem Nm.put3 {W:World} {s:Bool} {A B:Option Addr} {k c l d g:Nat} {q:Rat} (h:Nm W (.agg #[.bool s,.slice A k c,.slice B l d]) q) (hg:W.heap[g]?=some (.cells #[.bool false,.slice none 0 0,.slice none 0 0] 38 (0,0))):Nm (((W.setCell ⟨g,0,none⟩ (.bool s)).setCell ⟨g,1,none⟩ (.slice A k c)).setCell ⟨g,2,none⟩ (.slice B l d)) (.agg #[.bool s,.slice A k c,.slice B l d]) q:=by
 obtain⟨vn,vd,e,h1,h2⟩:=h;exact⟨vn,vd,e,h1.put3 hg _ _ _,h2.put3 hg _ _ _⟩
theorem mul_q (M:Nat) (hM:M≤1099511627776) (vx vy:Value) (x y:Rat) (w:World) (hx:Nm w vx x) (hy:Nm w vy y) (bx:Bq M x) (by_:Bq M y):Calls Tryz.prog 22 #[vx,vy] w fun e w'=>∃v,e=.returned v∧Nm w' v (x*y)∧Ext w w':=by
 obtain⟨A,k,ca,B,l,cb,rfl,hxn,hxd,-,-⟩:=hx.form;obtain⟨C,m,cc,D,n,cd,rfl,hyn,hyd,-,-⟩:=hy.form;obtain⟨s1,s2,-,-,-,-⟩:=Bq.sm2 bx by_ hM;obtain⟨s3,s4⟩:=bx.sm hM;obtain⟨s5,s6⟩:=by_.sm hM;have D0:=ZZ (Nat.mul_pos x.den_pos y.den_pos);have Hx:=ZZ hx;have Hy:=ZZ hy;have Hxn:=ZZ hxn;have Hyn:=ZZ hyn;have S1:=ZZ s1;have S2:=ZZ s2;have S3:=ZZ s3;have S4:=ZZ s4;have S5:=ZZ s5;have S6:=ZZ s6;obtain⟨hS,hZ,hw1,hw2,hsz,hsz1⟩:=setup2 w (.bool (decide (x.num<0))) (.slice A k ca) (.slice B l cb) (.bool (decide (y.num<0))) (.slice C m cc) (.slice D n cd);have HS:=ZZ hS;have HZ:=ZZ hZ;have HW1:=ZZ hw1;have HW2:=ZZ hw2;have Hsz:=ZZ hsz;have Hsz1:=ZZ hsz1;clear hx hy hxn hxd hyn hyd s1 s2 s3 s4 s5 s6 hS hZ hw1 hw2 hsz hsz1 bx by_ hM;generalize hbx:decide (x.num<0)=b1 at *;generalize hby:decide (y.num<0)=b2 at *;have Hbx:=ZZ hbx
 have Hby:=ZZ hby
 clear hbx hby
 go_enter Tryz.func22,Tryz.ntmps22
 go_wp2_with fail;generalize World.alloc (World.alloc (World.alloc w (.cells #[.bool b1,.slice A k ca,.slice B l cb] _)) (.cells #[.bool b2,.slice C m cc,.slice D n cd] _)) _=W2 at *
 generalize World.alloc (World.alloc w (.cells #[.bool b1,.slice A k ca,.slice B l cb] _)) (.cells #[.bool b2,.slice C m cc,.slice D n cd] _)=W1 at *;generalize hg0:w.heap.size=g0 at *;have Hsz:=ZZ (show w.heap.size≤g0+1+1 by omega);clear hg0;have hx0:=ZZ (ac W2);have hww:=ZZ (al HW1.out HW2.out);have hS0:=HS.out W2 HW2.out
 go_region_held3 (fun W=>W.cell? ⟨g0,0,none⟩=some (.bool b1)∧W.cell? ⟨g0,1,none⟩=some (.slice A k ca)∧W.cell? ⟨g0,2,none⟩=some (.slice B l cb)∧W.cell? ⟨g0+1,0,none⟩=some (.bool b2)∧W.cell? ⟨g0+1,1,none⟩=some (.slice C m cc)∧W.cell? ⟨g0+1,2,none⟩=some (.slice D n cd))
  (first
   | exact HS.out _ (am (al HW2.out hx5.out) Hsz1.out _ _ _)
   | exact HS.out _ (al HW2.out hx5.out)
   | exact HS.out _ (al HW2.out hx4.out)
   | exact HS.out _ (al HW2.out hx3.out)
   | exact HS.out _ (al HW2.out hx2.out)
   | exact HS.out _ (al HW2.out hx1.out)
   | exact HS.out _ (al HW2.out hx0.out))
  (first
   |(go_at_call_of 62 A
     refine(mul_c _ _ _ _ _ (Hxn.out.mono (al hww.out hx0.out)) (Hyn.out.mono (al hww.out hx0.out)) S3.out S5.out).mono ?_;rintro e w3 ⟨v3,rfl,h3,k3⟩;obtain⟨P1,p1,c1,rfl⟩:=h3.form';have hx1:=ZZ (al hx0.out k3);have H3:=ZZ h3;clear h3 k3)
   |(go_at_call_of 63 B
     refine(under_c _ _ _ (Hx.out.mono (al hww.out hx1.out))).mono ?_;rintro e w4 ⟨v4,rfl,h4,k4⟩;obtain⟨P2,p2,c2,rfl⟩:=h4.form';have hx2:=ZZ (al hx1.out k4);have H3':=ZZ (H3.out.mono k4);have H4:=ZZ h4;clear h4 k4)
   |(go_at_call_of 63 D
     refine(under_c _ _ _ (Hy.out.mono (al hww.out hx2.out))).mono ?_;rintro e w5 ⟨v5,rfl,h5,k5⟩;obtain⟨P3,p3,c3,rfl⟩:=h5.form';have hx3:=ZZ (al hx2.out k5);have H3'':=ZZ (H3'.out.mono k5);have H4':=ZZ (H4.out.mono k5);have H5:=ZZ h5;clear h5 k5)
   |(go_at_call_of 62 P2
     refine(mul_c _ _ _ _ _ H4'.out H5.out S4.out S6.out).mono ?_;rintro e w6 ⟨v6,rfl,h6,k6⟩;obtain⟨P4,p4,c4,rfl⟩:=h6.form';have hx4:=ZZ (al hx3.out k6);have H3t:=ZZ (H3''.out.mono k6);have H6:=ZZ h6;clear h6 k6)
   |(go_at_call 40
     refine(reduced_c _ _ _ _ _ _ H3t.out H6.out S1.out S2.out D0.out).mono ?_;rintro e w7 ⟨v7,rfl,h7,k7⟩;obtain⟨P5,p5,c5,P6,p6,c6,h7e,-⟩:=h7.form;subst h7e;have hx5:=ZZ (al hx4.out k7);have H7:=ZZ h7;have hz:=HZ.out _ hx5.out;obtain⟨z0,z1,z2,f0,f1,f2⟩:=aj hz;have Hz:=ZZ hz;clear h7 k7 hz))
 go_wp2_with fail;refine bodyPost_ret (v:=.agg #[.bool (decide ((rat (!(b1 == b2)) (x.num.natAbs*y.num.natAbs) (x.den*y.den)).num<0)),.slice P5 p5 c5,.slice P6 p6 c6]) (by simp [results,Tryz.f22];go_simp) rfl ?_
 refine⟨_,rfl,?_,am (al hww.out hx5.out) Hsz.out _ _ _⟩;have hr:=mul_parts x y;rw [Hbx.out,Hby.out] at hr;have hr':rat (!(b1 == b2)) (x.num.natAbs*y.num.natAbs) (x.den*y.den)=x*y:=hr;have h8:=H7.out.put3 Hz.out;rw [hr'] at h8 ⊢;exact h8
theorem setup1 (w:World) (x0 x1 x2:Value):(∀W,Ext (w.alloc (.cells #[x0,x1,x2] 38)) W→W.cell? ⟨w.heap.size,0,none⟩=some x0∧W.cell? ⟨w.heap.size,1,none⟩=some x1∧W.cell? ⟨w.heap.size,2,none⟩=some x2)∧(∀W,Ext ((w.alloc (.cells #[x0,x1,x2] 38)).alloc (.cells #[.bool false,.slice none 0 0,.slice none 0 0] 38)) W→W.heap[w.heap.size+1]?=some (.cells #[.bool false,.slice none 0 0,.slice none 0 0] 38 (0,0)))∧Ext w (w.alloc (.cells #[x0,x1,x2] 38))∧Ext (w.alloc (.cells #[x0,x1,x2] 38)) ((w.alloc (.cells #[x0,x1,x2] 38)).alloc (.cells #[.bool false,.slice none 0 0,.slice none 0 0] 38))∧w.heap.size≤w.heap.size+1∧(w.alloc (.cells #[x0,x1,x2] 38)).heap.size≤w.heap.size+1:=by
 have z0:(w.alloc (.cells #[x0,x1,x2] 38)).heap.size=w.heap.size+1:=by simp
 refine⟨fun W h=>?_,fun W h=>?_,ab _ _,ab _ _,by omega,Nat.le_of_eq z0⟩
 ·obtain⟨a,b,c,-⟩:=aj (row3 h)
  exact⟨a,b,c⟩
 ·have r2:=row3 h
  rw [z0] at r2;exact r2
theorem setup2n (w:World) (x0 x1 x2 y0 y1 y2:Value):(∀W,Ext ((w.alloc (.cells #[x0,x1,x2] 38)).alloc (.cells #[y0,y1,y2] 38)) W→W.cell? ⟨w.heap.size,0,none⟩=some x0∧W.cell? ⟨w.heap.size,1,none⟩=some x1∧W.cell? ⟨w.heap.size,2,none⟩=some x2∧W.cell? ⟨w.heap.size+1,0,none⟩=some y0∧W.cell? ⟨w.heap.size+1,1,none⟩=some y1∧W.cell? ⟨w.heap.size+1,2,none⟩=some y2)∧Ext w ((w.alloc (.cells #[x0,x1,x2] 38)).alloc (.cells #[y0,y1,y2] 38)):=by
 have h:=setup2 w x0 x1 x2 y0 y1 y2;exact⟨h.1,h.2.2.1⟩
theorem dn_neg (x:Rat):dn (-x)=dn x:=by unfold dn;rw [Rat.neg_den]
theorem Nm.flip {W:World} {s:Bool} {vn vd:Value} {x:Rat} (h1:Wd W vn x.num.natAbs) (h2:Wd W vd (dn x)) (hs:s=decide ((-x).num<0)):Nm W (.agg #[.bool s,vn,vd]) (-x):=by
 subst hs;exact⟨_,_,rfl,by rw [Rat.neg_num,Int.natAbs_neg];exact h1,by rw [dn_neg];exact h2⟩
theorem Nm.same {W:World} {s:Bool} {vn vd:Value} {x:Rat} (h1:Wd W vn x.num.natAbs) (h2:Wd W vd (dn x)) (hs:s=decide (x.num<0)):Nm W (.agg #[.bool s,vn,vd]) x:=by
 subst hs;exact⟨_,_,rfl,h1,h2⟩
theorem ext2 (w:World) (a b:Obj):Ext w ((w.alloc a).alloc b):=al (ab _ _) (ab _ _)
theorem ret_i {a b:Int} (h:a=b):Ending.returned (.int .i64 b)=.returned (.int .i64 a):=by rw [h]
def absQ (x:Rat):Rat:=if x.num<0 then -x else x
theorem neg_q (vx:Value) (x:Rat) (w:World) (hx:Nm w vx x):Calls Tryz.prog 11 #[vx] w fun e w'=>∃v,e=.returned v∧Nm w' v (-x)∧Ext w w':=by
 obtain⟨A,k,ca,B,l,cb,rfl,hxn,hxd,hk,-⟩:=hx.form;have Hxn:=ZZ hxn;have Hxd:=ZZ hxd;have Hk:=ZZ hk;clear hx hxn hxd hk
 rcases hb:decide (x.num<0) with _|_
 ·have Hb:=ZZ (show ¬ x.num<0 by simpa using hb)
  clear hb
  rcases Nat.eq_zero_or_pos k with h0|h0
  ·subst h0
   go_enter Tryz.func11,Tryz.ntmps11
   go_wp2_with fail;refine bodyPost_ret (v:=.agg #[.bool false,.slice A 0 ca,.slice B l cb]) (by simp [results,Tryz.f11];go_simp) rfl ?_
   have e:x=0:=Hk.out.1 (by first|rfl|trivial);refine⟨_,rfl,Nm.flip (Hxn.out.mono (ext2 _ _ _)) (Hxd.out.mono (ext2 _ _ _)) ?_,ext2 _ _ _⟩;rw [e];rfl
  ·have t1:((0:Int)<(k:Int)):=by omega
   have hk0:¬ k=0:=by omega
   have Hk0:=ZZ hk0;clear hk0
   go_enter Tryz.func11,Tryz.ntmps11
   go_wp2_with fail;refine bodyPost_ret (v:=.agg #[.bool true,.slice A k ca,.slice B l cb]) (by simp [results,Tryz.f11];go_simp) rfl ?_
   have e:x.num≠0:=fun e=>Hk0.out (Hk.out.2 (Rat.num_eq_zero.1 e));have hb:=Hb.out;refine⟨_,rfl,Nm.flip (Hxn.out.mono (ext2 _ _ _)) (Hxd.out.mono (ext2 _ _ _)) ?_,ext2 _ _ _⟩;rw [Rat.neg_num];symm;rw [decide_eq_true_eq];omega
 ·have Hb:=ZZ (show x.num<0 by simpa using hb)
  clear hb
  go_enter Tryz.func11,Tryz.ntmps11
  go_wp2_with fail;refine bodyPost_ret (v:=.agg #[.bool false,.slice A k ca,.slice B l cb]) (by simp [results,Tryz.f11];go_simp) rfl ?_
  have hb:=Hb.out;refine⟨_,rfl,Nm.flip (Hxn.out.mono (ext2 _ _ _)) (Hxd.out.mono (ext2 _ _ _)) ?_,ext2 _ _ _⟩;rw [Rat.neg_num];symm;rw [decide_eq_false_iff_not];omega
theorem abs_q (vx:Value) (x:Rat) (w:World) (hx:Nm w vx x):Calls Tryz.prog 80 #[vx] w fun e w'=>∃v,e=.returned v∧Nm w' v (absQ x)∧Ext w w':=by
 obtain⟨A,k,ca,B,l,cb,rfl,hxn,hxd,hk,-⟩:=hx.form;have Hxn:=ZZ hxn;have Hxd:=ZZ hxd;clear hx hxn hxd hk;generalize hb:decide (x.num<0)=b;have Hb:=ZZ hb;clear hb
 go_enter Tryz.func80,Tryz.ntmps80
 go_wp2_with fail;refine bodyPost_ret (v:=.agg #[.bool false,.slice A k ca,.slice B l cb]) (by simp [results,Tryz.f80];go_simp) rfl ?_
 refine⟨_,rfl,?_,ext2 _ _ _⟩;unfold absQ
 split
 ·rename_i h
  exact Nm.flip (Hxn.out.mono (ext2 _ _ _)) (Hxd.out.mono (ext2 _ _ _)) (by rw [Rat.neg_num];symm;rw [decide_eq_false_iff_not];omega)
 ·rename_i h
  exact Nm.same (Hxn.out.mono (ext2 _ _ _)) (Hxd.out.mono (ext2 _ _ _)) (by symm;rw [decide_eq_false_iff_not];exact h)
theorem sign_q (vx:Value) (x:Rat) (w:World) (hx:Nm w vx x):Calls Tryz.prog 20 #[vx] w fun e w'=>e=.returned (.int .i64 x.num.sign)∧Ext w w':=by
 obtain⟨A,k,ca,B,l,cb,rfl,hxn,hxd,hk,-⟩:=hx.form;have Hk:=ZZ hk;clear hx hxn hxd hk
 rcases Nat.eq_zero_or_pos k with h0|h0
 ·subst h0
  generalize hb:decide (x.num<0)=b;clear hb
  go_enter Tryz.func20,Tryz.ntmps20
  go_wp2_with fail;go_ret
  have e:x=0:=Hk.out.1 (by first|rfl|trivial);exact⟨ret_i (by rw [e];rfl),ab _ _⟩
 ·have t1:((k:Int) == 0)=false:=by simp;omega
  have Hk0:=ZZ (show ¬ k=0 by omega)
  rcases hb:decide (x.num<0) with _|_
  ·have Hb:=ZZ (show ¬ x.num<0 by simpa using hb)
   clear hb
   go_enter Tryz.func20,Tryz.ntmps20
   go_wp2_with fail;go_ret
   have e:x.num≠0:=fun e=>Hk0.out (Hk.out.2 (Rat.num_eq_zero.1 e));have hb:=Hb.out;exact⟨ret_i (Int.sign_eq_one_of_pos (by omega)),ab _ _⟩
  ·have Hb:=ZZ (show x.num<0 by simpa using hb)
   clear hb
   go_enter Tryz.func20,Tryz.ntmps20
   go_wp2_with fail;go_ret
   exact⟨ret_i (Int.sign_eq_neg_one_of_neg Hb.out),ab _ _⟩
end Go.Proofs.YtkoaakefgacokaaGreatDoor
