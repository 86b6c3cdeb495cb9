/- The reference's numbers: shifts, logarithms, rounding. Printed by gen_ru.py. -/
import Derived.Test.YtpgdefgdboijlaaGreatDoorR3
import Derived.Test.YtpgdefgdboijlaaGreatDoorNj
import Derived.Test.YtpgdefgdboijlaaGreatDoorNh
import Derived.Deep.DeepCutAuto
set_option linter.unusedVariables false
set_option maxRecDepth 100000
set_option maxHeartbeats 16000000
namespace Go.Proofs.YtpgdefgdboijlaaGreatDoor
open Go.RowKit
theorem neg_rat (b:Bool) (n d:Nat):-(rat b n d)=rat (!b) n d:=by
  unfold rat;rw [sg_not,←Rat.neg_mkRat]
theorem neg_dec {x:Rat} (h:x≠0):decide ((-x).num<0)=!decide (x.num<0):=by
  have hn:x.num≠0:=fun e=>h (Rat.num_eq_zero.1 e);rw [Rat.neg_num]
  by_cases hl:x.num<0
  · rw [decide_eq_true hl,decide_eq_false (by omega)];rfl
  · rw [decide_eq_false hl,decide_eq_true (by omega)];rfl
theorem wholeQ_zero (a:Bool):wholeQ 0 a=0:=by
  unfold wholeQ wholeN
  simp [rat_zero]
theorem wholeQ_neg (x:Rat) (a:Bool):wholeQ (-x) a = -(wholeQ x a):=by
  by_cases h:x=0
  · subst h;rw [show (-(0:Rat))=0 from rfl,wholeQ_zero];rfl
  · unfold wholeQ;rw [neg_rat,neg_dec h,Rat.neg_num,Int.natAbs_neg,Rat.neg_den]
theorem shQ_zero (k:Int):shQ 0 k=0:=by
  unfold shQ;split <;> simp [rat_zero]
theorem shQ_neg (x:Rat) (k:Int):shQ (-x) k = -(shQ x k):=by
  by_cases h:x=0
  · subst h;rw [show (-(0:Rat))=0 from rfl,shQ_zero];rfl
  · unfold shQ;rw [neg_dec h,Rat.neg_num,Int.natAbs_neg,Rat.neg_den];split <;> rw [neg_rat]
theorem logQ_neg (x:Rat):logQ (-x)=logQ x:=by
  unfold logQ;rw [Rat.neg_num,Int.natAbs_neg,Rat.neg_den]
theorem neg_ne {x:Rat} (h:x≠0):-x≠0:=fun e=>h (by rw [←Rat.neg_neg x,e];rfl)
theorem roundQ_neg (x:Rat) (bits:Int) (a:Bool):ax (-x) bits a = -(ax x bits a):=by
  by_cases h:x=0
  · subst h;rw [show (-(0:Rat))=0 from rfl];unfold ax;rw [if_pos rfl];rfl
  · unfold ax
    rw [if_neg h,if_neg (neg_ne h)]
    have:stepQ (-x) bits=stepQ x bits:=by unfold stepQ;rw [logQ_neg]
    rw [this,shQ_neg,wholeQ_neg,shQ_neg]
theorem shQ_dec {x:Rat} (h:x≠0) (k:Int):decide ((shQ x k).num<0)=decide (x.num<0):=by
  have hn:0<x.num.natAbs:=by
    rcases Nat.eq_zero_or_pos x.num.natAbs with e|e
    · exact absurd (Rat.num_eq_zero.1 (Int.natAbs_eq_zero.1 e)) h
    · exact e
  have hd:=x.den_pos;have h2:0<2 ^ k.natAbs:=Nat.pow_pos (by omega);unfold shQ
  split
  · exact rat_neg _ _ _ (Nat.ne_of_gt (Nat.mul_pos hd h2)) hn
  · exact rat_neg _ _ _ (by omega) (Nat.mul_pos hn h2)
theorem up_neg (x:Rat) (bits:Int):-(ax (-x) bits (decide ((-x).num<0)))=ax x bits (!decide (x.num<0)):=by
  by_cases h:x=0
  · subst h;rw [show (-(0:Rat))=0 from rfl];unfold ax;rw [if_pos rfl,if_pos rfl];rfl
  · rw [roundQ_neg,neg_dec h,Rat.neg_neg]
theorem setupR3 (w:World) (x0 x1 x2:Value) :
    (∀W,Ext (w.alloc (.cells #[x0,x1,x2] 31)) W→W.cell? ⟨w.heap.size,0,none⟩=some x0∧W.cell? ⟨w.heap.size,1,none⟩=some x1∧W.cell? ⟨w.heap.size,2,none⟩=some x2) ∧
    (∀W,Ext ((w.alloc (.cells #[x0,x1,x2] 31)).alloc (.cells #[.int .i64 0,.slice none 0 0,.slice none 0 0] 31)) W→W.heap[w.heap.size+1]?=some (.cells #[.int .i64 0,.slice none 0 0,.slice none 0 0] 31 (0,0))) ∧
    Ext w (w.alloc (.cells #[x0,x1,x2] 31)) ∧
    Ext (w.alloc (.cells #[x0,x1,x2] 31)) ((w.alloc (.cells #[x0,x1,x2] 31)).alloc (.cells #[.int .i64 0,.slice none 0 0,.slice none 0 0] 31)) ∧
    (w.alloc (.cells #[x0,x1,x2] 31)).heap.size≤w.heap.size+1:=by
  have z0:(w.alloc (.cells #[x0,x1,x2] 31)).heap.size=w.heap.size+1:=by simp
  refine⟨fun W h=>?_,fun W h=>?_,ab _ _,ab _ _,Nat.le_of_eq z0⟩
  · obtain⟨a,b,c,-⟩:=aj (rowR h)
    exact⟨a,b,c⟩
  · have r2:=rowR h
    rw [z0] at r2;exact r2
theorem shift_n_zero (z:Int) (vx:Value) (x:Rat) (h0:x=0) (w:World) (hx:Nr w vx x) :
    Calls Tryz.prog 128 #[vx,.int .i64 z] w fun e w'=>∃v,e=.returned v∧Nr w' v (shQ x z)∧Ext w w':=by
  subst h0;rw [shQ_zero];obtain⟨s,A,k,ca,B,l,cb,rfl,hsg,hxt,hxb⟩:=hx.form;obtain⟨hS,hZ,hw1,hw2,hsz1⟩:=setupR3 w (.int .i64 s) (.slice A k ca) (.slice B l cb);have HS:=ZZ hS;have HZ:=ZZ hZ;have HW1:=ZZ hw1;have HW2:=ZZ hw2;have Hsz1:=ZZ hsz1;have Hx:=ZZ hx;have HXT:=ZZ hxt;have HSG:=ZZ hsg;obtain rfl:s=0:=hsg.symm;have hc0:=hS _ hw2;clear hx hxt hxb hS hZ hw1 hw2 hsz1 hsg
  go_enter Tryz.func128,Tryz.ntmps128
  go_wp2_with fail;refine bodyPost_ret (v:=.agg #[.int .i64 0,.slice A k ca,.slice B l cb]) (by simp [results,Tryz.f128];go_simp) rfl ?_
  exact⟨_,rfl,Hx.out.mono (ext2r _ _ _),ext2r _ _ _⟩
theorem floor_n_zero (vx:Value) (x:Rat) (h0:x=0) (w:World) (hx:Nr w vx x) :
    Calls Tryz.prog 36 #[vx] w fun e w'=>∃v,e=.returned v∧Nr w' v (wholeQ x (decide (x.num<0)))∧Ext w w':=by
  subst h0;rw [wholeQ_zero];obtain⟨s,A,k,ca,B,l,cb,rfl,hsg,hxt,hxb⟩:=hx.form;obtain⟨hS,hZ,hw1,hw2,hsz1⟩:=setupR3 w (.int .i64 s) (.slice A k ca) (.slice B l cb);have HS:=ZZ hS;have HZ:=ZZ hZ;have HW1:=ZZ hw1;have HW2:=ZZ hw2;have Hsz1:=ZZ hsz1;have Hx:=ZZ hx;have HXT:=ZZ hxt;have HSG:=ZZ hsg;obtain rfl:s=0:=hsg.symm;have hc0:=hS _ hw2;clear hx hxt hxb hS hZ hw1 hw2 hsz1 hsg
  go_enter Tryz.func36,Tryz.ntmps36
  go_wp2_with fail;refine bodyPost_ret (v:=.agg #[.int .i64 0,.slice A k ca,.slice B l cb]) (by simp [results,Tryz.f36];go_simp) rfl ?_
  exact⟨_,rfl,Hx.out.mono (ext2r _ _ _),ext2r _ _ _⟩
theorem roundQ_zero (bits:Int) (a:Bool):ax 0 bits a=0:=by unfold ax;rw [if_pos rfl]
theorem down_n_zero (bits:Int) (vx:Value) (x:Rat) (h0:x=0) (w:World) (hx:Nr w vx x) :
    Calls Tryz.prog 32 #[vx,.int .i64 bits] w fun e w'=>∃v,e=.returned v∧Nr w' v (ax x bits (decide (x.num<0)))∧Ext w w':=by
  subst h0;rw [roundQ_zero];obtain⟨s,A,k,ca,B,l,cb,rfl,hsg,hxt,hxb⟩:=hx.form;obtain⟨hS,hZ,hw1,hw2,hsz1⟩:=setupR3 w (.int .i64 s) (.slice A k ca) (.slice B l cb);have HS:=ZZ hS;have HZ:=ZZ hZ;have HW1:=ZZ hw1;have HW2:=ZZ hw2;have Hsz1:=ZZ hsz1;have Hx:=ZZ hx;have HXT:=ZZ hxt;have HSG:=ZZ hsg;obtain rfl:s=0:=hsg.symm;have hc0:=hS _ hw2;clear hx hxt hxb hS hZ hw1 hw2 hsz1 hsg
  go_enter Tryz.func32,Tryz.ntmps32
  go_wp2_with fail;refine bodyPost_ret (v:=.agg #[.int .i64 0,.slice A k ca,.slice B l cb]) (by simp [results,Tryz.f32];go_simp) rfl ?_
  exact⟨_,rfl,Hx.out.mono (ext2r _ _ _),ext2r _ _ _⟩
theorem shift_n_down (M:Nat) (hM:M≤134217728) (j:Nat) (hj:j≤134217728) (hj0:0<j) (vx:Value) (x:Rat) (h0:x≠0) (w:World) (hx:Nr w vx x) (bx:Bq M x) :
    Calls Tryz.prog 128 #[vx,.int .i64 (-(j:Int))] w fun e w'=>∃v,e=.returned v∧Nr w' v (shQ x (-(j:Int)))∧Ext w w':=by
  obtain⟨s,A,k,ca,B,l,cb,rfl,hsg,hxt,hxb⟩:=hx.form;obtain⟨hS,hZ,hw1,hw2,hsz1⟩:=setupR3 w (.int .i64 s) (.slice A k ca) (.slice B l cb);have HS:=ZZ hS;have HZ:=ZZ hZ;have HW1:=ZZ hw1;have HW2:=ZZ hw2;have Hsz1:=ZZ hsz1;have Hx:=ZZ hx;have HXT:=ZZ hxt;have HSG:=ZZ hsg;have HXB:=ZZ hxb;rw [bn_ne h0] at HXB
  have hz0:(s == 0)=false:=by
    rw [beq_eq_false_iff_ne,←hsg];intro e;exact h0 (Rat.num_eq_zero.1 (Int.sign_eq_zero_iff_zero.1 e))
  have HQ:=ZZ ((sign_sgnB h0).symm.trans hsg)
  have HFIN:=ZZ (show rat (decide (x.num<0)) x.num.natAbs (x.den*2 ^ j)=shQ x (-(j:Int)) by
    unfold shQ;rw [if_pos (by omega),Int.natAbs_neg,Int.natAbs_natCast])
  have q1:decide (-(j:Int)<0)=true:=by simp;omega
  have q1':decide (0<j)=true:=by simp;omega
  have hw:IntKind.i64.wrap (j:Int)=(j:Int):=IntWalk.i64_in _ (by omega);have S1:=ZZ (sr_bits bx.2 (by omega));have HJ:=ZZ hj;have D0:=ZZ (show 0<x.den*2 ^ j from Nat.mul_pos x.den_pos (Nat.pow_pos (by omega)));have L1:=ZZ (show (dr (x.num.natAbs)).length≤1073741824 from Nat.le_trans (dr_bits (bx.1)) (by omega));have L2:=ZZ (show (dr (x.den*2 ^ j)).length≤1073741824 from Nat.le_trans (dr_bits (lt_shift (k:=j) bx.2)) (by omega));obtain⟨nn,hnn⟩:∃a,x.den*2 ^ j=a:=⟨_,rfl⟩;rw [hnn] at HFIN L2 D0;have HNN:=ZZ hnn;clear hx hxt hxb hS hZ hw1 hw2 hsz1 hsg;clear h0 bx hM hj hnn hj0
  go_enter Tryz.func128,Tryz.ntmps128
  go_upto_region 4 with (fail)
  generalize World.alloc (World.alloc w (.cells #[.int .i64 s,.slice A k ca,.slice B l cb] _)) _=W2 at *;generalize World.alloc w (.cells #[.int .i64 s,.slice A k ca,.slice B l cb] _)=W1 at *;generalize hg0:w.heap.size=g0 at *;have Hsz:=ZZ (show w.heap.size≤g0+1 by omega);clear hg0;have hww:=ZZ (al HW1.out HW2.out);have hS0:=HS.out W2 HW2.out;have hx1:=ZZ (ac W2)
  go_region_held3 (fun W=>W.cell? ⟨g0,0,none⟩=some (.int .i64 s)∧W.cell? ⟨g0,1,none⟩=some (.slice A k ca)∧W.cell? ⟨g0,2,none⟩=some (.slice B l cb))
    (first
      | exact HS.out _ (au (al HW2.out hx3.out) Hsz1.out _ _ _)
      | exact HS.out _ (al HW2.out hx3.out)
      | exact HS.out _ (al HW2.out hx2.out)
      | exact HS.out _ (al HW2.out hx1.out))
    (first
      | (have _q:=hx2
         go_at_call 110
         refine(made_r _ s HQ.out _ _ x.num.natAbs nn D0.out _ (HXT.out.mono (al hww.out hx2.out)) H3.out L1.out L2.out).mono ?_;clear _q;rintro e w3 ⟨v3,rfl,h9,k4⟩;obtain⟨s7,A7,k7,c7,B7,l7,d7,h7e,-⟩:=h9.form;subst h7e;have H7:=ZZ h9;have hx3:=ZZ (al hx2.out k4);have hz:=HZ.out _ hx3.out;obtain⟨z0,z1,z2,f0,f1,f2⟩:=aj hz;have Hz:=ZZ hz;clear h9 k4 hz)
      | (have _q:=hx1
         go_at_call 167
         refine(left_r _ x.den j (by have:=HJ.out;omega) _ (HXB.out.mono (al hww.out hx1.out)) S1.out).mono ?_;clear _q;rintro e w1 ⟨v1,rfl,h3,k2⟩;rw [HNN.out] at h3;obtain⟨P1,p1,c1,rfl⟩:=h3.form';have H3:=ZZ h3;have hx2:=ZZ (al hx1.out k2);clear h3 k2))
  go_wp2_with fail;refine bodyPost_ret (v:=.agg #[.int .i64 s7,.slice A7 k7 c7,.slice B7 l7 d7]) (by simp [results,Tryz.f128];go_simp) rfl ?_
  refine⟨_,rfl,?_,au (al hww.out hx3.out) Hsz.out _ _ _⟩;rw [←HFIN.out];exact Nr.put_z H7.out Hz.out _ _ _
theorem shift_n_up (M:Nat) (hM:M≤134217728) (j:Nat) (hj:j≤134217728) (vx:Value) (x:Rat) (h0:x≠0) (w:World) (hx:Nr w vx x) (bx:Bq M x) :
    Calls Tryz.prog 128 #[vx,.int .i64 (j:Int)] w fun e w'=>∃v,e=.returned v∧Nr w' v (shQ x (j:Int))∧Ext w w':=by
  obtain⟨s,A,k,ca,B,l,cb,rfl,hsg,hxt,hxb⟩:=hx.form;obtain⟨hS,hZ,hw1,hw2,hsz1⟩:=setupR3 w (.int .i64 s) (.slice A k ca) (.slice B l cb);have HS:=ZZ hS;have HZ:=ZZ hZ;have HW1:=ZZ hw1;have HW2:=ZZ hw2;have Hsz1:=ZZ hsz1;have Hx:=ZZ hx;have HXT:=ZZ hxt;have HSG:=ZZ hsg;have HXB:=ZZ hxb;rw [bn_ne h0] at HXB
  have hz0:(s == 0)=false:=by
    rw [beq_eq_false_iff_ne,←hsg];intro e;exact h0 (Rat.num_eq_zero.1 (Int.sign_eq_zero_iff_zero.1 e))
  have HQ:=ZZ ((sign_sgnB h0).symm.trans hsg)
  have HFIN:=ZZ (show rat (decide (x.num<0)) (x.num.natAbs*2 ^ j) x.den=shQ x (j:Int) by
    unfold shQ;rw [if_neg (by omega),Int.natAbs_natCast])
  have q1:decide ((j:Int)<0)=false:=by simp
  have S1:=ZZ (sr_bits bx.1 (by omega));have HJ:=ZZ hj;have D0:=ZZ (show 0<x.den from x.den_pos);have L1:=ZZ (show (dr (x.num.natAbs*2 ^ j)).length≤1073741824 from Nat.le_trans (dr_bits (lt_shift (k:=j) bx.1)) (by omega));have L2:=ZZ (show (dr (x.den)).length≤1073741824 from Nat.le_trans (dr_bits (bx.2)) (by omega));obtain⟨nn,hnn⟩:∃a,x.num.natAbs*2 ^ j=a:=⟨_,rfl⟩;rw [hnn] at HFIN L1;have HNN:=ZZ hnn;clear hx hxt hxb hS hZ hw1 hw2 hsz1 hsg;clear h0 bx hM hj hnn
  go_enter Tryz.func128,Tryz.ntmps128
  go_upto_region 5 with (fail)
  generalize World.alloc (World.alloc w (.cells #[.int .i64 s,.slice A k ca,.slice B l cb] _)) _=W2 at *;generalize World.alloc w (.cells #[.int .i64 s,.slice A k ca,.slice B l cb] _)=W1 at *;generalize hg0:w.heap.size=g0 at *;have Hsz:=ZZ (show w.heap.size≤g0+1 by omega);clear hg0;have hww:=ZZ (al HW1.out HW2.out);have hS0:=HS.out W2 HW2.out;have hx1:=ZZ (ac W2)
  go_region_held3 (fun W=>W.cell? ⟨g0,0,none⟩=some (.int .i64 s)∧W.cell? ⟨g0,1,none⟩=some (.slice A k ca)∧W.cell? ⟨g0,2,none⟩=some (.slice B l cb))
    (first
      | exact HS.out _ (au (al HW2.out hx3.out) Hsz1.out _ _ _)
      | exact HS.out _ (al HW2.out hx3.out)
      | exact HS.out _ (al HW2.out hx2.out)
      | exact HS.out _ (al HW2.out hx1.out))
    (first
      | (have _q:=hx2
         go_at_call 110
         refine(made_r _ s HQ.out _ _ nn x.den D0.out _ H3.out (HXB.out.mono (al hww.out hx2.out)) L1.out L2.out).mono ?_;clear _q;rintro e w3 ⟨v3,rfl,h9,k4⟩;obtain⟨s7,A7,k7,c7,B7,l7,d7,h7e,-⟩:=h9.form;subst h7e;have H7:=ZZ h9;have hx3:=ZZ (al hx2.out k4);have hz:=HZ.out _ hx3.out;obtain⟨z0,z1,z2,f0,f1,f2⟩:=aj hz;have Hz:=ZZ hz;clear h9 k4 hz)
      | (have _q:=hx1
         go_at_call 167
         refine(left_r _ x.num.natAbs j (by have:=HJ.out;omega) _ (HXT.out.mono (al hww.out hx1.out)) S1.out).mono ?_;clear _q;rintro e w1 ⟨v1,rfl,h3,k2⟩;rw [HNN.out] at h3;obtain⟨P1,p1,c1,rfl⟩:=h3.form';have H3:=ZZ h3;have hx2:=ZZ (al hx1.out k2);clear h3 k2))
  go_wp2_with fail;refine bodyPost_ret (v:=.agg #[.int .i64 s7,.slice A7 k7 c7,.slice B7 l7 d7]) (by simp [results,Tryz.f128];go_simp) rfl ?_
  refine⟨_,rfl,?_,au (al hww.out hx3.out) Hsz.out _ _ _⟩;rw [←HFIN.out];exact Nr.put_z H7.out Hz.out _ _ _
theorem shift_n (M:Nat) (hM:M≤134217728) (z:Int) (hz:z.natAbs≤134217728) (vx:Value) (x:Rat) (w:World) (hx:Nr w vx x) (bx:Bq M x) :
    Calls Tryz.prog 128 #[vx,.int .i64 z] w fun e w'=>∃v,e=.returned v∧Nr w' v (shQ x z)∧Ext w w':=by
  by_cases h0:x=0
  · exact shift_n_zero z vx x h0 w hx
  · rcases(show z<0∨0≤z by omega) with h|h
    · obtain⟨k,rfl⟩:∃k:Nat,z = -(k:Int):=⟨z.natAbs,by omega⟩
      exact shift_n_down M hM k (by omega) (by omega) vx x h0 w hx bx
    · obtain⟨k,rfl⟩:∃k:Nat,z=(k:Int):=⟨z.toNat,by omega⟩
      exact shift_n_up M hM k (by omega) vx x h0 w hx bx
theorem length_e (va:Value) (n b:Nat) (hb:bl n=b) (w:World) (ha:Wr w va n) (sa:Sr n) :
    Calls Tryz.prog 166 #[va] w fun e w'=>e=.returned (.int .i64 (b:Int))∧Ext w w':=by
  refine(length_r va n w ha sa).mono ?_;rintro e w' ⟨rfl,rfl⟩;exact⟨by rw [hb],ad _⟩
theorem logN_at (n d p r:Nat) (K:Int) (hK:K=(bl n:Int) - (bl d:Int)) (hp:max (-K) 0=(p:Int)) (hr:max K 0=(r:Int)) :
    logN n d=if n*2 ^ p<d*2 ^ r then K - 1 else K:=by
  unfold logN
  by_cases h:bl d≤bl n
  · obtain rfl:p=0:=by omega
    obtain rfl:r=bl n - bl d:=by omega
    rw [if_pos h,Nat.pow_zero,Nat.mul_one];have e:((bl n - bl d:Nat):Int)=K:=by omega
    rw [e]
  · obtain rfl:r=0:=by omega
    obtain rfl:p=bl d - bl n:=by omega
    rw [if_neg h,Nat.pow_zero,Nat.mul_one];have e:-((bl d - bl n:Nat):Int)=K:=by omega
    rw [e]
theorem log_n (M:Nat) (hM:M≤134217728) (vx:Value) (x:Rat) (h0:x≠0) (g:Int) (hg:logQ x=g) (w:World) (hx:Nr w vx x) (bx:Bq M x) :
    Calls Tryz.prog 127 #[vx] w fun e w'=>e=.returned (.int .i64 g)∧Ext w w':=by
  obtain⟨s,A,k,ca,B,l,cb,rfl,hsg,hxt,hxb⟩:=hx.form;obtain⟨hS,hw1⟩:=setupR1 w (.int .i64 s) (.slice A k ca) (.slice B l cb);have HS:=ZZ hS;have HW1:=ZZ hw1;have HXT:=ZZ hxt;have HXB:=ZZ hxb;rw [bn_ne h0] at HXB;have b1:=bl_le bx.1;have b2:=bl_le bx.2;obtain⟨ba,hba⟩:∃a,bl x.num.natAbs=a:=⟨_,rfl⟩;obtain⟨bb,hbb⟩:∃a,bl x.den=a:=⟨_,rfl⟩;have HBA:=ZZ hba;have HBB:=ZZ hbb;obtain⟨K,hK⟩:∃K:Int,K=(bl x.num.natAbs:Int) - (bl x.den:Int):=⟨_,rfl⟩;obtain⟨p,hp⟩:∃p:Nat,max (-K) 0=(p:Int):=⟨(max (-K) 0).toNat,by omega⟩;obtain⟨r,hr⟩:∃r:Nat,max K 0=(r:Int):=⟨(max K 0).toNat,by omega⟩;have hlog:=logN_at _ _ p r K hK hp hr;have HLOG:=ZZ (show (if x.num.natAbs*2 ^ p<x.den*2 ^ r then K - 1 else K)=g by rw [←hlog];exact hg);obtain⟨c,hc⟩:∃c,ordN (x.num.natAbs*2 ^ p) (x.den*2 ^ r)=c:=⟨_,rfl⟩;have HC:=ZZ hc;have S1:=ZZ (sr_bits bx.1 (by omega));have S2:=ZZ (sr_bits bx.2 (by omega));have S3:=ZZ (sr_bits (lt_shift (k:=p) bx.1) (by omega));have S4:=ZZ (sr_bits (lt_shift (k:=r) bx.2) (by omega));have HPB:=ZZ (show p≤1099511627776 by omega);have HRB:=ZZ (show r≤1099511627776 by omega);rw [hba,hbb] at hK;have Q1:=ZZ (show IntKind.i64.wrap ((ba:Int) - (bb:Int))=K by rw [←hK];exact IntWalk.i64_in _ (by omega));have Q2:=ZZ (show IntKind.i64.wrap (-K) = -K from IntWalk.i64_in _ (by omega));have Q3:=ZZ (show IntKind.i64.wrap (K - 1)=K - 1 from IntWalk.i64_in _ (by omega));have HP:=ZZ hp;have HR:=ZZ hr;clear hx hxt hxb hS hw1 hsg h0 bx hM hK hlog hg hc b1 b2 hba hbb hp hr
  go_enter Tryz.func127,Tryz.ntmps127
  go_upto_region 1 with (fail)
  generalize World.alloc w (.cells #[.int .i64 s,.slice A k ca,.slice B l cb] _)=W2 at *;generalize w.heap.size=g0 at *
  go_cut [3] (fun v wx=>v=.int .i64 K∧Hid (Ext W2 wx))
  case first=>
    have q1:=Q1.out;have hS0:=HS.out W2 (ad _);have hx1:=ZZ (ac W2)
    go_region_held3 (fun W=>W.cell? ⟨g0,0,none⟩=some (.int .i64 s)∧W.cell? ⟨g0,1,none⟩=some (.slice A k ca)∧W.cell? ⟨g0,2,none⟩=some (.slice B l cb))
      (first
        | exact HS.out _ hx3.out
        | exact HS.out _ hx2.out
        | exact HS.out _ hx1.out)
      (first
        | (have _q:=hx2
           go_at_call 166
           refine(length_e _ x.den bb HBB.out _ (HXB.out.mono (al HW1.out hx2.out)) S2.out).mono ?_;clear _q;rintro e wl2 ⟨rfl,k9⟩;have hx3:=ZZ (al hx2.out k9);clear k9)
        | (have _q:=hx1
           go_at_call 166
           refine(length_e _ x.num.natAbs ba HBA.out _ (HXT.out.mono (al HW1.out hx1.out)) S1.out).mono ?_;clear _q;rintro e wl1 ⟨rfl,k9⟩;have hx2:=ZZ (al hx1.out k9);clear k9))
    all_goals
      go_wp2_with fail;go_meet
      exact⟨rfl,hx3⟩
  case rest=>
   obtain⟨rfl,HE1⟩:=hcut;rename World=>W3;have hp:=HP.out;have hr:=HR.out;have q2:=Q2.out
   go_upto_region 2 with (fail)
   obtain⟨tb,htb⟩:∃b,decide (c<0)=b:=⟨_,rfl⟩
   go_cut [23] (fun v wx=>v=.bool tb∧Hid (Ext W2 wx))
   case first=>
    have hS0:=HS.out W3 HE1.out;have hx1:=ZZ (al HE1.out (ac W3))
    go_region_held3 (fun W=>W.cell? ⟨g0,0,none⟩=some (.int .i64 s)∧W.cell? ⟨g0,1,none⟩=some (.slice A k ca)∧W.cell? ⟨g0,2,none⟩=some (.slice B l cb))
      (first
        | exact HS.out _ hx4.out
        | exact HS.out _ hx3.out
        | exact HS.out _ hx2.out
        | exact HS.out _ hx1.out)
      (first
        | (have _q:=hx3
           go_at_call 139
           refine(order_e _ _ _ _ c HC.out _ J1'.out J2.out S3.out S4.out).mono ?_;clear _q;rintro e wl3 ⟨rfl,k9⟩;have hx4:=ZZ (al hx3.out k9);clear k9)
        | (have _q:=hx2
           go_at_call 167
           refine(left_r _ x.den r HRB.out _ (HXB.out.mono (al HW1.out hx2.out)) S2.out).mono ?_;clear _q;rintro e wl2 ⟨vv,rfl,h9,k9⟩;obtain⟨P2,p2,c2,rfl⟩:=h9.form';have J2:=ZZ h9;have J1':=ZZ (J1.out.mono k9);have hx3:=ZZ (al hx2.out k9);clear h9 k9)
        | (have _q:=hx1
           go_at_call 167
           refine(left_r _ x.num.natAbs p HPB.out _ (HXT.out.mono (al HW1.out hx1.out)) S1.out).mono ?_;clear _q;rintro e wl1 ⟨vv,rfl,h9,k9⟩;obtain⟨P1,p1,c1,rfl⟩:=h9.form';have J1:=ZZ h9;have hx2:=ZZ (al hx1.out k9);clear h9 k9))
    all_goals
      go_wp2_with fail;go_meet
      exact⟨by first|rfl|rw [htb],hx4⟩
   case rest=>
    obtain⟨rfl,HE2⟩:=hcut;rename World=>W4;clear hp hr q2;have q3:=Q3.out
    by_cases hlt:x.num.natAbs*2 ^ p<x.den*2 ^ r
    · obtain rfl:tb=true:=by rw [←htb,←HC.out];exact decide_eq_true ((ord_neg _ _).2 hlt)
      have HL:=ZZ (show K - 1=g by have:=HLOG.out;rwa [if_pos hlt] at this);clear hlt htb;go_wp2_with fail;go_ret;rw [←HL.out];exact⟨rfl,al HW1.out HE2.out⟩
    · obtain rfl:tb=false:=by rw [←htb,←HC.out];exact decide_eq_false (fun h=>hlt ((ord_neg _ _).1 h))
      have HL:=ZZ (show K=g by have:=HLOG.out;rwa [if_neg hlt] at this);clear hlt htb;go_wp2_with fail;go_ret;rw [←HL.out];exact⟨rfl,al HW1.out HE2.out⟩
theorem floor_n_more (M:Nat) (hM:M≤134217728) (vx:Value) (x:Rat) (h0:x≠0) (hneg:x.num<0) (hr:x.num.natAbs % x.den≠0) (w:World) (hx:Nr w vx x) (bx:Bq M x) :
    Calls Tryz.prog 36 #[vx] w fun e w'=>∃v,e=.returned v∧Nr w' v (wholeQ x (decide (x.num<0)))∧Ext w w':=by
  obtain⟨s,A,k,ca,B,l,cb,rfl,hsg,hxt,hxb⟩:=hx.form;obtain⟨hS,hZ,hw1,hw2,hsz1⟩:=setupR3 w (.int .i64 s) (.slice A k ca) (.slice B l cb);have HS:=ZZ hS;have HZ:=ZZ hZ;have HW1:=ZZ hw1;have HW2:=ZZ hw2;have Hsz1:=ZZ hsz1;have Hx:=ZZ hx;have HXT:=ZZ hxt;have HSG:=ZZ hsg;have HXB:=ZZ hxb;rw [bn_ne h0] at HXB
  have hz0:(s == 0)=false:=by
    rw [beq_eq_false_iff_ne,←hsg];intro e;exact h0 (Rat.num_eq_zero.1 (Int.sign_eq_zero_iff_zero.1 e))
  have HQ:=ZZ ((sign_sgnB h0).symm.trans hsg);obtain⟨qq,hqq⟩:∃q,x.num.natAbs / x.den=q:=⟨_,rfl⟩;obtain⟨rr,hrr⟩:∃q,x.num.natAbs % x.den=q:=⟨_,rfl⟩;have HQQ:=ZZ hqq;have HRR:=ZZ hrr
  have HFIN:=ZZ (show rat (decide (x.num<0)) (qq+1) 1=wholeQ x (decide (x.num<0)) by
    unfold wholeQ wholeN;rw [if_pos ⟨decide_eq_true hneg,hr⟩,hqq])
  have t1:decide (s<0)=true:=by
    rw [←hsg];rw [sign_neg hneg];rfl
  have hrl:rr≠0:=by rw [←hrr];exact hr
  have S1:=ZZ (show (dr x.num.natAbs).length≤549755813888 from Nat.le_trans (dr_bits bx.1) (by omega));have S2:=ZZ (show (dr x.den).length≤549755813888 from Nat.le_trans (dr_bits bx.2) (by omega));have D0:=ZZ x.den_pos;have hqb:qq<2 ^ M:=Nat.lt_of_le_of_lt (by rw [←hqq];exact Nat.div_le_self _ _) bx.1;have SQ:=ZZ (sr_bits hqb (by omega));have SO:=ZZ (show Sr 1 by unfold Sr;rw [dr_one];simp);have L1:=ZZ (show (dr (qq+1)).length≤1073741824 from Nat.le_trans (dr_bits (show qq+1<2 ^ (M+1) by rw [Nat.pow_succ];omega)) (by omega));have hc0:=hS _ hw2;clear hx hxt hxb hS hZ hw1 hw2 hsz1 hsg;clear h0 bx hM hneg hr hqq hrr hqb
  go_enter Tryz.func36,Tryz.ntmps36
  go_wp2_with fail;generalize World.alloc (World.alloc w (.cells #[.int .i64 s,.slice A k ca,.slice B l cb] _)) _=W2 at *
  generalize World.alloc w (.cells #[.int .i64 s,.slice A k ca,.slice B l cb] _)=W1 at *;generalize hg0:w.heap.size=g0 at *;have Hsz:=ZZ (show w.heap.size≤g0+1 by omega);clear hg0;have hww:=ZZ (al HW1.out HW2.out);refine(divided_r _ _ x.num.natAbs x.den D0.out _ (HXT.out.mono hww.out) (HXB.out.mono hww.out) S1.out S2.out).mono ?_;rintro e w3 ⟨v3,u3,rfl,h3,h4,k3⟩;rw [HQQ.out] at h3;rw [HRR.out] at h4;obtain⟨P1,p1,c1,rfl⟩:=h3.form';obtain⟨P2,p2,c2,rfl,hp2⟩:=h4.formL;have H3:=ZZ h3;have K3:=ZZ k3;have t2:decide ((0:Int)<(p2:Int))=true:=by simp;omega
  have t2':decide (0<p2)=true:=by simp;omega
  clear h3 h4 k3 hp2 hc0 hrl;have hc0:=HS.out _ (al HW2.out K3.out);go_wp2_with fail;refine(one_r _).mono ?_;rintro e w4 ⟨v4,rfl,h3,k3⟩;have H4:=ZZ h3;have H3':=ZZ (H3.out.mono k3);have K4:=ZZ (al K3.out k3);clear h3 k3;go_wp2_with fail;refine(plus_r _ _ qq 1 _ H3'.out H4.out SQ.out SO.out).mono ?_;rintro e w5 ⟨v5,rfl,h3,k3⟩;obtain⟨P5,p5,c5,rfl⟩:=h3.form';have H5:=ZZ h3;have K5:=ZZ (al K4.out k3);clear h3 k3 hc0;have hc0:=HS.out _ (al HW2.out K5.out);go_wp2_with fail;have hS0:=hc0;have e1:=ZZ (ac w5);have hx1:=ZZ (al K5.out (ac w5))
  go_region_held3 (fun W=>W.cell? ⟨g0,0,none⟩=some (.int .i64 s)∧W.cell? ⟨g0,1,none⟩=some (.slice A k ca)∧W.cell? ⟨g0,2,none⟩=some (.slice B l cb))
    (first
      | exact HS.out _ (au (al HW2.out hx3.out) Hsz1.out _ _ _)
      | exact HS.out _ (al HW2.out hx3.out)
      | exact HS.out _ (al HW2.out hx2.out)
      | exact HS.out _ (al HW2.out hx1.out))
    (first
      | (have _q:=hx2
         go_at_call 110
         refine(made_r _ s HQ.out _ _ (qq+1) 1 (by omega) _ JQ.out JO.out L1.out (by rw [dr_one];simp)).mono ?_;clear _q;rintro e wm ⟨v3,rfl,h9,k4⟩;obtain⟨s7,A7,k7,c7,B7,l7,d7,h7e,-⟩:=h9.form;subst h7e;have H7:=ZZ h9;have hx3:=ZZ (al hx2.out k4);have hz:=HZ.out _ hx3.out;obtain⟨z0,z1,z2,f0,f1,f2⟩:=aj hz;have Hz:=ZZ hz;clear h9 k4 hz)
      | (have _q:=hx1
         go_at_call 112
         refine(one_r _).mono ?_;clear _q;rintro e wo ⟨v1,rfl,h3,k2⟩;obtain⟨P7,p7,c8,rfl⟩:=h3.form';have JO:=ZZ h3;have JQ:=ZZ (H5.out.mono (al e1.out k2));have hx2:=ZZ (al hx1.out k2);clear h3 k2))
  go_wp2_with fail;refine bodyPost_ret (v:=.agg #[.int .i64 s7,.slice A7 k7 c7,.slice B7 l7 d7]) (by simp [results,Tryz.f36];go_simp) rfl ?_
  refine⟨_,rfl,?_,au (al hww.out hx3.out) Hsz.out _ _ _⟩;rw [←HFIN.out];exact Nr.put_z H7.out Hz.out _ _ _
theorem floor_n_even (M:Nat) (hM:M≤134217728) (vx:Value) (x:Rat) (h0:x≠0) (hneg:x.num<0) (hr:x.num.natAbs % x.den=0) (w:World) (hx:Nr w vx x) (bx:Bq M x) :
    Calls Tryz.prog 36 #[vx] w fun e w'=>∃v,e=.returned v∧Nr w' v (wholeQ x (decide (x.num<0)))∧Ext w w':=by
  obtain⟨s,A,k,ca,B,l,cb,rfl,hsg,hxt,hxb⟩:=hx.form;obtain⟨hS,hZ,hw1,hw2,hsz1⟩:=setupR3 w (.int .i64 s) (.slice A k ca) (.slice B l cb);have HS:=ZZ hS;have HZ:=ZZ hZ;have HW1:=ZZ hw1;have HW2:=ZZ hw2;have Hsz1:=ZZ hsz1;have Hx:=ZZ hx;have HXT:=ZZ hxt;have HSG:=ZZ hsg;have HXB:=ZZ hxb;rw [bn_ne h0] at HXB
  have hz0:(s == 0)=false:=by
    rw [beq_eq_false_iff_ne,←hsg];intro e;exact h0 (Rat.num_eq_zero.1 (Int.sign_eq_zero_iff_zero.1 e))
  have HQ:=ZZ ((sign_sgnB h0).symm.trans hsg);obtain⟨qq,hqq⟩:∃q,x.num.natAbs / x.den=q:=⟨_,rfl⟩;obtain⟨rr,hrr⟩:∃q,x.num.natAbs % x.den=q:=⟨_,rfl⟩;have HQQ:=ZZ hqq;have HRR:=ZZ hrr
  have HFIN:=ZZ (show rat (decide (x.num<0)) (qq) 1=wholeQ x (decide (x.num<0)) by
    unfold wholeQ wholeN;rw [if_neg (fun h=>h.2 hr),hqq])
  have t1:decide (s<0)=true:=by
    rw [←hsg];rw [sign_neg hneg];rfl
  have hrl:rr=0:=by rw [←hrr];exact hr
  have S1:=ZZ (show (dr x.num.natAbs).length≤549755813888 from Nat.le_trans (dr_bits bx.1) (by omega));have S2:=ZZ (show (dr x.den).length≤549755813888 from Nat.le_trans (dr_bits bx.2) (by omega));have D0:=ZZ x.den_pos;have hqb:qq<2 ^ M:=Nat.lt_of_le_of_lt (by rw [←hqq];exact Nat.div_le_self _ _) bx.1;have SQ:=ZZ (sr_bits hqb (by omega));have SO:=ZZ (show Sr 1 by unfold Sr;rw [dr_one];simp);have L1:=ZZ (show (dr (qq)).length≤1073741824 from Nat.le_trans (dr_bits (show qq<2 ^ (M+1) by rw [Nat.pow_succ];omega)) (by omega));have hc0:=hS _ hw2;clear hx hxt hxb hS hZ hw1 hw2 hsz1 hsg;clear h0 bx hM hneg hr hqq hrr hqb
  go_enter Tryz.func36,Tryz.ntmps36
  go_wp2_with fail;generalize World.alloc (World.alloc w (.cells #[.int .i64 s,.slice A k ca,.slice B l cb] _)) _=W2 at *
  generalize World.alloc w (.cells #[.int .i64 s,.slice A k ca,.slice B l cb] _)=W1 at *;generalize hg0:w.heap.size=g0 at *;have Hsz:=ZZ (show w.heap.size≤g0+1 by omega);clear hg0;have hww:=ZZ (al HW1.out HW2.out);refine(divided_r _ _ x.num.natAbs x.den D0.out _ (HXT.out.mono hww.out) (HXB.out.mono hww.out) S1.out S2.out).mono ?_;rintro e w3 ⟨v3,u3,rfl,h3,h4,k3⟩;rw [HQQ.out] at h3;rw [HRR.out] at h4;obtain⟨P1,p1,c1,rfl⟩:=h3.form';obtain⟨P2,p2,c2,rfl,hp2⟩:=h4.formL;have H3:=ZZ h3;have K3:=ZZ k3;obtain rfl:p2=0:=by omega
  clear h3 h4 k3 hp2 hc0 hrl;have hc0:=HS.out _ (al HW2.out K3.out);go_wp2_with fail;have hS0:=hc0;have e1:=ZZ (ac w3);have hx1:=ZZ (al K3.out (ac w3))
  go_region_held3 (fun W=>W.cell? ⟨g0,0,none⟩=some (.int .i64 s)∧W.cell? ⟨g0,1,none⟩=some (.slice A k ca)∧W.cell? ⟨g0,2,none⟩=some (.slice B l cb))
    (first
      | exact HS.out _ (au (al HW2.out hx3.out) Hsz1.out _ _ _)
      | exact HS.out _ (al HW2.out hx3.out)
      | exact HS.out _ (al HW2.out hx2.out)
      | exact HS.out _ (al HW2.out hx1.out))
    (first
      | (have _q:=hx2
         go_at_call 110
         refine(made_r _ s HQ.out _ _ (qq) 1 (by omega) _ JQ.out JO.out L1.out (by rw [dr_one];simp)).mono ?_;clear _q;rintro e wm ⟨v3,rfl,h9,k4⟩;obtain⟨s7,A7,k7,c7,B7,l7,d7,h7e,-⟩:=h9.form;subst h7e;have H7:=ZZ h9;have hx3:=ZZ (al hx2.out k4);have hz:=HZ.out _ hx3.out;obtain⟨z0,z1,z2,f0,f1,f2⟩:=aj hz;have Hz:=ZZ hz;clear h9 k4 hz)
      | (have _q:=hx1
         go_at_call 112
         refine(one_r _).mono ?_;clear _q;rintro e wo ⟨v1,rfl,h3,k2⟩;obtain⟨P7,p7,c8,rfl⟩:=h3.form';have JO:=ZZ h3;have JQ:=ZZ (H3.out.mono (al e1.out k2));have hx2:=ZZ (al hx1.out k2);clear h3 k2))
  go_wp2_with fail;refine bodyPost_ret (v:=.agg #[.int .i64 s7,.slice A7 k7 c7,.slice B7 l7 d7]) (by simp [results,Tryz.f36];go_simp) rfl ?_
  refine⟨_,rfl,?_,au (al hww.out hx3.out) Hsz.out _ _ _⟩;rw [←HFIN.out];exact Nr.put_z H7.out Hz.out _ _ _
theorem floor_n_pos (M:Nat) (hM:M≤134217728) (vx:Value) (x:Rat) (h0:x≠0) (hneg:¬ x.num<0) (w:World) (hx:Nr w vx x) (bx:Bq M x) :
    Calls Tryz.prog 36 #[vx] w fun e w'=>∃v,e=.returned v∧Nr w' v (wholeQ x (decide (x.num<0)))∧Ext w w':=by
  obtain⟨s,A,k,ca,B,l,cb,rfl,hsg,hxt,hxb⟩:=hx.form;obtain⟨hS,hZ,hw1,hw2,hsz1⟩:=setupR3 w (.int .i64 s) (.slice A k ca) (.slice B l cb);have HS:=ZZ hS;have HZ:=ZZ hZ;have HW1:=ZZ hw1;have HW2:=ZZ hw2;have Hsz1:=ZZ hsz1;have Hx:=ZZ hx;have HXT:=ZZ hxt;have HSG:=ZZ hsg;have HXB:=ZZ hxb;rw [bn_ne h0] at HXB
  have hz0:(s == 0)=false:=by
    rw [beq_eq_false_iff_ne,←hsg];intro e;exact h0 (Rat.num_eq_zero.1 (Int.sign_eq_zero_iff_zero.1 e))
  have HQ:=ZZ ((sign_sgnB h0).symm.trans hsg);obtain⟨qq,hqq⟩:∃q,x.num.natAbs / x.den=q:=⟨_,rfl⟩;obtain⟨rr,hrr⟩:∃q,x.num.natAbs % x.den=q:=⟨_,rfl⟩;have HQQ:=ZZ hqq;have HRR:=ZZ hrr
  have HFIN:=ZZ (show rat (decide (x.num<0)) (qq) 1=wholeQ x (decide (x.num<0)) by
    unfold wholeQ wholeN;rw [if_neg (fun h=>hneg (of_decide_eq_true h.1)),hqq])
  have t1:decide (s<0)=false:=by
    rw [←hsg];rw [sign_pos hneg h0];rfl
  have S1:=ZZ (show (dr x.num.natAbs).length≤549755813888 from Nat.le_trans (dr_bits bx.1) (by omega));have S2:=ZZ (show (dr x.den).length≤549755813888 from Nat.le_trans (dr_bits bx.2) (by omega));have D0:=ZZ x.den_pos;have hqb:qq<2 ^ M:=Nat.lt_of_le_of_lt (by rw [←hqq];exact Nat.div_le_self _ _) bx.1;have SQ:=ZZ (sr_bits hqb (by omega));have SO:=ZZ (show Sr 1 by unfold Sr;rw [dr_one];simp);have L1:=ZZ (show (dr (qq)).length≤1073741824 from Nat.le_trans (dr_bits (show qq<2 ^ (M+1) by rw [Nat.pow_succ];omega)) (by omega));have hc0:=hS _ hw2;clear hx hxt hxb hS hZ hw1 hw2 hsz1 hsg;clear h0 bx hM hneg hqq hrr hqb
  go_enter Tryz.func36,Tryz.ntmps36
  go_wp2_with fail;generalize World.alloc (World.alloc w (.cells #[.int .i64 s,.slice A k ca,.slice B l cb] _)) _=W2 at *
  generalize World.alloc w (.cells #[.int .i64 s,.slice A k ca,.slice B l cb] _)=W1 at *;generalize hg0:w.heap.size=g0 at *;have Hsz:=ZZ (show w.heap.size≤g0+1 by omega);clear hg0;have hww:=ZZ (al HW1.out HW2.out);refine(divided_r _ _ x.num.natAbs x.den D0.out _ (HXT.out.mono hww.out) (HXB.out.mono hww.out) S1.out S2.out).mono ?_;rintro e w3 ⟨v3,u3,rfl,h3,h4,k3⟩;rw [HQQ.out] at h3;rw [HRR.out] at h4;obtain⟨P1,p1,c1,rfl⟩:=h3.form';obtain⟨P2,p2,c2,rfl,hp2⟩:=h4.formL;have H3:=ZZ h3;have K3:=ZZ k3;clear h3 h4 k3 hp2 hc0;have hc0:=HS.out _ (al HW2.out K3.out);go_wp2_with fail;have hS0:=hc0;have e1:=ZZ (ac w3);have hx1:=ZZ (al K3.out (ac w3))
  go_region_held3 (fun W=>W.cell? ⟨g0,0,none⟩=some (.int .i64 s)∧W.cell? ⟨g0,1,none⟩=some (.slice A k ca)∧W.cell? ⟨g0,2,none⟩=some (.slice B l cb))
    (first
      | exact HS.out _ (au (al HW2.out hx3.out) Hsz1.out _ _ _)
      | exact HS.out _ (al HW2.out hx3.out)
      | exact HS.out _ (al HW2.out hx2.out)
      | exact HS.out _ (al HW2.out hx1.out))
    (first
      | (have _q:=hx2
         go_at_call 110
         refine(made_r _ s HQ.out _ _ (qq) 1 (by omega) _ JQ.out JO.out L1.out (by rw [dr_one];simp)).mono ?_;clear _q;rintro e wm ⟨v3,rfl,h9,k4⟩;obtain⟨s7,A7,k7,c7,B7,l7,d7,h7e,-⟩:=h9.form;subst h7e;have H7:=ZZ h9;have hx3:=ZZ (al hx2.out k4);have hz:=HZ.out _ hx3.out;obtain⟨z0,z1,z2,f0,f1,f2⟩:=aj hz;have Hz:=ZZ hz;clear h9 k4 hz)
      | (have _q:=hx1
         go_at_call 112
         refine(one_r _).mono ?_;clear _q;rintro e wo ⟨v1,rfl,h3,k2⟩;obtain⟨P7,p7,c8,rfl⟩:=h3.form';have JO:=ZZ h3;have JQ:=ZZ (H3.out.mono (al e1.out k2));have hx2:=ZZ (al hx1.out k2);clear h3 k2))
  go_wp2_with fail;refine bodyPost_ret (v:=.agg #[.int .i64 s7,.slice A7 k7 c7,.slice B7 l7 d7]) (by simp [results,Tryz.f36];go_simp) rfl ?_
  refine⟨_,rfl,?_,au (al hww.out hx3.out) Hsz.out _ _ _⟩;rw [←HFIN.out];exact Nr.put_z H7.out Hz.out _ _ _
theorem floor_n (M:Nat) (hM:M≤134217728) (vx:Value) (x:Rat) (w:World) (hx:Nr w vx x) (bx:Bq M x) :
    Calls Tryz.prog 36 #[vx] w fun e w'=>∃v,e=.returned v∧Nr w' v (wholeQ x (decide (x.num<0)))∧Ext w w':=by
  by_cases h0:x=0
  · exact floor_n_zero vx x h0 w hx
  · by_cases hn:x.num<0
    · by_cases hr:x.num.natAbs % x.den=0
      · exact floor_n_even M hM vx x h0 hn hr w hx bx
      · exact floor_n_more M hM vx x h0 hn hr w hx bx
    · exact floor_n_pos M hM vx x h0 hn w hx bx
theorem down_pieces {x:Rat} (h0:x≠0) (bits:Int):wholeQ (shQ x (-(stepQ x bits))) (decide ((shQ x (-(stepQ x bits))).num<0))=wholeQ (shQ x (-(stepQ x bits))) (decide (x.num<0))∧ax x bits (decide (x.num<0))=shQ (wholeQ (shQ x (-(stepQ x bits))) (decide (x.num<0))) (stepQ x bits):=by
  refine⟨by rw [shQ_dec h0],?_⟩;unfold ax;rw [if_neg h0]
theorem down_n_main (M:Nat) (hM:M≤33554432) (bits:Int) (vx:Value) (x:Rat) (h0:x≠0) (w:World) (hx:Nr w vx x) (bx:Bq M x) :
    Calls Tryz.prog 32 #[vx,.int .i64 bits] w fun e w'=>∃v,e=.returned v∧Nr w' v (ax x bits (decide (x.num<0)))∧Ext w w':=by
  obtain⟨s,A,k,ca,B,l,cb,rfl,hsg,hxt,hxb⟩:=hx.form;obtain⟨hS,hZ,hw1,hw2,hsz1⟩:=setupR3 w (.int .i64 s) (.slice A k ca) (.slice B l cb);have HS:=ZZ hS;have HZ:=ZZ hZ;have HW1:=ZZ hw1;have HW2:=ZZ hw2;have Hsz1:=ZZ hsz1;have Hx:=ZZ hx;have HXT:=ZZ hxt;have HSG:=ZZ hsg;have HXB:=ZZ hxb;rw [bn_ne h0] at HXB
  have hz0:(s == 0)=false:=by
    rw [beq_eq_false_iff_ne,←hsg];intro e;exact h0 (Rat.num_eq_zero.1 (Int.sign_eq_zero_iff_zero.1 e))
  have HQ:=ZZ ((sign_sgnB h0).symm.trans hsg);have BX:=ZZ bx;have HM:=ZZ hM;have hL:=logQ_bound bx;have hst:=stepQ_bound bx bits;obtain⟨g,hg⟩:∃g,logQ x=g:=⟨_,rfl⟩;obtain⟨st,hse⟩:∃z,stepQ x bits=z:=⟨_,rfl⟩;have hse':g - min (max bits 1) 2000+1=st:=by rw [←hg,←hse];rfl
  obtain⟨d1,d2⟩:=down_pieces h0 bits;rw [hse] at hst d1 d2;rw [hg] at hL;have HG:=ZZ hg;have HD1:=ZZ d1;have HD2:=ZZ d2;have HST:=ZZ hst;have H0:=ZZ h0;have B1:=ZZ (show Bq (M+(M+2001)) (shQ x (-st)) from (Bq.sh bx).mono (by rw [Int.natAbs_neg];omega));have B2:=ZZ (show Bq (M+(M+2001)+1) (wholeQ (shQ x (-st)) (decide (x.num<0))) from Bq.wh B1.out);have u1:IntKind.i64.wrap (g - min (max bits 1) 2000)=g - min (max bits 1) 2000:=IntWalk.i64_in _ (by omega);have u2:IntKind.i64.wrap (g - min (max bits 1) 2000+1)=st:=(IntWalk.i64_in _ (by omega)).trans hse';have U3:=ZZ (show IntKind.i64.wrap (-st) = -st from IntWalk.i64_in _ (by omega));have hc0:=hS _ hw2;clear hx hxt hxb hS hZ hw1 hw2 hsz1 hsg;clear h0 bx hM hL hst hg hse hse' d1 d2
  go_enter Tryz.func32,Tryz.ntmps32
  go_wp2_with fail;generalize World.alloc (World.alloc w (.cells #[.int .i64 s,.slice A k ca,.slice B l cb] _)) _=W2 at *
  generalize World.alloc w (.cells #[.int .i64 s,.slice A k ca,.slice B l cb] _)=W1 at *;generalize hg0:w.heap.size=g0 at *;have Hsz:=ZZ (show w.heap.size≤g0+1 by omega);clear hg0;have hww:=ZZ (al HW1.out HW2.out);refine(log_n M (by have:=HM.out;omega) _ x H0.out g HG.out _ (Hx.out.mono hww.out) BX.out).mono ?_;rintro e w3 ⟨rfl,k9⟩;have hx1:=ZZ (show Ext W2 w3 from k9);clear hc0 k9;have hc0:=HS.out _ (al HW2.out hx1.out);have u3:=U3.out;go_wp2_with fail;refine(shift_n M (by have:=HM.out;omega) (-st) (by have:=HST.out;have:=HM.out;omega) _ x _ (Hx.out.mono (al hww.out hx1.out)) BX.out).mono ?_;rintro e w4 ⟨v4,rfl,h9,k9⟩;have J1:=ZZ h9;have hx2:=ZZ (al hx1.out k9);clear h9 k9 u1 u2 u3;go_wp2_with fail;refine(floor_n (M+(M+2001)) (by have:=HM.out;omega) _ _ _ J1.out B1.out).mono ?_;rintro e w5 ⟨v5,rfl,h9,k9⟩;rw [HD1.out] at h9;have J2:=ZZ h9;have hx3:=ZZ (al hx2.out k9);clear h9 k9;go_wp2_with fail;refine(shift_n (M+(M+2001)+1) (by have:=HM.out;omega) st (by have:=HST.out;have:=HM.out;omega) _ _ _ J2.out B2.out).mono ?_;rintro e w6 ⟨v6,rfl,h9,k9⟩;obtain⟨s7,A7,k7,c7,B7,l7,d7,h7e,-⟩:=h9.form;subst h7e;have H7:=ZZ h9;have hx4:=ZZ (al hx3.out k9);have hz:=HZ.out _ hx4.out;obtain⟨z0,z1,z2,f0,f1,f2⟩:=aj hz;have Hz:=ZZ hz;clear h9 k9 hz;go_wp2_with fail;refine bodyPost_ret (v:=.agg #[.int .i64 s7,.slice A7 k7 c7,.slice B7 l7 d7]) (by simp [results,Tryz.f32];go_simp) rfl ?_;refine⟨_,rfl,?_,au (al hww.out hx4.out) Hsz.out _ _ _⟩;rw [HD2.out];exact Nr.put_z H7.out Hz.out _ _ _
theorem down_n (M:Nat) (hM:M≤33554432) (bits:Int) (vx:Value) (x:Rat) (w:World) (hx:Nr w vx x) (bx:Bq M x) :
    Calls Tryz.prog 32 #[vx,.int .i64 bits] w fun e w'=>∃v,e=.returned v∧Nr w' v (ax x bits (decide (x.num<0)))∧Ext w w':=by
  by_cases h0:x=0
  · exact down_n_zero bits vx x h0 w hx
  · exact down_n_main M hM bits vx x h0 w hx bx
theorem up_n (M:Nat) (hM:M≤33554432) (bits:Int) (vx:Value) (x:Rat) (w:World) (hx:Nr w vx x) (bx:Bq M x) :
    Calls Tryz.prog 34 #[vx,.int .i64 bits] w fun e w'=>∃v,e=.returned v∧Nr w' v (ax x bits (!decide (x.num<0)))∧Ext w w':=by
  obtain⟨s,A,k,ca,B,l,cb,rfl,hsg,hxt,hxb⟩:=hx.form;obtain⟨hS,hZ,hw1,hw2,hsz1⟩:=setupR3 w (.int .i64 s) (.slice A k ca) (.slice B l cb);have HS:=ZZ hS;have HZ:=ZZ hZ;have HW1:=ZZ hw1;have HW2:=ZZ hw2;have Hsz1:=ZZ hsz1;have Hx:=ZZ hx;have HXT:=ZZ hxt;have HSG:=ZZ hsg;have HM:=ZZ hM;have BN:=ZZ bx.neg;have HFIN:=ZZ (up_neg x bits);clear bx hM;have hc0:=hS _ hw2;clear hx hxt hxb hS hZ hw1 hw2 hsz1 hsg
  go_enter Tryz.func34,Tryz.ntmps34
  go_wp2_with fail;generalize World.alloc (World.alloc w (.cells #[.int .i64 s,.slice A k ca,.slice B l cb] _)) _=W2 at *
  generalize World.alloc w (.cells #[.int .i64 s,.slice A k ca,.slice B l cb] _)=W1 at *;generalize hg0:w.heap.size=g0 at *;have Hsz:=ZZ (show w.heap.size≤g0+1 by omega);clear hg0;have hww:=ZZ (al HW1.out HW2.out);refine(neg_n _ x _ (Hx.out.mono hww.out)).mono ?_;rintro e wz0 ⟨vz0,rfl,h9,k9⟩;have J0:=ZZ h9;have hx0:=ZZ (show Ext W2 wz0 from k9);clear h9 k9;go_wp2_with fail;refine(down_n M HM.out bits _ (-x) _ J0.out BN.out).mono ?_;rintro e wz1 ⟨vz1,rfl,h9,k9⟩;have J1:=ZZ h9;have hx1:=ZZ (al hx0.out k9);clear h9 k9;go_wp2_with fail;refine(neg_n _ _ _ J1.out).mono ?_;rintro e wz2 ⟨vz2,rfl,h9,k9⟩;obtain⟨s7,A7,k7,c7,B7,l7,d7,h7e,-⟩:=h9.form;subst h7e;have H7:=ZZ h9;have hx2:=ZZ (al hx1.out k9);have hz:=HZ.out _ hx2.out;obtain⟨z0,z1,z2,f0,f1,f2⟩:=aj hz;have Hz:=ZZ hz;clear h9 k9 hz;go_wp2_with fail;refine bodyPost_ret (v:=.agg #[.int .i64 s7,.slice A7 k7 c7,.slice B7 l7 d7]) (by simp [results,Tryz.f34];go_simp) rfl ?_;refine⟨_,rfl,?_,au (al hww.out hx2.out) Hsz.out _ _ _⟩;rw [←HFIN.out];exact Nr.put_z H7.out Hz.out _ _ _
end Go.Proofs.YtpgdefgdboijlaaGreatDoor
