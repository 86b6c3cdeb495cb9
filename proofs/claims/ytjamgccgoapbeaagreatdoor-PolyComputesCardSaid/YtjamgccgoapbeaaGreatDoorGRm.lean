/- The reference's numbers: sign, numerator, denominator; their making. Printed by gen_rm.py. The reference's natural numbers: their decimal text. -/
import Derived.Test.YtjamgccgoapbeaaGreatDoorGTe
import Derived.Test.YtjamgccgoapbeaaGreatDoorGRb
import Derived.Test.YtjamgccgoapbeaaGreatDoorGYd
import Derived.Laws.IdiomStrings
set_option linter.unusedVariables false
set_option maxRecDepth 100000
set_option maxHeartbeats 64000000
namespace Go.Proofs.YtjamgccgoapbeaaGreatDoor
open Go.RowKit
theorem dr_bits {n B:Nat} (h:n<2 ^ B):(dr n).length≤B:=by
 apply dig_length_le B30_two
 have:2 ^ B≤B30 ^ B:=Nat.pow_le_pow_left (by rw [B30_eq];omega) B
 omega
theorem sgnB_ne (b:Bool):sgnB b≠0:=by cases b <;> decide
theorem sgnB_xor (a b:Bool):sgnB (a != b)=sgnB a*sgnB b:=by cases a <;> cases b <;> rfl
theorem sgnB_neg (a:Bool):sgnB (!a) = - sgnB a:=by cases a <;> rfl
theorem sign_sgnB {q:Rat} (h:q≠0):q.num.sign=sgnB (decide (q.num<0)):=by
 have hn:q.num≠0:=fun e=>h (Rat.num_eq_zero.1 e);unfold sgnB
 by_cases hl:q.num<0
 ·rw [Int.sign_eq_neg_one_of_neg hl,if_pos (decide_eq_true hl)]
 ·rw [Int.sign_eq_one_of_pos (by omega),if_neg (fun e=>hl (of_decide_eq_true e))]
theorem rat_ne_zero {b:Bool} {n d:Nat} (hn:0<n) (hd:0<d):rat b n d≠0:=by
 intro e;have h:=rat_natAbs b n d (by omega);rw [e] at h;have hg:0<n / Nat.gcd n d:=Nat.div_pos (Nat.gcd_le_left d hn) (Nat.gcd_pos_of_pos_left _ hn)
 simp at h
 omega
theorem rat_sgn {b:Bool} {n d:Nat} (hn:0<n) (hd:0<d):(rat b n d).num.sign=sgnB b:=by
 rw [sign_sgnB (rat_ne_zero hn hd),rat_neg b n d (by omega) hn]
def bn (q:Rat):Nat:=if q.num=0 then 0 else q.den
theorem bn_rat {b:Bool} {n d:Nat} (hn:0<n) (hd:0<d):bn (rat b n d)=d / Nat.gcd n d:=by
 unfold bn;rw [if_neg (fun e=>rat_ne_zero hn hd (Rat.num_eq_zero.1 e)),rat_den _ _ _ (by omega)]
theorem bn_ne {q:Rat} (h:q≠0):bn q=q.den:=by
 unfold bn;rw [if_neg (fun e=>h (Rat.num_eq_zero.1 e))]
theorem mul_zero_iff {x y:Rat} (h:x.num.sign*y.num.sign=0):x*y=0:=by
 rcases Int.mul_eq_zero.1 h with h|h
 ·rw [Rat.num_eq_zero.1 (Int.sign_eq_zero_iff_zero.1 h),Rat.zero_mul]
 ·rw [Rat.num_eq_zero.1 (Int.sign_eq_zero_iff_zero.1 h),Rat.mul_zero]
def Nr (w:World) (v:Value) (q:Rat):Prop:=∃s vt vb,v=.agg #[.int .i64 s,vt,vb]∧q.num.sign=s∧Wr w vt q.num.natAbs∧Wr w vb (bn q)
theorem Nr.mono {w w':World} {v:Value} {q:Rat} (h:Nr w v q) (k:Ext w w'):Nr w' v q:=by
 obtain⟨s,vt,vb,e,hs,h1,h2⟩:=h;exact⟨s,vt,vb,e,hs,h1.mono k,h2.mono k⟩
theorem Nr.zero (w:World):Nr w (.agg #[.int .i64 0,.slice none 0 0,.slice none 0 0]) 0:=⟨0,_,_,rfl,rfl,Wr.zero w,Wr.zero w⟩
theorem nr_mk {W:World} {b:Bool} {s:Int} {vt vb:Value} {n d n' d':Nat} (hs:sgnB b=s) (hn:0<n) (hd:0<d) (h1:n'=n / Nat.gcd n d) (h2:d'=d / Nat.gcd n d) (ha:Wr W vt n') (hb:Wr W vb d'):Nr W (.agg #[.int .i64 s,vt,vb]) (rat b n d):=by
 subst hs;refine⟨_,vt,vb,rfl,rat_sgn hn hd,?_,?_⟩
 ·rw [rat_natAbs b n d (by omega),←h1];exact ha
 ·rw [bn_rat hn hd,←h2];exact hb
theorem Nr.form {w:World} {v:Value} {q:Rat} (h:Nr w v q):∃s A k c B l d,v=.agg #[.int .i64 s,.slice A k c,.slice B l d]∧q.num.sign=s∧Wr w (.slice A k c) q.num.natAbs∧Wr w (.slice B l d) (bn q):=by
 obtain⟨s,vt,vb,e,hs,h1,h2⟩:=h;obtain⟨A,c,rfl,hc,hA⟩:=h1;obtain⟨B,d,rfl,hd,hB⟩:=h2;exact⟨s,A,_,c,B,_,d,e,hs,⟨A,c,rfl,hc,hA⟩,⟨B,d,rfl,hd,hB⟩⟩
theorem Wr.put_z {W:World} {v:Value} {n g:Nat} {T:TypeId} {A0 B0:Option Addr} {k0 c0 k1 c1:Nat} (h:Wr W v n) (hg:W.heap[g]?=some (.cells #[.int .i64 0,.slice A0 k0 c0,.slice B0 k1 c1] T (0,0))) (a b c:Value):Wr (((W.setCell ⟨g,0,none⟩ a).setCell ⟨g,1,none⟩ b).setCell ⟨g,2,none⟩ c) v n:=by
 rcases Nat.eq_zero_or_pos n with h0|h0
 ·subst h0
  obtain⟨A,cc,e,hc,hcl⟩:=h;refine⟨A,cc,e,hc,?_⟩
  left
  have hz:dr 0=[]:=by simp [dr,dig_zero]
  rw [hz];rfl
 ·have hne:v.ownBlock≠some g:=by
   obtain⟨A,cc,rfl,hc,hcl⟩:=h;obtain⟨t1,t2,t3,-,-⟩:=dr_top h0;obtain⟨b,o,rfl,hce⟩:=hcl.i t3;intro e;obtain rfl:b=g:=Option.some.inj e;have h1:=hce ((dr n).length - 1) (by omega);rw [cell_of_row W b _ _ _ _ hg] at h1;generalize (dr n).getD ((dr n).length - 1) 0=top at *
   rcases(show o+((dr n).length - 1)=0∨o+((dr n).length - 1)=1∨o+((dr n).length - 1)=2∨3≤o+((dr n).length - 1) by omega) with e|e|e|e
   ·rw [e] at h1
    have:=Value.int.inj (Option.some.inj h1)
    omega
   ·rw [e] at h1;simp at h1
   ·rw [e] at h1;simp at h1
   ·rw [Array.getElem?_eq_none (by simpa using e)] at h1;cases h1
  exact((h.set_ hne).set_ hne).set_ hne
theorem Wr.form' {w:World} {v:Value} {n:Nat} (h:Wr w v n):∃A k c,v=.slice A k c:=by
 obtain⟨A,c,rfl,-,-⟩:=h;exact⟨A,_,c,rfl⟩
theorem Wr.formL {w:World} {v:Value} {n:Nat} (h:Wr w v n):∃A k c,v=.slice A k c∧(k=0↔n=0):=by
 obtain⟨A,c,rfl,-,-⟩:=h;refine⟨A,_,c,rfl,?_⟩;rw [List.length_eq_zero_iff];exact dig_eq_nil B30_two
theorem rowR {w W:World} {x y z:Value} (h:Ext (w.alloc (.cells #[x,y,z] 62)) W):W.heap[w.heap.size]?=some (.cells #[x,y,z] 62 (0,0)):=
 (h.block _ (by simp)).trans (heap_alloc_new w _)
theorem ak {W:World} {g:Nat} {x y z:Value} {T:TypeId} (h:W.heap[g]?=some (.cells #[x,y,z] T (0,0))):W.cell? ⟨g,0,none⟩=some x∧W.cell? ⟨g,1,none⟩=some y∧W.cell? ⟨g,2,none⟩=some z∧W.frozen? ⟨g,0,none⟩=false∧W.frozen? ⟨g,1,none⟩=false∧W.frozen? ⟨g,2,none⟩=false:=by
 refine⟨?_,?_,?_,?_,?_,?_⟩ <;> simp [World.cell?,World.frozen?,h]
theorem av {w W:World} {g:Nat} (h:Ext w W) (hg:w.heap.size≤g) (a b c:Value):Ext w (((W.setCell ⟨g,0,none⟩ a).setCell ⟨g,1,none⟩ b).setCell ⟨g,2,none⟩ c):=
 ((h.setCell hg _).setCell hg _).setCell hg _
theorem Nr.put_z {W:World} {v:Value} {q:Rat} {g:Nat} {T:TypeId} {A0 B0:Option Addr} {k0 c0 k1 c1:Nat} (h:Nr W v q) (hg:W.heap[g]?=some (.cells #[.int .i64 0,.slice A0 k0 c0,.slice B0 k1 c1] T (0,0))) (a b c:Value):Nr (((W.setCell ⟨g,0,none⟩ a).setCell ⟨g,1,none⟩ b).setCell ⟨g,2,none⟩ c) v q:=by
 obtain⟨s,vt,vb,e,hs,h1,h2⟩:=h;exact⟨s,vt,vb,e,hs,h1.put_z hg _ _ _,h2.put_z hg _ _ _⟩
def FrN (B:Nat) (v:Value):Prop:=∀s A k c A' l d,v=.agg #[.int .i64 s,.slice A k c,.slice A' l d]→Fr B (.slice A k c)∧Fr B (.slice A' l d)
def BlC (C:Nat→Prop) (v:Value):Prop:=∀a k c,v=.slice (some a) k c→0<k→C a.block
def BlN (C:Nat→Prop) (v:Value):Prop:=∀s A k c A' l d,v=.agg #[.int .i64 s,.slice A k c,.slice A' l d]→BlC C (.slice A k c)∧BlC C (.slice A' l d)
theorem Fr.blc {B:Nat} {v:Value} {C:Nat→Prop} (h:Fr B v) (hC:∀b,B≤b→C b):BlC C v:=by rintro a k c rfl -;exact hC _ (h _ rfl)
theorem bln_mk {C:Nat→Prop} {s:Int} {A A':Option Addr} {k c l d:Nat} (h1:BlC C (.slice A k c)) (h2:BlC C (.slice A' l d)):BlN C (.agg #[.int .i64 s,.slice A k c,.slice A' l d]):=by
 intro s1 A1 k1 c1 A2 l2 d2 e
 simp only [Value.agg.injEq,Array.mk.injEq,List.cons.injEq,Value.slice.injEq] at e
 obtain⟨-,⟨rfl,rfl,rfl⟩,⟨rfl,rfl,rfl⟩,-⟩:=e;exact⟨h1,h2⟩
theorem blc_none {C:Nat→Prop} {k c:Nat}:BlC C (.slice none k c):=by intro a k c e;cases e
def FrM (w:World) (vt vb v:Value):Prop:=(∀B,B≤w.heap.size→Fr B vt→Fr B vb→FrN B v)∧∀C:Nat→Prop,(∀b,w.heap.size≤b→C b)→BlC C vt→BlC C vb→BlN C v
theorem frn_mk {B:Nat} {s:Int} {A A':Option Addr} {k c l d:Nat} (h1:Fr B (.slice A k c)) (h2:Fr B (.slice A' l d)):FrN B (.agg #[.int .i64 s,.slice A k c,.slice A' l d]):=by
 intro s1 A1 k1 c1 A2 l2 d2 e
 simp only [Value.agg.injEq,Array.mk.injEq,List.cons.injEq,Value.slice.injEq] at e
 obtain⟨-,⟨rfl,rfl,rfl⟩,⟨rfl,rfl,rfl⟩,-⟩:=e;exact⟨h1,h2⟩
theorem Fr.mono {B C:Nat} {v:Value} (h:Fr C v) (k:B≤C):Fr B v:=fun b hb=>Nat.le_trans k (h b hb)
theorem FrN.mono {B C:Nat} {v:Value} (h:FrN C v) (k:B≤C):FrN B v:=fun s A n c A' l d e=>⟨(h s A n c A' l d e).1.mono k,(h s A n c A' l d e).2.mono k⟩
theorem made_zero (b:Bool) (s:Int) (hs:sgnB b=s) (vt vb:Value) (n d:Nat) (h0:0<d) (w:World) (ha:Wr w vt n) (hb:Wr w vb d) (sa:(dr n).length≤1073741824) (sb:(dr d).length≤1073741824) (hn:n=0):Calls Tryz.prog 131 #[.int .i64 s,vt,vb] w fun e w'=>∃v,e=.returned v∧Nr w' v (rat b n d)∧Ext w w'∧FrM w vt vb v:=by
 obtain⟨A,k,ca,rfl,hk⟩:=ha.formL;obtain⟨B,l,cb,rfl⟩:=hb.form';have hs0:(s == 0)=false:=by rw [beq_eq_false_iff_ne,←hs];exact sgnB_ne b
 have K0:=ZZ (ab w (.cells #[.int .i64 0,.slice none 0 0,.slice none 0 0] 62));have R0:=ZZ (ae (w.alloc (.cells #[.int .i64 0,.slice none 0 0,.slice none 0 0] 62)));have HA0:=ZZ ha;have HB0:=ZZ hb;have HA:=ZZ (ha.mono K0.out);have HB:=ZZ (hb.mono K0.out);have HS:=ZZ hs;have H0:=ZZ h0;have SA:=ZZ sa;have SB:=ZZ sb;have HK:=ZZ hk;subst hn;obtain rfl:k=0:=HK.out.2 rfl;clear ha hb hs h0 sa sb hk;obtain⟨z0,z1,z2,f0,f1,f2⟩:=ak (rowR R0.out)
 go_enter Tryz.func131,Tryz.ntmps131
 go_wp2_with fail;refine bodyPost_ret (v:=.agg #[.int .i64 0,.slice none 0 0,.slice none 0 0]) (by simp [results,Tryz.f131];go_simp) rfl ?_
 exact⟨_,rfl,by rw [rat_zero];exact Nr.zero _,ab _ _,⟨fun B _ _ _=>frn_mk (fun b hb=>by cases hb) (fun b hb=>by cases hb),fun C _ _ _=>bln_mk blc_none blc_none⟩⟩
theorem made_one (b:Bool) (s:Int) (hs:sgnB b=s) (vt vb:Value) (n d:Nat) (h0:0<d) (w:World) (ha:Wr w vt n) (hb:Wr w vb d) (sa:(dr n).length≤1073741824) (sb:(dr d).length≤1073741824) (hn:0<n) (h1:n=1):Calls Tryz.prog 131 #[.int .i64 s,vt,vb] w fun e w'=>∃v,e=.returned v∧Nr w' v (rat b n d)∧Ext w w'∧FrM w vt vb v:=by
 obtain⟨A,k,ca,rfl,hk⟩:=ha.formL;obtain⟨B,l,cb,rfl⟩:=hb.form';have hs0:(s == 0)=false:=by rw [beq_eq_false_iff_ne,←hs];exact sgnB_ne b
 have K0:=ZZ (ab w (.cells #[.int .i64 0,.slice none 0 0,.slice none 0 0] 62));have R0:=ZZ (ae (w.alloc (.cells #[.int .i64 0,.slice none 0 0,.slice none 0 0] 62)));have HA0:=ZZ ha;have HB0:=ZZ hb;have HA:=ZZ (ha.mono K0.out);have HB:=ZZ (hb.mono K0.out);have HS:=ZZ hs;have H0:=ZZ h0;have SA:=ZZ sa;have SB:=ZZ sb;have HK:=ZZ hk;have H1:=ZZ h1;clear h1;have HN:=ZZ hn;have hkp:((k:Int) == 0)=false:=by rw [beq_eq_false_iff_ne];intro e;have:=hk.1 (by omega);omega
 clear ha hb hs h0 sa sb hk hn;obtain⟨z0,z1,z2,f0,f1,f2⟩:=ak (rowR R0.out)
 go_enter Tryz.func131,Tryz.ntmps131
 go_wp2_with fail;refine(is1_r _ (n) true (by first|exact decide_eq_true H1.out|exact decide_eq_false H1.out) _ HA.out).mono ?_
 rintro e wi ⟨rfl,rfl⟩;go_wp2_with fail;refine bodyPost_ret (v:=.agg #[.int .i64 s,.slice A k ca,.slice B l cb]) (by simp [results,Tryz.f131];go_simp) rfl ?_;exact⟨_,rfl,nr_mk HS.out HN.out H0.out (by rw [H1.out,Nat.gcd_one_left,Nat.div_one]) (by rw [H1.out,Nat.gcd_one_left,Nat.div_one]) (HA0.out.mono (ab _ _)) (HB0.out.mono (ab _ _)),ab _ _,⟨fun B _ fa fb=>frn_mk fa fb,fun C _ fa fb=>bln_mk fa fb⟩⟩
theorem made_whole (b:Bool) (s:Int) (hs:sgnB b=s) (vt vb:Value) (n d:Nat) (h0:0<d) (w:World) (ha:Wr w vt n) (hb:Wr w vb d) (sa:(dr n).length≤1073741824) (sb:(dr d).length≤1073741824) (hn:0<n) (h1:¬ n=1) (h2:d=1):Calls Tryz.prog 131 #[.int .i64 s,vt,vb] w fun e w'=>∃v,e=.returned v∧Nr w' v (rat b n d)∧Ext w w'∧FrM w vt vb v:=by
 obtain⟨A,k,ca,rfl,hk⟩:=ha.formL;obtain⟨B,l,cb,rfl⟩:=hb.form';have hs0:(s == 0)=false:=by rw [beq_eq_false_iff_ne,←hs];exact sgnB_ne b
 have K0:=ZZ (ab w (.cells #[.int .i64 0,.slice none 0 0,.slice none 0 0] 62));have R0:=ZZ (ae (w.alloc (.cells #[.int .i64 0,.slice none 0 0,.slice none 0 0] 62)));have HA0:=ZZ ha;have HB0:=ZZ hb;have HA:=ZZ (ha.mono K0.out);have HB:=ZZ (hb.mono K0.out);have HS:=ZZ hs;have H0:=ZZ h0;have SA:=ZZ sa;have SB:=ZZ sb;have HK:=ZZ hk;have H1:=ZZ h1;have H2:=ZZ h2;clear h1 h2;have HN:=ZZ hn;have hkp:((k:Int) == 0)=false:=by rw [beq_eq_false_iff_ne];intro e;have:=hk.1 (by omega);omega
 clear ha hb hs h0 sa sb hk hn;obtain⟨z0,z1,z2,f0,f1,f2⟩:=ak (rowR R0.out)
 go_enter Tryz.func131,Tryz.ntmps131
 go_wp2_with fail;refine(is1_r _ (n) false (by first|exact decide_eq_true H1.out|exact decide_eq_false H1.out) _ HA.out).mono ?_
 rintro e wi ⟨rfl,rfl⟩;go_wp2_with fail;refine(is1_r _ (d) true (by first|exact decide_eq_true H2.out|exact decide_eq_false H2.out) _ HB.out).mono ?_;rintro e wi ⟨rfl,rfl⟩;go_wp2_with fail;refine bodyPost_ret (v:=.agg #[.int .i64 s,.slice A k ca,.slice B l cb]) (by simp [results,Tryz.f131];go_simp) rfl ?_;exact⟨_,rfl,nr_mk HS.out HN.out H0.out (by rw [H2.out,Nat.gcd_one_right,Nat.div_one]) (by rw [H2.out,Nat.gcd_one_right,Nat.div_one]) (HA0.out.mono (ab _ _)) (HB0.out.mono (ab _ _)),ab _ _,⟨fun B _ fa fb=>frn_mk fa fb,fun C _ fa fb=>bln_mk fa fb⟩⟩
theorem made_low (b:Bool) (s:Int) (hs:sgnB b=s) (vt vb:Value) (n d:Nat) (h0:0<d) (w:World) (ha:Wr w vt n) (hb:Wr w vb d) (sa:(dr n).length≤1073741824) (sb:(dr d).length≤1073741824) (hn:0<n) (h1:¬ n=1) (h2:¬ d=1) (hg:Nat.gcd n d=1):Calls Tryz.prog 131 #[.int .i64 s,vt,vb] w fun e w'=>∃v,e=.returned v∧Nr w' v (rat b n d)∧Ext w w'∧FrM w vt vb v:=by
 obtain⟨A,k,ca,rfl,hk⟩:=ha.formL;obtain⟨B,l,cb,rfl⟩:=hb.form';have hs0:(s == 0)=false:=by rw [beq_eq_false_iff_ne,←hs];exact sgnB_ne b
 have K0:=ZZ (ab w (.cells #[.int .i64 0,.slice none 0 0,.slice none 0 0] 62));have R0:=ZZ (ae (w.alloc (.cells #[.int .i64 0,.slice none 0 0,.slice none 0 0] 62)));have HA0:=ZZ ha;have HB0:=ZZ hb;have HA:=ZZ (ha.mono K0.out);have HB:=ZZ (hb.mono K0.out);have HS:=ZZ hs;have H0:=ZZ h0;have SA:=ZZ sa;have SB:=ZZ sb;have HK:=ZZ hk;have H1:=ZZ h1;have H2:=ZZ h2;have HG:=ZZ hg;have HGP:=ZZ (show 0<Nat.gcd n d from Nat.gcd_pos_of_pos_left _ hn);clear h1 h2 hg;have HN:=ZZ hn;have hkp:((k:Int) == 0)=false:=by rw [beq_eq_false_iff_ne];intro e;have:=hk.1 (by omega);omega
 clear ha hb hs h0 sa sb hk hn
 go_enter Tryz.func131,Tryz.ntmps131
 go_wp2_with fail;refine(is1_r _ (n) false (by first|exact decide_eq_true H1.out|exact decide_eq_false H1.out) _ HA.out).mono ?_
 rintro e wi ⟨rfl,rfl⟩;go_wp2_with fail;refine(is1_r _ (d) false (by first|exact decide_eq_true H2.out|exact decide_eq_false H2.out) _ HB.out).mono ?_;rintro e wi ⟨rfl,rfl⟩;go_wp2_with fail;refine(divisor_r _ _ n d H0.out _ HA.out HB.out SA.out SB.out).mono ?_;rintro e w2 ⟨v2,rfl,h2,k2⟩;obtain⟨G2,g2,c2,rfl⟩:=h2.form';have H3:=ZZ h2;have K2:=ZZ k2;have HA2:=ZZ (HA.out.mono k2);have HB2:=ZZ (HB.out.mono k2);clear h2 k2;go_wp2_with fail;obtain⟨z0,z1,z2,f0,f1,f2⟩:=ak (rowR K2.out);refine(is1_r _ (Nat.gcd n d) true (by first|exact decide_eq_true HG.out|exact decide_eq_false HG.out) _ H3.out).mono ?_;rintro e wi ⟨rfl,rfl⟩;go_wp2_with fail;refine bodyPost_ret (v:=.agg #[.int .i64 s,.slice A k ca,.slice B l cb]) (by simp [results,Tryz.f131];go_simp) rfl ?_;refine⟨_,rfl,?_,av (am K0.out K2.out) (Nat.le_refl _) _ _ _,⟨fun B _ fa fb=>frn_mk fa fb,fun C _ fa fb=>bln_mk fa fb⟩⟩;exact Nr.put_z (nr_mk HS.out HN.out H0.out (by rw [HG.out,Nat.div_one]) (by rw [HG.out,Nat.div_one]) HA2.out HB2.out) (rowR K2.out) _ _ _
theorem made_red (b:Bool) (s:Int) (hs:sgnB b=s) (vt vb:Value) (n d:Nat) (h0:0<d) (w:World) (ha:Wr w vt n) (hb:Wr w vb d) (sa:(dr n).length≤1073741824) (sb:(dr d).length≤1073741824) (hn:0<n) (h1:¬ n=1) (h2:¬ d=1) (hg:¬ Nat.gcd n d=1):Calls Tryz.prog 131 #[.int .i64 s,vt,vb] w fun e w'=>∃v,e=.returned v∧Nr w' v (rat b n d)∧Ext w w'∧FrM w vt vb v:=by
 obtain⟨A,k,ca,rfl,hk⟩:=ha.formL;obtain⟨B,l,cb,rfl⟩:=hb.form';have hs0:(s == 0)=false:=by rw [beq_eq_false_iff_ne,←hs];exact sgnB_ne b
 have K0:=ZZ (ab w (.cells #[.int .i64 0,.slice none 0 0,.slice none 0 0] 62));have R0:=ZZ (ae (w.alloc (.cells #[.int .i64 0,.slice none 0 0,.slice none 0 0] 62)));have HA0:=ZZ ha;have HB0:=ZZ hb;have HA:=ZZ (ha.mono K0.out);have HB:=ZZ (hb.mono K0.out);have HS:=ZZ hs;have H0:=ZZ h0;have SA:=ZZ sa;have SB:=ZZ sb;have HK:=ZZ hk;have H1:=ZZ h1;have H2:=ZZ h2;have HG:=ZZ hg;have HGP:=ZZ (show 0<Nat.gcd n d from Nat.gcd_pos_of_pos_left _ hn);clear h1 h2 hg;have HN:=ZZ hn;have hkp:((k:Int) == 0)=false:=by rw [beq_eq_false_iff_ne];intro e;have:=hk.1 (by omega);omega
 clear ha hb hs h0 sa sb hk hn
 go_enter Tryz.func131,Tryz.ntmps131
 go_wp2_with fail;refine(is1_r _ (n) false (by first|exact decide_eq_true H1.out|exact decide_eq_false H1.out) _ HA.out).mono ?_
 rintro e wi ⟨rfl,rfl⟩;go_wp2_with fail;refine(is1_r _ (d) false (by first|exact decide_eq_true H2.out|exact decide_eq_false H2.out) _ HB.out).mono ?_;rintro e wi ⟨rfl,rfl⟩;go_wp2_with fail;refine(divisor_r _ _ n d H0.out _ HA.out HB.out SA.out SB.out).mono ?_;rintro e w2 ⟨v2,rfl,h2,k2⟩;obtain⟨G2,g2,c2,rfl⟩:=h2.form';have H3:=ZZ h2;have K2:=ZZ k2;have HA2:=ZZ (HA.out.mono k2);have HB2:=ZZ (HB.out.mono k2);clear h2 k2;go_wp2_with fail;have SG:=ZZ (show (dr (Nat.gcd n d)).length≤1073741824 from Nat.le_trans (dig_length_mono B30_two (Nat.gcd_le_right _ H0.out)) SB.out);refine(is1_r _ (Nat.gcd n d) false (by first|exact decide_eq_true HG.out|exact decide_eq_false HG.out) _ H3.out).mono ?_;rintro e wi ⟨rfl,rfl⟩;go_wp2_with fail;refine(divided_f _ _ n (Nat.gcd n d) HGP.out _ HA2.out H3.out (by have:=SA.out;omega) (by have:=SG.out;omega)).mono ?_;rintro e w3 ⟨v3,u3,rfl,h3,-,k3,fr⟩;obtain⟨P3,p3,c3,rfl⟩:=h3.form';have H4:=ZZ h3;have FR1:=ZZ fr;clear fr;have K3:=ZZ (am K2.out k3);have HB3:=ZZ (HB2.out.mono k3);have H33:=ZZ (H3.out.mono k3);clear h3 k3;go_wp2_with fail;refine(divided_f _ _ d (Nat.gcd n d) HGP.out _ HB3.out H33.out (by have:=SB.out;omega) (by have:=SG.out;omega)).mono ?_;rintro e w4 ⟨v4,u4,rfl,h4,-,k4,fr⟩;obtain⟨P4,p4,c4,rfl⟩:=h4.form';have H5:=ZZ h4;have FR2:=ZZ fr;clear fr;have K4:=ZZ (am K3.out k4);have H44:=ZZ (H4.out.mono k4);clear h4 k4;obtain⟨z0,z1,z2,f0,f1,f2⟩:=ak (rowR K4.out);go_wp2_with fail
 refine bodyPost_ret (v:=.agg #[.int .i64 s,.slice P3 p3 c3,.slice P4 p4 c4]) (by simp [results,Tryz.f131];go_simp) rfl ?_;refine⟨_,rfl,?_,av (am K0.out K4.out) (Nat.le_refl _) _ _ _,⟨fun B hB _ _=>frn_mk (FR1.out.mono (Nat.le_trans hB (am K0.out K2.out).size)) (FR2.out.mono (Nat.le_trans hB (am K0.out K3.out).size)),fun C hC _ _=>bln_mk (FR1.out.blc (fun b hb=>hC b (Nat.le_trans (am K0.out K2.out).size hb))) (FR2.out.blc (fun b hb=>hC b (Nat.le_trans (am K0.out K3.out).size hb)))⟩⟩;exact Nr.put_z (nr_mk HS.out HN.out H0.out rfl rfl H44.out H5.out) (rowR K4.out) _ _ _
theorem made_f (b:Bool) (s:Int) (hs:sgnB b=s) (vt vb:Value) (n d:Nat) (h0:0<d) (w:World) (ha:Wr w vt n) (hb:Wr w vb d) (sa:(dr n).length≤1073741824) (sb:(dr d).length≤1073741824):Calls Tryz.prog 131 #[.int .i64 s,vt,vb] w fun e w'=>∃v,e=.returned v∧Nr w' v (rat b n d)∧Ext w w'∧FrM w vt vb v:=by
 rcases Nat.eq_zero_or_pos n with hn|hn
 ·exact made_zero b s hs vt vb n d h0 w ha hb sa sb hn
 ·by_cases h1:n=1
  ·exact made_one b s hs vt vb n d h0 w ha hb sa sb hn h1
  ·by_cases h2:d=1
   ·exact made_whole b s hs vt vb n d h0 w ha hb sa sb hn h1 h2
   ·by_cases hg:Nat.gcd n d=1
    ·exact made_low b s hs vt vb n d h0 w ha hb sa sb hn h1 h2 hg
    ·exact made_red b s hs vt vb n d h0 w ha hb sa sb hn h1 h2 hg
theorem made_r (b:Bool) (s:Int) (hs:sgnB b=s) (vt vb:Value) (n d:Nat) (h0:0<d) (w:World) (ha:Wr w vt n) (hb:Wr w vb d) (sa:(dr n).length≤1073741824) (sb:(dr d).length≤1073741824):Calls Tryz.prog 131 #[.int .i64 s,vt,vb] w fun e w'=>∃v,e=.returned v∧Nr w' v (rat b n d)∧Ext w w':=
 (made_f b s hs vt vb n d h0 w ha hb sa sb).mono fun e w' ⟨v,h1,h2,h3,_⟩=>⟨v,h1,h2,h3⟩
end Go.Proofs.YtjamgccgoapbeaaGreatDoor
set_option linter.unusedVariables false
set_option maxRecDepth 100000
set_option maxHeartbeats 64000000
namespace Go.Proofs.YtjamgccgoapbeaaGreatDoor
open Go.RowKit
def PartS (q rest i R:Nat) (p:List UInt8):Prop:=
 p.length=i∧(∀c ∈ p,isDig c=true)∧natOf p+10 ^ i*R=rest∧(q=0→R=0→p≠[]→p.head?≠some 48)
theorem part_start (q rest:Nat):PartS q rest 0 rest []:=⟨rfl,by simp,by simp [natOf],by simp⟩
theorem part_step {q rest i R:Nat} {p:List UInt8} (h:PartS q rest i R p) (hc:0<q∨0<R):PartS q rest (i+1) (R / 10) (UInt8.ofNat (48+R % 10) :: p):=by
 obtain⟨h1,h2,h3,h4⟩:=h;have hd:(UInt8.ofNat (48+R % 10)).toNat=48+R % 10:=dchar _ (by omega);refine⟨by simp [h1],?_,?_,?_⟩
 ·intro c hc
  rcases List.mem_cons.1 hc with rfl|hc
  ·rw [isDig_iff,hd];omega
  ·exact h2 c hc
 ·rw [natOf_cons,hd,h1,Nat.pow_succ]
  have e:48+R % 10 - 48=R % 10:=by omega
  rw [e,←h3];have e2:10 ^ i*R=10 ^ i*(10*(R / 10)+R % 10):=by rw [Nat.div_add_mod]
  have e3:10 ^ i*10*(R / 10)=10 ^ i*(10*(R / 10)):=by rw [Nat.mul_assoc]
  rw [e2,e3,Nat.mul_add,Nat.mul_comm (R % 10)];omega
 ·intro hq hR _ hh
  rw [List.head?_cons] at hh
  have:=congrArg UInt8.toNat (Option.some.inj hh)
  rw [hd] at this;have h9:(48:UInt8).toNat=48:=rfl;omega
def DecS (n m:Nat) (y:List UInt8):Prop:=Lib.decDigits n=(if m=0 then [] else Lib.decDigits m) ++ y
theorem dec_start {n:Nat} (h:0<n):DecS n n []:=by
 unfold DecS;rw [if_neg (by omega),List.append_nil]
theorem dec_done {n:Nat} {y:List UInt8} (h:DecS n 0 y):Lib.decDigits n=y:=by
 unfold DecS at h;simpa using h
theorem dec_round {n m q rest i R:Nat} {p y:List UInt8} (h:DecS n m y) (hm:0<m) (hq:m=q*1000000000+rest) (hr:rest<1000000000) (hp:PartS q rest i R p) (he:i=9∨(q=0∧R=0)) (hi:i≤9):DecS n q (p ++ y):=by
 obtain⟨h1,h2,h3,h4⟩:=hp
 have hR:R=0:=by
  rcases he with rfl|he
  ·rcases Nat.eq_zero_or_pos R with h0|h0
   ·exact h0
   ·have:10 ^ 9*1≤10 ^ 9*R:=Nat.mul_le_mul_left _ h0
    omega
  ·exact he.2
 subst hR;have hn:natOf p=rest:=by omega
 have key:Lib.decDigits m=(if q=0 then [] else Lib.decDigits q) ++ p:=by
  rcases Nat.eq_zero_or_pos q with hq0|hq0
  ·subst hq0
   rw [if_pos rfl,List.nil_append];have hm':m=natOf p:=by omega
   have hne:p≠[]:=by
    rintro rfl
    simp [natOf] at hm';omega
   rw [hm'];exact dec_natOf p h2 hne (Or.inl (h4 rfl rfl hne))
  ·rw [if_neg (by omega)]
   have h9:i=9:=by omega
   have e1:natOf (Lib.decDigits q ++ p)=m:=by
    rw [natOf_append,natOf_dec,h1,h9,hn,hq]
   have hnn:=dec_ne_nil q;rw [←e1];refine dec_natOf _ ?_ (by simp [hnn]) (Or.inl ?_)
   ·intro c hc
    rcases List.mem_append.1 hc with hc|hc
    ·exact dec_isDig q c hc
    ·exact h2 c hc
   ·cases hd:Lib.decDigits q with
    | nil=>exact absurd hd hnn
    | cons a t=>
     have:=dec_head q (by omega)
     rw [hd] at this;exact this
 unfold DecS at *;rw [h,if_neg (by omega),key,List.append_assoc]
theorem decS_len {n m:Nat} {y:List UInt8} (h:DecS n m y):y.length≤(Lib.decDigits n).length:=by
 unfold DecS at h;rw [h,List.length_append];omega
theorem dec_len_r {n M:Nat} (h:n<2 ^ M):(Lib.decDigits n).length≤M+1:=dec_length_le (M+1) n (by omega) (by
 have h7:2 ^ M≤10 ^ M:=Nat.pow_le_pow_left (by decide) _;have h8:10 ^ M≤10 ^ (M+1):=Nat.pow_le_pow_right (by decide) (by omega)
 omega)
theorem dec_outer {d R N c R' A Q:Nat} (h:A=Q*N+R) (hc:c*N+R'=R*1073741824+d):d+B30*A=(c+B30*Q)*N+R':=by
 rw [h,B30_eq];grind
theorem drop_set {qs:List Nat} {k c:Nat} (h:k<qs.length):num B30 ((qs.set k c).drop k)=c+B30*num B30 (qs.drop (k+1)):=by
 rw [num_drop_cons (by rw [List.length_set];exact h)]
 congr 1
 ·simp [List.getD_eq_getElem?_getD,h]
 ·rw [List.drop_set_of_lt (by omega)]
theorem decimal_r (M:Nat) (hM:M≤1099511627776) (va:Value) (n:Nat) (w:World) (ha:Wr w va n) (hn:n<2 ^ M):Calls Tryz.prog 141 #[va] w fun e w'=>e=.returned (.string ⟨(Lib.decDigits n).toArray⟩)∧Ext w w':=by
 have HL:=ZZ (dec_len_r hn);have HA:=ZZ ha;have HN:=ZZ hn
 rcases Nat.eq_zero_or_pos n with h0|h0
 ·subst h0
  obtain⟨A,ca,rfl,hca,hA⟩:=ha;have hz:(dr 0).length=0:=by simp [dr,dig_zero]
  rw [hz] at hca ⊢;have HZ:=ZZ dec_zero;clear hn hA hca
  go_enter Tryz.func141,Tryz.ntmps141
  go_wp2_with fail;go_ret
  exact⟨by rw [HZ.out];rfl,ae _⟩
 ·obtain⟨A,ca,rfl,hca,hA⟩:=ha
  have hlp:0<(dr n).length:=(dr_top h0).2.2.1;have HST:=ZZ (dec_start h0);generalize (dr n).length=len at *;have hlp':((len:Int) == 0)=false:=by simp;omega
  clear hn hA hca h0
  go_enter Tryz.func141,Tryz.ntmps141
  go_wp2_with fail;clear hlp hlp'
  go_loopg [0,3] n (fun gk a s wr=>∃y:List UInt8,s=.string ⟨y.toArray⟩∧Hid (DecS n gk y)∧Hid (Wr wr a gk)∧Hid (Ext w wr)∧Hid (gk≤n))
  case atStart=>exact⟨[],rfl,HST,HA,ZZ (ae _),ZZ (Nat.le_refl _)⟩
  case round=>
   obtain⟨m,hm⟩:∃m,m=gk:=⟨_,rfl⟩;subst hm;obtain⟨y,rfl,HD,HW,HE,HLE⟩:=hrel;have hyl:=decS_len HD.out;have hyl2:=HL.out;have HYL:=ZZ (show y.length≤M+1 by omega);clear hyl hyl2
   rcases Nat.eq_zero_or_pos m with hz|hz
   ·subst hz
    obtain⟨A,ca,rfl,hca,hA⟩:=HW.out;have hz:(dr 0).length=0:=by simp [dr,dig_zero]
    rw [hz] at hca ⊢;have HDN:=ZZ (dec_done HD.out);clear hA hca hz;go_wp2_with fail;go_ret;exact⟨by rw [HDN.out];rfl,HE.out⟩
   ·obtain⟨A,ca,rfl,hca,hA⟩:=HW.out
    have hlp:0<(dr m).length:=(dr_top hz).2.2.1
    have hlm:(dr m).length≤1099511627776:=by
     have h1:=dig_length_mono B30_two HLE.out;have h2:=dr_bits HN.out;unfold dr at h2 ⊢;omega
    have em:=num_dr m;have ml:=dr_lt m;obtain⟨b,o,rfl,hcb⟩:=hA.i hlp;have HCB:=ZZ hcb;generalize dr m=ms at *;have EM:=ZZ em;have ML:=ZZ ml;have HM0:=ZZ hz;have hmk:=mk_digits ms.length (ms.length:Int) rfl (by omega);have hwl:IntKind.i64.wrap ((ms.length:Int) - 1)=(ms.length:Int) - 1:=IntWalk.i64_in _ (by omega);have hlp':(0:Int)<(ms.length:Int):=by omega
    have HHM:=ZZ hM;clear hcb hA em ml hz hca hM;go_wp2_with fail;clear hmk hwl hlp';have XW:=ZZ (ab wr (.cells ((zs ms.length).map i64n).toArray 2))
    go_loopw [5,6] (fun r i wx=>∃(k R:Nat) (qs:List Nat),k≤ms.length∧i=.int .i64 ((k:Int) - 1)∧r=.int .i64 (R:Int)∧R<1000000000∧qs.length=ms.length∧(∀d ∈ qs,d<B30)∧BkI wx wr.heap.size qs∧Below wr.heap.size wr wx∧num B30 (ms.drop k)=num B30 (qs.drop k)*1000000000+R∧∀j,j<k→qs.getD j 0=0) (fun _ i _=>(intOf i+1).toNat)
    case atStart=>exact⟨ms.length,0,zs ms.length,Nat.le_refl _,rfl,rfl,by omega,zs_length _,zs_lt (by rw [B30_eq];omega) _,BkI.new _ _,ab _ _,by
     rw [List.drop_of_length_le (Nat.le_refl _),List.drop_of_length_le (by rw [zs_length];omega)];simp,fun j _=>by
     simp [zs,List.getD_eq_getElem?_getD,List.getElem?_replicate];split <;> rfl⟩
    case round=>
     rename World=>W2;obtain⟨k,R,qs,hk,rfl,rfl,hR,hq,hql,hbk,hbel,hnum,hzq⟩:=hrel;have HQ:=ZZ hq;have HQL:=ZZ hql;have HBK:Hid (BkI W2 wr.heap.size qs):=hbk;have HBE:=ZZ hbel;have HNUM:=ZZ hnum;have HZQ:=ZZ hzq;clear hq hql hbk hbel hnum hzq
     rcases k with _|k
     ·have HCL:=ZZ HBK.out.cl
      obtain⟨q,hqe⟩:∃q,q=num B30 qs:=⟨_,rfl⟩
      have HMQ:=ZZ (show m=q*1000000000+R by
       have h1:=HNUM.out;rw [List.drop_zero,List.drop_zero,EM.out,←hqe] at h1;exact h1)
      have HQE:=ZZ hqe;have HRB:=ZZ hR;clear hqe;go_wp2_with fail;refine(rcut_c _ qs _ _ HCL.out ms.length HQ.out (Nat.le_refl _) (by omega)).mono ?_;rintro e w6 ⟨rfl,rfl⟩
      have HWQ:=ZZ (show Wr W2 (.slice (some ⟨wr.heap.size,0,none⟩) (cut qs).length ms.length) q by
       rw [HQE.out];exact rcut_w HQL.out HCL.out (c:=ms.length) (by rw [HQ.out];exact Nat.le_refl _))
      have hcq:=cut_dig B30_two HQL.out
      have hq0:(cut qs).length=0↔q=0:=by
       rw [hcq,←HQE.out];rw [List.length_eq_zero_iff];exact dig_eq_nil B30_two
      have HQ0:=ZZ hq0;clear hcq hq0;generalize (cut qs).length=kq at *;have HEX:=ZZ (show Ext w W2 from am HE.out (show Ext wr W2 from HBE.out));go_wp2_with fail
      go_loopg [5,7,8] 9 (fun g r p i wx=>∃(c R':Nat) (pl:List UInt8),c+g=9∧i=.int .i64 (c:Int)∧r=.int .i64 (R':Int)∧R'<1000000000∧p=.string ⟨pl.toArray⟩∧Hid (PartS q R c R' pl)∧Hid (Ext W2 wx))
      case atStart=>exact⟨0,R,[],by omega,rfl,rfl,HRB.out,rfl,ZZ (part_start q R),ZZ (ae _)⟩
      case round=>
       rename World=>W3;obtain⟨c,R',pl,hc,rfl,rfl,hR',rfl,HP,HE3⟩:=hrel;have HC3:=ZZ hc;have hpl:=HP.out.1;have HPL:=ZZ hpl
       by_cases hgo:c<9∧(0<kq∨0<R')
       ·have HGO:=ZZ hgo
        have hst:=part_step HP.out (by
         rcases hgo.2 with h|h
         ·left;rcases Nat.eq_zero_or_pos q with h0|h0
          ·have:=HQ0.out.2 h0;omega
          ·exact h0
         ·exact .inr h)
        obtain⟨dg,hdg⟩:∃dg:Nat,dg=R' % 10:=⟨_,rfl⟩;obtain⟨R2,hR2⟩:∃R2:Nat,R2=R' / 10:=⟨_,rfl⟩;obtain⟨ch,hch⟩:∃ch:Nat,ch=48+dg:=⟨_,rfl⟩;rw [←hdg,←hR2,←hch] at hst;have HST2:=ZZ hst;have hri:(R':Int) % 10=(dg:Int):=by omega
        have hqi:(R':Int) / 10=(R2:Int):=by omega
        have hw1:IntKind.i64.wrap (48+(dg:Int))=(ch:Int):=(IntWalk.i64_in _ (by omega)).trans (by omega);have hw2:IntKind.u8.wrap (ch:Int)=(ch:Int):=IntWalk.u8_in _ (by omega);have hw3:IntKind.i64.wrap (R2:Int)=(R2:Int):=IntWalk.i64_in _ (by omega);have hw4:IntKind.i64.wrap ((c:Int)+1)=((c+1:Nat):Int):=(IntWalk.i64_in _ (by omega)).trans (by omega);have t1:decide ((c:Int)<9)=true:=by simp;omega
        have t1':decide (c<9)=true:=by simp;omega
        have HR2:=ZZ (show R2<1000000000 by omega);obtain⟨cb,hcb⟩:∃cb:UInt8,cb=UInt8.ofNat ch:=⟨_,rfl⟩;have hcn:(cb.toNat:Int)=(ch:Int):=by rw [hcb,UInt8.toNat_ofNat'];omega
        have hcv:∀W:World,(convert 184 9 (.slice (some ⟨W.heap.size,0,none⟩) 1 1)).run Tryz.prog (W.alloc (.cells #[.int .u8 (ch:Int)] 5))=.ok (.string ⟨#[cb]⟩) (W.alloc (.cells #[.int .u8 (ch:Int)] 5)):=fun W=>
         run_convert_bytes_back (P:=Tryz.prog) (W.alloc (.cells #[.int .u8 (ch:Int)] 5)) 184 9 5 ⟨W.heap.size,0,none⟩ 1 [cb] Tryz.underlying184 Tryz.underlying5 Tryz.underlying9 (fun j hj=>by
          obtain rfl:j=0:=by simp at hj;omega
          simp [hcn,Addr.add])
        have e1:(⟨#[cb]⟩:ByteArray) ++ ⟨pl.toArray⟩=⟨(cb :: pl).toArray⟩:=str_append [cb] pl;have c1:1+pl.length≤9223372036854775807:=by omega
        rw [←hcb] at hst;have HST2:=ZZ hst;clear hst hdg hR2 hch hcb hcn hpl hc
        rcases Nat.eq_zero_or_pos kq with hk0|hk0
        ·subst hk0
         have t3:(0:Int)<(R':Int):=by have:=HGO.out.2;omega
         clear hgo;go_wp2_with fail
         go_roundg (gk - 1)
         case measure=>have:=HGO.out.1;have:=HC3.out;omega
         case rel=>exact⟨c+1,R2,cb :: pl,by have:=HGO.out.1;have:=HC3.out;omega,by first|rfl|simp,rfl,HR2.out,rfl,HST2,ZZ (am HE3.out (ab _ _))⟩
        ·have t2:(0:Int)<(kq:Int):=by omega
         clear hgo;go_wp2_with fail
         go_roundg (gk - 1)
         case measure=>have:=HGO.out.1;have:=HC3.out;omega
         case rel=>exact⟨c+1,R2,cb :: pl,by have:=HGO.out.1;have:=HC3.out;omega,by first|rfl|simp,rfl,HR2.out,rfl,HST2,ZZ (am HE3.out (ab _ _))⟩
       ·have HGO:=ZZ hgo
        have c1:pl.length+y.length≤9223372036854775807:=by have:=HYL.out;have:=HHM.out;omega
        have e1:(⟨pl.toArray⟩:ByteArray) ++ ⟨y.toArray⟩=⟨(pl ++ y).toArray⟩:=str_append pl y;have hkq:kq=0→q=0:=HQ0.out.1
        have HRD:=ZZ (dec_round HD.out HM0.out HMQ.out HRB.out HP.out (by
         rcases(show c=9∨c<9 by omega) with h|h
         ·exact .inl h
         ·right
          have h1:kq=0:=by have:=HGO.out;omega
          exact⟨hkq h1,by have:=HGO.out;omega⟩) (by omega))
        have HQM:=ZZ (show q<m by have h1:=HMQ.out;have h2:=HM0.out;omega);clear hkq hpl
        rcases(show c=9∨c<9 by omega) with h9|h9
        ·subst h9
         clear hgo hc;go_wp2_with fail
         go_roundg q
         case measure=>exact HQM.out
         case rel=>exact⟨pl ++ y,rfl,HRD,ZZ (HWQ.out.mono HE3.out),ZZ (am HEX.out HE3.out),ZZ (by have:=HQM.out;have:=HLE.out;omega)⟩
        ·have t1:decide ((c:Int)<9)=true:=by simp;omega
         have t1':decide (c<9)=true:=by simp;omega
         obtain rfl:kq=0:=by omega
         obtain rfl:R'=0:=by omega
         clear hgo hc h9;go_wp2_with fail
         go_roundg q
         case measure=>exact HQM.out
         case rel=>exact⟨pl ++ y,rfl,HRD,ZZ (HWQ.out.mono HE3.out),ZZ (am HEX.out HE3.out),ZZ (by have:=HQM.out;have:=HLE.out;omega)⟩
     ·rw [show (((k+1:Nat):Int) - 1)=(k:Int) by omega]
      have ea:=ar HBE.out (HCB.out k (by omega));have hdb:=getD_lt ML.out (by rw [B30_eq];omega) k;have HND:=ZZ (num_drop_cons (B:=B30) (l:=ms) (k:=k) (by omega));rw [B30_eq] at hdb;generalize ms.getD k 0=d at *;have hci:=HBK.out.cell k (by rw [HQ.out];omega);have hfi:=HBK.out.frozen k;obtain⟨t1,ht1⟩:∃t1:Nat,t1=R*1073741824:=⟨_,rfl⟩;obtain⟨t2,ht2⟩:∃t2:Nat,t2=t1+d:=⟨_,rfl⟩;obtain⟨c,hc⟩:∃c:Nat,c=t2 / 1000000000:=⟨_,rfl⟩;obtain⟨R2,hR2⟩:∃R2:Nat,R2=t2 % 1000000000:=⟨_,rfl⟩;have hw1:IntKind.i64.wrap ((R:Int)*1073741824)=(t1:Int):=(IntWalk.i64_in _ (by omega)).trans (by omega);have hw2:IntKind.i64.wrap ((t1:Int)+(d:Int))=(t2:Int):=(IntWalk.i64_in _ (by omega)).trans (by omega);have hqi:(t2:Int) / 1000000000=(c:Int):=by omega
      have hri:(t2:Int) % 1000000000=(R2:Int):=by omega
      have hwq:IntKind.i64.wrap (c:Int)=(c:Int):=IntWalk.i64_in _ (by omega);have hw3:IntKind.i64.wrap ((k:Int) - 1)=(k:Int) - 1:=IntWalk.i64_in _ (by omega);have HCB2:=ZZ (show c<B30 by rw [B30_eq];omega);have HR2:=ZZ (show R2<1000000000 by omega);have HS2:=ZZ (show c*1000000000+R2=R*1073741824+d by omega);have HSET:=ZZ (HBK.out.set_ k c);have HKL:=ZZ (show k<qs.length by rw [HQ.out];omega);have hkl:k<ms.length:=by omega
      clear ht1 ht2 hc hR2;go_wp2_with fail
      go_roundw
      case rel=>
       refine⟨k,R2,qs.set k c,by omega,by first|rfl|go_num,by rw [hri],HR2.out,by rw [List.length_set,HQ.out],set_lt HQL.out HCB2.out _,HSET.out,HBE.out.setCell (Nat.le_refl _) _,?_,fun j hj=>by rw [getD_set_ne (by omega)];exact HZQ.out j (by omega)⟩;rw [HND.out,drop_set HKL.out];exact dec_outer HNUM.out HS2.out
      case measure=>simp [intOf]
end Go.Proofs.YtjamgccgoapbeaaGreatDoor
