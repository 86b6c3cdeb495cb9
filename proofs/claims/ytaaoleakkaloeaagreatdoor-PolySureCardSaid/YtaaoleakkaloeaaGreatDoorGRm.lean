/- The reference's numbers: sign, numerator, denominator; their making. Printed by gen_rm.py. -/
import Derived.Test.YtaaoleakkaloeaaGreatDoorGRk
import Derived.Test.YtaaoleakkaloeaaGreatDoorGRat
set_option linter.unusedVariables false
set_option maxRecDepth 100000
set_option maxHeartbeats 64000000
namespace Go.Proofs.YtaaoleakkaloeaaGreatDoor
open Go.RowKit
theorem sgnB_ne (b:Bool):sgnB b≠0:=by cases b <;> decide
theorem sign_sgnB {q:Rat} (h:q≠0):q.num.sign=sgnB (decide (q.num<0)):=by
 have hn:q.num≠0:=fun e=>h (Rat.num_eq_zero.1 e);unfold sgnB
 by_cases hl:q.num<0
 ·rw [Int.sign_eq_neg_one_of_neg hl,if_pos (decide_eq_true hl)]
 ·rw [Int.sign_eq_one_of_pos (by omega),if_neg (fun e=>hl (of_decide_eq_true e))]
theorem rat_ne_zero {b:Bool} {n d:Nat} (hn:0<n) (hd:0<d):rat b n d≠0:=by
 intro e;have h:=rat_natAbs b n d (by omega);rw [e] at h;have hg:0<n / Nat.gcd n d:=Nat.div_pos (Nat.gcd_le_left d hn) (Nat.gcd_pos_of_pos_left _ hn)
 simp at h
 omega
theorem rat_sgn {b:Bool} {n d:Nat} (hn:0<n) (hd:0<d):(rat b n d).num.sign=sgnB b:=by
 rw [sign_sgnB (rat_ne_zero hn hd),rat_neg b n d (by omega) hn]
def bn (q:Rat):Nat:=if q.num=0 then 0 else q.den
theorem bn_rat {b:Bool} {n d:Nat} (hn:0<n) (hd:0<d):bn (rat b n d)=d / Nat.gcd n d:=by
 unfold bn;rw [if_neg (fun e=>rat_ne_zero hn hd (Rat.num_eq_zero.1 e)),rat_den _ _ _ (by omega)]
def Nr (w:World) (v:Value) (q:Rat):Prop:=∃s vt vb,v=.agg #[.int .i64 s,vt,vb]∧q.num.sign=s∧Wr w vt q.num.natAbs∧Wr w vb (bn q)
theorem Nr.mono {w w':World} {v:Value} {q:Rat} (h:Nr w v q) (k:Ext w w'):Nr w' v q:=by
 obtain⟨s,vt,vb,e,hs,h1,h2⟩:=h;exact⟨s,vt,vb,e,hs,h1.mono k,h2.mono k⟩
theorem Nr.zero (w:World):Nr w (.agg #[.int .i64 0,.slice none 0 0,.slice none 0 0]) 0:=⟨0,_,_,rfl,rfl,Wr.zero w,Wr.zero w⟩
theorem nr_mk {W:World} {b:Bool} {s:Int} {vt vb:Value} {n d n' d':Nat} (hs:sgnB b=s) (hn:0<n) (hd:0<d) (h1:n'=n / Nat.gcd n d) (h2:d'=d / Nat.gcd n d) (ha:Wr W vt n') (hb:Wr W vb d'):Nr W (.agg #[.int .i64 s,vt,vb]) (rat b n d):=by
 subst hs;refine⟨_,vt,vb,rfl,rat_sgn hn hd,?_,?_⟩
 ·rw [rat_natAbs b n d (by omega),←h1];exact ha
 ·rw [bn_rat hn hd,←h2];exact hb
theorem Nr.form {w:World} {v:Value} {q:Rat} (h:Nr w v q):∃s A k c B l d,v=.agg #[.int .i64 s,.slice A k c,.slice B l d]∧q.num.sign=s∧Wr w (.slice A k c) q.num.natAbs∧Wr w (.slice B l d) (bn q):=by
 obtain⟨s,vt,vb,e,hs,h1,h2⟩:=h;obtain⟨A,c,rfl,hc,hA⟩:=h1;obtain⟨B,d,rfl,hd,hB⟩:=h2;exact⟨s,A,_,c,B,_,d,e,hs,⟨A,c,rfl,hc,hA⟩,⟨B,d,rfl,hd,hB⟩⟩
theorem Wr.put_z {W:World} {v:Value} {n g:Nat} {T:TypeId} {A0 B0:Option Addr} {k0 c0 k1 c1:Nat} (h:Wr W v n) (hg:W.heap[g]?=some (.cells #[.int .i64 0,.slice A0 k0 c0,.slice B0 k1 c1] T (0,0))) (a b c:Value):Wr (((W.setCell ⟨g,0,none⟩ a).setCell ⟨g,1,none⟩ b).setCell ⟨g,2,none⟩ c) v n:=by
 rcases Nat.eq_zero_or_pos n with h0|h0
 ·subst h0
  obtain⟨A,cc,e,hc,hcl⟩:=h;refine⟨A,cc,e,hc,?_⟩
  left
  have hz:dr 0=[]:=by simp [dr,dig_zero]
  rw [hz];rfl
 ·have hne:v.ownBlock≠some g:=by
   obtain⟨A,cc,rfl,hc,hcl⟩:=h;obtain⟨t1,t2,t3,-,-⟩:=dr_top h0;obtain⟨b,o,rfl,hce⟩:=hcl.i t3;intro e;obtain rfl:b=g:=Option.some.inj e;have h1:=hce ((dr n).length - 1) (by omega);rw [cell_of_row W b _ _ _ _ hg] at h1;generalize (dr n).getD ((dr n).length - 1) 0=top at *
   rcases(show o+((dr n).length - 1)=0∨o+((dr n).length - 1)=1∨o+((dr n).length - 1)=2∨3≤o+((dr n).length - 1) by omega) with e|e|e|e
   ·rw [e] at h1
    have:=Value.int.inj (Option.some.inj h1)
    omega
   ·rw [e] at h1;simp at h1
   ·rw [e] at h1;simp at h1
   ·rw [Array.getElem?_eq_none (by simpa using e)] at h1;cases h1
  exact((h.set_ hne).set_ hne).set_ hne
theorem Wr.form' {w:World} {v:Value} {n:Nat} (h:Wr w v n):∃A k c,v=.slice A k c:=by
 obtain⟨A,c,rfl,-,-⟩:=h;exact⟨A,_,c,rfl⟩
theorem Wr.formL {w:World} {v:Value} {n:Nat} (h:Wr w v n):∃A k c,v=.slice A k c∧(k=0↔n=0):=by
 obtain⟨A,c,rfl,-,-⟩:=h;refine⟨A,_,c,rfl,?_⟩;rw [List.length_eq_zero_iff];exact dig_eq_nil B30_two
theorem rowR {w W:World} {x y z:Value} (h:Ext (w.alloc (.cells #[x,y,z] 69)) W):W.heap[w.heap.size]?=some (.cells #[x,y,z] 69 (0,0)):=
 (h.block _ (by simp)).trans (heap_alloc_new w _)
theorem ak {W:World} {g:Nat} {x y z:Value} {T:TypeId} (h:W.heap[g]?=some (.cells #[x,y,z] T (0,0))):W.cell? ⟨g,0,none⟩=some x∧W.cell? ⟨g,1,none⟩=some y∧W.cell? ⟨g,2,none⟩=some z∧W.frozen? ⟨g,0,none⟩=false∧W.frozen? ⟨g,1,none⟩=false∧W.frozen? ⟨g,2,none⟩=false:=by
 refine⟨?_,?_,?_,?_,?_,?_⟩ <;> simp [World.cell?,World.frozen?,h]
theorem ap {w W:World} {g:Nat} (h:Ext w W) (hg:w.heap.size≤g) (a b c:Value):Ext w (((W.setCell ⟨g,0,none⟩ a).setCell ⟨g,1,none⟩ b).setCell ⟨g,2,none⟩ c):=
 ((h.setCell hg _).setCell hg _).setCell hg _
theorem Nr.put_z {W:World} {v:Value} {q:Rat} {g:Nat} {T:TypeId} {A0 B0:Option Addr} {k0 c0 k1 c1:Nat} (h:Nr W v q) (hg:W.heap[g]?=some (.cells #[.int .i64 0,.slice A0 k0 c0,.slice B0 k1 c1] T (0,0))) (a b c:Value):Nr (((W.setCell ⟨g,0,none⟩ a).setCell ⟨g,1,none⟩ b).setCell ⟨g,2,none⟩ c) v q:=by
 obtain⟨s,vt,vb,e,hs,h1,h2⟩:=h;exact⟨s,vt,vb,e,hs,h1.put_z hg _ _ _,h2.put_z hg _ _ _⟩
def FrN (B:Nat) (v:Value):Prop:=∀s A k c A' l d,v=.agg #[.int .i64 s,.slice A k c,.slice A' l d]→Fr B (.slice A k c)∧Fr B (.slice A' l d)
def BlC (C:Nat→Prop) (v:Value):Prop:=∀a k c,v=.slice (some a) k c→0<k→C a.block
def BlN (C:Nat→Prop) (v:Value):Prop:=∀s A k c A' l d,v=.agg #[.int .i64 s,.slice A k c,.slice A' l d]→BlC C (.slice A k c)∧BlC C (.slice A' l d)
theorem Fr.blc {B:Nat} {v:Value} {C:Nat→Prop} (h:Fr B v) (hC:∀b,B≤b→C b):BlC C v:=by rintro a k c rfl -;exact hC _ (h _ rfl)
theorem bln_mk {C:Nat→Prop} {s:Int} {A A':Option Addr} {k c l d:Nat} (h1:BlC C (.slice A k c)) (h2:BlC C (.slice A' l d)):BlN C (.agg #[.int .i64 s,.slice A k c,.slice A' l d]):=by
 intro s1 A1 k1 c1 A2 l2 d2 e
 simp only [Value.agg.injEq,Array.mk.injEq,List.cons.injEq,Value.slice.injEq] at e
 obtain⟨-,⟨rfl,rfl,rfl⟩,⟨rfl,rfl,rfl⟩,-⟩:=e;exact⟨h1,h2⟩
theorem blc_none {C:Nat→Prop} {k c:Nat}:BlC C (.slice none k c):=by intro a k c e;cases e
def FrM (w:World) (vt vb v:Value):Prop:=(∀B,B≤w.heap.size→Fr B vt→Fr B vb→FrN B v)∧∀C:Nat→Prop,(∀b,w.heap.size≤b→C b)→BlC C vt→BlC C vb→BlN C v
theorem frn_mk {B:Nat} {s:Int} {A A':Option Addr} {k c l d:Nat} (h1:Fr B (.slice A k c)) (h2:Fr B (.slice A' l d)):FrN B (.agg #[.int .i64 s,.slice A k c,.slice A' l d]):=by
 intro s1 A1 k1 c1 A2 l2 d2 e
 simp only [Value.agg.injEq,Array.mk.injEq,List.cons.injEq,Value.slice.injEq] at e
 obtain⟨-,⟨rfl,rfl,rfl⟩,⟨rfl,rfl,rfl⟩,-⟩:=e;exact⟨h1,h2⟩
theorem Fr.mono {B C:Nat} {v:Value} (h:Fr C v) (k:B≤C):Fr B v:=fun b hb=>Nat.le_trans k (h b hb)
theorem FrN.mono {B C:Nat} {v:Value} (h:FrN C v) (k:B≤C):FrN B v:=fun s A n c A' l d e=>⟨(h s A n c A' l d e).1.mono k,(h s A n c A' l d e).2.mono k⟩
theorem made_zero (b:Bool) (s:Int) (hs:sgnB b=s) (vt vb:Value) (n d:Nat) (h0:0<d) (w:World) (ha:Wr w vt n) (hb:Wr w vb d) (sa:(dr n).length≤34359738368) (sb:(dr d).length≤34359738368) (hn:n=0):Calls Tryz.prog 72 #[.int .i64 s,vt,vb] w fun e w'=>∃v,e=.returned v∧Nr w' v (rat b n d)∧Ext w w'∧FrM w vt vb v:=by
 obtain⟨A,k,ca,rfl,hk⟩:=ha.formL;obtain⟨B,l,cb,rfl⟩:=hb.form';have hs0:(s == 0)=false:=by rw [beq_eq_false_iff_ne,←hs];exact sgnB_ne b
 have K0:=ZZ (ac w (.cells #[.int .i64 0,.slice none 0 0,.slice none 0 0] 69));have R0:=ZZ (af (w.alloc (.cells #[.int .i64 0,.slice none 0 0,.slice none 0 0] 69)));have HA0:=ZZ ha;have HB0:=ZZ hb;have HA:=ZZ (ha.mono K0.out);have HB:=ZZ (hb.mono K0.out);have HS:=ZZ hs;have H0:=ZZ h0;have SA:=ZZ sa;have SB:=ZZ sb;have HK:=ZZ hk;subst hn;obtain rfl:k=0:=HK.out.2 rfl;clear ha hb hs h0 sa sb hk;obtain⟨z0,z1,z2,f0,f1,f2⟩:=ak (rowR R0.out)
 go_enter Tryz.func72,Tryz.ntmps72
 go_wp2_with fail;refine bodyPost_ret (v:=.agg #[.int .i64 0,.slice none 0 0,.slice none 0 0]) (by simp [results,Tryz.f72];go_simp) rfl ?_
 exact⟨_,rfl,by rw [rat_zero];exact Nr.zero _,ac _ _,⟨fun B _ _ _=>frn_mk (fun b hb=>by cases hb) (fun b hb=>by cases hb),fun C _ _ _=>bln_mk blc_none blc_none⟩⟩
theorem made_one (b:Bool) (s:Int) (hs:sgnB b=s) (vt vb:Value) (n d:Nat) (h0:0<d) (w:World) (ha:Wr w vt n) (hb:Wr w vb d) (sa:(dr n).length≤34359738368) (sb:(dr d).length≤34359738368) (hn:0<n) (h1:n=1):Calls Tryz.prog 72 #[.int .i64 s,vt,vb] w fun e w'=>∃v,e=.returned v∧Nr w' v (rat b n d)∧Ext w w'∧FrM w vt vb v:=by
 obtain⟨A,k,ca,rfl,hk⟩:=ha.formL;obtain⟨B,l,cb,rfl⟩:=hb.form';have hs0:(s == 0)=false:=by rw [beq_eq_false_iff_ne,←hs];exact sgnB_ne b
 have K0:=ZZ (ac w (.cells #[.int .i64 0,.slice none 0 0,.slice none 0 0] 69));have R0:=ZZ (af (w.alloc (.cells #[.int .i64 0,.slice none 0 0,.slice none 0 0] 69)));have HA0:=ZZ ha;have HB0:=ZZ hb;have HA:=ZZ (ha.mono K0.out);have HB:=ZZ (hb.mono K0.out);have HS:=ZZ hs;have H0:=ZZ h0;have SA:=ZZ sa;have SB:=ZZ sb;have HK:=ZZ hk;have H1:=ZZ h1;clear h1;have HN:=ZZ hn;have hkp:((k:Int) == 0)=false:=by rw [beq_eq_false_iff_ne];intro e;have:=hk.1 (by omega);omega
 clear ha hb hs h0 sa sb hk hn;obtain⟨z0,z1,z2,f0,f1,f2⟩:=ak (rowR R0.out)
 go_enter Tryz.func72,Tryz.ntmps72
 go_wp2_with fail;refine(is1_r _ (n) true (by first|exact decide_eq_true H1.out|exact decide_eq_false H1.out) _ HA.out).mono ?_
 rintro e wi ⟨rfl,rfl⟩;go_wp2_with fail;refine bodyPost_ret (v:=.agg #[.int .i64 s,.slice A k ca,.slice B l cb]) (by simp [results,Tryz.f72];go_simp) rfl ?_;exact⟨_,rfl,nr_mk HS.out HN.out H0.out (by rw [H1.out,Nat.gcd_one_left,Nat.div_one]) (by rw [H1.out,Nat.gcd_one_left,Nat.div_one]) (HA0.out.mono (ac _ _)) (HB0.out.mono (ac _ _)),ac _ _,⟨fun B _ fa fb=>frn_mk fa fb,fun C _ fa fb=>bln_mk fa fb⟩⟩
theorem made_whole (b:Bool) (s:Int) (hs:sgnB b=s) (vt vb:Value) (n d:Nat) (h0:0<d) (w:World) (ha:Wr w vt n) (hb:Wr w vb d) (sa:(dr n).length≤34359738368) (sb:(dr d).length≤34359738368) (hn:0<n) (h1:¬ n=1) (h2:d=1):Calls Tryz.prog 72 #[.int .i64 s,vt,vb] w fun e w'=>∃v,e=.returned v∧Nr w' v (rat b n d)∧Ext w w'∧FrM w vt vb v:=by
 obtain⟨A,k,ca,rfl,hk⟩:=ha.formL;obtain⟨B,l,cb,rfl⟩:=hb.form';have hs0:(s == 0)=false:=by rw [beq_eq_false_iff_ne,←hs];exact sgnB_ne b
 have K0:=ZZ (ac w (.cells #[.int .i64 0,.slice none 0 0,.slice none 0 0] 69));have R0:=ZZ (af (w.alloc (.cells #[.int .i64 0,.slice none 0 0,.slice none 0 0] 69)));have HA0:=ZZ ha;have HB0:=ZZ hb;have HA:=ZZ (ha.mono K0.out);have HB:=ZZ (hb.mono K0.out);have HS:=ZZ hs;have H0:=ZZ h0;have SA:=ZZ sa;have SB:=ZZ sb;have HK:=ZZ hk;have H1:=ZZ h1;have H2:=ZZ h2;clear h1 h2;have HN:=ZZ hn;have hkp:((k:Int) == 0)=false:=by rw [beq_eq_false_iff_ne];intro e;have:=hk.1 (by omega);omega
 clear ha hb hs h0 sa sb hk hn;obtain⟨z0,z1,z2,f0,f1,f2⟩:=ak (rowR R0.out)
 go_enter Tryz.func72,Tryz.ntmps72
 go_wp2_with fail;refine(is1_r _ (n) false (by first|exact decide_eq_true H1.out|exact decide_eq_false H1.out) _ HA.out).mono ?_
 rintro e wi ⟨rfl,rfl⟩;go_wp2_with fail;refine(is1_r _ (d) true (by first|exact decide_eq_true H2.out|exact decide_eq_false H2.out) _ HB.out).mono ?_;rintro e wi ⟨rfl,rfl⟩;go_wp2_with fail;refine bodyPost_ret (v:=.agg #[.int .i64 s,.slice A k ca,.slice B l cb]) (by simp [results,Tryz.f72];go_simp) rfl ?_;exact⟨_,rfl,nr_mk HS.out HN.out H0.out (by rw [H2.out,Nat.gcd_one_right,Nat.div_one]) (by rw [H2.out,Nat.gcd_one_right,Nat.div_one]) (HA0.out.mono (ac _ _)) (HB0.out.mono (ac _ _)),ac _ _,⟨fun B _ fa fb=>frn_mk fa fb,fun C _ fa fb=>bln_mk fa fb⟩⟩
theorem made_low (b:Bool) (s:Int) (hs:sgnB b=s) (vt vb:Value) (n d:Nat) (h0:0<d) (w:World) (ha:Wr w vt n) (hb:Wr w vb d) (sa:(dr n).length≤34359738368) (sb:(dr d).length≤34359738368) (hn:0<n) (h1:¬ n=1) (h2:¬ d=1) (hg:Nat.gcd n d=1):Calls Tryz.prog 72 #[.int .i64 s,vt,vb] w fun e w'=>∃v,e=.returned v∧Nr w' v (rat b n d)∧Ext w w'∧FrM w vt vb v:=by
 obtain⟨A,k,ca,rfl,hk⟩:=ha.formL;obtain⟨B,l,cb,rfl⟩:=hb.form';have hs0:(s == 0)=false:=by rw [beq_eq_false_iff_ne,←hs];exact sgnB_ne b
 have K0:=ZZ (ac w (.cells #[.int .i64 0,.slice none 0 0,.slice none 0 0] 69));have R0:=ZZ (af (w.alloc (.cells #[.int .i64 0,.slice none 0 0,.slice none 0 0] 69)));have HA0:=ZZ ha;have HB0:=ZZ hb;have HA:=ZZ (ha.mono K0.out);have HB:=ZZ (hb.mono K0.out);have HS:=ZZ hs;have H0:=ZZ h0;have SA:=ZZ sa;have SB:=ZZ sb;have HK:=ZZ hk;have H1:=ZZ h1;have H2:=ZZ h2;have HG:=ZZ hg;have HGP:=ZZ (show 0<Nat.gcd n d from Nat.gcd_pos_of_pos_left _ hn);clear h1 h2 hg;have HN:=ZZ hn;have hkp:((k:Int) == 0)=false:=by rw [beq_eq_false_iff_ne];intro e;have:=hk.1 (by omega);omega
 clear ha hb hs h0 sa sb hk hn
 go_enter Tryz.func72,Tryz.ntmps72
 go_wp2_with fail;refine(is1_r _ (n) false (by first|exact decide_eq_true H1.out|exact decide_eq_false H1.out) _ HA.out).mono ?_
 rintro e wi ⟨rfl,rfl⟩;go_wp2_with fail;refine(is1_r _ (d) false (by first|exact decide_eq_true H2.out|exact decide_eq_false H2.out) _ HB.out).mono ?_;rintro e wi ⟨rfl,rfl⟩;go_wp2_with fail;refine(divisor_r _ _ n d H0.out _ HA.out HB.out SA.out SB.out).mono ?_;rintro e w2 ⟨v2,rfl,h2,k2⟩;obtain⟨G2,g2,c2,rfl⟩:=h2.form';have H3:=ZZ h2;have K2:=ZZ k2;have HA2:=ZZ (HA.out.mono k2);have HB2:=ZZ (HB.out.mono k2);clear h2 k2;go_wp2_with fail;obtain⟨z0,z1,z2,f0,f1,f2⟩:=ak (rowR K2.out);refine(is1_r _ (Nat.gcd n d) true (by first|exact decide_eq_true HG.out|exact decide_eq_false HG.out) _ H3.out).mono ?_;rintro e wi ⟨rfl,rfl⟩;go_wp2_with fail;refine bodyPost_ret (v:=.agg #[.int .i64 s,.slice A k ca,.slice B l cb]) (by simp [results,Tryz.f72];go_simp) rfl ?_;refine⟨_,rfl,?_,ap (al K0.out K2.out) (Nat.le_refl _) _ _ _,⟨fun B _ fa fb=>frn_mk fa fb,fun C _ fa fb=>bln_mk fa fb⟩⟩;exact Nr.put_z (nr_mk HS.out HN.out H0.out (by rw [HG.out,Nat.div_one]) (by rw [HG.out,Nat.div_one]) HA2.out HB2.out) (rowR K2.out) _ _ _
theorem made_red (b:Bool) (s:Int) (hs:sgnB b=s) (vt vb:Value) (n d:Nat) (h0:0<d) (w:World) (ha:Wr w vt n) (hb:Wr w vb d) (sa:(dr n).length≤34359738368) (sb:(dr d).length≤34359738368) (hn:0<n) (h1:¬ n=1) (h2:¬ d=1) (hg:¬ Nat.gcd n d=1):Calls Tryz.prog 72 #[.int .i64 s,vt,vb] w fun e w'=>∃v,e=.returned v∧Nr w' v (rat b n d)∧Ext w w'∧FrM w vt vb v:=by
 obtain⟨A,k,ca,rfl,hk⟩:=ha.formL;obtain⟨B,l,cb,rfl⟩:=hb.form';have hs0:(s == 0)=false:=by rw [beq_eq_false_iff_ne,←hs];exact sgnB_ne b
 have K0:=ZZ (ac w (.cells #[.int .i64 0,.slice none 0 0,.slice none 0 0] 69));have R0:=ZZ (af (w.alloc (.cells #[.int .i64 0,.slice none 0 0,.slice none 0 0] 69)));have HA0:=ZZ ha;have HB0:=ZZ hb;have HA:=ZZ (ha.mono K0.out);have HB:=ZZ (hb.mono K0.out);have HS:=ZZ hs;have H0:=ZZ h0;have SA:=ZZ sa;have SB:=ZZ sb;have HK:=ZZ hk;have H1:=ZZ h1;have H2:=ZZ h2;have HG:=ZZ hg;have HGP:=ZZ (show 0<Nat.gcd n d from Nat.gcd_pos_of_pos_left _ hn);clear h1 h2 hg;have HN:=ZZ hn;have hkp:((k:Int) == 0)=false:=by rw [beq_eq_false_iff_ne];intro e;have:=hk.1 (by omega);omega
 clear ha hb hs h0 sa sb hk hn
 go_enter Tryz.func72,Tryz.ntmps72
 go_wp2_with fail;refine(is1_r _ (n) false (by first|exact decide_eq_true H1.out|exact decide_eq_false H1.out) _ HA.out).mono ?_
 rintro e wi ⟨rfl,rfl⟩;go_wp2_with fail;refine(is1_r _ (d) false (by first|exact decide_eq_true H2.out|exact decide_eq_false H2.out) _ HB.out).mono ?_;rintro e wi ⟨rfl,rfl⟩;go_wp2_with fail;refine(divisor_r _ _ n d H0.out _ HA.out HB.out SA.out SB.out).mono ?_;rintro e w2 ⟨v2,rfl,h2,k2⟩;obtain⟨G2,g2,c2,rfl⟩:=h2.form';have H3:=ZZ h2;have K2:=ZZ k2;have HA2:=ZZ (HA.out.mono k2);have HB2:=ZZ (HB.out.mono k2);clear h2 k2;go_wp2_with fail;have SG:=ZZ (show (dr (Nat.gcd n d)).length≤34359738368 from Nat.le_trans (dig_length_mono B30_two (Nat.gcd_le_right _ H0.out)) SB.out);refine(is1_r _ (Nat.gcd n d) false (by first|exact decide_eq_true HG.out|exact decide_eq_false HG.out) _ H3.out).mono ?_;rintro e wi ⟨rfl,rfl⟩;go_wp2_with fail;refine(divided_f _ _ n (Nat.gcd n d) HGP.out _ HA2.out H3.out (by have:=SA.out;omega) (by have:=SG.out;omega)).mono ?_;rintro e w3 ⟨v3,u3,rfl,h3,-,k3,fr⟩;obtain⟨P3,p3,c3,rfl⟩:=h3.form';have H4:=ZZ h3;have FR1:=ZZ fr;clear fr;have K3:=ZZ (al K2.out k3);have HB3:=ZZ (HB2.out.mono k3);have H33:=ZZ (H3.out.mono k3);clear h3 k3;go_wp2_with fail;refine(divided_f _ _ d (Nat.gcd n d) HGP.out _ HB3.out H33.out (by have:=SB.out;omega) (by have:=SG.out;omega)).mono ?_;rintro e w4 ⟨v4,u4,rfl,h4,-,k4,fr⟩;obtain⟨P4,p4,c4,rfl⟩:=h4.form';have H5:=ZZ h4;have FR2:=ZZ fr;clear fr;have K4:=ZZ (al K3.out k4);have H44:=ZZ (H4.out.mono k4);clear h4 k4;obtain⟨z0,z1,z2,f0,f1,f2⟩:=ak (rowR K4.out);go_wp2_with fail
 refine bodyPost_ret (v:=.agg #[.int .i64 s,.slice P3 p3 c3,.slice P4 p4 c4]) (by simp [results,Tryz.f72];go_simp) rfl ?_;refine⟨_,rfl,?_,ap (al K0.out K4.out) (Nat.le_refl _) _ _ _,⟨fun B hB _ _=>frn_mk (FR1.out.mono (Nat.le_trans hB (al K0.out K2.out).size)) (FR2.out.mono (Nat.le_trans hB (al K0.out K3.out).size)),fun C hC _ _=>bln_mk (FR1.out.blc (fun b hb=>hC b (Nat.le_trans (al K0.out K2.out).size hb))) (FR2.out.blc (fun b hb=>hC b (Nat.le_trans (al K0.out K3.out).size hb)))⟩⟩;exact Nr.put_z (nr_mk HS.out HN.out H0.out rfl rfl H44.out H5.out) (rowR K4.out) _ _ _
theorem made_f (b:Bool) (s:Int) (hs:sgnB b=s) (vt vb:Value) (n d:Nat) (h0:0<d) (w:World) (ha:Wr w vt n) (hb:Wr w vb d) (sa:(dr n).length≤34359738368) (sb:(dr d).length≤34359738368):Calls Tryz.prog 72 #[.int .i64 s,vt,vb] w fun e w'=>∃v,e=.returned v∧Nr w' v (rat b n d)∧Ext w w'∧FrM w vt vb v:=by
 rcases Nat.eq_zero_or_pos n with hn|hn
 ·exact made_zero b s hs vt vb n d h0 w ha hb sa sb hn
 ·by_cases h1:n=1
  ·exact made_one b s hs vt vb n d h0 w ha hb sa sb hn h1
  ·by_cases h2:d=1
   ·exact made_whole b s hs vt vb n d h0 w ha hb sa sb hn h1 h2
   ·by_cases hg:Nat.gcd n d=1
    ·exact made_low b s hs vt vb n d h0 w ha hb sa sb hn h1 h2 hg
    ·exact made_red b s hs vt vb n d h0 w ha hb sa sb hn h1 h2 hg
end Go.Proofs.YtaaoleakkaloeaaGreatDoor
