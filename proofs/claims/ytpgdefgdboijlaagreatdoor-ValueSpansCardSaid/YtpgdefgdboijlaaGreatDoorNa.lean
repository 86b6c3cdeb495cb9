/- Numbers in lowest terms. Numbers: the denominator; sums, products. Numbers: the product. Numbers: negative, size, sign. -/
import Derived.Test.YtpgdefgdboijlaaGreatDoorWj
import Derived.Deep.RegionHeld3
set_option linter.unusedVariables false
set_option maxRecDepth 100000
set_option maxHeartbeats 16000000
namespace Go.Proofs.YtpgdefgdboijlaaGreatDoor
open Go.RowKit
theorem Wd.form {w:World} {v:Value} {n:Nat} (h:Wd w v n):∃A c,v=.slice A (dg n).length c:=by
 obtain⟨A,c,e,-⟩:=h;exact⟨A,c,e⟩
theorem Wd.form' {w:World} {v:Value} {n:Nat} (h:Wd w v n):∃A k c,v=.slice A k c:=by
 obtain⟨A,c,e,-⟩:=h;exact⟨A,_,c,e⟩
theorem row3 {w W:World} {x y z:Value} (h:Ext (w.alloc (.cells #[x,y,z] 25)) W):W.heap[w.heap.size]?=some (.cells #[x,y,z] 25 (0,0)):=
 (h.block _ (by simp)).trans (heap_alloc_new w _)
theorem ai {W:World} {g:Nat} {x y z:Value} {T:TypeId} (h:W.heap[g]?=some (.cells #[x,y,z] T (0,0))):W.cell? ⟨g,0,none⟩=some x∧W.cell? ⟨g,1,none⟩=some y∧W.cell? ⟨g,2,none⟩=some z∧W.frozen? ⟨g,0,none⟩=false∧W.frozen? ⟨g,1,none⟩=false∧W.frozen? ⟨g,2,none⟩=false:=by
 refine⟨?_,?_,?_,?_,?_,?_⟩ <;> simp [World.cell?,World.frozen?,h]
theorem nm_mk {W:World} {b:Bool} {vn vd:Value} {n d n' d':Nat} {q:Rat} (hq:q=rat b n d) (hn:0<n) (hd:0<d) (h1:n'=n / Nat.gcd n d) (h2:d'=d / Nat.gcd n d) (ha:Wd W vn n') (hb:Wd W vd (if d'=1 then 0 else d')):Nm W (.agg #[.bool b,vn,vd]) q:=by
 subst hq;have e1:=rat_natAbs b n d (by omega);have e2:=rat_den b n d (by omega);refine⟨vn,vd,by rw [rat_neg b n d (by omega) hn],by rw [e1,←h1];exact ha,?_⟩;unfold dn;rw [e2,←h2];exact hb
theorem Wd.put3 {W:World} {v:Value} {n g:Nat} {b0:Bool} {A0 B0:Option Addr} {k0 c0 k1 c1:Nat} {T:TypeId} (h:Wd W v n) (hg:W.heap[g]?=some (.cells #[.bool b0,.slice A0 k0 c0,.slice B0 k1 c1] T (0,0))) (a b c:Value):Wd (((W.setCell ⟨g,0,none⟩ a).setCell ⟨g,1,none⟩ b).setCell ⟨g,2,none⟩ c) v n:=by
 obtain⟨A,cc,e,hc,hcl⟩:=h;refine⟨A,cc,e,hc,?_⟩
 rcases Nat.eq_zero_or_pos (dg n).length with h0|h0
 ·left;rw [List.length_eq_zero_iff.1 h0];rfl
 ·obtain⟨bl,o,hA,hce⟩:=hcl.at_ (by simpa using h0)
  right
  refine⟨bl,o,hA,fun j hj=>?_⟩;have hj':j<(dg n).length:=by simpa using hj
  have h1:=hce j hj
  have hne:bl≠g:=by
   intro hb;subst hb;rw [getD_map_u64 _ _ hj'] at h1
   simp only [World.cell?,hg] at h1
   rcases Nat.lt_or_ge (o+j) 3 with h3|h3
   ·rcases(show o+j=0∨o+j=1∨o+j=2 by omega) with e|e|e <;> rw [e] at h1 <;> simp at h1
   ·rw [Array.getElem?_eq_none (by simpa using h3)] at h1
    simp at h1
  rw [←h1]
  apply World.cell?_of_block
  rw [Below.heap_setCell _ _ _ _ hne,Below.heap_setCell _ _ _ _ hne,Below.heap_setCell _ _ _ _ hne]
theorem ao {w W:World} {g:Nat} (h:Ext w W) (hg:w.heap.size≤g) (a b c:Value):Ext w (((W.setCell ⟨g,0,none⟩ a).setCell ⟨g,1,none⟩ b).setCell ⟨g,2,none⟩ c):=
 ((h.setCell hg _).setCell hg _).setCell hg _
theorem reduced_c (b:Bool) (vn vd:Value) (n d:Nat) (w:World) (ha:Wd w vn n) (hb:Wd w vd d) (sa:Sm n) (sb:Sm d) (hd:0<d):Calls Tryz.prog 103 #[.bool b,vn,vd] w fun e w'=>∃v,e=.returned v∧Nm w' v (rat b n d)∧Ext w w':=by
 obtain⟨A,ca,rfl⟩:=ha.form;obtain⟨B,q,cb,rfl⟩:=hb.form';have Hb:=ZZ hb;have Sa:=ZZ sa;have Sb:=ZZ sb;have Hd:=ZZ hd;obtain⟨p,hp⟩:∃p,(dg n).length=p:=⟨_,rfl⟩
 have hz:n=0↔p=0:=by
  rw [←hp,List.length_eq_zero_iff];exact(dig_eq_nil B64_two).symm
 rw [hp] at ha ⊢;have Ha:=ZZ ha;clear hp ha hb sa sb hd
 rcases Nat.eq_zero_or_pos p with h|h
 ·have hn:n=0:=hz.2 h
  subst hn;subst h;clear hz
  go_enter Tryz.func103,Tryz.ntmps103
  go_wp2_with fail;refine bodyPost_ret (v:=.agg #[.bool false,.slice none 0 0,.slice none 0 0]) (by simp [results,Tryz.f103];go_simp) rfl ?_
  exact⟨_,rfl,by rw [rat_zero];exact Nm.zero _,ab _ _⟩
 ·have t1:((p:Int) == 0)=false:=by simp;omega
  have hn:0<n:=by
   rcases Nat.eq_zero_or_pos n with h'|h'
   ·have:=hz.1 h';omega
   ·exact h'
  have Hn:=ZZ hn;clear hz hn
  go_enter Tryz.func103,Tryz.ntmps103
  go_wp2_with fail
  rcases hn1:decide (n=1) with _|_
  ·refine(is1_c _ n false hn1 _ (Ha.out.mono (ab _ _))).mono ?_
   rintro e w1 ⟨rfl,rfl⟩;have Hn1:=ZZ (show ¬ n=1 by simpa using hn1);clear hn1;go_wp2_with fail
   rcases hd0:decide (d=1) with _|_
   ·refine(is1_c _ d false hd0 _ (Hb.out.mono (ab _ _))).mono ?_
    rintro e w1 ⟨rfl,rfl⟩;have Hd0:=ZZ (show ¬ d=1 by simpa using hd0);clear hd0;go_wp2_with fail;refine(divisor_c _ _ n d _ (Ha.out.mono (ab _ _)) (Hb.out.mono (ab _ _)) Sa.out Sb.out Hn.out).mono ?_;rintro e w2 ⟨vg,rfl,hvg,hx2⟩;have hgd:Nat.gcd n d≤n:=Nat.gcd_le_left _ Hn.out;have hgp:0<Nat.gcd n d:=Nat.gcd_pos_of_pos_left _ Hn.out;obtain⟨G,kg,cg,rfl⟩:=hvg.form';have Hvg:=ZZ hvg;have Hx2:=ZZ hx2;have Hgd:=ZZ hgd;have Hgp:=ZZ hgp;clear hvg hx2 hgd hgp;go_wp2_with fail
    rcases hg1:decide (Nat.gcd n d=1) with _|_
    ·refine(is1_c _ _ false hg1 _ Hvg.out).mono ?_
     rintro e w3 ⟨rfl,rfl⟩;clear hg1;go_wp2_with fail;refine(div_c _ _ n (Nat.gcd n d) _ ((Ha.out.mono (ab w (.cells #[.bool false,.slice none 0 0,.slice none 0 0] 25))).mono Hx2.out) Hvg.out Sa.out (sm_lt Hgd.out Sa.out) Hgp.out).mono ?_;rintro e w3 ⟨q1,r1,rfl,hq1,-,hx3⟩;obtain⟨Q1,k1,c1,rfl⟩:=hq1.form';have Hq1:=ZZ hq1;have Hx3:=ZZ hx3;clear hq1 hx3;go_wp2_with fail;refine(div_c _ _ d (Nat.gcd n d) _ (((Hb.out.mono (ab w (.cells #[.bool false,.slice none 0 0,.slice none 0 0] 25))).mono Hx2.out).mono Hx3.out) (Hvg.out.mono Hx3.out) Sb.out (sm_lt Hgd.out Sa.out) Hgp.out).mono ?_;rintro e w4 ⟨q2,r2,rfl,hq2,-,hx4⟩;obtain⟨Q2,k2,c2,rfl⟩:=hq2.form';have HB:=ZZ hq2;have HA:=ZZ (Hq1.out.mono hx4);have Hx:=ZZ (al Hx2.out (al Hx3.out hx4));clear hq2 hx4;go_wp2_with fail;have hrow:=row3 Hx.out;obtain⟨hc0,hc1,hc2,hf0,hf1,hf2⟩:=ai hrow;have Hrow:=ZZ hrow;have Hxw:=ZZ (al (ab w (.cells #[.bool false,.slice none 0 0,.slice none 0 0] 25)) Hx.out);clear hrow
     rcases hd1:decide (d / Nat.gcd n d=1) with _|_
     ·refine(is1_c _ (d / Nat.gcd n d) false hd1 _ HB.out).mono ?_
      rintro e w9 ⟨rfl,rfl⟩;have Hd1:=ZZ (show ¬(d / Nat.gcd n d)=1 by simpa using hd1);clear hd1;go_wp2_with fail;refine bodyPost_ret (v:=.agg #[.bool b,.slice Q1 k1 c1,.slice Q2 k2 c2]) (by simp [results,Tryz.f103];go_simp) rfl ?_;exact⟨_,rfl,nm_mk (n':=n / Nat.gcd n d) (d':=d / Nat.gcd n d) rfl Hn.out Hd.out rfl rfl (HA.out.put3 Hrow.out _ _ _) (by rw [if_neg Hd1.out];exact(HB.out.put3 Hrow.out _ _ _)),ao Hxw.out (Nat.le_refl _) _ _ _⟩
     ·refine(is1_c _ (d / Nat.gcd n d) true hd1 _ HB.out).mono ?_
      rintro e w9 ⟨rfl,rfl⟩;have Hd1:=ZZ (show (d / Nat.gcd n d)=1 by simpa using hd1);clear hd1;go_wp2_with fail;refine bodyPost_ret (v:=.agg #[.bool b,.slice Q1 k1 c1,.slice none 0 0]) (by simp [results,Tryz.f103];go_simp) rfl ?_;exact⟨_,rfl,nm_mk (n':=n / Nat.gcd n d) (d':=d / Nat.gcd n d) rfl Hn.out Hd.out rfl rfl (HA.out.put3 Hrow.out _ _ _) (by rw [if_pos Hd1.out];exact Wd.zero _),ao Hxw.out (Nat.le_refl _) _ _ _⟩
    ·have Hg1:=ZZ (show Nat.gcd n d=1 by simpa using hg1)
     refine(is1_c _ _ true hg1 _ Hvg.out).mono ?_;rintro e w3 ⟨rfl,rfl⟩;clear hg1;go_wp2_with fail;have Hx:=ZZ Hx2.out;have HA:=ZZ ((Ha.out.mono (ab w (.cells #[.bool false,.slice none 0 0,.slice none 0 0] 25))).mono Hx2.out);have HB:=ZZ ((Hb.out.mono (ab w (.cells #[.bool false,.slice none 0 0,.slice none 0 0] 25))).mono Hx2.out);have hrow:=row3 Hx.out;obtain⟨hc0,hc1,hc2,hf0,hf1,hf2⟩:=ai hrow;have Hrow:=ZZ hrow;have Hxw:=ZZ (al (ab w (.cells #[.bool false,.slice none 0 0,.slice none 0 0] 25)) Hx.out);clear hrow
     rcases hd1:decide (d=1) with _|_
     ·refine(is1_c _ (d) false hd1 _ HB.out).mono ?_
      rintro e w9 ⟨rfl,rfl⟩;have Hd1:=ZZ (show ¬(d)=1 by simpa using hd1);clear hd1;go_wp2_with fail;refine bodyPost_ret (v:=.agg #[.bool b,.slice A p ca,.slice B q cb]) (by simp [results,Tryz.f103];go_simp) rfl ?_;exact⟨_,rfl,nm_mk (n':=n) (d':=d) rfl Hn.out Hd.out (by rw [Hg1.out,Nat.div_one]) (by rw [Hg1.out,Nat.div_one]) (HA.out.put3 Hrow.out _ _ _) (by rw [if_neg Hd1.out];exact(HB.out.put3 Hrow.out _ _ _)),ao Hxw.out (Nat.le_refl _) _ _ _⟩
     ·refine(is1_c _ (d) true hd1 _ HB.out).mono ?_
      rintro e w9 ⟨rfl,rfl⟩;have Hd1:=ZZ (show (d)=1 by simpa using hd1);clear hd1;go_wp2_with fail;refine bodyPost_ret (v:=.agg #[.bool b,.slice A p ca,.slice none 0 0]) (by simp [results,Tryz.f103];go_simp) rfl ?_;exact⟨_,rfl,nm_mk (n':=n) (d':=d) rfl Hn.out Hd.out (by rw [Hg1.out,Nat.div_one]) (by rw [Hg1.out,Nat.div_one]) (HA.out.put3 Hrow.out _ _ _) (by rw [if_pos Hd1.out];exact Wd.zero _),ao Hxw.out (Nat.le_refl _) _ _ _⟩
   ·refine(is1_c _ d true hd0 _ (Hb.out.mono (ab _ _))).mono ?_
    rintro e w1 ⟨rfl,rfl⟩;have Hd0:=ZZ (show d=1 by simpa using hd0);clear hd0;go_wp2_with fail;have Hx:Hid (Ext _ _):=ad (w.alloc (.cells #[.bool false,.slice none 0 0,.slice none 0 0] 25));have HA:Hid (Wd _ _ _):=Ha.out.mono (ab w (.cells #[.bool false,.slice none 0 0,.slice none 0 0] 25));have HB:Hid (Wd _ _ _):=Hb.out.mono (ab w (.cells #[.bool false,.slice none 0 0,.slice none 0 0] 25));have hrow:=row3 Hx.out;obtain⟨hc0,hc1,hc2,hf0,hf1,hf2⟩:=ai hrow;have Hrow:=ZZ hrow;have Hxw:=ZZ (al (ab w (.cells #[.bool false,.slice none 0 0,.slice none 0 0] 25)) Hx.out);clear hrow
    rcases hd1:decide (d=1) with _|_
    ·refine(is1_c _ (d) false hd1 _ HB.out).mono ?_
     rintro e w9 ⟨rfl,rfl⟩;have Hd1:=ZZ (show ¬(d)=1 by simpa using hd1);clear hd1;go_wp2_with fail;refine bodyPost_ret (v:=.agg #[.bool b,.slice A p ca,.slice B q cb]) (by simp [results,Tryz.f103];go_simp) rfl ?_;exact⟨_,rfl,nm_mk (n':=n) (d':=d) rfl Hn.out Hd.out (by rw [Hd0.out,Nat.gcd_one_right,Nat.div_one]) (by rw [Hd0.out,Nat.gcd_one_right,Nat.div_one]) (Ha.out.mono (ab _ _)) (by rw [if_neg Hd1.out];exact(Hb.out.mono (ab _ _))),ab _ _⟩
    ·refine(is1_c _ (d) true hd1 _ HB.out).mono ?_
     rintro e w9 ⟨rfl,rfl⟩;have Hd1:=ZZ (show (d)=1 by simpa using hd1);clear hd1;go_wp2_with fail;refine bodyPost_ret (v:=.agg #[.bool b,.slice A p ca,.slice none 0 0]) (by simp [results,Tryz.f103];go_simp) rfl ?_;exact⟨_,rfl,nm_mk (n':=n) (d':=d) rfl Hn.out Hd.out (by rw [Hd0.out,Nat.gcd_one_right,Nat.div_one]) (by rw [Hd0.out,Nat.gcd_one_right,Nat.div_one]) (Ha.out.mono (ab _ _)) (by rw [if_pos Hd1.out];exact Wd.zero _),ab _ _⟩
  ·refine(is1_c _ n true hn1 _ (Ha.out.mono (ab _ _))).mono ?_
   rintro e w1 ⟨rfl,rfl⟩;have Hn1:=ZZ (show n=1 by simpa using hn1);clear hn1;go_wp2_with fail;have Hx:Hid (Ext _ _):=ad (w.alloc (.cells #[.bool false,.slice none 0 0,.slice none 0 0] 25));have HA:Hid (Wd _ _ _):=Ha.out.mono (ab w (.cells #[.bool false,.slice none 0 0,.slice none 0 0] 25));have HB:Hid (Wd _ _ _):=Hb.out.mono (ab w (.cells #[.bool false,.slice none 0 0,.slice none 0 0] 25));have hrow:=row3 Hx.out;obtain⟨hc0,hc1,hc2,hf0,hf1,hf2⟩:=ai hrow;have Hrow:=ZZ hrow;have Hxw:=ZZ (al (ab w (.cells #[.bool false,.slice none 0 0,.slice none 0 0] 25)) Hx.out);clear hrow
   rcases hd1:decide (d=1) with _|_
   ·refine(is1_c _ (d) false hd1 _ HB.out).mono ?_
    rintro e w9 ⟨rfl,rfl⟩;have Hd1:=ZZ (show ¬(d)=1 by simpa using hd1);clear hd1;go_wp2_with fail;refine bodyPost_ret (v:=.agg #[.bool b,.slice A p ca,.slice B q cb]) (by simp [results,Tryz.f103];go_simp) rfl ?_;exact⟨_,rfl,nm_mk (n':=n) (d':=d) rfl Hn.out Hd.out (by rw [Hn1.out,Nat.gcd_one_left]) (by rw [Hn1.out,Nat.gcd_one_left,Nat.div_one]) (Ha.out.mono (ab _ _)) (by rw [if_neg Hd1.out];exact(Hb.out.mono (ab _ _))),ab _ _⟩
   ·refine(is1_c _ (d) true hd1 _ HB.out).mono ?_
    rintro e w9 ⟨rfl,rfl⟩;have Hd1:=ZZ (show (d)=1 by simpa using hd1);clear hd1;go_wp2_with fail;refine bodyPost_ret (v:=.agg #[.bool b,.slice A p ca,.slice none 0 0]) (by simp [results,Tryz.f103];go_simp) rfl ?_;exact⟨_,rfl,nm_mk (n':=n) (d':=d) rfl Hn.out Hd.out (by rw [Hn1.out,Nat.gcd_one_left]) (by rw [Hn1.out,Nat.gcd_one_left,Nat.div_one]) (Ha.out.mono (ab _ _)) (by rw [if_pos Hd1.out];exact Wd.zero _),ab _ _⟩
end Go.Proofs.YtpgdefgdboijlaaGreatDoor
namespace Go.Proofs.YtpgdefgdboijlaaGreatDoor
open Go.RowKit
theorem dg_len_zero {n:Nat}:(dg n).length=0↔n=0:=by
 rw [List.length_eq_zero_iff];exact dig_eq_nil B64_two
theorem Nm.form {w:World} {v:Value} {q:Rat} (h:Nm w v q):∃A k c B l d,v=.agg #[.bool (decide (q.num<0)),.slice A k c,.slice B l d]∧Wd w (.slice A k c) q.num.natAbs∧Wd w (.slice B l d) (dn q)∧(k=0↔q=0)∧(l=0↔q.den=1):=by
 obtain⟨vn,vd,rfl,h1,h2⟩:=h;obtain⟨A,c,rfl⟩:=h1.form;obtain⟨B,d,rfl⟩:=h2.form;refine⟨A,_,c,B,_,d,rfl,h1,h2,?_,?_⟩
 ·rw [dg_len_zero,Int.natAbs_eq_zero];exact Rat.num_eq_zero
 ·rw [dg_len_zero]
  unfold dn
  have:=q.den_nz
  split <;> simp_all
theorem under_c (v:Value) (q:Rat) (w:World) (h:Nm w v q):Calls Tryz.prog 115 #[v] w fun e w'=>∃v',e=.returned v'∧Wd w' v' q.den∧Ext w w':=by
 obtain⟨A,k,c,B,l,d,rfl,h1,h2,-,hl⟩:=h.form;have H2:=ZZ h2;have Hl:=ZZ hl;clear h1 h2 hl h
 rcases Nat.eq_zero_or_pos l with h0|h0
 ·subst h0
  go_enter Tryz.func115,Tryz.ntmps115
  go_wp2_with fail;refine(one_c _).mono ?_
  rintro e w1 ⟨v1,rfl,hv,hx⟩;have Hv:=ZZ hv;have Hx:=ZZ hx;clear hv hx;go_wp2_with fail;go_ret;refine⟨_,rfl,?_,al (ab _ _) Hx.out⟩;rw [Hl.out.1 (by first|rfl|trivial)];exact Hv.out
 ·have t1:((l:Int) == 0)=false:=by simp;omega
  go_enter Tryz.func115,Tryz.ntmps115
  go_wp2_with fail;go_ret
  refine⟨_,rfl,?_,ab _ _⟩;have h3:¬ q.den=1:=fun h=>by have:=Hl.out.2 h;omega
  have h4:=H2.out.mono (ab w (.cells #[.bool (decide (q.num<0)),.slice A k c,.slice B l d] 25));unfold dn at h4;rw [if_neg h3] at h4;exact h4
end Go.Proofs.YtpgdefgdboijlaaGreatDoor
namespace Go.Proofs.YtpgdefgdboijlaaGreatDoor
open Go.RowKit
theorem setup2 (w:World) (x0 x1 x2 y0 y1 y2:Value):(∀W,Ext ((w.alloc (.cells #[x0,x1,x2] 25)).alloc (.cells #[y0,y1,y2] 25)) W→W.cell? ⟨w.heap.size,0,none⟩=some x0∧W.cell? ⟨w.heap.size,1,none⟩=some x1∧W.cell? ⟨w.heap.size,2,none⟩=some x2∧W.cell? ⟨w.heap.size+1,0,none⟩=some y0∧W.cell? ⟨w.heap.size+1,1,none⟩=some y1∧W.cell? ⟨w.heap.size+1,2,none⟩=some y2)∧(∀W,Ext (((w.alloc (.cells #[x0,x1,x2] 25)).alloc (.cells #[y0,y1,y2] 25)).alloc (.cells #[.bool false,.slice none 0 0,.slice none 0 0] 25)) W→W.heap[w.heap.size+1+1]?=some (.cells #[.bool false,.slice none 0 0,.slice none 0 0] 25 (0,0)))∧Ext w ((w.alloc (.cells #[x0,x1,x2] 25)).alloc (.cells #[y0,y1,y2] 25))∧Ext ((w.alloc (.cells #[x0,x1,x2] 25)).alloc (.cells #[y0,y1,y2] 25)) (((w.alloc (.cells #[x0,x1,x2] 25)).alloc (.cells #[y0,y1,y2] 25)).alloc (.cells #[.bool false,.slice none 0 0,.slice none 0 0] 25))∧w.heap.size≤w.heap.size+1+1∧((w.alloc (.cells #[x0,x1,x2] 25)).alloc (.cells #[y0,y1,y2] 25)).heap.size≤w.heap.size+1+1:=by
 have z0:(w.alloc (.cells #[x0,x1,x2] 25)).heap.size=w.heap.size+1:=by simp
 have z1:((w.alloc (.cells #[x0,x1,x2] 25)).alloc (.cells #[y0,y1,y2] 25)).heap.size=w.heap.size+1+1:=by simp
 have e0:Ext w (w.alloc (.cells #[x0,x1,x2] 25)):=ab _ _;generalize hw0:w.alloc (.cells #[x0,x1,x2] 25)=w0 at *;have e1:Ext w0 (w0.alloc (.cells #[y0,y1,y2] 25)):=ab _ _;refine⟨fun W h=>?_,fun W h=>?_,al e0 e1,ab _ _,by omega,Nat.le_of_eq z1⟩
 ·have r0:=row3 (hw0 ▸ (al e1 h):Ext (w.alloc (.cells #[x0,x1,x2] 25)) W)
  have r1:=row3 h;rw [z0] at r1;obtain⟨a,b,c,-⟩:=ai r0;obtain⟨a',b',c',-⟩:=ai r1;exact⟨a,b,c,a',b',c'⟩
 ·have r2:=row3 h
  rw [z1] at r2;exact r2
theorem Nm.put3 {W:World} {s:Bool} {A B:Option Addr} {k c l d g:Nat} {q:Rat} (h:Nm W (.agg #[.bool s,.slice A k c,.slice B l d]) q) (hg:W.heap[g]?=some (.cells #[.bool false,.slice none 0 0,.slice none 0 0] 25 (0,0))):Nm (((W.setCell ⟨g,0,none⟩ (.bool s)).setCell ⟨g,1,none⟩ (.slice A k c)).setCell ⟨g,2,none⟩ (.slice B l d)) (.agg #[.bool s,.slice A k c,.slice B l d]) q:=by
 obtain⟨vn,vd,e,h1,h2⟩:=h;exact⟨vn,vd,e,h1.put3 hg _ _ _,h2.put3 hg _ _ _⟩
theorem mul_q (M:Nat) (hM:M≤1099511627776) (vx vy:Value) (x y:Rat) (w:World) (hx:Nm w vx x) (hy:Nm w vy y) (bx:Bq M x) (by_:Bq M y):Calls Tryz.prog 29 #[vx,vy] w fun e w'=>∃v,e=.returned v∧Nm w' v (x*y)∧Ext w w':=by
 obtain⟨A,k,ca,B,l,cb,rfl,hxn,hxd,-,-⟩:=hx.form;obtain⟨C,m,cc,D,n,cd,rfl,hyn,hyd,-,-⟩:=hy.form;obtain⟨s1,s2,-,-,-,-⟩:=Bq.sm2 bx by_ hM;obtain⟨s3,s4⟩:=bx.sm hM;obtain⟨s5,s6⟩:=by_.sm hM;have D0:=ZZ (Nat.mul_pos x.den_pos y.den_pos);have Hx:=ZZ hx;have Hy:=ZZ hy;have Hxn:=ZZ hxn;have Hyn:=ZZ hyn;have S1:=ZZ s1;have S2:=ZZ s2;have S3:=ZZ s3;have S4:=ZZ s4;have S5:=ZZ s5;have S6:=ZZ s6;obtain⟨hS,hZ,hw1,hw2,hsz,hsz1⟩:=setup2 w (.bool (decide (x.num<0))) (.slice A k ca) (.slice B l cb) (.bool (decide (y.num<0))) (.slice C m cc) (.slice D n cd);have HS:=ZZ hS;have HZ:=ZZ hZ;have HW1:=ZZ hw1;have HW2:=ZZ hw2;have Hsz:=ZZ hsz;have Hsz1:=ZZ hsz1;clear hx hy hxn hxd hyn hyd s1 s2 s3 s4 s5 s6 hS hZ hw1 hw2 hsz hsz1 bx by_ hM;generalize hbx:decide (x.num<0)=b1 at *;generalize hby:decide (y.num<0)=b2 at *;have Hbx:=ZZ hbx
 have Hby:=ZZ hby
 clear hbx hby
 go_enter Tryz.func29,Tryz.ntmps29
 go_wp2_with fail;generalize World.alloc (World.alloc (World.alloc w (.cells #[.bool b1,.slice A k ca,.slice B l cb] _)) (.cells #[.bool b2,.slice C m cc,.slice D n cd] _)) _=W2 at *
 generalize World.alloc (World.alloc w (.cells #[.bool b1,.slice A k ca,.slice B l cb] _)) (.cells #[.bool b2,.slice C m cc,.slice D n cd] _)=W1 at *;generalize hg0:w.heap.size=g0 at *;have Hsz:=ZZ (show w.heap.size≤g0+1+1 by omega);clear hg0;have hx0:=ZZ (ac W2);have hww:=ZZ (al HW1.out HW2.out);have hS0:=HS.out W2 HW2.out
 go_region_held3 (fun W=>W.cell? ⟨g0,0,none⟩=some (.bool b1)∧W.cell? ⟨g0,1,none⟩=some (.slice A k ca)∧W.cell? ⟨g0,2,none⟩=some (.slice B l cb)∧W.cell? ⟨g0+1,0,none⟩=some (.bool b2)∧W.cell? ⟨g0+1,1,none⟩=some (.slice C m cc)∧W.cell? ⟨g0+1,2,none⟩=some (.slice D n cd)) (first
   | exact HS.out _ (ao (al HW2.out hx5.out) Hsz1.out _ _ _)
   | exact HS.out _ (al HW2.out hx5.out)
   | exact HS.out _ (al HW2.out hx4.out)
   | exact HS.out _ (al HW2.out hx3.out)
   | exact HS.out _ (al HW2.out hx2.out)
   | exact HS.out _ (al HW2.out hx1.out)
   | exact HS.out _ (al HW2.out hx0.out))
  (first
   |(go_at_call_of 116 A
     refine(mul_c _ _ _ _ _ (Hxn.out.mono (al hww.out hx0.out)) (Hyn.out.mono (al hww.out hx0.out)) S3.out S5.out).mono ?_;rintro e w3 ⟨v3,rfl,h3,k3⟩;obtain⟨P1,p1,c1,rfl⟩:=h3.form';have hx1:=ZZ (al hx0.out k3);have H3:=ZZ h3;clear h3 k3)
   |(go_at_call_of 115 B
     refine(under_c _ _ _ (Hx.out.mono (al hww.out hx1.out))).mono ?_;rintro e w4 ⟨v4,rfl,h4,k4⟩;obtain⟨P2,p2,c2,rfl⟩:=h4.form';have hx2:=ZZ (al hx1.out k4);have H3':=ZZ (H3.out.mono k4);have H4:=ZZ h4;clear h4 k4)
   |(go_at_call_of 115 D
     refine(under_c _ _ _ (Hy.out.mono (al hww.out hx2.out))).mono ?_;rintro e w5 ⟨v5,rfl,h5,k5⟩;obtain⟨P3,p3,c3,rfl⟩:=h5.form';have hx3:=ZZ (al hx2.out k5);have H3'':=ZZ (H3'.out.mono k5);have H4':=ZZ (H4.out.mono k5);have H5:=ZZ h5;clear h5 k5)
   |(go_at_call_of 116 P2
     refine(mul_c _ _ _ _ _ H4'.out H5.out S4.out S6.out).mono ?_;rintro e w6 ⟨v6,rfl,h6,k6⟩;obtain⟨P4,p4,c4,rfl⟩:=h6.form';have hx4:=ZZ (al hx3.out k6);have H3t:=ZZ (H3''.out.mono k6);have H6:=ZZ h6;clear h6 k6)
   |(go_at_call 103
     refine(reduced_c _ _ _ _ _ _ H3t.out H6.out S1.out S2.out D0.out).mono ?_;rintro e w7 ⟨v7,rfl,h7,k7⟩;obtain⟨P5,p5,c5,P6,p6,c6,h7e,-⟩:=h7.form;subst h7e;have hx5:=ZZ (al hx4.out k7);have H7:=ZZ h7;have hz:=HZ.out _ hx5.out;obtain⟨z0,z1,z2,f0,f1,f2⟩:=ai hz;have Hz:=ZZ hz;clear h7 k7 hz))
 go_wp2_with fail;refine bodyPost_ret (v:=.agg #[.bool (decide ((rat (!(b1 == b2)) (x.num.natAbs*y.num.natAbs) (x.den*y.den)).num<0)),.slice P5 p5 c5,.slice P6 p6 c6]) (by simp [results,Tryz.f29];go_simp) rfl ?_
 refine⟨_,rfl,?_,ao (al hww.out hx5.out) Hsz.out _ _ _⟩;have hr:=mul_parts x y;rw [Hbx.out,Hby.out] at hr;have hr':rat (!(b1 == b2)) (x.num.natAbs*y.num.natAbs) (x.den*y.den)=x*y:=hr;have h8:=H7.out.put3 Hz.out;rw [hr'] at h8 ⊢;exact h8
end Go.Proofs.YtpgdefgdboijlaaGreatDoor
namespace Go.Proofs.YtpgdefgdboijlaaGreatDoor
open Go.RowKit
theorem setup1 (w:World) (x0 x1 x2:Value):(∀W,Ext (w.alloc (.cells #[x0,x1,x2] 25)) W→W.cell? ⟨w.heap.size,0,none⟩=some x0∧W.cell? ⟨w.heap.size,1,none⟩=some x1∧W.cell? ⟨w.heap.size,2,none⟩=some x2)∧(∀W,Ext ((w.alloc (.cells #[x0,x1,x2] 25)).alloc (.cells #[.bool false,.slice none 0 0,.slice none 0 0] 25)) W→W.heap[w.heap.size+1]?=some (.cells #[.bool false,.slice none 0 0,.slice none 0 0] 25 (0,0)))∧Ext w (w.alloc (.cells #[x0,x1,x2] 25))∧Ext (w.alloc (.cells #[x0,x1,x2] 25)) ((w.alloc (.cells #[x0,x1,x2] 25)).alloc (.cells #[.bool false,.slice none 0 0,.slice none 0 0] 25))∧w.heap.size≤w.heap.size+1∧(w.alloc (.cells #[x0,x1,x2] 25)).heap.size≤w.heap.size+1:=by
 have z0:(w.alloc (.cells #[x0,x1,x2] 25)).heap.size=w.heap.size+1:=by simp
 refine⟨fun W h=>?_,fun W h=>?_,ab _ _,ab _ _,by omega,Nat.le_of_eq z0⟩
 ·obtain⟨a,b,c,-⟩:=ai (row3 h)
  exact⟨a,b,c⟩
 ·have r2:=row3 h
  rw [z0] at r2;exact r2
theorem setup2n (w:World) (x0 x1 x2 y0 y1 y2:Value):(∀W,Ext ((w.alloc (.cells #[x0,x1,x2] 25)).alloc (.cells #[y0,y1,y2] 25)) W→W.cell? ⟨w.heap.size,0,none⟩=some x0∧W.cell? ⟨w.heap.size,1,none⟩=some x1∧W.cell? ⟨w.heap.size,2,none⟩=some x2∧W.cell? ⟨w.heap.size+1,0,none⟩=some y0∧W.cell? ⟨w.heap.size+1,1,none⟩=some y1∧W.cell? ⟨w.heap.size+1,2,none⟩=some y2)∧Ext w ((w.alloc (.cells #[x0,x1,x2] 25)).alloc (.cells #[y0,y1,y2] 25)):=by
 have h:=setup2 w x0 x1 x2 y0 y1 y2;exact⟨h.1,h.2.2.1⟩
theorem dn_neg (x:Rat):dn (-x)=dn x:=by unfold dn;rw [Rat.neg_den]
theorem Nm.flip {W:World} {s:Bool} {vn vd:Value} {x:Rat} (h1:Wd W vn x.num.natAbs) (h2:Wd W vd (dn x)) (hs:s=decide ((-x).num<0)):Nm W (.agg #[.bool s,vn,vd]) (-x):=by
 subst hs;exact⟨_,_,rfl,by rw [Rat.neg_num,Int.natAbs_neg];exact h1,by rw [dn_neg];exact h2⟩
theorem Nm.same {W:World} {s:Bool} {vn vd:Value} {x:Rat} (h1:Wd W vn x.num.natAbs) (h2:Wd W vd (dn x)) (hs:s=decide (x.num<0)):Nm W (.agg #[.bool s,vn,vd]) x:=by
 subst hs;exact⟨_,_,rfl,h1,h2⟩
theorem ext2 (w:World) (a b:Obj):Ext w ((w.alloc a).alloc b):=al (ab _ _) (ab _ _)
theorem ret_i {a b:Int} (h:a=b):Ending.returned (.int .i64 b)=.returned (.int .i64 a):=by rw [h]
def absQ (x:Rat):Rat:=if x.num<0 then -x else x
theorem neg_q (vx:Value) (x:Rat) (w:World) (hx:Nm w vx x):Calls Tryz.prog 47 #[vx] w fun e w'=>∃v,e=.returned v∧Nm w' v (-x)∧Ext w w':=by
 obtain⟨A,k,ca,B,l,cb,rfl,hxn,hxd,hk,-⟩:=hx.form;have Hxn:=ZZ hxn;have Hxd:=ZZ hxd;have Hk:=ZZ hk;clear hx hxn hxd hk
 rcases hb:decide (x.num<0) with _|_
 ·have Hb:=ZZ (show ¬ x.num<0 by simpa using hb)
  clear hb
  rcases Nat.eq_zero_or_pos k with h0|h0
  ·subst h0
   go_enter Tryz.func47,Tryz.ntmps47
   go_wp2_with fail;refine bodyPost_ret (v:=.agg #[.bool false,.slice A 0 ca,.slice B l cb]) (by simp [results,Tryz.f47];go_simp) rfl ?_
   have e:x=0:=Hk.out.1 (by first|rfl|trivial);refine⟨_,rfl,Nm.flip (Hxn.out.mono (ext2 _ _ _)) (Hxd.out.mono (ext2 _ _ _)) ?_,ext2 _ _ _⟩;rw [e];rfl
  ·have t1:((0:Int)<(k:Int)):=by omega
   have hk0:¬ k=0:=by omega
   have Hk0:=ZZ hk0;clear hk0
   go_enter Tryz.func47,Tryz.ntmps47
   go_wp2_with fail;refine bodyPost_ret (v:=.agg #[.bool true,.slice A k ca,.slice B l cb]) (by simp [results,Tryz.f47];go_simp) rfl ?_
   have e:x.num≠0:=fun e=>Hk0.out (Hk.out.2 (Rat.num_eq_zero.1 e));have hb:=Hb.out;refine⟨_,rfl,Nm.flip (Hxn.out.mono (ext2 _ _ _)) (Hxd.out.mono (ext2 _ _ _)) ?_,ext2 _ _ _⟩;rw [Rat.neg_num];symm;rw [decide_eq_true_eq];omega
 ·have Hb:=ZZ (show x.num<0 by simpa using hb)
  clear hb
  go_enter Tryz.func47,Tryz.ntmps47
  go_wp2_with fail;refine bodyPost_ret (v:=.agg #[.bool false,.slice A k ca,.slice B l cb]) (by simp [results,Tryz.f47];go_simp) rfl ?_
  have hb:=Hb.out;refine⟨_,rfl,Nm.flip (Hxn.out.mono (ext2 _ _ _)) (Hxd.out.mono (ext2 _ _ _)) ?_,ext2 _ _ _⟩;rw [Rat.neg_num];symm;rw [decide_eq_false_iff_not];omega
theorem abs_q (vx:Value) (x:Rat) (w:World) (hx:Nm w vx x):Calls Tryz.prog 64 #[vx] w fun e w'=>∃v,e=.returned v∧Nm w' v (absQ x)∧Ext w w':=by
 obtain⟨A,k,ca,B,l,cb,rfl,hxn,hxd,hk,-⟩:=hx.form;have Hxn:=ZZ hxn;have Hxd:=ZZ hxd;clear hx hxn hxd hk;generalize hb:decide (x.num<0)=b;have Hb:=ZZ hb;clear hb
 go_enter Tryz.func64,Tryz.ntmps64
 go_wp2_with fail;refine bodyPost_ret (v:=.agg #[.bool false,.slice A k ca,.slice B l cb]) (by simp [results,Tryz.f64];go_simp) rfl ?_
 refine⟨_,rfl,?_,ext2 _ _ _⟩;unfold absQ
 split
 ·rename_i h
  exact Nm.flip (Hxn.out.mono (ext2 _ _ _)) (Hxd.out.mono (ext2 _ _ _)) (by rw [Rat.neg_num];symm;rw [decide_eq_false_iff_not];omega)
 ·rename_i h
  exact Nm.same (Hxn.out.mono (ext2 _ _ _)) (Hxd.out.mono (ext2 _ _ _)) (by symm;rw [decide_eq_false_iff_not];exact h)
theorem sign_q (vx:Value) (x:Rat) (w:World) (hx:Nm w vx x):Calls Tryz.prog 52 #[vx] w fun e w'=>e=.returned (.int .i64 x.num.sign)∧Ext w w':=by
 obtain⟨A,k,ca,B,l,cb,rfl,hxn,hxd,hk,-⟩:=hx.form;have Hk:=ZZ hk;clear hx hxn hxd hk
 rcases Nat.eq_zero_or_pos k with h0|h0
 ·subst h0
  generalize hb:decide (x.num<0)=b;clear hb
  go_enter Tryz.func52,Tryz.ntmps52
  go_wp2_with fail;go_ret
  have e:x=0:=Hk.out.1 (by first|rfl|trivial);exact⟨ret_i (by rw [e];rfl),ab _ _⟩
 ·have t1:((k:Int) == 0)=false:=by simp;omega
  have Hk0:=ZZ (show ¬ k=0 by omega)
  rcases hb:decide (x.num<0) with _|_
  ·have Hb:=ZZ (show ¬ x.num<0 by simpa using hb)
   clear hb
   go_enter Tryz.func52,Tryz.ntmps52
   go_wp2_with fail;go_ret
   have e:x.num≠0:=fun e=>Hk0.out (Hk.out.2 (Rat.num_eq_zero.1 e));have hb:=Hb.out;exact⟨ret_i (Int.sign_eq_one_of_pos (by omega)),ab _ _⟩
  ·have Hb:=ZZ (show x.num<0 by simpa using hb)
   clear hb
   go_enter Tryz.func52,Tryz.ntmps52
   go_wp2_with fail;go_ret
   exact⟨ret_i (Int.sign_eq_neg_one_of_neg Hb.out),ab _ _⟩
end Go.Proofs.YtpgdefgdboijlaaGreatDoor
